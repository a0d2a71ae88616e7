/- relay: Turn. -/
import Derived.Test.YtlcifnejpejhmaaRelK
namespace Go.Proofs.Ytlcifnejpejhmaa.K
open Go.RowKit Go.Proofs.YtlcifnejpejhmaaW.PrintWords Go.Proofs.YtlcifnejpejhmaaW.PrintLast Go.Proofs.YtlcifnejpejhmaaW.PrintMore
set_option linter.unusedVariables false
set_option linter.unusedSimpArgs false

set_option maxRecDepth 100000 in
set_option maxHeartbeats 8000000 in
theorem turn1_no (g gq i jj bi ba bb : Nat) (at_ y : Int) (col : Nat → Nat) (vw : List It) (qs : List (List It)) (b0 : Nat) (w : World) (hR : Rel w b0 g gq col vw qs) (hi : i < qs.length) (hjl : jj < qs[i].length) (hn : at_ < 0 ∨ (qs[i][jj].f0.length : Int) ≤ at_ ∨ qs[i][jj].f1 = true)
    (hbi : w.heap[bi]? = some (.cells #[.int .i64 jj] 3 (0, 0))) (hba : w.heap[ba]? = some (.cells #[.int .i64 at_] 3 (0, 0))) (hbb : w.heap[bb]? = some (.cells #[.int .u8 y] 5 (0, 0))) :
    Calls Try.prog 72 #[.pointer (some ⟨gq, i, none⟩), .pointer (some ⟨bi, 0, none⟩), .pointer (some ⟨ba, 0, none⟩), .pointer (some ⟨bb, 0, none⟩)] w fun e w' => e = .returned (.bool false) ∧ Drawn0 w w' := by
  obtain ⟨cs, h3, h4, h5⟩ := hR.qb
  obtain ⟨v, e, r⟩ := h5 i hi
  obtain ⟨gv, cap, vb, rfl, hcap, hv0, hv1, hb⟩ := qr_item r jj hjl
  obtain ⟨Ab, cb, rfl, hcb, hCb⟩ := Kd.R_reads hb
  have c0 : w.cell? ⟨gq, i, none⟩ = some (.slice (some ⟨gv, 0, none⟩) qs[i].length cap) := (blk_cell h3 i).trans e
  have ci : w.cell? ⟨bi, 0, none⟩ = some (.int .i64 jj) := (blk_cell hbi 0).trans rfl
  have ca : w.cell? ⟨ba, 0, none⟩ = some (.int .i64 at_) := (blk_cell hba 0).trans rfl
  have hj1 : (jj : Int) < qs[i].length := by omega
  have hj0 : (0 : Int) ≤ jj := by omega
  clear h3 h4 h5 e r hb hR hbi hba hbb hCb hcb
  generalize qs[i][jj] = x at hn hv0 hv1
  generalize qs[i].length = n at c0 hj1 hjl hcap
  obtain ⟨m, hm⟩ : ∃ m, x.f0.length = m := ⟨_, rfl⟩
  rw [hm] at hn hv0
  clear hm
  have hcap2 : (n : Int) ≤ cap := by omega
  by_cases h0 : at_ < 0
  · go_enter Try.func72, Try.ntmps72
    go_wp2
    go_quiet (fail)
    go_wp2
    go_quiet (fail)
    go_wp2
    go_ret
    exact ⟨rfl, by repeat (first | exact Drawn0.refl _ | apply Drawn0.step)⟩
  · by_cases h1 : (m : Int) ≤ at_
    · have h0' : decide (at_ < 0) = false := decide_eq_false h0
      go_enter Try.func72, Try.ntmps72
      go_wp2
      go_quiet (fail)
      go_wp2
      go_quiet (fail)
      go_wp2
      go_ret
      exact ⟨rfl, by repeat (first | exact Drawn0.refl _ | apply Drawn0.step)⟩
    · have h0' : decide (at_ < 0) = false := decide_eq_false h0
      have h1' : decide ((m : Int) ≤ at_) = false := decide_eq_false h1
      have h2 : x.f1 = true := by
        rcases hn with h | h | h
        · exact absurd h h0
        · exact absurd h h1
        · exact h
      rw [h2] at hv1
      go_enter Try.func72, Try.ntmps72
      go_wp2
      go_quiet (fail)
      go_wp2
      go_quiet (fail)
      go_wp2
      go_ret
      exact ⟨rfl, by repeat (first | exact Drawn0.refl _ | apply Drawn0.step)⟩

set_option maxRecDepth 100000 in
set_option maxHeartbeats 4000000 in
theorem rdo_turn_ok (g gq i bi ba bb a : Nat) (col : Nat → Nat) (vw : List It) (qs : List (List It)) (l : List Int) (y : Int) (w0 w : World) (hR : Rel w w0.heap.size g gq col vw qs) (hi : i < qs.length) (hq : qs[i] = [⟨l, false⟩]) (hjl : 0 < qs[i].length) (ha : a < l.length) (hl : l.length ≤ 100000)
    (hbi : w.heap[bi]? = some (.cells #[.int .i64 0] 3 (0, 0))) (hba : w.heap[ba]? = some (.cells #[.int .i64 a] 3 (0, 0))) (hbb : w.heap[bb]? = some (.cells #[.int .u8 y] 5 (0, 0))) (hB : Below w0.heap.size w0 w) :
    Calls Try.prog 60 #[.pointer (some ⟨g, 0, none⟩), .int .i64 i, .int .i64 0, .func (.func 72) #[] #[.pointer (some ⟨bi, 0, none⟩), .pointer (some ⟨ba, 0, none⟩), .pointer (some ⟨bb, 0, none⟩)]] w fun e w' => e = .returned (.bool true) ∧
      (∃ col', Rel w' w0.heap.size g gq col' vw (qs.set i [⟨l.set a (bits .xor .u8 (rd l a) y), true⟩])) ∧ Below w0.heap.size w0 w' := by
  obtain ⟨vv, h1, _⟩ := hR.blk
  obtain ⟨cs, h3, h4, h5⟩ := hR.qb
  obtain ⟨v, e, r⟩ := h5 i hi
  obtain ⟨A, c, rfl, hc, hC⟩ := Kd.R_reads r
  have c0 : w.cell? ⟨gq, i, none⟩ = some (.slice A qs[i].length c) := (blk_cell h3 i).trans e
  have C0 := Aside0.mk c0
  have HI := Aside0.mk hi
  have H1 := Aside0.mk h1
  have HD : Aside0 (decide ((0 : Int) ≤ (0 : Int) ∧ (0 : Int) < qs[i].length) = true) := ⟨decide_eq_true ⟨by omega, by omega⟩⟩
  clear h1 h3 h4 h5 e r hC c0 hc
  go_enter Try.func60, Try.ntmps60
  go_wp2_with (first
    | ((with_reducible refine gate_dst (N := 12) rfl ?_); go_must (((try (refine gate_guard (by rfl) ?_; dsimp only)); refine goesL_ (some 12) rfl rfl Try.func58 (by kernel_rfl) rfl #[.pointer (some ⟨g, 0, none⟩), .int .i64 i] rfl ?hA ?_; (case hA => ((try simp only [List.map_toArray, List.map_cons, List.map_nil]); first | done | rfl)); refine (of_in g gq _ i vv _ H1.out HI.out).mono ?_; rintro e w12 ⟨rfl, ⟨m12, rfl⟩⟩; refine ⟨_, rfl, ?_⟩; skip)))
    | ((with_reducible refine gate_dst (N := 18) rfl ?_); go_must (((try (refine gate_guard (by rfl) ?_; dsimp only)); refine goesL_ (some 18) rfl rfl Try.func76 (by kernel_rfl) rfl #[.pointer (some ⟨gq, i, none⟩), .int .i64 0] rfl ?hA ?_; (case hA => ((try simp only [List.map_toArray, List.map_cons, List.map_nil]); first | done | rfl)); refine (qhas_calls gq i _ c A 0 (w.drewN m12) (by exact C0.out)).mono ?_; rintro e w18 ⟨rfl, ⟨m18, rfl⟩⟩; refine ⟨_, rfl, ?_⟩; rw [HD.out])))
    | (go_at_call 72; go_must ((refine (turn1_ok g gq i bi ba bb a col vw qs l y w0 (w.drewN (m12 + m18)) (hR.drewN (m12 + m18)) HI.out hq ha hl (by exact hbi) (by exact hba) (by exact hbb) (pw_below_drewN hB (m12 + m18))).mono ?_; rintro e w23 ⟨rfl, h1, h2⟩; have K1 := Aside0.mk h1; have K2 := Aside0.mk h2; clear h1 h2))))
  go_ret
  exact ⟨rfl, K1.out, K2.out⟩

set_option maxRecDepth 100000 in
set_option maxHeartbeats 4000000 in
theorem rdo_turn_no (g gq i jj bi ba bb : Nat) (at_ y : Int) (col : Nat → Nat) (vw : List It) (qs : List (List It)) (b0 : Nat) (w : World) (hR : Rel w b0 g gq col vw qs) (hi : i < qs.length) (hjl : jj < qs[i].length) (hn : at_ < 0 ∨ (qs[i][jj].f0.length : Int) ≤ at_ ∨ qs[i][jj].f1 = true)
    (hbi : w.heap[bi]? = some (.cells #[.int .i64 jj] 3 (0, 0))) (hba : w.heap[ba]? = some (.cells #[.int .i64 at_] 3 (0, 0))) (hbb : w.heap[bb]? = some (.cells #[.int .u8 y] 5 (0, 0))) :
    Calls Try.prog 60 #[.pointer (some ⟨g, 0, none⟩), .int .i64 i, .int .i64 jj, .func (.func 72) #[] #[.pointer (some ⟨bi, 0, none⟩), .pointer (some ⟨ba, 0, none⟩), .pointer (some ⟨bb, 0, none⟩)]] w fun e w' => e = .returned (.bool false) ∧ Drawn0 w w' := by
  obtain ⟨vv, h1, _⟩ := hR.blk
  obtain ⟨cs, h3, h4, h5⟩ := hR.qb
  obtain ⟨v, e, r⟩ := h5 i hi
  obtain ⟨A, c, rfl, hc, hC⟩ := Kd.R_reads r
  have c0 : w.cell? ⟨gq, i, none⟩ = some (.slice A qs[i].length c) := (blk_cell h3 i).trans e
  have C0 := Aside0.mk c0
  have HI := Aside0.mk hi
  have H1 := Aside0.mk h1
  have HD : Aside0 (decide ((0 : Int) ≤ (jj : Int) ∧ (jj : Int) < qs[i].length) = true) := ⟨decide_eq_true ⟨by omega, by omega⟩⟩
  clear h1 h3 h4 h5 e r hC c0 hc
  go_enter Try.func60, Try.ntmps60
  go_wp2_with (first
    | ((with_reducible refine gate_dst (N := 12) rfl ?_); go_must (((try (refine gate_guard (by rfl) ?_; dsimp only)); refine goesL_ (some 12) rfl rfl Try.func58 (by kernel_rfl) rfl #[.pointer (some ⟨g, 0, none⟩), .int .i64 i] rfl ?hA ?_; (case hA => ((try simp only [List.map_toArray, List.map_cons, List.map_nil]); first | done | rfl)); refine (of_in g gq _ i vv _ H1.out HI.out).mono ?_; rintro e w12 ⟨rfl, ⟨m12, rfl⟩⟩; refine ⟨_, rfl, ?_⟩; skip)))
    | ((with_reducible refine gate_dst (N := 18) rfl ?_); go_must (((try (refine gate_guard (by rfl) ?_; dsimp only)); refine goesL_ (some 18) rfl rfl Try.func76 (by kernel_rfl) rfl #[.pointer (some ⟨gq, i, none⟩), .int .i64 jj] rfl ?hA ?_; (case hA => ((try simp only [List.map_toArray, List.map_cons, List.map_nil]); first | done | rfl)); refine (qhas_calls gq i _ c A jj (w.drewN m12) (by exact C0.out)).mono ?_; rintro e w18 ⟨rfl, ⟨m18, rfl⟩⟩; refine ⟨_, rfl, ?_⟩; rw [HD.out])))
    | (go_at_call 72; go_must ((refine (turn1_no g gq i jj bi ba bb at_ y col vw qs b0 (w.drewN (m12 + m18)) (hR.drewN (m12 + m18)) HI.out hjl hn (by exact hbi) (by exact hba) (by exact hbb)).mono ?_; rintro e w23 ⟨rfl, ⟨m23, rfl⟩⟩; skip))))
  go_ret
  exact ⟨rfl, by repeat (first | exact Drawn0.refl _ | apply Drawn0.step)⟩

set_option maxRecDepth 100000 in
set_option maxHeartbeats 4000000 in
theorem rturn_ok (g gq i a : Nat) (col : Nat → Nat) (vw : List It) (qs : List (List It)) (l : List Int) (y : Int) (w0 w : World) (hR : Rel w w0.heap.size g gq col vw qs) (hi : i < qs.length) (hq : qs[i] = [⟨l, false⟩]) (ha : a < l.length) (hl : l.length ≤ 100000) (hB : Below w0.heap.size w0 w) :
    Calls Try.prog 32 #[.pointer (some ⟨g, 0, none⟩), .int .i64 i, .int .i64 0, .int .i64 a, .int .u8 y] w fun e w' => e = .returned (.bool true) ∧
      (∃ col', Rel w' w0.heap.size g gq col' vw (qs.set i [⟨l.set a (bits .xor .u8 (rd l a) y), true⟩])) ∧ Below w0.heap.size w0 w' := by
  have hmf : ∀ (fn : Fn) (first cap : Array Value) (w : World), (Instr.makeFunc fn first cap).run Try.prog w = .ok (.func fn first cap) w := fun _ _ _ _ => rfl
  have b1 : ((((w.alloc (.cells #[.int .i64 0] 3)).alloc (.cells #[.int .i64 a] 3)).alloc (.cells #[.int .u8 y] 5))).heap[w.heap.size]? = some (.cells #[.int .i64 0] 3 (0, 0)) := blk_alloc (blk_alloc (blk_new w _) _) _
  have b2 : ((((w.alloc (.cells #[.int .i64 0] 3)).alloc (.cells #[.int .i64 a] 3)).alloc (.cells #[.int .u8 y] 5))).heap[w.heap.size + 1]? = some (.cells #[.int .i64 a] 3 (0, 0)) := blk_alloc (by simpa using blk_new (w.alloc (.cells #[.int .i64 0] 3)) (.cells #[.int .i64 a] 3)) _
  have b3 : ((((w.alloc (.cells #[.int .i64 0] 3)).alloc (.cells #[.int .i64 a] 3)).alloc (.cells #[.int .u8 y] 5))).heap[w.heap.size + 2]? = some (.cells #[.int .u8 y] 5 (0, 0)) := by simpa using blk_new ((w.alloc (.cells #[.int .i64 0] 3)).alloc (.cells #[.int .i64 a] 3)) (.cells #[.int .u8 y] 5)
  have hW : Below w.heap.size w ((((w.alloc (.cells #[.int .i64 0] 3)).alloc (.cells #[.int .i64 a] 3)).alloc (.cells #[.int .u8 y] 5))) := below_alloc (below_alloc (below_alloc (Below.refl _ _) _) _) _
  have B1 := Aside0.mk b1
  have B2 := Aside0.mk b2
  have B3 := Aside0.mk b3
  have HW := Aside0.mk hW
  clear b1 b2 b3 hW
  go_enter Try.func32, Try.ntmps32
  go_wp2_with (first
    | (go_at_call 60; go_must ((refine (rdo_turn_ok g gq i w.heap.size (w.heap.size + 1) (w.heap.size + 2) a col vw qs l y w0 _ (hR.below HW.out) hi hq (by rw [hq]; simp) ha hl B1.out B2.out B3.out (below_step hB HW.out)).mono ?_; rintro e w15 ⟨rfl, h1, h2⟩; have K1 := Aside0.mk h1; have K2 := Aside0.mk h2; clear h1 h2))))
  go_ret
  exact ⟨rfl, K1.out, K2.out⟩

set_option maxRecDepth 100000 in
set_option maxHeartbeats 4000000 in
theorem rturn_no (g gq i jj : Nat) (at_ y : Int) (col : Nat → Nat) (vw : List It) (qs : List (List It)) (b0 : Nat) (w : World) (hR : Rel w b0 g gq col vw qs) (hi : i < qs.length) (hjl : jj < qs[i].length) (hn : at_ < 0 ∨ (qs[i][jj].f0.length : Int) ≤ at_ ∨ qs[i][jj].f1 = true) :
    Calls Try.prog 32 #[.pointer (some ⟨g, 0, none⟩), .int .i64 i, .int .i64 jj, .int .i64 at_, .int .u8 y] w fun e w' => e = .returned (.bool false) ∧ Below w.heap.size w w' := by
  have hmf : ∀ (fn : Fn) (first cap : Array Value) (w : World), (Instr.makeFunc fn first cap).run Try.prog w = .ok (.func fn first cap) w := fun _ _ _ _ => rfl
  have b1 : ((((w.alloc (.cells #[.int .i64 (jj : Nat)] 3)).alloc (.cells #[.int .i64 at_] 3)).alloc (.cells #[.int .u8 y] 5))).heap[w.heap.size]? = some (.cells #[.int .i64 (jj : Nat)] 3 (0, 0)) := blk_alloc (blk_alloc (blk_new w _) _) _
  have b2 : ((((w.alloc (.cells #[.int .i64 (jj : Nat)] 3)).alloc (.cells #[.int .i64 at_] 3)).alloc (.cells #[.int .u8 y] 5))).heap[w.heap.size + 1]? = some (.cells #[.int .i64 at_] 3 (0, 0)) := blk_alloc (by simpa using blk_new (w.alloc (.cells #[.int .i64 (jj : Nat)] 3)) (.cells #[.int .i64 at_] 3)) _
  have b3 : ((((w.alloc (.cells #[.int .i64 (jj : Nat)] 3)).alloc (.cells #[.int .i64 at_] 3)).alloc (.cells #[.int .u8 y] 5))).heap[w.heap.size + 2]? = some (.cells #[.int .u8 y] 5 (0, 0)) := by simpa using blk_new ((w.alloc (.cells #[.int .i64 (jj : Nat)] 3)).alloc (.cells #[.int .i64 at_] 3)) (.cells #[.int .u8 y] 5)
  have hW : Below w.heap.size w ((((w.alloc (.cells #[.int .i64 (jj : Nat)] 3)).alloc (.cells #[.int .i64 at_] 3)).alloc (.cells #[.int .u8 y] 5))) := below_alloc (below_alloc (below_alloc (Below.refl _ _) _) _) _
  have B1 := Aside0.mk b1
  have B2 := Aside0.mk b2
  have B3 := Aside0.mk b3
  have HW := Aside0.mk hW
  clear b1 b2 b3 hW
  go_enter Try.func32, Try.ntmps32
  go_wp2_with (first
    | (go_at_call 60; go_must ((refine (rdo_turn_no g gq i jj w.heap.size (w.heap.size + 1) (w.heap.size + 2) at_ y col vw qs b0 _ (hR.below HW.out) hi hjl hn B1.out B2.out B3.out).mono ?_; rintro e w15 ⟨rfl, ⟨m15, rfl⟩⟩; skip))))
  go_ret
  exact ⟨rfl, pw_below_drewN HW.out _⟩
end Go.Proofs.Ytlcifnejpejhmaa.K

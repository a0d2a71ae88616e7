/- relay: Next. -/
import Derived.Test.YtlcifnejpejhmaaRelE
namespace Go.Proofs.Ytlcifnejpejhmaa.K
open Go.RowKit Go.Proofs.YtlcifnejpejhmaaW.PrintWords Go.Proofs.YtlcifnejpejhmaaW.PrintLast Go.Proofs.YtlcifnejpejhmaaW.PrintMore
set_option linter.unusedVariables false
set_option linter.unusedSimpArgs false

theorem FrB.set {w w1 : World} (h : FrB w w1) {k T : Nat} {cs : Array Value} (hk : w1.heap[k]? = some (.cells cs T (0, 0))) (hT : T ≠ 5) (j : Nat) (u : Value) : FrB w (w1.setCell ⟨k, j, none⟩ u) := by
  intro m cells f hm
  have h1 := h m cells f hm
  have hmk : m ≠ k := by
    rintro rfl
    rw [hk] at h1
    injection h1 with h1
    injection h1 with _ h1
    exact hT h1
  rw [Below.heap_setCell _ _ _ _ hmk]
  exact h1

set_option maxRecDepth 100000 in
set_option maxHeartbeats 4000000 in
theorem next1_calls (g gq i bx : Nat) (col : Nat → Nat) (vw : List It) (qs : List (List It)) (u : Value) (w0 w : World) (hR : Rel w w0.heap.size g gq col vw qs) (hi : i < qs.length) (hne : 0 < qs[i].length) (hq : qs[i].length ≤ 100000)
    (hbx : w.heap[bx]? = some (.cells #[u] 45 (0, 0))) (hbg : w0.heap.size ≤ bx) (hB : Below w0.heap.size w0 w) :
    Calls Try.prog 61 #[.pointer (some ⟨gq, i, none⟩), .pointer (some ⟨bx, 0, none⟩)] w fun e w' => e = .returned (.bool true) ∧
      ∃ vb, Kd.R (Kd.int .u8) 5 w' w0.heap.size (fun _ => True) vb qs[i][0].f0 ∧ w'.heap[bx]? = some (.cells #[vb] 45 (0, 0)) ∧ (∃ col', Rel w' w0.heap.size g gq col' vw (qs.set i (qs[i].eraseIdx 0))) ∧ Below w0.heap.size w0 w' ∧ FrB w w' := by
  obtain ⟨cs, h3, h4, h5⟩ := hR.qb
  obtain ⟨v, e, r⟩ := h5 i hi
  have HR := Aside0.mk hR
  have HI := Aside0.mk hi
  have HNE := Aside0.mk hne
  have HQ := Aside0.mk hq
  have HBX := Aside0.mk hbx
  have HBG := Aside0.mk hbg
  have HB := Aside0.mk hB
  have H3 := Aside0.mk h3
  have HE := Aside0.mk e
  have Hr := Aside0.mk r
  have hgb : bx ≠ gq := blk_ne hbx h3 (by decide)
  clear h3 h4 h5 e r hbg hB
  go_enter Try.func61, Try.ntmps61
  go_wp2_with (first
    | (go_at_call 62; go_must ((refine (qcut_calls gq i 97 (i + 1) col cs v 0 qs[i] w0 w H3.out HE.out (by decide) Hr.out HNE.out HB.out HR.out.ge.2 HQ.out).mono ?_; rintro e w5 ⟨vb, v', rfl, ho, hb5, hr5, hB5, hF5⟩; obtain ⟨Ab, cb, rfl, hcb, hCb⟩ := Kd.R_reads ho; clear hcb hCb; have HO := Aside0.mk ho; have HR5 := Aside0.mk (HR.out.turnQ HI.out H3.out hb5 hr5 hF5); have HF5 : Aside0 (FrB w w5) := ⟨hF5.bytes H3.out (by decide)⟩; have hx5 := hF5.2.2 bx _ _ _ HBX.out (by decide) hgb; have f5 := blk_frozen hx5 0; have c5 := (blk_cell hx5 0).trans rfl; have HX5 := Aside0.mk hx5; have HB5 := Aside0.mk hB5; clear ho hb5 hr5 hB5 hF5 hx5))))
  go_ret
  refine ⟨rfl, _, Kd.R_set HO.out HX5.out (by decide) 0 _, by simpa using blk_set HX5.out 0 (.slice Ab qs[i][0].f0.length cb), ⟨col, HR5.out.far HX5.out (by decide) 0 _⟩, HB5.out.setCell HBG.out _, ?_⟩
  intro k cells f hk
  have hkb : k ≠ bx := by
    rintro rfl
    rw [HBX.out] at hk
    injection hk with hk
    injection hk with _ hk
    exact absurd hk (by decide)
  rw [Below.heap_setCell _ _ _ _ hkb]
  exact HF5.out k cells f hk

set_option maxRecDepth 100000 in
set_option maxHeartbeats 4000000 in
theorem rdo_next (g gq i bx : Nat) (col : Nat → Nat) (vw : List It) (qs : List (List It)) (u : Value) (w0 w : World) (hR : Rel w w0.heap.size g gq col vw qs) (hi : i < qs.length) (hne : 0 < qs[i].length) (hq : qs[i].length ≤ 100000)
    (hbx : w.heap[bx]? = some (.cells #[u] 45 (0, 0))) (hbg : w0.heap.size ≤ bx) (hB : Below w0.heap.size w0 w) :
    Calls Try.prog 60 #[.pointer (some ⟨g, 0, none⟩), .int .i64 i, .int .i64 0, .func (.func 61) #[] #[.pointer (some ⟨bx, 0, none⟩)]] w fun e w' => e = .returned (.bool true) ∧
      ∃ vb, Kd.R (Kd.int .u8) 5 w' w0.heap.size (fun _ => True) vb qs[i][0].f0 ∧ w'.heap[bx]? = some (.cells #[vb] 45 (0, 0)) ∧ (∃ col', Rel w' w0.heap.size g gq col' vw (qs.set i (qs[i].eraseIdx 0))) ∧ Below w0.heap.size w0 w' ∧ FrB w w' := by
  obtain ⟨vv, h1, _⟩ := hR.blk
  obtain ⟨cs, h3, h4, h5⟩ := hR.qb
  obtain ⟨v, e, r⟩ := h5 i hi
  obtain ⟨A, c, rfl, hc, hC⟩ := Kd.R_reads r
  have c0 : w.cell? ⟨gq, i, none⟩ = some (.slice A qs[i].length c) := (blk_cell h3 i).trans e
  have C0 := Aside0.mk c0
  have HR := Aside0.mk hR
  have HI := Aside0.mk hi
  have HNE := Aside0.mk hne
  have HQ := Aside0.mk hq
  have HBX := Aside0.mk hbx
  have HBG := Aside0.mk hbg
  have HB := Aside0.mk hB
  have H1 := Aside0.mk h1
  have HD : Aside0 (decide ((0 : Int) ≤ 0 ∧ (0 : Int) < qs[i].length) = true) := ⟨decide_eq_true ⟨by omega, by omega⟩⟩
  clear h1 h3 h4 h5 e r hbg hB hC c0 hbx hR hc
  go_enter Try.func60, Try.ntmps60
  go_wp2_with (first
    | ((with_reducible refine gate_dst (N := 12) rfl ?_); go_must (((try (refine gate_guard (by rfl) ?_; dsimp only)); refine goesL_ (some 12) rfl rfl Try.func58 (by kernel_rfl) rfl #[.pointer (some ⟨g, 0, none⟩), .int .i64 i] rfl ?hA ?_; (case hA => ((try simp only [List.map_toArray, List.map_cons, List.map_nil]); first | done | rfl)); refine (of_in g gq _ i vv _ H1.out HI.out).mono ?_; rintro e w12 ⟨rfl, ⟨m12, rfl⟩⟩; refine ⟨_, rfl, ?_⟩; skip)))
    | ((with_reducible refine gate_dst (N := 18) rfl ?_); go_must (((try (refine gate_guard (by rfl) ?_; dsimp only)); refine goesL_ (some 18) rfl rfl Try.func76 (by kernel_rfl) rfl #[.pointer (some ⟨gq, i, none⟩), .int .i64 0] rfl ?hA ?_; (case hA => ((try simp only [List.map_toArray, List.map_cons, List.map_nil]); first | done | rfl)); refine (qhas_calls gq i _ c A 0 (w.drewN m12) (by exact C0.out)).mono ?_; rintro e w18 ⟨rfl, ⟨m18, rfl⟩⟩; refine ⟨_, rfl, ?_⟩; rw [HD.out])))
    | (go_at_call 61; go_must ((refine (next1_calls g gq i bx col vw qs u w0 (w.drewN (m12 + m18)) (HR.out.drewN (m12 + m18)) HI.out HNE.out HQ.out (by exact HBX.out) HBG.out (pw_below_drewN HB.out (m12 + m18))).mono ?_; rintro e w23 ⟨rfl, vb, h1, h2, h3, h4, h5⟩; have K1 := Aside0.mk h1; have K2 := Aside0.mk h2; have K3 := Aside0.mk h3; have K4 := Aside0.mk h4; have K5 : Aside0 (FrB w w23) := ⟨h5⟩; clear h1 h2 h3 h4 h5))))
  go_ret
  exact ⟨rfl, vb, K1.out, K2.out, K3.out, K4.out, K5.out⟩

set_option maxRecDepth 100000 in
set_option maxHeartbeats 4000000 in
theorem rdo_next_none (g gq i : Nat) (bx : Nat) (col : Nat → Nat) (vw : List It) (qs : List (List It)) (b0 : Nat) (w : World) (hR : Rel w b0 g gq col vw qs) (hi : i < qs.length) (hne : qs[i].length = 0) :
    Calls Try.prog 60 #[.pointer (some ⟨g, 0, none⟩), .int .i64 i, .int .i64 0, .func (.func 61) #[] #[.pointer (some ⟨bx, 0, none⟩)]] w fun e w' => e = .returned (.bool false) ∧ Drawn0 w w' := by
  obtain ⟨vv, h1, _⟩ := hR.blk
  obtain ⟨cs, h3, h4, h5⟩ := hR.qb
  obtain ⟨v, e, r⟩ := h5 i hi
  obtain ⟨A, c, rfl, hc, hC⟩ := Kd.R_reads r
  have c0 : w.cell? ⟨gq, i, none⟩ = some (.slice A qs[i].length c) := (blk_cell h3 i).trans e
  have C0 := Aside0.mk c0
  have HI := Aside0.mk hi
  have H1 := Aside0.mk h1
  have HD : Aside0 (decide ((0 : Int) ≤ 0 ∧ (0 : Int) < qs[i].length) = false) := ⟨decide_eq_false (by omega)⟩
  clear h1 h3 h4 h5 e r hC c0 hR hc
  go_enter Try.func60, Try.ntmps60
  go_wp2_with (first
    | ((with_reducible refine gate_dst (N := 12) rfl ?_); go_must (((try (refine gate_guard (by rfl) ?_; dsimp only)); refine goesL_ (some 12) rfl rfl Try.func58 (by kernel_rfl) rfl #[.pointer (some ⟨g, 0, none⟩), .int .i64 i] rfl ?hA ?_; (case hA => ((try simp only [List.map_toArray, List.map_cons, List.map_nil]); first | done | rfl)); refine (of_in g gq _ i vv _ H1.out HI.out).mono ?_; rintro e w12 ⟨rfl, ⟨m12, rfl⟩⟩; refine ⟨_, rfl, ?_⟩; skip)))
    | ((with_reducible refine gate_dst (N := 18) rfl ?_); go_must (((try (refine gate_guard (by rfl) ?_; dsimp only)); refine goesL_ (some 18) rfl rfl Try.func76 (by kernel_rfl) rfl #[.pointer (some ⟨gq, i, none⟩), .int .i64 0] rfl ?hA ?_; (case hA => ((try simp only [List.map_toArray, List.map_cons, List.map_nil]); first | done | rfl)); refine (qhas_calls gq i _ c A 0 (w.drewN m12) (by exact C0.out)).mono ?_; rintro e w18 ⟨rfl, ⟨m18, rfl⟩⟩; refine ⟨_, rfl, ?_⟩; rw [HD.out]))))
  go_ret
  exact ⟨rfl, by repeat (first | exact Drawn0.refl _ | apply Drawn0.step)⟩

set_option maxRecDepth 100000 in
set_option maxHeartbeats 4000000 in
theorem rnext_ok (g gq i : Nat) (col : Nat → Nat) (vw : List It) (qs : List (List It)) (w0 w : World) (hR : Rel w w0.heap.size g gq col vw qs) (hi : i < qs.length) (hne : 0 < qs[i].length) (hq : qs[i].length ≤ 100000) (hB : Below w0.heap.size w0 w) :
    Calls Try.prog 24 #[.pointer (some ⟨g, 0, none⟩), .int .i64 i] w fun e w' => ∃ vb, e = .returned (.tuple #[vb, .bool true]) ∧
      Kd.R (Kd.int .u8) 5 w' w0.heap.size (fun _ => True) vb qs[i][0].f0 ∧ (∃ col', Rel w' w0.heap.size g gq col' vw (qs.set i (qs[i].eraseIdx 0))) ∧ Below w0.heap.size w0 w' ∧ FrB w w' := by
  have HR := Aside0.mk hR
  have HI := Aside0.mk hi
  have HNE := Aside0.mk hne
  have HQ := Aside0.mk hq
  have HB := Aside0.mk hB
  have hmf : ∀ (fn : Fn) (first cap : Array Value) (w : World), (Instr.makeFunc fn first cap).run Try.prog w = .ok (.func fn first cap) w := fun _ _ _ _ => rfl
  clear hR hB
  go_enter Try.func24, Try.ntmps24
  go_wp2_with (first
    | (go_at_call 60; go_must ((refine (rdo_next g gq i w.heap.size col vw qs (.slice none 0 0) w0 (w.alloc (.cells #[.slice none 0 0] 45)) (HR.out.below (below_alloc (Below.refl _ _) _)) HI.out HNE.out HQ.out (blk_new w _) HB.out.size (below_alloc HB.out _)).mono ?_; rintro e w9 ⟨rfl, vb, h1, h2, h3, h4, h5⟩; obtain ⟨Ab, cb, rfl, hcb, hCb⟩ := Kd.R_reads h1; clear hcb hCb; have c9 := (blk_cell h2 0).trans rfl; have f9 := blk_frozen h2 0; have K1 := Aside0.mk h1; have K2 := Aside0.mk h2; have K3 := Aside0.mk h3; have K4 := Aside0.mk h4; have K5 := Aside0.mk h5; clear h1 h2 h3 h4 h5))))
  have HX : ((w9.setCell ⟨w.heap.size, 0, none⟩ (.slice Ab qs[i][0].f0.length cb))).heap[w.heap.size]? = some (.cells #[.slice Ab qs[i][0].f0.length cb] 45 (0, 0)) := by simpa using blk_set K2.out 0 (.slice Ab qs[i][0].f0.length cb)
  have q0 := (blk_cell HX 0).trans rfl
  obtain ⟨col', hR'⟩ := K3.out
  exact bodyPost_ret (v := .tuple #[.slice Ab qs[i][0].f0.length cb, .bool true]) (by simp [results, Try.results24, go_sem, q0]) rfl ⟨_, rfl, Kd.R_set K1.out K2.out (by decide) 0 _, ⟨col', hR'.far K2.out (by decide) 0 _⟩, K4.out.setCell HB.out.size _, ((FrB.below (below_alloc (Below.refl _ _) _)).trans K5.out).set K2.out (by decide) 0 _⟩

set_option maxRecDepth 100000 in
set_option maxHeartbeats 4000000 in
theorem rnext_none (g gq i : Nat) (col : Nat → Nat) (vw : List It) (qs : List (List It)) (b0 : Nat) (w : World) (hR : Rel w b0 g gq col vw qs) (hi : i < qs.length) (hne : qs[i].length = 0) :
    Calls Try.prog 24 #[.pointer (some ⟨g, 0, none⟩), .int .i64 i] w fun e w' => e = .returned (.tuple #[.slice none 0 0, .bool false]) ∧ Below w.heap.size w w' := by
  have HR := Aside0.mk hR
  have HI := Aside0.mk hi
  have HNE := Aside0.mk hne
  have hmf : ∀ (fn : Fn) (first cap : Array Value) (w : World), (Instr.makeFunc fn first cap).run Try.prog w = .ok (.func fn first cap) w := fun _ _ _ _ => rfl
  have HX := Aside0.mk (blk_new w (.cells #[.slice none 0 0] 45 (0, 0)))
  clear hR
  go_enter Try.func24, Try.ntmps24
  go_wp2_with (first
    | (go_at_call 60; go_must ((refine (rdo_next_none g gq i w.heap.size col vw qs b0 (w.alloc (.cells #[.slice none 0 0] 45)) (HR.out.below (below_alloc (Below.refl _ _) _)) HI.out HNE.out).mono ?_; rintro e w9 ⟨rfl, ⟨m9, rfl⟩⟩; skip))))
  have HY : (((w.alloc (.cells #[.slice none 0 0] 45)).drewN m9).setCell ⟨w.heap.size, 0, none⟩ (.slice none 0 0)).heap[w.heap.size]? = some (.cells #[.slice none 0 0] 45 (0, 0)) := by simpa using blk_set (blk_drewN HX.out m9) 0 (.slice none 0 0)
  have q0 := (blk_cell HY 0).trans rfl
  exact bodyPost_ret (v := .tuple #[.slice none 0 0, .bool false]) (by simp [results, Try.results24, go_sem, q0]) rfl ⟨rfl, (pw_below_drewN (below_alloc (Below.refl _ _) _) _).setCell (Nat.le_refl _) _⟩
end Go.Proofs.Ytlcifnejpejhmaa.K

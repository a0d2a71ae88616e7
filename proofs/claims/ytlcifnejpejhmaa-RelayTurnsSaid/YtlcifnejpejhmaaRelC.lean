/- relay: queue.cut, queue.has; what a relay holds. -/
import Derived.Test.YtlcifnejpejhmaaRelB
namespace Go.Proofs.Ytlcifnejpejhmaa.K
open Go.RowKit Go.Proofs.YtlcifnejpejhmaaW.PrintWords Go.Proofs.YtlcifnejpejhmaaW.PrintLast Go.Proofs.YtlcifnejpejhmaaW.PrintMore
set_option linter.unusedVariables false
set_option linter.unusedSimpArgs false

/-- All bytes stay. -/
def FrB (w w' : World) : Prop := ∀ (k : Nat) (cells : Array Value) (f : Nat × Nat), w.heap[k]? = some (Obj.cells cells 5 f) → w'.heap[k]? = some (Obj.cells cells 5 f)
theorem own_frame {W W' : World} {base : Nat} {ok : Nat → Prop} {v : Value} {l : List Int} (h : Kd.R (Kd.int .u8) 5 W base ok v l) (hf : FrB W W') : Kd.R (Kd.int .u8) 5 W' base ok v l := by
  refine Kd.R_mono (Kd.R_move (Kd.R_bound h) (fun k hk => ?_)) (fun _ hk => hk.1)
  obtain ⟨_, _, _, q, hq, cells, hc⟩ := hk
  have hq5 : q = 5 := by simpa [Kd.int, Kd.scalar] using hq
  subst hq5
  rw [hf k cells (0, 0) hc, hc]
theorem FrB.trans {a b c : World} (h : FrB a b) (k : FrB b c) : FrB a c := fun i cells f hi => k i cells f (h i cells f hi)
theorem FrB.below {a b : World} (h : Below a.heap.size a b) : FrB a b := fun i cells f hi => (h.block i (Array.getElem?_eq_some_iff.1 hi).1).trans hi
theorem add0 (g j : Nat) : (⟨g, 0, none⟩ : Addr).add j = ⟨g, j, none⟩ := by simp [Addr.add]; omega
theorem qr_item {W : World} {base : Nat} {ok : Nat → Prop} {v : Value} {xs : List It} (h : QR W base ok v xs) (i : Nat) (hi : i < xs.length) :
    ∃ g cap vb, v = .slice (some ⟨g, 0, none⟩) xs.length cap ∧ xs.length ≤ cap ∧ W.cell? ⟨g, i * 2, none⟩ = some vb ∧ W.cell? ⟨g, i * 2 + 1, none⟩ = some (.bool xs[i].f1) ∧ Kd.R (Kd.int .u8) 5 W base (fun k => ok k ∧ some k ≠ v.ownBlock) vb xs[i].f0 := by
  obtain ⟨g, cap, rfl, _⟩ := Kd.R_form h (by omega)
  have hcap := (Kd.R_reads' h).2.1
  obtain ⟨c, hcl, hM, hc⟩ := Kd.R_get h Y.z107 (i : Int) (by omega) (by omega)
  rw [Int.toNat_natCast] at hM hc
  have hx : xs.getD i Y.z107 = xs[i] := by rw [List.getD_eq_getElem?_getD, List.getElem?_eq_getElem hi]; rfl
  rw [hx] at hM
  obtain ⟨vb, rfl, hb⟩ := Y.k107_openM hM
  have e0 := hc 0 vb rfl
  have e1 := hc 1 (.bool xs[i].f1) rfl
  rw [show IK.sz = 2 from rfl] at e0 e1
  rw [add0] at e0 e1
  exact ⟨g, cap, vb, rfl, hcap, e0, e1, hb⟩
theorem fr_set {w w1 : World} {col : Nat → Nat} {c p base : Nat} {v : Value} {xs : List It} (hR : QR w base (fun k => col k = c) v xs) (hg : w.grownBy w1 v.ownBlock) (j : Nat) (u : Value) : Fr w (w1.setCell ⟨p, j, none⟩ u) col c p := by
  refine ⟨Nat.le_trans hg.size ((KeepBut.refl w1 p none).set_ j _).1, ?_, ?_⟩
  · intro k hk hc hkp
    rw [Below.heap_setCell _ _ _ _ hkp]
    exact hg.block k hk (fun e => hc (hR.1 k e.symm))
  · intro k cells t f hk ht hkp
    have hlt : k < w.heap.size := (Array.getElem?_eq_some_iff.1 hk).1
    rw [Below.heap_setCell _ _ _ _ hkp, hg.block k hlt (qr_away hR hk ht), hk]
/-- Bytes stay where a method on no bytes' block has been. -/
theorem Fr.bytes {w w' : World} {col : Nat → Nat} {c p T : Nat} {cs : Array Value} (h : Fr w w' col c p) (hp : w.heap[p]? = some (.cells cs T (0, 0))) (hT : T ≠ 5) : FrB w w' := by
  intro k cells f hk
  refine h.2.2 k cells _ f hk (by decide) ?_
  rintro rfl
  rw [hp] at hk
  injection hk with hk
  injection hk with _ hk
  exact hT hk

set_option maxRecDepth 100000 in
set_option maxHeartbeats 4000000 in
theorem qcut_calls (p j T c : Nat) (col : Nat → Nat) (cs : Array Value) (v : Value) (i : Nat) (xs : List It) (w0 w : World)
    (hp : w.heap[p]? = some (.cells cs T (0, 0))) (hj : cs[j]? = some v) (hT : T ≠ 107 ∧ T ≠ 5) (hR : QR w w0.heap.size (fun k => col k = c) v xs) (hi : i < xs.length)
    (hB : Below w0.heap.size w0 w) (h0 : w0.heap.size ≤ p) (hx : xs.length ≤ 100000) :
    Calls Try.prog 62 #[.pointer (some ⟨p, j, none⟩), .int .i64 i] w fun e w' =>
      ∃ vb v', e = .returned vb ∧ Kd.R (Kd.int .u8) 5 w' w0.heap.size (fun _ => True) vb xs[i].f0 ∧ w'.heap[p]? = some (.cells (cs.setIfInBounds j v') T (0, 0)) ∧ QR w' w0.heap.size (fun k => col k = c) v' (xs.eraseIdx i) ∧ Below w0.heap.size w0 w' ∧ Fr w w' col c p := by
  have c0 : w.cell? ⟨p, j, none⟩ = some v := (blk_cell hp j).trans hj
  have f0 := blk_frozen hp j
  obtain ⟨g, cap, vb, rfl, hcap, hv0, hv1, hb⟩ := qr_item hR i hi
  clear hv1
  generalize xs[i] = x at hb ⊢
  have HP := Aside0.mk hp
  have HJ := Aside0.mk hj
  have HT := Aside0.mk hT
  have HR := Aside0.mk hR
  have HB := Aside0.mk hB
  have H0 := Aside0.mk h0
  have HX := Aside0.mk hx
  have HI := Aside0.mk hi
  have Hb := Aside0.mk hb
  obtain ⟨n, hn⟩ : ∃ n, xs.length = n := ⟨_, rfl⟩
  have HN := Aside0.mk hn
  have hin : (i : Int) < n := by omega
  have hn9 : (n : Int) ≤ 100000 := by omega
  have hi0 : (0 : Int) ≤ i := by omega
  have hnc : n ≤ cap := by omega
  rw [hn] at hcap HR c0 HJ
  clear hp hj hT hR hi hB h0 hx hb hn hcap
  go_enter Try.func62, Try.ntmps62
  go_wp2_with (first
    | ((with_reducible refine gate_dst (N := 22) rfl ?_); go_must (((try (refine gate_guard (by rfl) ?_; dsimp only)); refine goesL_ (some 22) rfl rfl Try.func91 (by kernel_rfl) rfl #[.slice (some ⟨g, 0, none⟩) n cap, .int .i64 i, .int .i64 ((i : Int) + 1)] rfl ?hA ?_; (case hA => ((try simp only [List.map_toArray, List.map_cons, List.map_nil]); first | done | rfl)); refine (qdel_calls i _ xs _ w0 _ HR.out (by have := HI.out; exact this) HB.out HX.out).mono ?_; rintro e w22 ⟨v22, rfl, ho, hb2, hg⟩; refine ⟨_, rfl, ?_⟩; obtain ⟨A22, d22, rfl, hd22, hC22⟩ := Kd.R_reads ho; clear hC22; have hp22 : w22.heap[p]? = some (.cells cs T (0, 0)) := (hg.block p (blk_lt HP.out) (qr_away HR.out HP.out HT.out.1)).trans HP.out; have c22 := (blk_cell hp22 j).trans HJ.out; have f22 := blk_frozen hp22 j; have HP22 := Aside0.mk hp22; have HR22 := Aside0.mk ho; have HB22 := Aside0.mk hb2; have HG22 := Aside0.mk hg; clear ho hb2 hg hp22))))
  go_ret
  have hF : Fr w (w22.setCell ⟨p, j, none⟩ (.slice A22 (xs.eraseIdx i).length d22)) col c p := fr_set HR.out HG22.out j _
  exact ⟨vb, _, rfl, own_frame (Kd.R_mono Hb.out (fun _ _ => trivial)) (hF.bytes HP.out HT.out.2), blk_set HP22.out j _, Kd.R_set HR22.out HP22.out (qr_types HT.out.1 HT.out.2) j _, HB22.out.setCell H0.out _, hF⟩

set_option maxHeartbeats 800000 in
theorem qhas_calls (p j n c : Nat) (A : Option Addr) (i : Int) (w : World) (hc : w.cell? ⟨p, j, none⟩ = some (.slice A n c)) :
    Calls Try.prog 76 #[.pointer (some ⟨p, j, none⟩), .int .i64 i] w fun e w' => e = .returned (.bool (decide (0 ≤ i ∧ i < n))) ∧ Drawn0 w w' := by
  by_cases h0 : 0 ≤ i
  · by_cases h1 : i < n
    · have hd : decide (0 ≤ i ∧ i < n) = true := decide_eq_true ⟨h0, h1⟩
      rw [hd]
      clear hd
      go_enter Try.func76, Try.ntmps76
      go_wp2
      go_ret
      exact ⟨rfl, by repeat (first | exact Drawn0.refl _ | apply Drawn0.step)⟩
    · have hd : decide (0 ≤ i ∧ i < n) = false := decide_eq_false (fun h => h1 h.2)
      have hd2 : decide (i < (n : Int)) = false := decide_eq_false h1
      rw [hd]
      clear hd
      go_enter Try.func76, Try.ntmps76
      go_wp2
      go_ret
      exact ⟨rfl, by repeat (first | exact Drawn0.refl _ | apply Drawn0.step)⟩
  · have hd : decide (0 ≤ i ∧ i < n) = false := decide_eq_false (fun h => h0 h.1)
    have hd2 : decide (0 ≤ i) = false := decide_eq_false h0
    rw [hd]
    clear hd
    go_enter Try.func76, Try.ntmps76
    go_wp2
    go_ret
    exact ⟨rfl, by repeat (first | exact Drawn0.refl _ | apply Drawn0.step)⟩

/-- A relay at block g of W, its queues at gq: what it saw, and what waits for each. -/
structure Rel (W : World) (b0 g gq : Nat) (col : Nat → Nat) (vw : List It) (qs : List (List It)) : Prop where
  blk : ∃ vv, W.heap[g]? = some (.cells #[.slice (some ⟨gq, 0, none⟩) qs.length qs.length, vv] 99 (0, 0)) ∧ QR W b0 (fun k => col k = 0) vv vw
  qb : ∃ cs : Array Value, W.heap[gq]? = some (.cells cs 97 (0, 0)) ∧ cs.size = qs.length ∧ ∀ i (h : i < qs.length), ∃ v, cs[i]? = some v ∧ QR W b0 (fun k => col k = i + 1) v qs[i]
  ge : b0 ≤ g ∧ b0 ≤ gq
theorem Rel.below {W W' : World} {b0 g gq : Nat} {col : Nat → Nat} {vw : List It} {qs : List (List It)} (h : Rel W b0 g gq col vw qs) (hb : Below W.heap.size W W') : Rel W' b0 g gq col vw qs := by
  obtain ⟨⟨vv, h1, h2⟩, ⟨cs, h3, h4, h5⟩, h6⟩ := h
  refine ⟨⟨vv, blk_below h1 hb, Kd.R_below h2 hb⟩, ⟨cs, blk_below h3 hb, h4, fun i hi => ?_⟩, h6⟩
  obtain ⟨v, e, r⟩ := h5 i hi
  exact ⟨v, e, Kd.R_below r hb⟩
/-- New blocks are coloured as one wishes. -/
theorem Rel.recol {W : World} {b0 g gq : Nat} {col : Nat → Nat} {vw : List It} {qs : List (List It)} (h : Rel W b0 g gq col vw qs) (c : Nat) : Rel W b0 g gq (fun k => if k < W.heap.size then col k else c) vw qs := by
  obtain ⟨⟨vv, h1, h2⟩, ⟨cs, h3, h4, h5⟩, h6⟩ := h
  refine ⟨⟨vv, h1, Kd.R_mono (Kd.R_bound h2) (fun k hk => by rw [if_pos hk.2.2.1]; exact hk.1)⟩, ⟨cs, h3, h4, fun i hi => ?_⟩, h6⟩
  obtain ⟨v, e, r⟩ := h5 i hi
  exact ⟨v, e, Kd.R_mono (Kd.R_bound r) (fun k hk => by rw [if_pos hk.2.2.1]; exact hk.1)⟩
/-- A store into a block that is none of its. -/
theorem Rel.far {W : World} {b0 g gq : Nat} {col : Nat → Nat} {vw : List It} {qs : List (List It)} (h : Rel W b0 g gq col vw qs) {k t : Nat} {cells : Array Value} (hk : W.heap[k]? = some (.cells cells t (0, 0)))
    (ht : t ≠ 107 ∧ t ≠ 5 ∧ t ≠ 99 ∧ t ≠ 97) (j : Nat) (u : Value) : Rel (W.setCell ⟨k, j, none⟩ u) b0 g gq col vw qs := by
  obtain ⟨⟨vv, h1, h2⟩, ⟨cs, h3, h4, h5⟩, h6⟩ := h
  refine ⟨⟨vv, blk_far h1 (blk_ne h1 hk (Ne.symm ht.2.2.1)) u, Kd.R_set h2 hk (qr_types ht.1 ht.2.1) j u⟩, ⟨cs, blk_far h3 (blk_ne h3 hk (Ne.symm ht.2.2.2)) u, h4, fun i hi => ?_⟩, h6⟩
  obtain ⟨v, e, r⟩ := h5 i hi
  exact ⟨v, e, Kd.R_set r hk (qr_types ht.1 ht.2.1) j u⟩
theorem qr_fr {W W' : World} {b0 c c' p T : Nat} {col : Nat → Nat} {cs : Array Value} {v : Value} {xs : List It} (h : QR W b0 (fun k => col k = c') v xs) (hp : W.heap[p]? = some (.cells cs T (0, 0))) (hT : T ≠ 107 ∧ T ≠ 5) (hF : Fr W W' col c p) (hc : c' ≠ c) : QR W' b0 (fun k => col k = c') v xs :=
  Kd.R_mono (Kd.R_step (Kd.R_types h hp (qr_types hT.1 hT.2)) (fun k hk hlt => hF.2.1 k hlt (by rw [hk.1]; exact hc) hk.2)) (fun _ hk => hk.1)
/-- A method on the i-th queue. -/
theorem Rel.turnQ {W W' : World} {b0 g gq : Nat} {col : Nat → Nat} {vw : List It} {qs : List (List It)} (h : Rel W b0 g gq col vw qs) {i : Nat} (hi : i < qs.length) {cs : Array Value} (hcs : W.heap[gq]? = some (.cells cs 97 (0, 0)))
    {v' : Value} {xs' : List It} (hq : W'.heap[gq]? = some (.cells (cs.setIfInBounds i v') 97 (0, 0))) (hr : QR W' b0 (fun k => col k = i + 1) v' xs') (hF : Fr W W' col (i + 1) gq) : Rel W' b0 g gq col vw (qs.set i xs') := by
  obtain ⟨⟨vv, h1, h2⟩, ⟨cs0, h3, h4, h5⟩, h6⟩ := h
  have ecs : cs0 = cs := by
    rw [hcs] at h3
    injection h3 with h3
    injection h3 with h3
    exact h3.symm
  subst ecs
  have hT : (97 : Nat) ≠ 107 ∧ (97 : Nat) ≠ 5 := by decide
  refine ⟨⟨vv, ?_, qr_fr h2 h3 hT hF (by omega)⟩, ⟨_, hq, by simp [h4], fun m hm => ?_⟩, h6⟩
  · rw [List.length_set]
    exact hF.2.2 g _ _ _ h1 (by decide) (blk_ne h1 h3 (by decide))
  · rw [List.length_set] at hm
    by_cases hmi : m = i
    · subst hmi
      exact ⟨v', by rw [Array.getElem?_setIfInBounds_self_of_lt (by omega)], by rw [List.getElem_set_self]; exact hr⟩
    · obtain ⟨v, e, r⟩ := h5 m hm
      refine ⟨v, ?_, ?_⟩
      · rw [Array.getElem?_setIfInBounds_ne (Ne.symm hmi)]
        exact e
      · rw [List.getElem_set_ne (Ne.symm hmi)]
        exact qr_fr r h3 hT hF (by omega)
/-- A method on what it saw. -/
theorem Rel.turnV {W W' : World} {b0 g gq : Nat} {col : Nat → Nat} {vw : List It} {qs : List (List It)} (h : Rel W b0 g gq col vw qs) {cs : Array Value} (hcs : W.heap[g]? = some (.cells cs 99 (0, 0)))
    {v' : Value} {xs' : List It} (hq : W'.heap[g]? = some (.cells (cs.setIfInBounds 1 v') 99 (0, 0))) (hr : QR W' b0 (fun k => col k = 0) v' xs') (hF : Fr W W' col 0 g) : Rel W' b0 g gq col xs' qs := by
  obtain ⟨⟨vv, h1, h2⟩, ⟨cs0, h3, h4, h5⟩, h6⟩ := h
  have hT : (99 : Nat) ≠ 107 ∧ (99 : Nat) ≠ 5 := by decide
  rw [h1] at hcs
  injection hcs with hcs
  injection hcs with hcs
  subst hcs
  refine ⟨⟨v', hq, hr⟩, ⟨cs0, hF.2.2 gq _ _ _ h3 (by decide) (Ne.symm (blk_ne h1 h3 (by decide))), h4, fun m hm => ?_⟩, h6⟩
  obtain ⟨v, e, r⟩ := h5 m hm
  exact ⟨v, e, qr_fr r h1 hT hF (by omega)⟩
end Go.Proofs.Ytlcifnejpejhmaa.K

/- op.Text: what it gives of any operation. -/
import Derived.Test.YtginodjiaohcmaaOpD
namespace Go.Proofs.Ytginodjiaohcmaa.K
open Go.RowKit Go.Proofs.YtginodjiaohcmaaW.PrintWords Go.Proofs.YtginodjiaohcmaaW.PrintLast Go.Proofs.YtginodjiaohcmaaW.PrintMore
set_option linter.unusedVariables false
set_option linter.unusedSimpArgs false

theorem right_cases {k t a u b p c : Int} {d : Bool} {s : ByteArray} {n : Nat} (h : rightO k t a u b p c d s n = true) :
    rightS t a = true ∧ rightS u b = true ∧
    ((k = 1 ∧ n = 0 ∧ placeS p c = true ∧ nameB s = true ∧ u = t ∧ b = a) ∨ (k = 2 ∧ n = 0 ∧ d = false ∧ placeS p c = true ∧ nameB s = true) ∨
     (k = 3 ∧ n = 0 ∧ d = false ∧ p = 0 ∧ c = 0 ∧ s.toList = []) ∨ (k = 4 ∧ n ≤ 400 ∧ d = false ∧ p = 0 ∧ c = 0 ∧ s.toList = [])) := by
  unfold rightO at h
  simp only [Bool.and_eq_true] at h
  obtain ⟨h1, h2, h3, h4, h5⟩ := h
  refine ⟨h1, h2, ?_⟩
  by_cases k1 : k = 1
  · subst k1
    rw [if_pos rfl] at h5
    simp at h4 h5
    exact .inl ⟨rfl, by omega, h5.1, h5.2.1, h5.2.2.1, h5.2.2.2⟩
  · rw [if_neg k1] at h5
    have hd : d = false := by
      cases d
      · rfl
      · simp [k1] at h3
    by_cases k2 : k = 2
    · subst k2
      rw [if_pos rfl] at h5
      simp at h4 h5
      exact .inr (.inl ⟨rfl, by omega, hd, h5.1, h5.2⟩)
    · rw [if_neg k2] at h5
      by_cases k3 : k = 3
      · subst k3
        rw [if_pos rfl] at h5
        simp at h4 h5
        exact .inr (.inr (.inl ⟨rfl, by omega, hd, h5.1.1, h5.1.2, h5.2⟩))
      · rw [if_neg k3] at h5
        by_cases k4 : k = 4
        · subst k4
          rw [if_pos rfl] at h5
          simp at h5
          exact .inr (.inr (.inr ⟨rfl, by omega, hd, h5.1.1, h5.1.2, h5.2.1⟩))
        · rw [if_neg k4] at h5
          exact absurd h5 (by decide)
/-- The text of an operation. -/
def textO (k u b p c : Int) (d : Bool) (s : ByteArray) (l : List Int) : List Int :=
  if k = 1 then tx1 u b p c d s l 3 else if k = 2 then tx2 u b p c d s l 3 else if k = 3 then tx3 u b p c d s l 1 else tx4 u b p c d s l 2
theorem textO_1 (u b p c : Int) (d : Bool) (s : ByteArray) (l : List Int) : textO 1 u b p c d s l = tx1 u b p c d s l 3 := by unfold textO; rw [if_pos rfl]
theorem textO_2 (u b p c : Int) (d : Bool) (s : ByteArray) (l : List Int) : textO 2 u b p c d s l = tx2 u b p c d s l 3 := by unfold textO; rw [if_neg (by decide), if_pos rfl]
theorem textO_3 (u b p c : Int) (d : Bool) (s : ByteArray) (l : List Int) : textO 3 u b p c d s l = tx3 u b p c d s l 1 := by unfold textO; rw [if_neg (by decide), if_neg (by decide), if_pos rfl]
theorem textO_4 (u b p c : Int) (d : Bool) (s : ByteArray) (l : List Int) : textO 4 u b p c d s l = tx4 u b p c d s l 2 := by unfold textO; rw [if_neg (by decide), if_neg (by decide), if_neg (by decide)]

set_option maxRecDepth 100000 in
set_option maxHeartbeats 2000000 in
theorem otext_bad (k t a u b p c : Int) (d : Bool) (s : ByteArray) (v : Value) (l : List Int) (w : World) (hr : Rd w v l) (hR : rightO k t a u b p c d s l.length = false) :
    Calls Try.prog 8 #[.agg #[.int .i64 k, .int .i64 t, .int .i64 a, .int .i64 u, .int .i64 b, .int .i64 p, .int .i64 c, .bool d, .string s, v]] w fun e w' => e = .returned (.tuple #[.slice none 0 0, .int .i64 1]) ∧ Below w.heap.size w w' := by
  have HB := Aside0.mk (Below.refl w.heap.size w)
  have HRd := Aside0.mk hr
  have HR := Aside0.mk hR
  have hu2 := Try.underlying26
  have hu3 := Try.underlying23
  obtain ⟨A, c0, rfl, hc0, hC0⟩ := hr
  clear hR hc0 hC0
  go_enter Try.func8, Try.ntmps8
  go_wp2_with (first
    | (go_at_call 14; go_must (refine (oright_calls _ _ _ _ _ _ _ _ _ _ l _ (by exact HRd.out.below (below_alloc (Below.refl _ _) _))).mono ?_; rw [HR.out]; rintro e wq ⟨rfl, hb⟩; replace HB := Aside0.mk (below_step (by repeat (first | (with_reducible first | exact HB.out | apply below_alloc | apply pw_below_drewN | apply below_drew1) | exact HB.out)) hb); clear hb)))
  go_ret2
  exact ⟨rfl, HB.out⟩

theorem otext_ok (k t a u b p c : Int) (d : Bool) (s : ByteArray) (v : Value) (l : List Int) (w : World) (hr : Rd w v l) (hR : rightO k t a u b p c d s l.length = true) :
    Calls Try.prog 8 #[.agg #[.int .i64 k, .int .i64 t, .int .i64 a, .int .i64 u, .int .i64 b, .int .i64 p, .int .i64 c, .bool d, .string s, v]] w fun e w' => ∃ v', e = .returned (.tuple #[v', .int .i64 0]) ∧ Rd w' v' (textO k u b p c d s l) ∧ Below w.heap.size w w' := by
  obtain ⟨ht, hu, h | h | h | h⟩ := right_cases hR
  · obtain ⟨rfl, hn, hp, hs, _, _⟩ := h
    rw [textO_1]
    exact text1_calls t a u b p c d s v l w hr hR hp (nameB_le hs)
  · obtain ⟨rfl, hn, hd, hp, hs⟩ := h
    rw [textO_2]
    exact text2_calls t a u b p c d s v l w hr hR hu hp (nameB_le hs)
  · obtain ⟨rfl, hn, hd, hp, hc, hs⟩ := h
    rw [textO_3]
    exact text3_calls t a u b p c d s v l w hr hR hu
  · obtain ⟨rfl, hn, hd, hp, hc, hs⟩ := h
    rw [textO_4]
    exact text4_calls t a u b p c d s v l w hr hR hu hn
theorem otext_all (k t a u b p c : Int) (d : Bool) (s : ByteArray) (v : Value) (l : List Int) (w : World) (hr : Rd w v l) :
    Calls Try.prog 8 #[.agg #[.int .i64 k, .int .i64 t, .int .i64 a, .int .i64 u, .int .i64 b, .int .i64 p, .int .i64 c, .bool d, .string s, v]] w fun e w' => ∃ v', e = .returned (.tuple #[v', .int .i64 (if rightO k t a u b p c d s l.length = true then 0 else 1)]) ∧ Rd w' v' (if rightO k t a u b p c d s l.length = true then textO k u b p c d s l else []) ∧ Below w.heap.size w w' := by
  cases hR : rightO k t a u b p c d s l.length
  · exact (otext_bad k t a u b p c d s v l w hr hR).mono fun e w' ⟨he, hb⟩ => ⟨_, he, Rd.nil _, hb⟩
  · exact otext_ok k t a u b p c d s v l w hr hR
end Go.Proofs.Ytginodjiaohcmaa.K

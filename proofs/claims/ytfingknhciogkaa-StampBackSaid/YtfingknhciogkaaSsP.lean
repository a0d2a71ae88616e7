/- Stamps in order, in plain Lean. -/
import Derived.Test.YtfingknhciogkaaSsG
namespace Go.Proofs.Ytfingknhciogkaa.K
open Go.RowKit Go.Sort Go.Shelf Go.Proofs.YtfingknhciogkaaW.PrintWords Go.Proofs.YtfingknhciogkaaW.PrintLast Go.Proofs.YtfingknhciogkaaW.PrintMore
set_option linter.unusedVariables false
set_option linter.unusedSimpArgs false

/-- One stands ahead of another. -/
def Lt (x y : St) : Prop := x.f0 < y.f0 ∨ (x.f0 = y.f0 ∧ x.f1 < y.f1)
theorem st_ext {x y : St} (h0 : x.f0 = y.f0) (h1 : x.f1 = y.f1) : x = y := by
  cases x
  cases y
  simp at h0 h1
  rw [h0, h1]
theorem Lt.ne {x y : St} (h : Lt x y) : x ≠ y := by
  rintro rfl
  unfold Lt at h
  omega
theorem Lt.not {x y : St} (h : Lt x y) : ¬ Lt y x := by
  unfold Lt at *
  omega
theorem Lt.trans {x y z : St} (h : Lt x y) (k : Lt y z) : Lt x z := by
  unfold Lt at *
  omega
theorem lt_eq {x y : St} (h : ¬ Lt x y) (k : ¬ Lt y x) : x = y := by
  unfold Lt at *
  exact st_ext (by omega) (by omega)
def Strict (l : List St) : Prop := l.Pairwise Lt
theorem strict_unique {a b : List St} (ha : Strict a) (hb : Strict b) (h : ∀ x, x ∈ a ↔ x ∈ b) : a = b :=
  List.Perm.eq_of_pairwise (fun x y _ _ h k => absurd k h.not) ha hb ((List.perm_ext_iff_of_nodup (ha.imp Lt.ne) (hb.imp Lt.ne)).2 h)
theorem strict_last {l : List St} (h : Strict l) {z : St} (hz : l.getLast? = some z) : ∀ a ∈ l, a = z ∨ Lt a z := by
  rcases List.eq_nil_or_concat l with rfl | ⟨r, y, rfl⟩
  · simp at hz
  · rw [List.concat_eq_append] at *
    simp at hz
    subst hz
    intro a ha
    rcases List.mem_append.1 ha with ha | ha
    · exact .inr ((List.pairwise_append.1 h).2.2 a ha y (by simp))
    · exact .inl (by simpa using ha)
theorem asc_last {l : List St} (h : Asc l) {z : St} (hz : l.getLast? = some z) : ∀ a ∈ l, ¬ Lt z a := by
  rcases List.eq_nil_or_concat l with rfl | ⟨r, y, rfl⟩
  · simp at hz
  · rw [List.concat_eq_append] at *
    simp at hz
    subst hz
    intro a ha
    rcases List.mem_append.1 ha with ha | ha
    · have := (List.pairwise_append.1 h).2.2 a ha y (by simp)
      rwa [cmpT_neg] at this
    · have : a = y := by simpa using ha
      subst this
      unfold Lt
      omega
/-- Each stamp once. -/
theorem dd_spec : ∀ (n : Nat) (l : List St), l.length = n → Asc l → Strict (dd l) ∧ ∀ a, a ∈ dd l ↔ a ∈ l := by
  intro n
  induction n with
  | zero =>
    intro l hl _
    have : l = [] := List.eq_nil_of_length_eq_zero hl
    subst this
    exact ⟨List.Pairwise.nil, fun _ => Iff.rfl⟩
  | succ n ih =>
    intro l hl ha
    rcases List.eq_nil_or_concat l with rfl | ⟨r, x, rfl⟩
    · simp at hl
    · rw [List.concat_eq_append] at *
      simp at hl
      obtain ⟨a1, a2, a3⟩ := List.pairwise_append.1 ha
      obtain ⟨i1, i2⟩ := ih r hl a1
      by_cases hx : r.getLast? = some x
      · rw [dd_snoc r x hx]
        refine ⟨i1, fun a => ?_⟩
        rw [i2 a, List.mem_append]
        constructor
        · exact .inl
        · rintro (h | h)
          · exact h
          · have : a = x := by simpa using h
            subst this
            exact List.mem_of_getLast? hx
      · rw [dd_snoc' r x hx]
        refine ⟨List.pairwise_append.2 ⟨i1, by simp, fun a hda b hb => ?_⟩, fun a => by rw [List.mem_append, List.mem_append, i2 a]⟩
        have hbx : b = x := by simpa using hb
        subst hbx
        have har := (i2 a).1 hda
        have h1 : ¬ Lt b a := by
          have := a3 a har b (by simp)
          rwa [cmpT_neg] at this
        by_cases h2 : Lt a b
        · exact h2
        · have e : a = b := lt_eq h2 h1
          subst e
          cases hz : r.getLast? with
          | none =>
            rw [List.getLast?_eq_none_iff] at hz
            subst hz
            simp at har
          | some z =>
            have hzr := List.mem_of_getLast? hz
            have h3 : ¬ Lt a z := by
              have := a3 z hzr a (by simp)
              rwa [cmpT_neg] at this
            have h4 := asc_last a1 hz a har
            have e := lt_eq h3 h4
            subst e
            exact absurd hz hx
theorem sorted_spec {ys zs : List St} (hp : ys.Perm zs) (ha : Asc ys) : Strict (dd ys) ∧ ∀ a, a ∈ dd ys ↔ a ∈ zs := by
  obtain ⟨h1, h2⟩ := dd_spec _ ys rfl ha
  exact ⟨h1, fun a => (h2 a).trans hp.mem_iff⟩
/-- A stamp laid in at its place. -/
theorem ins_spec {out : List St} (hs : Strict out) {x : St} {k : Nat} (hk : k ≤ out.length) (h1 : ∀ y ∈ out.take k, Lt y x) (h2 : ∀ y, out[k]? = some y → ¬ Lt y x ∧ y ≠ x) : Strict (out.take k ++ [x] ++ out.drop k) ∧ ∀ a, a ∈ out.take k ++ [x] ++ out.drop k ↔ a ∈ out ∨ a = x := by
  have hsp : out.take k ++ out.drop k = out := List.take_append_drop k out
  have hs2 : Strict (out.take k ++ out.drop k) := by rw [hsp]; exact hs
  obtain ⟨s1, s2, s3⟩ := List.pairwise_append.1 hs2
  have h4 : ∀ b ∈ out.drop k, Lt x b := by
    intro b hb
    cases hy : out[k]? with
    | none =>
      rw [List.getElem?_eq_none_iff] at hy
      rw [List.drop_eq_nil_of_le hy] at hb
      simp at hb
    | some y =>
      have hlt := (List.getElem?_eq_some_iff.1 hy).1
      obtain ⟨n1, n2⟩ := h2 y hy
      have hxy : Lt x y := by
        by_cases h : Lt x y
        · exact h
        · exact absurd (lt_eq n1 h) n2
      rw [List.drop_eq_getElem_cons hlt] at hb s2
      have hyy : out[k] = y := by
        rw [List.getElem?_eq_getElem hlt] at hy
        injection hy
      rw [hyy] at hb s2
      rcases List.mem_cons.1 hb with rfl | hb
      · exact hxy
      · exact hxy.trans ((List.pairwise_cons.1 s2).1 b hb)
  constructor
  · rw [List.append_assoc]
    refine List.pairwise_append.2 ⟨s1, ?_, fun a ha b hb => ?_⟩
    · rw [List.singleton_append]
      exact List.pairwise_cons.2 ⟨h4, s2⟩
    · rcases List.mem_append.1 hb with hb | hb
      · have : b = x := by simpa using hb
        subst this
        exact h1 a ha
      · exact s3 a ha b hb
  · intro a
    have : a ∈ out ↔ a ∈ out.take k ++ out.drop k := by rw [hsp]
    rw [this]
    simp only [List.mem_append, List.mem_singleton]
    constructor
    · rintro ((h | h) | h)
      · exact .inl (.inl h)
      · exact .inr h
      · exact .inl (.inr h)
    · rintro ((h | h) | h)
      · exact .inl (.inl h)
      · exact .inr h
      · exact .inl (.inr h)
theorem maxS_spec : ∀ (r : List St) (m : St), maxS m r ∈ m :: r ∧ ∀ a ∈ m :: r, ¬ Lt (maxS m r) a
  | [], m => by
    refine ⟨by simp [maxS], fun a ha => ?_⟩
    have : a = m := by simpa using ha
    subst this
    simp only [maxS, Lt]
    omega
  | x :: r, m => by
    by_cases h : 0 < cmpT x m
    · have ih := maxS_spec r x
      have e : maxS m (x :: r) = maxS x r := by simp only [maxS]; rw [if_pos h]
      rw [e]
      have hlt : Lt m x := by
        rw [cmpT_pos] at h
        exact h
      refine ⟨List.mem_cons_of_mem _ ih.1, fun a ha => ?_⟩
      rcases List.mem_cons.1 ha with rfl | ha
      · have := ih.2 x (by simp)
        unfold Lt at *
        omega
      · exact ih.2 a ha
    · have ih := maxS_spec r m
      have e : maxS m (x :: r) = maxS m r := by simp only [maxS]; rw [if_neg h]
      rw [e]
      have hlt : ¬ Lt m x := by
        rw [cmpT_pos] at h
        exact h
      refine ⟨?_, fun a ha => ?_⟩
      · rcases List.mem_cons.1 ih.1 with h1 | h1
        · rw [h1]
          simp
        · exact List.mem_cons_of_mem _ (List.mem_cons_of_mem _ h1)
      · rcases List.mem_cons.1 ha with rfl | ha
        · exact ih.2 a (by simp)
        · rcases List.mem_cons.1 ha with rfl | ha
          · have := ih.2 m (by simp)
            unfold Lt at *
            omega
          · exact ih.2 a (List.mem_cons_of_mem _ ha)
/-- The greatest is the last. -/
theorem max_last {out zs : List St} (hs : Strict out) (hm : ∀ a, a ∈ out ↔ a ∈ zs) {z : St} (hz : out.getLast? = some z) : maxL zs = z := by
  have hzo := List.mem_of_getLast? hz
  match zs, hm with
  | [], hm => exact absurd ((hm z).1 hzo) (by simp)
  | m :: r, hm =>
    obtain ⟨m1, m2⟩ := maxS_spec r m
    show maxS m r = z
    rcases strict_last hs hz _ ((hm _).2 m1) with h | h
    · exact h
    · exact absurd h (m2 z ((hm z).1 hzo))
end Go.Proofs.Ytfingknhciogkaa.K

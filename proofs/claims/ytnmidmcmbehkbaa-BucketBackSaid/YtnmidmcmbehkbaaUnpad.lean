/- What Unpad tells of bytes, in plain Lean; cachetteref02.Pad and Unpad, math/bits.OnesCount. -/
import Derived.Test.YtnmidmcmbehkbaaPad
import Derived.Test.YtnmidmcmbehkbaaPure01
import Derived.Test.YtnmidmcmbehkbaaRef3
namespace Go.Proofs.Ytnmidmcmbehkbaa.K
open Go.RowKit Go.Proofs.YtnmidmcmbehkbaaW.PrintWords Go.Proofs.YtnmidmcmbehkbaaW.PrintLast Go.Proofs.YtnmidmcmbehkbaaW.PrintMore
set_option linter.unusedVariables false
set_option linter.unusedSimpArgs false

/-- The text of bytes, or that there is none. -/
def unpS (b : List Int) : Option (List Int) :=
  let r := bytesR 2000 b 0
  if r.2.2 = 0 ∧ padK r.1 = 0 ∧ padL r.1 = b then some r.1 else none
def unpL (b : List Int) : List Int := (unpS b).getD []
def unpK (b : List Int) : Int := if (unpS b).isSome then 0 else 4
theorem bytesR_most (most : Int) (x R : List Int) (hm : (x.length : Int) ≤ most) (hx : x.length < 4611686018427387904) : bytesR most (numL x.length ++ x ++ R) 0 = (x, R, 0) := by
  unfold bytesR countR
  rw [List.append_assoc, numR_put _ _ (by omega)]
  simp only [ne_eq, not_true, if_false]
  rw [if_neg (by omega)]
  unfold takeR
  simp
theorem padL_bytes {x : List Int} (h : padK x = 0) : ∃ R, padL x = numL x.length ++ x ++ R ∧ R = List.replicate ((sizeB (classB x.length)).toNat - (numL x.length ++ x).length) 0 ∧ 0 ≤ classB x.length ∧ x.length ≤ 1022 := by
  by_cases hc : classB x.length < 0
  · rw [padK_no hc] at h
    exact absurd h (by decide)
  · refine ⟨_, by unfold padL; rw [if_neg hc], rfl, by omega, ?_⟩
    rcases classB_range x.length with ⟨e, _⟩ | ⟨_, _, _, h1, h2⟩ <;> omega
/-- What is padded comes back. -/
theorem unpS_pad {x : List Int} (h : padK x = 0) : unpS (padL x) = some x := by
  obtain ⟨R, e, _, hc, hl⟩ := padL_bytes h
  unfold unpS
  simp only
  have hb : bytesR 2000 (padL x) 0 = (x, R, 0) := by rw [e, bytesR_most _ _ _ (by omega) (by omega)]
  rw [hb]
  simp [h]
theorem unpS_some {b x : List Int} (h : unpS b = some x) : padK x = 0 ∧ padL x = b := by
  unfold unpS at h
  simp only at h
  split at h
  · rename_i hc
    injection h with h
    subst h
    exact hc.2
  · cases h
theorem sizes_apart : ∀ a b : Fin 7, sizeB (a.val : Int) ≠ sizeB (b.val : Int) + 1 := by decide
theorem padL_apart {x y : List Int} (hx : padK x = 0) (hy : padK y = 0) : (padL x).length ≠ (padL y).length + 1 := by
  obtain ⟨_, _, _, h1, _⟩ := padL_bytes hx
  obtain ⟨_, _, _, h2, _⟩ := padL_bytes hy
  rw [padL_len h1, padL_len h2]
  have s1 := sizeB_le (classB x.length)
  have s2 := sizeB_le (classB y.length)
  have r1 : classB x.length < 7 := by rcases classB_range x.length with h | h <;> omega
  have r2 : classB y.length < 7 := by rcases classB_range y.length with h | h <;> omega
  have h := sizes_apart ⟨(classB x.length).toNat, by omega⟩ ⟨(classB y.length).toNat, by omega⟩
  simp only [Int.toNat_of_nonneg h1, Int.toNat_of_nonneg h2] at h
  omega
/-- A byte more, or less: none. -/
theorem unpS_more {x : List Int} (h : padK x = 0) : unpS (padL x ++ [0]) = none := by
  cases hu : unpS (padL x ++ [0]) with
  | none => rfl
  | some y =>
    obtain ⟨h1, h2⟩ := unpS_some hu
    have := congrArg List.length h2
    rw [List.length_append] at this
    exact absurd this (padL_apart h1 h)
theorem unpS_less {x : List Int} (h : padK x = 0) : unpS ((padL x).take ((padL x).length - 1)) = none := by
  have hp : 0 < (padL x).length := by
    obtain ⟨R, e, _⟩ := padL_bytes h
    rw [e]
    have := numL_pos x.length
    simp only [List.length_append]
    omega
  cases hu : unpS ((padL x).take ((padL x).length - 1)) with
  | none => rfl
  | some y =>
    obtain ⟨h1, h2⟩ := unpS_some hu
    have := congrArg List.length h2
    rw [List.length_take] at this
    exact absurd (show (padL x).length = (padL y).length + 1 by omega) (padL_apart h h1)
/-- How the program tells it: parts of the test. -/
theorem unpS_none_bad {b : List Int} (hb : ∀ x ∈ b, 0 ≤ x ∧ x ≤ 255) (hl : b.length ≤ 2000) (h : (bytesR b.length b 0).2.2 ≠ 0) : unpS b = none := by
  cases hu : unpS b with
  | none => rfl
  | some y =>
    obtain ⟨h1, h2⟩ := unpS_some hu
    obtain ⟨R, e, _, _, hy⟩ := padL_bytes h1
    exfalso
    apply h
    rw [← h2, e, bytesR_most _ _ _ (by rw [← e]; have := congrArg List.length e; simp only [List.length_append] at this; omega) (by omega)]
theorem unpS_good {b x R : List Int} (hb : ∀ x ∈ b, 0 ≤ x ∧ x ≤ 255) (hl : b.length ≤ 2000) (h : bytesR b.length b 0 = (x, R, 0)) :
    b = numL x.length ++ x ++ R ∧ unpS b = if sizeB (classB x.length) = b.length ∧ (∀ y ∈ R, y = 0) then some x else none := by
  have hf := (bytesR_form (most := b.length) hb (by rw [h])).1
  rw [h] at hf
  simp only at hf
  refine ⟨hf, ?_⟩
  have hxl : x.length ≤ 2000 := by
    have := congrArg List.length hf
    simp only [List.length_append] at this
    omega
  have h2 : bytesR 2000 b 0 = (x, R, 0) := by
    rw [hf]
    exact bytesR_most _ _ _ (by omega) (by omega)
  unfold unpS
  simp only [h2, true_and]
  have hlen := congrArg List.length hf
  rw [List.length_append] at hlen
  by_cases hc : classB x.length < 0
  · have hs : sizeB (classB x.length) = 0 := by
      unfold sizeB
      rw [if_pos hc]
    rw [padK_no hc, if_neg (by rintro ⟨h, _⟩; exact absurd h (by decide)), if_neg]
    rintro ⟨h, _⟩
    rw [hs] at h
    have := numL_pos x.length
    simp only [List.length_append] at hlen
    omega
  · rw [padK_ok hc]
    have hp : padL x = numL x.length ++ x ++ List.replicate ((sizeB (classB x.length)).toNat - (numL x.length ++ x).length) 0 := by
      unfold padL
      rw [if_neg hc]
    have hfit := pad_fits (l := x) (by omega)
    have hs := sizeB_le (classB x.length)
    by_cases hz : sizeB (classB x.length) = b.length ∧ (∀ y ∈ R, y = 0)
    · rw [if_pos hz, if_pos]
      refine ⟨rfl, ?_⟩
      rw [hp, hf, hf.symm]
      conv => rhs; rw [hf]
      congr 1
      apply List.ext_getElem?
      intro i
      have e : (sizeB (classB x.length)).toNat - (numL x.length ++ x).length = R.length := by omega
      rw [e, List.getElem?_replicate]
      split
      · rename_i hi
        rw [List.getElem?_eq_getElem hi]
        congr 1
        exact (hz.2 _ (List.getElem_mem hi)).symm
      · rename_i hi
        rw [List.getElem?_eq_none (by omega)]
    · rw [if_neg hz, if_neg]
      rintro ⟨_, h⟩
      apply hz
      have hlen2 := padL_len (l := x) (by omega)
      rw [h] at hlen2
      refine ⟨by omega, ?_⟩
      have h3 : numL x.length ++ x ++ List.replicate ((sizeB (classB x.length)).toNat - (numL x.length ++ x).length) 0 = numL x.length ++ x ++ R := by rw [← hp, h]; exact hf
      have h4 := List.append_cancel_left h3
      rw [← h4]
      intro y hy
      exact (List.mem_replicate.1 hy).2
end Go.Proofs.Ytnmidmcmbehkbaa.K

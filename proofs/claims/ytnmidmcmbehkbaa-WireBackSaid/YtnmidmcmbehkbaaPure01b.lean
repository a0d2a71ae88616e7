/- wire's forms cut off, as plain law. -/
import Derived.Test.YtnmidmcmbehkbaaPure01
namespace Go.Proofs.Ytnmidmcmbehkbaa.K
open Go.RowKit Go.Proofs.YtnmidmcmbehkbaaW.PrintWords Go.Proofs.YtnmidmcmbehkbaaW.PrintLast Go.Proofs.YtnmidmcmbehkbaaW.PrintMore
set_option linter.unusedVariables false
set_option linter.unusedSimpArgs false

theorem widF_cut (n : Nat) : ∀ (i j : Nat), j < (numL n).length → widF i ((numL n).take j) = 0 := by
  induction n using Nat.strongRecOn with
  | _ n ih =>
  intro i j hj
  by_cases hlt : n < 128
  · rw [numL_small hlt] at hj ⊢
    simp at hj
    subst hj
    rfl
  · rw [numL_big hlt] at hj ⊢
    cases j with
    | zero => rfl
    | succ j =>
      simp only [List.length_cons] at hj
      simp only [List.take_succ_cons, widF]
      split
      · rfl
      · rw [if_neg (by omega)]
        exact ih (n / 128) (by omega) (i + 1) j (by omega)
theorem numR_cut (n : Nat) (R : List Int) (cut : Nat) (hn : n < 18446744073709551616) :
    numR ((numL n ++ R).take cut) 0 = if cut < (numL n).length then (0, [], 4) else (n, R.take (cut - (numL n).length), 0) := by
  by_cases h : cut < (numL n).length
  · rw [if_pos h, List.take_append_of_le_length (by omega)]
    unfold numR
    rw [if_pos rfl, if_pos (widF_cut n 0 cut h)]
  · rw [if_neg h, List.take_append, List.take_of_length_le (by omega), numR_put n _ hn]
theorem numR_dead : numR [] 4 = (0, [], 4) := rfl
theorem countR_dead (most : Int) : countR most [] 4 = (0, [], 4) := rfl
theorem bytesR_dead (most : Int) : bytesR most [] 4 = ([], [], 4) := rfl
theorem boolR_dead : boolR [] 4 = (false, [], 4) := rfl
theorem takeR_put (x R : List Int) : takeR x.length (x ++ R) 0 = (x, R, 0) := by
  unfold takeR
  simp
theorem countR_put (n : Nat) (R : List Int) (hn : n < 4611686018427387904) : countR n (numL n ++ R) 0 = ((n : Int), R, 0) := by
  unfold countR
  rw [numR_put n R (by omega)]
  simp only
  rw [if_neg (by simp), if_neg (by omega)]
theorem bytesR_put (x R : List Int) (hx : x.length < 4611686018427387904) : bytesR x.length (numL x.length ++ x ++ R) 0 = (x, R, 0) := by
  unfold bytesR
  rw [List.append_assoc, countR_put _ _ hx]
  simp only [Int.toNat_natCast]
  exact takeR_put x R
theorem bytesR_cut (x R : List Int) (cut : Nat) (hx : x.length < 4611686018427387904) :
    bytesR x.length ((numL x.length ++ (x ++ R)).take cut) 0 = if cut < (numL x.length).length + x.length then ([], [], 4) else (x, R.take (cut - (numL x.length).length - x.length), 0) := by
  unfold bytesR countR
  rw [numR_cut _ _ _ (by omega)]
  by_cases h : cut < (numL x.length).length
  · rw [if_pos h, if_pos (show cut < (numL x.length).length + x.length by omega)]
    rfl
  · rw [if_neg h]
    simp only
    rw [if_neg (by simp), if_neg (by omega)]
    simp only [Int.toNat_natCast]
    by_cases h2 : cut < (numL x.length).length + x.length
    · rw [if_pos h2, takeR, if_neg (by simp), if_pos (by rw [List.length_take, List.length_append]; omega)]
    · rw [if_neg h2, List.take_append, List.take_of_length_le (by omega), takeR_put]
theorem boolR_put (b : Bool) (R : List Int) : boolR ((if b then 1 else 0) :: R) 0 = (b, R, 0) := by
  unfold boolR takeR
  cases b <;> simp [rd]

/-- What was put, read on: the four forms, one behind the other. -/
def putL (n : Nat) (m : Int) (x : List Int) (is : Bool) : List Int := numL n ++ (numL (zz m) ++ (numL x.length ++ (x ++ [if is then 1 else 0])))
/-- A beginning of it is not whole. -/
theorem put_cut (n : Nat) (m : Int) (x : List Int) (is : Bool) (cut : Nat) (hn : n < 18446744073709551616) (hm : zz m < 18446744073709551616) (hx : x.length < 4611686018427387904) (hc : cut < (putL n m x is).length) :
    ∀ s1 s2 s3 s4 : List Int × Int, (numR ((putL n m x is).take cut) 0).2 = s1 → (numR s1.1 s1.2).2 = s2 → (bytesR x.length s2.1 s2.2).2 = s3 → (boolR s3.1 s3.2).2 = s4 → s4 = ([], 4) := by
  rintro s1 s2 s3 s4 rfl rfl rfl rfl
  unfold putL at hc ⊢
  simp only [List.length_append, List.length_cons, List.length_nil] at hc
  rw [numR_cut _ _ _ hn]
  by_cases h1 : cut < (numL n).length
  · rw [if_pos h1]
    rfl
  · rw [if_neg h1]
    simp only
    rw [numR_cut _ _ _ hm]
    by_cases h2 : cut - (numL n).length < (numL (zz m)).length
    · rw [if_pos h2]
      rfl
    · rw [if_neg h2]
      simp only
      rw [bytesR_cut _ _ _ hx]
      by_cases h3 : cut - (numL n).length - (numL (zz m)).length < (numL x.length).length + x.length
      · rw [if_pos h3]
        rfl
      · rw [if_neg h3]
        simp only
        have e : cut - (numL n).length - (numL (zz m)).length - (numL x.length).length - x.length = 0 := by omega
        rw [e]
        rfl
end Go.Proofs.Ytnmidmcmbehkbaa.K

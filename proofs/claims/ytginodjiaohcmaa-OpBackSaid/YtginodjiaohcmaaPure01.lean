/- wire's forms, as plain law: what is taken is the form of it, and what was put is taken. -/
import Derived.Test.YtginodjiaohcmaaRef01
namespace Go.Proofs.Ytginodjiaohcmaa.K
open Go.RowKit Go.Proofs.YtginodjiaohcmaaW.PrintWords Go.Proofs.YtginodjiaohcmaaW.PrintLast Go.Proofs.YtginodjiaohcmaaW.PrintMore
set_option linter.unusedVariables false
set_option linter.unusedSimpArgs false

theorem widF_ge (i : Nat) (l : List Int) (h : widF i l ≠ 0) : i + 1 ≤ widF i l := by
  induction l generalizing i with
  | nil => simp [widF] at h
  | cons c r ih =>
    simp only [widF] at h ⊢
    by_cases h9 : i = 9 ∧ c ≠ 1
    · rw [if_pos h9] at h
      exact absurd rfl h
    · rw [if_neg h9] at h ⊢
      by_cases h1 : c < 128
      · rw [if_pos h1] at h ⊢
        by_cases h0 : c = 0 ∧ 0 < i
        · rw [if_pos h0] at h
          exact absurd rfl h
        · rw [if_neg h0]
          omega
      · rw [if_neg h1] at h ⊢
        have := ih (i + 1) h
        omega
/-- The bytes of a number, up to its end: its form. -/
theorem numL_valF (i : Nat) (l : List Int) (hb : ∀ x ∈ l, 0 ≤ x ∧ x ≤ 255) (hi : widF i l ≠ 0) :
    numL (valF (l.take (widF i l - i))) = l.take (widF i l - i) ∧ (0 < i → 0 < valF (l.take (widF i l - i))) := by
  induction l generalizing i with
  | nil => simp [widF] at hi
  | cons c r ih =>
    have hc := hb c (by simp)
    by_cases h9 : i = 9 ∧ c ≠ 1
    · simp [widF, h9] at hi
    · by_cases h1 : c < 128
      · by_cases h0 : c = 0 ∧ 0 < i
        · simp [widF, h9, h1, h0] at hi
        · have e : widF i (c :: r) = i + 1 := by simp only [widF]; rw [if_neg h9, if_pos h1, if_neg h0]
          rw [e]
          have e2 : i + 1 - i = 1 := by omega
          rw [e2]
          simp only [List.take_succ_cons, List.take_zero, valF]
          have e3 : (c % 128).toNat + 128 * 0 = c.toNat := by omega
          rw [e3]
          constructor
          · rw [numL_small (by omega)]
            congr 1
            omega
          · intro hp
            omega
      · have e : widF i (c :: r) = widF (i + 1) r := by simp only [widF]; rw [if_neg h9, if_neg h1]
        rw [e] at hi ⊢
        have hge := widF_ge (i + 1) r hi
        have e2 : widF (i + 1) r - i = (widF (i + 1) r - (i + 1)) + 1 := by omega
        rw [e2]
        simp only [List.take_succ_cons, valF]
        obtain ⟨h2, h3⟩ := ih (i + 1) (fun x hx => hb x (by simp [hx])) hi
        have h4 := h3 (by omega)
        obtain ⟨m, hm⟩ : ∃ m, m = valF (r.take (widF (i + 1) r - (i + 1))) := ⟨_, rfl⟩
        rw [← hm] at h2 h3 h4 ⊢
        refine ⟨?_, fun _ => by omega⟩
        have hlt : ¬ ((c % 128).toNat + 128 * m) < 128 := by omega
        rw [numL_big hlt]
        have e3 : ((c % 128).toNat + 128 * m) / 128 = m := by omega
        have e4 : ((((c % 128).toNat + 128 * m) % 128 + 128 : Nat) : Int) = c := by omega
        rw [e3, e4, h2]
/-- What was put is taken. -/
theorem numL_wid (i n : Nat) (rest : List Int) (hn : n * 128 ^ i < 18446744073709551616) (hi : i ≤ 9) (h0 : 0 < i → 0 < n) :
    widF i (numL n ++ rest) = i + (numL n).length ∧ valF (numL n) = n := by
  induction n using Nat.strongRecOn generalizing i with
  | _ n ih =>
  by_cases hlt : n < 128
  · rw [numL_small hlt]
    constructor
    · simp only [List.singleton_append, widF, List.length_singleton]
      have h9 : ¬ (i = 9 ∧ (n : Int) ≠ 1) := by
        rintro ⟨rfl, h⟩
        have := h0 (by omega)
        omega
      rw [if_neg h9, if_pos (by omega), if_neg (by rintro ⟨h, hp⟩; have := h0 hp; omega)]
    · simp only [valF]
      omega
  · rw [numL_big hlt]
    have hi9 : i ≠ 9 := by
      rintro rfl
      omega
    have hq : (n / 128) * 128 ^ (i + 1) < 18446744073709551616 := by
      rw [Nat.pow_succ, Nat.mul_comm (128 ^ i), ← Nat.mul_assoc]
      exact Nat.lt_of_le_of_lt (Nat.mul_le_mul_right _ (Nat.div_mul_le_self n 128)) hn
    obtain ⟨h1, h2⟩ := ih (n / 128) (by omega) (i + 1) hq (by omega) (fun _ => by omega)
    constructor
    · simp only [List.cons_append, widF, List.length_cons]
      rw [if_neg (by omega), if_neg (by omega), h1]
      omega
    · simp only [valF, h2]
      omega
theorem numL_BL (n : Nat) : ∀ x ∈ numL n, 0 ≤ x ∧ x ≤ 255 := by
  induction n using Nat.strongRecOn with
  | _ n ih =>
  by_cases hlt : n < 128
  · rw [numL_small hlt]
    intro x hx
    simp at hx
    omega
  · rw [numL_big hlt]
    intro x hx
    simp at hx
    rcases hx with rfl | hx
    · omega
    · exact ih (n / 128) (by omega) x hx

/-- Num takes a number's form. -/
theorem numR_put (n : Nat) (rest : List Int) (hn : n < 18446744073709551616) : numR (numL n ++ rest) 0 = (n, rest, 0) := by
  obtain ⟨h1, h2⟩ := numL_wid 0 n rest (by simpa using hn) (by omega) (by omega)
  have hp := numL_pos n
  simp only [Nat.zero_add] at h1
  unfold numR
  rw [if_pos rfl, h1, if_neg (by omega), List.take_left, List.drop_left, h2]
theorem done_ok {l : List Int} {k : Int} (h : doneR l k = 0) : k = 0 ∧ l = [] := by
  unfold doneR at h
  split at h
  · simp at h
  · rename_i h2
    refine ⟨h, ?_⟩
    subst h
    exact List.eq_nil_of_length_eq_zero (by omega)
/-- What is taken as a number is its form, and what is left. -/
theorem numR_form {l : List Int} (hb : ∀ x ∈ l, 0 ≤ x ∧ x ≤ 255) (h : (numR l 0).2.2 = 0) : l = numL (numR l 0).1 ++ (numR l 0).2.1 := by
  unfold numR at h ⊢
  rw [if_pos rfl] at h ⊢
  by_cases hw : widF 0 l = 0
  · rw [if_pos hw] at h
    simp at h
  · rw [if_neg hw]
    have := (numL_valF 0 l hb hw).1
    simp only [Nat.sub_zero] at this
    rw [this, List.take_append_drop]
theorem one_num {l : List Int} (hb : ∀ x ∈ l, 0 ≤ x ∧ x ≤ 255) (h : doneR (numR l 0).2.1 (numR l 0).2.2 = 0) : numL (numR l 0).1 = l := by
  obtain ⟨h1, h2⟩ := done_ok h
  have h3 := numR_form hb h1
  rw [h2, List.append_nil] at h3
  exact h3.symm
theorem takeR_zero {n : Nat} {l : List Int} {k : Int} (h : (takeR n l k).2.2 = 0) : k = 0 ∧ n ≤ l.length ∧ takeR n l k = (l.take n, l.drop n, 0) := by
  unfold takeR at h
  by_cases hk : k = 0
  · subst hk
    by_cases hl : l.length < n
    · simp [hl] at h
    · refine ⟨rfl, by omega, ?_⟩
      unfold takeR
      simp [hl]
  · simp [hk] at h
theorem countR_zero {most : Int} {l : List Int} {k : Int} (h : (countR most l k).2.2 = 0) : (numR l k).2.2 = 0 ∧ (countR most l k).1 = (numR l k).1 ∧ (countR most l k).2.1 = (numR l k).2.1 ∧ ((numR l k).1 : Int) ≤ most := by
  unfold countR at h ⊢
  by_cases hk : (numR l k).2.2 = 0
  · rw [if_neg (by simp [hk])] at h ⊢
    by_cases hm : most < 0 ∨ 4611686018427387904 ≤ (numR l k).1 ∨ most < (numR l k).1
    · rw [if_pos hm] at h
      simp at h
    · rw [if_neg hm]
      exact ⟨hk, rfl, rfl, by omega⟩
  · rw [if_pos hk] at h
    exact absurd h hk
theorem bytesR_form {most : Int} {l : List Int} (hb : ∀ x ∈ l, 0 ≤ x ∧ x ≤ 255) (h : (bytesR most l 0).2.2 = 0) :
    l = numL (bytesR most l 0).1.length ++ (bytesR most l 0).1 ++ (bytesR most l 0).2.1 ∧ ((bytesR most l 0).1.length : Int) ≤ most := by
  unfold bytesR at h ⊢
  obtain ⟨h1, h2, h3⟩ := takeR_zero h
  obtain ⟨h4, h5, h6, h7⟩ := countR_zero h1
  rw [h3]
  have h8 := numR_form hb h4
  rw [h5, Int.toNat_natCast, h6] at h2 ⊢
  simp only
  rw [List.length_take, Nat.min_eq_left h2, List.append_assoc, List.take_append_drop]
  exact ⟨h8, h7⟩
theorem one_bytes {most : Int} {l : List Int} (hb : ∀ x ∈ l, 0 ≤ x ∧ x ≤ 255) (h : doneR (bytesR most l 0).2.1 (bytesR most l 0).2.2 = 0) :
    numL (bytesR most l 0).1.length ++ (bytesR most l 0).1 = l := by
  obtain ⟨h1, h2⟩ := done_ok h
  have h3 := (bytesR_form hb h1).1
  rw [h2, List.append_nil] at h3
  exact h3.symm
theorem bytesR_len (most : Int) (l : List Int) (k : Int) : (bytesR most l k).1.length ≤ l.length := by
  unfold bytesR takeR
  split
  · simp
  · split
    · simp
    · simp only [List.length_take]
      have : (countR most l k).2.1.length ≤ l.length := by
        unfold countR
        split
        · unfold numR
          split
          · split <;> simp
          · simp
        · split
          · simp
          · unfold numR
            split
            · split <;> simp
            · simp
      omega
end Go.Proofs.Ytginodjiaohcmaa.K

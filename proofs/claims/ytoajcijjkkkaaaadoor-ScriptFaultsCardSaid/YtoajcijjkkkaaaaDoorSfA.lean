/- ScriptFaults: the plain law. -/
import Derived.Test.YtoajcijjkkkaaaaDoorScZ
namespace Go.Proofs.YtoajcijjkkkaaaaDoor.K
open Go.RowKit
set_option linter.unusedVariables false
set_option linter.unusedSimpArgs false

/-- How many empty lines and notes begin, when the line has begun or not. -/
def rst : Bool → Bs → Nat
  | b, [] => if b then 1 else 0
  | b, c :: l => (if b && (c == 10 || c == 35) then 1 else 0) + rst (c == 10) l
theorem rst_both : ∀ l : Bs, rst true l = (lns l).countP skp ∧ rst false l = ((lns l).tail).countP skp
  | [] => ⟨rfl, rfl⟩
  | c :: l => by
    obtain ⟨h1, h2⟩ := rst_both l
    by_cases hc : c = 10
    · subst hc
      rw [lns_nl]
      have e : ((10 : UInt8) == 10) = true := rfl
      constructor
      · unfold rst
        rw [e, h1, List.countP_cons]
        simp [skp]
        omega
      · unfold rst
        rw [e, h1]
        simp
    · obtain ⟨h, t, e⟩ := List.exists_cons_of_ne_nil (lns_ne l)
      rw [lns_other hc e]
      rw [e] at h2
      have e10 : (c == 10) = false := by rw [beq_eq_false_iff_ne]; exact hc
      constructor
      · unfold rst
        rw [e10, h2, List.countP_cons]
        simp only [List.tail_cons, Bool.true_and, Bool.false_or, skp, List.isEmpty_cons, List.head?_cons]
        by_cases h35 : c = 35
        · subst h35; simp; omega
        · simp [h35]
      · unfold rst
        rw [e10, h2]
        simp
theorem rst_all (l : Bs) : rst true l = (lns l).countP skp := (rst_both l).1
theorem lns_count (l : Bs) : (lns l).length = 1 + l.count 10 := by
  induction l with
  | nil => rfl
  | cons c l ih =>
    by_cases hc : c = 10
    · subst hc; rw [lns_nl, List.length_cons, ih]; simp; omega
    · obtain ⟨h, t, e⟩ := List.exists_cons_of_ne_nil (lns_ne l)
      rw [lns_other hc e, List.count_cons_of_ne (by simpa using hc), ← ih, e]
      rfl
theorem all_lines : ∀ (i : Nat) (ls : List Bs), (stepsOf ls).length + (fauOf i ls).length + ls.countP skp = ls.length
  | i, [] => rfl
  | i, t :: ls => by
    have ih := all_lines (i + 1) ls
    have e : stepsOf (t :: ls) = stepOf t ++ stepsOf ls := by simp [stepsOf]
    rw [e, List.length_append, List.countP_cons, List.length_cons]
    unfold fauOf stepOf badL
    cases h : skp t
    · cases hw : whole t <;> simp <;> omega
    · simp; omega
theorem fau_rise : ∀ (i : Nat) (ls : List Bs), (∀ x ∈ fauOf i ls, i ≤ x ∧ x < i + ls.length) ∧ List.Pairwise (· < ·) (fauOf i ls)
  | i, [] => ⟨by simp [fauOf], by simp [fauOf]⟩
  | i, t :: ls => by
    obtain ⟨h1, h2⟩ := fau_rise (i + 1) ls
    unfold fauOf
    split
    · refine ⟨fun x hx => ?_, List.pairwise_cons.2 ⟨fun x hx => ?_, h2⟩⟩
      · rcases List.mem_cons.1 hx with rfl | hx
        · simp
        · have := h1 x hx; simp only [List.length_cons]; omega
      · have := h1 x hx; omega
    · exact ⟨fun x hx => by have := h1 x hx; simp only [List.length_cons]; omega, h2⟩
/-- The k-th fault. -/
theorem fau_at {ls : List Bs} {k : Nat} (hk : k < (fauOf 0 ls).length) : (fauOf 0 ls)[k] < ls.length := by
  have := (fau_rise 0 ls).1 _ (List.getElem_mem hk)
  omega
theorem fau_next {ls : List Bs} {k : Nat} (hk : k + 1 < (fauOf 0 ls).length) : (fauOf 0 ls)[k] < (fauOf 0 ls)[k + 1] :=
  List.pairwise_iff_getElem.1 (fau_rise 0 ls).2 k (k + 1) (by omega) hk (by omega)
end Go.Proofs.YtoajcijjkkkaaaaDoor.K

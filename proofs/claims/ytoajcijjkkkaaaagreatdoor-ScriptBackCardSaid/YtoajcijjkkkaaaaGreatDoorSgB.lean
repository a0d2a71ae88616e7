/- What is shown is read as it was: plain. -/
import Derived.Test.YtoajcijjkkkaaaaGreatDoorSgA
namespace Go.Proofs.YtoajcijjkkkaaaaGreatDoor.K
open Go.RowKit
set_option linter.unusedVariables false
set_option linter.unusedSimpArgs false

def note : Bs := [35, 32, 110, 111, 116, 101]
theorem line_nl {x : Stp} (hR : rightB x = true) : ∀ c ∈ line x, c ≠ 10 := fun c hc h => by
  have := line_clean hR c hc
  subst h
  exact absurd this.1 (by decide)
theorem lns_show : ∀ (l : List Stp), l.all rightB = true → lns (showT l) = l.map line ++ [[]]
  | [], _ => rfl
  | x :: l, h => by
    simp only [List.all_cons, Bool.and_eq_true] at h
    have e : showT (x :: l) = line x ++ 10 :: showT l := by simp [showT]
    rw [e, lns_app _ _ (line_nl h.1), lns_show l h.2]
    rfl
theorem lns_note (l : List Stp) (h : l.all rightB = true) : lns (note ++ 10 :: 10 :: showT l) = note :: [] :: (l.map line ++ [[]]) := by
  rw [lns_app _ _ (by decide), lns_nl, lns_show l h]
theorem skp_line {x : Stp} (hR : rightB x = true) : skp (line x) = false := by
  obtain ⟨c, r, e, h1, h2⟩ := line_head hR
  unfold skp
  rw [e]
  have : (c == 35) = false := by
    rw [beq_eq_false_iff_ne]
    rintro rfl
    exact absurd h1 (by decide)
  simpa using this
theorem whole_line {x : Stp} (hR : rightB x = true) : whole (line x) = some x := whole_iff.2 ⟨hR, rfl⟩
theorem stepOf_line {x : Stp} (hR : rightB x = true) : stepOf (line x) = [x] := by
  unfold stepOf
  rw [skp_line hR, whole_line hR]
  rfl
theorem badL_line {x : Stp} (hR : rightB x = true) : badL (line x) = false := by
  unfold badL
  rw [skp_line hR, whole_line hR]
  rfl
theorem steps_lines : ∀ (l : List Stp), l.all rightB = true → stepsOf (l.map line ++ [[]]) = l
  | [], _ => rfl
  | x :: l, h => by
    simp only [List.all_cons, Bool.and_eq_true] at h
    have e : stepsOf ((x :: l).map line ++ [[]]) = stepOf (line x) ++ stepsOf (l.map line ++ [[]]) := by simp [stepsOf]
    rw [e, stepOf_line h.1, steps_lines l h.2]
    rfl
theorem fau_lines : ∀ (i : Nat) (l : List Stp), l.all rightB = true → fauOf i (l.map line ++ [[]]) = []
  | i, [], _ => rfl
  | i, x :: l, h => by
    simp only [List.all_cons, Bool.and_eq_true] at h
    have e : (x :: l).map line ++ [[]] = line x :: (l.map line ++ [[]]) := rfl
    rw [e]
    unfold fauOf
    rw [badL_line h.1, fau_lines (i + 1) l h.2]
    rfl
/-- What is shown, behind a note and an empty line, is read as it was. -/
theorem read_back (l : List Stp) (h : l.all rightB = true) : stepsOf (lns (note ++ 10 :: 10 :: showT l)) = l ∧ fauOf 0 (lns (note ++ 10 :: 10 :: showT l)) = [] := by
  rw [lns_note l h]
  constructor
  · have e : stepsOf (note :: [] :: (l.map line ++ [[]])) = stepOf note ++ (stepOf [] ++ stepsOf (l.map line ++ [[]])) := by simp [stepsOf]
    rw [e, steps_lines l h]
    rfl
  · have e1 : badL note = false := rfl
    have e2 : badL [] = false := rfl
    unfold fauOf
    rw [e1]
    unfold fauOf
    rw [e2, fau_lines _ l h]
    rfl
theorem of_to (x : SS) : ofStp (toStp x) = x := by
  obtain ⟨a, b, p, q, n, m, k⟩ := x
  unfold ofStp toStp
  simp only [ba_self]
/-- A quoted text is unquoted to itself, whatever is behind it. -/
theorem unq_back (t r : Bs) (h : t.length ≤ 500) : unqO (quote t ++ r) = some (t, r) := unqO_iff.2 ⟨rfl, h⟩
end Go.Proofs.YtoajcijjkkkaaaaGreatDoor.K

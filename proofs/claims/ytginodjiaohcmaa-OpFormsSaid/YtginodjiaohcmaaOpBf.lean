/- cachetteref15.Right: which operations are right. -/
import Derived.Test.YtginodjiaohcmaaOpB
import Derived.Test.YtginodjiaohcmaaX4
namespace Go.Proofs.Ytginodjiaohcmaa.K
open Go.RowKit Go.Proofs.YtginodjiaohcmaaW.PrintWords Go.Proofs.YtginodjiaohcmaaW.PrintLast Go.Proofs.YtginodjiaohcmaaW.PrintMore
set_option linter.unusedVariables false
set_option linter.unusedSimpArgs false

theorem fright_j0 (k : Nat) (k0 t a u b p c : Int) (d : Bool) (s : ByteArray) (l : List Int) (h : X.cachetteref15_Name.f k s = some (nameB s)) :
    X.cachetteref15_Right.j0 (k + 1) true k0 t a u b p c d s l = some false ∧
    X.cachetteref15_Right.j0 (k + 1) false k0 t a u b p c d s l = some (if k0 = 1 then placeS p c && (nameB s && (u == t && b == a)) else if k0 = 2 then placeS p c && nameB s
     else if k0 = 3 then (p == 0 && c == 0) && s.toList == [] else if k0 = 4 then (p == 0 && c == 0) && (s.toList == [] && decide (l.length ≤ 400)) else false) := by
  refine ⟨by simp [X.cachetteref15_Right.j0], ?_⟩
  simp only [X.cachetteref15_Right.j0, fplace_f, h, Option.bind_some, Bool.false_eq_true, if_false]
  by_cases h1 : k0 = 1
  · simp only [h1, if_true]
    cases placeS p c <;> cases nameB s <;> cases (u == t && b == a) <;> rfl
  · rw [if_neg h1, if_neg h1]
    by_cases h2 : k0 = 2
    · simp only [h2, if_true]
      cases placeS p c <;> cases nameB s <;> rfl
    · rw [if_neg h2, if_neg h2]
      by_cases h3 : k0 = 3
      · simp only [h3, if_true]
        cases (p == 0 && c == 0) <;> rfl
      · rw [if_neg h3, if_neg h3]
        by_cases h4 : k0 = 4
        · simp only [h4, if_true]
          have e : decide ((l.length : Int) ≤ 400) = decide (l.length ≤ 400) := by rw [Bool.eq_iff_iff]; simp only [decide_eq_true_eq]; omega
          rw [e]
          cases (p == 0 && c == 0)
          · rfl
          · by_cases h5 : s.toList = []
            · simp [h5]
            · simp [h5]
        · rw [if_neg h4, if_neg h4]
theorem fright_o (k0 t a u b p c : Int) (d : Bool) (s : ByteArray) (l : List Int) : ∃ k, X.cachetteref15_Right.f k k0 t a u b p c d s l = some (rightO k0 t a u b p c d s l.length) := by
  obtain ⟨k, hk⟩ := fname_f s
  refine ⟨k + 1, ?_⟩
  obtain ⟨e1, e2⟩ := fright_j0 k k0 t a u b p c d s l hk
  have e3 : ∀ d', X.cachetteref15_Right.j0 (k + 1) d' k0 t a u b p c d s l = some (!d' && (if k0 = 1 then placeS p c && (nameB s && (u == t && b == a)) else if k0 = 2 then placeS p c && nameB s
     else if k0 = 3 then (p == 0 && c == 0) && s.toList == [] else if k0 = 4 then (p == 0 && c == 0) && (s.toList == [] && decide (l.length ≤ 400)) else false)) := by
    intro d'
    cases d'
    · rw [e2]; rfl
    · rw [e1]; rfl
  unfold X.cachetteref15_Right.f rightO
  obtain ⟨R, hR⟩ : ∃ R, (if k0 = 1 then placeS p c && (nameB s && (u == t && b == a)) else if k0 = 2 then placeS p c && nameB s
     else if k0 = 3 then (p == 0 && c == 0) && s.toList == [] else if k0 = 4 then (p == 0 && c == 0) && (s.toList == [] && decide (l.length ≤ 400)) else false) = R := ⟨_, rfl⟩
  rw [hR] at e3
  rw [hR, fright_f, fright_f]
  simp only [Option.bind_some, e3]
  have e4 : ((l.length : Int) > 0) = (0 < l.length) := propext ⟨fun h => by omega, fun h => by omega⟩
  simp only [e4]
  cases rightS t a <;> cases rightS u b <;> cases d <;> by_cases h1 : k0 = 1 <;> by_cases h4 : k0 = 4 <;> by_cases h0 : 0 < l.length <;> simp_all
theorem fright_calls (k0 t a u b p c : Int) (d : Bool) (s : ByteArray) (v : Value) (l : List Int) (w : World) (hr : Rd w v l) :
    Calls Try.prog 15 #[.agg #[.int .i64 k0, .int .i64 t, .int .i64 a, .int .i64 u, .int .i64 b, .int .i64 p, .int .i64 c, .bool d, .string s, v]] w fun e w' => e = .returned (.bool (rightO k0 t a u b p c d s l.length)) ∧ Below w.heap.size w w' := by
  obtain ⟨A, c0, rfl, hc, hC⟩ := hr
  obtain ⟨k, hk⟩ := fright_o k0 t a u b p c d s l
  exact X.cachetteref15_Right.calls k k0 t a u b p c d s A c0 l _ w hC hc hk
end Go.Proofs.Ytginodjiaohcmaa.K

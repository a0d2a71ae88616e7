/- wire.Reader: what a nil one answers; and once more when it is wrong. -/
import Derived.Test.YtnmidmcmbehkbaaRef01
namespace Go.Proofs.Ytnmidmcmbehkbaa.K
open Go.RowKit Go.Proofs.YtnmidmcmbehkbaaW.PrintWords Go.Proofs.YtnmidmcmbehkbaaW.PrintLast Go.Proofs.YtnmidmcmbehkbaaW.PrintMore
set_option linter.unusedVariables false
set_option linter.unusedSimpArgs false

set_option maxHeartbeats 400000 in
theorem ok_nil (w : World) : Calls Try.prog 55 #[.pointer none] w fun e w' => e = .returned (.bool false) ∧ Drawn0 w w' := by
  go_enter Try.func55, Try.ntmps55
  go_wp2
  go_ret
  exact ⟨rfl, by repeat (first | exact Drawn0.refl _ | apply Drawn0.step)⟩

set_option maxHeartbeats 400000 in
theorem num_nil (w : World) : Calls Try.prog 35 #[.pointer none] w fun e w' => e = .returned (.int .u64 0) ∧ Drawn0 w w' := by
  go_enter Try.func35, Try.ntmps35
  go_wp2_with (go_at_call 55; go_must ((refine (ok_nil _).mono ?_; rintro e w1 ⟨rfl, ⟨m1, rfl⟩⟩)))
  go_ret
  exact ⟨rfl, by repeat (first | exact Drawn0.refl _ | apply Drawn0.step)⟩

set_option maxHeartbeats 400000 in
theorem count_nil (most : Int) (w : World) : Calls Try.prog 41 #[.pointer none, .int .i64 most] w fun e w' => e = .returned (.int .i64 0) ∧ Drawn0 w w' := by
  go_enter Try.func41, Try.ntmps41
  go_wp2_with (first
    | (go_at_call 35; go_must ((refine (num_nil _).mono ?_; rintro e w1 ⟨rfl, ⟨m1, rfl⟩⟩)))
    | (go_at_call 55; go_must ((refine (ok_nil _).mono ?_; rintro e w1 ⟨rfl, ⟨m1, rfl⟩⟩))))
  go_ret
  exact ⟨rfl, by repeat (first | exact Drawn0.refl _ | apply Drawn0.step)⟩

set_option maxHeartbeats 400000 in
theorem take_nil (n : Int) (w : World) : Calls Try.prog 58 #[.pointer none, .int .i64 n] w fun e w' => e = .returned (.slice none 0 0) ∧ Drawn0 w w' := by
  go_enter Try.func58, Try.ntmps58
  go_wp2_with (go_at_call 55; go_must ((refine (ok_nil _).mono ?_; rintro e w1 ⟨rfl, ⟨m1, rfl⟩⟩)))
  go_ret
  exact ⟨rfl, by repeat (first | exact Drawn0.refl _ | apply Drawn0.step)⟩

set_option maxHeartbeats 400000 in
theorem bytes_nil (most : Int) (w : World) : Calls Try.prog 38 #[.pointer none, .int .i64 most] w fun e w' => e = .returned (.slice none 0 0) ∧ Drawn0 w w' := by
  go_enter Try.func38, Try.ntmps38
  go_wp2_with (first
    | (go_at_call 41; go_must ((refine (count_nil most _).mono ?_; rintro e w1 ⟨rfl, ⟨m1, rfl⟩⟩)))
    | (go_at_call 58; go_must ((refine (take_nil 0 _).mono ?_; rintro e w1 ⟨rfl, ⟨m1, rfl⟩⟩))))
  go_ret
  exact ⟨rfl, by repeat (first | exact Drawn0.refl _ | apply Drawn0.step)⟩

set_option maxHeartbeats 400000 in
theorem bool_nil (w : World) : Calls Try.prog 45 #[.pointer none] w fun e w' => e = .returned (.bool false) ∧ Drawn0 w w' := by
  go_enter Try.func45, Try.ntmps45
  go_wp2_with (go_at_call 58; go_must ((refine (take_nil 1 _).mono ?_; rintro e w1 ⟨rfl, ⟨m1, rfl⟩⟩)))
  go_ret
  exact ⟨rfl, by repeat (first | exact Drawn0.refl _ | apply Drawn0.step)⟩

set_option maxHeartbeats 400000 in
theorem left_nil (w : World) : Calls Try.prog 47 #[.pointer none] w fun e w' => e = .returned (.int .i64 0) ∧ Drawn0 w w' := by
  go_enter Try.func47, Try.ntmps47
  go_wp2_with (go_at_call 55; go_must ((refine (ok_nil _).mono ?_; rintro e w1 ⟨rfl, ⟨m1, rfl⟩⟩)))
  go_ret
  exact ⟨rfl, by repeat (first | exact Drawn0.refl _ | apply Drawn0.step)⟩

set_option maxHeartbeats 400000 in
theorem done_nil (w : World) : Calls Try.prog 36 #[.pointer none] w fun e w' => e = .returned (.int .i64 4) ∧ Drawn0 w w' := by
  go_enter Try.func36, Try.ntmps36
  go_wp2
  go_ret
  exact ⟨rfl, by repeat (first | exact Drawn0.refl _ | apply Drawn0.step)⟩

theorem numR_wrong {l : List Int} {k : Int} (h : k ≠ 0) : numR l k = (0, l, k) := by rw [numR, if_neg h]
theorem countR_wrong {most : Int} {l : List Int} {k : Int} (h : k ≠ 0) : countR most l k = (0, l, k) := by
  unfold countR
  rw [numR_wrong h, if_pos h]
theorem takeR_wrong {n : Nat} {l : List Int} {k : Int} (h : k ≠ 0) : takeR n l k = ([], l, k) := by rw [takeR, if_pos h]
theorem bytesR_wrong {most : Int} {l : List Int} {k : Int} (h : k ≠ 0) : bytesR most l k = ([], l, k) := by
  unfold bytesR
  rw [countR_wrong h]
  exact takeR_wrong h
theorem boolR_wrong {l : List Int} {k : Int} (h : k ≠ 0) : boolR l k = (false, l, k) := by
  unfold boolR
  rw [takeR_wrong h, if_pos rfl]
theorem doneR_wrong {l : List Int} {k : Int} (h : k ≠ 0) : doneR l k = k := by rw [doneR, if_neg (by intro h2; exact h h2.1)]
theorem countR_neg (l : List Int) (k : Int) : (countR (-1) l k).2.2 ≠ 0 := by
  unfold countR
  by_cases h : (numR l k).2.2 ≠ 0
  · rw [if_pos h]; exact h
  · rw [if_neg h, if_pos (.inl (by decide))]
    decide
end Go.Proofs.Ytnmidmcmbehkbaa.K

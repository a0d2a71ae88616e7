/- cachettelaw15.Light at one operation. -/
import Derived.Test.YtginodjiaohcmaaOpL
namespace Go.Proofs.Ytginodjiaohcmaa.K
open Go.RowKit Go.Proofs.YtginodjiaohcmaaW.PrintWords Go.Proofs.YtginodjiaohcmaaW.PrintLast Go.Proofs.YtginodjiaohcmaaW.PrintMore
set_option linter.unusedVariables false
set_option linter.unusedSimpArgs false

set_option maxRecDepth 100000 in
set_option maxHeartbeats 2000000 in
theorem light_calls (g : Nat) (k t a u b p c : Int) (d : Bool) (s : ByteArray) (A : Option Addr) (n c0 : Nat) (w : World) (hb : w.heap[g]? = some (.cells #[.int .i64 k, .int .i64 t, .int .i64 a, .int .i64 u, .int .i64 b, .int .i64 p, .int .i64 c, .bool d, .string s, (.slice A n c0)] 26 (0, 0))) :
    Calls Try.prog 6 #[.slice (some ⟨g, 0, none⟩) 1 1, .int .i64 1] w fun e w' => e = .returned (.bool (decide ((s.size : Int) ≤ 40 ∧ (n : Int) ≤ 500))) ∧ Drawn0 w w' := by
  have hu2 := Try.underlying26
  obtain ⟨q0, q1, q2, q3, q4, q5, q6, q7, q8, q9⟩ := cells10 hb
  clear hb
  obtain ⟨lt, hlt⟩ : ∃ lt, decide ((s.size : Int) ≤ 40 ∧ (n : Int) ≤ 500) = lt := ⟨_, rfl⟩
  rw [hlt]
  have HR := Aside0.mk hlt
  clear hlt
  go_enter Try.func6, Try.ntmps6
  go_wp2
  go_loopw [5] (fun v5 wr => ∃ i : Nat, v5 = .int .i64 i ∧ i ≤ 1 ∧ Aside0 (i = 1 → (s.size : Int) ≤ 40 ∧ (n : Int) ≤ 500) ∧ Drawn0 w wr) (fun v5 _ => 1 - (intOf v5).toNat)
  case atStart => exact ⟨0, rfl, by omega, ⟨fun h => absurd h (by omega)⟩, Drawn0.refl _⟩
  case round =>
    obtain ⟨i, rfl, hi, HL, ⟨m1, rfl⟩⟩ := hrel
    rcases i with _ | i
    · by_cases a1 : (40 : Int) < (s.size : Int)
      · go_wp2
        go_ret
        exact ⟨by rw [← HR.out, decide_eq_false (fun h => by omega)]; first | rfl | simp, by repeat (first | exact Drawn0.refl _ | apply Drawn0.step)⟩
      · by_cases a2 : (500 : Int) < (n : Int)
        · go_wp2
          go_ret
          exact ⟨by rw [← HR.out, decide_eq_false (fun h => by omega)]; first | rfl | simp, by repeat (first | exact Drawn0.refl _ | apply Drawn0.step)⟩
        · go_wp2
          go_roundw
          case rel => exact ⟨1, by go_num, by omega, ⟨fun _ => ⟨by omega, by omega⟩⟩, by repeat (first | exact Drawn0.refl _ | apply Drawn0.step)⟩
          case measure => simp [intOf] <;> omega
    · obtain rfl : i = 0 := by omega
      go_wp2
      go_ret
      exact ⟨by rw [← HR.out, decide_eq_true (by have h := HL.out; simpa using h)]; first | rfl | simp, by repeat (first | exact Drawn0.refl _ | apply Drawn0.step)⟩
end Go.Proofs.Ytginodjiaohcmaa.K

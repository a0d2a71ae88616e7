/- cachetteref01: Same, and the forms; wire.Read. -/
import Derived.Test.YtfingknhciogkaaRf
namespace Go.Proofs.Ytfingknhciogkaa.K
open Go.RowKit Go.Proofs.YtfingknhciogkaaW.PrintWords Go.Proofs.YtfingknhciogkaaW.PrintLast Go.Proofs.YtfingknhciogkaaW.PrintMore
set_option linter.unusedVariables false
set_option linter.unusedSimpArgs false

theorem add_128 (n : Nat) : ((n : Int) % 128 + 128 : Int) = ((n % 128 + 128 : Nat) : Int) := by omega
theorem numL_pos (n : Nat) : 0 < (numL n).length := by
  rw [numL]
  split <;> simp

theorem numL_len (n k : Nat) (h : n < 128 ^ (k + 1)) : (numL n).length ≤ k + 1 := by
  induction k generalizing n with
  | zero => rw [numL_small (by simpa using h)]; simp
  | succ k ih =>
    rw [numL]
    split
    · simp
    · have h2 : n / 128 < 128 ^ (k + 1) := Nat.div_lt_of_lt_mul (by rw [Nat.pow_succ] at h; omega)
      have := ih (n / 128) h2
      simp only [List.length_cons]
      omega
theorem numL_le (n : Nat) (h : n < 18446744073709551616) : (numL n).length ≤ 10 := numL_len n 9 (Nat.lt_of_lt_of_le h (by decide))

set_option maxHeartbeats 400000 in
theorem read_calls (v : Value) (l : List Int) (w0 w : World) (hr : Rd w0 v l) (hl : BL l) (hB : Below w0.heap.size w0 w) :
    Calls Try.prog 17 #[v] w fun e w' => ∃ g, e = .returned (.pointer (some ⟨g, 0, none⟩)) ∧ Rdr 56 w0 w' g l 0 ∧ w.heap.size ≤ g ∧ Below w.heap.size w w' := by
  have HR := Aside0.mk hr
  have HB := Aside0.mk hB
  obtain ⟨A, c, rfl, hc, hC⟩ := hr
  clear hC hB
  go_enter Try.func17, Try.ntmps17
  go_wp2
  go_ret
  exact ⟨_, rfl, ⟨_, by simpa using heap_alloc_new w _, HB.out.size, HR.out, hl⟩, Nat.le_refl _, below_alloc (Below.refl _ _) _⟩
end Go.Proofs.Ytfingknhciogkaa.K

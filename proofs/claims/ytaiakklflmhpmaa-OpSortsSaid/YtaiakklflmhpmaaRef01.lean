/- cachetteref01: Same, and the forms; wire.Read. -/
import Derived.Test.YtaiakklflmhpmaaRf
namespace Go.Proofs.Ytaiakklflmhpmaa.K
open Go.RowKit Go.Proofs.YtaiakklflmhpmaaW.PrintWords Go.Proofs.YtaiakklflmhpmaaW.PrintLast Go.Proofs.YtaiakklflmhpmaaW.PrintMore
set_option linter.unusedVariables false
set_option linter.unusedSimpArgs false

set_option maxHeartbeats 400000 in
theorem same_calls (v0 v1 : Value) (l0 l1 : List Int) (w : World) (hr0 : Rd w v0 l0) (hr1 : Rd w v1 l1) :
  Calls Try.prog 16 #[v0, v1] w fun e w' => e = .returned (.bool (decide (l0 = l1))) ∧ Drawn0 w w' := by
 obtain ⟨A0, c0, rfl, hc0, hC0⟩ := hr0
 obtain ⟨A1, c1, rfl, hc1, hC1⟩ := hr1
 have HC0 := Aside0.mk hC0
 have HC1 := Aside0.mk hC1
 have hm0 := hC0.2.1
 clear hc0 hc1 hC0 hC1
 by_cases hl : l0.length = l1.length
 ·have hlb : (l0.length == l1.length) = true := by simpa using hl
  have hlb' : ((l0.length : Int) != (l1.length : Int)) = false := by simp [hl]
  have HL := Aside0.mk hl
  clear hl
  go_enter Try.func16, Try.ntmps16
  go_wp2
  go_loopw [5] (fun v5 wr => ∃ i : Nat, v5 = .int .i64 i ∧ i ≤ l0.length ∧ Aside0 (l0.take i = l1.take i) ∧ Drawn0 w wr) (fun v5 _ => l0.length - (intOf v5).toNat)
  case atStart => exact ⟨0, rfl, by omega, ⟨by simp⟩, by repeat (first | exact Drawn0.refl _ | apply Drawn0.step)⟩
  case round =>
   obtain ⟨i, rfl, hi, HE, ⟨m1, rfl⟩⟩ := hrel
   by_cases hlt : i < l0.length
   ·have hlt1 : i < l1.length := by rw [← HL.out]; exact hlt
    obtain ⟨ad, rfl, hx⟩ := Kd.at_int HC0.out i (by omega) (by omega)
    obtain ⟨bd, rfl, hy⟩ := Kd.at_int HC1.out i (by omega) (by omega)
    rw [Int.toNat_natCast] at hx hy
    have HT0 := Aside0.mk (take_rd hlt)
    have HT1 := Aside0.mk (take_rd hlt1)
    obtain ⟨x, hxx⟩ : ∃ x, x = rd l0 i := ⟨_, rfl⟩
    obtain ⟨y, hyy⟩ : ∃ y, y = rd l1 i := ⟨_, rfl⟩
    rw [← hxx] at hx HT0
    rw [← hyy] at hy HT1
    clear hxx hyy
    by_cases hxy : x = y
    ·subst hxy
     go_wp2
     repeat (go_quiet (fail); try go_wp2)
     go_roundw
     case rel => exact ⟨i + 1, by go_num, by omega, ⟨by rw [HT0.out, HT1.out, HE.out]⟩, by repeat (first | exact Drawn0.refl _ | apply Drawn0.step)⟩
     case measure => simp [intOf]; omega
    ·have hb1 : (x != y) = true := by simpa using hxy
     have hb2 : (x == y) = false := by simpa using hxy
     have HXY := Aside0.mk hxy
     clear hxy
     go_wp2
     repeat (go_quiet (fail); try go_wp2)
     go_ret
     refine ⟨?_, by repeat (first | exact Drawn0.refl _ | apply Drawn0.step)⟩
     have hne : l0 ≠ l1 := by
      rintro rfl
      have h1 := HT0.out
      rw [HT1.out] at h1
      simp at h1
      exact HXY.out h1.symm
     simp [hne]
   ·go_wp2
    go_ret
    refine ⟨?_, by repeat (first | exact Drawn0.refl _ | apply Drawn0.step)⟩
    have he : l0 = l1 := by
     have h1 := HE.out
     have h2 := HL.out
     rwa [List.take_of_length_le (by omega), List.take_of_length_le (by omega)] at h1
    simp [he]
 ·have hlb' : ((l0.length : Int) != (l1.length : Int)) = true := by simp; omega
  have hlb : (l0.length == l1.length) = false := by simpa using hl
  have HL := Aside0.mk hl
  clear hl
  go_enter Try.func16, Try.ntmps16
  go_wp2
  go_ret
  refine ⟨?_, Drawn0.refl _⟩
  have hne : l0 ≠ l1 := by
   rintro rfl
   exact HL.out rfl
  simp [hne]

theorem numL_len (n k : Nat) (h : n < 128 ^ (k + 1)) : (numL n).length ≤ k + 1 := by
 induction k generalizing n with
 | zero => rw [numL_small (by simpa using h)]; simp
 | succ k ih =>
  rw [numL]
  split
  ·simp
  ·have h2 : n / 128 < 128 ^ (k + 1) := Nat.div_lt_of_lt_mul (by rw [Nat.pow_succ] at h; omega)
   have := ih (n / 128) h2
   simp only [List.length_cons]
   omega
theorem numL_le (n : Nat) (h : n < 18446744073709551616) : (numL n).length ≤ 10 := numL_len n 9 (Nat.lt_of_lt_of_le h (by decide))

set_option maxHeartbeats 400000 in
theorem read_calls (v : Value) (l : List Int) (w0 w : World) (hr : Rd w0 v l) (hl : BL l) (hB : Below w0.heap.size w0 w) :
  Calls Try.prog 28 #[v] w fun e w' => ∃ g, e = .returned (.pointer (some ⟨g, 0, none⟩)) ∧ Rdr 71 w0 w' g l 0 ∧ w.heap.size ≤ g ∧ Below w.heap.size w w' := by
 have HR := Aside0.mk hr
 have HB := Aside0.mk hB
 obtain ⟨A, c, rfl, hc, hC⟩ := hr
 clear hC hB
 go_enter Try.func28, Try.ntmps28
 go_wp2
 go_ret
 exact ⟨_, rfl, ⟨_, by simpa using heap_alloc_new w _, HB.out.size, HR.out, hl⟩, Nat.le_refl _, below_alloc (Below.refl _ _) _⟩
end Go.Proofs.Ytaiakklflmhpmaa.K

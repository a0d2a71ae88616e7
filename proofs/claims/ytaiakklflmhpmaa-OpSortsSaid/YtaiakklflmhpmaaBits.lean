/- Plain lemmas on bits of whole numbers. -/
import Derived.Laws.BitsAllLaws
import Derived.Laws.Bits64
import Derived.Laws.DeepNot64
import Derived.IntWalk
import Derived.WalkKit
import Derived.WalkSmall
namespace Go.Proofs.Ytaiakklflmhpmaa.K
open Go.RowKit

/-- An int64 as the number whose form it has. -/
def zz (n : Int) : Nat := if 0 ≤ n then (2 * n).toNat else (-2 * n - 1).toNat

theorem zz_pos {n : Int} (h : 0 ≤ n) (h2 : n ≤ 9223372036854775807) : bits .xor .u64 (n * 2) (n / 9223372036854775808) = (zz n : Int) := by
 have e : n / 9223372036854775808 = 0 := by omega
 rw [e, zz, if_pos h]
 have h3 := u64_xor_nat (2 * n).toNat 0 (by omega) (by omega)
 rw [Nat.xor_zero] at h3
 rw [← h3]
 congr 1
 omega
theorem wrap_u64 (n : Int) : IntKind.u64.wrap n = n % 18446744073709551616 := by simp [IntKind.wrap, IntKind.bits, IntKind.signed]
theorem xor_ones (x : Nat) (hx : x < 18446744073709551616) : x ^^^ 18446744073709551615 = 18446744073709551615 - x := by
 apply Nat.eq_of_testBit_eq
 intro i
 rw [Nat.testBit_xor]
 have e1 : (18446744073709551615 : Nat) = 2 ^ 64 - 1 := by decide
 have e2 : 18446744073709551615 - x = 2 ^ 64 - (x + 1) := by omega
 rw [e2, Nat.testBit_two_pow_sub_succ (by omega), e1, Nat.testBit_two_pow_sub_one]
 by_cases hi : i < 64
 ·simp [hi]
 ·simp only [hi, decide_false, Bool.false_and, Bool.bne_false]
  have : x < 2 ^ i := Nat.lt_of_lt_of_le (by omega : x < 2 ^ 64) (Nat.pow_le_pow_right (by omega) (by omega))
  exact Nat.testBit_lt_two_pow this
theorem zz_neg {n : Int} (h : n < 0) (h1 : -9223372036854775808 ≤ n) :
  bits .xor .u64 (IntKind.u64.wrap (IntKind.u64.wrap n * 2)) (IntKind.u64.wrap (n / 9223372036854775808)) = (zz n : Int) := by
 have e : n / 9223372036854775808 = -1 := by omega
 rw [e, zz, if_neg (by omega), wrap_u64, wrap_u64, wrap_u64]
 have e1 : (n % 18446744073709551616 * 2) % 18446744073709551616 = ((2 * n + 18446744073709551616).toNat : Int) := by omega
 have e2 : (-1 : Int) % 18446744073709551616 = ((18446744073709551615 : Nat) : Int) := by decide
 rw [e1, e2, u64_xor_nat _ _ (by omega) (by omega), xor_ones _ (by omega)]
 omega
theorem zz_lt {n : Int} (h1 : -9223372036854775808 ≤ n) (h2 : n ≤ 9223372036854775807) : zz n < 18446744073709551616 := by
 unfold zz
 split <;> omega

theorem pow128 (i : Nat) : (128 : Nat) ^ i = 2 ^ (7 * i) := by rw [Nat.pow_mul]
theorem and_127 (x : Int) (h0 : 0 ≤ x) (h1 : x ≤ 255) : bits .and .u8 x 127 = x % 128 := by
 have h := bits_mask .u8 8 (by decide) wraps_u8 7 (by decide) x h0 (by omega)
 exact h
theorem or_num (y i : Nat) (x : Int) (hy : y < 128 ^ i) (h0 : 0 ≤ x) (h1 : x ≤ 255) (hi : i ≤ 9) (h9 : i = 9 → x = 1) :
  bits .or .u64 (y : Int) (IntKind.u64.wrap (IntKind.u64.wrap (bits .and .u8 x 127) * 2 ^ (7 * i))) = ((y + (x % 128).toNat * 128 ^ i : Nat) : Int) := by
 rw [and_127 x h0 h1, wrap_u64, wrap_u64]
 obtain ⟨b, hb⟩ : ∃ b : Nat, b = (x % 128).toNat := ⟨_, rfl⟩
 have hx : x % 128 = (b : Int) := by omega
 have hb2 : b < 128 := by omega
 rw [← hb, hx]
 rw [pow128] at hy ⊢
 have e1 : ((b : Int) % 18446744073709551616) = (b : Int) := by omega
 rw [e1]
 have hlt : b * 2 ^ (7 * i) < 18446744073709551616 := by
  by_cases h : i = 9
  ·subst h
   have := h9 rfl
   have : b = 1 := by omega
   subst this
   decide
  ·have hp : 2 ^ (7 * i) ≤ 2 ^ 56 := Nat.pow_le_pow_right (by omega) (by omega)
   have := Nat.mul_le_mul (show b ≤ 127 by omega) hp
   omega
 have e2 : ((b : Int) * 2 ^ (7 * i)) % 18446744073709551616 = ((b * 2 ^ (7 * i) : Nat) : Int) := by
  have : ((b : Int) * 2 ^ (7 * i)) = ((b * 2 ^ (7 * i) : Nat) : Int) := by simp
  rw [this]
  exact Int.emod_eq_of_lt (Int.natCast_nonneg _) (Int.ofNat_lt.2 hlt)
 have hy2 : y < 18446744073709551616 := by
  have hp : 2 ^ (7 * i) ≤ 2 ^ 63 := Nat.pow_le_pow_right (by omega) (by omega)
  exact Nat.lt_of_lt_of_le hy (Nat.le_trans hp (by decide))
 rw [e2, u64_or_nat y _ hy2 hlt]
 have h := Nat.two_pow_add_eq_or_of_lt hy b
 rw [Nat.or_comm, Nat.mul_comm b, ← h, Nat.add_comm]
/-- The number that bytes hold. -/
def valF : List Int → Nat
 | [] => 0
 | c :: r => (c % 128).toNat + 128 * valF r
theorem valF_snoc (l : List Int) (x : Int) : valF (l ++ [x]) = valF l + (x % 128).toNat * 128 ^ l.length := by
 induction l with
 | nil => simp [valF]
 | cons c r ih =>
  simp only [List.cons_append, valF, ih, List.length_cons, Nat.pow_succ, Nat.mul_add]
  rw [Nat.add_assoc, Nat.add_left_cancel_iff, Nat.add_left_cancel_iff, Nat.mul_comm 128, Nat.mul_assoc]
theorem valF_lt (l : List Int) : valF l < 128 ^ l.length := by
 induction l with
 | nil => simp [valF]
 | cons c r ih =>
  simp only [valF, List.length_cons, Nat.pow_succ]
  omega

/-- An int64 out of the number whose form it has. -/
def unzz (n : Nat) : Int := if n % 2 = 0 then ((n / 2 : Nat) : Int) else -((n / 2 : Nat) : Int) - 1
theorem xor_i64_zero (a : Nat) (ha : a < 9223372036854775808) : bits .xor .i64 (a : Int) 0 = (a : Int) := by
 show IntKind.i64.wrap ((BitVec.ofInt 64 (a : Int) ^^^ BitVec.ofInt 64 0).toNat : Int) = _
 have h1 : BitVec.ofInt 64 0 = 0#64 := by decide
 rw [h1, BitVec.xor_zero, ofInt_u64 a (by omega)]
 simp [IntKind.wrap, IntKind.bits, IntKind.signed]
 omega
theorem xor_i64_ones (a : Nat) (ha : a < 9223372036854775808) : bits .xor .i64 (a : Int) (-1) = -(a : Int) - 1 := by
 show IntKind.i64.wrap ((BitVec.ofInt 64 (a : Int) ^^^ BitVec.ofInt 64 (-1)).toNat : Int) = _
 have h1 : BitVec.ofInt 64 (-1) = BitVec.allOnes 64 := by decide
 rw [h1, BitVec.xor_allOnes, BitVec.toNat_not, ofInt_u64 a (by omega)]
 simp [IntKind.wrap, IntKind.bits, IntKind.signed]
 omega
theorem unzz_bits (n : Nat) (hn : n < 18446744073709551616) : bits .xor .i64 ((n : Int) / 2) (wrap64 (-wrap64 (bits .and .u64 (n : Int) 1))) = unzz n := by
 rw [and_one_u64 (n : Int) (by omega) (by omega)]
 have e1 : (n : Int) / 2 = ((n / 2 : Nat) : Int) := by omega
 rw [e1, unzz]
 by_cases h : n % 2 = 0
 ·have e2 : wrap64 (-wrap64 ((n : Int) % 2)) = 0 := by
   have : (n : Int) % 2 = 0 := by omega
   rw [this]; unfold wrap64; omega
  rw [e2, if_pos h, xor_i64_zero _ (by omega)]
 ·have e2 : wrap64 (-wrap64 ((n : Int) % 2)) = -1 := by
   have : (n : Int) % 2 = 1 := by omega
   rw [this]; unfold wrap64; omega
  rw [e2, if_neg h, xor_i64_ones _ (by omega)]
end Go.Proofs.Ytaiakklflmhpmaa.K

/- wire.Reader, the rest: Int, Count, take, Bytes, Text, Bool, Left, Done. -/
import Derived.Test.YtaiakklflmhpmaaRd
import Derived.Lib.BitFns
import Derived.Lib.Tables
import Derived.Lib.Strings
import Derived.Lib.Slices
import Derived.Lib.Small
import Derived.Lib.Walk
namespace Go.Proofs.Ytaiakklflmhpmaa.K
open Go.RowKit Go.Proofs.YtaiakklflmhpmaaW.PrintWords Go.Proofs.YtaiakklflmhpmaaW.PrintLast Go.Proofs.YtaiakklflmhpmaaW.PrintMore
set_option linter.unusedVariables false
set_option linter.unusedSimpArgs false

theorem numR_lt (l : List Int) (k : Int) (hl : BL l) : (numR l k).1 < 18446744073709551616 := by
 unfold numR
 split
 ·split
  ·simp
  ·simp only
   have h1 := widF_le 0 l
   have h2 := widF_ten 0 l (by omega)
   by_cases h : widF 0 l = 10
   ·have h9 := widF_nine l h
    rw [h]
    have e := take_rd (l := l) (i := 9) (by omega)
    rw [show (10 : Nat) = 9 + 1 from rfl, e, valF_snoc]
    have := valF_lt (l.take 9)
    rw [List.length_take, Nat.min_eq_left (by omega)] at this ⊢
    rw [show rd l ((9 : Nat) : Int) = 1 from h9]
    have e2 : (128 : Nat) ^ 9 = 9223372036854775808 := by decide
    rw [e2] at this ⊢
    have e3 : ((1 : Int) % 128).toNat = 1 := by decide
    rw [e3]
    omega
   ·have := valF_lt (l.take (widF 0 l))
    have hp : (128 : Nat) ^ (l.take (widF 0 l)).length ≤ 128 ^ 9 := Nat.pow_le_pow_right (by omega) (by rw [List.length_take]; omega)
    have e2 : (128 : Nat) ^ 9 = 9223372036854775808 := by decide
    omega
 ·simp
set_option maxHeartbeats 400000 in
theorem rint_calls (g : Nat) (l : List Int) (k : Int) (w0 w : World) (hI : Rdr 71 w0 w g l k) (hB : Below w0.heap.size w0 w) :
  Calls Try.prog 52 #[.pointer (some ⟨g, 0, none⟩)] w fun e w' => e = .returned (.int .i64 (unzz (numR l k).1)) ∧ Rdr 71 w0 w' g (numR l k).2.1 (numR l k).2.2 ∧ Stp w0 w w' g := by
 have hlt := Aside0.mk (numR_lt l k hI.choose_spec.2.2.2)
 have HI := Aside0.mk hI
 have HB := Aside0.mk hB
 clear hI hB
 obtain ⟨n, hn⟩ : ∃ n, (numR l k).1 = n := ⟨_, rfl⟩
 have HN := Aside0.mk hn
 rw [hn] at hlt
 clear hn
 have hlt2 : n < 18446744073709551616 := hlt.out
 go_enter Try.func52, Try.ntmps52
 go_wp2_with (go_at_call 48; go_must ((refine (rnum_calls g l k w0 w HI.out HB.out).mono ?_; rintro e w1 ⟨rfl, hr, hs⟩; have HS := Aside0.mk hs; have HR1 := Aside0.mk hr; clear hr hs; rw [HN.out])))
 go_ret
 exact ⟨ret_int (by rw [HN.out]; exact unzz_bits n hlt.out), HR1.out, HS.out⟩

/-- Done: what is wrong in the end. -/
def doneR (l : List Int) (k : Int) : Int := if k = 0 ∧ 0 < l.length then 4 else k
set_option maxHeartbeats 400000 in
theorem done_calls (g : Nat) (l : List Int) (k : Int) (w0 w : World) (hI : Rdr 71 w0 w g l k) :
  Calls Try.prog 34 #[.pointer (some ⟨g, 0, none⟩)] w fun e w' => e = .returned (.int .i64 (doneR l k)) ∧ Drawn0 w w' := by
 obtain ⟨v, hb, hg, hR, hl⟩ := hI
 have h0 : w.cell? ⟨g, 0, none⟩ = some v := (blk_cell hb 0).trans rfl
 have h1 : w.cell? ⟨g, 1, none⟩ = some (.int .i64 k) := (blk_cell hb 1).trans rfl
 obtain ⟨A, c, rfl, hc, hC⟩ := hR
 clear hb hg hl hC
 by_cases hk : k = 0
 ·subst hk
  by_cases hp : 0 < l.length
  ·go_enter Try.func34, Try.ntmps34
   go_wp2_with (go_at_call 49; go_must ((refine (ok_calls g 0 w h1).mono ?_; rintro e w1 ⟨rfl, ⟨m1, rfl⟩⟩)))
   go_ret
   exact ⟨ret_int (by simp [doneR, hp]), by repeat (first | exact Drawn0.refl _ | apply Drawn0.step)⟩
  ·have h0l : l.length = 0 := by omega
   go_enter Try.func34, Try.ntmps34
   go_wp2_with (go_at_call 49; go_must ((refine (ok_calls g 0 w h1).mono ?_; rintro e w1 ⟨rfl, ⟨m1, rfl⟩⟩)))
   go_ret
   exact ⟨ret_int (by simp [doneR, hp]), by repeat (first | exact Drawn0.refl _ | apply Drawn0.step)⟩
 ·have hk' : (k == 0) = false := by simpa using hk
  go_enter Try.func34, Try.ntmps34
  go_wp2_with (go_at_call 49; go_must ((refine (ok_calls g k w h1).mono ?_; rintro e w1 ⟨rfl, ⟨m1, rfl⟩⟩)))
  go_ret
  exact ⟨ret_int (by simp [doneR, hk]), by repeat (first | exact Drawn0.refl _ | apply Drawn0.step)⟩

/-- Does a number want more than 62 bits? -/
theorem bitLen_62 (x : Nat) (hx : x < 18446744073709551616) : (62 < Lib.bitLen x ↔ 4611686018427387904 ≤ x) := by
 constructor
 ·intro h
  have := Lib.bitLen_le x 62 (by omega)
  rcases Nat.lt_or_ge x 4611686018427387904 with h2 | h2
  ·have := this h2
   omega
  ·exact h2
 ·intro h
  have h1 := Lib.bitLen_shift 62 x (by omega) (by omega)
  have h2 := Lib.bitLen_half (x / 2 ^ 62) (by omega) (by omega)
  omega
/-- The library's table, as the translation writes it. -/
theorem fold_tab : ({ data := (([0, 1, 2, 2, 3, 3, 3, 3, 4, 4, 4, 4, 4, 4, 4, 4, 5, 5, 5, 5, 5, 5, 5, 5, 5, 5, 5, 5, 5, 5, 5, 5, 6, 6, 6, 6, 6, 6, 6, 6, 6, 6, 6, 6, 6, 6, 6, 6, 6, 6, 6, 6, 6, 6, 6, 6, 6, 6, 6, 6, 6, 6, 6, 6].append [7, 7, 7, 7, 7, 7, 7, 7, 7, 7, 7, 7, 7, 7, 7, 7, 7, 7, 7, 7, 7, 7, 7, 7, 7, 7, 7, 7, 7, 7, 7, 7, 7, 7, 7, 7, 7, 7, 7, 7, 7, 7, 7, 7, 7, 7, 7, 7, 7, 7, 7, 7, 7, 7, 7, 7, 7, 7, 7, 7, 7, 7, 7, 7]).append ([8, 8, 8, 8, 8, 8, 8, 8, 8, 8, 8, 8, 8, 8, 8, 8, 8, 8, 8, 8, 8, 8, 8, 8, 8, 8, 8, 8, 8, 8, 8, 8, 8, 8, 8, 8, 8, 8, 8, 8, 8, 8, 8, 8, 8, 8, 8, 8, 8, 8, 8, 8, 8, 8, 8, 8, 8, 8, 8, 8, 8, 8, 8, 8].append [8, 8, 8, 8, 8, 8, 8, 8, 8, 8, 8, 8, 8, 8, 8, 8, 8, 8, 8, 8, 8, 8, 8, 8, 8, 8, 8, 8, 8, 8, 8, 8, 8, 8, 8, 8, 8, 8, 8, 8, 8, 8, 8, 8, 8, 8, 8, 8, 8, 8, 8, 8, 8, 8, 8, 8, 8, 8, 8, 8, 8, 8, 8, 8])).toArray } : ByteArray) = Lib.len8tab := by decide +kernel
theorem tab_all : ∀ n : Fin 256, ((Lib.len8tab[n.val]'(by rw [Lib.len8tab_size]; exact n.isLt)).toNat : Int) = (Lib.bitLen n.val : Int) ∧ Lib.bitLen n.val ≤ 8 := by decide +kernel
theorem tab_end {i j k : Nat} {z : Int} (h : i < Lib.len8tab.size) (hj : i = j) (hb : z = (k : Int) + Lib.bitLen j) (hk : k ≤ 56) : wrap64 ((k : Int) + wrap64 ((Lib.len8tab[i]'h).toNat : Int)) = z := by
 subst hj hb
 have h2 := tab_all ⟨i, by rw [Lib.len8tab_size] at h; exact h⟩
 simp only at h2
 rw [h2.1]
 unfold wrap64
 omega
theorem tab_end0 {i j : Nat} {z : Int} (h : i < Lib.len8tab.size) (hj : i = j) (hb : z = Lib.bitLen j) : wrap64 (wrap64 ((Lib.len8tab[i]'h).toNat : Int)) = z := by
 subst hj hb
 have h2 := tab_all ⟨i, by rw [Lib.len8tab_size] at h; exact h⟩
 simp only at h2
 rw [h2.1]
 unfold wrap64
 omega
attribute [local go_sem high] fold_tab
set_option maxHeartbeats 4000000 in
set_option maxRecDepth 100000 in
theorem len64_calls (x : Int) (w : World) (h0 : 0 ≤ x) (h1 : x ≤ 18446744073709551615) :
  Calls Try.prog 50 #[.int .u64 x] w fun e w' => e = .returned (.int .i64 (Lib.bitLen x.toNat)) ∧ w = w' := by
 go_enter Try.func50, Try.ntmps50
 have hsz : Lib.len8tab.size = 256 := Lib.len8tab_size
 go_wp2
 all_goals (go_ret; refine ⟨ret_int ?_, rfl⟩)
 ·exact tab_end (k := 56) (j := x.toNat / 72057594037927936) _ (by omega) (by have := Lib.bitLen_shift56 x.toNat (by omega) (by omega); omega) (by omega)
 ·exact tab_end (k := 48) (j := x.toNat / 281474976710656) _ (by omega) (by have := Lib.bitLen_shift48 x.toNat (by omega) (by omega); omega) (by omega)
 ·exact tab_end (k := 40) (j := x.toNat / 1099511627776) _ (by omega) (by have := Lib.bitLen_shift40 x.toNat (by omega) (by omega); omega) (by omega)
 ·exact tab_end (k := 32) (j := x.toNat / 4294967296) _ (by omega) (by have := Lib.bitLen_shift32 x.toNat (by omega) (by omega); omega) (by omega)
 ·exact tab_end (k := 24) (j := x.toNat / 16777216) _ (by omega) (by have := Lib.bitLen_shift24 x.toNat (by omega) (by omega); omega) (by omega)
 ·exact tab_end (k := 16) (j := x.toNat / 65536) _ (by omega) (by have := Lib.bitLen_shift16 x.toNat (by omega) (by omega); omega) (by omega)
 ·exact tab_end (k := 8) (j := x.toNat / 256) _ (by omega) (by have := Lib.bitLen_shift8 x.toNat (by omega) (by omega); omega) (by omega)
 ·exact tab_end0 (j := x.toNat) _ rfl rfl
end Go.Proofs.Ytaiakklflmhpmaa.K

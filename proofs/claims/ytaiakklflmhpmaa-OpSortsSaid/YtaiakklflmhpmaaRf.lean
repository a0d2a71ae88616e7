/- wire.Reader, the rest: Count, take, Bytes, Text, Bool. -/
import Derived.Test.YtaiakklflmhpmaaRe
namespace Go.Proofs.Ytaiakklflmhpmaa.K
open Go.RowKit Go.Proofs.YtaiakklflmhpmaaW.PrintWords Go.Proofs.YtaiakklflmhpmaaW.PrintLast Go.Proofs.YtaiakklflmhpmaaW.PrintMore
set_option linter.unusedVariables false
set_option linter.unusedSimpArgs false

/-- Count: a number that is no more than most. -/
def countR (most : Int) (l : List Int) (k : Int) : Int × List Int × Int :=
 if (numR l k).2.2 ≠ 0 then (0, (numR l k).2.1, (numR l k).2.2) else if most < 0 ∨ 4611686018427387904 ≤ (numR l k).1 ∨ most < (numR l k).1 then (0, [], 3) else ((numR l k).1, (numR l k).2.1, 0)

theorem Rdr.cell1 {T : Nat} {w0 W : World} {g : Nat} {l : List Int} {k : Int} (h : Rdr T w0 W g l k) : W.cell? ⟨g, 1, none⟩ = some (.int .i64 k) := by
 obtain ⟨v, hb, _⟩ := h
 exact (blk_cell hb 1).trans rfl
theorem Rdr.bl {T : Nat} {w0 W : World} {g : Nat} {l : List Int} {k : Int} (h : Rdr T w0 W g l k) : BL l := h.choose_spec.2.2.2

set_option maxHeartbeats 800000 in
theorem count_calls (g : Nat) (most : Int) (l : List Int) (k : Int) (w0 w : World) (hI : Rdr 71 w0 w g l k) (hB : Below w0.heap.size w0 w) :
  Calls Try.prog 29 #[.pointer (some ⟨g, 0, none⟩), .int .i64 most] w fun e w' => e = .returned (.int .i64 (countR most l k).1) ∧ Rdr 71 w0 w' g (countR most l k).2.1 (countR most l k).2.2 ∧ Stp w0 w w' g := by
 have hlt := Aside0.mk (numR_lt l k hI.bl)
 have HI := Aside0.mk hI
 have HB := Aside0.mk hB
 clear hI hB
 obtain ⟨n, hn⟩ : ∃ n, (numR l k).1 = n := ⟨_, rfl⟩
 obtain ⟨l1, hl1⟩ : ∃ n, (numR l k).2.1 = n := ⟨_, rfl⟩
 obtain ⟨k1, hk1⟩ : ∃ n, (numR l k).2.2 = n := ⟨_, rfl⟩
 have HE : Aside0 (numR l k = (n, l1, k1)) := ⟨by rw [← hn, ← hl1, ← hk1]⟩
 rw [hn] at hlt
 clear hn hl1 hk1
 have hn0 := hlt.out
 by_cases hk : k1 = 0
 ·subst hk
  by_cases hm : most < 0
  ·have HC : Aside0 (countR most l k = (0, [], 3)) := ⟨by unfold countR; rw [HE.out]; simp [hm]⟩
   go_enter Try.func29, Try.ntmps29
   go_wp2_with (first
    | (go_at_call 48; go_must ((refine (rnum_calls g l k w0 w HI.out HB.out).mono ?_; rw [HE.out]; rintro e w1 ⟨rfl, hr, hs⟩; have HS := Aside0.mk hs; have HR1 := Aside0.mk hr; clear hr hs)))
    | (go_at_call 49; go_must ((refine (ok_calls g 0 _ (by exact HR1.out.cell1)).mono ?_; rintro e w2 ⟨rfl, ⟨m1, rfl⟩⟩)))
    | (go_at_call 51; go_must ((refine (fail_calls g l1 0 3 w0 _ (by exact HR1.out.drewN _) (by exact (HS.out.drewN _).below)).mono ?_; rintro e w3 ⟨rfl, hr, hs⟩; have HS2 := Aside0.mk hs; have HR2 := Aside0.mk hr; clear hr hs))))
   go_ret
   rw [HC.out]
   exact ⟨rfl, HR2.out, (HS.out.drewN _).trans HS2.out⟩
  ·by_cases h62 : 4611686018427387904 ≤ n
   ·have HC : Aside0 (countR most l k = (0, [], 3)) := ⟨by unfold countR; rw [HE.out]; simp [h62]⟩
    have hb62 : 62 < Lib.bitLen n := (bitLen_62 n hn0).2 h62
    go_enter Try.func29, Try.ntmps29
    go_wp2_with (first
     | (go_at_call 48; go_must ((refine (rnum_calls g l k w0 w HI.out HB.out).mono ?_; rw [HE.out]; rintro e w1 ⟨rfl, hr, hs⟩; have HS := Aside0.mk hs; have HR1 := Aside0.mk hr; clear hr hs)))
     | (go_at_call 49; go_must ((refine (ok_calls g 0 _ (by exact HR1.out.cell1)).mono ?_; rintro e w2 ⟨rfl, ⟨m1, rfl⟩⟩)))
     | (go_at_call 50; go_must ((refine (len64_calls n _ (by omega) (by omega)).mono ?_; rintro e w4 ⟨rfl, rfl⟩; rw [Int.toNat_natCast])))
     | (go_at_call 51; go_must ((refine (fail_calls g l1 0 3 w0 _ (by exact HR1.out.drewN _) (by exact (HS.out.drewN _).below)).mono ?_; rintro e w3 ⟨rfl, hr, hs⟩; have HS2 := Aside0.mk hs; have HR2 := Aside0.mk hr; clear hr hs))))
    go_ret
    rw [HC.out]
    exact ⟨rfl, HR2.out, (HS.out.drewN _).trans HS2.out⟩
   ·have hb62 : Lib.bitLen n ≤ 62 := by have := (bitLen_62 n hn0).1; omega
    by_cases hmn : most < n
    ·have HC : Aside0 (countR most l k = (0, [], 3)) := ⟨by unfold countR; rw [HE.out]; simp [hmn]⟩
     go_enter Try.func29, Try.ntmps29
     go_wp2_with (first
      | (go_at_call 48; go_must ((refine (rnum_calls g l k w0 w HI.out HB.out).mono ?_; rw [HE.out]; rintro e w1 ⟨rfl, hr, hs⟩; have HS := Aside0.mk hs; have HR1 := Aside0.mk hr; clear hr hs)))
      | (go_at_call 49; go_must ((refine (ok_calls g 0 _ (by exact HR1.out.cell1)).mono ?_; rintro e w2 ⟨rfl, ⟨m1, rfl⟩⟩)))
      | (go_at_call 50; go_must ((refine (len64_calls n _ (by omega) (by omega)).mono ?_; rintro e w4 ⟨rfl, rfl⟩; rw [Int.toNat_natCast])))
      | (go_at_call 51; go_must ((refine (fail_calls g l1 0 3 w0 _ (by exact HR1.out.drewN _) (by exact (HS.out.drewN _).below)).mono ?_; rintro e w3 ⟨rfl, hr, hs⟩; have HS2 := Aside0.mk hs; have HR2 := Aside0.mk hr; clear hr hs))))
     go_ret
     rw [HC.out]
     exact ⟨rfl, HR2.out, (HS.out.drewN _).trans HS2.out⟩
    ·have HC : Aside0 (countR most l k = ((n : Int), l1, 0)) := ⟨by unfold countR; rw [HE.out]; simp [hmn, hm, h62]⟩
     go_enter Try.func29, Try.ntmps29
     go_wp2_with (first
      | (go_at_call 48; go_must ((refine (rnum_calls g l k w0 w HI.out HB.out).mono ?_; rw [HE.out]; rintro e w1 ⟨rfl, hr, hs⟩; have HS := Aside0.mk hs; have HR1 := Aside0.mk hr; clear hr hs)))
      | (go_at_call 49; go_must ((refine (ok_calls g 0 _ (by exact HR1.out.cell1)).mono ?_; rintro e w2 ⟨rfl, ⟨m1, rfl⟩⟩)))
      | (go_at_call 50; go_must ((refine (len64_calls n _ (by omega) (by omega)).mono ?_; rintro e w4 ⟨rfl, rfl⟩; rw [Int.toNat_natCast])))
      | (go_at_call 51; go_must ((refine (fail_calls g l1 0 3 w0 _ (by exact HR1.out.drewN _) (by exact (HS.out.drewN _).below)).mono ?_; rintro e w3 ⟨rfl, hr, hs⟩; have HS2 := Aside0.mk hs; have HR2 := Aside0.mk hr; clear hr hs))))
     go_ret
     rw [HC.out]
     exact ⟨rfl, HR1.out, HS.out.drewN _⟩
 ·have hk' : (k1 == 0) = false := by simpa using hk
  have HC : Aside0 (countR most l k = (0, l1, k1)) := ⟨by unfold countR; rw [HE.out]; simp [hk]⟩
  go_enter Try.func29, Try.ntmps29
  go_wp2_with (first
   | (go_at_call 48; go_must ((refine (rnum_calls g l k w0 w HI.out HB.out).mono ?_; rw [HE.out]; rintro e w1 ⟨rfl, hr, hs⟩; have HS := Aside0.mk hs; have HR1 := Aside0.mk hr; clear hr hs)))
   | (go_at_call 49; go_must ((refine (ok_calls g k1 _ (by exact HR1.out.cell1)).mono ?_; rintro e w2 ⟨rfl, ⟨m1, rfl⟩⟩))))
  go_ret
  rw [HC.out]
  exact ⟨rfl, HR1.out, HS.out.drewN _⟩

/-- take: so many bytes. -/
def takeR (n : Nat) (l : List Int) (k : Int) : List Int × List Int × Int :=
 if k ≠ 0 then ([], l, k) else if l.length < n then ([], [], 4) else (l.take n, l.drop n, 0)

set_option maxHeartbeats 800000 in
theorem take_calls (g n : Nat) (l : List Int) (k : Int) (w0 w : World) (hI : Rdr 71 w0 w g l k) (hB : Below w0.heap.size w0 w) :
  Calls Try.prog 53 #[.pointer (some ⟨g, 0, none⟩), .int .i64 n] w fun e w' => ∃ v, e = .returned v ∧ Own w' w.heap.size v (takeR n l k).1 ∧ Rdr 71 w0 w' g (takeR n l k).2.1 (takeR n l k).2.2 ∧ Stp w0 w w' g := by
 have HI := Aside0.mk hI
 have HB := Aside0.mk hB
 obtain ⟨v, hb, hg, hR, hl⟩ := hI
 have h0 : w.cell? ⟨g, 0, none⟩ = some v := (blk_cell hb 0).trans rfl
 have h1 : w.cell? ⟨g, 1, none⟩ = some (.int .i64 k) := (blk_cell hb 1).trans rfl
 have f0 : w.frozen? ⟨g, 0, none⟩ = false := blk_frozen hb 0
 have HBK := Aside0.mk hb
 obtain ⟨A, c, rfl, hc, hC0⟩ := hR
 have HC0 := Aside0.mk hC0
 have hm := hl.2
 clear hB hb hC0
 by_cases hk : k = 0
 ·subst hk
  by_cases hn : l.length < n
  ·have HT : Aside0 (takeR n l 0 = ([], [], 4)) := ⟨by unfold takeR; simp [hn]⟩
   go_enter Try.func53, Try.ntmps53
   go_wp2_with (first
    | (go_at_call 49; go_must ((refine (ok_calls g 0 _ (by exact h1)).mono ?_; rintro e w2 ⟨rfl, ⟨m1, rfl⟩⟩)))
    | (go_at_call 51; go_must ((refine (fail_calls g l 0 4 w0 _ (by exact HI.out.drewN _) (by exact pw_below_drewN HB.out _)).mono ?_; rintro e w3 ⟨rfl, hr, hs⟩; have HS2 := Aside0.mk hs; have HR2 := Aside0.mk hr; clear hr hs))))
   go_ret
   rw [HT.out]
   exact ⟨_, rfl, Kd.R_nil _ _ _ _ _, HR2.out, (Stp.drewN (Stp.refl g HB.out) _).trans HS2.out⟩
  ·have hn' : n ≤ l.length := by omega
   have HT : Aside0 (takeR n l 0 = (l.take n, l.drop n, 0)) := ⟨by unfold takeR; simp [hn]⟩
   obtain ⟨A1, hcut, hR1⟩ := cut_from (P := Try.prog) 29 Try.underlying29 info5 A l c n hn' hc
   have HR1 := Aside0.mk hR1
   clear hR1
   go_enter Try.func53, Try.ntmps53
   go_wp2_with (first
    | (go_at_call 49; go_must ((refine (ok_calls g 0 _ (by exact h1)).mono ?_; rintro e w2 ⟨rfl, ⟨m1, rfl⟩⟩)))
    | (go_at_call 42; go_must ((refine (clone_calls _ (l.take n) _ (by exact rd_take (Kd.C_drewN (Kd.C_below HC0.out HB.out) m1) hn' hc) (by rw [List.length_take]; omega)).mono ?_; rintro e w3 ⟨v1, rfl, ho, hb⟩; have hb3 := blk_below (blk_drewN HBK.out m1) hb; have h03 : w3.cell? ⟨g, 0, none⟩ = some (.slice A l.length c) := (blk_cell hb3 0).trans rfl; have f03 : w3.frozen? ⟨g, 0, none⟩ = false := blk_frozen hb3 0; have HBK3 := Aside0.mk hb3; have HO := Aside0.mk ho; have HB2 := Aside0.mk hb; clear ho hb hb3))))
   go_ret
   rw [HT.out]
   have hS := Stp.of_below g (pw_below_drewN HB.out m1) HB2.out
   exact ⟨_, rfl, HO.out.far (blk_lt HBK.out) 0 _, ⟨_, by simpa using blk_set HBK3.out 0 (.slice A1 (l.length - n) (c - n)), hg, HR1.out w0 HC0.out, hl.drop _⟩, hS.below.setCell hg _, ((Stp.drewN (Stp.refl g HB.out) m1).trans hS).keep.set_ 0 _⟩
 ·have hk' : (k == 0) = false := by simpa using hk
  have HT : Aside0 (takeR n l k = ([], l, k)) := ⟨by unfold takeR; simp [hk]⟩
  go_enter Try.func53, Try.ntmps53
  go_wp2_with (first
   | (go_at_call 49; go_must ((refine (ok_calls g k _ (by exact h1)).mono ?_; rintro e w2 ⟨rfl, ⟨m1, rfl⟩⟩))))
  go_ret
  rw [HT.out]
  exact ⟨_, rfl, Kd.R_nil _ _ _ _ _, HI.out.drewN _, Stp.drewN (Stp.refl g HB.out) _⟩

/-- Bytes: how many, and they. -/
def bytesR (most : Int) (l : List Int) (k : Int) : List Int × List Int × Int := takeR (countR most l k).1.toNat (countR most l k).2.1 (countR most l k).2.2
theorem countR_nonneg (most : Int) (l : List Int) (k : Int) : 0 ≤ (countR most l k).1 := by
 unfold countR
 split
 ·simp
 ·split
  ·simp
  ·simp

set_option maxHeartbeats 800000 in
theorem rbytes_calls (g : Nat) (most : Int) (l : List Int) (k : Int) (w0 w : World) (hI : Rdr 71 w0 w g l k) (hB : Below w0.heap.size w0 w) :
  Calls Try.prog 33 #[.pointer (some ⟨g, 0, none⟩), .int .i64 most] w fun e w' => ∃ v, e = .returned v ∧ Own w' w.heap.size v (bytesR most l k).1 ∧ Rdr 71 w0 w' g (bytesR most l k).2.1 (bytesR most l k).2.2 ∧ Stp w0 w w' g := by
 have HI := Aside0.mk hI
 have HB := Aside0.mk hB
 obtain ⟨n, hn⟩ : ∃ n : Nat, (countR most l k).1 = n := ⟨_, (Int.toNat_of_nonneg (countR_nonneg most l k)).symm⟩
 have HN := Aside0.mk hn
 have HT : Aside0 (bytesR most l k = takeR n (countR most l k).2.1 (countR most l k).2.2) := ⟨by unfold bytesR; rw [hn, Int.toNat_natCast]⟩
 clear hI hB hn
 go_enter Try.func33, Try.ntmps33
 go_wp2_with (first
  | (go_at_call 29; go_must ((refine (count_calls g most l k w0 w HI.out HB.out).mono ?_; rw [HN.out]; rintro e w1 ⟨rfl, hr, hs⟩; have HS := Aside0.mk hs; have HR1 := Aside0.mk hr; clear hr hs)))
  | (go_at_call 53; go_must ((refine (take_calls g n _ _ w0 _ (by exact HR1.out) (by exact HS.out.below)).mono ?_; rintro e w3 ⟨v1, rfl, ho, hr, hs⟩; have HO := Aside0.mk ho; have HS2 := Aside0.mk hs; have HR2 := Aside0.mk hr; clear ho hr hs))))
 go_ret
 rw [HT.out]
 exact ⟨_, rfl, HO.out.lower HS.out.keep.1, HR2.out, HS.out.trans HS2.out⟩

set_option maxHeartbeats 800000 in
theorem rtext_calls (g : Nat) (most : Int) (l : List Int) (k : Int) (w0 w : World) (hI : Rdr 71 w0 w g l k) (hB : Below w0.heap.size w0 w) :
  Calls Try.prog 32 #[.pointer (some ⟨g, 0, none⟩), .int .i64 most] w fun e w' => e = .returned (.string (strOfNums (bytesR most l k).1)) ∧ Rdr 71 w0 w' g (bytesR most l k).2.1 (bytesR most l k).2.2 ∧ Stp w0 w w' g := by
 have HI := Aside0.mk hI
 have HB := Aside0.mk hB
 clear hI hB
 go_enter Try.func32, Try.ntmps32
 go_wp2_with (first
  | (go_at_call 33; go_must ((refine (rbytes_calls g most l k w0 w HI.out HB.out).mono ?_; rintro e w1 ⟨v, rfl, ho, hr, hs⟩; obtain ⟨A, c, rfl, hc, hC⟩ := ho.rd; have hstr := Kd.C_string (P := Try.prog) (src := 29) (dst := 9) (e := 5) (c := c) Try.underlying29 Try.underlying5 Try.underlying9 hC; have HS := Aside0.mk hs; have HR1 := Aside0.mk hr; clear hr hs hC ho))))
 go_ret
 exact ⟨rfl, HR1.out, HS.out⟩

/-- Bool: a word. -/
def boolR (l : List Int) (k : Int) : Bool × List Int × Int :=
 if (takeR 1 l k).1 = [] then (false, (takeR 1 l k).2.1, (takeR 1 l k).2.2) else if 1 < rd (takeR 1 l k).1 0 then (false, [], 4) else (rd (takeR 1 l k).1 0 == 1, (takeR 1 l k).2.1, (takeR 1 l k).2.2)
set_option maxHeartbeats 800000 in
theorem rbool_calls (g : Nat) (l : List Int) (k : Int) (w0 w : World) (hI : Rdr 71 w0 w g l k) (hB : Below w0.heap.size w0 w) :
  Calls Try.prog 31 #[.pointer (some ⟨g, 0, none⟩)] w fun e w' => e = .returned (.bool (boolR l k).1) ∧ Rdr 71 w0 w' g (boolR l k).2.1 (boolR l k).2.2 ∧ Stp w0 w w' g := by
 have HI := Aside0.mk hI
 have HB := Aside0.mk hB
 clear hI hB
 obtain ⟨x, hx⟩ : ∃ x, (takeR 1 l k).1 = x := ⟨_, rfl⟩
 have HX := Aside0.mk hx
 have HT : Aside0 (boolR l k = if x = [] then (false, (takeR 1 l k).2.1, (takeR 1 l k).2.2) else if 1 < rd x 0 then (false, [], 4) else (rd x 0 == 1, (takeR 1 l k).2.1, (takeR 1 l k).2.2)) := ⟨by unfold boolR; rw [hx]⟩
 clear hx
 by_cases h0 : x = []
 ·subst h0
  rw [if_pos rfl] at HT
  go_enter Try.func31, Try.ntmps31
  go_wp2_with (first
   | (go_at_call 53; go_must ((refine (take_calls g 1 l k w0 w HI.out HB.out).mono ?_; rw [HX.out]; rintro e w3 ⟨v1, rfl, ho, hr, hs⟩; obtain ⟨A, c, rfl, hc, hC⟩ := ho.rd; have HS := Aside0.mk hs; have HR1 := Aside0.mk hr; clear hr hs hC ho))))
  go_ret
  rw [HT.out]
  exact ⟨rfl, HR1.out, HS.out⟩
 ·have hp : 0 < x.length := by rcases x with _ | _ <;> simp_all
  have hp' : ((x.length : Int) == 0) = false := by simp; omega
  obtain ⟨y, hy⟩ : ∃ y, rd x 0 = y := ⟨_, rfl⟩
  have HY := Aside0.mk hy
  clear hy
  rw [if_neg h0, HY.out] at HT
  have H0 := Aside0.mk h0
  clear h0
  by_cases h1 : 1 < y
  ·rw [if_pos h1] at HT
   go_enter Try.func31, Try.ntmps31
   go_wp2_with (first
    | (go_at_call 53; go_must ((refine (take_calls g 1 l k w0 w HI.out HB.out).mono ?_; rw [HX.out]; rintro e w3 ⟨v1, rfl, ho, hr, hs⟩; obtain ⟨A, c, rfl, hc, hC⟩ := ho.rd; obtain ⟨ad, rfl, hx0⟩ := Kd.at_int hC 0 (by omega) (by omega); rw [HY.out] at hx0; simp only [Int.toNat_zero, Addr.add_zero'] at hx0; have HS := Aside0.mk hs; have HR1 := Aside0.mk hr; clear hr hs hC ho)))
    | (go_at_call 51; go_must ((refine (fail_calls g _ _ 4 w0 _ (by exact HR1.out) (by exact HS.out.below)).mono ?_; rintro e w3 ⟨rfl, hr, hs⟩; have HS2 := Aside0.mk hs; have HR2 := Aside0.mk hr; clear hr hs))))
   go_ret
   rw [HT.out]
   exact ⟨rfl, HR2.out, HS.out.trans HS2.out⟩
  ·rw [if_neg h1] at HT
   go_enter Try.func31, Try.ntmps31
   go_wp2_with (first
    | (go_at_call 53; go_must ((refine (take_calls g 1 l k w0 w HI.out HB.out).mono ?_; rw [HX.out]; rintro e w3 ⟨v1, rfl, ho, hr, hs⟩; obtain ⟨A, c, rfl, hc, hC⟩ := ho.rd; obtain ⟨ad, rfl, hx0⟩ := Kd.at_int hC 0 (by omega) (by omega); rw [HY.out] at hx0; simp only [Int.toNat_zero, Addr.add_zero'] at hx0; have HS := Aside0.mk hs; have HR1 := Aside0.mk hr; clear hr hs hC ho))))
   go_ret
   rw [HT.out]
   exact ⟨rfl, HR1.out, HS.out⟩
end Go.Proofs.Ytaiakklflmhpmaa.K

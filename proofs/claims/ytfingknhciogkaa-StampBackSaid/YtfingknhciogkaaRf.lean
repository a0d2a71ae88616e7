/- wire.Reader, the rest: Count, take, Bytes, Text, Bool. -/
import Derived.Test.YtfingknhciogkaaRe
namespace Go.Proofs.Ytfingknhciogkaa.K
open Go.RowKit Go.Proofs.YtfingknhciogkaaW.PrintWords Go.Proofs.YtfingknhciogkaaW.PrintLast Go.Proofs.YtfingknhciogkaaW.PrintMore
set_option linter.unusedVariables false
set_option linter.unusedSimpArgs false

/-- Count: a number that is no more than most. -/
def countR (most : Int) (l : List Int) (k : Int) : Int × List Int × Int :=
  if (numR l k).2.2 ≠ 0 then (0, (numR l k).2.1, (numR l k).2.2) else if most < 0 ∨ 4611686018427387904 ≤ (numR l k).1 ∨ most < (numR l k).1 then (0, [], 3) else ((numR l k).1, (numR l k).2.1, 0)

theorem numR_zero {l : List Int} {k : Int} (h : (numR l k).2.2 = 0) : k = 0 := by
  unfold numR at h
  split at h
  · assumption
  · exact h
theorem Rdr.cell1 {T : Nat} {w0 W : World} {g : Nat} {l : List Int} {k : Int} (h : Rdr T w0 W g l k) : W.cell? ⟨g, 1, none⟩ = some (.int .i64 k) := by
  obtain ⟨v, hb, _⟩ := h
  exact (blk_cell hb 1).trans rfl
theorem Rdr.bl {T : Nat} {w0 W : World} {g : Nat} {l : List Int} {k : Int} (h : Rdr T w0 W g l k) : BL l := h.choose_spec.2.2.2

set_option maxHeartbeats 800000 in
theorem count_calls (g : Nat) (most : Int) (l : List Int) (k : Int) (w0 w : World) (hI : Rdr 56 w0 w g l k) (hB : Below w0.heap.size w0 w) :
    Calls Try.prog 34 #[.pointer (some ⟨g, 0, none⟩), .int .i64 most] w fun e w' => e = .returned (.int .i64 (countR most l k).1) ∧ Rdr 56 w0 w' g (countR most l k).2.1 (countR most l k).2.2 ∧ Stp w0 w w' g := by
  have hlt := Aside0.mk (numR_lt l k hI.bl)
  have HI := Aside0.mk hI
  have HB := Aside0.mk hB
  clear hI hB
  obtain ⟨n, hn⟩ : ∃ n, (numR l k).1 = n := ⟨_, rfl⟩
  obtain ⟨l1, hl1⟩ : ∃ n, (numR l k).2.1 = n := ⟨_, rfl⟩
  obtain ⟨k1, hk1⟩ : ∃ n, (numR l k).2.2 = n := ⟨_, rfl⟩
  have HE : Aside0 (numR l k = (n, l1, k1)) := ⟨by rw [← hn, ← hl1, ← hk1]⟩
  rw [hn] at hlt
  clear hn hl1 hk1
  have hn0 := hlt.out
  by_cases hk : k1 = 0
  · subst hk
    by_cases hm : most < 0
    · have HC : Aside0 (countR most l k = (0, [], 3)) := ⟨by unfold countR; rw [HE.out]; simp [hm]⟩
      go_enter Try.func34, Try.ntmps34
      go_wp2_with (first
        | (go_at_call 42; go_must ((refine (rnum_calls g l k w0 w HI.out HB.out).mono ?_; rw [HE.out]; rintro e w1 ⟨rfl, hr, hs⟩; have HS := Aside0.mk hs; have HR1 := Aside0.mk hr; clear hr hs)))
        | (go_at_call 35; go_must ((refine (ok_calls g 0 _ (by exact HR1.out.cell1)).mono ?_; rintro e w2 ⟨rfl, ⟨m1, rfl⟩⟩)))
        | (go_at_call 44; go_must ((refine (fail_calls g l1 0 3 w0 _ (by exact HR1.out.drewN _) (by exact (HS.out.drewN _).below)).mono ?_; rintro e w3 ⟨rfl, hr, hs⟩; have HS2 := Aside0.mk hs; have HR2 := Aside0.mk hr; clear hr hs))))
      go_ret
      rw [HC.out]
      exact ⟨rfl, HR2.out, (HS.out.drewN _).trans HS2.out⟩
    · by_cases h62 : 4611686018427387904 ≤ n
      · have HC : Aside0 (countR most l k = (0, [], 3)) := ⟨by unfold countR; rw [HE.out]; simp [h62]⟩
        have hb62 : 62 < Lib.bitLen n := (bitLen_62 n hn0).2 h62
        go_enter Try.func34, Try.ntmps34
        go_wp2_with (first
          | (go_at_call 42; go_must ((refine (rnum_calls g l k w0 w HI.out HB.out).mono ?_; rw [HE.out]; rintro e w1 ⟨rfl, hr, hs⟩; have HS := Aside0.mk hs; have HR1 := Aside0.mk hr; clear hr hs)))
          | (go_at_call 35; go_must ((refine (ok_calls g 0 _ (by exact HR1.out.cell1)).mono ?_; rintro e w2 ⟨rfl, ⟨m1, rfl⟩⟩)))
          | (go_at_call 43; go_must ((refine (len64_calls n _ (by omega) (by omega)).mono ?_; rintro e w4 ⟨rfl, rfl⟩; rw [Int.toNat_natCast])))
          | (go_at_call 44; go_must ((refine (fail_calls g l1 0 3 w0 _ (by exact HR1.out.drewN _) (by exact (HS.out.drewN _).below)).mono ?_; rintro e w3 ⟨rfl, hr, hs⟩; have HS2 := Aside0.mk hs; have HR2 := Aside0.mk hr; clear hr hs))))
        go_ret
        rw [HC.out]
        exact ⟨rfl, HR2.out, (HS.out.drewN _).trans HS2.out⟩
      · have hb62 : Lib.bitLen n ≤ 62 := by have := (bitLen_62 n hn0).1; omega
        by_cases hmn : most < n
        · have HC : Aside0 (countR most l k = (0, [], 3)) := ⟨by unfold countR; rw [HE.out]; simp [hmn]⟩
          go_enter Try.func34, Try.ntmps34
          go_wp2_with (first
            | (go_at_call 42; go_must ((refine (rnum_calls g l k w0 w HI.out HB.out).mono ?_; rw [HE.out]; rintro e w1 ⟨rfl, hr, hs⟩; have HS := Aside0.mk hs; have HR1 := Aside0.mk hr; clear hr hs)))
            | (go_at_call 35; go_must ((refine (ok_calls g 0 _ (by exact HR1.out.cell1)).mono ?_; rintro e w2 ⟨rfl, ⟨m1, rfl⟩⟩)))
            | (go_at_call 43; go_must ((refine (len64_calls n _ (by omega) (by omega)).mono ?_; rintro e w4 ⟨rfl, rfl⟩; rw [Int.toNat_natCast])))
            | (go_at_call 44; go_must ((refine (fail_calls g l1 0 3 w0 _ (by exact HR1.out.drewN _) (by exact (HS.out.drewN _).below)).mono ?_; rintro e w3 ⟨rfl, hr, hs⟩; have HS2 := Aside0.mk hs; have HR2 := Aside0.mk hr; clear hr hs))))
          go_ret
          rw [HC.out]
          exact ⟨rfl, HR2.out, (HS.out.drewN _).trans HS2.out⟩
        · have HC : Aside0 (countR most l k = ((n : Int), l1, 0)) := ⟨by unfold countR; rw [HE.out]; simp [hmn, hm, h62]⟩
          go_enter Try.func34, Try.ntmps34
          go_wp2_with (first
            | (go_at_call 42; go_must ((refine (rnum_calls g l k w0 w HI.out HB.out).mono ?_; rw [HE.out]; rintro e w1 ⟨rfl, hr, hs⟩; have HS := Aside0.mk hs; have HR1 := Aside0.mk hr; clear hr hs)))
            | (go_at_call 35; go_must ((refine (ok_calls g 0 _ (by exact HR1.out.cell1)).mono ?_; rintro e w2 ⟨rfl, ⟨m1, rfl⟩⟩)))
            | (go_at_call 43; go_must ((refine (len64_calls n _ (by omega) (by omega)).mono ?_; rintro e w4 ⟨rfl, rfl⟩; rw [Int.toNat_natCast])))
            | (go_at_call 44; go_must ((refine (fail_calls g l1 0 3 w0 _ (by exact HR1.out.drewN _) (by exact (HS.out.drewN _).below)).mono ?_; rintro e w3 ⟨rfl, hr, hs⟩; have HS2 := Aside0.mk hs; have HR2 := Aside0.mk hr; clear hr hs))))
          go_ret
          rw [HC.out]
          exact ⟨rfl, HR1.out, HS.out.drewN _⟩
  · have hk' : (k1 == 0) = false := by simpa using hk
    have HC : Aside0 (countR most l k = (0, l1, k1)) := ⟨by unfold countR; rw [HE.out]; simp [hk]⟩
    go_enter Try.func34, Try.ntmps34
    go_wp2_with (first
      | (go_at_call 42; go_must ((refine (rnum_calls g l k w0 w HI.out HB.out).mono ?_; rw [HE.out]; rintro e w1 ⟨rfl, hr, hs⟩; have HS := Aside0.mk hs; have HR1 := Aside0.mk hr; clear hr hs)))
      | (go_at_call 35; go_must ((refine (ok_calls g k1 _ (by exact HR1.out.cell1)).mono ?_; rintro e w2 ⟨rfl, ⟨m1, rfl⟩⟩))))
    go_ret
    rw [HC.out]
    exact ⟨rfl, HR1.out, HS.out.drewN _⟩

/-- take: so many bytes. -/
def takeR (n : Nat) (l : List Int) (k : Int) : List Int × List Int × Int :=
  if k ≠ 0 then ([], l, k) else if l.length < n then ([], [], 4) else (l.take n, l.drop n, 0)

/-- Bytes: how many, and they. -/
def bytesR (most : Int) (l : List Int) (k : Int) : List Int × List Int × Int := takeR (countR most l k).1.toNat (countR most l k).2.1 (countR most l k).2.2
theorem countR_nonneg (most : Int) (l : List Int) (k : Int) : 0 ≤ (countR most l k).1 := by
  unfold countR
  split
  · simp
  · split
    · simp
    · simp
/- cachetteref01.Reader, the rest: Done, Count, Bytes. -/
import Derived.Test.YtginodjiaohcmaaRef2
namespace Go.Proofs.Ytginodjiaohcmaa.K
open Go.RowKit Go.Proofs.YtginodjiaohcmaaW.PrintWords Go.Proofs.YtginodjiaohcmaaW.PrintLast Go.Proofs.YtginodjiaohcmaaW.PrintMore
set_option linter.unusedVariables false
set_option linter.unusedSimpArgs false

theorem Rdr.cell0 {T : Nat} {w0 W : World} {g : Nat} {l : List Int} {k : Int} (h : Rdr T w0 W g l k) : ∃ A c, W.cell? ⟨g, 0, none⟩ = some (.slice A l.length c) := by
  obtain ⟨v, hb, _, ⟨A, c, rfl, _, _⟩, _⟩ := h
  exact ⟨A, c, (blk_cell hb 0).trans rfl⟩
theorem numR_bad {l : List Int} {k : Int} (h : (numR l k).2.2 ≠ 0) : (numR l k).1 = 0 := by
  unfold numR at *
  (repeat' split) <;> simp_all
theorem countR_bad {most : Int} {l : List Int} {k : Int} (h : (countR most l k).2.2 ≠ 0) : (countR most l k).1 = 0 := by
  unfold countR at *
  (repeat' split) <;> simp_all

set_option maxHeartbeats 800000 in
theorem fdone_calls (g : Nat) (l : List Int) (k : Int) (w0 w : World) (hI : Rdr 63 w0 w g l k) :
    Calls Try.prog 37 #[.pointer (some ⟨g, 0, none⟩)] w fun e w' => e = .returned (.int .i64 (doneR l k)) ∧ Drawn0 w w' := by
  obtain ⟨v, hb, hg, hR, hl⟩ := hI
  have h0 : w.cell? ⟨g, 0, none⟩ = some v := (blk_cell hb 0).trans rfl
  have h1 : w.cell? ⟨g, 1, none⟩ = some (.int .i64 k) := (blk_cell hb 1).trans rfl
  obtain ⟨A, c, rfl, hc, hC⟩ := hR
  clear hb hg hl hC
  by_cases hk : k = 0
  · subst hk
    by_cases hp : 0 < l.length
    · go_enter Try.func37, Try.ntmps37
      go_wp2
      go_ret
      exact ⟨ret_int (by simp [doneR, hp]), by repeat (first | exact Drawn0.refl _ | apply Drawn0.step)⟩
    · have h0l : l.length = 0 := by omega
      go_enter Try.func37, Try.ntmps37
      go_wp2
      go_ret
      exact ⟨ret_int (by simp [doneR, hp]), by repeat (first | exact Drawn0.refl _ | apply Drawn0.step)⟩
  · have hk' : (k == 0) = false := by simpa using hk
    go_enter Try.func37, Try.ntmps37
    go_wp2
    go_ret
    exact ⟨ret_int (by simp [doneR, hk]), by repeat (first | exact Drawn0.refl _ | apply Drawn0.step)⟩

set_option maxHeartbeats 800000 in
theorem fcount_calls (g : Nat) (most : Int) (l : List Int) (k : Int) (w0 w : World) (hI : Rdr 63 w0 w g l k) (hB : Below w0.heap.size w0 w) (h62 : most < 4611686018427387904) :
    Calls Try.prog 33 #[.pointer (some ⟨g, 0, none⟩), .int .i64 most] w fun e w' => e = .returned (.int .i64 (countR most l k).1) ∧ Rdr 63 w0 w' g (countR most l k).2.1 (countR most l k).2.2 ∧ Stp w0 w w' g := by
  have hlt := Aside0.mk (numR_lt l k hI.bl)
  have hbad := Aside0.mk (numR_bad (l := l) (k := k))
  have HI := Aside0.mk hI
  have HB := Aside0.mk hB
  clear hI hB
  obtain ⟨n, hn⟩ : ∃ n, (numR l k).1 = n := ⟨_, rfl⟩
  obtain ⟨l1, hl1⟩ : ∃ n, (numR l k).2.1 = n := ⟨_, rfl⟩
  obtain ⟨k1, hk1⟩ : ∃ n, (numR l k).2.2 = n := ⟨_, rfl⟩
  have HE : Aside0 (numR l k = (n, l1, k1)) := ⟨by rw [← hn, ← hl1, ← hk1]⟩
  rw [hn] at hlt hbad
  rw [hk1] at hbad
  clear hn hl1 hk1
  have hn0 := hlt.out
  by_cases hk : k1 = 0
  · subst hk
    by_cases hm : most < 0
    · have HC : Aside0 (countR most l k = (0, [], 3)) := ⟨by unfold countR; rw [HE.out]; simp [hm]⟩
      go_enter Try.func33, Try.ntmps33
      go_wp2_with (first
        | (go_at_call 58; go_must ((refine (fnumr_calls g l k w0 w HI.out HB.out).mono ?_; rw [HE.out]; rintro e w1 ⟨rfl, hr, hs⟩; have c1 := hr.cell1; have HS := Aside0.mk hs; have HR1 := Aside0.mk hr; clear hr hs)))
        | (go_at_call 59; go_must ((refine (ffail_calls g l1 0 3 w0 _ (by exact HR1.out) (by exact HS.out.below)).mono ?_; rintro e w3 ⟨rfl, hr, hs⟩; have HS2 := Aside0.mk hs; have HR2 := Aside0.mk hr; clear hr hs))))
      go_ret
      rw [HC.out]
      exact ⟨rfl, HR2.out, HS.out.trans HS2.out⟩
    · have hmz : IntKind.u64.wrap most = most := by
        simp only [IntKind.wrap, IntKind.bits, IntKind.signed]
        simp
        omega
      by_cases hmn : most < n
      · have HC : Aside0 (countR most l k = (0, [], 3)) := ⟨by unfold countR; rw [HE.out]; simp [hmn]⟩
        go_enter Try.func33, Try.ntmps33
        go_wp2_with (first
          | (go_at_call 58; go_must ((refine (fnumr_calls g l k w0 w HI.out HB.out).mono ?_; rw [HE.out]; rintro e w1 ⟨rfl, hr, hs⟩; have c1 := hr.cell1; have HS := Aside0.mk hs; have HR1 := Aside0.mk hr; clear hr hs)))
          | (go_at_call 59; go_must ((refine (ffail_calls g l1 0 3 w0 _ (by exact HR1.out) (by exact HS.out.below)).mono ?_; rintro e w3 ⟨rfl, hr, hs⟩; have HS2 := Aside0.mk hs; have HR2 := Aside0.mk hr; clear hr hs))))
        go_ret
        rw [HC.out]
        exact ⟨rfl, HR2.out, HS.out.trans HS2.out⟩
      · have HC : Aside0 (countR most l k = ((n : Int), l1, 0)) := ⟨by unfold countR; rw [HE.out]; simp [hmn, hm, show ¬ 4611686018427387904 ≤ n by omega]⟩
        go_enter Try.func33, Try.ntmps33
        go_wp2_with (first
          | (go_at_call 58; go_must ((refine (fnumr_calls g l k w0 w HI.out HB.out).mono ?_; rw [HE.out]; rintro e w1 ⟨rfl, hr, hs⟩; have c1 := hr.cell1; have HS := Aside0.mk hs; have HR1 := Aside0.mk hr; clear hr hs))))
        go_ret
        rw [HC.out]
        exact ⟨rfl, HR1.out, HS.out⟩
  · have hk' : (k1 == 0) = false := by simpa using hk
    have hn00 : n = 0 := hbad.out hk
    have HC : Aside0 (countR most l k = (0, l1, k1)) := ⟨by unfold countR; rw [HE.out]; simp [hk]⟩
    subst hn00
    go_enter Try.func33, Try.ntmps33
    go_wp2_with (first
      | (go_at_call 58; go_must ((refine (fnumr_calls g l k w0 w HI.out HB.out).mono ?_; rw [HE.out]; rintro e w1 ⟨rfl, hr, hs⟩; have c1 := hr.cell1; have HS := Aside0.mk hs; have HR1 := Aside0.mk hr; clear hr hs))))
    go_ret
    rw [HC.out]
    exact ⟨rfl, HR1.out, HS.out⟩

set_option maxHeartbeats 800000 in
theorem frbytes_calls (g : Nat) (most : Int) (l : List Int) (k : Int) (w0 w : World) (hI : Rdr 63 w0 w g l k) (hB : Below w0.heap.size w0 w) (h62 : most < 4611686018427387904) :
    Calls Try.prog 36 #[.pointer (some ⟨g, 0, none⟩), .int .i64 most] w fun e w' => ∃ v, e = .returned v ∧ Rd w0 v (bytesR most l k).1 ∧ Rdr 63 w0 w' g (bytesR most l k).2.1 (bytesR most l k).2.2 ∧ Stp w0 w w' g := by
  have HI := Aside0.mk hI
  have HB := Aside0.mk hB
  obtain ⟨n, hn⟩ : ∃ n : Nat, (countR most l k).1 = n := ⟨_, (Int.toNat_of_nonneg (countR_nonneg most l k)).symm⟩
  obtain ⟨l1, hl1⟩ : ∃ n, (countR most l k).2.1 = n := ⟨_, rfl⟩
  obtain ⟨k1, hk1⟩ : ∃ n, (countR most l k).2.2 = n := ⟨_, rfl⟩
  have HT : Aside0 (bytesR most l k = takeR n l1 k1) := ⟨by unfold bytesR; rw [hn, hl1, hk1, Int.toNat_natCast]⟩
  have HE : Aside0 (countR most l k = ((n : Int), l1, k1)) := ⟨by rw [← hn, ← hl1, ← hk1]⟩
  clear hI hB hn hl1 hk1
  by_cases hk : k1 = 0
  · subst hk
    by_cases hln : l1.length < n
    · have HC : Aside0 (takeR n l1 0 = ([], [], 4)) := ⟨by unfold takeR; simp [hln]⟩
      go_enter Try.func36, Try.ntmps36
      go_wp2_with (first
        | (go_at_call 33; go_must ((refine (fcount_calls g most l k w0 w HI.out HB.out h62).mono ?_; rw [HE.out]; rintro e w1 ⟨rfl, hr, hs⟩; have c1 := hr.cell1; obtain ⟨Ac, cc, c0⟩ := hr.cell0; have HS := Aside0.mk hs; have HR1 := Aside0.mk hr; clear hr hs)))
        | (go_at_call 59; go_must ((refine (ffail_calls g l1 0 4 w0 _ (by exact HR1.out) (by exact HS.out.below)).mono ?_; rintro e w3 ⟨rfl, hr, hs⟩; have HS2 := Aside0.mk hs; have HR2 := Aside0.mk hr; clear hr hs))))
      go_ret
      rw [HT.out, HC.out]
      exact ⟨_, rfl, Rd.nil _, HR2.out, HS.out.trans HS2.out⟩
    · have hn' : n ≤ l1.length := by omega
      have HC : Aside0 (takeR n l1 0 = (l1.take n, l1.drop n, 0)) := ⟨by unfold takeR; simp [hln]⟩
      go_enter Try.func36, Try.ntmps36
      go_wp2_with (first
        | (go_at_call 33; go_must ((refine (fcount_calls g most l k w0 w HI.out HB.out h62).mono ?_; rw [HE.out]; rintro e w1 ⟨rfl, hr, hs⟩; have c1 := hr.cell1; obtain ⟨v, hb, hg, hR, hl⟩ := hr; obtain ⟨A, c, rfl, hc, hC0⟩ := hR; have c0 : w1.cell? ⟨g, 0, none⟩ = some (.slice A l1.length c) := (blk_cell hb 0).trans rfl; have f0 : w1.frozen? ⟨g, 0, none⟩ = false := blk_frozen hb 0; have HBK := Aside0.mk hb; have HC0 := Aside0.mk hC0; have HL := Aside0.mk hl; obtain ⟨A1, hcut, hR1⟩ := cut_from (P := Try.prog) 24 Try.underlying24 info5 A l1 c n hn' hc; have HR1 := Aside0.mk hR1; clear hR1; have HS := Aside0.mk hs; clear hs hb hC0 hl))))
      go_ret
      rw [HT.out, HC.out]
      exact ⟨_, rfl, rd_take HC0.out hn' hc, ⟨_, by simpa using blk_set HBK.out 0 (.slice A1 (l1.length - n) (c - n)), hg, HR1.out w0 HC0.out, HL.out.drop _⟩, HS.out.below.setCell hg _, HS.out.keep.set_ 0 _⟩
  · have hk' : (k1 == 0) = false := by simpa using hk
    have HC : Aside0 (takeR n l1 k1 = ([], l1, k1)) := ⟨by unfold takeR; simp [hk]⟩
    go_enter Try.func36, Try.ntmps36
    go_wp2_with (first
      | (go_at_call 33; go_must ((refine (fcount_calls g most l k w0 w HI.out HB.out h62).mono ?_; rw [HE.out]; rintro e w1 ⟨rfl, hr, hs⟩; have c1 := hr.cell1; have HS := Aside0.mk hs; have HR1 := Aside0.mk hr; clear hr hs))))
    go_ret
    rw [HT.out, HC.out]
    exact ⟨_, rfl, Rd.nil _, HR1.out, HS.out⟩
end Go.Proofs.Ytginodjiaohcmaa.K

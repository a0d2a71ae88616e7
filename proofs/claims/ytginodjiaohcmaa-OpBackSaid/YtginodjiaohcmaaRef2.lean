/- cachetteref01.Reader: the document's reader, method by method, by the same twins as wire's. Printed by mkref2.py. -/
import Derived.Test.YtginodjiaohcmaaRef01
namespace Go.Proofs.Ytginodjiaohcmaa.K
open Go.RowKit Go.Proofs.YtginodjiaohcmaaW.PrintWords Go.Proofs.YtginodjiaohcmaaW.PrintLast Go.Proofs.YtginodjiaohcmaaW.PrintMore
set_option linter.unusedVariables false
set_option linter.unusedSimpArgs false

theorem valF_drop (l : List Int) (s : Nat) : valF (l.drop s) ≤ valF l := by
  induction l generalizing s with
  | nil => simp
  | cons c r ih =>
    cases s with
    | zero => exact Nat.le_refl _
    | succ s =>
      have := ih s
      simp only [List.drop_succ_cons, valF]
      omega
theorem widF_big {i : Nat} {c : Int} {r : List Int} (h : 128 ≤ c) : widF i (c :: r) = if i = 9 then 0 else widF (i + 1) r := by
  simp only [widF]
  (repeat' split) <;> omega

set_option maxHeartbeats 400000 in
theorem ffail_calls (g : Nat) (l : List Int) (k k1 : Int) (w0 w : World) (hI : Rdr 63 w0 w g l k) (hB : Below w0.heap.size w0 w) :
    Calls Try.prog 59 #[.pointer (some ⟨g, 0, none⟩), .int .i64 k1] w fun e w' => e = .returned (.tuple #[]) ∧ Rdr 63 w0 w' g [] k1 ∧ Stp w0 w w' g := by
  obtain ⟨v, hb, hg, hR, hl⟩ := hI
  have h0 : w.cell? ⟨g, 0, none⟩ = some v := (blk_cell hb 0).trans rfl
  have h1 : w.cell? ⟨g, 1, none⟩ = some (.int .i64 k) := (blk_cell hb 1).trans rfl
  have f0 : w.frozen? ⟨g, 0, none⟩ = false := blk_frozen hb 0
  have f1 : w.frozen? ⟨g, 1, none⟩ = false := blk_frozen hb 1
  have HB := Aside0.mk hb
  clear hb hR hl
  go_enter Try.func59, Try.ntmps59
  go_wp2
  go_end0
  exact ⟨rfl, ⟨_, by simpa using blk_set (blk_set HB.out 1 (.int .i64 k1)) 0 (.slice none 0 0), hg, Rd.nil _, BL.nil⟩, (hB.setCell hg _).setCell hg _, ((KeepBut.refl _ _ _).set_ 1 _).set_ 0 _⟩

set_option maxRecDepth 100000 in
set_option maxHeartbeats 4000000 in
theorem fnumr_calls (g : Nat) (l : List Int) (k : Int) (w0 w : World) (hI : Rdr 63 w0 w g l k) (hB : Below w0.heap.size w0 w) :
    Calls Try.prog 58 #[.pointer (some ⟨g, 0, none⟩)] w fun e w' => e = .returned (.int .u64 (numR l k).1) ∧ Rdr 63 w0 w' g (numR l k).2.1 (numR l k).2.2 ∧ Stp w0 w w' g := by
  have HI := Aside0.mk hI
  obtain ⟨v, hb, hg, hR, hl⟩ := hI
  have h0 : w.cell? ⟨g, 0, none⟩ = some v := (blk_cell hb 0).trans rfl
  have h1 : w.cell? ⟨g, 1, none⟩ = some (.int .i64 k) := (blk_cell hb 1).trans rfl
  have f0 : w.frozen? ⟨g, 0, none⟩ = false := blk_frozen hb 0
  have HBK := Aside0.mk hb
  have HB := Aside0.mk hB
  obtain ⟨A0, c, rfl, hc, hC0⟩ := hR
  have HC0 := Aside0.mk hC0
  have HC := Aside0.mk (Kd.C_below hC0 hB)
  have hm := hl.2
  clear hB hb hC0
  by_cases hk : k = 0
  · subst hk
    go_enter Try.func58, Try.ntmps58
    go_wp2
    go_loopw [3] (fun v3 wr => ∃ i : Nat, v3 = .int .i64 i ∧ i ≤ l.length ∧ i ≤ 10 ∧ Aside0 ((i ≤ 9 → widF i (l.drop i) = widF 0 l) ∧ (i = 10 → widF 0 l = 0)) ∧ Drawn0 w wr) (fun v3 _ => l.length - (intOf v3).toNat)
    case atStart => exact ⟨0, rfl, Nat.zero_le _, by decide, ⟨fun _ => rfl, fun h => absurd h (by decide)⟩, by repeat (first | exact Drawn0.refl _ | apply Drawn0.step)⟩
    case round =>
      obtain ⟨i, rfl, hi, hi10, HE, ⟨m1, rfl⟩⟩ := hrel
      by_cases hlt : i < l.length
      · by_cases h10 : i < 10
        · obtain ⟨ad, rfl, hx⟩ := Kd.at_int HC.out i (by omega) (by omega)
          have HD := Aside0.mk (drop_rd hlt)
          obtain ⟨x, hxx⟩ : ∃ x, x = rd l i := ⟨_, rfl⟩
          rw [Int.toNat_natCast, ← hxx] at hx
          rw [← hxx] at HD
          have hxb : 0 ≤ x ∧ x ≤ 255 := by rw [hxx]; exact hl.1 _ (rd_mem hlt)
          clear hxx
          have HE9 : Aside0 (widF i (x :: l.drop (i + 1)) = widF 0 l) := ⟨by rw [← HD.out]; exact HE.out.1 (by omega)⟩
          by_cases h128 : 128 ≤ x
          · go_wp2
            repeat (go_quiet (fail); try go_wp2)
            go_roundw
            case rel =>
              refine ⟨i + 1, by go_num, by omega, by omega, ⟨fun h => ?_, fun h => ?_⟩, by repeat (first | exact Drawn0.refl _ | apply Drawn0.step)⟩
              · rw [← HE9.out, widF_big h128, if_neg (by omega)]
              · rw [← HE9.out, widF_big h128, if_pos (by omega)]
            case measure => simp [intOf]; omega
          · by_cases h9 : i = 9
            · have h92 : ((i : Int) == 9) = true := by simp; omega
              have hi0 : 0 < i := by omega
              have H9 := Aside0.mk h9
              clear h9
              by_cases hx1 : x = 1
              · subst hx1
                have hw : widF 0 l = i + 1 := by
                  have h9 := H9.out
                  rw [← HE9.out]
                  simp only [widF]
                  (repeat' split) <;> first | rfl | omega
                have HW := Aside0.mk hw
                clear hw
                go_wp2
                go_loopw [4, 5] (fun v4 v5 wr => ∃ s : Nat, v4 = .int .u64 (valF ((l.take (i + 1)).drop s)) ∧ v5 = .int .i64 ((s : Int) - 1) ∧ s ≤ i + 1 ∧ Drawn0 w wr) (fun _ v5 _ => (intOf v5 + 1).toNat)
                case atStart => exact ⟨i + 1, by rw [List.drop_eq_nil_of_le (by rw [List.length_take]; omega)]; rfl, by go_num, Nat.le_refl _, ⟨⟨_, rfl⟩⟩⟩
                case round =>
                  obtain ⟨s, hv4, hv5, hs, ⟨m2, rfl⟩⟩ := hrel
                  cases s with
                  | zero =>
                    rw [show ((0 : Nat) : Int) - 1 = -1 from rfl] at hv5
                    subst hv5
                    subst hv4
                    obtain ⟨A1, hcut, hR1⟩ := cut_from (P := Try.prog) 24 Try.underlying24 info5 (some ad) l c (i + 1) hlt hc
                    have HR1 := Aside0.mk hR1
                    rw [show ((i + 1 : Nat) : Int) = (i : Int) + 1 from rfl] at hcut
                    clear hR1
                    go_wp2
                    go_ret
                    have hnum : numR l 0 = (valF (l.take (i + 1)), l.drop (i + 1), 0) := by rw [numR, if_pos rfl, HW.out, if_neg (by omega)]
                    rw [hnum]
                    exact ⟨rfl, ⟨_, by simpa using blk_set (blk_drewN HBK.out m2) 0 (.slice A1 (l.length - (i + 1)) (c - (i + 1))), hg, HR1.out w0 HC0.out, hl.drop _⟩, (pw_below_drewN HB.out m2).setCell hg _, ((Stp.drewN (Stp.refl g HB.out) m2).keep).set_ 0 _⟩
                  | succ s =>
                    rw [show ((s + 1 : Nat) : Int) - 1 = (s : Int) by omega] at hv5
                    subst hv5
                    obtain ⟨y, hy⟩ : ∃ y, y = valF ((l.take (i + 1)).drop (s + 1)) := ⟨_, rfl⟩
                    rw [← hy] at hv4
                    subst hv4
                    have HY := Aside0.mk hy
                    clear hy
                    have hsl : s < l.length := by omega
                    obtain ⟨ad', hae, hz⟩ := Kd.at_int HC.out s (by omega) (by omega)
                    obtain rfl : ad = ad' := by injection hae
                    obtain ⟨z, hzz⟩ : ∃ z, z = rd l s := ⟨_, rfl⟩
                    rw [Int.toNat_natCast, ← hzz] at hz
                    have hzb : 0 ≤ z ∧ z ≤ 255 := by rw [hzz]; exact hl.1 _ (rd_mem hsl)
                    have HZ := Aside0.mk hzz
                    clear hzz
                    have HV : Aside0 (valF ((l.take (i + 1)).drop s) = (z % 128).toNat + 128 * y) := ⟨by
                      have e := drop_rd (l := l.take (i + 1)) (i := s) (by rw [List.length_take]; omega)
                      have e2 : rd (l.take (i + 1)) s = z := by rw [HZ.out]; simp [rd, List.getD_eq_getElem?_getD, List.getElem?_take, show s < i + 1 by omega]
                      rw [e, valF, e2, HY.out]⟩
                    have hbig : (z % 128).toNat + 128 * y < 18446744073709551616 := by
                      rw [← HV.out]
                      have h1 : valF ((l.take (i + 1)).drop s) ≤ valF (l.take (i + 1)) := valF_drop _ _
                      have h2 := numR_lt l 0 hl
                      rw [show (numR l 0).1 = valF (l.take (i + 1)) by rw [numR, if_pos rfl, HW.out, if_neg (by omega)]] at h2
                      omega
                    go_wp2
                    repeat (go_quiet (fail); try go_wp2)
                    go_roundw
                    case rel =>
                      refine ⟨s, ?_, by go_num, by omega, by repeat (first | exact Drawn0.refl _ | apply Drawn0.step)⟩
                      rw [HV.out]
                      congr 1
                      omega
                    case measure => first | (simp [intOf]; done) | (simp [intOf]; omega)
              · have hx2 : (x == 1) = false := by simpa using hx1
                have hw : widF 0 l = 0 := by
                  have h9 := H9.out
                  rw [← HE9.out]
                  simp only [widF]
                  (repeat' split) <;> first | rfl | omega
                have HW := Aside0.mk hw
                clear hw
                go_wp2_with (first
                  | (go_at_call 59; go_must ((refine (ffail_calls g l 0 4 w0 _ (HI.out.drewN _) (pw_below_drewN HB.out _)).mono ?_; rintro e w1 ⟨rfl, hr, hs⟩; have HS := Aside0.mk hs; have HR1 := Aside0.mk hr; clear hr hs))))
                go_ret
                simp only [numR, HW.out, if_true]
                exact ⟨rfl, HR1.out, (Stp.drewN (Stp.refl g HB.out) _).trans HS.out⟩
            · have h92 : ((i : Int) == 9) = false := by simp; omega
              by_cases hi0 : 0 < i
              · by_cases hx0 : x = 0
                · subst hx0
                  have hw : widF 0 l = 0 := by
                    rw [← HE9.out, widF, if_neg (by rintro ⟨h, _⟩; exact h9 h), if_pos (by decide), if_pos ⟨rfl, hi0⟩]
                  have HW := Aside0.mk hw
                  clear hw
                  go_wp2_with (first
                    | (go_at_call 59; go_must ((refine (ffail_calls g l 0 4 w0 _ (HI.out.drewN _) (pw_below_drewN HB.out _)).mono ?_; rintro e w1 ⟨rfl, hr, hs⟩; have HS := Aside0.mk hs; have HR1 := Aside0.mk hr; clear hr hs))))
                  go_ret
                  simp only [numR, HW.out, if_true]
                  exact ⟨rfl, HR1.out, (Stp.drewN (Stp.refl g HB.out) _).trans HS.out⟩
                · have hx2 : (x == 0) = false := by simpa using hx0
                  have hw : widF 0 l = i + 1 := by
                    rw [← HE9.out]
                    simp only [widF]
                    (repeat' split) <;> first | rfl | omega
                  have HW := Aside0.mk hw
                  clear hw
                  go_wp2
                  go_loopw [4, 5] (fun v4 v5 wr => ∃ s : Nat, v4 = .int .u64 (valF ((l.take (i + 1)).drop s)) ∧ v5 = .int .i64 ((s : Int) - 1) ∧ s ≤ i + 1 ∧ Drawn0 w wr) (fun _ v5 _ => (intOf v5 + 1).toNat)
                  case atStart => exact ⟨i + 1, by rw [List.drop_eq_nil_of_le (by rw [List.length_take]; omega)]; rfl, by go_num, Nat.le_refl _, ⟨⟨_, rfl⟩⟩⟩
                  case round =>
                    obtain ⟨s, hv4, hv5, hs, ⟨m2, rfl⟩⟩ := hrel
                    cases s with
                    | zero =>
                      rw [show ((0 : Nat) : Int) - 1 = -1 from rfl] at hv5
                      subst hv5
                      subst hv4
                      obtain ⟨A1, hcut, hR1⟩ := cut_from (P := Try.prog) 24 Try.underlying24 info5 (some ad) l c (i + 1) hlt hc
                      have HR1 := Aside0.mk hR1
                      rw [show ((i + 1 : Nat) : Int) = (i : Int) + 1 from rfl] at hcut
                      clear hR1
                      go_wp2
                      go_ret
                      have hnum : numR l 0 = (valF (l.take (i + 1)), l.drop (i + 1), 0) := by rw [numR, if_pos rfl, HW.out, if_neg (by omega)]
                      rw [hnum]
                      exact ⟨rfl, ⟨_, by simpa using blk_set (blk_drewN HBK.out m2) 0 (.slice A1 (l.length - (i + 1)) (c - (i + 1))), hg, HR1.out w0 HC0.out, hl.drop _⟩, (pw_below_drewN HB.out m2).setCell hg _, ((Stp.drewN (Stp.refl g HB.out) m2).keep).set_ 0 _⟩
                    | succ s =>
                      rw [show ((s + 1 : Nat) : Int) - 1 = (s : Int) by omega] at hv5
                      subst hv5
                      obtain ⟨y, hy⟩ : ∃ y, y = valF ((l.take (i + 1)).drop (s + 1)) := ⟨_, rfl⟩
                      rw [← hy] at hv4
                      subst hv4
                      have HY := Aside0.mk hy
                      clear hy
                      have hsl : s < l.length := by omega
                      obtain ⟨ad', hae, hz⟩ := Kd.at_int HC.out s (by omega) (by omega)
                      obtain rfl : ad = ad' := by injection hae
                      obtain ⟨z, hzz⟩ : ∃ z, z = rd l s := ⟨_, rfl⟩
                      rw [Int.toNat_natCast, ← hzz] at hz
                      have hzb : 0 ≤ z ∧ z ≤ 255 := by rw [hzz]; exact hl.1 _ (rd_mem hsl)
                      have HZ := Aside0.mk hzz
                      clear hzz
                      have HV : Aside0 (valF ((l.take (i + 1)).drop s) = (z % 128).toNat + 128 * y) := ⟨by
                        have e := drop_rd (l := l.take (i + 1)) (i := s) (by rw [List.length_take]; omega)
                        have e2 : rd (l.take (i + 1)) s = z := by rw [HZ.out]; simp [rd, List.getD_eq_getElem?_getD, List.getElem?_take, show s < i + 1 by omega]
                        rw [e, valF, e2, HY.out]⟩
                      have hbig : (z % 128).toNat + 128 * y < 18446744073709551616 := by
                        rw [← HV.out]
                        have h1 : valF ((l.take (i + 1)).drop s) ≤ valF (l.take (i + 1)) := valF_drop _ _
                        have h2 := numR_lt l 0 hl
                        rw [show (numR l 0).1 = valF (l.take (i + 1)) by rw [numR, if_pos rfl, HW.out, if_neg (by omega)]] at h2
                        omega
                      go_wp2
                      repeat (go_quiet (fail); try go_wp2)
                      go_roundw
                      case rel =>
                        refine ⟨s, ?_, by go_num, by omega, by repeat (first | exact Drawn0.refl _ | apply Drawn0.step)⟩
                        rw [HV.out]
                        congr 1
                        omega
                      case measure => first | (simp [intOf]; done) | (simp [intOf]; omega)
              · clear h9
                have hw : widF 0 l = i + 1 := by
                  rw [← HE9.out]
                  simp only [widF]
                  (repeat' split) <;> first | rfl | omega
                have HW := Aside0.mk hw
                clear hw
                go_wp2
                go_loopw [4, 5] (fun v4 v5 wr => ∃ s : Nat, v4 = .int .u64 (valF ((l.take (i + 1)).drop s)) ∧ v5 = .int .i64 ((s : Int) - 1) ∧ s ≤ i + 1 ∧ Drawn0 w wr) (fun _ v5 _ => (intOf v5 + 1).toNat)
                case atStart => exact ⟨i + 1, by rw [List.drop_eq_nil_of_le (by rw [List.length_take]; omega)]; rfl, by go_num, Nat.le_refl _, ⟨⟨_, rfl⟩⟩⟩
                case round =>
                  obtain ⟨s, hv4, hv5, hs, ⟨m2, rfl⟩⟩ := hrel
                  cases s with
                  | zero =>
                    rw [show ((0 : Nat) : Int) - 1 = -1 from rfl] at hv5
                    subst hv5
                    subst hv4
                    obtain ⟨A1, hcut, hR1⟩ := cut_from (P := Try.prog) 24 Try.underlying24 info5 (some ad) l c (i + 1) hlt hc
                    have HR1 := Aside0.mk hR1
                    rw [show ((i + 1 : Nat) : Int) = (i : Int) + 1 from rfl] at hcut
                    clear hR1
                    go_wp2
                    go_ret
                    have hnum : numR l 0 = (valF (l.take (i + 1)), l.drop (i + 1), 0) := by rw [numR, if_pos rfl, HW.out, if_neg (by omega)]
                    rw [hnum]
                    exact ⟨rfl, ⟨_, by simpa using blk_set (blk_drewN HBK.out m2) 0 (.slice A1 (l.length - (i + 1)) (c - (i + 1))), hg, HR1.out w0 HC0.out, hl.drop _⟩, (pw_below_drewN HB.out m2).setCell hg _, ((Stp.drewN (Stp.refl g HB.out) m2).keep).set_ 0 _⟩
                  | succ s =>
                    rw [show ((s + 1 : Nat) : Int) - 1 = (s : Int) by omega] at hv5
                    subst hv5
                    obtain ⟨y, hy⟩ : ∃ y, y = valF ((l.take (i + 1)).drop (s + 1)) := ⟨_, rfl⟩
                    rw [← hy] at hv4
                    subst hv4
                    have HY := Aside0.mk hy
                    clear hy
                    have hsl : s < l.length := by omega
                    obtain ⟨ad', hae, hz⟩ := Kd.at_int HC.out s (by omega) (by omega)
                    obtain rfl : ad = ad' := by injection hae
                    obtain ⟨z, hzz⟩ : ∃ z, z = rd l s := ⟨_, rfl⟩
                    rw [Int.toNat_natCast, ← hzz] at hz
                    have hzb : 0 ≤ z ∧ z ≤ 255 := by rw [hzz]; exact hl.1 _ (rd_mem hsl)
                    have HZ := Aside0.mk hzz
                    clear hzz
                    have HV : Aside0 (valF ((l.take (i + 1)).drop s) = (z % 128).toNat + 128 * y) := ⟨by
                      have e := drop_rd (l := l.take (i + 1)) (i := s) (by rw [List.length_take]; omega)
                      have e2 : rd (l.take (i + 1)) s = z := by rw [HZ.out]; simp [rd, List.getD_eq_getElem?_getD, List.getElem?_take, show s < i + 1 by omega]
                      rw [e, valF, e2, HY.out]⟩
                    have hbig : (z % 128).toNat + 128 * y < 18446744073709551616 := by
                      rw [← HV.out]
                      have h1 : valF ((l.take (i + 1)).drop s) ≤ valF (l.take (i + 1)) := valF_drop _ _
                      have h2 := numR_lt l 0 hl
                      rw [show (numR l 0).1 = valF (l.take (i + 1)) by rw [numR, if_pos rfl, HW.out, if_neg (by omega)]] at h2
                      omega
                    go_wp2
                    repeat (go_quiet (fail); try go_wp2)
                    go_roundw
                    case rel =>
                      refine ⟨s, ?_, by go_num, by omega, by repeat (first | exact Drawn0.refl _ | apply Drawn0.step)⟩
                      rw [HV.out]
                      congr 1
                      omega
                    case measure => first | (simp [intOf]; done) | (simp [intOf]; omega)
        · obtain rfl : i = 10 := by omega
          have hw : widF 0 l = 0 := by
            exact HE.out.2 rfl
          have HW := Aside0.mk hw
          clear hw
          go_wp2_with (first
            | (go_at_call 59; go_must ((refine (ffail_calls g l 0 4 w0 _ (HI.out.drewN _) (pw_below_drewN HB.out _)).mono ?_; rintro e w1 ⟨rfl, hr, hs⟩; have HS := Aside0.mk hs; have HR1 := Aside0.mk hr; clear hr hs))))
          go_ret
          simp only [numR, HW.out, if_true]
          exact ⟨rfl, HR1.out, (Stp.drewN (Stp.refl g HB.out) _).trans HS.out⟩
      · obtain rfl : i = l.length := by omega
        have hw : widF 0 l = 0 := by
          by_cases h9 : l.length ≤ 9
          · rw [← HE.out.1 h9, List.drop_eq_nil_of_le (Nat.le_refl _)]
            rfl
          · exact HE.out.2 (by omega)
        have HW := Aside0.mk hw
        clear hw
        go_wp2_with (first
          | (go_at_call 59; go_must ((refine (ffail_calls g l 0 4 w0 _ (HI.out.drewN _) (pw_below_drewN HB.out _)).mono ?_; rintro e w1 ⟨rfl, hr, hs⟩; have HS := Aside0.mk hs; have HR1 := Aside0.mk hr; clear hr hs))))
        go_ret
        simp only [numR, HW.out, if_true]
        exact ⟨rfl, HR1.out, (Stp.drewN (Stp.refl g HB.out) _).trans HS.out⟩
  · have hk' : (k == 0) = false := by simpa using hk
    go_enter Try.func58, Try.ntmps58
    go_wp2
    go_ret
    simp only [numR, hk, if_false]
    exact ⟨rfl, HI.out, Stp.refl g HB.out⟩
end Go.Proofs.Ytginodjiaohcmaa.K

/- cachetteref02.Pad and Unpad, math/bits.OnesCount, bucket.Unpad: the walks. -/
import Derived.Test.YtnmidmcmbehkbaaUnpad
namespace Go.Proofs.Ytnmidmcmbehkbaa.K
open Go.RowKit Go.Proofs.YtnmidmcmbehkbaaW.PrintWords Go.Proofs.YtnmidmcmbehkbaaW.PrintLast Go.Proofs.YtnmidmcmbehkbaaW.PrintMore
set_option linter.unusedVariables false
set_option linter.unusedSimpArgs false

theorem rnum_eq (k n : Nat) (h1 : n < 16384) : X.cachetteref01_Num.f (k + 2) (n : Int) = some (numL n) := by
  rw [X.cachetteref01_Num.f]
  by_cases h : n < 128
  · rw [if_pos (by omega), numL_small h]
    simp
    omega
  · have e : IntKind.u64.wrap (Int.tdiv (n : Int) 128) = ((n / 128 : Nat) : Int) := by
      rw [Int.tdiv_eq_ediv_of_nonneg (by omega)]
      simp only [IntKind.wrap, IntKind.bits, IntKind.signed]
      simp
      omega
    rw [if_neg (by omega), e, X.cachetteref01_Num.f, if_pos (by omega), numL_big h, numL_small (by omega)]
    have e2 : Int.tmod (n : Int) 128 = ((n % 128 : Nat) : Int) := by
      rw [Int.tmod_eq_emod_of_nonneg (by omega)]
      omega
    simp [e2]
    omega
theorem dpad_l0 (c : Int) (d : Nat) : ∀ (k : Nat) (xs : List Int), (xs.length : Int) + d = sizeB c → X.cachetteref02_Pad.l0 (k + d + 1) c xs = some (xs ++ List.replicate d 0, 0) := by
  have hs := sizeB_le c
  induction d with
  | zero =>
    intro k xs h
    rw [X.cachetteref02_Pad.l0, rsize_f]
    simp only [Option.bind_some]
    rw [if_neg (by omega)]
    simp
  | succ d ih =>
    intro k xs h
    rw [show k + (d + 1) + 1 = (k + d + 1) + 1 by omega, X.cachetteref02_Pad.l0, rsize_f]
    simp only [Option.bind_some]
    rw [if_pos (by omega), if_pos (by omega), ih k (xs ++ [0]) (by rw [List.length_append]; simp; omega)]
    simp [List.replicate_succ]
theorem dpad_f (l : List Int) (hl : l.length ≤ 1000000) : X.cachetteref02_Pad.f 1100 l = some (padL l, padK l) := by
  unfold X.cachetteref02_Pad.f
  rw [show (1100 : Nat) = 1089 + 11 from rfl, rclass_f]
  simp only [Option.bind_some]
  by_cases hc : classB l.length < 0
  · rw [if_pos hc, padL_no hc, padK_no hc]
  · have hr : l.length ≤ 1022 := by rcases classB_range l.length with h | h <;> omega
    have hfit := pad_fits (l := l) (by omega)
    have hs := sizeB_le (classB l.length)
    have hw : IntKind.u64.wrap (l.length : Int) = l.length := by
      simp only [IntKind.wrap, IntKind.bits, IntKind.signed]
      simp
      omega
    rw [if_neg hc]
    unfold X.cachetteref01_Bytes.f
    rw [hw, show 1089 + 11 = 1098 + 2 from rfl, rnum_eq _ _ (by omega)]
    simp only [Option.bind_some]
    rw [List.length_append] at hfit
    rw [if_pos (by omega)]
    simp only [Option.bind_some]
    obtain ⟨d, hd⟩ : ∃ d, d = (sizeB (classB l.length)).toNat - (numL l.length ++ l).length := ⟨_, rfl⟩
    have hdd : d ≤ 1024 := by omega
    rw [show 1098 + 2 = (1099 - d) + d + 1 by omega, dpad_l0 (classB l.length) d (1099 - d) (numL l.length ++ l) (by rw [hd, List.length_append]; omega), padK_ok hc]
    unfold padL
    rw [if_neg hc, ← hd]
theorem dpad_calls (v0 : Value) (l : List Int) (w : World) (hr0 : Rd w v0 l) (hl0 : l.length ≤ 1000000) :
    Calls Try.prog 49 #[v0] w fun e w' => ∃ v, e = .returned (.tuple #[v, .int .i64 (padK l)]) ∧ Own w' w.heap.size v (padL l) ∧ Below w.heap.size w w' := by
  obtain ⟨A0, c0, rfl, hc0, hC0⟩ := hr0
  exact X.cachetteref02_Pad.calls 1100 A0 c0 l _ _ w hC0 hc0 (dpad_f l hl0)

set_option maxRecDepth 100000 in
set_option maxHeartbeats 1000000 in
theorem dunpad_calls (v0 : Value) (l : List Int) (w : World) (hr0 : Rd w v0 l) (hl : BL l) :
    Calls Try.prog 51 #[v0] w fun e w' => ∃ v, e = .returned (.tuple #[v, .int .i64 (unpK l)]) ∧ Rd w' v (unpL l) ∧ Below w.heap.size w w' := by
  have HR := Aside0.mk hr0
  have HL := Aside0.mk hl
  obtain ⟨A0, c0, rfl, hc0, hC0⟩ := hr0
  have HB := Aside0.mk (Below.refl w.heap.size w)
  have hrd : Rdr 52 w (w.alloc (.cells #[.slice A0 l.length c0, .int .i64 0] 52)) w.heap.size l 0 := ⟨_, heap_alloc_new w _, Nat.le_refl _, HR.out, HL.out⟩
  have HRr := Aside0.mk hrd
  clear hC0 hl hrd
  obtain ⟨x, hx⟩ : ∃ x, (bytesR 2000 l 0).1 = x := ⟨_, rfl⟩
  obtain ⟨R, hR⟩ : ∃ x, (bytesR 2000 l 0).2.1 = x := ⟨_, rfl⟩
  obtain ⟨k, hk⟩ : ∃ x, (bytesR 2000 l 0).2.2 = x := ⟨_, rfl⟩
  have HE : Aside0 (bytesR 2000 l 0 = (x, R, k)) := ⟨by rw [← hx, ← hR, ← hk]⟩
  have HX : Aside0 (x.length ≤ 1000000) := ⟨by
    by_cases h0 : k = 0
    · have := (bytesR_form (most := 2000) HL.out.1 (by rw [hk]; exact h0)).2
      rw [hx] at this
      omega
    · have : x = [] := by
        rw [← hx]
        have h1 : (bytesR 2000 l 0).2.2 ≠ 0 := by rw [hk]; exact h0
        revert h1
        unfold bytesR takeR
        (repeat' split) <;> simp
      rw [this]
      simp⟩
  have HU : Aside0 (unpS l = if k = 0 ∧ padK x = 0 ∧ padL x = l then some x else none) := ⟨by unfold unpS; simp only [HE.out]⟩
  clear hx hR hk
  obtain ⟨kp, hkp⟩ : ∃ y, padK x = y := ⟨_, rfl⟩
  have HKP := Aside0.mk hkp
  clear hkp
  by_cases hk : k = 0
  · subst hk
    by_cases hk2 : kp = 0
    · subst hk2
      by_cases hsm : padL x = l
      · have HV : Aside0 (unpS l = some x) := ⟨by rw [HU.out, if_pos ⟨rfl, HKP.out, hsm⟩]⟩
        have HSM : Aside0 (decide (padL x = l) = true) := ⟨decide_eq_true hsm⟩
        clear hsm
        go_enter Try.func51, Try.ntmps51
        go_wp2_with (first
          | ((with_reducible refine gate_dst (N := 12) rfl ?_); go_must (((try (refine gate_guard (by rfl) ?_; dsimp only)); refine goesL_ (some 12) rfl rfl Try.func43 (by kernel_rfl) rfl #[.pointer (some ⟨w.heap.size, 0, none⟩), .int .i64 2000] rfl ?hA ?_; (case hA => ((try simp only [List.map_toArray, List.map_cons, List.map_nil]); first | done | rfl)); refine (frbytes_calls w.heap.size 2000 l 0 w _ HRr.out (by repeat (first | (with_reducible first | exact HB.out | apply below_alloc | apply pw_below_drewN | apply below_drew1) | exact HB.out)) (by decide)).mono ?_; rintro e w12 ⟨v12, rfl, ho, hr, hs⟩; refine ⟨_, rfl, ?_⟩; rw [HE.out] at ho hr; have c1 := hr.cell1; have HO := Aside0.mk ho; replace HB := Aside0.mk hs.below; replace HRr := Aside0.mk hr; clear ho hr hs)))
          | ((with_reducible refine gate_dst (N := 15) rfl ?_); go_must (((try (refine gate_guard (by rfl) ?_; dsimp only)); refine goesL_ (some 15) rfl rfl Try.func49 (by kernel_rfl) rfl #[v12] rfl ?hA ?_; (case hA => ((try simp only [List.map_toArray, List.map_cons, List.map_nil]); first | done | rfl)); refine (dpad_calls v12 x _ (HO.out.below HB.out) HX.out).mono ?_; rintro e w15 ⟨v15, rfl, ho, hb⟩; refine ⟨_, rfl, ?_⟩; rw [HKP.out]; have c1' := pw_cell_below hb c1; have HP := Aside0.mk ho; replace HB := Aside0.mk (below_step (by repeat (first | (with_reducible first | exact HB.out | apply below_alloc | apply pw_below_drewN | apply below_drew1) | exact HB.out)) hb); clear ho hb)))
          | ((with_reducible refine gate_dst (N := 30) rfl ?_); go_must (((try (refine gate_guard (by rfl) ?_; dsimp only)); refine goesL_ (some 30) rfl rfl Try.func24 (by kernel_rfl) rfl #[v15, .slice A0 l.length c0] rfl ?hA ?_; (case hA => ((try simp only [List.map_toArray, List.map_cons, List.map_nil]); first | done | rfl)); refine (same_calls _ _ (padL x) l _ HP.out.rd (HR.out.below HB.out)).mono ?_; rintro e w30 ⟨rfl, hb⟩; refine ⟨_, rfl, ?_⟩; rw [HSM.out]; replace hb := hb.below; replace HB := Aside0.mk (below_step (by repeat (first | (with_reducible first | exact HB.out | apply below_alloc | apply pw_below_drewN | apply below_drew1) | exact HB.out)) hb); clear hb))))
        refine bodyPost_ret (v := .tuple #[v12, .int .i64 0]) (by simp [results, Try.results51, go_sem]) rfl ?_
        rw [show unpK l = 0 by unfold unpK; rw [HV.out]; rfl, show unpL l = x by unfold unpL; rw [HV.out]; rfl]
        exact ⟨_, rfl, HO.out.below HB.out, HB.out⟩
      · have HV : Aside0 (unpS l = none) := ⟨by rw [HU.out, if_neg (fun h => hsm h.2.2)]⟩
        have HSM : Aside0 (decide (padL x = l) = false) := ⟨decide_eq_false hsm⟩
        clear hsm
        go_enter Try.func51, Try.ntmps51
        go_wp2_with (first
          | ((with_reducible refine gate_dst (N := 12) rfl ?_); go_must (((try (refine gate_guard (by rfl) ?_; dsimp only)); refine goesL_ (some 12) rfl rfl Try.func43 (by kernel_rfl) rfl #[.pointer (some ⟨w.heap.size, 0, none⟩), .int .i64 2000] rfl ?hA ?_; (case hA => ((try simp only [List.map_toArray, List.map_cons, List.map_nil]); first | done | rfl)); refine (frbytes_calls w.heap.size 2000 l 0 w _ HRr.out (by repeat (first | (with_reducible first | exact HB.out | apply below_alloc | apply pw_below_drewN | apply below_drew1) | exact HB.out)) (by decide)).mono ?_; rintro e w12 ⟨v12, rfl, ho, hr, hs⟩; refine ⟨_, rfl, ?_⟩; rw [HE.out] at ho hr; have c1 := hr.cell1; have HO := Aside0.mk ho; replace HB := Aside0.mk hs.below; replace HRr := Aside0.mk hr; clear ho hr hs)))
          | ((with_reducible refine gate_dst (N := 15) rfl ?_); go_must (((try (refine gate_guard (by rfl) ?_; dsimp only)); refine goesL_ (some 15) rfl rfl Try.func49 (by kernel_rfl) rfl #[v12] rfl ?hA ?_; (case hA => ((try simp only [List.map_toArray, List.map_cons, List.map_nil]); first | done | rfl)); refine (dpad_calls v12 x _ (HO.out.below HB.out) HX.out).mono ?_; rintro e w15 ⟨v15, rfl, ho, hb⟩; refine ⟨_, rfl, ?_⟩; rw [HKP.out]; have c1' := pw_cell_below hb c1; have HP := Aside0.mk ho; replace HB := Aside0.mk (below_step (by repeat (first | (with_reducible first | exact HB.out | apply below_alloc | apply pw_below_drewN | apply below_drew1) | exact HB.out)) hb); clear ho hb)))
          | ((with_reducible refine gate_dst (N := 30) rfl ?_); go_must (((try (refine gate_guard (by rfl) ?_; dsimp only)); refine goesL_ (some 30) rfl rfl Try.func24 (by kernel_rfl) rfl #[v15, .slice A0 l.length c0] rfl ?hA ?_; (case hA => ((try simp only [List.map_toArray, List.map_cons, List.map_nil]); first | done | rfl)); refine (same_calls _ _ (padL x) l _ HP.out.rd (HR.out.below HB.out)).mono ?_; rintro e w30 ⟨rfl, hb⟩; refine ⟨_, rfl, ?_⟩; rw [HSM.out]; replace hb := hb.below; replace HB := Aside0.mk (below_step (by repeat (first | (with_reducible first | exact HB.out | apply below_alloc | apply pw_below_drewN | apply below_drew1) | exact HB.out)) hb); clear hb))))
        refine bodyPost_ret (v := .tuple #[.slice none 0 0, .int .i64 4]) (by simp [results, Try.results51, go_sem]) rfl ?_
        rw [show unpK l = 4 by unfold unpK; rw [HV.out]; rfl, show unpL l = [] by unfold unpL; rw [HV.out]; rfl]
        exact ⟨_, rfl, Rd.nil _, HB.out⟩
    · have HV : Aside0 (unpS l = none) := ⟨by rw [HU.out, if_neg (fun h => hk2 (by rw [← HKP.out]; exact h.2.1))]⟩
      have hk3 : (kp == 0) = false := by simpa using hk2
      go_enter Try.func51, Try.ntmps51
      go_wp2_with (first
        | ((with_reducible refine gate_dst (N := 12) rfl ?_); go_must (((try (refine gate_guard (by rfl) ?_; dsimp only)); refine goesL_ (some 12) rfl rfl Try.func43 (by kernel_rfl) rfl #[.pointer (some ⟨w.heap.size, 0, none⟩), .int .i64 2000] rfl ?hA ?_; (case hA => ((try simp only [List.map_toArray, List.map_cons, List.map_nil]); first | done | rfl)); refine (frbytes_calls w.heap.size 2000 l 0 w _ HRr.out (by repeat (first | (with_reducible first | exact HB.out | apply below_alloc | apply pw_below_drewN | apply below_drew1) | exact HB.out)) (by decide)).mono ?_; rintro e w12 ⟨v12, rfl, ho, hr, hs⟩; refine ⟨_, rfl, ?_⟩; rw [HE.out] at ho hr; have c1 := hr.cell1; have HO := Aside0.mk ho; replace HB := Aside0.mk hs.below; replace HRr := Aside0.mk hr; clear ho hr hs)))
        | ((with_reducible refine gate_dst (N := 15) rfl ?_); go_must (((try (refine gate_guard (by rfl) ?_; dsimp only)); refine goesL_ (some 15) rfl rfl Try.func49 (by kernel_rfl) rfl #[v12] rfl ?hA ?_; (case hA => ((try simp only [List.map_toArray, List.map_cons, List.map_nil]); first | done | rfl)); refine (dpad_calls v12 x _ (HO.out.below HB.out) HX.out).mono ?_; rintro e w15 ⟨v15, rfl, ho, hb⟩; refine ⟨_, rfl, ?_⟩; rw [HKP.out]; have c1' := pw_cell_below hb c1; have HP := Aside0.mk ho; replace HB := Aside0.mk (below_step (by repeat (first | (with_reducible first | exact HB.out | apply below_alloc | apply pw_below_drewN | apply below_drew1) | exact HB.out)) hb); clear ho hb))))
      refine bodyPost_ret (v := .tuple #[.slice none 0 0, .int .i64 4]) (by simp [results, Try.results51, go_sem]) rfl ?_
      rw [show unpK l = 4 by unfold unpK; rw [HV.out]; rfl, show unpL l = [] by unfold unpL; rw [HV.out]; rfl]
      exact ⟨_, rfl, Rd.nil _, HB.out⟩
  · have HV : Aside0 (unpS l = none) := ⟨by rw [HU.out, if_neg (fun h => hk h.1)]⟩
    have hk3 : (k == 0) = false := by simpa using hk
    go_enter Try.func51, Try.ntmps51
    go_wp2_with (first
      | ((with_reducible refine gate_dst (N := 12) rfl ?_); go_must (((try (refine gate_guard (by rfl) ?_; dsimp only)); refine goesL_ (some 12) rfl rfl Try.func43 (by kernel_rfl) rfl #[.pointer (some ⟨w.heap.size, 0, none⟩), .int .i64 2000] rfl ?hA ?_; (case hA => ((try simp only [List.map_toArray, List.map_cons, List.map_nil]); first | done | rfl)); refine (frbytes_calls w.heap.size 2000 l 0 w _ HRr.out (by repeat (first | (with_reducible first | exact HB.out | apply below_alloc | apply pw_below_drewN | apply below_drew1) | exact HB.out)) (by decide)).mono ?_; rintro e w12 ⟨v12, rfl, ho, hr, hs⟩; refine ⟨_, rfl, ?_⟩; rw [HE.out] at ho hr; have c1 := hr.cell1; have HO := Aside0.mk ho; replace HB := Aside0.mk hs.below; replace HRr := Aside0.mk hr; clear ho hr hs)))
      | ((with_reducible refine gate_dst (N := 15) rfl ?_); go_must (((try (refine gate_guard (by rfl) ?_; dsimp only)); refine goesL_ (some 15) rfl rfl Try.func49 (by kernel_rfl) rfl #[v12] rfl ?hA ?_; (case hA => ((try simp only [List.map_toArray, List.map_cons, List.map_nil]); first | done | rfl)); refine (dpad_calls v12 x _ (HO.out.below HB.out) HX.out).mono ?_; rintro e w15 ⟨v15, rfl, ho, hb⟩; refine ⟨_, rfl, ?_⟩; rw [HKP.out]; have c1' := pw_cell_below hb c1; have HP := Aside0.mk ho; replace HB := Aside0.mk (below_step (by repeat (first | (with_reducible first | exact HB.out | apply below_alloc | apply pw_below_drewN | apply below_drew1) | exact HB.out)) hb); clear ho hb))))
    refine bodyPost_ret (v := .tuple #[.slice none 0 0, .int .i64 4]) (by simp [results, Try.results51, go_sem]) rfl ?_
    rw [show unpK l = 4 by unfold unpK; rw [HV.out]; rfl, show unpL l = [] by unfold unpL; rw [HV.out]; rfl]
    exact ⟨_, rfl, Rd.nil _, HB.out⟩

set_option maxHeartbeats 1000000 in
theorem ones_calls (n : Nat) (w : World) (hn : n ≤ 1000000) :
    Calls Try.prog 61 #[.int .u64 n] w fun e w' => ∃ r : Int, e = .returned (.int .i64 r) ∧ ((n = 16 ∨ n = 32 ∨ n = 64 ∨ n = 128 ∨ n = 256 ∨ n = 512 ∨ n = 1024) → r = 1) ∧ Drawn0 w w' := by
  obtain ⟨r, hr⟩ : ∃ r, X.bits_OnesCount64.f (n : Int) = some r := ⟨_, rfl⟩
  have hone : (n = 16 ∨ n = 32 ∨ n = 64 ∨ n = 128 ∨ n = 256 ∨ n = 512 ∨ n = 1024) → r = 1 := by
    have h : ∀ i : Fin 7, X.bits_OnesCount64.f ((2 ^ (i.val + 4) : Nat) : Int) = some 1 := by decide +kernel
    rintro (rfl | rfl | rfl | rfl | rfl | rfl | rfl)
    · exact Option.some.inj (hr.symm.trans (h 0))
    · exact Option.some.inj (hr.symm.trans (h 1))
    · exact Option.some.inj (hr.symm.trans (h 2))
    · exact Option.some.inj (hr.symm.trans (h 3))
    · exact Option.some.inj (hr.symm.trans (h 4))
    · exact Option.some.inj (hr.symm.trans (h 5))
    · exact Option.some.inj (hr.symm.trans (h 6))
  have HR := Aside0.mk hr
  have HO := Aside0.mk hone
  clear hr hone
  go_enter Try.func61, Try.ntmps61
  go_wp2_with (first
    | ((with_reducible refine gate_dst (N := 7) rfl ?_); go_must (((try (refine gate_guard (by rfl) ?_; dsimp only)); refine goesL_ (some 7) rfl rfl Try.func63 (by kernel_rfl) rfl #[.int .u64 n] rfl ?hA ?_; (case hA => ((try simp only [List.map_toArray, List.map_cons, List.map_nil]); first | done | rfl)); refine (X.bits_OnesCount64.calls n r _ HR.out).mono ?_; rintro e w7 ⟨rfl, ⟨m7, rfl⟩⟩; refine ⟨_, rfl, ?_⟩; ))))
  go_ret
  exact ⟨r, rfl, HO.out, by repeat (first | exact Drawn0.refl _ | apply Drawn0.step)⟩
end Go.Proofs.Ytnmidmcmbehkbaa.K

/- bucket.Unpad: the walk. Printed by mkunpad.py. -/
import Derived.Test.YtnmidmcmbehkbaaUnpadW
namespace Go.Proofs.Ytnmidmcmbehkbaa.K
open Go.RowKit Go.Proofs.YtnmidmcmbehkbaaW.PrintWords Go.Proofs.YtnmidmcmbehkbaaW.PrintLast Go.Proofs.YtnmidmcmbehkbaaW.PrintMore
set_option linter.unusedVariables false
set_option linter.unusedSimpArgs false

theorem sizeB_ge (c : Int) : sizeB c = 0 ∨ 16 ≤ sizeB c := by
  unfold sizeB
  (repeat' split) <;> omega
/-- What OnesCount tells. -/
def onesB (n : Nat) : Int := (X.bits_OnesCount64.f (n : Int)).getD 0
theorem ones_eq (n : Nat) (w : World) (hn : n ≤ 1000000) : Calls Try.prog 61 #[.int .u64 n] w fun e w' => e = .returned (.int .i64 (onesB n)) ∧ Drawn0 w w' := by
  obtain ⟨r, hr⟩ : ∃ r, X.bits_OnesCount64.f (n : Int) = some r := ⟨_, rfl⟩
  have e : onesB n = r := by
    unfold onesB
    rw [hr]
    rfl
  have HR := Aside0.mk hr
  rw [e]
  clear hr e
  go_enter Try.func61, Try.ntmps61
  go_wp2_with (first
    | ((with_reducible refine gate_dst (N := 7) rfl ?_); go_must (((try (refine gate_guard (by rfl) ?_; dsimp only)); refine goesL_ (some 7) rfl rfl Try.func63 (by kernel_rfl) rfl #[.int .u64 n] rfl ?hA ?_; (case hA => ((try simp only [List.map_toArray, List.map_cons, List.map_nil]); first | done | rfl)); refine (X.bits_OnesCount64.calls n r _ HR.out).mono ?_; rintro e w7 ⟨rfl, ⟨m7, rfl⟩⟩; refine ⟨_, rfl, ?_⟩; ))))
  go_ret
  exact ⟨rfl, by repeat (first | exact Drawn0.refl _ | apply Drawn0.step)⟩
theorem ones_size {x : List Int} {n : Nat} (h : sizeB (classB x.length) = n) (hn : 0 < n) : onesB n = 1 := by
  have h1 : ∀ i : Fin 7, X.bits_OnesCount64.f ((2 ^ (i.val + 4) : Nat) : Int) = some 1 := by decide +kernel
  have h3 : ∀ i : Fin 7, onesB (2 ^ (i.val + 4)) = 1 := fun i => by
    unfold onesB
    rw [h1 i]
    rfl
  have h2 : n = 16 ∨ n = 32 ∨ n = 64 ∨ n = 128 ∨ n = 256 ∨ n = 512 ∨ n = 1024 := by
    revert h
    unfold sizeB
    (repeat' split) <;> omega
  rcases h2 with rfl | rfl | rfl | rfl | rfl | rfl | rfl
  · exact h3 0
  · exact h3 1
  · exact h3 2
  · exact h3 3
  · exact h3 4
  · exact h3 5
  · exact h3 6
theorem ones_ex : ∃ r : Nat → Int, (∀ (n : Nat) (w : World), n ≤ 1000000 → Calls Try.prog 61 #[.int .u64 n] w fun e w' => e = .returned (.int .i64 (r n)) ∧ Drawn0 w w') ∧ (∀ (x : List Int) (n : Nat), sizeB (classB x.length) = (n : Int) → 0 < n → r n = 1) := ⟨onesB, ones_eq, fun x n h hn => ones_size h hn⟩

set_option maxRecDepth 100000 in
set_option maxHeartbeats 4000000 in
theorem bunpad_calls (v0 : Value) (b : List Int) (w : World) (hr0 : Rd w v0 b) (hl : BL b) (h2 : b.length ≤ 2000) :
    Calls Try.prog 50 #[v0] w fun e w' => ∃ v, e = .returned (.tuple #[v, .int .i64 (unpK b)]) ∧ Rd w' v (unpL b) ∧ Below w.heap.size w w' := by
  obtain ⟨ones, hones, hones1⟩ := ones_ex
  have HON := Aside0.mk hones
  have HON1 := Aside0.mk hones1
  clear hones hones1
  have HR := Aside0.mk hr0
  have HL := Aside0.mk hl
  have HL2 := Aside0.mk h2
  obtain ⟨A0, c0, rfl, hc0, hC0⟩ := hr0
  have HB := Aside0.mk (Below.refl w.heap.size w)
  clear hC0 hl
  obtain ⟨x, hx⟩ : ∃ x, (bytesR b.length b 0).1 = x := ⟨_, rfl⟩
  obtain ⟨R, hR⟩ : ∃ x, (bytesR b.length b 0).2.1 = x := ⟨_, rfl⟩
  obtain ⟨k, hk⟩ : ∃ x, (bytesR b.length b 0).2.2 = x := ⟨_, rfl⟩
  have HE : Aside0 (bytesR b.length b 0 = (x, R, k)) := ⟨by rw [← hx, ← hR, ← hk]⟩
  clear hx hR hk
  obtain ⟨sz, hsz0⟩ : ∃ z, sizeB (classB x.length) = z := ⟨_, rfl⟩
  have HSZ := Aside0.mk hsz0
  clear hsz0
  by_cases hk : k = 0
  · subst hk
    obtain ⟨hf, hu⟩ := unpS_good HL.out.1 HL2.out HE.out
    have HF := Aside0.mk hf
    have HU := Aside0.mk hu
    clear hf hu
    by_cases h16 : b.length < 16
    · have HV : Aside0 (unpS b = none) := ⟨by rw [HU.out, if_neg (fun h => by have h0 := h.1; rw [HSZ.out] at h0; have := sizeB_ge (classB x.length); rw [HSZ.out] at this; have := HF.out; have := congrArg List.length this; have := numL_pos x.length; simp only [List.length_append] at *; omega)]⟩
      go_enter Try.func50, Try.ntmps50
      go_wp2_with (first
        | ((with_reducible refine gate_dst (N := 10) rfl ?_); go_must (((try (refine gate_guard (by rfl) ?_; dsimp only)); refine goesL_ (some 10) rfl rfl Try.func34 (by kernel_rfl) rfl #[.slice A0 b.length c0] rfl ?hA ?_; (case hA => ((try simp only [List.map_toArray, List.map_cons, List.map_nil]); first | done | rfl)); refine (read_calls _ b w _ HR.out HL.out HB.out).mono ?_; rintro e w10 ⟨g, rfl, hr, hg, hb⟩; refine ⟨_, rfl, ?_⟩; have HRr := Aside0.mk hr; replace HB := Aside0.mk (below_step (by repeat (first | (with_reducible first | exact HB.out | apply below_alloc | apply pw_below_drewN | apply below_drew1) | exact HB.out)) hb); clear hr hg hb)))
        | ((with_reducible refine gate_dst (N := 14) rfl ?_); go_must (((try (refine gate_guard (by rfl) ?_; dsimp only)); refine goesL_ (some 14) rfl rfl Try.func38 (by kernel_rfl) rfl #[.pointer (some ⟨g, 0, none⟩), .int .i64 b.length] rfl ?hA ?_; (case hA => ((try simp only [List.map_toArray, List.map_cons, List.map_nil]); first | done | rfl)); refine (rbytes_calls g b.length b 0 w _ HRr.out HB.out).mono ?_; rintro e w14 ⟨v, rfl, ho, hr, hs⟩; refine ⟨_, rfl, ?_⟩; rw [HE.out] at ho hr; obtain ⟨Ax, cx, rfl, hcx, hCx⟩ := ho.rd; have HX : Aside0 (Rd w14 (.slice Ax x.length cx) x) := ⟨⟨Ax, cx, rfl, hcx, hCx⟩⟩; replace HRr := Aside0.mk hr; replace HB := Aside0.mk hs.below; clear ho hr hs hcx hCx)))
        | ((with_reducible refine gate_dst (N := 16) rfl ?_); go_must (((try (refine gate_guard (by rfl) ?_; dsimp only)); refine goesL_ (some 16) rfl rfl Try.func47 (by kernel_rfl) rfl #[.pointer (some ⟨g, 0, none⟩)] rfl ?hA ?_; (case hA => ((try simp only [List.map_toArray, List.map_cons, List.map_nil]); first | done | rfl)); refine (left_calls g R 0 w _ HRr.out).mono ?_; rintro e w16 ⟨rfl, ⟨m16, rfl⟩⟩; refine ⟨_, rfl, ?_⟩; simp only [if_true]))))
      refine bodyPost_ret (v := .tuple #[.slice none 0 0, .int .i64 4]) (by simp [results, Try.results50, go_sem]) rfl ?_
      rw [show unpK b = 4 by unfold unpK; rw [HV.out]; rfl, show unpL b = [] by unfold unpL; rw [HV.out]; rfl]
      exact ⟨_, rfl, Rd.nil _, (by repeat (first | exact HB.out | apply pw_below_drewN))⟩
    · have hd16 : decide ((b.length : Int) < 16) = false := by simp; omega
      by_cases h1 : ones b.length = 1
      · have H1 := Aside0.mk h1
        by_cases hsz : sz = b.length
        · subst hsz
          have hxl : x.length + 1 ≤ b.length := by have := HF.out; have := congrArg List.length this; have := numL_pos x.length; simp only [List.length_append] at *; omega
          obtain ⟨m, hm⟩ : ∃ m, m + R.length = b.length := ⟨b.length - R.length, by have := HF.out; have := congrArg List.length this; simp only [List.length_append] at *; omega⟩
          have hd4 : decide ((b.length : Int) - 1 - (x.length : Int) < R.length) = false := by
            have h1 := congrArg List.length HF.out
            have h2 := numL_pos x.length
            simp only [List.length_append] at h1
            simp
            omega
          have hdrop : b.drop m = R := by
            have h1 := HF.out
            have h2 := congrArg List.length h1
            rw [List.length_append] at h2
            rw [h1, show m = (numL x.length ++ x).length by omega, List.drop_left]
          obtain ⟨A1, hcut, hR1⟩ := cut_from (P := Try.prog) 26 Try.underlying26 info5 A0 b c0 m (by omega) hc0
          rw [show b.length - m = R.length by omega, show (m : Int) = (b.length : Int) - R.length by omega] at hcut
          rw [show b.length - m = R.length by omega, hdrop] at hR1
          have HR1 := Aside0.mk hR1
          have hRl : R.length ≤ b.length := by omega
          clear hR1 hdrop
          have HDN : Aside0 (doneR R 0 = if R.length = 0 then 0 else 4) := ⟨by unfold doneR; by_cases h : R.length = 0 <;> simp [h] <;> omega⟩
          go_enter Try.func50, Try.ntmps50
          go_wp2_with (first
            | ((with_reducible refine gate_dst (N := 10) rfl ?_); go_must (((try (refine gate_guard (by rfl) ?_; dsimp only)); refine goesL_ (some 10) rfl rfl Try.func34 (by kernel_rfl) rfl #[.slice A0 b.length c0] rfl ?hA ?_; (case hA => ((try simp only [List.map_toArray, List.map_cons, List.map_nil]); first | done | rfl)); refine (read_calls _ b w _ HR.out HL.out HB.out).mono ?_; rintro e w10 ⟨g, rfl, hr, hg, hb⟩; refine ⟨_, rfl, ?_⟩; have HRr := Aside0.mk hr; replace HB := Aside0.mk (below_step (by repeat (first | (with_reducible first | exact HB.out | apply below_alloc | apply pw_below_drewN | apply below_drew1) | exact HB.out)) hb); clear hr hg hb)))
            | ((with_reducible refine gate_dst (N := 14) rfl ?_); go_must (((try (refine gate_guard (by rfl) ?_; dsimp only)); refine goesL_ (some 14) rfl rfl Try.func38 (by kernel_rfl) rfl #[.pointer (some ⟨g, 0, none⟩), .int .i64 b.length] rfl ?hA ?_; (case hA => ((try simp only [List.map_toArray, List.map_cons, List.map_nil]); first | done | rfl)); refine (rbytes_calls g b.length b 0 w _ HRr.out HB.out).mono ?_; rintro e w14 ⟨v, rfl, ho, hr, hs⟩; refine ⟨_, rfl, ?_⟩; rw [HE.out] at ho hr; obtain ⟨Ax, cx, rfl, hcx, hCx⟩ := ho.rd; have HX : Aside0 (Rd w14 (.slice Ax x.length cx) x) := ⟨⟨Ax, cx, rfl, hcx, hCx⟩⟩; replace HRr := Aside0.mk hr; replace HB := Aside0.mk hs.below; clear ho hr hs hcx hCx)))
            | ((with_reducible refine gate_dst (N := 16) rfl ?_); go_must (((try (refine gate_guard (by rfl) ?_; dsimp only)); refine goesL_ (some 16) rfl rfl Try.func47 (by kernel_rfl) rfl #[.pointer (some ⟨g, 0, none⟩)] rfl ?hA ?_; (case hA => ((try simp only [List.map_toArray, List.map_cons, List.map_nil]); first | done | rfl)); refine (left_calls g R 0 w _ HRr.out).mono ?_; rintro e w16 ⟨rfl, ⟨m16, rfl⟩⟩; refine ⟨_, rfl, ?_⟩; simp only [if_true])))
            | ((with_reducible refine gate_dst (N := 24) rfl ?_); go_must (((try (refine gate_guard (by rfl) ?_; dsimp only)); refine goesL_ (some 24) rfl rfl Try.func61 (by kernel_rfl) rfl #[.int .u64 b.length] rfl ?hA ?_; (case hA => ((try simp only [List.map_toArray, List.map_cons, List.map_nil]); first | done | rfl)); refine (HON.out b.length _ (by have := HL2.out; omega)).mono ?_; rintro e w24 ⟨rfl, ⟨m24, rfl⟩⟩; refine ⟨_, rfl, ?_⟩; )))
            | ((with_reducible refine gate_dst (N := 30) rfl ?_); go_must (((try (refine gate_guard (by rfl) ?_; dsimp only)); refine goesL_ (some 30) rfl rfl Try.func13 (by kernel_rfl) rfl #[.int .i64 x.length] rfl ?hA ?_; (case hA => ((try simp only [List.map_toArray, List.map_cons, List.map_nil]); first | done | rfl)); refine (bclass_calls x.length _).mono ?_; rintro e w30 ⟨rfl, hb⟩; refine ⟨_, rfl, ?_⟩; replace HRr := Aside0.mk (Rdr.below (by exact HRr.out) hb); replace HX := Aside0.mk (Rd.below (by exact HX.out) hb); replace HB := Aside0.mk (below_step (by repeat (first | (with_reducible first | exact HB.out | apply below_alloc | apply pw_below_drewN | apply below_drew1) | exact HB.out)) hb); clear hb)))
            | ((with_reducible refine gate_dst (N := 31) rfl ?_); go_must (((try (refine gate_guard (by rfl) ?_; dsimp only)); refine goesL_ (some 31) rfl rfl Try.func15 (by kernel_rfl) rfl #[.int .i64 (classB x.length)] rfl ?hA ?_; (case hA => ((try simp only [List.map_toArray, List.map_cons, List.map_nil]); first | done | rfl)); refine (bsize_calls _ _).mono ?_; rintro e w31 ⟨rfl, hb⟩; refine ⟨_, rfl, ?_⟩; rw [HSZ.out]; replace HRr := Aside0.mk (Rdr.below (by exact HRr.out) hb); replace HX := Aside0.mk (Rd.below (by exact HX.out) hb); replace HB := Aside0.mk (below_step (by repeat (first | (with_reducible first | exact HB.out | apply below_alloc | apply pw_below_drewN | apply below_drew1) | exact HB.out)) hb); clear hb))))
          go_loopw [8, 53] (fun v8 v53 wr => ∃ i : Nat, v53 = .int .i64 i ∧ i ≤ R.length ∧ Aside0 (∀ y ∈ R.take i, y = 0) ∧ Drawn0 w31 wr) (fun _ v53 _ => R.length - (intOf v53).toNat)
          case atStart => exact ⟨0, rfl, Nat.zero_le _, ⟨by simp⟩, Drawn0.refl _⟩
          case round =>
            obtain ⟨i, rfl, hi, HZ, ⟨m53, rfl⟩⟩ := hrel
            have hRC : Kd.C B w31 A1 R.length R := by
              obtain ⟨A, c, hv, _, hC⟩ := HR1.out w31 (by obtain ⟨A, c, hv, _, hC⟩ := HR.out.below HB.out; injection hv with h1 h2 h3; subst h1; exact hC)
              injection hv with h1 h2 h3
              subst h1
              exact hC
            have HRC := Aside0.mk hRC
            clear hRC
            by_cases hlt : i < R.length
            · obtain ⟨ad, rfl, hy⟩ := Kd.at_int HRC.out i (by omega) (by omega)
              obtain ⟨y, hyy⟩ : ∃ y, y = rd R i := ⟨_, rfl⟩
              rw [Int.toNat_natCast, ← hyy] at hy
              have HY := Aside0.mk hyy
              clear hyy
              by_cases hy0 : y = 0
              · subst hy0
                go_wp2
                go_roundw
                case rel =>
                  refine ⟨i + 1, by go_num, by omega, ⟨?_⟩, by repeat (first | exact Drawn0.refl _ | apply Drawn0.step)⟩
                  intro z hz
                  rw [take_rd hlt, List.mem_append] at hz
                  rcases hz with hz | hz
                  · exact HZ.out z hz
                  · rw [List.mem_singleton.1 hz]
                    exact HY.out.symm
                case measure => simp [intOf]; omega
              · have hy2 : (y == 0) = false := by simpa using hy0
                have HV : Aside0 (unpS b = none) := ⟨by
                  rw [HU.out, if_neg]
                  rintro ⟨_, h⟩
                  exact hy0 (by rw [HY.out]; exact h _ (rd_mem hlt))⟩
                go_wp2
                refine bodyPost_ret (v := .tuple #[.slice none 0 0, .int .i64 4]) (by simp [results, Try.results50, go_sem]) rfl ?_
                rw [show unpK b = 4 by unfold unpK; rw [HV.out]; rfl, show unpL b = [] by unfold unpL; rw [HV.out]; rfl]
                exact ⟨_, rfl, Rd.nil _, (by repeat (first | exact HB.out | apply pw_below_drewN))⟩
            · obtain rfl : i = R.length := by omega
              have HV : Aside0 (unpS b = some x) := ⟨by
                rw [HU.out, if_pos]
                refine ⟨HSZ.out, fun y hy => HZ.out y ?_⟩
                rw [List.take_of_length_le (Nat.le_refl _)]
                exact hy⟩
              by_cases hR0 : R.length = 0
              · have HDN2 : Aside0 (doneR R 0 = 0) := ⟨by rw [HDN.out, if_pos hR0]⟩
                go_wp2_with (first
                  | ((with_reducible refine gate_dst (N := 61) rfl ?_); go_must (((try (refine gate_guard (by rfl) ?_; dsimp only)); refine goesL_ (some 61) rfl rfl Try.func36 (by kernel_rfl) rfl #[.pointer (some ⟨g, 0, none⟩)] rfl ?hA ?_; (case hA => ((try simp only [List.map_toArray, List.map_cons, List.map_nil]); first | done | rfl)); refine (done_calls g R 0 w _ (by exact HRr.out.drewN _)).mono ?_; rintro e w61 ⟨rfl, ⟨m61, rfl⟩⟩; refine ⟨_, rfl, ?_⟩; rw [HDN2.out]))))
                refine bodyPost_ret (v := .tuple #[.slice Ax x.length cx, .int .i64 0]) (by simp [results, Try.results50, go_sem]) rfl ?_
                rw [show unpK b = 0 by unfold unpK; rw [HV.out]; rfl, show unpL b = x by unfold unpL; rw [HV.out]; rfl]
                exact ⟨_, rfl, HX.out.below (by repeat (first | exact Below.refl _ _ | apply pw_below_drewN)), (by repeat (first | exact HB.out | apply pw_below_drewN))⟩
              · have HDN2 : Aside0 (doneR R 0 = 4) := ⟨by rw [HDN.out, if_neg hR0]⟩
                have hR2 : ((R.length : Int) == 0) = false := by simpa using hR0
                go_wp2_with (first
                  | ((with_reducible refine gate_dst (N := 61) rfl ?_); go_must (((try (refine gate_guard (by rfl) ?_; dsimp only)); refine goesL_ (some 61) rfl rfl Try.func36 (by kernel_rfl) rfl #[.pointer (some ⟨g, 0, none⟩)] rfl ?hA ?_; (case hA => ((try simp only [List.map_toArray, List.map_cons, List.map_nil]); first | done | rfl)); refine (done_calls g R 0 w _ (by exact HRr.out.drewN _)).mono ?_; rintro e w61 ⟨rfl, ⟨m61, rfl⟩⟩; refine ⟨_, rfl, ?_⟩; rw [HDN2.out]))))
                refine bodyPost_ret (v := .tuple #[.slice Ax x.length cx, .int .i64 0]) (by simp [results, Try.results50, go_sem]) rfl ?_
                rw [show unpK b = 0 by unfold unpK; rw [HV.out]; rfl, show unpL b = x by unfold unpL; rw [HV.out]; rfl]
                exact ⟨_, rfl, HX.out.below (by repeat (first | exact Below.refl _ _ | apply pw_below_drewN)), (by repeat (first | exact HB.out | apply pw_below_drewN))⟩
        · have HV : Aside0 (unpS b = none) := ⟨by rw [HU.out, if_neg (fun h => hsz (by rw [← HSZ.out]; exact h.1))]⟩
          have hsz2 : (sz == (b.length : Int)) = false := by simpa using hsz
          go_enter Try.func50, Try.ntmps50
          go_wp2_with (first
            | ((with_reducible refine gate_dst (N := 10) rfl ?_); go_must (((try (refine gate_guard (by rfl) ?_; dsimp only)); refine goesL_ (some 10) rfl rfl Try.func34 (by kernel_rfl) rfl #[.slice A0 b.length c0] rfl ?hA ?_; (case hA => ((try simp only [List.map_toArray, List.map_cons, List.map_nil]); first | done | rfl)); refine (read_calls _ b w _ HR.out HL.out HB.out).mono ?_; rintro e w10 ⟨g, rfl, hr, hg, hb⟩; refine ⟨_, rfl, ?_⟩; have HRr := Aside0.mk hr; replace HB := Aside0.mk (below_step (by repeat (first | (with_reducible first | exact HB.out | apply below_alloc | apply pw_below_drewN | apply below_drew1) | exact HB.out)) hb); clear hr hg hb)))
            | ((with_reducible refine gate_dst (N := 14) rfl ?_); go_must (((try (refine gate_guard (by rfl) ?_; dsimp only)); refine goesL_ (some 14) rfl rfl Try.func38 (by kernel_rfl) rfl #[.pointer (some ⟨g, 0, none⟩), .int .i64 b.length] rfl ?hA ?_; (case hA => ((try simp only [List.map_toArray, List.map_cons, List.map_nil]); first | done | rfl)); refine (rbytes_calls g b.length b 0 w _ HRr.out HB.out).mono ?_; rintro e w14 ⟨v, rfl, ho, hr, hs⟩; refine ⟨_, rfl, ?_⟩; rw [HE.out] at ho hr; obtain ⟨Ax, cx, rfl, hcx, hCx⟩ := ho.rd; have HX : Aside0 (Rd w14 (.slice Ax x.length cx) x) := ⟨⟨Ax, cx, rfl, hcx, hCx⟩⟩; replace HRr := Aside0.mk hr; replace HB := Aside0.mk hs.below; clear ho hr hs hcx hCx)))
            | ((with_reducible refine gate_dst (N := 16) rfl ?_); go_must (((try (refine gate_guard (by rfl) ?_; dsimp only)); refine goesL_ (some 16) rfl rfl Try.func47 (by kernel_rfl) rfl #[.pointer (some ⟨g, 0, none⟩)] rfl ?hA ?_; (case hA => ((try simp only [List.map_toArray, List.map_cons, List.map_nil]); first | done | rfl)); refine (left_calls g R 0 w _ HRr.out).mono ?_; rintro e w16 ⟨rfl, ⟨m16, rfl⟩⟩; refine ⟨_, rfl, ?_⟩; simp only [if_true])))
            | ((with_reducible refine gate_dst (N := 24) rfl ?_); go_must (((try (refine gate_guard (by rfl) ?_; dsimp only)); refine goesL_ (some 24) rfl rfl Try.func61 (by kernel_rfl) rfl #[.int .u64 b.length] rfl ?hA ?_; (case hA => ((try simp only [List.map_toArray, List.map_cons, List.map_nil]); first | done | rfl)); refine (HON.out b.length _ (by have := HL2.out; omega)).mono ?_; rintro e w24 ⟨rfl, ⟨m24, rfl⟩⟩; refine ⟨_, rfl, ?_⟩; )))
            | ((with_reducible refine gate_dst (N := 30) rfl ?_); go_must (((try (refine gate_guard (by rfl) ?_; dsimp only)); refine goesL_ (some 30) rfl rfl Try.func13 (by kernel_rfl) rfl #[.int .i64 x.length] rfl ?hA ?_; (case hA => ((try simp only [List.map_toArray, List.map_cons, List.map_nil]); first | done | rfl)); refine (bclass_calls x.length _).mono ?_; rintro e w30 ⟨rfl, hb⟩; refine ⟨_, rfl, ?_⟩; replace HRr := Aside0.mk (Rdr.below (by exact HRr.out) hb); replace HX := Aside0.mk (Rd.below (by exact HX.out) hb); replace HB := Aside0.mk (below_step (by repeat (first | (with_reducible first | exact HB.out | apply below_alloc | apply pw_below_drewN | apply below_drew1) | exact HB.out)) hb); clear hb)))
            | ((with_reducible refine gate_dst (N := 31) rfl ?_); go_must (((try (refine gate_guard (by rfl) ?_; dsimp only)); refine goesL_ (some 31) rfl rfl Try.func15 (by kernel_rfl) rfl #[.int .i64 (classB x.length)] rfl ?hA ?_; (case hA => ((try simp only [List.map_toArray, List.map_cons, List.map_nil]); first | done | rfl)); refine (bsize_calls _ _).mono ?_; rintro e w31 ⟨rfl, hb⟩; refine ⟨_, rfl, ?_⟩; rw [HSZ.out]; replace HRr := Aside0.mk (Rdr.below (by exact HRr.out) hb); replace HX := Aside0.mk (Rd.below (by exact HX.out) hb); replace HB := Aside0.mk (below_step (by repeat (first | (with_reducible first | exact HB.out | apply below_alloc | apply pw_below_drewN | apply below_drew1) | exact HB.out)) hb); clear hb))))
          refine bodyPost_ret (v := .tuple #[.slice none 0 0, .int .i64 4]) (by simp [results, Try.results50, go_sem]) rfl ?_
          rw [show unpK b = 4 by unfold unpK; rw [HV.out]; rfl, show unpL b = [] by unfold unpL; rw [HV.out]; rfl]
          exact ⟨_, rfl, Rd.nil _, (by repeat (first | exact HB.out | apply pw_below_drewN))⟩
      · have HV : Aside0 (unpS b = none) := ⟨by rw [HU.out, if_neg (fun h => h1 (HON1.out x b.length h.1 (by have := HF.out; have := congrArg List.length this; have := numL_pos x.length; simp only [List.length_append] at *; omega)))]⟩
        have h12 : (ones b.length == 1) = false := by simpa using h1
        go_enter Try.func50, Try.ntmps50
        go_wp2_with (first
          | ((with_reducible refine gate_dst (N := 10) rfl ?_); go_must (((try (refine gate_guard (by rfl) ?_; dsimp only)); refine goesL_ (some 10) rfl rfl Try.func34 (by kernel_rfl) rfl #[.slice A0 b.length c0] rfl ?hA ?_; (case hA => ((try simp only [List.map_toArray, List.map_cons, List.map_nil]); first | done | rfl)); refine (read_calls _ b w _ HR.out HL.out HB.out).mono ?_; rintro e w10 ⟨g, rfl, hr, hg, hb⟩; refine ⟨_, rfl, ?_⟩; have HRr := Aside0.mk hr; replace HB := Aside0.mk (below_step (by repeat (first | (with_reducible first | exact HB.out | apply below_alloc | apply pw_below_drewN | apply below_drew1) | exact HB.out)) hb); clear hr hg hb)))
          | ((with_reducible refine gate_dst (N := 14) rfl ?_); go_must (((try (refine gate_guard (by rfl) ?_; dsimp only)); refine goesL_ (some 14) rfl rfl Try.func38 (by kernel_rfl) rfl #[.pointer (some ⟨g, 0, none⟩), .int .i64 b.length] rfl ?hA ?_; (case hA => ((try simp only [List.map_toArray, List.map_cons, List.map_nil]); first | done | rfl)); refine (rbytes_calls g b.length b 0 w _ HRr.out HB.out).mono ?_; rintro e w14 ⟨v, rfl, ho, hr, hs⟩; refine ⟨_, rfl, ?_⟩; rw [HE.out] at ho hr; obtain ⟨Ax, cx, rfl, hcx, hCx⟩ := ho.rd; have HX : Aside0 (Rd w14 (.slice Ax x.length cx) x) := ⟨⟨Ax, cx, rfl, hcx, hCx⟩⟩; replace HRr := Aside0.mk hr; replace HB := Aside0.mk hs.below; clear ho hr hs hcx hCx)))
          | ((with_reducible refine gate_dst (N := 16) rfl ?_); go_must (((try (refine gate_guard (by rfl) ?_; dsimp only)); refine goesL_ (some 16) rfl rfl Try.func47 (by kernel_rfl) rfl #[.pointer (some ⟨g, 0, none⟩)] rfl ?hA ?_; (case hA => ((try simp only [List.map_toArray, List.map_cons, List.map_nil]); first | done | rfl)); refine (left_calls g R 0 w _ HRr.out).mono ?_; rintro e w16 ⟨rfl, ⟨m16, rfl⟩⟩; refine ⟨_, rfl, ?_⟩; simp only [if_true])))
          | ((with_reducible refine gate_dst (N := 24) rfl ?_); go_must (((try (refine gate_guard (by rfl) ?_; dsimp only)); refine goesL_ (some 24) rfl rfl Try.func61 (by kernel_rfl) rfl #[.int .u64 b.length] rfl ?hA ?_; (case hA => ((try simp only [List.map_toArray, List.map_cons, List.map_nil]); first | done | rfl)); refine (HON.out b.length _ (by have := HL2.out; omega)).mono ?_; rintro e w24 ⟨rfl, ⟨m24, rfl⟩⟩; refine ⟨_, rfl, ?_⟩; ))))
        refine bodyPost_ret (v := .tuple #[.slice none 0 0, .int .i64 4]) (by simp [results, Try.results50, go_sem]) rfl ?_
        rw [show unpK b = 4 by unfold unpK; rw [HV.out]; rfl, show unpL b = [] by unfold unpL; rw [HV.out]; rfl]
        exact ⟨_, rfl, Rd.nil _, (by repeat (first | exact HB.out | apply pw_below_drewN))⟩
  · have HV : Aside0 (unpS b = none) := ⟨unpS_none_bad HL.out.1 HL2.out (by rw [HE.out]; exact hk)⟩
    have HX0 : Aside0 (x = []) := ⟨by
      have e := HE.out
      have h1 : (bytesR b.length b 0).2.2 ≠ 0 := by rw [e]; exact hk
      have : x = (bytesR b.length b 0).1 := by rw [e]
      rw [this]
      revert h1
      unfold bytesR takeR
      (repeat' split) <;> simp⟩
    have hk3 : (k == 0) = false := by simpa using hk
    by_cases h16 : b.length < 16
    · have hnn : True := trivial
      go_enter Try.func50, Try.ntmps50
      go_wp2_with (first
        | ((with_reducible refine gate_dst (N := 10) rfl ?_); go_must (((try (refine gate_guard (by rfl) ?_; dsimp only)); refine goesL_ (some 10) rfl rfl Try.func34 (by kernel_rfl) rfl #[.slice A0 b.length c0] rfl ?hA ?_; (case hA => ((try simp only [List.map_toArray, List.map_cons, List.map_nil]); first | done | rfl)); refine (read_calls _ b w _ HR.out HL.out HB.out).mono ?_; rintro e w10 ⟨g, rfl, hr, hg, hb⟩; refine ⟨_, rfl, ?_⟩; have HRr := Aside0.mk hr; replace HB := Aside0.mk (below_step (by repeat (first | (with_reducible first | exact HB.out | apply below_alloc | apply pw_below_drewN | apply below_drew1) | exact HB.out)) hb); clear hr hg hb)))
        | ((with_reducible refine gate_dst (N := 14) rfl ?_); go_must (((try (refine gate_guard (by rfl) ?_; dsimp only)); refine goesL_ (some 14) rfl rfl Try.func38 (by kernel_rfl) rfl #[.pointer (some ⟨g, 0, none⟩), .int .i64 b.length] rfl ?hA ?_; (case hA => ((try simp only [List.map_toArray, List.map_cons, List.map_nil]); first | done | rfl)); refine (rbytes_calls g b.length b 0 w _ HRr.out HB.out).mono ?_; rintro e w14 ⟨v, rfl, ho, hr, hs⟩; refine ⟨_, rfl, ?_⟩; rw [HE.out] at ho hr; obtain ⟨Ax, cx, rfl, hcx, hCx⟩ := ho.rd; have HX : Aside0 (Rd w14 (.slice Ax x.length cx) x) := ⟨⟨Ax, cx, rfl, hcx, hCx⟩⟩; replace HRr := Aside0.mk hr; replace HB := Aside0.mk hs.below; clear ho hr hs hcx hCx)))
        | ((with_reducible refine gate_dst (N := 16) rfl ?_); go_must (((try (refine gate_guard (by rfl) ?_; dsimp only)); refine goesL_ (some 16) rfl rfl Try.func47 (by kernel_rfl) rfl #[.pointer (some ⟨g, 0, none⟩)] rfl ?hA ?_; (case hA => ((try simp only [List.map_toArray, List.map_cons, List.map_nil]); first | done | rfl)); refine (left_calls g R k w _ HRr.out).mono ?_; rintro e w16 ⟨rfl, ⟨m16, rfl⟩⟩; refine ⟨_, rfl, ?_⟩; rw [if_neg hk]))))
      refine bodyPost_ret (v := .tuple #[.slice none 0 0, .int .i64 4]) (by simp [results, Try.results50, go_sem]) rfl ?_
      rw [show unpK b = 4 by unfold unpK; rw [HV.out]; rfl, show unpL b = [] by unfold unpL; rw [HV.out]; rfl]
      exact ⟨_, rfl, Rd.nil _, (by repeat (first | exact HB.out | apply pw_below_drewN))⟩
    · have hd16 : decide ((b.length : Int) < 16) = false := by simp; omega
      by_cases h1 : ones b.length = 1
      · have H1 := Aside0.mk h1
        by_cases hsz : sz = b.length
        · have hlast : True := trivial
          obtain ⟨A1, hcut, hR1⟩ := cut_from (P := Try.prog) 26 Try.underlying26 info5 A0 b c0 b.length (Nat.le_refl _) hc0
          rw [show b.length - b.length = 0 by omega] at hcut
          clear hR1
          have HDN : Aside0 (doneR R k = k) := ⟨by unfold doneR; rw [if_neg (fun h => hk h.1)]⟩
          have hxl : x.length + 1 ≤ b.length := by have := HX0.out; subst this; simp; omega
          have hd4 : decide ((b.length : Int) - 1 - (x.length : Int) < 0) = false := by simp; omega
          go_enter Try.func50, Try.ntmps50
          go_wp2_with (first
            | ((with_reducible refine gate_dst (N := 10) rfl ?_); go_must (((try (refine gate_guard (by rfl) ?_; dsimp only)); refine goesL_ (some 10) rfl rfl Try.func34 (by kernel_rfl) rfl #[.slice A0 b.length c0] rfl ?hA ?_; (case hA => ((try simp only [List.map_toArray, List.map_cons, List.map_nil]); first | done | rfl)); refine (read_calls _ b w _ HR.out HL.out HB.out).mono ?_; rintro e w10 ⟨g, rfl, hr, hg, hb⟩; refine ⟨_, rfl, ?_⟩; have HRr := Aside0.mk hr; replace HB := Aside0.mk (below_step (by repeat (first | (with_reducible first | exact HB.out | apply below_alloc | apply pw_below_drewN | apply below_drew1) | exact HB.out)) hb); clear hr hg hb)))
            | ((with_reducible refine gate_dst (N := 14) rfl ?_); go_must (((try (refine gate_guard (by rfl) ?_; dsimp only)); refine goesL_ (some 14) rfl rfl Try.func38 (by kernel_rfl) rfl #[.pointer (some ⟨g, 0, none⟩), .int .i64 b.length] rfl ?hA ?_; (case hA => ((try simp only [List.map_toArray, List.map_cons, List.map_nil]); first | done | rfl)); refine (rbytes_calls g b.length b 0 w _ HRr.out HB.out).mono ?_; rintro e w14 ⟨v, rfl, ho, hr, hs⟩; refine ⟨_, rfl, ?_⟩; rw [HE.out] at ho hr; obtain ⟨Ax, cx, rfl, hcx, hCx⟩ := ho.rd; have HX : Aside0 (Rd w14 (.slice Ax x.length cx) x) := ⟨⟨Ax, cx, rfl, hcx, hCx⟩⟩; replace HRr := Aside0.mk hr; replace HB := Aside0.mk hs.below; clear ho hr hs hcx hCx)))
            | ((with_reducible refine gate_dst (N := 16) rfl ?_); go_must (((try (refine gate_guard (by rfl) ?_; dsimp only)); refine goesL_ (some 16) rfl rfl Try.func47 (by kernel_rfl) rfl #[.pointer (some ⟨g, 0, none⟩)] rfl ?hA ?_; (case hA => ((try simp only [List.map_toArray, List.map_cons, List.map_nil]); first | done | rfl)); refine (left_calls g R k w _ HRr.out).mono ?_; rintro e w16 ⟨rfl, ⟨m16, rfl⟩⟩; refine ⟨_, rfl, ?_⟩; rw [if_neg hk])))
            | ((with_reducible refine gate_dst (N := 24) rfl ?_); go_must (((try (refine gate_guard (by rfl) ?_; dsimp only)); refine goesL_ (some 24) rfl rfl Try.func61 (by kernel_rfl) rfl #[.int .u64 b.length] rfl ?hA ?_; (case hA => ((try simp only [List.map_toArray, List.map_cons, List.map_nil]); first | done | rfl)); refine (HON.out b.length _ (by have := HL2.out; omega)).mono ?_; rintro e w24 ⟨rfl, ⟨m24, rfl⟩⟩; refine ⟨_, rfl, ?_⟩; )))
            | ((with_reducible refine gate_dst (N := 30) rfl ?_); go_must (((try (refine gate_guard (by rfl) ?_; dsimp only)); refine goesL_ (some 30) rfl rfl Try.func13 (by kernel_rfl) rfl #[.int .i64 x.length] rfl ?hA ?_; (case hA => ((try simp only [List.map_toArray, List.map_cons, List.map_nil]); first | done | rfl)); refine (bclass_calls x.length _).mono ?_; rintro e w30 ⟨rfl, hb⟩; refine ⟨_, rfl, ?_⟩; replace HRr := Aside0.mk (Rdr.below (by exact HRr.out) hb); replace HX := Aside0.mk (Rd.below (by exact HX.out) hb); replace HB := Aside0.mk (below_step (by repeat (first | (with_reducible first | exact HB.out | apply below_alloc | apply pw_below_drewN | apply below_drew1) | exact HB.out)) hb); clear hb)))
            | ((with_reducible refine gate_dst (N := 31) rfl ?_); go_must (((try (refine gate_guard (by rfl) ?_; dsimp only)); refine goesL_ (some 31) rfl rfl Try.func15 (by kernel_rfl) rfl #[.int .i64 (classB x.length)] rfl ?hA ?_; (case hA => ((try simp only [List.map_toArray, List.map_cons, List.map_nil]); first | done | rfl)); refine (bsize_calls _ _).mono ?_; rintro e w31 ⟨rfl, hb⟩; refine ⟨_, rfl, ?_⟩; rw [HSZ.out]; replace HRr := Aside0.mk (Rdr.below (by exact HRr.out) hb); replace HX := Aside0.mk (Rd.below (by exact HX.out) hb); replace HB := Aside0.mk (below_step (by repeat (first | (with_reducible first | exact HB.out | apply below_alloc | apply pw_below_drewN | apply below_drew1) | exact HB.out)) hb); clear hb))))
          go_loopw [53] (fun v53 wr => v53 = .int .i64 0 ∧ Drawn0 w31 wr) (fun v53 _ => 0)
          case atStart => exact ⟨rfl, Drawn0.refl _⟩
          case round =>
            obtain ⟨rfl, ⟨m53, rfl⟩⟩ := hrel
            go_wp2_with (first
              | ((with_reducible refine gate_dst (N := 61) rfl ?_); go_must (((try (refine gate_guard (by rfl) ?_; dsimp only)); refine goesL_ (some 61) rfl rfl Try.func36 (by kernel_rfl) rfl #[.pointer (some ⟨g, 0, none⟩)] rfl ?hA ?_; (case hA => ((try simp only [List.map_toArray, List.map_cons, List.map_nil]); first | done | rfl)); refine (done_calls g R k w _ (by exact HRr.out.drewN _)).mono ?_; rintro e w61 ⟨rfl, ⟨m61, rfl⟩⟩; refine ⟨_, rfl, ?_⟩; rw [HDN.out]))))
            refine bodyPost_ret (v := .tuple #[.slice none 0 0, .int .i64 4]) (by simp [results, Try.results50, go_sem]) rfl ?_
            rw [show unpK b = 4 by unfold unpK; rw [HV.out]; rfl, show unpL b = [] by unfold unpL; rw [HV.out]; rfl]
            exact ⟨_, rfl, Rd.nil _, (by repeat (first | exact HB.out | apply pw_below_drewN))⟩
        · have hnn : True := trivial
          have hsz2 : (sz == (b.length : Int)) = false := by simpa using hsz
          go_enter Try.func50, Try.ntmps50
          go_wp2_with (first
            | ((with_reducible refine gate_dst (N := 10) rfl ?_); go_must (((try (refine gate_guard (by rfl) ?_; dsimp only)); refine goesL_ (some 10) rfl rfl Try.func34 (by kernel_rfl) rfl #[.slice A0 b.length c0] rfl ?hA ?_; (case hA => ((try simp only [List.map_toArray, List.map_cons, List.map_nil]); first | done | rfl)); refine (read_calls _ b w _ HR.out HL.out HB.out).mono ?_; rintro e w10 ⟨g, rfl, hr, hg, hb⟩; refine ⟨_, rfl, ?_⟩; have HRr := Aside0.mk hr; replace HB := Aside0.mk (below_step (by repeat (first | (with_reducible first | exact HB.out | apply below_alloc | apply pw_below_drewN | apply below_drew1) | exact HB.out)) hb); clear hr hg hb)))
            | ((with_reducible refine gate_dst (N := 14) rfl ?_); go_must (((try (refine gate_guard (by rfl) ?_; dsimp only)); refine goesL_ (some 14) rfl rfl Try.func38 (by kernel_rfl) rfl #[.pointer (some ⟨g, 0, none⟩), .int .i64 b.length] rfl ?hA ?_; (case hA => ((try simp only [List.map_toArray, List.map_cons, List.map_nil]); first | done | rfl)); refine (rbytes_calls g b.length b 0 w _ HRr.out HB.out).mono ?_; rintro e w14 ⟨v, rfl, ho, hr, hs⟩; refine ⟨_, rfl, ?_⟩; rw [HE.out] at ho hr; obtain ⟨Ax, cx, rfl, hcx, hCx⟩ := ho.rd; have HX : Aside0 (Rd w14 (.slice Ax x.length cx) x) := ⟨⟨Ax, cx, rfl, hcx, hCx⟩⟩; replace HRr := Aside0.mk hr; replace HB := Aside0.mk hs.below; clear ho hr hs hcx hCx)))
            | ((with_reducible refine gate_dst (N := 16) rfl ?_); go_must (((try (refine gate_guard (by rfl) ?_; dsimp only)); refine goesL_ (some 16) rfl rfl Try.func47 (by kernel_rfl) rfl #[.pointer (some ⟨g, 0, none⟩)] rfl ?hA ?_; (case hA => ((try simp only [List.map_toArray, List.map_cons, List.map_nil]); first | done | rfl)); refine (left_calls g R k w _ HRr.out).mono ?_; rintro e w16 ⟨rfl, ⟨m16, rfl⟩⟩; refine ⟨_, rfl, ?_⟩; rw [if_neg hk])))
            | ((with_reducible refine gate_dst (N := 24) rfl ?_); go_must (((try (refine gate_guard (by rfl) ?_; dsimp only)); refine goesL_ (some 24) rfl rfl Try.func61 (by kernel_rfl) rfl #[.int .u64 b.length] rfl ?hA ?_; (case hA => ((try simp only [List.map_toArray, List.map_cons, List.map_nil]); first | done | rfl)); refine (HON.out b.length _ (by have := HL2.out; omega)).mono ?_; rintro e w24 ⟨rfl, ⟨m24, rfl⟩⟩; refine ⟨_, rfl, ?_⟩; )))
            | ((with_reducible refine gate_dst (N := 30) rfl ?_); go_must (((try (refine gate_guard (by rfl) ?_; dsimp only)); refine goesL_ (some 30) rfl rfl Try.func13 (by kernel_rfl) rfl #[.int .i64 x.length] rfl ?hA ?_; (case hA => ((try simp only [List.map_toArray, List.map_cons, List.map_nil]); first | done | rfl)); refine (bclass_calls x.length _).mono ?_; rintro e w30 ⟨rfl, hb⟩; refine ⟨_, rfl, ?_⟩; replace HRr := Aside0.mk (Rdr.below (by exact HRr.out) hb); replace HX := Aside0.mk (Rd.below (by exact HX.out) hb); replace HB := Aside0.mk (below_step (by repeat (first | (with_reducible first | exact HB.out | apply below_alloc | apply pw_below_drewN | apply below_drew1) | exact HB.out)) hb); clear hb)))
            | ((with_reducible refine gate_dst (N := 31) rfl ?_); go_must (((try (refine gate_guard (by rfl) ?_; dsimp only)); refine goesL_ (some 31) rfl rfl Try.func15 (by kernel_rfl) rfl #[.int .i64 (classB x.length)] rfl ?hA ?_; (case hA => ((try simp only [List.map_toArray, List.map_cons, List.map_nil]); first | done | rfl)); refine (bsize_calls _ _).mono ?_; rintro e w31 ⟨rfl, hb⟩; refine ⟨_, rfl, ?_⟩; rw [HSZ.out]; replace HRr := Aside0.mk (Rdr.below (by exact HRr.out) hb); replace HX := Aside0.mk (Rd.below (by exact HX.out) hb); replace HB := Aside0.mk (below_step (by repeat (first | (with_reducible first | exact HB.out | apply below_alloc | apply pw_below_drewN | apply below_drew1) | exact HB.out)) hb); clear hb))))
          refine bodyPost_ret (v := .tuple #[.slice none 0 0, .int .i64 4]) (by simp [results, Try.results50, go_sem]) rfl ?_
          rw [show unpK b = 4 by unfold unpK; rw [HV.out]; rfl, show unpL b = [] by unfold unpL; rw [HV.out]; rfl]
          exact ⟨_, rfl, Rd.nil _, (by repeat (first | exact HB.out | apply pw_below_drewN))⟩
      · have hnn : True := trivial
        have h12 : (ones b.length == 1) = false := by simpa using h1
        go_enter Try.func50, Try.ntmps50
        go_wp2_with (first
          | ((with_reducible refine gate_dst (N := 10) rfl ?_); go_must (((try (refine gate_guard (by rfl) ?_; dsimp only)); refine goesL_ (some 10) rfl rfl Try.func34 (by kernel_rfl) rfl #[.slice A0 b.length c0] rfl ?hA ?_; (case hA => ((try simp only [List.map_toArray, List.map_cons, List.map_nil]); first | done | rfl)); refine (read_calls _ b w _ HR.out HL.out HB.out).mono ?_; rintro e w10 ⟨g, rfl, hr, hg, hb⟩; refine ⟨_, rfl, ?_⟩; have HRr := Aside0.mk hr; replace HB := Aside0.mk (below_step (by repeat (first | (with_reducible first | exact HB.out | apply below_alloc | apply pw_below_drewN | apply below_drew1) | exact HB.out)) hb); clear hr hg hb)))
          | ((with_reducible refine gate_dst (N := 14) rfl ?_); go_must (((try (refine gate_guard (by rfl) ?_; dsimp only)); refine goesL_ (some 14) rfl rfl Try.func38 (by kernel_rfl) rfl #[.pointer (some ⟨g, 0, none⟩), .int .i64 b.length] rfl ?hA ?_; (case hA => ((try simp only [List.map_toArray, List.map_cons, List.map_nil]); first | done | rfl)); refine (rbytes_calls g b.length b 0 w _ HRr.out HB.out).mono ?_; rintro e w14 ⟨v, rfl, ho, hr, hs⟩; refine ⟨_, rfl, ?_⟩; rw [HE.out] at ho hr; obtain ⟨Ax, cx, rfl, hcx, hCx⟩ := ho.rd; have HX : Aside0 (Rd w14 (.slice Ax x.length cx) x) := ⟨⟨Ax, cx, rfl, hcx, hCx⟩⟩; replace HRr := Aside0.mk hr; replace HB := Aside0.mk hs.below; clear ho hr hs hcx hCx)))
          | ((with_reducible refine gate_dst (N := 16) rfl ?_); go_must (((try (refine gate_guard (by rfl) ?_; dsimp only)); refine goesL_ (some 16) rfl rfl Try.func47 (by kernel_rfl) rfl #[.pointer (some ⟨g, 0, none⟩)] rfl ?hA ?_; (case hA => ((try simp only [List.map_toArray, List.map_cons, List.map_nil]); first | done | rfl)); refine (left_calls g R k w _ HRr.out).mono ?_; rintro e w16 ⟨rfl, ⟨m16, rfl⟩⟩; refine ⟨_, rfl, ?_⟩; rw [if_neg hk])))
          | ((with_reducible refine gate_dst (N := 24) rfl ?_); go_must (((try (refine gate_guard (by rfl) ?_; dsimp only)); refine goesL_ (some 24) rfl rfl Try.func61 (by kernel_rfl) rfl #[.int .u64 b.length] rfl ?hA ?_; (case hA => ((try simp only [List.map_toArray, List.map_cons, List.map_nil]); first | done | rfl)); refine (HON.out b.length _ (by have := HL2.out; omega)).mono ?_; rintro e w24 ⟨rfl, ⟨m24, rfl⟩⟩; refine ⟨_, rfl, ?_⟩; ))))
        refine bodyPost_ret (v := .tuple #[.slice none 0 0, .int .i64 4]) (by simp [results, Try.results50, go_sem]) rfl ?_
        rw [show unpK b = 4 by unfold unpK; rw [HV.out]; rfl, show unpL b = [] by unfold unpL; rw [HV.out]; rfl]
        exact ⟨_, rfl, Rd.nil _, (by repeat (first | exact HB.out | apply pw_below_drewN))⟩
end Go.Proofs.Ytnmidmcmbehkbaa.K

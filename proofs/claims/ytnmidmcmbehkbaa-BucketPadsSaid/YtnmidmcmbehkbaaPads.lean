/- cachettelaw02.BucketPads: the walk. -/
import Derived.Test.YtnmidmcmbehkbaaUnpadP
namespace Go.Proofs.Ytnmidmcmbehkbaa.K
open Go.RowKit Go.Proofs.YtnmidmcmbehkbaaW.PrintWords Go.Proofs.YtnmidmcmbehkbaaW.PrintLast Go.Proofs.YtnmidmcmbehkbaaW.PrintMore
set_option linter.unusedVariables false
set_option linter.unusedSimpArgs false

set_option maxRecDepth 100000 in
set_option maxHeartbeats 2000000 in
theorem pads_walk (v0 v1 : Value) (l0 l1 : List Int) (w : World) (hr0 : Rd w v0 l0) (hr1 : Rd w v1 l1) (hb1 : ∀ x ∈ l1, 0 ≤ x ∧ x ≤ 255) :
    Calls Try.prog 11 #[v0, v1] w fun e w' => e = .returned (.bool true) ∧ Below w.heap.size w w' := by
  have HR0 := Aside0.mk hr0
  have HR1 := Aside0.mk hr1
  have HB1 := Aside0.mk hb1
  obtain ⟨A0, c0, rfl, hc0, hC0⟩ := hr0
  obtain ⟨A1, c1, rfl, hc1, hC1⟩ := hr1
  have HB := Aside0.mk (Below.refl w.heap.size w)
  clear hC0 hc0 hC1 hc1 hb1
  by_cases h0 : l0.length > 2000
  · go_enter Try.func11, Try.ntmps11
    go_wp2_with (first
      | ((with_reducible refine gate_dst (N := 21) rfl ?_); go_must (((try (refine gate_guard (by rfl) ?_; dsimp only)); refine goesL_ (some 21) rfl rfl Try.func20 (by kernel_rfl) rfl #[] rfl ?hA ?_; (case hA => ((try simp only [List.map_toArray, List.map_cons, List.map_nil]); first | done | rfl)); refine (alive02_calls _).mono ?_; rintro e w21 ⟨rfl, hb⟩; refine ⟨_, rfl, ?_⟩; replace HB := Aside0.mk (below_step (by repeat (first | (with_reducible first | exact HB.out | apply below_alloc | apply pw_below_drewN | apply below_drew1) | exact HB.out)) hb); clear hb))))
    go_ret
    exact ⟨rfl, HB.out⟩
  · by_cases h1 : l1.length > 2000
    · go_enter Try.func11, Try.ntmps11
      go_wp2_with (first
        | ((with_reducible refine gate_dst (N := 21) rfl ?_); go_must (((try (refine gate_guard (by rfl) ?_; dsimp only)); refine goesL_ (some 21) rfl rfl Try.func20 (by kernel_rfl) rfl #[] rfl ?hA ?_; (case hA => ((try simp only [List.map_toArray, List.map_cons, List.map_nil]); first | done | rfl)); refine (alive02_calls _).mono ?_; rintro e w21 ⟨rfl, hb⟩; refine ⟨_, rfl, ?_⟩; replace HB := Aside0.mk (below_step (by repeat (first | (with_reducible first | exact HB.out | apply below_alloc | apply pw_below_drewN | apply below_drew1) | exact HB.out)) hb); clear hb))))
      go_ret
      exact ⟨rfl, HB.out⟩
    · have HBL : Aside0 (BL l1) := ⟨HB1.out, by omega⟩
      go_enter Try.func11, Try.ntmps11
      go_wp2_with (first
        | ((with_reducible refine gate_dst (N := 24) rfl ?_); go_must (((try (refine gate_guard (by rfl) ?_; dsimp only)); refine goesL_ (some 24) rfl rfl Try.func21 (by kernel_rfl) rfl #[.slice A0 l0.length c0] rfl ?hA ?_; (case hA => ((try simp only [List.map_toArray, List.map_cons, List.map_nil]); first | done | rfl)); refine (bpad_calls _ l0 _ (HR0.out.below HB.out) (by omega)).mono ?_; rintro e w24 ⟨v24, rfl, ho, hb⟩; refine ⟨_, rfl, ?_⟩; have HP := Aside0.mk ho; replace HB := Aside0.mk (below_step (by repeat (first | (with_reducible first | exact HB.out | apply below_alloc | apply pw_below_drewN | apply below_drew1) | exact HB.out)) hb); clear ho hb)))
        | ((with_reducible refine gate_dst (N := 29) rfl ?_); go_must (((try (refine gate_guard (by rfl) ?_; dsimp only)); refine goesL_ (some 29) rfl rfl Try.func49 (by kernel_rfl) rfl #[.slice A0 l0.length c0] rfl ?hA ?_; (case hA => ((try simp only [List.map_toArray, List.map_cons, List.map_nil]); first | done | rfl)); refine (dpad_calls _ l0 _ (HR0.out.below HB.out) (by omega)).mono ?_; rintro e w29 ⟨v29, rfl, ho, hb⟩; refine ⟨_, rfl, ?_⟩; have HQ := Aside0.mk ho; replace HP := Aside0.mk (HP.out.below hb); replace HB := Aside0.mk (below_step (by repeat (first | (with_reducible first | exact HB.out | apply below_alloc | apply pw_below_drewN | apply below_drew1) | exact HB.out)) hb); clear ho hb)))
        | ((with_reducible refine gate_dst (N := 34) rfl ?_); go_must (((try (refine gate_guard (by rfl) ?_; dsimp only)); refine goesL_ (some 34) rfl rfl Try.func50 (by kernel_rfl) rfl #[.slice A1 l1.length c1] rfl ?hA ?_; (case hA => ((try simp only [List.map_toArray, List.map_cons, List.map_nil]); first | done | rfl)); refine (bunpad_calls _ l1 _ (HR1.out.below HB.out) HBL.out (by omega)).mono ?_; rintro e w34 ⟨v34, rfl, ho, hb⟩; refine ⟨_, rfl, ?_⟩; have HU := Aside0.mk ho; replace HP := Aside0.mk (HP.out.below hb); replace HQ := Aside0.mk (HQ.out.below hb); replace HB := Aside0.mk (below_step (by repeat (first | (with_reducible first | exact HB.out | apply below_alloc | apply pw_below_drewN | apply below_drew1) | exact HB.out)) hb); clear ho hb)))
        | ((with_reducible refine gate_dst (N := 39) rfl ?_); go_must (((try (refine gate_guard (by rfl) ?_; dsimp only)); refine goesL_ (some 39) rfl rfl Try.func51 (by kernel_rfl) rfl #[.slice A1 l1.length c1] rfl ?hA ?_; (case hA => ((try simp only [List.map_toArray, List.map_cons, List.map_nil]); first | done | rfl)); refine (dunpad_calls _ l1 _ (HR1.out.below HB.out) HBL.out).mono ?_; rintro e w39 ⟨v39, rfl, ho, hb⟩; refine ⟨_, rfl, ?_⟩; have HV := Aside0.mk ho; replace HU := Aside0.mk (HU.out.below hb); replace HP := Aside0.mk (HP.out.below hb); replace HQ := Aside0.mk (HQ.out.below hb); replace HB := Aside0.mk (below_step (by repeat (first | (with_reducible first | exact HB.out | apply below_alloc | apply pw_below_drewN | apply below_drew1) | exact HB.out)) hb); clear ho hb)))
        | ((with_reducible refine gate_dst (N := 44) rfl ?_); go_must (((try (refine gate_guard (by rfl) ?_; dsimp only)); refine goesL_ (some 44) rfl rfl Try.func24 (by kernel_rfl) rfl #[v24, v29] rfl ?hA ?_; (case hA => ((try simp only [List.map_toArray, List.map_cons, List.map_nil]); first | done | rfl)); refine (same_calls _ _ (padL l0) (padL l0) _ HP.out.rd HQ.out.rd).mono ?_; rintro e w44 ⟨rfl, hd⟩; refine ⟨_, rfl, ?_⟩; have hb := hd.below; replace HU := Aside0.mk (HU.out.below hb); replace HV := Aside0.mk (HV.out.below hb); replace HB := Aside0.mk (below_step (by repeat (first | (with_reducible first | exact HB.out | apply below_alloc | apply pw_below_drewN | apply below_drew1) | exact HB.out)) hb); clear hb hd)))
        | ((with_reducible refine gate_dst (N := 53) rfl ?_); go_must (((try (refine gate_guard (by rfl) ?_; dsimp only)); refine goesL_ (some 53) rfl rfl Try.func24 (by kernel_rfl) rfl #[v34, v39] rfl ?hA ?_; (case hA => ((try simp only [List.map_toArray, List.map_cons, List.map_nil]); first | done | rfl)); refine (same_calls _ _ (unpL l1) (unpL l1) _ HU.out HV.out).mono ?_; rintro e w53 ⟨rfl, hd⟩; refine ⟨_, rfl, ?_⟩; have hb := hd.below; replace HB := Aside0.mk (below_step (by repeat (first | (with_reducible first | exact HB.out | apply below_alloc | apply pw_below_drewN | apply below_drew1) | exact HB.out)) hb); clear hb hd)))
        | ((with_reducible refine gate_dst (N := 61) rfl ?_); go_must (((try (refine gate_guard (by rfl) ?_; dsimp only)); refine goesL_ (some 61) rfl rfl Try.func20 (by kernel_rfl) rfl #[] rfl ?hA ?_; (case hA => ((try simp only [List.map_toArray, List.map_cons, List.map_nil]); first | done | rfl)); refine (alive02_calls _).mono ?_; rintro e w61 ⟨rfl, hb⟩; refine ⟨_, rfl, ?_⟩; replace HB := Aside0.mk (below_step (by repeat (first | (with_reducible first | exact HB.out | apply below_alloc | apply pw_below_drewN | apply below_drew1) | exact HB.out)) hb); clear hb))))
      go_ret
      exact ⟨rfl, HB.out⟩
end Go.Proofs.Ytnmidmcmbehkbaa.K

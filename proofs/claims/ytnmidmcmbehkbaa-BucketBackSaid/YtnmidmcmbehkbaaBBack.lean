/- cachettelaw02.BucketBack: the walk. -/
import Derived.Test.YtnmidmcmbehkbaaUnpadP
import Derived.Test.YtnmidmcmbehkbaaLaw01
namespace Go.Proofs.Ytnmidmcmbehkbaa.K
open Go.RowKit Go.Proofs.YtnmidmcmbehkbaaW.PrintWords Go.Proofs.YtnmidmcmbehkbaaW.PrintLast Go.Proofs.YtnmidmcmbehkbaaW.PrintMore
set_option linter.unusedVariables false
set_option linter.unusedSimpArgs false

theorem rd_take2 {W : World} {A : Option Addr} {n c N : Nat} {l : List Int} (hN : l.length = N) (h : Kd.C B W A N l) (hn : n ≤ N) (hc : N ≤ c) : Rd W (.slice A n c) (l.take n) := by
  subst hN
  exact rd_take h hn hc
theorem padL_BL {l : List Int} (hl : ∀ x ∈ l, 0 ≤ x ∧ x ≤ 255) (hk : padK l = 0) : ∀ x ∈ padL l, 0 ≤ x ∧ x ≤ 255 := by
  obtain ⟨R, e, e2, _⟩ := padL_bytes hk
  rw [e]
  intro x hx
  rcases List.mem_append.1 hx with h | h
  · rcases List.mem_append.1 h with h | h
    · exact numL_BL _ x h
    · exact hl x h
  · rw [e2] at h
    obtain ⟨_, rfl⟩ := List.mem_replicate.1 h
    decide
theorem padL_most {l : List Int} (hk : padK l = 0) : 0 < (padL l).length ∧ (padL l).length ≤ 1024 := by
  obtain ⟨R, e, _, hc, _⟩ := padL_bytes hk
  constructor
  · rw [e]
    have := numL_pos l.length
    simp only [List.length_append]
    omega
  · rw [padL_len hc]
    have := sizeB_le (classB l.length)
    omega
theorem padK_two (l : List Int) : padK l = 0 ∨ padK l = 3 := by
  unfold padK
  split <;> simp

set_option maxRecDepth 100000 in
set_option maxHeartbeats 4000000 in
theorem bback_on (v0 v1 : Value) (l0 l1 : List Int) (w : World) (hr0 : Rd w v0 l0) (hr1 : Rd w v1 l1) (hb0 : ∀ x ∈ l0, 0 ≤ x ∧ x ≤ 255) (hb1 : ∀ x ∈ l1, 0 ≤ x ∧ x ≤ 255) (h0 : ¬ l0.length > 2000) (h1 : ¬ l1.length > 2000) (x : List Int) (hk : padK l0 = 0) (hu1 : unpS l1 = some x) :
    Calls Try.prog 12 #[v0, v1] w fun e w' => e = .returned (.bool true) ∧ Below w.heap.size w w' := by
  have HR0 := Aside0.mk hr0
  have HR1 := Aside0.mk hr1
  have HB1 := Aside0.mk hb1
  have HB0 := Aside0.mk hb0
  obtain ⟨A0, c0, rfl, hc0, hC0⟩ := hr0
  obtain ⟨A1, c1, rfl, hc1, hC1⟩ := hr1
  have HB := Aside0.mk (Below.refl w.heap.size w)
  clear hC0 hc0 hC1 hc1 hb1 hb0
  have HBL : Aside0 (BL l1) := ⟨HB1.out, by omega⟩
  have HK := Aside0.mk hk
  obtain ⟨p, hp⟩ : ∃ p, padL l0 = p := ⟨_, rfl⟩
  obtain ⟨np, hnp⟩ : ∃ np, p.length = np := ⟨_, rfl⟩
  have hm := padL_most hk
  rw [hp, hnp] at hm
  have hu := unpS_pad hk
  have hmore := unpS_more hk
  have hless := unpS_less hk
  rw [hp] at hu hmore hless
  rw [hnp] at hless
  have HU1 : Aside0 (unpK p = 0) := ⟨by unfold unpK; rw [hu]; rfl⟩
  have HU2 : Aside0 (unpL p = l0) := ⟨by unfold unpL; rw [hu]; rfl⟩
  have HM : Aside0 (unpK (p ++ [0]) = 4) := ⟨by unfold unpK; rw [hmore]; rfl⟩
  have HL : Aside0 (unpK (p.take (np - 1)) = 4) := ⟨by unfold unpK; rw [hless]; rfl⟩
  have hpb := padL_BL HB0.out hk
  rw [hp] at hpb
  have HPB : Aside0 (BL p) := ⟨⟨hpb, by omega⟩⟩
  have HPB1 : Aside0 (BL (p ++ [0])) := ⟨⟨fun x hx => by
    rcases List.mem_append.1 hx with h | h
    · exact hpb x h
    · simp at h
      subst h
      decide, by simp; omega⟩⟩
  have HPM : Aside0 (p.length ≤ 2000) := ⟨by omega⟩
  have HPM1 : Aside0 ((p ++ [0]).length ≤ 2000) := ⟨by simp; omega⟩
  have HPM2 : Aside0 ((p.take (np - 1)).length ≤ 2000) := ⟨by rw [List.length_take]; omega⟩
  have HPN := Aside0.mk hnp
  have HPE := Aside0.mk hp
  have hq : ((np : Int) == 0) = false := by simp; omega
  have hq2 : (np : Int) - 1 = ((np - 1 : Nat) : Int) := by omega
  clear hp hnp hu hmore hless hpb hk
  have HJ : Aside0 (unpK l1 = 0) := ⟨by unfold unpK; rw [hu1]; rfl⟩
  have HJL : Aside0 (unpL l1 = x) := ⟨by unfold unpL; rw [hu1]; rfl⟩
  obtain ⟨hx1, hx2⟩ := unpS_some hu1
  obtain ⟨_, _, _, _, hx3⟩ := padL_bytes hx1
  have HXK := Aside0.mk hx1
  have HXL := Aside0.mk hx2
  have HXM : Aside0 (x.length ≤ 1000000) := ⟨by omega⟩
  clear hu1 hx1 hx2 hx3
  go_enter Try.func12, Try.ntmps12
  go_wp2_with (first
    | ((with_reducible refine gate_dst (N := 26) rfl ?_); go_must (((try (refine gate_guard (by rfl) ?_; dsimp only)); refine goesL_ (some 26) rfl rfl Try.func21 (by kernel_rfl) rfl #[.slice A0 l0.length c0] rfl ?hA ?_; (case hA => ((try simp only [List.map_toArray, List.map_cons, List.map_nil]); first | done | rfl)); refine (bpad_calls _ l0 _ (HR0.out.below HB.out) (by omega)).mono ?_; rintro e w26 ⟨v26, rfl, ho, hb⟩; refine ⟨_, rfl, ?_⟩; rw [HK.out]; rw [HPE.out] at ho; obtain ⟨Ap, cp, rfl, hcp, hCp⟩ := ho.rd; rw [HPN.out] at hcp hCp ⊢; have HCP := Aside0.mk hCp; have HP : Aside0 (Rd w26 (.slice Ap np cp) p) := ⟨⟨Ap, cp, by rw [HPN.out], by rw [HPN.out]; exact hcp, by rw [HPN.out]; exact hCp⟩⟩; replace HB := Aside0.mk (below_step (by repeat (first | (with_reducible first | exact HB.out | apply below_alloc | apply pw_below_drewN | apply below_drew1) | exact HB.out)) hb); have HB2 := Aside0.mk (Below.refl w26.heap.size w26); clear ho hb hCp)))
    | ((with_reducible refine gate_dst (N := 33) rfl ?_); go_must (((try (refine gate_guard (by rfl) ?_; dsimp only)); refine goesL_ (some 33) rfl rfl Try.func50 (by kernel_rfl) rfl #[.slice Ap np cp] rfl ?hA ?_; (case hA => ((try simp only [List.map_toArray, List.map_cons, List.map_nil]); first | done | rfl)); refine (bunpad_calls _ p _ (HP.out.below HB2.out) HPB.out HPM.out).mono ?_; rintro e w33 ⟨v33, rfl, ho, hb⟩; refine ⟨_, rfl, ?_⟩; rw [HU1.out]; rw [HU2.out] at ho; have HU := Aside0.mk ho; replace HB2 := Aside0.mk (below_step HB2.out hb); have HB3 := Aside0.mk (Below.refl w33.heap.size w33); clear ho hb)))
    | ((with_reducible refine gate_dst (N := 37) rfl ?_); go_must (((try (refine gate_guard (by rfl) ?_; dsimp only)); refine lit_bytes (w0 := w33) (w33).heap.size 37 ?hg ?hd ([]) ?hr ?hm HB3.out HB3.out.size ?_; (case hd => rfl); (case hg => rfl); (case hr => first | (go_simp; done) | (go_simp; rfl)); (case hm => simp); intro vHO37 wHO37 ho hb hbw; have HO37 := Aside0.mk ho; clear HB3; have HB3 := Aside0.mk hb; clear ho hb hbw)))
    | ((with_reducible refine gate_builtin (b := .append) (xs := #[.tmp 37, .tmp 38]) rfl ?_); at_builtin; go_must (((try (refine gate_guard (by rfl) ?_; dsimp only)); refine app_bytes (w0 := w33) (w33).heap.size rfl (.tmp 37) (.tmp 38) 26 rfl Try.underlying26 info5 _ _ ([]) (p) rfl rfl HO37.out ?aR HB3.out HB3.out.size ?aL ?_; (case aR => exact HP.out.below (HB2.out.trans (HB3.out.mono HB2.out.size))); (case aL => (have := HPM.out; simp; omega)); intro vHO39 wHO39 ho hb hg; have HO39 := Aside0.mk ho; clear HB3; have HB3 := Aside0.mk hb; clear ho hb hg)))
    | ((with_reducible refine gate_dst (N := 40) rfl ?_); go_must (((try (refine gate_guard (by rfl) ?_; dsimp only)); refine lit_bytes (w0 := w33) (w33).heap.size 40 ?hg ?hd ([0]) ?hr ?hm HB3.out HB3.out.size ?_; (case hd => rfl); (case hg => rfl); (case hr => first | (go_simp; done) | (go_simp; rfl)); (case hm => simp); intro vHO40 wHO40 ho hb hbw; have HO40 := Aside0.mk ho; replace HO39 := Aside0.mk (HO39.out.below hbw); clear HB3; have HB3 := Aside0.mk hb; clear ho hb hbw)))
    | ((with_reducible refine gate_builtin (b := .append) (xs := #[.tmp 39, .tmp 40]) rfl ?_); at_builtin; go_must (((try (refine gate_guard (by rfl) ?_; dsimp only)); refine app_bytes (w0 := w33) (w33).heap.size rfl (.tmp 39) (.tmp 40) 26 rfl Try.underlying26 info5 _ _ ([] ++ p) ([0]) rfl rfl HO39.out ?aR HB3.out HB3.out.size ?aL ?_; (case aR => exact HO40.out.rd); (case aL => (have := HPM.out; simp; omega)); intro vHO41 wHO41 ho hb hg; have HO41 := Aside0.mk ho; clear HB3; have HB3 := Aside0.mk hb; clear ho hb hg)))
    | ((with_reducible refine gate_dst (N := 42) rfl ?_); go_must (((try (refine gate_guard (by rfl) ?_; dsimp only)); refine goesL_ (some 42) rfl rfl Try.func50 (by kernel_rfl) rfl #[vHO41] rfl ?hA ?_; (case hA => ((try simp only [List.map_toArray, List.map_cons, List.map_nil]); first | done | rfl)); refine (bunpad_calls _ (p ++ [0]) _ (by simpa using HO41.out.rd) HPB1.out HPM1.out).mono ?_; rintro e w42 ⟨v42, rfl, ho, hb⟩; refine ⟨_, rfl, ?_⟩; rw [HM.out]; replace HB3 := Aside0.mk (below_step HB3.out hb); clear ho hb)))
    | ((with_reducible refine gate_dst (N := 55) rfl ?_); go_must (((try (refine gate_guard (by rfl) ?_; dsimp only)); refine goesL_ (some 55) rfl rfl Try.func24 (by kernel_rfl) rfl #[v33, .slice A0 l0.length c0] rfl ?hA ?_; (case hA => ((try simp only [List.map_toArray, List.map_cons, List.map_nil]); first | done | rfl)); refine (same_true _ _ l0 _ (HU.out.below HB3.out) (HR0.out.below (HB.out.trans ((HB2.out.trans (HB3.out.mono HB2.out.size)).mono HB.out.size)))).mono ?_; rintro e w55 ⟨rfl, hb⟩; refine ⟨_, rfl, ?_⟩; replace HB3 := Aside0.mk (below_step HB3.out hb); clear hb)))
    | ((with_reducible refine gate_dst (N := 68) rfl ?_); go_must (((try (refine gate_guard (by rfl) ?_; dsimp only)); refine goesL_ (some 68) rfl rfl Try.func50 (by kernel_rfl) rfl #[.slice Ap (np - 1) cp] rfl ?hA ?_; (case hA => ((try simp only [List.map_toArray, List.map_cons, List.map_nil]); first | done | rfl)); refine (bunpad_calls _ (p.take (np - 1)) _ ((rd_take2 HPN.out HCP.out (Nat.sub_le _ _) hcp).below (HB2.out.trans (HB3.out.mono HB2.out.size))) (HPB.out.take _) HPM2.out).mono ?_; rintro e w68 ⟨v68, rfl, ho, hb⟩; refine ⟨_, rfl, ?_⟩; rw [HL.out]; have HBn := Aside0.mk (HB.out.trans (((below_step HB3.out hb) |> fun h => HB2.out.trans (h.mono HB2.out.size)).mono HB.out.size)); clear ho hb HB; have HB := HBn; clear HBn)))
    | ((with_reducible refine gate_dst (N := 75) rfl ?_); go_must (((try (refine gate_guard (by rfl) ?_; dsimp only)); refine goesL_ (some 75) rfl rfl Try.func50 (by kernel_rfl) rfl #[.slice A1 l1.length c1] rfl ?hA ?_; (case hA => ((try simp only [List.map_toArray, List.map_cons, List.map_nil]); first | done | rfl)); refine (bunpad_calls _ l1 _ (HR1.out.below HB.out) HBL.out (by omega)).mono ?_; rintro e w75 ⟨v75, rfl, ho, hb⟩; refine ⟨_, rfl, ?_⟩; rw [HJ.out]; rw [HJL.out] at ho; have HX := Aside0.mk ho; replace HB := Aside0.mk (below_step (by repeat (first | (with_reducible first | exact HB.out | apply below_alloc | apply pw_below_drewN | apply below_drew1) | exact HB.out)) hb); clear ho hb)))
    | ((with_reducible refine gate_dst (N := 92) rfl ?_); go_must (((try (refine gate_guard (by rfl) ?_; dsimp only)); refine goesL_ (some 92) rfl rfl Try.func21 (by kernel_rfl) rfl #[v75] rfl ?hA ?_; (case hA => ((try simp only [List.map_toArray, List.map_cons, List.map_nil]); first | done | rfl)); refine (bpad_calls _ x _ (by exact HX.out) HXM.out).mono ?_; rintro e w92 ⟨v92, rfl, ho, hb⟩; refine ⟨_, rfl, ?_⟩; rw [HXK.out]; rw [HXL.out] at ho; have HQ := Aside0.mk ho; replace HB := Aside0.mk (below_step (by repeat (first | (with_reducible first | exact HB.out | apply below_alloc | apply pw_below_drewN | apply below_drew1) | exact HB.out)) hb); clear ho hb)))
    | ((with_reducible refine gate_dst (N := 100) rfl ?_); go_must (((try (refine gate_guard (by rfl) ?_; dsimp only)); refine goesL_ (some 100) rfl rfl Try.func24 (by kernel_rfl) rfl #[v92, .slice A1 l1.length c1] rfl ?hA ?_; (case hA => ((try simp only [List.map_toArray, List.map_cons, List.map_nil]); first | done | rfl)); refine (same_true _ _ l1 _ HQ.out.rd (HR1.out.below HB.out)).mono ?_; rintro e w100 ⟨rfl, hb⟩; refine ⟨_, rfl, ?_⟩; replace HB := Aside0.mk (below_step (by repeat (first | (with_reducible first | exact HB.out | apply below_alloc | apply pw_below_drewN | apply below_drew1) | exact HB.out)) hb); clear hb)))
    | ((with_reducible refine gate_dst (N := 103) rfl ?_); go_must (((try (refine gate_guard (by rfl) ?_; dsimp only)); refine goesL_ (some 103) rfl rfl Try.func20 (by kernel_rfl) rfl #[] rfl ?hA ?_; (case hA => ((try simp only [List.map_toArray, List.map_cons, List.map_nil]); first | done | rfl)); refine (alive02_calls _).mono ?_; rintro e w103 ⟨rfl, hb⟩; refine ⟨_, rfl, ?_⟩; replace HB := Aside0.mk (below_step (by repeat (first | (with_reducible first | exact HB.out | apply below_alloc | apply pw_below_drewN | apply below_drew1) | exact HB.out)) hb); clear hb))))
  go_ret
  exact ⟨rfl, HB.out⟩

set_option maxRecDepth 100000 in
set_option maxHeartbeats 4000000 in
theorem bback_oo (v0 v1 : Value) (l0 l1 : List Int) (w : World) (hr0 : Rd w v0 l0) (hr1 : Rd w v1 l1) (hb0 : ∀ x ∈ l0, 0 ≤ x ∧ x ≤ 255) (hb1 : ∀ x ∈ l1, 0 ≤ x ∧ x ≤ 255) (h0 : ¬ l0.length > 2000) (h1 : ¬ l1.length > 2000) (hk : padK l0 = 0) (hu1 : unpS l1 = none) :
    Calls Try.prog 12 #[v0, v1] w fun e w' => e = .returned (.bool true) ∧ Below w.heap.size w w' := by
  have HR0 := Aside0.mk hr0
  have HR1 := Aside0.mk hr1
  have HB1 := Aside0.mk hb1
  have HB0 := Aside0.mk hb0
  obtain ⟨A0, c0, rfl, hc0, hC0⟩ := hr0
  obtain ⟨A1, c1, rfl, hc1, hC1⟩ := hr1
  have HB := Aside0.mk (Below.refl w.heap.size w)
  clear hC0 hc0 hC1 hc1 hb1 hb0
  have HBL : Aside0 (BL l1) := ⟨HB1.out, by omega⟩
  have HK := Aside0.mk hk
  obtain ⟨p, hp⟩ : ∃ p, padL l0 = p := ⟨_, rfl⟩
  obtain ⟨np, hnp⟩ : ∃ np, p.length = np := ⟨_, rfl⟩
  have hm := padL_most hk
  rw [hp, hnp] at hm
  have hu := unpS_pad hk
  have hmore := unpS_more hk
  have hless := unpS_less hk
  rw [hp] at hu hmore hless
  rw [hnp] at hless
  have HU1 : Aside0 (unpK p = 0) := ⟨by unfold unpK; rw [hu]; rfl⟩
  have HU2 : Aside0 (unpL p = l0) := ⟨by unfold unpL; rw [hu]; rfl⟩
  have HM : Aside0 (unpK (p ++ [0]) = 4) := ⟨by unfold unpK; rw [hmore]; rfl⟩
  have HL : Aside0 (unpK (p.take (np - 1)) = 4) := ⟨by unfold unpK; rw [hless]; rfl⟩
  have hpb := padL_BL HB0.out hk
  rw [hp] at hpb
  have HPB : Aside0 (BL p) := ⟨⟨hpb, by omega⟩⟩
  have HPB1 : Aside0 (BL (p ++ [0])) := ⟨⟨fun x hx => by
    rcases List.mem_append.1 hx with h | h
    · exact hpb x h
    · simp at h
      subst h
      decide, by simp; omega⟩⟩
  have HPM : Aside0 (p.length ≤ 2000) := ⟨by omega⟩
  have HPM1 : Aside0 ((p ++ [0]).length ≤ 2000) := ⟨by simp; omega⟩
  have HPM2 : Aside0 ((p.take (np - 1)).length ≤ 2000) := ⟨by rw [List.length_take]; omega⟩
  have HPN := Aside0.mk hnp
  have HPE := Aside0.mk hp
  have hq : ((np : Int) == 0) = false := by simp; omega
  have hq2 : (np : Int) - 1 = ((np - 1 : Nat) : Int) := by omega
  clear hp hnp hu hmore hless hpb hk
  have HJ : Aside0 (unpK l1 = 4) := ⟨by unfold unpK; rw [hu1]; rfl⟩
  have HJL : Aside0 (unpL l1 = []) := ⟨by unfold unpL; rw [hu1]; rfl⟩
  clear hu1
  go_enter Try.func12, Try.ntmps12
  go_wp2_with (first
    | ((with_reducible refine gate_dst (N := 26) rfl ?_); go_must (((try (refine gate_guard (by rfl) ?_; dsimp only)); refine goesL_ (some 26) rfl rfl Try.func21 (by kernel_rfl) rfl #[.slice A0 l0.length c0] rfl ?hA ?_; (case hA => ((try simp only [List.map_toArray, List.map_cons, List.map_nil]); first | done | rfl)); refine (bpad_calls _ l0 _ (HR0.out.below HB.out) (by omega)).mono ?_; rintro e w26 ⟨v26, rfl, ho, hb⟩; refine ⟨_, rfl, ?_⟩; rw [HK.out]; rw [HPE.out] at ho; obtain ⟨Ap, cp, rfl, hcp, hCp⟩ := ho.rd; rw [HPN.out] at hcp hCp ⊢; have HCP := Aside0.mk hCp; have HP : Aside0 (Rd w26 (.slice Ap np cp) p) := ⟨⟨Ap, cp, by rw [HPN.out], by rw [HPN.out]; exact hcp, by rw [HPN.out]; exact hCp⟩⟩; replace HB := Aside0.mk (below_step (by repeat (first | (with_reducible first | exact HB.out | apply below_alloc | apply pw_below_drewN | apply below_drew1) | exact HB.out)) hb); have HB2 := Aside0.mk (Below.refl w26.heap.size w26); clear ho hb hCp)))
    | ((with_reducible refine gate_dst (N := 33) rfl ?_); go_must (((try (refine gate_guard (by rfl) ?_; dsimp only)); refine goesL_ (some 33) rfl rfl Try.func50 (by kernel_rfl) rfl #[.slice Ap np cp] rfl ?hA ?_; (case hA => ((try simp only [List.map_toArray, List.map_cons, List.map_nil]); first | done | rfl)); refine (bunpad_calls _ p _ (HP.out.below HB2.out) HPB.out HPM.out).mono ?_; rintro e w33 ⟨v33, rfl, ho, hb⟩; refine ⟨_, rfl, ?_⟩; rw [HU1.out]; rw [HU2.out] at ho; have HU := Aside0.mk ho; replace HB2 := Aside0.mk (below_step HB2.out hb); have HB3 := Aside0.mk (Below.refl w33.heap.size w33); clear ho hb)))
    | ((with_reducible refine gate_dst (N := 37) rfl ?_); go_must (((try (refine gate_guard (by rfl) ?_; dsimp only)); refine lit_bytes (w0 := w33) (w33).heap.size 37 ?hg ?hd ([]) ?hr ?hm HB3.out HB3.out.size ?_; (case hd => rfl); (case hg => rfl); (case hr => first | (go_simp; done) | (go_simp; rfl)); (case hm => simp); intro vHO37 wHO37 ho hb hbw; have HO37 := Aside0.mk ho; clear HB3; have HB3 := Aside0.mk hb; clear ho hb hbw)))
    | ((with_reducible refine gate_builtin (b := .append) (xs := #[.tmp 37, .tmp 38]) rfl ?_); at_builtin; go_must (((try (refine gate_guard (by rfl) ?_; dsimp only)); refine app_bytes (w0 := w33) (w33).heap.size rfl (.tmp 37) (.tmp 38) 26 rfl Try.underlying26 info5 _ _ ([]) (p) rfl rfl HO37.out ?aR HB3.out HB3.out.size ?aL ?_; (case aR => exact HP.out.below (HB2.out.trans (HB3.out.mono HB2.out.size))); (case aL => (have := HPM.out; simp; omega)); intro vHO39 wHO39 ho hb hg; have HO39 := Aside0.mk ho; clear HB3; have HB3 := Aside0.mk hb; clear ho hb hg)))
    | ((with_reducible refine gate_dst (N := 40) rfl ?_); go_must (((try (refine gate_guard (by rfl) ?_; dsimp only)); refine lit_bytes (w0 := w33) (w33).heap.size 40 ?hg ?hd ([0]) ?hr ?hm HB3.out HB3.out.size ?_; (case hd => rfl); (case hg => rfl); (case hr => first | (go_simp; done) | (go_simp; rfl)); (case hm => simp); intro vHO40 wHO40 ho hb hbw; have HO40 := Aside0.mk ho; replace HO39 := Aside0.mk (HO39.out.below hbw); clear HB3; have HB3 := Aside0.mk hb; clear ho hb hbw)))
    | ((with_reducible refine gate_builtin (b := .append) (xs := #[.tmp 39, .tmp 40]) rfl ?_); at_builtin; go_must (((try (refine gate_guard (by rfl) ?_; dsimp only)); refine app_bytes (w0 := w33) (w33).heap.size rfl (.tmp 39) (.tmp 40) 26 rfl Try.underlying26 info5 _ _ ([] ++ p) ([0]) rfl rfl HO39.out ?aR HB3.out HB3.out.size ?aL ?_; (case aR => exact HO40.out.rd); (case aL => (have := HPM.out; simp; omega)); intro vHO41 wHO41 ho hb hg; have HO41 := Aside0.mk ho; clear HB3; have HB3 := Aside0.mk hb; clear ho hb hg)))
    | ((with_reducible refine gate_dst (N := 42) rfl ?_); go_must (((try (refine gate_guard (by rfl) ?_; dsimp only)); refine goesL_ (some 42) rfl rfl Try.func50 (by kernel_rfl) rfl #[vHO41] rfl ?hA ?_; (case hA => ((try simp only [List.map_toArray, List.map_cons, List.map_nil]); first | done | rfl)); refine (bunpad_calls _ (p ++ [0]) _ (by simpa using HO41.out.rd) HPB1.out HPM1.out).mono ?_; rintro e w42 ⟨v42, rfl, ho, hb⟩; refine ⟨_, rfl, ?_⟩; rw [HM.out]; replace HB3 := Aside0.mk (below_step HB3.out hb); clear ho hb)))
    | ((with_reducible refine gate_dst (N := 55) rfl ?_); go_must (((try (refine gate_guard (by rfl) ?_; dsimp only)); refine goesL_ (some 55) rfl rfl Try.func24 (by kernel_rfl) rfl #[v33, .slice A0 l0.length c0] rfl ?hA ?_; (case hA => ((try simp only [List.map_toArray, List.map_cons, List.map_nil]); first | done | rfl)); refine (same_true _ _ l0 _ (HU.out.below HB3.out) (HR0.out.below (HB.out.trans ((HB2.out.trans (HB3.out.mono HB2.out.size)).mono HB.out.size)))).mono ?_; rintro e w55 ⟨rfl, hb⟩; refine ⟨_, rfl, ?_⟩; replace HB3 := Aside0.mk (below_step HB3.out hb); clear hb)))
    | ((with_reducible refine gate_dst (N := 68) rfl ?_); go_must (((try (refine gate_guard (by rfl) ?_; dsimp only)); refine goesL_ (some 68) rfl rfl Try.func50 (by kernel_rfl) rfl #[.slice Ap (np - 1) cp] rfl ?hA ?_; (case hA => ((try simp only [List.map_toArray, List.map_cons, List.map_nil]); first | done | rfl)); refine (bunpad_calls _ (p.take (np - 1)) _ ((rd_take2 HPN.out HCP.out (Nat.sub_le _ _) hcp).below (HB2.out.trans (HB3.out.mono HB2.out.size))) (HPB.out.take _) HPM2.out).mono ?_; rintro e w68 ⟨v68, rfl, ho, hb⟩; refine ⟨_, rfl, ?_⟩; rw [HL.out]; have HBn := Aside0.mk (HB.out.trans (((below_step HB3.out hb) |> fun h => HB2.out.trans (h.mono HB2.out.size)).mono HB.out.size)); clear ho hb HB; have HB := HBn; clear HBn)))
    | ((with_reducible refine gate_dst (N := 75) rfl ?_); go_must (((try (refine gate_guard (by rfl) ?_; dsimp only)); refine goesL_ (some 75) rfl rfl Try.func50 (by kernel_rfl) rfl #[.slice A1 l1.length c1] rfl ?hA ?_; (case hA => ((try simp only [List.map_toArray, List.map_cons, List.map_nil]); first | done | rfl)); refine (bunpad_calls _ l1 _ (HR1.out.below HB.out) HBL.out (by omega)).mono ?_; rintro e w75 ⟨v75, rfl, ho, hb⟩; refine ⟨_, rfl, ?_⟩; rw [HJ.out]; rw [HJL.out] at ho; obtain ⟨A75, c75, rfl, hc75, hC75⟩ := ho; replace HB := Aside0.mk (below_step (by repeat (first | (with_reducible first | exact HB.out | apply below_alloc | apply pw_below_drewN | apply below_drew1) | exact HB.out)) hb); clear hb hC75)))
    | ((with_reducible refine gate_dst (N := 88) rfl ?_); go_must (((try (refine gate_guard (by rfl) ?_; dsimp only)); refine goesL_ (some 88) rfl rfl Try.func20 (by kernel_rfl) rfl #[] rfl ?hA ?_; (case hA => ((try simp only [List.map_toArray, List.map_cons, List.map_nil]); first | done | rfl)); refine (alive02_calls _).mono ?_; rintro e w88 ⟨rfl, hb⟩; refine ⟨_, rfl, ?_⟩; replace HB := Aside0.mk (below_step (by repeat (first | (with_reducible first | exact HB.out | apply below_alloc | apply pw_below_drewN | apply below_drew1) | exact HB.out)) hb); clear hb))))
  go_ret
  exact ⟨rfl, HB.out⟩

set_option maxRecDepth 100000 in
set_option maxHeartbeats 4000000 in
theorem bback_no (v0 v1 : Value) (l0 l1 : List Int) (w : World) (hr0 : Rd w v0 l0) (hr1 : Rd w v1 l1) (hb0 : ∀ x ∈ l0, 0 ≤ x ∧ x ≤ 255) (hb1 : ∀ x ∈ l1, 0 ≤ x ∧ x ≤ 255) (h0 : ¬ l0.length > 2000) (h1 : ¬ l1.length > 2000) (hk : padK l0 = 3) (hu1 : unpS l1 = none) :
    Calls Try.prog 12 #[v0, v1] w fun e w' => e = .returned (.bool true) ∧ Below w.heap.size w w' := by
  have HR0 := Aside0.mk hr0
  have HR1 := Aside0.mk hr1
  have HB1 := Aside0.mk hb1
  have HB0 := Aside0.mk hb0
  obtain ⟨A0, c0, rfl, hc0, hC0⟩ := hr0
  obtain ⟨A1, c1, rfl, hc1, hC1⟩ := hr1
  have HB := Aside0.mk (Below.refl w.heap.size w)
  clear hC0 hc0 hC1 hc1 hb1 hb0
  have HBL : Aside0 (BL l1) := ⟨HB1.out, by omega⟩
  have HK := Aside0.mk hk
  clear hk
  have HJ : Aside0 (unpK l1 = 4) := ⟨by unfold unpK; rw [hu1]; rfl⟩
  have HJL : Aside0 (unpL l1 = []) := ⟨by unfold unpL; rw [hu1]; rfl⟩
  clear hu1
  go_enter Try.func12, Try.ntmps12
  go_wp2_with (first
    | ((with_reducible refine gate_dst (N := 26) rfl ?_); go_must (((try (refine gate_guard (by rfl) ?_; dsimp only)); refine goesL_ (some 26) rfl rfl Try.func21 (by kernel_rfl) rfl #[.slice A0 l0.length c0] rfl ?hA ?_; (case hA => ((try simp only [List.map_toArray, List.map_cons, List.map_nil]); first | done | rfl)); refine (bpad_calls _ l0 _ (HR0.out.below HB.out) (by omega)).mono ?_; rintro e w26 ⟨v26, rfl, ho, hb⟩; refine ⟨_, rfl, ?_⟩; rw [HK.out]; replace HB := Aside0.mk (below_step (by repeat (first | (with_reducible first | exact HB.out | apply below_alloc | apply pw_below_drewN | apply below_drew1) | exact HB.out)) hb); clear ho hb)))
    | ((with_reducible refine gate_dst (N := 75) rfl ?_); go_must (((try (refine gate_guard (by rfl) ?_; dsimp only)); refine goesL_ (some 75) rfl rfl Try.func50 (by kernel_rfl) rfl #[.slice A1 l1.length c1] rfl ?hA ?_; (case hA => ((try simp only [List.map_toArray, List.map_cons, List.map_nil]); first | done | rfl)); refine (bunpad_calls _ l1 _ (HR1.out.below HB.out) HBL.out (by omega)).mono ?_; rintro e w75 ⟨v75, rfl, ho, hb⟩; refine ⟨_, rfl, ?_⟩; rw [HJ.out]; rw [HJL.out] at ho; obtain ⟨A75, c75, rfl, hc75, hC75⟩ := ho; replace HB := Aside0.mk (below_step (by repeat (first | (with_reducible first | exact HB.out | apply below_alloc | apply pw_below_drewN | apply below_drew1) | exact HB.out)) hb); clear hb hC75)))
    | ((with_reducible refine gate_dst (N := 88) rfl ?_); go_must (((try (refine gate_guard (by rfl) ?_; dsimp only)); refine goesL_ (some 88) rfl rfl Try.func20 (by kernel_rfl) rfl #[] rfl ?hA ?_; (case hA => ((try simp only [List.map_toArray, List.map_cons, List.map_nil]); first | done | rfl)); refine (alive02_calls _).mono ?_; rintro e w88 ⟨rfl, hb⟩; refine ⟨_, rfl, ?_⟩; replace HB := Aside0.mk (below_step (by repeat (first | (with_reducible first | exact HB.out | apply below_alloc | apply pw_below_drewN | apply below_drew1) | exact HB.out)) hb); clear hb))))
  go_ret
  exact ⟨rfl, HB.out⟩

set_option maxRecDepth 100000 in
set_option maxHeartbeats 4000000 in
theorem bback_nn (v0 v1 : Value) (l0 l1 : List Int) (w : World) (hr0 : Rd w v0 l0) (hr1 : Rd w v1 l1) (hb0 : ∀ x ∈ l0, 0 ≤ x ∧ x ≤ 255) (hb1 : ∀ x ∈ l1, 0 ≤ x ∧ x ≤ 255) (h0 : ¬ l0.length > 2000) (h1 : ¬ l1.length > 2000) (x : List Int) (hk : padK l0 = 3) (hu1 : unpS l1 = some x) :
    Calls Try.prog 12 #[v0, v1] w fun e w' => e = .returned (.bool true) ∧ Below w.heap.size w w' := by
  have HR0 := Aside0.mk hr0
  have HR1 := Aside0.mk hr1
  have HB1 := Aside0.mk hb1
  have HB0 := Aside0.mk hb0
  obtain ⟨A0, c0, rfl, hc0, hC0⟩ := hr0
  obtain ⟨A1, c1, rfl, hc1, hC1⟩ := hr1
  have HB := Aside0.mk (Below.refl w.heap.size w)
  clear hC0 hc0 hC1 hc1 hb1 hb0
  have HBL : Aside0 (BL l1) := ⟨HB1.out, by omega⟩
  have HK := Aside0.mk hk
  clear hk
  have HJ : Aside0 (unpK l1 = 0) := ⟨by unfold unpK; rw [hu1]; rfl⟩
  have HJL : Aside0 (unpL l1 = x) := ⟨by unfold unpL; rw [hu1]; rfl⟩
  obtain ⟨hx1, hx2⟩ := unpS_some hu1
  obtain ⟨_, _, _, _, hx3⟩ := padL_bytes hx1
  have HXK := Aside0.mk hx1
  have HXL := Aside0.mk hx2
  have HXM : Aside0 (x.length ≤ 1000000) := ⟨by omega⟩
  clear hu1 hx1 hx2 hx3
  go_enter Try.func12, Try.ntmps12
  go_wp2_with (first
    | ((with_reducible refine gate_dst (N := 26) rfl ?_); go_must (((try (refine gate_guard (by rfl) ?_; dsimp only)); refine goesL_ (some 26) rfl rfl Try.func21 (by kernel_rfl) rfl #[.slice A0 l0.length c0] rfl ?hA ?_; (case hA => ((try simp only [List.map_toArray, List.map_cons, List.map_nil]); first | done | rfl)); refine (bpad_calls _ l0 _ (HR0.out.below HB.out) (by omega)).mono ?_; rintro e w26 ⟨v26, rfl, ho, hb⟩; refine ⟨_, rfl, ?_⟩; rw [HK.out]; replace HB := Aside0.mk (below_step (by repeat (first | (with_reducible first | exact HB.out | apply below_alloc | apply pw_below_drewN | apply below_drew1) | exact HB.out)) hb); clear ho hb)))
    | ((with_reducible refine gate_dst (N := 75) rfl ?_); go_must (((try (refine gate_guard (by rfl) ?_; dsimp only)); refine goesL_ (some 75) rfl rfl Try.func50 (by kernel_rfl) rfl #[.slice A1 l1.length c1] rfl ?hA ?_; (case hA => ((try simp only [List.map_toArray, List.map_cons, List.map_nil]); first | done | rfl)); refine (bunpad_calls _ l1 _ (HR1.out.below HB.out) HBL.out (by omega)).mono ?_; rintro e w75 ⟨v75, rfl, ho, hb⟩; refine ⟨_, rfl, ?_⟩; rw [HJ.out]; rw [HJL.out] at ho; have HX := Aside0.mk ho; replace HB := Aside0.mk (below_step (by repeat (first | (with_reducible first | exact HB.out | apply below_alloc | apply pw_below_drewN | apply below_drew1) | exact HB.out)) hb); clear ho hb)))
    | ((with_reducible refine gate_dst (N := 92) rfl ?_); go_must (((try (refine gate_guard (by rfl) ?_; dsimp only)); refine goesL_ (some 92) rfl rfl Try.func21 (by kernel_rfl) rfl #[v75] rfl ?hA ?_; (case hA => ((try simp only [List.map_toArray, List.map_cons, List.map_nil]); first | done | rfl)); refine (bpad_calls _ x _ (by exact HX.out) HXM.out).mono ?_; rintro e w92 ⟨v92, rfl, ho, hb⟩; refine ⟨_, rfl, ?_⟩; rw [HXK.out]; rw [HXL.out] at ho; have HQ := Aside0.mk ho; replace HB := Aside0.mk (below_step (by repeat (first | (with_reducible first | exact HB.out | apply below_alloc | apply pw_below_drewN | apply below_drew1) | exact HB.out)) hb); clear ho hb)))
    | ((with_reducible refine gate_dst (N := 100) rfl ?_); go_must (((try (refine gate_guard (by rfl) ?_; dsimp only)); refine goesL_ (some 100) rfl rfl Try.func24 (by kernel_rfl) rfl #[v92, .slice A1 l1.length c1] rfl ?hA ?_; (case hA => ((try simp only [List.map_toArray, List.map_cons, List.map_nil]); first | done | rfl)); refine (same_true _ _ l1 _ HQ.out.rd (HR1.out.below HB.out)).mono ?_; rintro e w100 ⟨rfl, hb⟩; refine ⟨_, rfl, ?_⟩; replace HB := Aside0.mk (below_step (by repeat (first | (with_reducible first | exact HB.out | apply below_alloc | apply pw_below_drewN | apply below_drew1) | exact HB.out)) hb); clear hb)))
    | ((with_reducible refine gate_dst (N := 103) rfl ?_); go_must (((try (refine gate_guard (by rfl) ?_; dsimp only)); refine goesL_ (some 103) rfl rfl Try.func20 (by kernel_rfl) rfl #[] rfl ?hA ?_; (case hA => ((try simp only [List.map_toArray, List.map_cons, List.map_nil]); first | done | rfl)); refine (alive02_calls _).mono ?_; rintro e w103 ⟨rfl, hb⟩; refine ⟨_, rfl, ?_⟩; replace HB := Aside0.mk (below_step (by repeat (first | (with_reducible first | exact HB.out | apply below_alloc | apply pw_below_drewN | apply below_drew1) | exact HB.out)) hb); clear hb))))
  go_ret
  exact ⟨rfl, HB.out⟩

set_option maxRecDepth 100000 in
set_option maxHeartbeats 4000000 in
theorem bback_walk (v0 v1 : Value) (l0 l1 : List Int) (w : World) (hr0 : Rd w v0 l0) (hr1 : Rd w v1 l1) (hb0 : ∀ x ∈ l0, 0 ≤ x ∧ x ≤ 255) (hb1 : ∀ x ∈ l1, 0 ≤ x ∧ x ≤ 255) :
    Calls Try.prog 12 #[v0, v1] w fun e w' => e = .returned (.bool true) ∧ Below w.heap.size w w' := by
  have HR0 := Aside0.mk hr0
  have HR1 := Aside0.mk hr1
  have HB1 := Aside0.mk hb1
  have HB0 := Aside0.mk hb0
  obtain ⟨A0, c0, rfl, hc0, hC0⟩ := hr0
  obtain ⟨A1, c1, rfl, hc1, hC1⟩ := hr1
  have HB := Aside0.mk (Below.refl w.heap.size w)
  clear hC0 hc0 hC1 hc1 hb1 hb0
  by_cases h0 : l0.length > 2000
  · go_enter Try.func12, Try.ntmps12
    go_wp2_with (first
      | ((with_reducible refine gate_dst (N := 23) rfl ?_); go_must (((try (refine gate_guard (by rfl) ?_; dsimp only)); refine goesL_ (some 23) rfl rfl Try.func20 (by kernel_rfl) rfl #[] rfl ?hA ?_; (case hA => ((try simp only [List.map_toArray, List.map_cons, List.map_nil]); first | done | rfl)); refine (alive02_calls _).mono ?_; rintro e w23 ⟨rfl, hb⟩; refine ⟨_, rfl, ?_⟩; replace HB := Aside0.mk (below_step (by repeat (first | (with_reducible first | exact HB.out | apply below_alloc | apply pw_below_drewN | apply below_drew1) | exact HB.out)) hb); clear hb))))
    go_ret
    exact ⟨rfl, HB.out⟩
  · by_cases h1 : l1.length > 2000
    · go_enter Try.func12, Try.ntmps12
      go_wp2_with (first
        | ((with_reducible refine gate_dst (N := 23) rfl ?_); go_must (((try (refine gate_guard (by rfl) ?_; dsimp only)); refine goesL_ (some 23) rfl rfl Try.func20 (by kernel_rfl) rfl #[] rfl ?hA ?_; (case hA => ((try simp only [List.map_toArray, List.map_cons, List.map_nil]); first | done | rfl)); refine (alive02_calls _).mono ?_; rintro e w23 ⟨rfl, hb⟩; refine ⟨_, rfl, ?_⟩; replace HB := Aside0.mk (below_step (by repeat (first | (with_reducible first | exact HB.out | apply below_alloc | apply pw_below_drewN | apply below_drew1) | exact HB.out)) hb); clear hb))))
      go_ret
      exact ⟨rfl, HB.out⟩
    · cases hu : unpS l1 with
      | none =>
        rcases padK_two l0 with hk | hk
        · exact bback_oo _ _ l0 l1 w HR0.out HR1.out HB0.out HB1.out h0 h1 hk hu
        · exact bback_no _ _ l0 l1 w HR0.out HR1.out HB0.out HB1.out h0 h1 hk hu
      | some x =>
        rcases padK_two l0 with hk | hk
        · exact bback_on _ _ l0 l1 w HR0.out HR1.out HB0.out HB1.out h0 h1 x hk hu
        · exact bback_nn _ _ l0 l1 w HR0.out HR1.out HB0.out HB1.out h0 h1 x hk hu
end Go.Proofs.Ytnmidmcmbehkbaa.K

/- cachettelaw02.BucketAlike: the walk. -/
import Derived.Test.YtnmidmcmbehkbaaPad
namespace Go.Proofs.Ytnmidmcmbehkbaa.K
open Go.RowKit Go.Proofs.YtnmidmcmbehkbaaW.PrintWords Go.Proofs.YtnmidmcmbehkbaaW.PrintLast Go.Proofs.YtnmidmcmbehkbaaW.PrintMore
set_option linter.unusedVariables false
set_option linter.unusedSimpArgs false

theorem balike_calls (v0 v1 : Value) (l0 l1 : List Int) (w : World) (hr0 : Rd w v0 l0) (hr1 : Rd w v1 l1) :
    Calls Try.prog 22 #[v0, v1] w fun e w' => e = .returned (.bool (classB l0.length == classB l1.length)) ∧ Below w.heap.size w w' := by
  obtain ⟨A0, c0, rfl, hc0, hC0⟩ := hr0
  obtain ⟨A1, c1, rfl, hc1, hC1⟩ := hr1
  have HB := Aside0.mk (Below.refl w.heap.size w)
  clear hC0 hc0 hC1 hc1
  go_enter Try.func22, Try.ntmps22
  go_wp2_with (first
    | ((with_reducible refine gate_dst (N := 7) rfl ?_); go_must (((try (refine gate_guard (by rfl) ?_; dsimp only)); refine goesL_ (some 7) rfl rfl Try.func13 (by kernel_rfl) rfl #[.int .i64 l0.length] rfl ?hA ?_; (case hA => ((try simp only [List.map_toArray, List.map_cons, List.map_nil]); first | done | rfl)); refine (bclass_calls l0.length _).mono ?_; rintro e w7 ⟨rfl, hb⟩; refine ⟨_, rfl, ?_⟩; replace HB := Aside0.mk (below_step (by repeat (first | (with_reducible first | exact HB.out | apply below_alloc | apply pw_below_drewN | apply below_drew1) | exact HB.out)) hb); clear hb)))
    | ((with_reducible refine gate_dst (N := 10) rfl ?_); go_must (((try (refine gate_guard (by rfl) ?_; dsimp only)); refine goesL_ (some 10) rfl rfl Try.func13 (by kernel_rfl) rfl #[.int .i64 l1.length] rfl ?hA ?_; (case hA => ((try simp only [List.map_toArray, List.map_cons, List.map_nil]); first | done | rfl)); refine (bclass_calls l1.length _).mono ?_; rintro e w10 ⟨rfl, hb⟩; refine ⟨_, rfl, ?_⟩; replace HB := Aside0.mk (below_step (by repeat (first | (with_reducible first | exact HB.out | apply below_alloc | apply pw_below_drewN | apply below_drew1) | exact HB.out)) hb); clear hb))))
  go_ret
  exact ⟨rfl, HB.out⟩
theorem sizeB_inj : ∀ a b : Fin 7, sizeB (a.val : Int) = sizeB (b.val : Int) → a = b := by decide
theorem alike_law (b c : List Int) : (classB b.length == classB c.length) = (padK b == padK c && ((padL b).length : Int) == (padL c).length) := by
  by_cases hb : classB b.length < 0
  · by_cases hc : classB c.length < 0
    · have e1 : classB b.length = -1 := by rcases classB_range b.length with h | h <;> omega
      have e2 : classB c.length = -1 := by rcases classB_range c.length with h | h <;> omega
      rw [padL_no hb, padL_no hc, padK_no hb, padK_no hc, e1, e2]
      rfl
    · rw [padK_no hb, padK_ok hc]
      simp
      omega
  · by_cases hc : classB c.length < 0
    · rw [padK_ok hb, padK_no hc]
      simp
      omega
    · rw [padK_ok hb, padK_ok hc, padL_len (by omega), padL_len (by omega)]
      have h1 : classB b.length < 7 := by rcases classB_range b.length with h | h <;> omega
      have h2 : classB c.length < 7 := by rcases classB_range c.length with h | h <;> omega
      have s1 := sizeB_le (classB b.length)
      have s2 := sizeB_le (classB c.length)
      by_cases he : classB b.length = classB c.length
      · rw [he]
        simp
      · have h := mt (sizeB_inj ⟨(classB b.length).toNat, by omega⟩ ⟨(classB c.length).toNat, by omega⟩) (by simp only [Fin.mk.injEq]; omega)
        simp only [Int.toNat_of_nonneg (show 0 ≤ classB b.length by omega), Int.toNat_of_nonneg (show 0 ≤ classB c.length by omega)] at h
        rw [show (classB b.length == classB c.length) = false by simpa using he]
        have hne : ¬ (((sizeB (classB b.length)).toNat : Int) = (sizeB (classB c.length)).toNat) := by omega
        simp only [beq_self_eq_true, Bool.true_and]
        symm
        simpa using hne

set_option maxRecDepth 100000 in
set_option maxHeartbeats 2000000 in
theorem alike_walk (v0 v1 : Value) (l0 l1 : List Int) (w : World) (hr0 : Rd w v0 l0) (hr1 : Rd w v1 l1) :
    Calls Try.prog 5 #[v0, v1] w fun e w' => e = .returned (.bool true) ∧ Below w.heap.size w w' := by
  have HR0 := Aside0.mk hr0
  have HR1 := Aside0.mk hr1
  obtain ⟨A0, c0, rfl, hc0, hC0⟩ := hr0
  obtain ⟨A1, c1, rfl, hc1, hC1⟩ := hr1
  have HB := Aside0.mk (Below.refl w.heap.size w)
  clear hC0 hc0 hC1 hc1
  by_cases h0 : l0.length > 2000
  · go_enter Try.func5, Try.ntmps5
    go_wp2_with (first
      | ((with_reducible refine gate_dst (N := 17) rfl ?_); go_must (((try (refine gate_guard (by rfl) ?_; dsimp only)); refine goesL_ (some 17) rfl rfl Try.func20 (by kernel_rfl) rfl #[] rfl ?hA ?_; (case hA => ((try simp only [List.map_toArray, List.map_cons, List.map_nil]); first | done | rfl)); refine (alive02_calls _).mono ?_; rintro e w17 ⟨rfl, hb⟩; refine ⟨_, rfl, ?_⟩; replace HB := Aside0.mk (below_step (by repeat (first | (with_reducible first | exact HB.out | apply below_alloc | apply pw_below_drewN | apply below_drew1) | exact HB.out)) hb); clear hb))))
    go_ret
    exact ⟨rfl, HB.out⟩
  · by_cases h1 : l1.length > 2000
    · go_enter Try.func5, Try.ntmps5
      go_wp2_with (first
        | ((with_reducible refine gate_dst (N := 17) rfl ?_); go_must (((try (refine gate_guard (by rfl) ?_; dsimp only)); refine goesL_ (some 17) rfl rfl Try.func20 (by kernel_rfl) rfl #[] rfl ?hA ?_; (case hA => ((try simp only [List.map_toArray, List.map_cons, List.map_nil]); first | done | rfl)); refine (alive02_calls _).mono ?_; rintro e w17 ⟨rfl, hb⟩; refine ⟨_, rfl, ?_⟩; replace HB := Aside0.mk (below_step (by repeat (first | (with_reducible first | exact HB.out | apply below_alloc | apply pw_below_drewN | apply below_drew1) | exact HB.out)) hb); clear hb))))
      go_ret
      exact ⟨rfl, HB.out⟩
    · have hal := alike_law l0 l1
      obtain ⟨k0, e0⟩ : ∃ k, padK l0 = k := ⟨_, rfl⟩
      obtain ⟨k1, e1⟩ : ∃ k, padK l1 = k := ⟨_, rfl⟩
      obtain ⟨n0, f0⟩ : ∃ n, (padL l0).length = n := ⟨_, rfl⟩
      obtain ⟨n1, f1⟩ : ∃ n, (padL l1).length = n := ⟨_, rfl⟩
      rw [e0, e1, f0, f1] at hal
      have E0 := Aside0.mk e0
      have E1 := Aside0.mk e1
      have F0 := Aside0.mk f0
      have F1 := Aside0.mk f1
      clear e0 e1 f0 f1
      by_cases hk : k0 = k1
      · subst hk
        by_cases hn : n0 = n1
        · subst hn
          have HAL : Aside0 ((classB l0.length == classB l1.length) = true) := ⟨by rw [hal]; simp⟩
          clear hal
          go_enter Try.func5, Try.ntmps5
          go_wp2_with (first
            | ((with_reducible refine gate_dst (N := 20) rfl ?_); go_must (((try (refine gate_guard (by rfl) ?_; dsimp only)); refine goesL_ (some 20) rfl rfl Try.func21 (by kernel_rfl) rfl #[.slice A0 l0.length c0] rfl ?hA ?_; (case hA => ((try simp only [List.map_toArray, List.map_cons, List.map_nil]); first | done | rfl)); refine (bpad_calls _ l0 _ (HR0.out.below HB.out) (by omega)).mono ?_; rintro e w20 ⟨v20, rfl, ho, hb⟩; refine ⟨_, rfl, ?_⟩; obtain ⟨A5, c5, rfl, hc5, hC5⟩ := ho.rd; rw [E0.out, F0.out]; replace HB := Aside0.mk (below_step (by repeat (first | (with_reducible first | exact HB.out | apply below_alloc | apply pw_below_drewN | apply below_drew1) | exact HB.out)) hb); clear ho hb hc5 hC5)))
            | ((with_reducible refine gate_dst (N := 25) rfl ?_); go_must (((try (refine gate_guard (by rfl) ?_; dsimp only)); refine goesL_ (some 25) rfl rfl Try.func21 (by kernel_rfl) rfl #[.slice A1 l1.length c1] rfl ?hA ?_; (case hA => ((try simp only [List.map_toArray, List.map_cons, List.map_nil]); first | done | rfl)); refine (bpad_calls _ l1 _ (HR1.out.below HB.out) (by omega)).mono ?_; rintro e w25 ⟨v25, rfl, ho, hb⟩; refine ⟨_, rfl, ?_⟩; obtain ⟨A7, c7, rfl, hc7, hC7⟩ := ho.rd; rw [E1.out, F1.out]; replace HB := Aside0.mk (below_step (by repeat (first | (with_reducible first | exact HB.out | apply below_alloc | apply pw_below_drewN | apply below_drew1) | exact HB.out)) hb); clear ho hb hc7 hC7)))
            | ((with_reducible refine gate_dst (N := 30) rfl ?_); go_must (((try (refine gate_guard (by rfl) ?_; dsimp only)); refine goesL_ (some 30) rfl rfl Try.func22 (by kernel_rfl) rfl #[.slice A0 l0.length c0, .slice A1 l1.length c1] rfl ?hA ?_; (case hA => ((try simp only [List.map_toArray, List.map_cons, List.map_nil]); first | done | rfl)); refine (balike_calls _ _ l0 l1 _ (HR0.out.below HB.out) (HR1.out.below HB.out)).mono ?_; rintro e w30 ⟨rfl, hb⟩; refine ⟨_, rfl, ?_⟩; rw [HAL.out]; replace HB := Aside0.mk (below_step (by repeat (first | (with_reducible first | exact HB.out | apply below_alloc | apply pw_below_drewN | apply below_drew1) | exact HB.out)) hb); clear hb)))
            | ((with_reducible refine gate_dst (N := 43) rfl ?_); go_must (((try (refine gate_guard (by rfl) ?_; dsimp only)); refine goesL_ (some 43) rfl rfl Try.func20 (by kernel_rfl) rfl #[] rfl ?hA ?_; (case hA => ((try simp only [List.map_toArray, List.map_cons, List.map_nil]); first | done | rfl)); refine (alive02_calls _).mono ?_; rintro e w43 ⟨rfl, hb⟩; refine ⟨_, rfl, ?_⟩; replace HB := Aside0.mk (below_step (by repeat (first | (with_reducible first | exact HB.out | apply below_alloc | apply pw_below_drewN | apply below_drew1) | exact HB.out)) hb); clear hb))))
          go_ret
          exact ⟨rfl, HB.out⟩
        · have HAL : Aside0 ((classB l0.length == classB l1.length) = false) := ⟨by rw [hal]; simp; omega⟩
          have hn2 : ((n0 : Int) == n1) = false := by simp; omega
          clear hal
          go_enter Try.func5, Try.ntmps5
          go_wp2_with (first
            | ((with_reducible refine gate_dst (N := 20) rfl ?_); go_must (((try (refine gate_guard (by rfl) ?_; dsimp only)); refine goesL_ (some 20) rfl rfl Try.func21 (by kernel_rfl) rfl #[.slice A0 l0.length c0] rfl ?hA ?_; (case hA => ((try simp only [List.map_toArray, List.map_cons, List.map_nil]); first | done | rfl)); refine (bpad_calls _ l0 _ (HR0.out.below HB.out) (by omega)).mono ?_; rintro e w20 ⟨v20, rfl, ho, hb⟩; refine ⟨_, rfl, ?_⟩; obtain ⟨A5, c5, rfl, hc5, hC5⟩ := ho.rd; rw [E0.out, F0.out]; replace HB := Aside0.mk (below_step (by repeat (first | (with_reducible first | exact HB.out | apply below_alloc | apply pw_below_drewN | apply below_drew1) | exact HB.out)) hb); clear ho hb hc5 hC5)))
            | ((with_reducible refine gate_dst (N := 25) rfl ?_); go_must (((try (refine gate_guard (by rfl) ?_; dsimp only)); refine goesL_ (some 25) rfl rfl Try.func21 (by kernel_rfl) rfl #[.slice A1 l1.length c1] rfl ?hA ?_; (case hA => ((try simp only [List.map_toArray, List.map_cons, List.map_nil]); first | done | rfl)); refine (bpad_calls _ l1 _ (HR1.out.below HB.out) (by omega)).mono ?_; rintro e w25 ⟨v25, rfl, ho, hb⟩; refine ⟨_, rfl, ?_⟩; obtain ⟨A7, c7, rfl, hc7, hC7⟩ := ho.rd; rw [E1.out, F1.out]; replace HB := Aside0.mk (below_step (by repeat (first | (with_reducible first | exact HB.out | apply below_alloc | apply pw_below_drewN | apply below_drew1) | exact HB.out)) hb); clear ho hb hc7 hC7)))
            | ((with_reducible refine gate_dst (N := 30) rfl ?_); go_must (((try (refine gate_guard (by rfl) ?_; dsimp only)); refine goesL_ (some 30) rfl rfl Try.func22 (by kernel_rfl) rfl #[.slice A0 l0.length c0, .slice A1 l1.length c1] rfl ?hA ?_; (case hA => ((try simp only [List.map_toArray, List.map_cons, List.map_nil]); first | done | rfl)); refine (balike_calls _ _ l0 l1 _ (HR0.out.below HB.out) (HR1.out.below HB.out)).mono ?_; rintro e w30 ⟨rfl, hb⟩; refine ⟨_, rfl, ?_⟩; rw [HAL.out]; replace HB := Aside0.mk (below_step (by repeat (first | (with_reducible first | exact HB.out | apply below_alloc | apply pw_below_drewN | apply below_drew1) | exact HB.out)) hb); clear hb)))
            | ((with_reducible refine gate_dst (N := 43) rfl ?_); go_must (((try (refine gate_guard (by rfl) ?_; dsimp only)); refine goesL_ (some 43) rfl rfl Try.func20 (by kernel_rfl) rfl #[] rfl ?hA ?_; (case hA => ((try simp only [List.map_toArray, List.map_cons, List.map_nil]); first | done | rfl)); refine (alive02_calls _).mono ?_; rintro e w43 ⟨rfl, hb⟩; refine ⟨_, rfl, ?_⟩; replace HB := Aside0.mk (below_step (by repeat (first | (with_reducible first | exact HB.out | apply below_alloc | apply pw_below_drewN | apply below_drew1) | exact HB.out)) hb); clear hb))))
          go_ret
          exact ⟨rfl, HB.out⟩
      · have HAL : Aside0 ((classB l0.length == classB l1.length) = false) := ⟨by rw [hal]; simp [hk]⟩
        have hk2 : (k0 == k1) = false := by simpa using hk
        clear hal
        go_enter Try.func5, Try.ntmps5
        go_wp2_with (first
          | ((with_reducible refine gate_dst (N := 20) rfl ?_); go_must (((try (refine gate_guard (by rfl) ?_; dsimp only)); refine goesL_ (some 20) rfl rfl Try.func21 (by kernel_rfl) rfl #[.slice A0 l0.length c0] rfl ?hA ?_; (case hA => ((try simp only [List.map_toArray, List.map_cons, List.map_nil]); first | done | rfl)); refine (bpad_calls _ l0 _ (HR0.out.below HB.out) (by omega)).mono ?_; rintro e w20 ⟨v20, rfl, ho, hb⟩; refine ⟨_, rfl, ?_⟩; obtain ⟨A5, c5, rfl, hc5, hC5⟩ := ho.rd; rw [E0.out, F0.out]; replace HB := Aside0.mk (below_step (by repeat (first | (with_reducible first | exact HB.out | apply below_alloc | apply pw_below_drewN | apply below_drew1) | exact HB.out)) hb); clear ho hb hc5 hC5)))
          | ((with_reducible refine gate_dst (N := 25) rfl ?_); go_must (((try (refine gate_guard (by rfl) ?_; dsimp only)); refine goesL_ (some 25) rfl rfl Try.func21 (by kernel_rfl) rfl #[.slice A1 l1.length c1] rfl ?hA ?_; (case hA => ((try simp only [List.map_toArray, List.map_cons, List.map_nil]); first | done | rfl)); refine (bpad_calls _ l1 _ (HR1.out.below HB.out) (by omega)).mono ?_; rintro e w25 ⟨v25, rfl, ho, hb⟩; refine ⟨_, rfl, ?_⟩; obtain ⟨A7, c7, rfl, hc7, hC7⟩ := ho.rd; rw [E1.out, F1.out]; replace HB := Aside0.mk (below_step (by repeat (first | (with_reducible first | exact HB.out | apply below_alloc | apply pw_below_drewN | apply below_drew1) | exact HB.out)) hb); clear ho hb hc7 hC7)))
          | ((with_reducible refine gate_dst (N := 30) rfl ?_); go_must (((try (refine gate_guard (by rfl) ?_; dsimp only)); refine goesL_ (some 30) rfl rfl Try.func22 (by kernel_rfl) rfl #[.slice A0 l0.length c0, .slice A1 l1.length c1] rfl ?hA ?_; (case hA => ((try simp only [List.map_toArray, List.map_cons, List.map_nil]); first | done | rfl)); refine (balike_calls _ _ l0 l1 _ (HR0.out.below HB.out) (HR1.out.below HB.out)).mono ?_; rintro e w30 ⟨rfl, hb⟩; refine ⟨_, rfl, ?_⟩; rw [HAL.out]; replace HB := Aside0.mk (below_step (by repeat (first | (with_reducible first | exact HB.out | apply below_alloc | apply pw_below_drewN | apply below_drew1) | exact HB.out)) hb); clear hb)))
          | ((with_reducible refine gate_dst (N := 43) rfl ?_); go_must (((try (refine gate_guard (by rfl) ?_; dsimp only)); refine goesL_ (some 43) rfl rfl Try.func20 (by kernel_rfl) rfl #[] rfl ?hA ?_; (case hA => ((try simp only [List.map_toArray, List.map_cons, List.map_nil]); first | done | rfl)); refine (alive02_calls _).mono ?_; rintro e w43 ⟨rfl, hb⟩; refine ⟨_, rfl, ?_⟩; replace HB := Aside0.mk (below_step (by repeat (first | (with_reducible first | exact HB.out | apply below_alloc | apply pw_below_drewN | apply below_drew1) | exact HB.out)) hb); clear hb))))
        go_ret
        exact ⟨rfl, HB.out⟩
end Go.Proofs.Ytnmidmcmbehkbaa.K

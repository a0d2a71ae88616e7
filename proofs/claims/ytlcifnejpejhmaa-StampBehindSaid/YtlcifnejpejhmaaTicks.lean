/- cachettelaw04.StampTicks: the walk. -/
import Derived.Test.YtlcifnejpejhmaaStamp
namespace Go.Proofs.Ytlcifnejpejhmaa.K
open Go.RowKit Go.Proofs.YtlcifnejpejhmaaW.PrintWords Go.Proofs.YtlcifnejpejhmaaW.PrintLast Go.Proofs.YtlcifnejpejhmaaW.PrintMore
set_option linter.unusedVariables false
set_option linter.unusedSimpArgs false

/-- What a slice of stamps that came in tells, element by element. -/
def Sts (w : World) (A : Option Addr) (n : Nat) : Prop := ∀ i, i < n → ∃ ad t a, A = some ad ∧ w.cell? (ad.add (i * 2)) = some (.int .i64 t) ∧ w.cell? ⟨(ad.add (i * 2)).block, (ad.add (i * 2)).off + 1, none⟩ = some (.int .i64 a)

theorem seeS_eq (n t : Int) : seeS n t = if n < t then t else n := by
  unfold seeS
  split <;> omega

attribute [local go_sem high] X.eqA23
attribute [local go_sem] max2_int min2_int max_two min_two
set_option maxRecDepth 100000 in
set_option maxHeartbeats 8000000 in
theorem ticks_walk (m : Int) (A1 : Option Addr) (n c1 : Nat) (w : World) (hs0 : Sts w A1 n) :
    Calls Try.prog 4 #[.int .i64 m, .slice A1 n c1] w fun e w' => e = .returned (.bool true) ∧ Below w.heap.size w w' := by
  have HB := Aside0.mk (Below.refl w.heap.size w)
  have HS := Aside0.mk hs0
  clear hs0
  by_cases h0 : n > 200
  · go_enter Try.func4, Try.ntmps4
    go_wp2_with (first
      | ((with_reducible refine gate_dst (N := 18) rfl ?_); go_must (((try (refine gate_guard (by rfl) ?_; dsimp only)); refine goesL_ (some 18) rfl rfl Try.func15 (by kernel_rfl) rfl #[] rfl ?hA ?_; (case hA => ((try simp only [List.map_toArray, List.map_cons, List.map_nil]); first | done | rfl)); refine (alive04_calls _).mono ?_; rintro e w18 ⟨rfl, hb⟩; refine ⟨_, rfl, ?_⟩; replace HB := Aside0.mk (below_step (by repeat (first | (with_reducible first | exact HB.out | apply below_alloc | apply pw_below_drewN | apply below_drew1) | exact HB.out)) hb); clear hb))))
    go_ret
    exact ⟨rfl, HB.out⟩
  · have hn : n ≤ 200 := by omega
    clear h0
    by_cases hm : 0 ≤ m ∧ m < 8
    · obtain ⟨hm0, hm1⟩ := hm
      go_enter Try.func4, Try.ntmps4
      go_wp2_with (first
        | ((with_reducible refine gate_dst (N := 21) rfl ?_); go_must (((try (refine gate_guard (by rfl) ?_; dsimp only)); refine goesL_ (some 21) rfl rfl Try.func16 (by kernel_rfl) rfl #[.int .i64 m] rfl ?hA ?_; (case hA => ((try simp only [List.map_toArray, List.map_cons, List.map_nil]); first | done | rfl)); refine (new_ok m _ ⟨hm0, hm1⟩).mono ?_; rintro e w21 ⟨g, rfl, hc, hg, hb⟩; refine ⟨_, rfl, ?_⟩; have HC := Aside0.mk hc; have HG := Aside0.mk (Nat.le_trans HB.out.size hg); replace HB := Aside0.mk (below_step (by repeat (first | (with_reducible first | exact HB.out | apply below_alloc | apply pw_below_drewN | apply below_drew1) | exact HB.out)) hb); clear hc hg hb))))
      go_loopw [7, 8] (fun v7 v8 wr => ∃ (i : Nat) (now : Int), v7 = .int .i64 now ∧ v8 = .int .i64 i ∧ i ≤ n ∧ 0 ≤ now ∧ now ≤ 1099511627776 ∧ Aside0 (Clk wr g m now) ∧ Aside0 (Below w.heap.size w wr)) (fun _ v8 _ => n - (intOf v8).toNat)
      case atStart => exact ⟨0, 0, rfl, rfl, by omega, by omega, by omega, HC, HB⟩
      case round =>
        clear HC HB
        obtain ⟨i, now, rfl, rfl, hi, hnow0, hnow1, HC, HB⟩ := hrel
        by_cases hlt : i < n
        · obtain ⟨ad, t, a, rfl, hx0, hx1⟩ := HS.out i hlt
          have HX0 := Aside0.mk hx0
          have HX1 := Aside0.mk hx1
          clear hx0 hx1
          have hx0 := pw_cell_below HB.out HX0.out
          have hx1 := pw_cell_below HB.out HX1.out
          by_cases ha : a = -1
          · subst ha
            by_cases hf : now = 1099511627776
            · subst hf
              go_wp2_with (first
                | ((with_reducible refine gate_dst (N := 54) rfl ?_); go_must (((try (refine gate_guard (by rfl) ?_; dsimp only)); refine goesL_ (some 54) rfl rfl Try.func18 (by kernel_rfl) rfl #[.pointer (some ⟨g, 0, none⟩)] rfl ?hA ?_; (case hA => ((try simp only [List.map_toArray, List.map_cons, List.map_nil]); first | done | rfl)); refine (tick_full g m _ _ HC.out (by decide)).mono ?_; rintro e w54 ⟨rfl, hb⟩; refine ⟨_, rfl, ?_⟩; replace HC := Aside0.mk (HC.out.below hb); replace HB := Aside0.mk (below_step (by repeat (first | (with_reducible first | exact HB.out | apply below_alloc | apply pw_below_drewN | apply below_drew1) | exact HB.out)) hb); clear hb))))
              go_roundw
              case rel => exact ⟨i + 1, _, rfl, by go_num, by omega, by omega, by omega, ⟨(by (with_reducible repeat (first | exact HC.out | apply Clk.alloc | apply Clk.drewN | apply Clk.drew)))⟩, ⟨(by repeat (first | (with_reducible first | exact HB.out | apply below_alloc | apply pw_below_drewN | apply below_drew1) | exact HB.out))⟩⟩
              case measure => simp [intOf]; omega
            · have hlt2 : now < 1099511627776 := by omega
              have hne : (now == 1099511627776) = false := by simpa using hf
              clear hf
              go_wp2_with (first
                | ((with_reducible refine gate_dst (N := 54) rfl ?_); go_must (((try (refine gate_guard (by rfl) ?_; dsimp only)); refine goesL_ (some 54) rfl rfl Try.func18 (by kernel_rfl) rfl #[.pointer (some ⟨g, 0, none⟩)] rfl ?hA ?_; (case hA => ((try simp only [List.map_toArray, List.map_cons, List.map_nil]); first | done | rfl)); refine (tick_ok g m now _ HC.out hnow0 hlt2).mono ?_; rintro e w54 ⟨rfl, hc, hk, hb⟩; refine ⟨_, rfl, ?_⟩; replace HC := Aside0.mk hc; replace HB := Aside0.mk (hb w HG.out HB.out); clear hc hk hb))))
              go_roundw
              case rel => exact ⟨i + 1, now + 1, rfl, by go_num, by omega, by omega, by omega, ⟨(by (with_reducible repeat (first | exact HC.out | apply Clk.alloc | apply Clk.drewN | apply Clk.drew)))⟩, ⟨(by repeat (first | (with_reducible first | exact HB.out | apply below_alloc | apply pw_below_drewN | apply below_drew1) | exact HB.out))⟩⟩
              case measure => simp [intOf]; omega
          · have hne : (a == -1) = false := by simpa using ha
            clear ha
            cases hr : rightS t a
            · have HRR := Aside0.mk hr
              clear hr
              go_wp2_with (first
                | ((with_reducible refine gate_dst (N := 82) rfl ?_); go_must (((try (refine gate_guard (by rfl) ?_; dsimp only)); refine goesL_ (some 82) rfl rfl Try.func19 (by kernel_rfl) rfl #[.pointer (some ⟨g, 0, none⟩), .agg #[.int .i64 t, .int .i64 a]] rfl ?hA ?_; (case hA => ((try simp only [List.map_toArray, List.map_cons, List.map_nil]); first | done | rfl)); refine (see_calls g m now t a _ HC.out).mono ?_; rintro e w82 ⟨rfl, hc, hk, hb⟩; refine ⟨_, rfl, ?_⟩; rw [HRR.out]; rw [HRR.out] at hc; replace HC := Aside0.mk hc; replace HB := Aside0.mk (hb w HG.out HB.out); clear hc hk hb; have hx0 := pw_cell_below HB.out HX0.out; have hx1 := pw_cell_below HB.out HX1.out)))
                | ((with_reducible refine gate_dst (N := 89) rfl ?_); go_must (((try (refine gate_guard (by rfl) ?_; dsimp only)); refine goesL_ (some 89) rfl rfl Try.func20 (by kernel_rfl) rfl #[.agg #[.int .i64 t, .int .i64 a]] rfl ?hA ?_; (case hA => ((try simp only [List.map_toArray, List.map_cons, List.map_nil]); first | done | rfl)); refine (fright_calls t a _).mono ?_; rintro e w89 ⟨rfl, hb⟩; refine ⟨_, rfl, ?_⟩; rw [HRR.out]; replace HC := Aside0.mk (HC.out.below hb); replace HB := Aside0.mk (below_step (by repeat (first | (with_reducible first | exact HB.out | apply below_alloc | apply pw_below_drewN | apply below_drew1) | exact HB.out)) hb); clear hb; have hx0 := pw_cell_below HB.out HX0.out; have hx1 := pw_cell_below HB.out HX1.out)))
                | ((with_reducible refine gate_dst (N := 109) rfl ?_); go_must (((try (refine gate_guard (by rfl) ?_; dsimp only)); refine goesL_ (some 109) rfl rfl Try.func17 (by kernel_rfl) rfl #[.pointer (some ⟨g, 0, none⟩)] rfl ?hA ?_; (case hA => ((try simp only [List.map_toArray, List.map_cons, List.map_nil]); first | done | rfl)); refine (now_calls g m _ _ HC.out).mono ?_; rintro e w109 ⟨rfl, hd⟩; refine ⟨_, rfl, ?_⟩; replace HC := Aside0.mk (HC.out.below hd.below); replace HB := Aside0.mk (below_step HB.out hd.below); clear hd))))
              go_roundw
              case rel => exact ⟨i + 1, now, rfl, by go_num, by omega, by omega, by omega, HC, HB⟩
              case measure => simp [intOf]; omega
            · have HRR := Aside0.mk hr
              have ht : 1 ≤ t ∧ t ≤ 1099511627776 ∧ 0 ≤ a ∧ a < 8 := by simpa [rightS] using hr
              obtain ⟨ht1, ht2, _, _⟩ := ht
              clear hr
              go_wp2_with (first
                | ((with_reducible refine gate_dst (N := 82) rfl ?_); go_must (((try (refine gate_guard (by rfl) ?_; dsimp only)); refine goesL_ (some 82) rfl rfl Try.func19 (by kernel_rfl) rfl #[.pointer (some ⟨g, 0, none⟩), .agg #[.int .i64 t, .int .i64 a]] rfl ?hA ?_; (case hA => ((try simp only [List.map_toArray, List.map_cons, List.map_nil]); first | done | rfl)); refine (see_calls g m now t a _ HC.out).mono ?_; rintro e w82 ⟨rfl, hc, hk, hb⟩; refine ⟨_, rfl, ?_⟩; rw [HRR.out]; rw [HRR.out] at hc; replace HC := Aside0.mk hc; replace HB := Aside0.mk (hb w HG.out HB.out); clear hc hk hb; have hx0 := pw_cell_below HB.out HX0.out; have hx1 := pw_cell_below HB.out HX1.out)))
                | ((with_reducible refine gate_dst (N := 89) rfl ?_); go_must (((try (refine gate_guard (by rfl) ?_; dsimp only)); refine goesL_ (some 89) rfl rfl Try.func20 (by kernel_rfl) rfl #[.agg #[.int .i64 t, .int .i64 a]] rfl ?hA ?_; (case hA => ((try simp only [List.map_toArray, List.map_cons, List.map_nil]); first | done | rfl)); refine (fright_calls t a _).mono ?_; rintro e w89 ⟨rfl, hb⟩; refine ⟨_, rfl, ?_⟩; rw [HRR.out]; replace HC := Aside0.mk (HC.out.below hb); replace HB := Aside0.mk (below_step (by repeat (first | (with_reducible first | exact HB.out | apply below_alloc | apply pw_below_drewN | apply below_drew1) | exact HB.out)) hb); clear hb; have hx0 := pw_cell_below HB.out HX0.out; have hx1 := pw_cell_below HB.out HX1.out)))
                | ((with_reducible refine gate_dst (N := 109) rfl ?_); go_must (((try (refine gate_guard (by rfl) ?_; dsimp only)); refine goesL_ (some 109) rfl rfl Try.func17 (by kernel_rfl) rfl #[.pointer (some ⟨g, 0, none⟩)] rfl ?hA ?_; (case hA => ((try simp only [List.map_toArray, List.map_cons, List.map_nil]); first | done | rfl)); refine (now_calls g m _ _ HC.out).mono ?_; rintro e w109 ⟨rfl, hd⟩; refine ⟨_, rfl, ?_⟩; rw [seeS_eq]; rw [seeS_eq] at HC; replace HC := Aside0.mk (HC.out.below hd.below); replace HB := Aside0.mk (below_step HB.out hd.below); clear hd))))
              go_roundw
              case rel => exact ⟨i + 1, _, rfl, by go_num, by omega, by split <;> omega, by split <;> omega, HC, HB⟩
              case measure => simp [intOf]; omega
        · go_wp2_with (first
            | ((with_reducible refine gate_dst (N := 114) rfl ?_); go_must (((try (refine gate_guard (by rfl) ?_; dsimp only)); refine goesL_ (some 114) rfl rfl Try.func18 (by kernel_rfl) rfl #[.pointer none] rfl ?hA ?_; (case hA => ((try simp only [List.map_toArray, List.map_cons, List.map_nil]); first | done | rfl)); refine (tick_nil _).mono ?_; rintro e w114 ⟨rfl, hb⟩; refine ⟨_, rfl, ?_⟩; replace HB := Aside0.mk (below_step (by repeat (first | (with_reducible first | exact HB.out | apply below_alloc | apply pw_below_drewN | apply below_drew1) | exact HB.out)) hb); clear hb)))
            | ((with_reducible refine gate_dst (N := 126) rfl ?_); go_must (((try (refine gate_guard (by rfl) ?_; dsimp only)); refine goesL_ (some 126) rfl rfl Try.func19 (by kernel_rfl) rfl #[.pointer none, .agg #[.int .i64 0, .int .i64 0]] rfl ?hA ?_; (case hA => ((try simp only [List.map_toArray, List.map_cons, List.map_nil]); first | done | rfl)); refine (see_nil 0 0 _).mono ?_; rintro e w126 ⟨rfl, hb⟩; refine ⟨_, rfl, ?_⟩; replace HB := Aside0.mk (below_step (by repeat (first | (with_reducible first | exact HB.out | apply below_alloc | apply pw_below_drewN | apply below_drew1) | exact HB.out)) hb); clear hb)))
            | ((with_reducible refine gate_dst (N := 131) rfl ?_); go_must (((try (refine gate_guard (by rfl) ?_; dsimp only)); refine goesL_ (some 131) rfl rfl Try.func17 (by kernel_rfl) rfl #[.pointer none] rfl ?hA ?_; (case hA => ((try simp only [List.map_toArray, List.map_cons, List.map_nil]); first | done | rfl)); refine (now_nil _).mono ?_; rintro e w131 ⟨rfl, hd⟩; refine ⟨_, rfl, ?_⟩; have hb := hd.below; replace HB := Aside0.mk (below_step (by repeat (first | (with_reducible first | exact HB.out | apply below_alloc | apply pw_below_drewN | apply below_drew1) | exact HB.out)) hb); clear hd hb)))
            | ((with_reducible refine gate_dst (N := 135) rfl ?_); go_must (((try (refine gate_guard (by rfl) ?_; dsimp only)); refine goesL_ (some 135) rfl rfl Try.func15 (by kernel_rfl) rfl #[] rfl ?hA ?_; (case hA => ((try simp only [List.map_toArray, List.map_cons, List.map_nil]); first | done | rfl)); refine (alive04_calls _).mono ?_; rintro e w135 ⟨rfl, hb⟩; refine ⟨_, rfl, ?_⟩; replace HB := Aside0.mk (below_step (by repeat (first | (with_reducible first | exact HB.out | apply below_alloc | apply pw_below_drewN | apply below_drew1) | exact HB.out)) hb); clear hb))))
          go_ret
          exact ⟨rfl, HB.out⟩
    · have HM := Aside0.mk hm
      by_cases hm0 : m < 0
      all_goals
        try (have hm8 : 8 ≤ m := by omega)
        clear hm
        go_enter Try.func4, Try.ntmps4
        go_wp2_with (first
          | ((with_reducible refine gate_dst (N := 21) rfl ?_); go_must (((try (refine gate_guard (by rfl) ?_; dsimp only)); refine goesL_ (some 21) rfl rfl Try.func16 (by kernel_rfl) rfl #[.int .i64 m] rfl ?hA ?_; (case hA => ((try simp only [List.map_toArray, List.map_cons, List.map_nil]); first | done | rfl)); refine (new_bad m _ HM.out).mono ?_; rintro e w21 ⟨rfl, hb⟩; refine ⟨_, rfl, ?_⟩; replace HB := Aside0.mk (below_step (by repeat (first | (with_reducible first | exact HB.out | apply below_alloc | apply pw_below_drewN | apply below_drew1) | exact HB.out)) hb); clear hb)))
          | ((with_reducible refine gate_dst (N := 34) rfl ?_); go_must (((try (refine gate_guard (by rfl) ?_; dsimp only)); refine goesL_ (some 34) rfl rfl Try.func17 (by kernel_rfl) rfl #[.pointer none] rfl ?hA ?_; (case hA => ((try simp only [List.map_toArray, List.map_cons, List.map_nil]); first | done | rfl)); refine (now_nil _).mono ?_; rintro e w34 ⟨rfl, hd⟩; refine ⟨_, rfl, ?_⟩; have hb := hd.below; replace HB := Aside0.mk (below_step (by repeat (first | (with_reducible first | exact HB.out | apply below_alloc | apply pw_below_drewN | apply below_drew1) | exact HB.out)) hb); clear hd hb)))
          | ((with_reducible refine gate_dst (N := 38) rfl ?_); go_must (((try (refine gate_guard (by rfl) ?_; dsimp only)); refine goesL_ (some 38) rfl rfl Try.func15 (by kernel_rfl) rfl #[] rfl ?hA ?_; (case hA => ((try simp only [List.map_toArray, List.map_cons, List.map_nil]); first | done | rfl)); refine (alive04_calls _).mono ?_; rintro e w38 ⟨rfl, hb⟩; refine ⟨_, rfl, ?_⟩; replace HB := Aside0.mk (below_step (by repeat (first | (with_reducible first | exact HB.out | apply below_alloc | apply pw_below_drewN | apply below_drew1) | exact HB.out)) hb); clear hb))))
        go_ret
        exact ⟨rfl, HB.out⟩
end Go.Proofs.Ytlcifnejpejhmaa.K

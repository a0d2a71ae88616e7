/- cachettelaw04.StampBehind: the walk. -/
import Derived.Test.YtlcifnejpejhmaaTicks
namespace Go.Proofs.Ytlcifnejpejhmaa.K
open Go.RowKit Go.Proofs.YtlcifnejpejhmaaW.PrintWords Go.Proofs.YtlcifnejpejhmaaW.PrintLast Go.Proofs.YtlcifnejpejhmaaW.PrintMore
set_option linter.unusedVariables false
set_option linter.unusedSimpArgs false

theorem infoSt : (Try.prog.info? 23).map (fun i => (i.zero, i.size, i.bytes)) = some (some (.agg #[.int .i64 0, .int .i64 0]), 2, 16) := by kernel_rfl
abbrev St := X.S23
/-- The seen ones: a row of the call's own, and not the clock. -/
abbrev Sn (W w : World) (g : Nat) (v : Value) (xs : List St) : Prop := Kd.R X.k23 23 W w.heap.size (fun k => k ≠ g) v xs
theorem lessS_lt {a b c d : Int} (h : a < c) : lessS a b c d = true := by
  unfold lessS cmpS
  rw [if_pos h]
  rfl

attribute [local go_sem] max2_int min2_int max_two min_two
set_option maxRecDepth 100000 in
set_option maxHeartbeats 16000000 in
theorem behind_walk (m : Int) (A1 : Option Addr) (n c1 : Nat) (w : World) (hs0 : Sts w A1 n) :
    Calls Try.prog 5 #[.int .i64 m, .slice A1 n c1] w fun e w' => e = .returned (.bool true) ∧ Below w.heap.size w w' := by
  have HB := Aside0.mk (Below.refl w.heap.size w)
  have HS := Aside0.mk hs0
  clear hs0
  by_cases hm0 : m < 0
  · go_enter Try.func5, Try.ntmps5
    go_wp2_with (first
      | ((with_reducible refine gate_dst (N := 23) rfl ?_); go_must (((try (refine gate_guard (by rfl) ?_; dsimp only)); refine goesL_ (some 23) rfl rfl Try.func15 (by kernel_rfl) rfl #[] rfl ?hA ?_; (case hA => ((try simp only [List.map_toArray, List.map_cons, List.map_nil]); first | done | rfl)); refine (alive04_calls _).mono ?_; rintro e w23 ⟨rfl, hb⟩; refine ⟨_, rfl, ?_⟩; replace HB := Aside0.mk (below_step (by repeat (first | (with_reducible first | exact HB.out | apply below_alloc | apply pw_below_drewN | apply below_drew1) | exact HB.out)) hb); clear hb))))
    go_ret
    exact ⟨rfl, HB.out⟩
  · by_cases hm1 : 8 ≤ m
    · go_enter Try.func5, Try.ntmps5
      go_wp2_with (first
        | ((with_reducible refine gate_dst (N := 23) rfl ?_); go_must (((try (refine gate_guard (by rfl) ?_; dsimp only)); refine goesL_ (some 23) rfl rfl Try.func15 (by kernel_rfl) rfl #[] rfl ?hA ?_; (case hA => ((try simp only [List.map_toArray, List.map_cons, List.map_nil]); first | done | rfl)); refine (alive04_calls _).mono ?_; rintro e w23 ⟨rfl, hb⟩; refine ⟨_, rfl, ?_⟩; replace HB := Aside0.mk (below_step (by repeat (first | (with_reducible first | exact HB.out | apply below_alloc | apply pw_below_drewN | apply below_drew1) | exact HB.out)) hb); clear hb))))
      go_ret
      exact ⟨rfl, HB.out⟩
    · by_cases h0 : n > 200
      · go_enter Try.func5, Try.ntmps5
        go_wp2_with (first
          | ((with_reducible refine gate_dst (N := 23) rfl ?_); go_must (((try (refine gate_guard (by rfl) ?_; dsimp only)); refine goesL_ (some 23) rfl rfl Try.func15 (by kernel_rfl) rfl #[] rfl ?hA ?_; (case hA => ((try simp only [List.map_toArray, List.map_cons, List.map_nil]); first | done | rfl)); refine (alive04_calls _).mono ?_; rintro e w23 ⟨rfl, hb⟩; refine ⟨_, rfl, ?_⟩; replace HB := Aside0.mk (below_step (by repeat (first | (with_reducible first | exact HB.out | apply below_alloc | apply pw_below_drewN | apply below_drew1) | exact HB.out)) hb); clear hb))))
        go_ret
        exact ⟨rfl, HB.out⟩
      · have hn : n ≤ 200 := by omega
        clear h0
        go_enter Try.func5, Try.ntmps5
        go_wp2_with (first
          | ((with_reducible refine gate_dst (N := 26) rfl ?_); go_must (((try (refine gate_guard (by rfl) ?_; dsimp only)); refine goesL_ (some 26) rfl rfl Try.func16 (by kernel_rfl) rfl #[.int .i64 m] rfl ?hA ?_; (case hA => ((try simp only [List.map_toArray, List.map_cons, List.map_nil]); first | done | rfl)); refine (new_ok m _ ⟨by omega, by omega⟩).mono ?_; rintro e w26 ⟨g, rfl, hc, hg, hb⟩; refine ⟨_, rfl, ?_⟩; have HC := Aside0.mk hc; have HG := Aside0.mk (Nat.le_trans HB.out.size hg); replace HB := Aside0.mk (below_step (by repeat (first | (with_reducible first | exact HB.out | apply below_alloc | apply pw_below_drewN | apply below_drew1) | exact HB.out)) hb); clear hc hg hb))))
        go_loopg [7, 8] n (fun g7 v7 v8 wr => ∃ (i : Nat) (now : Int) (xs : List St), g7 = n - i ∧ v8 = .int .i64 i ∧ i ≤ n ∧ 0 ≤ now ∧ now ≤ 1099511627776 ∧ xs.length ≤ 2 * i ∧ Aside0 (∀ x ∈ xs, x.f0 ≤ now) ∧ Aside0 (Clk wr g m now) ∧ Aside0 (Sn wr w g v7 xs) ∧ Aside0 (Below w.heap.size w wr))
        case atStart => exact ⟨0, 0, [], rfl, rfl, by omega, by omega, by omega, by simp, ⟨by simp⟩, HC, ⟨Kd.R_nil _ _ _ _ _⟩, HB⟩
        case round =>
          clear HC HB
          obtain ⟨i, now, xs, rfl, rfl, hi, hnow0, hnow1, hxl, HXS, HC, HX, HB⟩ := hrel
          obtain ⟨A7, c7, rfl, hc7, hC7⟩ := Kd.R_reads HX.out
          clear hC7
          by_cases hlt : i < n
          · obtain ⟨ad, t, a, rfl, hx0, hx1⟩ := HS.out i hlt
            have HX0 := Aside0.mk hx0
            have HX1 := Aside0.mk hx1
            clear hx0 hx1
            have hx0 := pw_cell_below HB.out HX0.out
            have hx1 := pw_cell_below HB.out HX1.out
            obtain ⟨N, hN⟩ : ∃ N, (if rightS t a = true then seeS now t else now) = N := ⟨_, rfl⟩
            have HN := Aside0.mk hN
            have hN' : 0 ≤ N ∧ N ≤ 1099511627776 ∧ now ≤ N ∧ (rightS t a = true → t ≤ N) := by
              rw [← hN]
              by_cases hq : rightS t a = true
              · rw [if_pos hq]
                have ht : 1 ≤ t ∧ t ≤ 1099511627776 ∧ 0 ≤ a ∧ a < 8 := by simpa [rightS] using hq
                unfold seeS
                omega
              · rw [if_neg hq]
                exact ⟨by omega, by omega, by omega, fun h => absurd h hq⟩
            obtain ⟨hN0, hN1, hN2, hN3⟩ := hN'
            clear hN
            cases hr : rightS t a
            · have HRR := Aside0.mk hr
              have ht := hN2
              obtain ⟨ys, hys⟩ : ∃ ys, xs = ys := ⟨_, rfl⟩
              have hyl : ys.length ≤ 2 * i + 1 := by rw [← hys]; (try simp only [List.length_append, List.length_cons, List.length_nil]); omega
              have HYN : Aside0 (∀ x ∈ ys, x.f0 ≤ N) := ⟨by
                rw [← hys]
                intro x hx
                have := HXS.out x hx
                omega⟩
              have HYN2 : Aside0 (∀ x ∈ ys ++ [(⟨N + 1, m⟩ : St)], x.f0 ≤ N + 1) := ⟨by
                intro x hx
                rcases List.mem_append.1 hx with h | h
                · have := HYN.out x h
                  omega
                · simp at h
                  subst h
                  exact Int.le_refl _⟩
              have hys2 := hys.symm
              clear hys
              subst hys2
              clear hr hN3
              by_cases hf : N = 1099511627776
              · subst hf
                go_wp2_with (first
                  | ((with_reducible refine gate_dst (N := 42) rfl ?_); go_must (((try (refine gate_guard (by rfl) ?_; dsimp only)); refine goesL_ (some 42) rfl rfl Try.func19 (by kernel_rfl) rfl #[.pointer (some ⟨g, 0, none⟩), .agg #[.int .i64 t, .int .i64 a]] rfl ?hA ?_; (case hA => ((try simp only [List.map_toArray, List.map_cons, List.map_nil]); first | done | rfl)); refine (see_calls g m now t a _ HC.out).mono ?_; rintro e w42 ⟨rfl, hc, hk, hb⟩; refine ⟨_, rfl, ?_⟩; rw [HN.out] at hc; rw [HRR.out]; replace HX := Aside0.mk (Kd.R_keep HX.out hk (fun k hk => hk)); replace HC := Aside0.mk hc; replace HB := Aside0.mk (hb w HG.out HB.out); clear hc hk hb; have hx0 := pw_cell_below HB.out HX0.out; have hx1 := pw_cell_below HB.out HX1.out)))
                  | ((with_reducible refine gate_dst (N := 53) rfl ?_); go_must (((try (refine gate_guard (by rfl) ?_; dsimp only)); refine goesL_ (some 53) rfl rfl Try.func18 (by kernel_rfl) rfl #[.pointer (some ⟨g, 0, none⟩)] rfl ?hA ?_; (case hA => ((try simp only [List.map_toArray, List.map_cons, List.map_nil]); first | done | rfl)); refine (tick_full g m _ _ HC.out (by decide)).mono ?_; rintro e w53 ⟨rfl, hb⟩; refine ⟨_, rfl, ?_⟩; replace HC := Aside0.mk (HC.out.below hb); replace HB := Aside0.mk (below_step (by repeat (first | (with_reducible first | exact HB.out | apply below_alloc | apply pw_below_drewN | apply below_drew1) | exact HB.out)) hb); clear hb)))
                  | ((with_reducible refine gate_dst (N := 59) rfl ?_); go_must (((try (refine gate_guard (by rfl) ?_; dsimp only)); refine goesL_ (some 59) rfl rfl Try.func17 (by kernel_rfl) rfl #[.pointer (some ⟨g, 0, none⟩)] rfl ?hA ?_; (case hA => ((try simp only [List.map_toArray, List.map_cons, List.map_nil]); first | done | rfl)); refine (now_calls g m _ _ (by (with_reducible repeat (first | exact HC.out | apply Clk.alloc | apply Clk.drewN | apply Clk.drew)))).mono ?_; rintro e w59 ⟨rfl, hd⟩; refine ⟨_, rfl, ?_⟩; replace HB := Aside0.mk (below_step (by repeat (first | (with_reducible first | exact HB.out | apply below_alloc | apply pw_below_drewN | apply below_drew1) | exact HB.out)) hd.below); clear hd)))
                  | ((with_reducible refine gate_dst (N := 62) rfl ?_); go_must (((try (refine gate_guard (by rfl) ?_; dsimp only)); refine goesL_ (some 62) rfl rfl Try.func15 (by kernel_rfl) rfl #[] rfl ?hA ?_; (case hA => ((try simp only [List.map_toArray, List.map_cons, List.map_nil]); first | done | rfl)); refine (alive04_calls _).mono ?_; rintro e w62 ⟨rfl, hb⟩; refine ⟨_, rfl, ?_⟩; replace HB := Aside0.mk (below_step (by repeat (first | (with_reducible first | exact HB.out | apply below_alloc | apply pw_below_drewN | apply below_drew1) | exact HB.out)) hb); clear hb))))
                go_ret
                exact ⟨rfl, HB.out⟩
              · have hlt2 : N < 1099511627776 := by omega
                have hne : (N == 1099511627776) = false := by simpa using hf
                clear hf
                go_wp2_with (first
                  | ((with_reducible refine gate_dst (N := 42) rfl ?_); go_must (((try (refine gate_guard (by rfl) ?_; dsimp only)); refine goesL_ (some 42) rfl rfl Try.func19 (by kernel_rfl) rfl #[.pointer (some ⟨g, 0, none⟩), .agg #[.int .i64 t, .int .i64 a]] rfl ?hA ?_; (case hA => ((try simp only [List.map_toArray, List.map_cons, List.map_nil]); first | done | rfl)); refine (see_calls g m now t a _ HC.out).mono ?_; rintro e w42 ⟨rfl, hc, hk, hb⟩; refine ⟨_, rfl, ?_⟩; rw [HN.out] at hc; rw [HRR.out]; replace HX := Aside0.mk (Kd.R_keep HX.out hk (fun k hk => hk)); replace HC := Aside0.mk hc; replace HB := Aside0.mk (hb w HG.out HB.out); clear hc hk hb; have hx0 := pw_cell_below HB.out HX0.out; have hx1 := pw_cell_below HB.out HX1.out)))
                  | ((with_reducible refine gate_dst (N := 53) rfl ?_); go_must (((try (refine gate_guard (by rfl) ?_; dsimp only)); refine goesL_ (some 53) rfl rfl Try.func18 (by kernel_rfl) rfl #[.pointer (some ⟨g, 0, none⟩)] rfl ?hA ?_; (case hA => ((try simp only [List.map_toArray, List.map_cons, List.map_nil]); first | done | rfl)); refine (tick_ok g m N _ HC.out hN0 hlt2).mono ?_; rintro e w53 ⟨rfl, hc, hk, hb⟩; refine ⟨_, rfl, ?_⟩; replace HX := Aside0.mk (Kd.R_keep HX.out hk (fun k hk => hk)); replace HC := Aside0.mk hc; replace HB := Aside0.mk (hb w HG.out HB.out); clear hc hk hb))))
                go_loopg [11] ys.length (fun g11 v11 wr => ∃ j : Nat, g11 = ys.length - j ∧ v11 = .int .i64 j ∧ j ≤ ys.length ∧ Aside0 (Clk wr g m (N + 1)) ∧ Aside0 (Sn wr w g (.slice A7 ys.length c7) ys) ∧ Aside0 (wr.heap[w53.heap.size]? = some (.cells #[.int .i64 (N + 1), .int .i64 m] 23 (0, 0))) ∧ Aside0 (Below w.heap.size w wr))
                case atStart => exact ⟨0, by simp, rfl, Nat.zero_le _, ⟨(by (with_reducible repeat (first | exact HC.out | apply Clk.alloc | apply Clk.drewN | apply Clk.drew)))⟩, ⟨(by (with_reducible repeat (first | exact HX.out | apply Kd.R_alloc | apply Kd.R_drewN | apply Kd.R_drew)))⟩, ⟨by simpa using heap_alloc_new w53 (.cells #[.int .i64 (N + 1), .int .i64 m] 23)⟩, ⟨(by repeat (first | (with_reducible first | exact HB.out | apply below_alloc | apply pw_below_drewN | apply below_drew1) | exact HB.out))⟩⟩
                case round =>
                  clear HC HX HB
                  obtain ⟨j, rfl, rfl, hj, HC, HX, HBX, HB⟩ := hrel
                  have b0 : wr.cell? ⟨w53.heap.size, 0, none⟩ = some (.int .i64 (N + 1)) := (blk_cell HBX.out 0).trans rfl
                  have b1 : wr.cell? ⟨w53.heap.size, 1, none⟩ = some (.int .i64 m) := (blk_cell HBX.out 1).trans rfl
                  by_cases hjl : j < ys.length
                  · have hjl2 : (j : Int) < ys.length := by omega
                    obtain ⟨ad7, hae, hy0, hy1⟩ := X.at_T23 (Kd.R_reads' HX.out).2.2 j (by omega) (by omega)
                    subst hae
                    rw [Int.toNat_natCast] at hy0 hy1
                    obtain ⟨y, hyy⟩ : ∃ y, y = X.rd_T23 ys j := ⟨_, rfl⟩
                    rw [← hyy] at hy0 hy1
                    have HLS : Aside0 (lessS y.f0 y.f1 (N + 1) m = true) := ⟨by
                      refine lessS_lt ?_
                      have hm : y ∈ ys := by
                        rw [hyy]
                        simp only [X.rd_T23, Int.toNat_natCast]
                        rw [List.getD_eq_getElem?_getD, List.getElem?_eq_getElem hjl]
                        exact List.getElem_mem hjl
                      have := HYN.out y hm
                      omega⟩
                    clear hyy
                    go_wp2
                    go_region_held3 (fun w' => w'.cell? (ad7.add (j * 2)) = some (.int .i64 y.f0) ∧ w'.cell? ⟨(ad7.add (j * 2)).block, (ad7.add (j * 2)).off + 1, none⟩ = some (.int .i64 y.f1) ∧ w'.cell? ⟨w53.heap.size, 0, none⟩ = some (.int .i64 (N + 1)) ∧ w'.cell? ⟨w53.heap.size, 1, none⟩ = some (.int .i64 m))
                      (first | exact ⟨hy0, hy1, b0, b1⟩ | exact ⟨pw_cell_below hb hy0, pw_cell_below hb hy1, pw_cell_below hb b0, pw_cell_below hb b1⟩)
                      (first | (go_at_call 13; refine (less_calls _ _ _ _ _).mono ?_; rintro e w75 ⟨rfl, hb⟩; rw [HLS.out]))
                    obtain ⟨hy0', hy1', b0', b1'⟩ := ‹_ ∧ _ ∧ _ ∧ _›
                    replace HC := Aside0.mk (show Clk w75 g m _ from (hb.block _ (blk_lt HC.out)).trans HC.out)
                    replace HBX := Aside0.mk ((hb.block _ (blk_lt HBX.out)).trans HBX.out)
                    replace HX := Aside0.mk (Kd.R_below (Kd.R_drew HX.out) hb)
                    replace HB := Aside0.mk (below_step (below_drew1 HB.out) hb)
                    clear hy0 hy1 b0 b1 hb
                    go_wp2
                    go_roundg (ys.length - (j + 1))
                    case measure => omega
                    case rel => exact ⟨j + 1, rfl, by go_num, by omega, HC, HX, HBX, HB⟩
                  · obtain rfl : j = ys.length := by omega
                    go_wp2_with (first
                      | ((with_reducible refine gate_builtin (b := .append) (xs := #[.tmp 77, .tmp 79]) rfl ?_); at_builtin; go_must ((refine Kd.R_append X.k23 (w0 := w) w.heap.size rfl (.tmp 77) (.tmp 79) 27 23 (.agg #[.int .i64 0, .int .i64 0]) 16 rfl Try.underlying27 infoSt rfl (by decide) (by decide) _ ys ⟨N + 1, m⟩ [.int .i64 (N + 1), .int .i64 m] (fun k => k ≠ g) (fun _ => False) rfl rfl (X.k23_mkM _ _ _ ⟨N + 1, m⟩) (fun _ h => h.elim) ?fresh HX.out HB.out HB.out.size ?len ?_; (case fresh => (have := blk_lt HC.out; intro k hk; omega)); (case len => omega); intro v80 w80 ho hb hg hat; have HCn := Aside0.mk (show Clk w80 g m _ from (hg.block g (blk_lt HC.out) (Kd.R_away HX.out (fun k hk => hk))).trans HC.out); clear HC; have HC := HCn; clear HCn; replace HX := Aside0.mk ho; replace HB := Aside0.mk hb; clear ho hb hg hat))))
                    go_roundg (n - (i + 1))
                    case measure => omega
                    case rel => exact ⟨i + 1, N + 1, ys ++ [⟨N + 1, m⟩], rfl, by go_num, by omega, by omega, by omega, by simp; omega, HYN2, HC, HX, HB⟩
            · have HRR := Aside0.mk hr
              have ht : t ≤ N := hN3 hr
              obtain ⟨ys, hys⟩ : ∃ ys, xs ++ [⟨t, a⟩] = ys := ⟨_, rfl⟩
              have hyl : ys.length ≤ 2 * i + 1 := by rw [← hys]; (try simp only [List.length_append, List.length_cons, List.length_nil]); omega
              have HYN : Aside0 (∀ x ∈ ys, x.f0 ≤ N) := ⟨by
                rw [← hys]
                intro x hx
                rcases List.mem_append.1 hx with h | h
                · have := HXS.out x h
                  omega
                · simp at h
                  subst h
                  exact ht⟩
              have HYN2 : Aside0 (∀ x ∈ ys ++ [(⟨N + 1, m⟩ : St)], x.f0 ≤ N + 1) := ⟨by
                intro x hx
                rcases List.mem_append.1 hx with h | h
                · have := HYN.out x h
                  omega
                · simp at h
                  subst h
                  exact Int.le_refl _⟩
              have HYS := Aside0.mk hys
              clear hys hr hN3
              by_cases hf : N = 1099511627776
              · subst hf
                go_wp2_with (first
                  | ((with_reducible refine gate_dst (N := 42) rfl ?_); go_must (((try (refine gate_guard (by rfl) ?_; dsimp only)); refine goesL_ (some 42) rfl rfl Try.func19 (by kernel_rfl) rfl #[.pointer (some ⟨g, 0, none⟩), .agg #[.int .i64 t, .int .i64 a]] rfl ?hA ?_; (case hA => ((try simp only [List.map_toArray, List.map_cons, List.map_nil]); first | done | rfl)); refine (see_calls g m now t a _ HC.out).mono ?_; rintro e w42 ⟨rfl, hc, hk, hb⟩; refine ⟨_, rfl, ?_⟩; rw [HN.out] at hc; rw [HRR.out]; replace HX := Aside0.mk (Kd.R_keep HX.out hk (fun k hk => hk)); replace HC := Aside0.mk hc; replace HB := Aside0.mk (hb w HG.out HB.out); clear hc hk hb; have hx0 := pw_cell_below HB.out HX0.out; have hx1 := pw_cell_below HB.out HX1.out)))
                  | ((with_reducible refine gate_builtin (b := .append) (xs := #[.tmp 44, .tmp 49]) rfl ?_); at_builtin; go_must ((refine Kd.R_append X.k23 (w0 := w) w.heap.size rfl (.tmp 44) (.tmp 49) 27 23 (.agg #[.int .i64 0, .int .i64 0]) 16 rfl Try.underlying27 infoSt rfl (by decide) (by decide) _ xs ⟨t, a⟩ [.int .i64 t, .int .i64 a] (fun k => k ≠ g) (fun _ => False) rfl rfl (X.k23_mkM _ _ _ ⟨t, a⟩) (fun _ h => h.elim) ?fresh HX.out HB.out HB.out.size ?len ?_; (case fresh => (have := blk_lt HC.out; intro k hk; omega)); (case len => omega); intro v50 w50 ho hb hg hat; have HCn := Aside0.mk (show Clk w50 g m _ from (hg.block g (blk_lt HC.out) (Kd.R_away HX.out (fun k hk => hk))).trans HC.out); clear HC; have HC := HCn; clear HCn; replace HX := Aside0.mk ho; replace HB := Aside0.mk hb; rw [HYS.out] at ho; clear HX; have HX := Aside0.mk ho; obtain ⟨A7n, c7n, rfl, hc7n, hC7n⟩ := Kd.R_reads ho; clear ho hb hg hat hC7n; have hx0 := pw_cell_below HB.out HX0.out; have hx1 := pw_cell_below HB.out HX1.out)))
                  | ((with_reducible refine gate_dst (N := 53) rfl ?_); go_must (((try (refine gate_guard (by rfl) ?_; dsimp only)); refine goesL_ (some 53) rfl rfl Try.func18 (by kernel_rfl) rfl #[.pointer (some ⟨g, 0, none⟩)] rfl ?hA ?_; (case hA => ((try simp only [List.map_toArray, List.map_cons, List.map_nil]); first | done | rfl)); refine (tick_full g m _ _ HC.out (by decide)).mono ?_; rintro e w53 ⟨rfl, hb⟩; refine ⟨_, rfl, ?_⟩; replace HC := Aside0.mk (HC.out.below hb); replace HB := Aside0.mk (below_step (by repeat (first | (with_reducible first | exact HB.out | apply below_alloc | apply pw_below_drewN | apply below_drew1) | exact HB.out)) hb); clear hb)))
                  | ((with_reducible refine gate_dst (N := 59) rfl ?_); go_must (((try (refine gate_guard (by rfl) ?_; dsimp only)); refine goesL_ (some 59) rfl rfl Try.func17 (by kernel_rfl) rfl #[.pointer (some ⟨g, 0, none⟩)] rfl ?hA ?_; (case hA => ((try simp only [List.map_toArray, List.map_cons, List.map_nil]); first | done | rfl)); refine (now_calls g m _ _ (by (with_reducible repeat (first | exact HC.out | apply Clk.alloc | apply Clk.drewN | apply Clk.drew)))).mono ?_; rintro e w59 ⟨rfl, hd⟩; refine ⟨_, rfl, ?_⟩; replace HB := Aside0.mk (below_step (by repeat (first | (with_reducible first | exact HB.out | apply below_alloc | apply pw_below_drewN | apply below_drew1) | exact HB.out)) hd.below); clear hd)))
                  | ((with_reducible refine gate_dst (N := 62) rfl ?_); go_must (((try (refine gate_guard (by rfl) ?_; dsimp only)); refine goesL_ (some 62) rfl rfl Try.func15 (by kernel_rfl) rfl #[] rfl ?hA ?_; (case hA => ((try simp only [List.map_toArray, List.map_cons, List.map_nil]); first | done | rfl)); refine (alive04_calls _).mono ?_; rintro e w62 ⟨rfl, hb⟩; refine ⟨_, rfl, ?_⟩; replace HB := Aside0.mk (below_step (by repeat (first | (with_reducible first | exact HB.out | apply below_alloc | apply pw_below_drewN | apply below_drew1) | exact HB.out)) hb); clear hb))))
                go_ret
                exact ⟨rfl, HB.out⟩
              · have hlt2 : N < 1099511627776 := by omega
                have hne : (N == 1099511627776) = false := by simpa using hf
                clear hf
                go_wp2_with (first
                  | ((with_reducible refine gate_dst (N := 42) rfl ?_); go_must (((try (refine gate_guard (by rfl) ?_; dsimp only)); refine goesL_ (some 42) rfl rfl Try.func19 (by kernel_rfl) rfl #[.pointer (some ⟨g, 0, none⟩), .agg #[.int .i64 t, .int .i64 a]] rfl ?hA ?_; (case hA => ((try simp only [List.map_toArray, List.map_cons, List.map_nil]); first | done | rfl)); refine (see_calls g m now t a _ HC.out).mono ?_; rintro e w42 ⟨rfl, hc, hk, hb⟩; refine ⟨_, rfl, ?_⟩; rw [HN.out] at hc; rw [HRR.out]; replace HX := Aside0.mk (Kd.R_keep HX.out hk (fun k hk => hk)); replace HC := Aside0.mk hc; replace HB := Aside0.mk (hb w HG.out HB.out); clear hc hk hb; have hx0 := pw_cell_below HB.out HX0.out; have hx1 := pw_cell_below HB.out HX1.out)))
                  | ((with_reducible refine gate_builtin (b := .append) (xs := #[.tmp 44, .tmp 49]) rfl ?_); at_builtin; go_must ((refine Kd.R_append X.k23 (w0 := w) w.heap.size rfl (.tmp 44) (.tmp 49) 27 23 (.agg #[.int .i64 0, .int .i64 0]) 16 rfl Try.underlying27 infoSt rfl (by decide) (by decide) _ xs ⟨t, a⟩ [.int .i64 t, .int .i64 a] (fun k => k ≠ g) (fun _ => False) rfl rfl (X.k23_mkM _ _ _ ⟨t, a⟩) (fun _ h => h.elim) ?fresh HX.out HB.out HB.out.size ?len ?_; (case fresh => (have := blk_lt HC.out; intro k hk; omega)); (case len => omega); intro v50 w50 ho hb hg hat; have HCn := Aside0.mk (show Clk w50 g m _ from (hg.block g (blk_lt HC.out) (Kd.R_away HX.out (fun k hk => hk))).trans HC.out); clear HC; have HC := HCn; clear HCn; replace HX := Aside0.mk ho; replace HB := Aside0.mk hb; rw [HYS.out] at ho; clear HX; have HX := Aside0.mk ho; obtain ⟨A7n, c7n, rfl, hc7n, hC7n⟩ := Kd.R_reads ho; clear ho hb hg hat hC7n; have hx0 := pw_cell_below HB.out HX0.out; have hx1 := pw_cell_below HB.out HX1.out)))
                  | ((with_reducible refine gate_dst (N := 53) rfl ?_); go_must (((try (refine gate_guard (by rfl) ?_; dsimp only)); refine goesL_ (some 53) rfl rfl Try.func18 (by kernel_rfl) rfl #[.pointer (some ⟨g, 0, none⟩)] rfl ?hA ?_; (case hA => ((try simp only [List.map_toArray, List.map_cons, List.map_nil]); first | done | rfl)); refine (tick_ok g m N _ HC.out hN0 hlt2).mono ?_; rintro e w53 ⟨rfl, hc, hk, hb⟩; refine ⟨_, rfl, ?_⟩; replace HX := Aside0.mk (Kd.R_keep HX.out hk (fun k hk => hk)); replace HC := Aside0.mk hc; replace HB := Aside0.mk (hb w HG.out HB.out); clear hc hk hb))))
                go_loopg [11] ys.length (fun g11 v11 wr => ∃ j : Nat, g11 = ys.length - j ∧ v11 = .int .i64 j ∧ j ≤ ys.length ∧ Aside0 (Clk wr g m (N + 1)) ∧ Aside0 (Sn wr w g (.slice A7n ys.length c7n) ys) ∧ Aside0 (wr.heap[w53.heap.size]? = some (.cells #[.int .i64 (N + 1), .int .i64 m] 23 (0, 0))) ∧ Aside0 (Below w.heap.size w wr))
                case atStart => exact ⟨0, by simp, rfl, Nat.zero_le _, ⟨(by (with_reducible repeat (first | exact HC.out | apply Clk.alloc | apply Clk.drewN | apply Clk.drew)))⟩, ⟨(by (with_reducible repeat (first | exact HX.out | apply Kd.R_alloc | apply Kd.R_drewN | apply Kd.R_drew)))⟩, ⟨by simpa using heap_alloc_new w53 (.cells #[.int .i64 (N + 1), .int .i64 m] 23)⟩, ⟨(by repeat (first | (with_reducible first | exact HB.out | apply below_alloc | apply pw_below_drewN | apply below_drew1) | exact HB.out))⟩⟩
                case round =>
                  clear HC HX HB
                  obtain ⟨j, rfl, rfl, hj, HC, HX, HBX, HB⟩ := hrel
                  have b0 : wr.cell? ⟨w53.heap.size, 0, none⟩ = some (.int .i64 (N + 1)) := (blk_cell HBX.out 0).trans rfl
                  have b1 : wr.cell? ⟨w53.heap.size, 1, none⟩ = some (.int .i64 m) := (blk_cell HBX.out 1).trans rfl
                  by_cases hjl : j < ys.length
                  · have hjl2 : (j : Int) < ys.length := by omega
                    obtain ⟨ad7, hae, hy0, hy1⟩ := X.at_T23 (Kd.R_reads' HX.out).2.2 j (by omega) (by omega)
                    subst hae
                    rw [Int.toNat_natCast] at hy0 hy1
                    obtain ⟨y, hyy⟩ : ∃ y, y = X.rd_T23 ys j := ⟨_, rfl⟩
                    rw [← hyy] at hy0 hy1
                    have HLS : Aside0 (lessS y.f0 y.f1 (N + 1) m = true) := ⟨by
                      refine lessS_lt ?_
                      have hm : y ∈ ys := by
                        rw [hyy]
                        simp only [X.rd_T23, Int.toNat_natCast]
                        rw [List.getD_eq_getElem?_getD, List.getElem?_eq_getElem hjl]
                        exact List.getElem_mem hjl
                      have := HYN.out y hm
                      omega⟩
                    clear hyy
                    go_wp2
                    go_region_held3 (fun w' => w'.cell? (ad7.add (j * 2)) = some (.int .i64 y.f0) ∧ w'.cell? ⟨(ad7.add (j * 2)).block, (ad7.add (j * 2)).off + 1, none⟩ = some (.int .i64 y.f1) ∧ w'.cell? ⟨w53.heap.size, 0, none⟩ = some (.int .i64 (N + 1)) ∧ w'.cell? ⟨w53.heap.size, 1, none⟩ = some (.int .i64 m))
                      (first | exact ⟨hy0, hy1, b0, b1⟩ | exact ⟨pw_cell_below hb hy0, pw_cell_below hb hy1, pw_cell_below hb b0, pw_cell_below hb b1⟩)
                      (first | (go_at_call 13; refine (less_calls _ _ _ _ _).mono ?_; rintro e w75 ⟨rfl, hb⟩; rw [HLS.out]))
                    obtain ⟨hy0', hy1', b0', b1'⟩ := ‹_ ∧ _ ∧ _ ∧ _›
                    replace HC := Aside0.mk (show Clk w75 g m _ from (hb.block _ (blk_lt HC.out)).trans HC.out)
                    replace HBX := Aside0.mk ((hb.block _ (blk_lt HBX.out)).trans HBX.out)
                    replace HX := Aside0.mk (Kd.R_below (Kd.R_drew HX.out) hb)
                    replace HB := Aside0.mk (below_step (below_drew1 HB.out) hb)
                    clear hy0 hy1 b0 b1 hb
                    go_wp2
                    go_roundg (ys.length - (j + 1))
                    case measure => omega
                    case rel => exact ⟨j + 1, rfl, by go_num, by omega, HC, HX, HBX, HB⟩
                  · obtain rfl : j = ys.length := by omega
                    go_wp2_with (first
                      | ((with_reducible refine gate_builtin (b := .append) (xs := #[.tmp 77, .tmp 79]) rfl ?_); at_builtin; go_must ((refine Kd.R_append X.k23 (w0 := w) w.heap.size rfl (.tmp 77) (.tmp 79) 27 23 (.agg #[.int .i64 0, .int .i64 0]) 16 rfl Try.underlying27 infoSt rfl (by decide) (by decide) _ ys ⟨N + 1, m⟩ [.int .i64 (N + 1), .int .i64 m] (fun k => k ≠ g) (fun _ => False) rfl rfl (X.k23_mkM _ _ _ ⟨N + 1, m⟩) (fun _ h => h.elim) ?fresh HX.out HB.out HB.out.size ?len ?_; (case fresh => (have := blk_lt HC.out; intro k hk; omega)); (case len => omega); intro v80 w80 ho hb hg hat; have HCn := Aside0.mk (show Clk w80 g m _ from (hg.block g (blk_lt HC.out) (Kd.R_away HX.out (fun k hk => hk))).trans HC.out); clear HC; have HC := HCn; clear HCn; replace HX := Aside0.mk ho; replace HB := Aside0.mk hb; clear ho hb hg hat))))
                    go_roundg (n - (i + 1))
                    case measure => omega
                    case rel => exact ⟨i + 1, N + 1, ys ++ [⟨N + 1, m⟩], rfl, by go_num, by omega, by omega, by omega, by simp; omega, HYN2, HC, HX, HB⟩
          · go_wp2_with (first
              | ((with_reducible refine gate_dst (N := 81) rfl ?_); go_must (((try (refine gate_guard (by rfl) ?_; dsimp only)); refine goesL_ (some 81) rfl rfl Try.func15 (by kernel_rfl) rfl #[] rfl ?hA ?_; (case hA => ((try simp only [List.map_toArray, List.map_cons, List.map_nil]); first | done | rfl)); refine (alive04_calls _).mono ?_; rintro e w81 ⟨rfl, hb⟩; refine ⟨_, rfl, ?_⟩; replace HB := Aside0.mk (below_step (by repeat (first | (with_reducible first | exact HB.out | apply below_alloc | apply pw_below_drewN | apply below_drew1) | exact HB.out)) hb); clear hb))))
            go_ret
            exact ⟨rfl, HB.out⟩
end Go.Proofs.Ytlcifnejpejhmaa.K

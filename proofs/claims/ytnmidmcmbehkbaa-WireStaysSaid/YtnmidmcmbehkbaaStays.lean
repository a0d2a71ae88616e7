/- cachettelaw01.WireStays: the walk. -/
import Derived.Test.YtnmidmcmbehkbaaLaw01
import Derived.Test.YtnmidmcmbehkbaaNil
namespace Go.Proofs.Ytnmidmcmbehkbaa.K
open Go.RowKit Go.Proofs.YtnmidmcmbehkbaaW.PrintWords Go.Proofs.YtnmidmcmbehkbaaW.PrintLast Go.Proofs.YtnmidmcmbehkbaaW.PrintMore
set_option linter.unusedVariables false
set_option linter.unusedSimpArgs false

set_option maxRecDepth 100000 in
set_option maxHeartbeats 8000000 in
theorem stays_walk (v0 : Value) (l0 : List Int) (A1 : Option Addr) (n c1 : Nat) (w : World) (hr0 : Rd w v0 l0) (hb0 : ∀ x ∈ l0, 0 ≤ x ∧ x ≤ 255)
    (hk0 : ∀ i, i < n → ∃ ad m, A1 = some ad ∧ w.cell? ⟨(ad.add (i * 2)).block, (ad.add (i * 2)).off + 1, none⟩ = some (.int .i64 m)) :
    Calls Try.prog 9 #[v0, .slice A1 n c1] w fun e w' => e = .returned (.bool true) ∧ Below w.heap.size w w' := by
  have HB := Aside0.mk (Below.refl w.heap.size w)
  have HR0 := Aside0.mk hr0
  obtain ⟨A0, c0, rfl, hc0, hC0⟩ := hr0
  clear hC0
  have HK0 := Aside0.mk hk0
  clear hk0
  by_cases h0 : l0.length > 1000
  · go_enter Try.func9, Try.ntmps9
    go_wp2_with (first
      | ((with_reducible refine gate_dst (N := 17) rfl ?_); go_must (((try (refine gate_guard (by rfl) ?_; dsimp only)); refine goesL_ (some 17) rfl rfl Try.func23 (by kernel_rfl) rfl #[] rfl ?hA ?_; (case hA => ((try simp only [List.map_toArray, List.map_cons, List.map_nil]); first | done | rfl)); refine (alive01_calls _).mono ?_; rintro e w17 ⟨rfl, hb⟩; refine ⟨_, rfl, ?_⟩; replace HB := Aside0.mk (below_step HB.out hb); clear hb))))
    go_ret
    exact ⟨rfl, HB.out⟩
  · by_cases h1 : n > 60
    · go_enter Try.func9, Try.ntmps9
      go_wp2_with (first
        | ((with_reducible refine gate_dst (N := 17) rfl ?_); go_must (((try (refine gate_guard (by rfl) ?_; dsimp only)); refine goesL_ (some 17) rfl rfl Try.func23 (by kernel_rfl) rfl #[] rfl ?hA ?_; (case hA => ((try simp only [List.map_toArray, List.map_cons, List.map_nil]); first | done | rfl)); refine (alive01_calls _).mono ?_; rintro e w17 ⟨rfl, hb⟩; refine ⟨_, rfl, ?_⟩; replace HB := Aside0.mk (below_step HB.out hb); clear hb))))
      go_ret
      exact ⟨rfl, HB.out⟩
    · have HBL : Aside0 (BL l0) := ⟨hb0, by omega⟩
      clear hb0
      go_enter Try.func9, Try.ntmps9
      go_wp2_with (first
        | ((with_reducible refine gate_dst (N := 19) rfl ?_); go_must (((try (refine gate_guard (by rfl) ?_; dsimp only)); refine goesL_ (some 19) rfl rfl Try.func34 (by kernel_rfl) rfl #[.slice A0 l0.length c0] rfl ?hA ?_; (case hA => ((try simp only [List.map_toArray, List.map_cons, List.map_nil]); first | done | rfl)); refine (read_calls _ l0 w _ HR0.out HBL.out (Below.refl _ _)).mono ?_; rintro e w19 ⟨g, rfl, hr, hg, hb⟩; refine ⟨_, rfl, ?_⟩; have HRr := Aside0.mk hr; have HX := Aside0.mk hb; clear hr hb hg))))
      obtain ⟨wA, rfl⟩ : ∃ wA, wA = w := ⟨_, rfl⟩
      have HBs := Aside0.mk (Below.refl wA.heap.size wA)
      clear HB
      go_loopg [20] 1 (fun kq v20 wr => ∃ l1 k1, Aside0 (Rdr 63 wA wr g l1 k1) ∧ Aside0 (Below wA.heap.size wA wr) ∧ (kq = 0 → k1 ≠ 0 ∨ l1 = []))
      case atStart => exact ⟨_, _, HRr, HX, fun h => by omega⟩
      case round =>
        clear HRr HX
        obtain ⟨l1, k1, HRr, HX, HG⟩ := hrel
        have HG := Aside0.mk HG
        by_cases hc : k1 = 0 ∧ l1 ≠ []
        · obtain ⟨rfl, hne⟩ := hc
          have hpos : 0 < l1.length := by rcases l1 with _ | _ <;> simp_all
          have HD1 : Aside0 (doneR l1 0 = 4) := ⟨by rw [doneR, if_pos ⟨rfl, hpos⟩]⟩
          have HL1 : Aside0 ((if (0 : Int) = 0 then (l1.length : Int) else 0) = l1.length) := ⟨rfl⟩
          have HNE := Aside0.mk hne
          clear hne
          cases gk with
          | zero => rcases HG.out rfl with h | h; exact absurd rfl h; exact absurd h HNE.out
          | succ gk =>
          go_wp2_with (first
            | ((with_reducible refine gate_dst (N := 21) rfl ?_); go_must (((try (refine gate_guard (by rfl) ?_; dsimp only)); refine goesL_ (some 21) rfl rfl Try.func36 (by kernel_rfl) rfl #[.pointer (some ⟨g, 0, none⟩)] rfl ?hA ?_; (case hA => ((try simp only [List.map_toArray, List.map_cons, List.map_nil]); first | done | rfl)); refine (done_calls g _ _ wA _ HRr.out).mono ?_; rintro e w21 ⟨rfl, hd⟩; refine ⟨_, rfl, ?_⟩; rw [HD1.out]; replace HRr := Aside0.mk (HRr.out.below hd.below); replace HX := Aside0.mk (below_step HX.out hd.below); clear hd)))
            | ((with_reducible refine gate_dst (N := 25) rfl ?_); go_must (((try (refine gate_guard (by rfl) ?_; dsimp only)); refine goesL_ (some 25) rfl rfl Try.func47 (by kernel_rfl) rfl #[.pointer (some ⟨g, 0, none⟩)] rfl ?hA ?_; (case hA => ((try simp only [List.map_toArray, List.map_cons, List.map_nil]); first | done | rfl)); refine (left_calls g _ _ wA _ HRr.out).mono ?_; rintro e w25 ⟨rfl, hd⟩; refine ⟨_, rfl, ?_⟩; rw [HL1.out]; replace HRr := Aside0.mk (HRr.out.below hd.below); replace HX := Aside0.mk (below_step HX.out hd.below); clear hd)))
            | ((with_reducible refine gate_dst (N := 29) rfl ?_); go_must (((try (refine gate_guard (by rfl) ?_; dsimp only)); refine goesL_ (some 29) rfl rfl Try.func38 (by kernel_rfl) rfl #[.pointer (some ⟨g, 0, none⟩), .int .i64 0] rfl ?hA ?_; (case hA => ((try simp only [List.map_toArray, List.map_cons, List.map_nil]); first | done | rfl)); refine (rbytes_calls g 0 _ _ wA _ HRr.out HX.out).mono ?_; rintro e w29 ⟨v29, rfl, ho, hr, hs⟩; refine ⟨_, rfl, ?_⟩; replace HRr := Aside0.mk hr; replace HX := Aside0.mk hs.below; clear ho hr hs)))
            | ((with_reducible refine gate_dst (N := 31) rfl ?_); go_must (((try (refine gate_guard (by rfl) ?_; dsimp only)); refine goesL_ (some 31) rfl rfl Try.func41 (by kernel_rfl) rfl #[.pointer (some ⟨g, 0, none⟩), .int .i64 (-1)] rfl ?hA ?_; (case hA => ((try simp only [List.map_toArray, List.map_cons, List.map_nil]); first | done | rfl)); refine (count_calls g (-1) _ _ wA _ HRr.out HX.out).mono ?_; rintro e w31 ⟨rfl, hr, hs⟩; refine ⟨_, rfl, ?_⟩; replace HRr := Aside0.mk hr; replace HX := Aside0.mk hs.below; clear hr hs))))
          go_roundg gk
          case measure => omega
          case rel => exact ⟨_, _, HRr, HX, fun _ => .inl (countR_neg _ _)⟩
        · clear HG
          have hk := HK0.out
          by_cases hk1 : k1 = 0
          · subst hk1
            have hl1 : l1 = [] := by
              rcases l1 with _ | _
              · rfl
              · exact absurd ⟨rfl, by simp⟩ hc
            subst hl1
            clear hc
            have HD1 : Aside0 (doneR [] 0 = 0) := ⟨rfl⟩
            have HD := HD1
            have HL1 : Aside0 ((if (0 : Int) = 0 then (([] : List Int).length : Int) else 0) = 0) := ⟨rfl⟩
            obtain ⟨k1, hk1⟩ : ∃ k : Int, k = 0 := ⟨0, rfl⟩
            obtain ⟨l1, hl1⟩ : ∃ l : List Int, l = [] := ⟨[], rfl⟩
            rw [← hk1, ← hl1] at HRr
            have HK1 := Aside0.mk hk1
            have HLL := Aside0.mk hl1
            clear hk1 hl1
            replace HD : Aside0 (doneR l1 k1 = 0) := ⟨by rw [HK1.out, HLL.out]; rfl⟩
            replace HD1 : Aside0 (doneR l1 k1 = 0) := HD
            replace HL1 : Aside0 ((if k1 = 0 then (l1.length : Int) else 0) = 0) := ⟨by rw [HK1.out, HLL.out]; rfl⟩
            go_wp2_with (first
              | ((with_reducible refine gate_dst (N := 21) rfl ?_); go_must (((try (refine gate_guard (by rfl) ?_; dsimp only)); refine goesL_ (some 21) rfl rfl Try.func36 (by kernel_rfl) rfl #[.pointer (some ⟨g, 0, none⟩)] rfl ?hA ?_; (case hA => ((try simp only [List.map_toArray, List.map_cons, List.map_nil]); first | done | rfl)); refine (done_calls g _ _ wA _ HRr.out).mono ?_; rintro e w21 ⟨rfl, hd⟩; refine ⟨_, rfl, ?_⟩; rw [HD1.out]; replace HRr := Aside0.mk (HRr.out.below hd.below); replace HX := Aside0.mk (below_step HX.out hd.below); clear hd)))
              | ((with_reducible refine gate_dst (N := 25) rfl ?_); go_must (((try (refine gate_guard (by rfl) ?_; dsimp only)); refine goesL_ (some 25) rfl rfl Try.func47 (by kernel_rfl) rfl #[.pointer (some ⟨g, 0, none⟩)] rfl ?hA ?_; (case hA => ((try simp only [List.map_toArray, List.map_cons, List.map_nil]); first | done | rfl)); refine (left_calls g _ _ wA _ HRr.out).mono ?_; rintro e w25 ⟨rfl, hd⟩; refine ⟨_, rfl, ?_⟩; rw [HL1.out]; replace HRr := Aside0.mk (HRr.out.below hd.below); replace HX := Aside0.mk (below_step HX.out hd.below); clear hd)))
              | ((with_reducible refine gate_dst (N := 33) rfl ?_); go_must (((try (refine gate_guard (by rfl) ?_; dsimp only)); refine goesL_ (some 33) rfl rfl Try.func36 (by kernel_rfl) rfl #[.pointer (some ⟨g, 0, none⟩)] rfl ?hA ?_; (case hA => ((try simp only [List.map_toArray, List.map_cons, List.map_nil]); first | done | rfl)); refine (done_calls g _ _ wA _ HRr.out).mono ?_; rintro e w33 ⟨rfl, hd⟩; refine ⟨_, rfl, ?_⟩; rw [HD.out]; replace HRr := Aside0.mk (HRr.out.below hd.below); replace HX := Aside0.mk (below_step HX.out hd.below); clear hd))))
            go_loopw [8] (fun v8 wr => ∃ i : Nat, v8 = .int .i64 i ∧ i ≤ n ∧ Aside0 (Rdr 63 wA wr g l1 k1) ∧ Aside0 (Below wA.heap.size wA wr)) (fun v8 _ => n - (intOf v8).toNat)
            case atStart => exact ⟨0, rfl, by omega, HRr, HX⟩
            case round =>
              clear HRr HX
              obtain ⟨i, rfl, hi, HRr, HX⟩ := hrel
              by_cases hlt : i < n
              · obtain ⟨ad, m, rfl, HM⟩ := hk i hlt
                have HMC : Aside0 (∀ W, Below wA.heap.size wA W → W.cell? ⟨(ad.add (i * 2)).block, (ad.add (i * 2)).off + 1, none⟩ = some (.int .i64 m)) := ⟨fun W hW => pw_cell_below hW HM⟩
                clear HM
                go_wp2_with (first
                  | ((with_reducible refine gate_dst (N := 99) rfl ?_); go_must (((try (refine gate_guard (by rfl) ?_; dsimp only)); refine goesL_ (some 99) rfl rfl Try.func35 (by kernel_rfl) rfl #[.pointer none] rfl ?hA ?_; (case hA => ((try simp only [List.map_toArray, List.map_cons, List.map_nil]); first | done | rfl)); refine (num_nil _).mono ?_; rintro e w99 ⟨rfl, hd⟩; refine ⟨_, rfl, ?_⟩; replace HRr := Aside0.mk (HRr.out.below hd.below); replace HX := Aside0.mk (below_step HX.out hd.below); clear hd)))
                  | ((with_reducible refine gate_dst (N := 103) rfl ?_); go_must (((try (refine gate_guard (by rfl) ?_; dsimp only)); refine goesL_ (some 103) rfl rfl Try.func38 (by kernel_rfl) rfl #[.pointer none, .int .i64 9] rfl ?hA ?_; (case hA => ((try simp only [List.map_toArray, List.map_cons, List.map_nil]); first | done | rfl)); refine (bytes_nil 9 _).mono ?_; rintro e w103 ⟨rfl, hd⟩; refine ⟨_, rfl, ?_⟩; replace HRr := Aside0.mk (HRr.out.below hd.below); replace HX := Aside0.mk (below_step HX.out hd.below); clear hd)))
                  | ((with_reducible refine gate_dst (N := 109) rfl ?_); go_must (((try (refine gate_guard (by rfl) ?_; dsimp only)); refine goesL_ (some 109) rfl rfl Try.func45 (by kernel_rfl) rfl #[.pointer none] rfl ?hA ?_; (case hA => ((try simp only [List.map_toArray, List.map_cons, List.map_nil]); first | done | rfl)); refine (bool_nil _).mono ?_; rintro e w109 ⟨rfl, hd⟩; refine ⟨_, rfl, ?_⟩; replace HRr := Aside0.mk (HRr.out.below hd.below); replace HX := Aside0.mk (below_step HX.out hd.below); clear hd)))
                  | ((with_reducible refine gate_dst (N := 113) rfl ?_); go_must (((try (refine gate_guard (by rfl) ?_; dsimp only)); refine goesL_ (some 113) rfl rfl Try.func47 (by kernel_rfl) rfl #[.pointer none] rfl ?hA ?_; (case hA => ((try simp only [List.map_toArray, List.map_cons, List.map_nil]); first | done | rfl)); refine (left_nil _).mono ?_; rintro e w113 ⟨rfl, hd⟩; refine ⟨_, rfl, ?_⟩; replace HRr := Aside0.mk (HRr.out.below hd.below); replace HX := Aside0.mk (below_step HX.out hd.below); clear hd)))
                  | ((with_reducible refine gate_dst (N := 118) rfl ?_); go_must (((try (refine gate_guard (by rfl) ?_; dsimp only)); refine goesL_ (some 118) rfl rfl Try.func36 (by kernel_rfl) rfl #[.pointer none] rfl ?hA ?_; (case hA => ((try simp only [List.map_toArray, List.map_cons, List.map_nil]); first | done | rfl)); refine (done_nil _).mono ?_; rintro e w118 ⟨rfl, hd⟩; refine ⟨_, rfl, ?_⟩; replace HRr := Aside0.mk (HRr.out.below hd.below); replace HX := Aside0.mk (below_step HX.out hd.below); clear hd))))
                go_roundw
                case rel => exact ⟨i + 1, by go_num, by omega, HRr, HX⟩
                case measure => simp [intOf]; omega
              · go_wp2_with (first
                  | ((with_reducible refine gate_dst (N := 121) rfl ?_); go_must (((try (refine gate_guard (by rfl) ?_; dsimp only)); refine goesL_ (some 121) rfl rfl Try.func23 (by kernel_rfl) rfl #[] rfl ?hA ?_; (case hA => ((try simp only [List.map_toArray, List.map_cons, List.map_nil]); first | done | rfl)); refine (alive01_calls _).mono ?_; rintro e w121 ⟨rfl, hb⟩; refine ⟨_, rfl, ?_⟩; have HB := Aside0.mk (below_step (HBs.out.trans (HX.out.mono HBs.out.size)) hb); clear hb))))
                go_ret
                exact ⟨rfl, HB.out⟩
          · have HK := Aside0.mk hk1
            have HD1 : Aside0 (doneR l1 k1 = k1) := ⟨doneR_wrong hk1⟩
            have HD := HD1
            have HL1 : Aside0 ((if k1 = 0 then (l1.length : Int) else 0) = 0) := ⟨if_neg hk1⟩
            have hk1b : (k1 != 0) = true := by simpa using hk1
            have hk1c : (k1 == 0) = false := by simpa using hk1
            clear hk1 hc
            obtain ⟨b4, hb4⟩ : ∃ b, (k1 == 4) = b := ⟨_, rfl⟩
            cases b4
            all_goals
              go_wp2_with (first
                | ((with_reducible refine gate_dst (N := 21) rfl ?_); go_must (((try (refine gate_guard (by rfl) ?_; dsimp only)); refine goesL_ (some 21) rfl rfl Try.func36 (by kernel_rfl) rfl #[.pointer (some ⟨g, 0, none⟩)] rfl ?hA ?_; (case hA => ((try simp only [List.map_toArray, List.map_cons, List.map_nil]); first | done | rfl)); refine (done_calls g _ _ wA _ HRr.out).mono ?_; rintro e w21 ⟨rfl, hd⟩; refine ⟨_, rfl, ?_⟩; rw [HD1.out]; replace HRr := Aside0.mk (HRr.out.below hd.below); replace HX := Aside0.mk (below_step HX.out hd.below); clear hd)))
                | ((with_reducible refine gate_dst (N := 25) rfl ?_); go_must (((try (refine gate_guard (by rfl) ?_; dsimp only)); refine goesL_ (some 25) rfl rfl Try.func47 (by kernel_rfl) rfl #[.pointer (some ⟨g, 0, none⟩)] rfl ?hA ?_; (case hA => ((try simp only [List.map_toArray, List.map_cons, List.map_nil]); first | done | rfl)); refine (left_calls g _ _ wA _ HRr.out).mono ?_; rintro e w25 ⟨rfl, hd⟩; refine ⟨_, rfl, ?_⟩; rw [HL1.out]; replace HRr := Aside0.mk (HRr.out.below hd.below); replace HX := Aside0.mk (below_step HX.out hd.below); clear hd)))
                | ((with_reducible refine gate_dst (N := 33) rfl ?_); go_must (((try (refine gate_guard (by rfl) ?_; dsimp only)); refine goesL_ (some 33) rfl rfl Try.func36 (by kernel_rfl) rfl #[.pointer (some ⟨g, 0, none⟩)] rfl ?hA ?_; (case hA => ((try simp only [List.map_toArray, List.map_cons, List.map_nil]); first | done | rfl)); refine (done_calls g _ _ wA _ HRr.out).mono ?_; rintro e w33 ⟨rfl, hd⟩; refine ⟨_, rfl, ?_⟩; rw [HD.out]; replace HRr := Aside0.mk (HRr.out.below hd.below); replace HX := Aside0.mk (below_step HX.out hd.below); clear hd))))
              go_loopw [8] (fun v8 wr => ∃ i : Nat, v8 = .int .i64 i ∧ i ≤ n ∧ Aside0 (Rdr 63 wA wr g l1 k1) ∧ Aside0 (Below wA.heap.size wA wr)) (fun v8 _ => n - (intOf v8).toNat)
              case atStart => exact ⟨0, rfl, by omega, HRr, HX⟩
              case round =>
                clear HRr HX
                obtain ⟨i, rfl, hi, HRr, HX⟩ := hrel
                by_cases hlt : i < n
                · obtain ⟨ad, m, rfl, HM⟩ := hk i hlt
                  have HMC : Aside0 (∀ W, Below wA.heap.size wA W → W.cell? ⟨(ad.add (i * 2)).block, (ad.add (i * 2)).off + 1, none⟩ = some (.int .i64 m)) := ⟨fun W hW => pw_cell_below hW HM⟩
                  clear HM
                  go_wp2_with (first
                    | ((with_reducible refine gate_dst (N := 44) rfl ?_); go_must (((try (refine gate_guard (by rfl) ?_; dsimp only)); refine goesL_ (some 44) rfl rfl Try.func35 (by kernel_rfl) rfl #[.pointer (some ⟨g, 0, none⟩)] rfl ?hA ?_; (case hA => ((try simp only [List.map_toArray, List.map_cons, List.map_nil]); first | done | rfl)); refine (rnum_calls g _ _ wA _ HRr.out HX.out).mono ?_; rintro e w44 ⟨rfl, hr, hs⟩; refine ⟨_, rfl, ?_⟩; rw [numR_wrong HK.out] at hr; rw [numR_wrong HK.out]; replace HRr := Aside0.mk hr; replace HX := Aside0.mk hs.below; clear hr hs; have hx44 := HMC.out _ (HBs.out.trans (HX.out.mono HBs.out.size)))))
                    | ((with_reducible refine gate_dst (N := 48) rfl ?_); go_must (((try (refine gate_guard (by rfl) ?_; dsimp only)); refine goesL_ (some 48) rfl rfl Try.func37 (by kernel_rfl) rfl #[.pointer (some ⟨g, 0, none⟩)] rfl ?hA ?_; (case hA => ((try simp only [List.map_toArray, List.map_cons, List.map_nil]); first | done | rfl)); refine (rint_calls g _ _ wA _ HRr.out HX.out).mono ?_; rintro e w48 ⟨rfl, hr, hs⟩; refine ⟨_, rfl, ?_⟩; rw [numR_wrong HK.out] at hr; rw [numR_wrong HK.out, show unzz 0 = 0 from rfl]; replace HRr := Aside0.mk hr; replace HX := Aside0.mk hs.below; clear hr hs; have hx48 := HMC.out _ (HBs.out.trans (HX.out.mono HBs.out.size)))))
                    | ((with_reducible refine gate_dst (N := 58) rfl ?_); go_must (((try (refine gate_guard (by rfl) ?_; dsimp only)); refine goesL_ (some 58) rfl rfl Try.func41 (by kernel_rfl) rfl #[.pointer (some ⟨g, 0, none⟩), .int .i64 m] rfl ?hA ?_; (case hA => ((try simp only [List.map_toArray, List.map_cons, List.map_nil]); first | done | rfl)); refine (count_calls g m _ _ wA _ HRr.out HX.out).mono ?_; rintro e w58 ⟨rfl, hr, hs⟩; refine ⟨_, rfl, ?_⟩; rw [countR_wrong HK.out] at hr; rw [countR_wrong HK.out]; replace HRr := Aside0.mk hr; replace HX := Aside0.mk hs.below; clear hr hs; have hx58 := HMC.out _ (HBs.out.trans (HX.out.mono HBs.out.size)))))
                    | ((with_reducible refine gate_dst (N := 68) rfl ?_); go_must (((try (refine gate_guard (by rfl) ?_; dsimp only)); refine goesL_ (some 68) rfl rfl Try.func38 (by kernel_rfl) rfl #[.pointer (some ⟨g, 0, none⟩), .int .i64 m] rfl ?hA ?_; (case hA => ((try simp only [List.map_toArray, List.map_cons, List.map_nil]); first | done | rfl)); refine (rbytes_calls g m _ _ wA _ HRr.out HX.out).mono ?_; rintro e w68 ⟨v68, rfl, ho, hr, hs⟩; refine ⟨_, rfl, ?_⟩; rw [bytesR_wrong HK.out] at hr; rw [bytesR_wrong HK.out] at ho; obtain ⟨A8, c8, rfl, hc8, hC8⟩ := ho.rd; clear ho hC8; replace HRr := Aside0.mk hr; replace HX := Aside0.mk hs.below; clear hr hs; have hx68 := HMC.out _ (HBs.out.trans (HX.out.mono HBs.out.size)))))
                    | ((with_reducible refine gate_dst (N := 79) rfl ?_); go_must (((try (refine gate_guard (by rfl) ?_; dsimp only)); refine goesL_ (some 79) rfl rfl Try.func44 (by kernel_rfl) rfl #[.pointer (some ⟨g, 0, none⟩), .int .i64 m] rfl ?hA ?_; (case hA => ((try simp only [List.map_toArray, List.map_cons, List.map_nil]); first | done | rfl)); refine (rtext_calls g m _ _ wA _ HRr.out HX.out).mono ?_; rintro e w79 ⟨rfl, hr, hs⟩; refine ⟨_, rfl, ?_⟩; rw [bytesR_wrong HK.out] at hr; rw [bytesR_wrong HK.out, show strOfNums [] = ⟨#[]⟩ from rfl]; replace HRr := Aside0.mk hr; replace HX := Aside0.mk hs.below; clear hr hs; have hx79 := HMC.out _ (HBs.out.trans (HX.out.mono HBs.out.size)))))
                    | ((with_reducible refine gate_dst (N := 84) rfl ?_); go_must (((try (refine gate_guard (by rfl) ?_; dsimp only)); refine goesL_ (some 84) rfl rfl Try.func45 (by kernel_rfl) rfl #[.pointer (some ⟨g, 0, none⟩)] rfl ?hA ?_; (case hA => ((try simp only [List.map_toArray, List.map_cons, List.map_nil]); first | done | rfl)); refine (rbool_calls g _ _ wA _ HRr.out HX.out).mono ?_; rintro e w84 ⟨rfl, hr, hs⟩; refine ⟨_, rfl, ?_⟩; rw [boolR_wrong HK.out] at hr; rw [boolR_wrong HK.out]; replace HRr := Aside0.mk hr; replace HX := Aside0.mk hs.below; clear hr hs; have hx84 := HMC.out _ (HBs.out.trans (HX.out.mono HBs.out.size)))))
                    | ((with_reducible refine gate_dst (N := 88) rfl ?_); go_must (((try (refine gate_guard (by rfl) ?_; dsimp only)); refine goesL_ (some 88) rfl rfl Try.func47 (by kernel_rfl) rfl #[.pointer (some ⟨g, 0, none⟩)] rfl ?hA ?_; (case hA => ((try simp only [List.map_toArray, List.map_cons, List.map_nil]); first | done | rfl)); refine (left_calls g _ _ wA _ HRr.out).mono ?_; rintro e w88 ⟨rfl, hd⟩; refine ⟨_, rfl, ?_⟩; rw [if_neg HK.out]; replace HRr := Aside0.mk (HRr.out.below hd.below); replace HX := Aside0.mk (below_step HX.out hd.below); clear hd)))
                    | ((with_reducible refine gate_dst (N := 93) rfl ?_); go_must (((try (refine gate_guard (by rfl) ?_; dsimp only)); refine goesL_ (some 93) rfl rfl Try.func36 (by kernel_rfl) rfl #[.pointer (some ⟨g, 0, none⟩)] rfl ?hA ?_; (case hA => ((try simp only [List.map_toArray, List.map_cons, List.map_nil]); first | done | rfl)); refine (done_calls g _ _ wA _ HRr.out).mono ?_; rintro e w93 ⟨rfl, hd⟩; refine ⟨_, rfl, ?_⟩; rw [doneR_wrong HK.out]; replace HRr := Aside0.mk (HRr.out.below hd.below); replace HX := Aside0.mk (below_step HX.out hd.below); clear hd)))
                    | ((with_reducible refine gate_dst (N := 99) rfl ?_); go_must (((try (refine gate_guard (by rfl) ?_; dsimp only)); refine goesL_ (some 99) rfl rfl Try.func35 (by kernel_rfl) rfl #[.pointer none] rfl ?hA ?_; (case hA => ((try simp only [List.map_toArray, List.map_cons, List.map_nil]); first | done | rfl)); refine (num_nil _).mono ?_; rintro e w99 ⟨rfl, hd⟩; refine ⟨_, rfl, ?_⟩; replace HRr := Aside0.mk (HRr.out.below hd.below); replace HX := Aside0.mk (below_step HX.out hd.below); clear hd)))
                    | ((with_reducible refine gate_dst (N := 103) rfl ?_); go_must (((try (refine gate_guard (by rfl) ?_; dsimp only)); refine goesL_ (some 103) rfl rfl Try.func38 (by kernel_rfl) rfl #[.pointer none, .int .i64 9] rfl ?hA ?_; (case hA => ((try simp only [List.map_toArray, List.map_cons, List.map_nil]); first | done | rfl)); refine (bytes_nil 9 _).mono ?_; rintro e w103 ⟨rfl, hd⟩; refine ⟨_, rfl, ?_⟩; replace HRr := Aside0.mk (HRr.out.below hd.below); replace HX := Aside0.mk (below_step HX.out hd.below); clear hd)))
                    | ((with_reducible refine gate_dst (N := 109) rfl ?_); go_must (((try (refine gate_guard (by rfl) ?_; dsimp only)); refine goesL_ (some 109) rfl rfl Try.func45 (by kernel_rfl) rfl #[.pointer none] rfl ?hA ?_; (case hA => ((try simp only [List.map_toArray, List.map_cons, List.map_nil]); first | done | rfl)); refine (bool_nil _).mono ?_; rintro e w109 ⟨rfl, hd⟩; refine ⟨_, rfl, ?_⟩; replace HRr := Aside0.mk (HRr.out.below hd.below); replace HX := Aside0.mk (below_step HX.out hd.below); clear hd)))
                    | ((with_reducible refine gate_dst (N := 113) rfl ?_); go_must (((try (refine gate_guard (by rfl) ?_; dsimp only)); refine goesL_ (some 113) rfl rfl Try.func47 (by kernel_rfl) rfl #[.pointer none] rfl ?hA ?_; (case hA => ((try simp only [List.map_toArray, List.map_cons, List.map_nil]); first | done | rfl)); refine (left_nil _).mono ?_; rintro e w113 ⟨rfl, hd⟩; refine ⟨_, rfl, ?_⟩; replace HRr := Aside0.mk (HRr.out.below hd.below); replace HX := Aside0.mk (below_step HX.out hd.below); clear hd)))
                    | ((with_reducible refine gate_dst (N := 118) rfl ?_); go_must (((try (refine gate_guard (by rfl) ?_; dsimp only)); refine goesL_ (some 118) rfl rfl Try.func36 (by kernel_rfl) rfl #[.pointer none] rfl ?hA ?_; (case hA => ((try simp only [List.map_toArray, List.map_cons, List.map_nil]); first | done | rfl)); refine (done_nil _).mono ?_; rintro e w118 ⟨rfl, hd⟩; refine ⟨_, rfl, ?_⟩; replace HRr := Aside0.mk (HRr.out.below hd.below); replace HX := Aside0.mk (below_step HX.out hd.below); clear hd))))
                  go_roundw
                  case rel => exact ⟨i + 1, by go_num, by omega, HRr, HX⟩
                  case measure => simp [intOf]; omega
                · go_wp2_with (first
                    | ((with_reducible refine gate_dst (N := 121) rfl ?_); go_must (((try (refine gate_guard (by rfl) ?_; dsimp only)); refine goesL_ (some 121) rfl rfl Try.func23 (by kernel_rfl) rfl #[] rfl ?hA ?_; (case hA => ((try simp only [List.map_toArray, List.map_cons, List.map_nil]); first | done | rfl)); refine (alive01_calls _).mono ?_; rintro e w121 ⟨rfl, hb⟩; refine ⟨_, rfl, ?_⟩; have HB := Aside0.mk (below_step (HBs.out.trans (HX.out.mono HBs.out.size)) hb); clear hb))))
                  go_ret
                  exact ⟨rfl, HB.out⟩
end Go.Proofs.Ytnmidmcmbehkbaa.K

/- cachettelaw01.WireOne: the walk. -/
import Derived.Test.YtnmidmcmbehkbaaLaw01
import Derived.Test.YtnmidmcmbehkbaaPure01
namespace Go.Proofs.Ytnmidmcmbehkbaa.K
open Go.RowKit Go.Proofs.YtnmidmcmbehkbaaW.PrintWords Go.Proofs.YtnmidmcmbehkbaaW.PrintLast Go.Proofs.YtnmidmcmbehkbaaW.PrintMore
set_option linter.unusedVariables false
set_option linter.unusedSimpArgs false

theorem Own.eq {w : World} {b : Nat} {v : Value} {l l' : List Int} (h : Own w b v l) (e : l = l') : Own w b v l' := e ▸ h

set_option maxRecDepth 100000 in
set_option maxHeartbeats 4000000 in
theorem one_walk (v : Value) (l : List Int) (w : World) (hr : Rd w v l) (hb : ∀ x ∈ l, 0 ≤ x ∧ x ≤ 255) :
    Calls Try.prog 7 #[v] w fun e w' => e = .returned (.bool true) ∧ Below w.heap.size w w' := by
  have HB := Aside0.mk (Below.refl w.heap.size w)
  have HR := Aside0.mk hr
  obtain ⟨A, c, rfl, hc, hC⟩ := hr
  clear hC
  by_cases hl : l.length > 1000
  · go_enter Try.func7, Try.ntmps7
    go_wp2_with (first
      | ((with_reducible refine gate_dst (N := 10) rfl ?_); go_must (((try (refine gate_guard (by rfl) ?_; dsimp only)); refine goesL_ (some 10) rfl rfl Try.func23 (by kernel_rfl) rfl #[] rfl ?hA ?_; (case hA => ((try simp only [List.map_toArray, List.map_cons, List.map_nil]); first | done | rfl)); refine (alive01_calls _).mono ?_; rintro e w1 ⟨rfl, hb⟩; refine ⟨_, rfl, ?_⟩; replace HB := Aside0.mk (below_step HB.out hb); clear hb))))
    go_ret
    exact ⟨rfl, HB.out⟩
  · have HBL : Aside0 (BL l) := ⟨hb, by omega⟩
    have hl' : l.length ≤ 1000 := by omega
    clear hl
    obtain ⟨d1, hd1⟩ : ∃ d, doneR (numR l 0).2.1 (numR l 0).2.2 = d := ⟨_, rfl⟩
    have HD1 := Aside0.mk hd1
    have F1 : Aside0 (d1 = 0 → numL (numR l 0).1 = l) := ⟨fun h => one_num hb (hd1.trans h)⟩
    obtain ⟨n1, hn1⟩ : ∃ d, (numR l 0).1 = d := ⟨_, rfl⟩
    have HN1 := Aside0.mk hn1
    have L1 : Aside0 (n1 < 18446744073709551616) := ⟨by rw [← hn1]; exact numR_lt l 0 HBL.out⟩
    obtain ⟨d2, hd2⟩ : ∃ d, doneR (bytesR 1000 l 0).2.1 (bytesR 1000 l 0).2.2 = d := ⟨_, rfl⟩
    have HD2 := Aside0.mk hd2
    have F2 : Aside0 (d2 = 0 → numL (bytesR 1000 l 0).1.length ++ (bytesR 1000 l 0).1 = l) := ⟨fun h => one_bytes hb (hd2.trans h)⟩
    rw [hn1] at F1
    clear hd1 hd2 hn1 hb
    obtain ⟨b1, hb1⟩ : ∃ b, (d1 == 0) = b := ⟨_, rfl⟩
    obtain ⟨b2, hb2⟩ : ∃ b, (d2 == 0) = b := ⟨_, rfl⟩
    have G1 : Aside0 (b1 = true → numL n1 = l) := ⟨fun h => F1.out (by rw [h] at hb1; simpa using hb1)⟩
    have G2 : Aside0 (b2 = true → numL (bytesR 1000 l 0).1.length ++ (bytesR 1000 l 0).1 = l) := ⟨fun h => F2.out (by rw [h] at hb2; simpa using hb2)⟩
    clear F1 F2
    have X1 := Aside0.mk (unzz_range n1 L1.out)
    have X2 : Aside0 ((numL n1).length ≤ 10) := ⟨numL_le n1 L1.out⟩
    have X3 := Aside0.mk (bytesR_len 1000 l 0)
    cases b1 <;> cases b2
    all_goals
      go_enter Try.func7, Try.ntmps7
      go_wp2_with (first
        | ((with_reducible refine gate_dst (N := 12) rfl ?_); go_must (((try (refine gate_guard (by rfl) ?_; dsimp only)); refine goesL_ (some 12) rfl rfl Try.func34 (by kernel_rfl) rfl #[.slice A l.length c] rfl ?hA ?_; (case hA => ((try simp only [List.map_toArray, List.map_cons, List.map_nil]); first | done | rfl)); refine (read_calls _ l _ _ (HR.out.below HB.out) HBL.out (Below.refl _ _)).mono ?_; rintro e w12 ⟨g, rfl, hr, hg, hb⟩; refine ⟨_, rfl, ?_⟩; have HBs := HB; have HRr := Aside0.mk hr; have HBr := Aside0.mk hb; replace HB := Aside0.mk (below_step HB.out hb); clear hr hb hg)))
        | ((with_reducible refine gate_dst (N := 14) rfl ?_); go_must (((try (refine gate_guard (by rfl) ?_; dsimp only)); refine goesL_ (some 14) rfl rfl Try.func35 (by kernel_rfl) rfl #[.pointer (some ⟨g, 0, none⟩)] rfl ?hA ?_; (case hA => ((try simp only [List.map_toArray, List.map_cons, List.map_nil]); first | done | rfl)); refine (rnum_calls g l 0 _ _ HRr.out HBr.out).mono ?_; rintro e w14 ⟨rfl, hr, hs⟩; refine ⟨_, rfl, ?_⟩; rw [HN1.out]; replace HRr := Aside0.mk hr; replace HB := Aside0.mk (HBs.out.trans (hs.below.mono HBs.out.size)); clear hr hs)))
        | ((with_reducible refine gate_dst (N := 16) rfl ?_); go_must (((try (refine gate_guard (by rfl) ?_; dsimp only)); refine goesL_ (some 16) rfl rfl Try.func36 (by kernel_rfl) rfl #[.pointer (some ⟨g, 0, none⟩)] rfl ?hA ?_; (case hA => ((try simp only [List.map_toArray, List.map_cons, List.map_nil]); first | done | rfl)); refine (done_calls g _ _ _ _ HRr.out).mono ?_; rintro e w16 ⟨rfl, hd⟩; refine ⟨_, rfl, ?_⟩; rw [HD1.out]; replace HB := Aside0.mk (below_step HB.out hd.below); clear hd HRr)))
        | ((with_reducible refine gate_dst (N := 20) rfl ?_); go_must (((try (refine gate_guard (by rfl) ?_; dsimp only)); refine goesL_ (some 20) rfl rfl Try.func25 (by kernel_rfl) rfl #[.slice none 0 0, .int .u64 n1] rfl ?hA ?_; (case hA => ((try simp only [List.map_toArray, List.map_cons, List.map_nil]); first | done | rfl)); refine (num_calls _ [] n1 _ (Rd.nil _) (by have := X2.out; simp; omega)).mono ?_; rintro e w20 ⟨v20, rfl, ho, hb⟩; refine ⟨_, rfl, ?_⟩; have HO20 := Aside0.mk (ho.eq (G1.out rfl)); replace HB := Aside0.mk (below_step HB.out hb); clear ho hb)))
        | ((with_reducible refine gate_dst (N := 22) rfl ?_); go_must (((try (refine gate_guard (by rfl) ?_; dsimp only)); refine goesL_ (some 22) rfl rfl Try.func24 (by kernel_rfl) rfl #[v20, .slice A l.length c] rfl ?hA ?_; (case hA => ((try simp only [List.map_toArray, List.map_cons, List.map_nil]); first | done | rfl)); refine (same_true _ _ l _ HO20.out.rd (HR.out.below HB.out)).mono ?_; rintro e w22 ⟨rfl, hb⟩; refine ⟨_, rfl, ?_⟩; replace HB := Aside0.mk (below_step HB.out hb); clear hb HO20)))
        | ((with_reducible refine gate_dst (N := 26) rfl ?_); go_must (((try (refine gate_guard (by rfl) ?_; dsimp only)); refine goesL_ (some 26) rfl rfl Try.func34 (by kernel_rfl) rfl #[.slice A l.length c] rfl ?hA ?_; (case hA => ((try simp only [List.map_toArray, List.map_cons, List.map_nil]); first | done | rfl)); refine (read_calls _ l _ _ (HR.out.below HB.out) HBL.out (Below.refl _ _)).mono ?_; rintro e w26 ⟨g2, rfl, hr, hg, hb⟩; refine ⟨_, rfl, ?_⟩; have HBs2 := HB; have HRr2 := Aside0.mk hr; have HBr2 := Aside0.mk hb; replace HB := Aside0.mk (below_step HB.out hb); clear hr hb hg)))
        | ((with_reducible refine gate_dst (N := 28) rfl ?_); go_must (((try (refine gate_guard (by rfl) ?_; dsimp only)); refine goesL_ (some 28) rfl rfl Try.func37 (by kernel_rfl) rfl #[.pointer (some ⟨g2, 0, none⟩)] rfl ?hA ?_; (case hA => ((try simp only [List.map_toArray, List.map_cons, List.map_nil]); first | done | rfl)); refine (rint_calls g2 l 0 _ _ HRr2.out HBr2.out).mono ?_; rintro e w28 ⟨rfl, hr, hs⟩; refine ⟨_, rfl, ?_⟩; rw [HN1.out]; replace HRr2 := Aside0.mk hr; replace HB := Aside0.mk (HBs2.out.trans (hs.below.mono HBs2.out.size)); clear hr hs)))
        | ((with_reducible refine gate_dst (N := 30) rfl ?_); go_must (((try (refine gate_guard (by rfl) ?_; dsimp only)); refine goesL_ (some 30) rfl rfl Try.func36 (by kernel_rfl) rfl #[.pointer (some ⟨g2, 0, none⟩)] rfl ?hA ?_; (case hA => ((try simp only [List.map_toArray, List.map_cons, List.map_nil]); first | done | rfl)); refine (done_calls g2 _ _ _ _ HRr2.out).mono ?_; rintro e w30 ⟨rfl, hd⟩; refine ⟨_, rfl, ?_⟩; rw [HD1.out]; replace HB := Aside0.mk (below_step HB.out hd.below); clear hd HRr2)))
        | ((with_reducible refine gate_dst (N := 34) rfl ?_); go_must (((try (refine gate_guard (by rfl) ?_; dsimp only)); refine goesL_ (some 34) rfl rfl Try.func27 (by kernel_rfl) rfl #[.slice none 0 0, .int .i64 (unzz n1)] rfl ?hA ?_; (case hA => ((try simp only [List.map_toArray, List.map_cons, List.map_nil]); first | done | rfl)); refine (int_calls _ [] (unzz n1) _ (Rd.nil _) X1.out.1 X1.out.2 (by rw [zz_unzz]; have := X2.out; simp; omega)).mono ?_; rintro e w34 ⟨v34, rfl, ho, hb⟩; refine ⟨_, rfl, ?_⟩; have HO34 := Aside0.mk (ho.eq (l' := l) (by rw [zz_unzz]; exact G1.out rfl)); replace HB := Aside0.mk (below_step HB.out hb); clear ho hb)))
        | ((with_reducible refine gate_dst (N := 36) rfl ?_); go_must (((try (refine gate_guard (by rfl) ?_; dsimp only)); refine goesL_ (some 36) rfl rfl Try.func24 (by kernel_rfl) rfl #[v34, .slice A l.length c] rfl ?hA ?_; (case hA => ((try simp only [List.map_toArray, List.map_cons, List.map_nil]); first | done | rfl)); refine (same_true _ _ l _ HO34.out.rd (HR.out.below HB.out)).mono ?_; rintro e w36 ⟨rfl, hb⟩; refine ⟨_, rfl, ?_⟩; replace HB := Aside0.mk (below_step HB.out hb); clear hb HO34)))
        | ((with_reducible refine gate_dst (N := 40) rfl ?_); go_must (((try (refine gate_guard (by rfl) ?_; dsimp only)); refine goesL_ (some 40) rfl rfl Try.func34 (by kernel_rfl) rfl #[.slice A l.length c] rfl ?hA ?_; (case hA => ((try simp only [List.map_toArray, List.map_cons, List.map_nil]); first | done | rfl)); refine (read_calls _ l _ _ (HR.out.below HB.out) HBL.out (Below.refl _ _)).mono ?_; rintro e w40 ⟨g3, rfl, hr, hg, hb⟩; refine ⟨_, rfl, ?_⟩; have HBs3 := HB; have HRr3 := Aside0.mk hr; have HBr3 := Aside0.mk hb; replace HB := Aside0.mk (below_step HB.out hb); clear hr hb hg)))
        | ((with_reducible refine gate_dst (N := 42) rfl ?_); go_must (((try (refine gate_guard (by rfl) ?_; dsimp only)); refine goesL_ (some 42) rfl rfl Try.func38 (by kernel_rfl) rfl #[.pointer (some ⟨g3, 0, none⟩), .int .i64 1000] rfl ?hA ?_; (case hA => ((try simp only [List.map_toArray, List.map_cons, List.map_nil]); first | done | rfl)); refine (rbytes_calls g3 1000 l 0 _ _ HRr3.out HBr3.out).mono ?_; rintro e w42 ⟨v42, rfl, ho, hr, hs⟩; refine ⟨_, rfl, ?_⟩; have HO42 := Aside0.mk ho; replace HRr3 := Aside0.mk hr; replace HB := Aside0.mk (HBs3.out.trans (hs.below.mono HBs3.out.size)); clear ho hr hs)))
        | ((with_reducible refine gate_dst (N := 44) rfl ?_); go_must (((try (refine gate_guard (by rfl) ?_; dsimp only)); refine goesL_ (some 44) rfl rfl Try.func36 (by kernel_rfl) rfl #[.pointer (some ⟨g3, 0, none⟩)] rfl ?hA ?_; (case hA => ((try simp only [List.map_toArray, List.map_cons, List.map_nil]); first | done | rfl)); refine (done_calls g3 _ _ _ _ HRr3.out).mono ?_; rintro e w44 ⟨rfl, hd⟩; refine ⟨_, rfl, ?_⟩; rw [HD2.out]; replace HO42 := Aside0.mk (HO42.out.below hd.below); replace HB := Aside0.mk (below_step HB.out hd.below); clear hd HRr3)))
        | ((with_reducible refine gate_dst (N := 48) rfl ?_); go_must (((try (refine gate_guard (by rfl) ?_; dsimp only)); refine goesL_ (some 48) rfl rfl Try.func29 (by kernel_rfl) rfl #[.slice none 0 0, v42] rfl ?hA ?_; (case hA => ((try simp only [List.map_toArray, List.map_cons, List.map_nil]); first | done | rfl)); refine (bytes_calls _ _ [] _ _ (Rd.nil _) HO42.out.rd (by have := X3.out; have := numL_le (bytesR 1000 l 0).1.length (by omega); simp; omega)).mono ?_; rintro e w48 ⟨v48, rfl, ho, hb⟩; refine ⟨_, rfl, ?_⟩; have HO48 := Aside0.mk (ho.eq (l' := l) (G2.out rfl)); replace HB := Aside0.mk (below_step HB.out hb); clear ho hb)))
        | ((with_reducible refine gate_dst (N := 50) rfl ?_); go_must (((try (refine gate_guard (by rfl) ?_; dsimp only)); refine goesL_ (some 50) rfl rfl Try.func24 (by kernel_rfl) rfl #[v48, .slice A l.length c] rfl ?hA ?_; (case hA => ((try simp only [List.map_toArray, List.map_cons, List.map_nil]); first | done | rfl)); refine (same_true _ _ l _ HO48.out.rd (HR.out.below HB.out)).mono ?_; rintro e w50 ⟨rfl, hb⟩; refine ⟨_, rfl, ?_⟩; replace HB := Aside0.mk (below_step HB.out hb); clear hb HO48)))
        | ((with_reducible refine gate_dst (N := 53) rfl ?_); go_must (((try (refine gate_guard (by rfl) ?_; dsimp only)); refine goesL_ (some 53) rfl rfl Try.func23 (by kernel_rfl) rfl #[] rfl ?hA ?_; (case hA => ((try simp only [List.map_toArray, List.map_cons, List.map_nil]); first | done | rfl)); refine (alive01_calls _).mono ?_; rintro e w53 ⟨rfl, hb⟩; refine ⟨_, rfl, ?_⟩; replace HB := Aside0.mk (below_step HB.out hb); clear hb))))
      go_ret
      exact ⟨rfl, HB.out⟩
end Go.Proofs.Ytnmidmcmbehkbaa.K

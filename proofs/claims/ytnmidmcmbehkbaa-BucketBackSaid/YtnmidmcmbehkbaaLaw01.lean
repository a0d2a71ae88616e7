/- cachettelaw01: alive. -/
import Derived.Test.YtnmidmcmbehkbaaRef01
namespace Go.Proofs.Ytnmidmcmbehkbaa.K
open Go.RowKit Go.Proofs.YtnmidmcmbehkbaaW.PrintWords Go.Proofs.YtnmidmcmbehkbaaW.PrintLast Go.Proofs.YtnmidmcmbehkbaaW.PrintMore
set_option linter.unusedVariables false
set_option linter.unusedSimpArgs false

theorem same_true (v0 v1 : Value) (l : List Int) (w : World) (hr0 : Rd w v0 l) (hr1 : Rd w v1 l) :
    Calls Try.prog 24 #[v0, v1] w fun e w' => e = .returned (.bool true) ∧ Below w.heap.size w w' :=
  (same_calls v0 v1 l l w hr0 hr1).mono fun _ _ ⟨he, hd⟩ => ⟨by rw [he]; simp, hd.below⟩
theorem numL_300 : numL 300 = [172, 2] := by rw [numL_big (by decide), numL_small (by decide)]; rfl
theorem numL_1 : numL (zz (-1)) = [1] := by rw [show zz (-1) = 1 from rfl, numL_small (by decide)]; rfl
theorem numR_300 : numR [172, 2] 0 = (300, [], 0) := by decide

set_option maxRecDepth 100000 in
set_option maxHeartbeats 1000000 in
theorem alive01_calls (w : World) :
    Calls Try.prog 23 #[] w fun e w' => e = .returned (.bool true) ∧ Below w.heap.size w w' := by
  have HB := Aside0.mk (Below.refl w.heap.size w)
  go_enter Try.func23, Try.ntmps23
  go_wp2_with (first
    | ((with_reducible refine gate_dst (N := 1) rfl ?_); go_must (((try (refine gate_guard (by rfl) ?_; dsimp only)); refine goesL_ (some 1) rfl rfl Try.func25 (by kernel_rfl) rfl #[.slice none 0 0, .int .u64 300] rfl ?hA ?_; (case hA => ((try simp only [List.map_toArray, List.map_cons, List.map_nil]); first | done | rfl)); refine (num_calls _ [] 300 _ (Rd.nil _) (by rw [numL_300]; simp)).mono ?_; rintro e w1 ⟨v, rfl, ho, hb⟩; refine ⟨_, rfl, ?_⟩; rw [numL_300] at ho; have HO1 := Aside0.mk ho; replace HB := Aside0.mk (below_step HB.out hb); clear ho hb)))
    | ((with_reducible refine gate_dst (N := 2) rfl ?_); go_must (((try (refine gate_guard (by rfl) ?_; dsimp only)); refine lit_bytes (w0 := w) (w).heap.size 2 ?hg ?hd ([172, 2]) ?hr ?hm HB.out HB.out.size ?_; (case hd => rfl); (case hg => rfl); (case hr => first | (go_simp; done) | (go_simp; rfl)); (case hm => simp); intro vHO2 wHO2 ho hb hbw; have HO2 := Aside0.mk ho; replace HO1 := Aside0.mk (HO1.out.below hbw); clear HB; have HB := Aside0.mk hb; clear ho hb hbw)))
    | ((with_reducible refine gate_dst (N := 3) rfl ?_); go_must (((try (refine gate_guard (by rfl) ?_; dsimp only)); refine goesL_ (some 3) rfl rfl Try.func24 (by kernel_rfl) rfl #[v, vHO2] rfl ?hA ?_; (case hA => ((try simp only [List.map_toArray, List.map_cons, List.map_nil]); first | done | rfl)); refine (same_true _ _ [172, 2] _ HO1.out.rd HO2.out.rd).mono ?_; rintro e w3 ⟨rfl, hb⟩; refine ⟨_, rfl, ?_⟩; replace HB := Aside0.mk (below_step HB.out hb); clear hb)))
    | ((with_reducible refine gate_dst (N := 5) rfl ?_); go_must (((try (refine gate_guard (by rfl) ?_; dsimp only)); refine lit_bytes (w0 := w) (w).heap.size 5 ?hg ?hd ([9]) ?hr ?hm HB.out HB.out.size ?_; (case hd => rfl); (case hg => rfl); (case hr => first | (go_simp; done) | (go_simp; rfl)); (case hm => simp); intro vHO5 wHO5 ho hb hbw; have HO5 := Aside0.mk ho; clear HB; have HB := Aside0.mk hb; clear ho hb hbw)))
    | ((with_reducible refine gate_dst (N := 6) rfl ?_); go_must (((try (refine gate_guard (by rfl) ?_; dsimp only)); refine goesL_ (some 6) rfl rfl Try.func27 (by kernel_rfl) rfl #[vHO5, .int .i64 (-1)] rfl ?hA ?_; (case hA => ((try simp only [List.map_toArray, List.map_cons, List.map_nil]); first | done | rfl)); refine (int_calls _ [9] (-1) _ HO5.out.rd (by decide) (by decide) (by rw [numL_1]; simp)).mono ?_; rintro e w6 ⟨v6, rfl, ho, hb⟩; refine ⟨_, rfl, ?_⟩; rw [numL_1] at ho; have HO6 := Aside0.mk ho; replace HB := Aside0.mk (below_step HB.out hb); clear ho hb)))
    | ((with_reducible refine gate_dst (N := 7) rfl ?_); go_must (((try (refine gate_guard (by rfl) ?_; dsimp only)); refine lit_bytes (w0 := w) (w).heap.size 7 ?hg ?hd ([9, 1]) ?hr ?hm HB.out HB.out.size ?_; (case hd => rfl); (case hg => rfl); (case hr => first | (go_simp; done) | (go_simp; rfl)); (case hm => simp); intro vHO7 wHO7 ho hb hbw; have HO7 := Aside0.mk ho; replace HO6 := Aside0.mk (HO6.out.below hbw); clear HB; have HB := Aside0.mk hb; clear ho hb hbw)))
    | ((with_reducible refine gate_dst (N := 8) rfl ?_); go_must (((try (refine gate_guard (by rfl) ?_; dsimp only)); refine goesL_ (some 8) rfl rfl Try.func24 (by kernel_rfl) rfl #[v6, vHO7] rfl ?hA ?_; (case hA => ((try simp only [List.map_toArray, List.map_cons, List.map_nil]); first | done | rfl)); refine (same_true _ _ [9, 1] _ HO6.out.rd HO7.out.rd).mono ?_; rintro e w8 ⟨rfl, hb⟩; refine ⟨_, rfl, ?_⟩; replace HB := Aside0.mk (below_step HB.out hb); clear hb)))
    | ((with_reducible refine gate_dst (N := 11) rfl ?_); go_must (((try (refine gate_guard (by rfl) ?_; dsimp only)); refine lit_bytes (w0 := w) (w).heap.size 11 ?hg ?hd ([172, 2]) ?hr ?hm HB.out HB.out.size ?_; (case hd => rfl); (case hg => rfl); (case hr => first | (go_simp; done) | (go_simp; rfl)); (case hm => simp); intro vHO11 wHO11 ho hb hbw; have HO11 := Aside0.mk ho; clear HB; have HB := Aside0.mk hb; clear ho hb hbw)))
    | ((with_reducible refine gate_dst (N := 12) rfl ?_); go_must (((try (refine gate_guard (by rfl) ?_; dsimp only)); refine goesL_ (some 12) rfl rfl Try.func34 (by kernel_rfl) rfl #[vHO11] rfl ?hA ?_; (case hA => ((try simp only [List.map_toArray, List.map_cons, List.map_nil]); first | done | rfl)); refine (read_calls _ [172, 2] _ _ HO11.out.rd (by simp [BL]) (Below.refl _ _)).mono ?_; rintro e w12 ⟨g, rfl, hr, hg, hb⟩; refine ⟨_, rfl, ?_⟩; have HBs := HB; have HR12 := Aside0.mk hr; have HB12 := Aside0.mk hb; replace HB := Aside0.mk (below_step HB.out hb); clear hr hb)))
    | ((with_reducible refine gate_dst (N := 13) rfl ?_); go_must (((try (refine gate_guard (by rfl) ?_; dsimp only)); refine goesL_ (some 13) rfl rfl Try.func35 (by kernel_rfl) rfl #[.pointer (some ⟨g, 0, none⟩)] rfl ?hA ?_; (case hA => ((try simp only [List.map_toArray, List.map_cons, List.map_nil]); first | done | rfl)); refine (rnum_calls g [172, 2] 0 _ _ HR12.out HB12.out).mono ?_; rintro e w13 ⟨rfl, hr, hs⟩; refine ⟨_, rfl, ?_⟩; rw [numR_300]; replace HB := Aside0.mk (HBs.out.trans (hs.below.mono HBs.out.size)); clear hr hs))))
  go_ret
  exact ⟨rfl, HB.out⟩
end Go.Proofs.Ytnmidmcmbehkbaa.K

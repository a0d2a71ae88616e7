/- Functions of the program as Lean functions, each with the proof that the call comes to it: written by a program (wip/xprint.sh, out of the kit's print.py). -/
import Derived.Test.YtginodjiaohcmaaX0
import Derived.Test.YtginodjiaohcmaaX1
import Derived.Test.YtginodjiaohcmaaX2
namespace Go.Proofs.Ytginodjiaohcmaa.X
open Go.RowKit Go.Proofs.YtginodjiaohcmaaW.PrintWords Go.Proofs.YtginodjiaohcmaaW.PrintLast Go.Proofs.YtginodjiaohcmaaW.PrintMore
attribute [local go_sem] max2_int min2_int max_two min_two max_three min_three max_four min_four   -- for this text's walks alone
set_option linter.unusedVariables false
set_option linter.unusedSimpArgs false

attribute [local go_sem high] eqA23
/-! ### cachetteref15_Right: function 15 -/
def cachetteref15_Right.j0 : Nat → Bool → Int → Int → Int → Int → Int → Int → Int → Bool → ByteArray → List Int → Option (Bool)
  | 0, _, _, _, _, _, _, _, _, _, _, _ => none
  | k + 1, x32, x120000, x120001, x120002, x120003, x120004, x120005, x120006, x120007, x120008, x120009 => if x32 = true then (some false) else (if x120000 = 1 then (if (x120003 == x120001 && (x120004 == x120002)) = true then ((cachetteref15_place.f x120005 x120006).bind fun t122 => (if t122 = true then ((cachetteref15_Name.f k x120008).bind fun t123 => (some t123)) else (some false))) else (some false)) else (if x120000 = 2 then ((cachetteref15_place.f x120005 x120006).bind fun t124 => (if t124 = true then ((cachetteref15_Name.f k x120008).bind fun t125 => (some t125)) else (some false))) else (if x120000 = 3 then (if (x120005 == 0 && (x120006 == 0)) = true then (some (x120008.toList == ([] : List UInt8))) else (some false)) else (if x120000 = 4 then (if (x120005 == 0 && (x120006 == 0)) = true then (if x120008.toList = ([] : List UInt8) then (some (decide ((x120009.length : Int) ≤ 400))) else (some false)) else (some false)) else (some false)))))
def cachetteref15_Right.f (k : Nat) (a0_0 : Int) (a0_1 : Int) (a0_2 : Int) (a0_3 : Int) (a0_4 : Int) (a0_5 : Int) (a0_6 : Int) (a0_7 : Bool) (a0_8 : ByteArray) (l0_9 : List Int) : Option (Bool) := (cachetteref04_Right.f a0_1 a0_2).bind fun t120 => (if t120 = true then ((cachetteref04_Right.f a0_3 a0_4).bind fun t121 => (if t121 = true then (if a0_0 = 4 then (if a0_0 = 1 then (cachetteref15_Right.j0 k false a0_0 a0_1 a0_2 a0_3 a0_4 a0_5 a0_6 a0_7 a0_8 l0_9) else (cachetteref15_Right.j0 k a0_7 a0_0 a0_1 a0_2 a0_3 a0_4 a0_5 a0_6 a0_7 a0_8 l0_9)) else (if (l0_9.length : Int) > 0 then (cachetteref15_Right.j0 k true a0_0 a0_1 a0_2 a0_3 a0_4 a0_5 a0_6 a0_7 a0_8 l0_9) else (if a0_0 = 1 then (cachetteref15_Right.j0 k false a0_0 a0_1 a0_2 a0_3 a0_4 a0_5 a0_6 a0_7 a0_8 l0_9) else (cachetteref15_Right.j0 k a0_7 a0_0 a0_1 a0_2 a0_3 a0_4 a0_5 a0_6 a0_7 a0_8 l0_9)))) else (cachetteref15_Right.j0 k true a0_0 a0_1 a0_2 a0_3 a0_4 a0_5 a0_6 a0_7 a0_8 l0_9))) else (cachetteref15_Right.j0 k true a0_0 a0_1 a0_2 a0_3 a0_4 a0_5 a0_6 a0_7 a0_8 l0_9))
theorem cachetteref15_Right.mono_l : ∀ k, (∀ y0 y1 y2 y3 y4 y5 y6 y7 y8 y9 y10, LeO (cachetteref15_Right.j0 k y0 y1 y2 y3 y4 y5 y6 y7 y8 y9 y10) (cachetteref15_Right.j0 (k + 1) y0 y1 y2 y3 y4 y5 y6 y7 y8 y9 y10))
  | 0 => fun _ _ _ _ _ _ _ _ _ _ _ r h => by simp [cachetteref15_Right.j0] at h
  | k + 1 => by
    have ih0 := cachetteref15_Right.mono_l k
    · intro y0 y1 y2 y3 y4 y5 y6 y7 y8 y9 y10
      unfold cachetteref15_Right.j0
      repeat' first
      | (with_reducible exact ih0 _ _ _ _ _ _ _ _ _ _ _)
      | (with_reducible exact cachetteref15_Name.mono _ _)
      | (with_reducible exact LeO.refl _)
      | (with_reducible exact LeO.none _)
      | (with_reducible refine LeO.ite ?_ ?_)
      | (with_reducible refine LeO.bind ?_ (fun _ => ?_))
      | exact ih0 _ _ _ _ _ _ _ _ _ _ _
      | exact cachetteref15_Name.mono _ _
      | exact LeO.none _
      | refine LeO.ite ?_ ?_
      | refine LeO.bind ?_ (fun _ => ?_)
theorem cachetteref15_Right.mono : ∀ a0 a1 a2 a3 a4 a5 a6 a7 a8 a9 k, LeO (cachetteref15_Right.f k a0 a1 a2 a3 a4 a5 a6 a7 a8 a9) (cachetteref15_Right.f (k + 1) a0 a1 a2 a3 a4 a5 a6 a7 a8 a9) := by
  intro a0 a1 a2 a3 a4 a5 a6 a7 a8 a9 k
  have ih0 := cachetteref15_Right.mono_l k
  unfold cachetteref15_Right.f
  repeat' first
      | (with_reducible exact ih0 _ _ _ _ _ _ _ _ _ _ _)
      | (with_reducible exact cachetteref15_Name.mono _ _)
      | (with_reducible exact LeO.refl _)
      | (with_reducible exact LeO.none _)
      | (with_reducible refine LeO.ite ?_ ?_)
      | (with_reducible refine LeO.bind ?_ (fun _ => ?_))
      | exact ih0 _ _ _ _ _ _ _ _ _ _ _
      | exact cachetteref15_Name.mono _ _
      | exact LeO.none _
      | refine LeO.ite ?_ ?_
      | refine LeO.bind ?_ (fun _ => ?_)
set_option maxHeartbeats 8000000 in
set_option maxRecDepth 100000 in
theorem cachetteref15_Right.calls (k : Nat) (a0_0 : Int) (a0_1 : Int) (a0_2 : Int) (a0_3 : Int) (a0_4 : Int) (a0_5 : Int) (a0_6 : Int) (a0_7 : Bool) (a0_8 : ByteArray) (A0_9 : Option Addr) (c0_9 : Nat) (l0_9 : List Int) (r : Bool) (w : World) (hr0_9 : Kd.C (Kd.int .u8) w A0_9 l0_9.length l0_9) (hc0_9 : l0_9.length ≤ c0_9) (h : cachetteref15_Right.f k a0_0 a0_1 a0_2 a0_3 a0_4 a0_5 a0_6 a0_7 a0_8 l0_9 = some r) :
    Calls Try.prog 15 #[.agg #[.int .i64 a0_0, .int .i64 a0_1, .int .i64 a0_2, .int .i64 a0_3, .int .i64 a0_4, .int .i64 a0_5, .int .i64 a0_6, .bool a0_7, .string a0_8, .slice A0_9 l0_9.length c0_9]] w fun e w' => e = .returned (.bool r) ∧ Below w.heap.size w w' := by
  have hu26 := Try.underlying26
  have hu23 := Try.underlying23
  have HR0_9 := Aside0.mk hr0_9
  have HC0_9 := Aside0.mk hc0_9
  clear hr0_9 hc0_9
  have HB := Aside0.mk (Below.refl w.heap.size w)
  have H : ((cachetteref04_Right.f a0_1 a0_2).bind fun t120 => (if t120 = true then ((cachetteref04_Right.f a0_3 a0_4).bind fun t121 => (if t121 = true then (if a0_0 = 4 then (if a0_0 = 1 then (cachetteref15_Right.j0 k false a0_0 a0_1 a0_2 a0_3 a0_4 a0_5 a0_6 a0_7 a0_8 l0_9) else (cachetteref15_Right.j0 k a0_7 a0_0 a0_1 a0_2 a0_3 a0_4 a0_5 a0_6 a0_7 a0_8 l0_9)) else (if (l0_9.length : Int) > 0 then (cachetteref15_Right.j0 k true a0_0 a0_1 a0_2 a0_3 a0_4 a0_5 a0_6 a0_7 a0_8 l0_9) else (if a0_0 = 1 then (cachetteref15_Right.j0 k false a0_0 a0_1 a0_2 a0_3 a0_4 a0_5 a0_6 a0_7 a0_8 l0_9) else (cachetteref15_Right.j0 k a0_7 a0_0 a0_1 a0_2 a0_3 a0_4 a0_5 a0_6 a0_7 a0_8 l0_9)))) else (cachetteref15_Right.j0 k true a0_0 a0_1 a0_2 a0_3 a0_4 a0_5 a0_6 a0_7 a0_8 l0_9))) else (cachetteref15_Right.j0 k true a0_0 a0_1 a0_2 a0_3 a0_4 a0_5 a0_6 a0_7 a0_8 l0_9))) = some r := h
  clear h
  have HC2 := Aside0.mk H
  clear H
  go_enter Try.func15, Try.ntmps15
  go_upto_region 1 with (first | ((with_reducible refine gate_dst (N := 1) rfl ?_); (try (refine gate_guard (by rfl) ?_; dsimp only)); refine box_event ?hg (N := 1) ?hd (cs := #[.int .i64 a0_0, .int .i64 a0_1, .int .i64 a0_2, .int .i64 a0_3, .int .i64 a0_4, .int .i64 a0_5, .int .i64 a0_6, .bool a0_7, .string a0_8, .slice A0_9 l0_9.length c0_9]) (t := 26) ?hr ?_; (case hd => rfl); (case hg => rfl); (case hr => first | (go_simp; done) | (go_simp; rfl)); intro gb119 hg w3 hbox hb; have n0_ := Aside0.mk (below_step (by repeat (first | (with_reducible first | exact HB.out | apply below_alloc | apply pw_below_drewN | apply below_drew1) | exact HB.out)) hb); have n1_ := Aside0.mk (hbox); have n2_ := Aside0.mk ((by rw [hg]; exact (below_size (by repeat (first | (with_reducible first | exact HB.out | apply below_alloc | apply pw_below_drewN | apply below_drew1) | exact HB.out))) : w.heap.size ≤ gb119)); have n3_ := Aside0.mk ((by rw [hg]; exact (below_size (by repeat (first | (with_reducible first | exact HB.out | apply below_alloc | apply pw_below_drewN | apply below_drew1) | exact HB.out))) : w.heap.size ≤ gb119)); clear HB; have HB := n0_; have BK119 := n1_; have GW119 := n2_; have GE119 := n3_; clear n0_ n1_ n2_ n3_; clear hb hbox hg))
  (try simp only [Act.put, List.setIfInBounds_toArray, List.set_cons_zero, List.set_cons_succ])
  go_cut [32] (fun v32 wc => ∃ (kq : Nat) (x32_1 : Bool), v32 = .bool x32_1 ∧ Aside0 (cachetteref15_Right.j0 kq x32_1 a0_0 a0_1 a0_2 a0_3 a0_4 a0_5 a0_6 a0_7 a0_8 l0_9 = some r) ∧ Aside0 (kq ≤ k) ∧ Aside0 (wc.heap[gb119]? = some (.cells #[.int .i64 a0_0, .int .i64 a0_1, .int .i64 a0_2, .int .i64 a0_3, .int .i64 a0_4, .int .i64 a0_5, .int .i64 a0_6, .bool a0_7, .string a0_8, (.slice A0_9 l0_9.length c0_9)] 26 (0, 0))) ∧ Aside0 (Below w.heap.size w wc))
  case first =>
    have H := HC2.out
    clear HC2
    replace H := Option.bind_eq_some_iff.mp H
    obtain ⟨t120, A40, H⟩ := H
    replace H : (if t120 = true then ((cachetteref04_Right.f a0_3 a0_4).bind fun t121 => (if t121 = true then (if a0_0 = 4 then (if a0_0 = 1 then (cachetteref15_Right.j0 k false a0_0 a0_1 a0_2 a0_3 a0_4 a0_5 a0_6 a0_7 a0_8 l0_9) else (cachetteref15_Right.j0 k a0_7 a0_0 a0_1 a0_2 a0_3 a0_4 a0_5 a0_6 a0_7 a0_8 l0_9)) else (if (l0_9.length : Int) > 0 then (cachetteref15_Right.j0 k true a0_0 a0_1 a0_2 a0_3 a0_4 a0_5 a0_6 a0_7 a0_8 l0_9) else (if a0_0 = 1 then (cachetteref15_Right.j0 k false a0_0 a0_1 a0_2 a0_3 a0_4 a0_5 a0_6 a0_7 a0_8 l0_9) else (cachetteref15_Right.j0 k a0_7 a0_0 a0_1 a0_2 a0_3 a0_4 a0_5 a0_6 a0_7 a0_8 l0_9)))) else (cachetteref15_Right.j0 k true a0_0 a0_1 a0_2 a0_3 a0_4 a0_5 a0_6 a0_7 a0_8 l0_9))) else (cachetteref15_Right.j0 k true a0_0 a0_1 a0_2 a0_3 a0_4 a0_5 a0_6 a0_7 a0_8 l0_9)) = some r := H
    have A4 := Aside0.mk A40
    clear A40
    by_cases c5 : t120 = true
    · subst c5
      have H1 : ((cachetteref04_Right.f a0_3 a0_4).bind fun t121 => (if t121 = true then (if a0_0 = 4 then (if a0_0 = 1 then (cachetteref15_Right.j0 k false a0_0 a0_1 a0_2 a0_3 a0_4 a0_5 a0_6 a0_7 a0_8 l0_9) else (cachetteref15_Right.j0 k a0_7 a0_0 a0_1 a0_2 a0_3 a0_4 a0_5 a0_6 a0_7 a0_8 l0_9)) else (if (l0_9.length : Int) > 0 then (cachetteref15_Right.j0 k true a0_0 a0_1 a0_2 a0_3 a0_4 a0_5 a0_6 a0_7 a0_8 l0_9) else (if a0_0 = 1 then (cachetteref15_Right.j0 k false a0_0 a0_1 a0_2 a0_3 a0_4 a0_5 a0_6 a0_7 a0_8 l0_9) else (cachetteref15_Right.j0 k a0_7 a0_0 a0_1 a0_2 a0_3 a0_4 a0_5 a0_6 a0_7 a0_8 l0_9)))) else (cachetteref15_Right.j0 k true a0_0 a0_1 a0_2 a0_3 a0_4 a0_5 a0_6 a0_7 a0_8 l0_9))) = some r := by rw [if_pos rfl] at H; exact H
      clear H
      have H := H1
      clear H1
      replace H := Option.bind_eq_some_iff.mp H
      obtain ⟨t121, A60, H⟩ := H
      replace H : (if t121 = true then (if a0_0 = 4 then (if a0_0 = 1 then (cachetteref15_Right.j0 k false a0_0 a0_1 a0_2 a0_3 a0_4 a0_5 a0_6 a0_7 a0_8 l0_9) else (cachetteref15_Right.j0 k a0_7 a0_0 a0_1 a0_2 a0_3 a0_4 a0_5 a0_6 a0_7 a0_8 l0_9)) else (if (l0_9.length : Int) > 0 then (cachetteref15_Right.j0 k true a0_0 a0_1 a0_2 a0_3 a0_4 a0_5 a0_6 a0_7 a0_8 l0_9) else (if a0_0 = 1 then (cachetteref15_Right.j0 k false a0_0 a0_1 a0_2 a0_3 a0_4 a0_5 a0_6 a0_7 a0_8 l0_9) else (cachetteref15_Right.j0 k a0_7 a0_0 a0_1 a0_2 a0_3 a0_4 a0_5 a0_6 a0_7 a0_8 l0_9)))) else (cachetteref15_Right.j0 k true a0_0 a0_1 a0_2 a0_3 a0_4 a0_5 a0_6 a0_7 a0_8 l0_9)) = some r := H
      have A6 := Aside0.mk A60
      clear A60
      by_cases c7 : t121 = true
      · subst c7
        have H1 : (if a0_0 = 4 then (if a0_0 = 1 then (cachetteref15_Right.j0 k false a0_0 a0_1 a0_2 a0_3 a0_4 a0_5 a0_6 a0_7 a0_8 l0_9) else (cachetteref15_Right.j0 k a0_7 a0_0 a0_1 a0_2 a0_3 a0_4 a0_5 a0_6 a0_7 a0_8 l0_9)) else (if (l0_9.length : Int) > 0 then (cachetteref15_Right.j0 k true a0_0 a0_1 a0_2 a0_3 a0_4 a0_5 a0_6 a0_7 a0_8 l0_9) else (if a0_0 = 1 then (cachetteref15_Right.j0 k false a0_0 a0_1 a0_2 a0_3 a0_4 a0_5 a0_6 a0_7 a0_8 l0_9) else (cachetteref15_Right.j0 k a0_7 a0_0 a0_1 a0_2 a0_3 a0_4 a0_5 a0_6 a0_7 a0_8 l0_9)))) = some r := by rw [if_pos rfl] at H; exact H
        clear H
        have H := H1
        clear H1
        by_cases c8 : a0_0 = 4
        · rw [if_pos c8] at H
          have c8b0 : (a0_0 == 4) = true := beq_iff_eq.mpr c8
          have c8b1 : (a0_0 != 4) = false := bne_eq_false_iff_eq.mpr c8
          clear c8
          (first | rw [c8b0] | (simp only [i64_w, i32_w]; rw [c8b0]) | skip)
          by_cases c9 : a0_0 = 1
          · rw [if_pos c9] at H
            have c9b0 : (a0_0 == 1) = true := beq_iff_eq.mpr c9
            have c9b1 : (a0_0 != 1) = false := bne_eq_false_iff_eq.mpr c9
            clear c9
            have H' := Aside0.mk H
            clear H
            have hcz10_0 : w3.cell? ⟨gb119, 0, none⟩ = some (.int .i64 a0_0) := (blk_cell BK119.out 0).trans rfl
            have hcz10_1 : w3.cell? ⟨gb119, 1, none⟩ = some (.int .i64 a0_1) := (blk_cell BK119.out 1).trans rfl
            have hcz10_2 : w3.cell? ⟨gb119, 2, none⟩ = some (.int .i64 a0_2) := (blk_cell BK119.out 2).trans rfl
            have hcz10_3 : w3.cell? ⟨gb119, 3, none⟩ = some (.int .i64 a0_3) := (blk_cell BK119.out 3).trans rfl
            have hcz10_4 : w3.cell? ⟨gb119, 4, none⟩ = some (.int .i64 a0_4) := (blk_cell BK119.out 4).trans rfl
            have hcz10_5 : w3.cell? ⟨gb119, 5, none⟩ = some (.int .i64 a0_5) := (blk_cell BK119.out 5).trans rfl
            have hcz10_6 : w3.cell? ⟨gb119, 6, none⟩ = some (.int .i64 a0_6) := (blk_cell BK119.out 6).trans rfl
            have hcz10_7 : w3.cell? ⟨gb119, 7, none⟩ = some (.bool a0_7) := (blk_cell BK119.out 7).trans rfl
            have hcz10_8 : w3.cell? ⟨gb119, 8, none⟩ = some (.string a0_8) := (blk_cell BK119.out 8).trans rfl
            have hcz10_9 : w3.cell? ⟨gb119, 9, none⟩ = some (.slice A0_9 l0_9.length c0_9) := (blk_cell BK119.out 9).trans rfl
            have hfz10_0 := blk_frozen BK119.out 0
            have hfz10_1 := blk_frozen BK119.out 1
            have hfz10_2 := blk_frozen BK119.out 2
            have hfz10_3 := blk_frozen BK119.out 3
            have hfz10_4 := blk_frozen BK119.out 4
            have hfz10_5 := blk_frozen BK119.out 5
            have hfz10_6 := blk_frozen BK119.out 6
            have hfz10_7 := blk_frozen BK119.out 7
            have hfz10_8 := blk_frozen BK119.out 8
            have hfz10_9 := blk_frozen BK119.out 9
            go_wp2_with (first | ((with_reducible refine gate_callee (f := 42) rfl ?_); refine goesL_ (some 5) rfl rfl Try.func42 (by kernel_rfl) rfl #[.agg #[.int .i64 a0_1, .int .i64 a0_2]] rfl (by (try simp only [List.map_toArray, List.map_cons, List.map_nil]); first | done | rfl | (simp only [List.length_drop, List.length_take]; rfl)) ?_; (with_reducible refine (cachetteref04_Right.calls a0_1 a0_2 true _ A4.out).mono ?_); rintro e w11 ⟨rfl, hb⟩; refine ⟨_, rfl, ?_⟩; have n0_ := Aside0.mk (blk_below (g := gb119) (o := .cells #[.int .i64 a0_0, .int .i64 a0_1, .int .i64 a0_2, .int .i64 a0_3, .int .i64 a0_4, .int .i64 a0_5, .int .i64 a0_6, .bool a0_7, .string a0_8, .slice A0_9 l0_9.length c0_9] 26 (0, 0)) (by (with_reducible repeat (first | refine blk_drewN ?_ _ | refine blk_drew ?_ | refine blk_alloc ?_ _)); exact BK119.out) hb); have n1_ := Aside0.mk (below_step (by repeat (first | (with_reducible first | exact HB.out | apply below_alloc | apply pw_below_drewN | apply below_drew1 | refine below_set ?_ GE119.out) | exact HB.out)) hb); clear BK119; clear HB; have BK119 := n0_; have HB := n1_; clear n0_ n1_; (try clear hb); (try clear hb2); (try clear hk); (try clear hi); have hcz12_0 : w11.cell? ⟨gb119, 0, none⟩ = some (.int .i64 a0_0) := (blk_cell BK119.out 0).trans rfl; have hcz12_1 : w11.cell? ⟨gb119, 1, none⟩ = some (.int .i64 a0_1) := (blk_cell BK119.out 1).trans rfl; have hcz12_2 : w11.cell? ⟨gb119, 2, none⟩ = some (.int .i64 a0_2) := (blk_cell BK119.out 2).trans rfl; have hcz12_3 : w11.cell? ⟨gb119, 3, none⟩ = some (.int .i64 a0_3) := (blk_cell BK119.out 3).trans rfl; have hcz12_4 : w11.cell? ⟨gb119, 4, none⟩ = some (.int .i64 a0_4) := (blk_cell BK119.out 4).trans rfl; have hcz12_5 : w11.cell? ⟨gb119, 5, none⟩ = some (.int .i64 a0_5) := (blk_cell BK119.out 5).trans rfl; have hcz12_6 : w11.cell? ⟨gb119, 6, none⟩ = some (.int .i64 a0_6) := (blk_cell BK119.out 6).trans rfl; have hcz12_7 : w11.cell? ⟨gb119, 7, none⟩ = some (.bool a0_7) := (blk_cell BK119.out 7).trans rfl; have hcz12_8 : w11.cell? ⟨gb119, 8, none⟩ = some (.string a0_8) := (blk_cell BK119.out 8).trans rfl; have hcz12_9 : w11.cell? ⟨gb119, 9, none⟩ = some (.slice A0_9 l0_9.length c0_9) := (blk_cell BK119.out 9).trans rfl; have hfz12_0 := blk_frozen BK119.out 0; have hfz12_1 := blk_frozen BK119.out 1; have hfz12_2 := blk_frozen BK119.out 2; have hfz12_3 := blk_frozen BK119.out 3; have hfz12_4 := blk_frozen BK119.out 4; have hfz12_5 := blk_frozen BK119.out 5; have hfz12_6 := blk_frozen BK119.out 6; have hfz12_7 := blk_frozen BK119.out 7; have hfz12_8 := blk_frozen BK119.out 8; have hfz12_9 := blk_frozen BK119.out 9) | (go_at_call 42; (with_reducible refine (cachetteref04_Right.calls a0_3 a0_4 true _ A6.out).mono ?_); rintro e w13 ⟨rfl, hb⟩; have n0_ := Aside0.mk (blk_below (g := gb119) (o := .cells #[.int .i64 a0_0, .int .i64 a0_1, .int .i64 a0_2, .int .i64 a0_3, .int .i64 a0_4, .int .i64 a0_5, .int .i64 a0_6, .bool a0_7, .string a0_8, .slice A0_9 l0_9.length c0_9] 26 (0, 0)) (by (with_reducible repeat (first | refine blk_drewN ?_ _ | refine blk_drew ?_ | refine blk_alloc ?_ _)); exact BK119.out) hb); have n1_ := Aside0.mk (below_step (by repeat (first | (with_reducible first | exact HB.out | apply below_alloc | apply pw_below_drewN | apply below_drew1 | refine below_set ?_ GE119.out) | exact HB.out)) hb); clear BK119; clear HB; have BK119 := n0_; have HB := n1_; clear n0_ n1_; (try clear hb); (try clear hb2); (try clear hk); (try clear hi); have hcz14_0 : w13.cell? ⟨gb119, 0, none⟩ = some (.int .i64 a0_0) := (blk_cell BK119.out 0).trans rfl; have hcz14_1 : w13.cell? ⟨gb119, 1, none⟩ = some (.int .i64 a0_1) := (blk_cell BK119.out 1).trans rfl; have hcz14_2 : w13.cell? ⟨gb119, 2, none⟩ = some (.int .i64 a0_2) := (blk_cell BK119.out 2).trans rfl; have hcz14_3 : w13.cell? ⟨gb119, 3, none⟩ = some (.int .i64 a0_3) := (blk_cell BK119.out 3).trans rfl; have hcz14_4 : w13.cell? ⟨gb119, 4, none⟩ = some (.int .i64 a0_4) := (blk_cell BK119.out 4).trans rfl; have hcz14_5 : w13.cell? ⟨gb119, 5, none⟩ = some (.int .i64 a0_5) := (blk_cell BK119.out 5).trans rfl; have hcz14_6 : w13.cell? ⟨gb119, 6, none⟩ = some (.int .i64 a0_6) := (blk_cell BK119.out 6).trans rfl; have hcz14_7 : w13.cell? ⟨gb119, 7, none⟩ = some (.bool a0_7) := (blk_cell BK119.out 7).trans rfl; have hcz14_8 : w13.cell? ⟨gb119, 8, none⟩ = some (.string a0_8) := (blk_cell BK119.out 8).trans rfl; have hcz14_9 : w13.cell? ⟨gb119, 9, none⟩ = some (.slice A0_9 l0_9.length c0_9) := (blk_cell BK119.out 9).trans rfl; have hfz14_0 := blk_frozen BK119.out 0; have hfz14_1 := blk_frozen BK119.out 1; have hfz14_2 := blk_frozen BK119.out 2; have hfz14_3 := blk_frozen BK119.out 3; have hfz14_4 := blk_frozen BK119.out 4; have hfz14_5 := blk_frozen BK119.out 5; have hfz14_6 := blk_frozen BK119.out 6; have hfz14_7 := blk_frozen BK119.out 7; have hfz14_8 := blk_frozen BK119.out 8; have hfz14_9 := blk_frozen BK119.out 9))
            go_meet
            case rel => exact ⟨_, (false), (by first | rfl | (simp; done) | (simp [*]; done)), H', ⟨by first | omega | exact Nat.le_refl _⟩, ⟨by (with_reducible repeat (first | refine blk_drewN ?_ _ | refine blk_drew ?_ | refine blk_alloc ?_ _)); exact BK119.out⟩, ⟨by repeat (first | (with_reducible first | exact HB.out | apply below_alloc | apply pw_below_drewN | apply below_drew1 | refine below_set ?_ GE119.out) | exact HB.out)⟩⟩
          · rw [if_neg c9] at H
            have c9b0 : (a0_0 == 1) = false := beq_eq_false_iff_ne.mpr c9
            have c9b1 : (a0_0 != 1) = true := bne_iff_ne.mpr c9
            have H' := Aside0.mk H
            clear H
            have hcz15_0 : w3.cell? ⟨gb119, 0, none⟩ = some (.int .i64 a0_0) := (blk_cell BK119.out 0).trans rfl
            have hcz15_1 : w3.cell? ⟨gb119, 1, none⟩ = some (.int .i64 a0_1) := (blk_cell BK119.out 1).trans rfl
            have hcz15_2 : w3.cell? ⟨gb119, 2, none⟩ = some (.int .i64 a0_2) := (blk_cell BK119.out 2).trans rfl
            have hcz15_3 : w3.cell? ⟨gb119, 3, none⟩ = some (.int .i64 a0_3) := (blk_cell BK119.out 3).trans rfl
            have hcz15_4 : w3.cell? ⟨gb119, 4, none⟩ = some (.int .i64 a0_4) := (blk_cell BK119.out 4).trans rfl
            have hcz15_5 : w3.cell? ⟨gb119, 5, none⟩ = some (.int .i64 a0_5) := (blk_cell BK119.out 5).trans rfl
            have hcz15_6 : w3.cell? ⟨gb119, 6, none⟩ = some (.int .i64 a0_6) := (blk_cell BK119.out 6).trans rfl
            have hcz15_7 : w3.cell? ⟨gb119, 7, none⟩ = some (.bool a0_7) := (blk_cell BK119.out 7).trans rfl
            have hcz15_8 : w3.cell? ⟨gb119, 8, none⟩ = some (.string a0_8) := (blk_cell BK119.out 8).trans rfl
            have hcz15_9 : w3.cell? ⟨gb119, 9, none⟩ = some (.slice A0_9 l0_9.length c0_9) := (blk_cell BK119.out 9).trans rfl
            have hfz15_0 := blk_frozen BK119.out 0
            have hfz15_1 := blk_frozen BK119.out 1
            have hfz15_2 := blk_frozen BK119.out 2
            have hfz15_3 := blk_frozen BK119.out 3
            have hfz15_4 := blk_frozen BK119.out 4
            have hfz15_5 := blk_frozen BK119.out 5
            have hfz15_6 := blk_frozen BK119.out 6
            have hfz15_7 := blk_frozen BK119.out 7
            have hfz15_8 := blk_frozen BK119.out 8
            have hfz15_9 := blk_frozen BK119.out 9
            go_wp2_with (first | ((with_reducible refine gate_callee (f := 42) rfl ?_); refine goesL_ (some 5) rfl rfl Try.func42 (by kernel_rfl) rfl #[.agg #[.int .i64 a0_1, .int .i64 a0_2]] rfl (by (try simp only [List.map_toArray, List.map_cons, List.map_nil]); first | done | rfl | (simp only [List.length_drop, List.length_take]; rfl)) ?_; (with_reducible refine (cachetteref04_Right.calls a0_1 a0_2 true _ A4.out).mono ?_); rintro e w16 ⟨rfl, hb⟩; refine ⟨_, rfl, ?_⟩; have n0_ := Aside0.mk (blk_below (g := gb119) (o := .cells #[.int .i64 a0_0, .int .i64 a0_1, .int .i64 a0_2, .int .i64 a0_3, .int .i64 a0_4, .int .i64 a0_5, .int .i64 a0_6, .bool a0_7, .string a0_8, .slice A0_9 l0_9.length c0_9] 26 (0, 0)) (by (with_reducible repeat (first | refine blk_drewN ?_ _ | refine blk_drew ?_ | refine blk_alloc ?_ _)); exact BK119.out) hb); have n1_ := Aside0.mk (below_step (by repeat (first | (with_reducible first | exact HB.out | apply below_alloc | apply pw_below_drewN | apply below_drew1 | refine below_set ?_ GE119.out) | exact HB.out)) hb); clear BK119; clear HB; have BK119 := n0_; have HB := n1_; clear n0_ n1_; (try clear hb); (try clear hb2); (try clear hk); (try clear hi); have hcz17_0 : w16.cell? ⟨gb119, 0, none⟩ = some (.int .i64 a0_0) := (blk_cell BK119.out 0).trans rfl; have hcz17_1 : w16.cell? ⟨gb119, 1, none⟩ = some (.int .i64 a0_1) := (blk_cell BK119.out 1).trans rfl; have hcz17_2 : w16.cell? ⟨gb119, 2, none⟩ = some (.int .i64 a0_2) := (blk_cell BK119.out 2).trans rfl; have hcz17_3 : w16.cell? ⟨gb119, 3, none⟩ = some (.int .i64 a0_3) := (blk_cell BK119.out 3).trans rfl; have hcz17_4 : w16.cell? ⟨gb119, 4, none⟩ = some (.int .i64 a0_4) := (blk_cell BK119.out 4).trans rfl; have hcz17_5 : w16.cell? ⟨gb119, 5, none⟩ = some (.int .i64 a0_5) := (blk_cell BK119.out 5).trans rfl; have hcz17_6 : w16.cell? ⟨gb119, 6, none⟩ = some (.int .i64 a0_6) := (blk_cell BK119.out 6).trans rfl; have hcz17_7 : w16.cell? ⟨gb119, 7, none⟩ = some (.bool a0_7) := (blk_cell BK119.out 7).trans rfl; have hcz17_8 : w16.cell? ⟨gb119, 8, none⟩ = some (.string a0_8) := (blk_cell BK119.out 8).trans rfl; have hcz17_9 : w16.cell? ⟨gb119, 9, none⟩ = some (.slice A0_9 l0_9.length c0_9) := (blk_cell BK119.out 9).trans rfl; have hfz17_0 := blk_frozen BK119.out 0; have hfz17_1 := blk_frozen BK119.out 1; have hfz17_2 := blk_frozen BK119.out 2; have hfz17_3 := blk_frozen BK119.out 3; have hfz17_4 := blk_frozen BK119.out 4; have hfz17_5 := blk_frozen BK119.out 5; have hfz17_6 := blk_frozen BK119.out 6; have hfz17_7 := blk_frozen BK119.out 7; have hfz17_8 := blk_frozen BK119.out 8; have hfz17_9 := blk_frozen BK119.out 9) | (go_at_call 42; (with_reducible refine (cachetteref04_Right.calls a0_3 a0_4 true _ A6.out).mono ?_); rintro e w18 ⟨rfl, hb⟩; have n0_ := Aside0.mk (blk_below (g := gb119) (o := .cells #[.int .i64 a0_0, .int .i64 a0_1, .int .i64 a0_2, .int .i64 a0_3, .int .i64 a0_4, .int .i64 a0_5, .int .i64 a0_6, .bool a0_7, .string a0_8, .slice A0_9 l0_9.length c0_9] 26 (0, 0)) (by (with_reducible repeat (first | refine blk_drewN ?_ _ | refine blk_drew ?_ | refine blk_alloc ?_ _)); exact BK119.out) hb); have n1_ := Aside0.mk (below_step (by repeat (first | (with_reducible first | exact HB.out | apply below_alloc | apply pw_below_drewN | apply below_drew1 | refine below_set ?_ GE119.out) | exact HB.out)) hb); clear BK119; clear HB; have BK119 := n0_; have HB := n1_; clear n0_ n1_; (try clear hb); (try clear hb2); (try clear hk); (try clear hi); have hcz19_0 : w18.cell? ⟨gb119, 0, none⟩ = some (.int .i64 a0_0) := (blk_cell BK119.out 0).trans rfl; have hcz19_1 : w18.cell? ⟨gb119, 1, none⟩ = some (.int .i64 a0_1) := (blk_cell BK119.out 1).trans rfl; have hcz19_2 : w18.cell? ⟨gb119, 2, none⟩ = some (.int .i64 a0_2) := (blk_cell BK119.out 2).trans rfl; have hcz19_3 : w18.cell? ⟨gb119, 3, none⟩ = some (.int .i64 a0_3) := (blk_cell BK119.out 3).trans rfl; have hcz19_4 : w18.cell? ⟨gb119, 4, none⟩ = some (.int .i64 a0_4) := (blk_cell BK119.out 4).trans rfl; have hcz19_5 : w18.cell? ⟨gb119, 5, none⟩ = some (.int .i64 a0_5) := (blk_cell BK119.out 5).trans rfl; have hcz19_6 : w18.cell? ⟨gb119, 6, none⟩ = some (.int .i64 a0_6) := (blk_cell BK119.out 6).trans rfl; have hcz19_7 : w18.cell? ⟨gb119, 7, none⟩ = some (.bool a0_7) := (blk_cell BK119.out 7).trans rfl; have hcz19_8 : w18.cell? ⟨gb119, 8, none⟩ = some (.string a0_8) := (blk_cell BK119.out 8).trans rfl; have hcz19_9 : w18.cell? ⟨gb119, 9, none⟩ = some (.slice A0_9 l0_9.length c0_9) := (blk_cell BK119.out 9).trans rfl; have hfz19_0 := blk_frozen BK119.out 0; have hfz19_1 := blk_frozen BK119.out 1; have hfz19_2 := blk_frozen BK119.out 2; have hfz19_3 := blk_frozen BK119.out 3; have hfz19_4 := blk_frozen BK119.out 4; have hfz19_5 := blk_frozen BK119.out 5; have hfz19_6 := blk_frozen BK119.out 6; have hfz19_7 := blk_frozen BK119.out 7; have hfz19_8 := blk_frozen BK119.out 8; have hfz19_9 := blk_frozen BK119.out 9))
            go_meet
            case rel => exact ⟨_, (a0_7), (by first | rfl | (simp; done) | (simp [*]; done)), H', ⟨by first | omega | exact Nat.le_refl _⟩, ⟨by (with_reducible repeat (first | refine blk_drewN ?_ _ | refine blk_drew ?_ | refine blk_alloc ?_ _)); exact BK119.out⟩, ⟨by repeat (first | (with_reducible first | exact HB.out | apply below_alloc | apply pw_below_drewN | apply below_drew1 | refine below_set ?_ GE119.out) | exact HB.out)⟩⟩
        · rw [if_neg c8] at H
          have c8b0 : (a0_0 == 4) = false := beq_eq_false_iff_ne.mpr c8
          have c8b1 : (a0_0 != 4) = true := bne_iff_ne.mpr c8
          (first | rw [c8b0] | (simp only [i64_w, i32_w]; rw [c8b0]) | skip)
          by_cases c20 : (l0_9.length : Int) > 0
          · rw [if_pos c20] at H
            have c20b0 : decide (0 < (l0_9.length : Int)) = true := decide_eq_true c20
            have c20b1 : decide (0 < l0_9.length) = true := decide_eq_true (by omega)
            clear c20
            have H' := Aside0.mk H
            clear H
            have hcz21_0 : w3.cell? ⟨gb119, 0, none⟩ = some (.int .i64 a0_0) := (blk_cell BK119.out 0).trans rfl
            have hcz21_1 : w3.cell? ⟨gb119, 1, none⟩ = some (.int .i64 a0_1) := (blk_cell BK119.out 1).trans rfl
            have hcz21_2 : w3.cell? ⟨gb119, 2, none⟩ = some (.int .i64 a0_2) := (blk_cell BK119.out 2).trans rfl
            have hcz21_3 : w3.cell? ⟨gb119, 3, none⟩ = some (.int .i64 a0_3) := (blk_cell BK119.out 3).trans rfl
            have hcz21_4 : w3.cell? ⟨gb119, 4, none⟩ = some (.int .i64 a0_4) := (blk_cell BK119.out 4).trans rfl
            have hcz21_5 : w3.cell? ⟨gb119, 5, none⟩ = some (.int .i64 a0_5) := (blk_cell BK119.out 5).trans rfl
            have hcz21_6 : w3.cell? ⟨gb119, 6, none⟩ = some (.int .i64 a0_6) := (blk_cell BK119.out 6).trans rfl
            have hcz21_7 : w3.cell? ⟨gb119, 7, none⟩ = some (.bool a0_7) := (blk_cell BK119.out 7).trans rfl
            have hcz21_8 : w3.cell? ⟨gb119, 8, none⟩ = some (.string a0_8) := (blk_cell BK119.out 8).trans rfl
            have hcz21_9 : w3.cell? ⟨gb119, 9, none⟩ = some (.slice A0_9 l0_9.length c0_9) := (blk_cell BK119.out 9).trans rfl
            have hfz21_0 := blk_frozen BK119.out 0
            have hfz21_1 := blk_frozen BK119.out 1
            have hfz21_2 := blk_frozen BK119.out 2
            have hfz21_3 := blk_frozen BK119.out 3
            have hfz21_4 := blk_frozen BK119.out 4
            have hfz21_5 := blk_frozen BK119.out 5
            have hfz21_6 := blk_frozen BK119.out 6
            have hfz21_7 := blk_frozen BK119.out 7
            have hfz21_8 := blk_frozen BK119.out 8
            have hfz21_9 := blk_frozen BK119.out 9
            go_wp2_with (first | ((with_reducible refine gate_callee (f := 42) rfl ?_); refine goesL_ (some 5) rfl rfl Try.func42 (by kernel_rfl) rfl #[.agg #[.int .i64 a0_1, .int .i64 a0_2]] rfl (by (try simp only [List.map_toArray, List.map_cons, List.map_nil]); first | done | rfl | (simp only [List.length_drop, List.length_take]; rfl)) ?_; (with_reducible refine (cachetteref04_Right.calls a0_1 a0_2 true _ A4.out).mono ?_); rintro e w22 ⟨rfl, hb⟩; refine ⟨_, rfl, ?_⟩; have n0_ := Aside0.mk (blk_below (g := gb119) (o := .cells #[.int .i64 a0_0, .int .i64 a0_1, .int .i64 a0_2, .int .i64 a0_3, .int .i64 a0_4, .int .i64 a0_5, .int .i64 a0_6, .bool a0_7, .string a0_8, .slice A0_9 l0_9.length c0_9] 26 (0, 0)) (by (with_reducible repeat (first | refine blk_drewN ?_ _ | refine blk_drew ?_ | refine blk_alloc ?_ _)); exact BK119.out) hb); have n1_ := Aside0.mk (below_step (by repeat (first | (with_reducible first | exact HB.out | apply below_alloc | apply pw_below_drewN | apply below_drew1 | refine below_set ?_ GE119.out) | exact HB.out)) hb); clear BK119; clear HB; have BK119 := n0_; have HB := n1_; clear n0_ n1_; (try clear hb); (try clear hb2); (try clear hk); (try clear hi); have hcz23_0 : w22.cell? ⟨gb119, 0, none⟩ = some (.int .i64 a0_0) := (blk_cell BK119.out 0).trans rfl; have hcz23_1 : w22.cell? ⟨gb119, 1, none⟩ = some (.int .i64 a0_1) := (blk_cell BK119.out 1).trans rfl; have hcz23_2 : w22.cell? ⟨gb119, 2, none⟩ = some (.int .i64 a0_2) := (blk_cell BK119.out 2).trans rfl; have hcz23_3 : w22.cell? ⟨gb119, 3, none⟩ = some (.int .i64 a0_3) := (blk_cell BK119.out 3).trans rfl; have hcz23_4 : w22.cell? ⟨gb119, 4, none⟩ = some (.int .i64 a0_4) := (blk_cell BK119.out 4).trans rfl; have hcz23_5 : w22.cell? ⟨gb119, 5, none⟩ = some (.int .i64 a0_5) := (blk_cell BK119.out 5).trans rfl; have hcz23_6 : w22.cell? ⟨gb119, 6, none⟩ = some (.int .i64 a0_6) := (blk_cell BK119.out 6).trans rfl; have hcz23_7 : w22.cell? ⟨gb119, 7, none⟩ = some (.bool a0_7) := (blk_cell BK119.out 7).trans rfl; have hcz23_8 : w22.cell? ⟨gb119, 8, none⟩ = some (.string a0_8) := (blk_cell BK119.out 8).trans rfl; have hcz23_9 : w22.cell? ⟨gb119, 9, none⟩ = some (.slice A0_9 l0_9.length c0_9) := (blk_cell BK119.out 9).trans rfl; have hfz23_0 := blk_frozen BK119.out 0; have hfz23_1 := blk_frozen BK119.out 1; have hfz23_2 := blk_frozen BK119.out 2; have hfz23_3 := blk_frozen BK119.out 3; have hfz23_4 := blk_frozen BK119.out 4; have hfz23_5 := blk_frozen BK119.out 5; have hfz23_6 := blk_frozen BK119.out 6; have hfz23_7 := blk_frozen BK119.out 7; have hfz23_8 := blk_frozen BK119.out 8; have hfz23_9 := blk_frozen BK119.out 9) | (go_at_call 42; (with_reducible refine (cachetteref04_Right.calls a0_3 a0_4 true _ A6.out).mono ?_); rintro e w24 ⟨rfl, hb⟩; have n0_ := Aside0.mk (blk_below (g := gb119) (o := .cells #[.int .i64 a0_0, .int .i64 a0_1, .int .i64 a0_2, .int .i64 a0_3, .int .i64 a0_4, .int .i64 a0_5, .int .i64 a0_6, .bool a0_7, .string a0_8, .slice A0_9 l0_9.length c0_9] 26 (0, 0)) (by (with_reducible repeat (first | refine blk_drewN ?_ _ | refine blk_drew ?_ | refine blk_alloc ?_ _)); exact BK119.out) hb); have n1_ := Aside0.mk (below_step (by repeat (first | (with_reducible first | exact HB.out | apply below_alloc | apply pw_below_drewN | apply below_drew1 | refine below_set ?_ GE119.out) | exact HB.out)) hb); clear BK119; clear HB; have BK119 := n0_; have HB := n1_; clear n0_ n1_; (try clear hb); (try clear hb2); (try clear hk); (try clear hi); have hcz25_0 : w24.cell? ⟨gb119, 0, none⟩ = some (.int .i64 a0_0) := (blk_cell BK119.out 0).trans rfl; have hcz25_1 : w24.cell? ⟨gb119, 1, none⟩ = some (.int .i64 a0_1) := (blk_cell BK119.out 1).trans rfl; have hcz25_2 : w24.cell? ⟨gb119, 2, none⟩ = some (.int .i64 a0_2) := (blk_cell BK119.out 2).trans rfl; have hcz25_3 : w24.cell? ⟨gb119, 3, none⟩ = some (.int .i64 a0_3) := (blk_cell BK119.out 3).trans rfl; have hcz25_4 : w24.cell? ⟨gb119, 4, none⟩ = some (.int .i64 a0_4) := (blk_cell BK119.out 4).trans rfl; have hcz25_5 : w24.cell? ⟨gb119, 5, none⟩ = some (.int .i64 a0_5) := (blk_cell BK119.out 5).trans rfl; have hcz25_6 : w24.cell? ⟨gb119, 6, none⟩ = some (.int .i64 a0_6) := (blk_cell BK119.out 6).trans rfl; have hcz25_7 : w24.cell? ⟨gb119, 7, none⟩ = some (.bool a0_7) := (blk_cell BK119.out 7).trans rfl; have hcz25_8 : w24.cell? ⟨gb119, 8, none⟩ = some (.string a0_8) := (blk_cell BK119.out 8).trans rfl; have hcz25_9 : w24.cell? ⟨gb119, 9, none⟩ = some (.slice A0_9 l0_9.length c0_9) := (blk_cell BK119.out 9).trans rfl; have hfz25_0 := blk_frozen BK119.out 0; have hfz25_1 := blk_frozen BK119.out 1; have hfz25_2 := blk_frozen BK119.out 2; have hfz25_3 := blk_frozen BK119.out 3; have hfz25_4 := blk_frozen BK119.out 4; have hfz25_5 := blk_frozen BK119.out 5; have hfz25_6 := blk_frozen BK119.out 6; have hfz25_7 := blk_frozen BK119.out 7; have hfz25_8 := blk_frozen BK119.out 8; have hfz25_9 := blk_frozen BK119.out 9))
            go_meet
            case rel => exact ⟨_, (true), (by first | rfl | (simp; done) | (simp [*]; done)), H', ⟨by first | omega | exact Nat.le_refl _⟩, ⟨by (with_reducible repeat (first | refine blk_drewN ?_ _ | refine blk_drew ?_ | refine blk_alloc ?_ _)); exact BK119.out⟩, ⟨by repeat (first | (with_reducible first | exact HB.out | apply below_alloc | apply pw_below_drewN | apply below_drew1 | refine below_set ?_ GE119.out) | exact HB.out)⟩⟩
          · rw [if_neg c20] at H
            have c20b0 : decide (0 < (l0_9.length : Int)) = false := decide_eq_false c20
            have c20b1 : decide (0 < l0_9.length) = false := decide_eq_false (by omega)
            clear c20
            by_cases c26 : a0_0 = 1
            · rw [if_pos c26] at H
              have c26b0 : (a0_0 == 1) = true := beq_iff_eq.mpr c26
              have c26b1 : (a0_0 != 1) = false := bne_eq_false_iff_eq.mpr c26
              clear c26
              have H' := Aside0.mk H
              clear H
              have hcz27_0 : w3.cell? ⟨gb119, 0, none⟩ = some (.int .i64 a0_0) := (blk_cell BK119.out 0).trans rfl
              have hcz27_1 : w3.cell? ⟨gb119, 1, none⟩ = some (.int .i64 a0_1) := (blk_cell BK119.out 1).trans rfl
              have hcz27_2 : w3.cell? ⟨gb119, 2, none⟩ = some (.int .i64 a0_2) := (blk_cell BK119.out 2).trans rfl
              have hcz27_3 : w3.cell? ⟨gb119, 3, none⟩ = some (.int .i64 a0_3) := (blk_cell BK119.out 3).trans rfl
              have hcz27_4 : w3.cell? ⟨gb119, 4, none⟩ = some (.int .i64 a0_4) := (blk_cell BK119.out 4).trans rfl
              have hcz27_5 : w3.cell? ⟨gb119, 5, none⟩ = some (.int .i64 a0_5) := (blk_cell BK119.out 5).trans rfl
              have hcz27_6 : w3.cell? ⟨gb119, 6, none⟩ = some (.int .i64 a0_6) := (blk_cell BK119.out 6).trans rfl
              have hcz27_7 : w3.cell? ⟨gb119, 7, none⟩ = some (.bool a0_7) := (blk_cell BK119.out 7).trans rfl
              have hcz27_8 : w3.cell? ⟨gb119, 8, none⟩ = some (.string a0_8) := (blk_cell BK119.out 8).trans rfl
              have hcz27_9 : w3.cell? ⟨gb119, 9, none⟩ = some (.slice A0_9 l0_9.length c0_9) := (blk_cell BK119.out 9).trans rfl
              have hfz27_0 := blk_frozen BK119.out 0
              have hfz27_1 := blk_frozen BK119.out 1
              have hfz27_2 := blk_frozen BK119.out 2
              have hfz27_3 := blk_frozen BK119.out 3
              have hfz27_4 := blk_frozen BK119.out 4
              have hfz27_5 := blk_frozen BK119.out 5
              have hfz27_6 := blk_frozen BK119.out 6
              have hfz27_7 := blk_frozen BK119.out 7
              have hfz27_8 := blk_frozen BK119.out 8
              have hfz27_9 := blk_frozen BK119.out 9
              go_wp2_with (first | ((with_reducible refine gate_callee (f := 42) rfl ?_); refine goesL_ (some 5) rfl rfl Try.func42 (by kernel_rfl) rfl #[.agg #[.int .i64 a0_1, .int .i64 a0_2]] rfl (by (try simp only [List.map_toArray, List.map_cons, List.map_nil]); first | done | rfl | (simp only [List.length_drop, List.length_take]; rfl)) ?_; (with_reducible refine (cachetteref04_Right.calls a0_1 a0_2 true _ A4.out).mono ?_); rintro e w28 ⟨rfl, hb⟩; refine ⟨_, rfl, ?_⟩; have n0_ := Aside0.mk (blk_below (g := gb119) (o := .cells #[.int .i64 a0_0, .int .i64 a0_1, .int .i64 a0_2, .int .i64 a0_3, .int .i64 a0_4, .int .i64 a0_5, .int .i64 a0_6, .bool a0_7, .string a0_8, .slice A0_9 l0_9.length c0_9] 26 (0, 0)) (by (with_reducible repeat (first | refine blk_drewN ?_ _ | refine blk_drew ?_ | refine blk_alloc ?_ _)); exact BK119.out) hb); have n1_ := Aside0.mk (below_step (by repeat (first | (with_reducible first | exact HB.out | apply below_alloc | apply pw_below_drewN | apply below_drew1 | refine below_set ?_ GE119.out) | exact HB.out)) hb); clear BK119; clear HB; have BK119 := n0_; have HB := n1_; clear n0_ n1_; (try clear hb); (try clear hb2); (try clear hk); (try clear hi); have hcz29_0 : w28.cell? ⟨gb119, 0, none⟩ = some (.int .i64 a0_0) := (blk_cell BK119.out 0).trans rfl; have hcz29_1 : w28.cell? ⟨gb119, 1, none⟩ = some (.int .i64 a0_1) := (blk_cell BK119.out 1).trans rfl; have hcz29_2 : w28.cell? ⟨gb119, 2, none⟩ = some (.int .i64 a0_2) := (blk_cell BK119.out 2).trans rfl; have hcz29_3 : w28.cell? ⟨gb119, 3, none⟩ = some (.int .i64 a0_3) := (blk_cell BK119.out 3).trans rfl; have hcz29_4 : w28.cell? ⟨gb119, 4, none⟩ = some (.int .i64 a0_4) := (blk_cell BK119.out 4).trans rfl; have hcz29_5 : w28.cell? ⟨gb119, 5, none⟩ = some (.int .i64 a0_5) := (blk_cell BK119.out 5).trans rfl; have hcz29_6 : w28.cell? ⟨gb119, 6, none⟩ = some (.int .i64 a0_6) := (blk_cell BK119.out 6).trans rfl; have hcz29_7 : w28.cell? ⟨gb119, 7, none⟩ = some (.bool a0_7) := (blk_cell BK119.out 7).trans rfl; have hcz29_8 : w28.cell? ⟨gb119, 8, none⟩ = some (.string a0_8) := (blk_cell BK119.out 8).trans rfl; have hcz29_9 : w28.cell? ⟨gb119, 9, none⟩ = some (.slice A0_9 l0_9.length c0_9) := (blk_cell BK119.out 9).trans rfl; have hfz29_0 := blk_frozen BK119.out 0; have hfz29_1 := blk_frozen BK119.out 1; have hfz29_2 := blk_frozen BK119.out 2; have hfz29_3 := blk_frozen BK119.out 3; have hfz29_4 := blk_frozen BK119.out 4; have hfz29_5 := blk_frozen BK119.out 5; have hfz29_6 := blk_frozen BK119.out 6; have hfz29_7 := blk_frozen BK119.out 7; have hfz29_8 := blk_frozen BK119.out 8; have hfz29_9 := blk_frozen BK119.out 9) | (go_at_call 42; (with_reducible refine (cachetteref04_Right.calls a0_3 a0_4 true _ A6.out).mono ?_); rintro e w30 ⟨rfl, hb⟩; have n0_ := Aside0.mk (blk_below (g := gb119) (o := .cells #[.int .i64 a0_0, .int .i64 a0_1, .int .i64 a0_2, .int .i64 a0_3, .int .i64 a0_4, .int .i64 a0_5, .int .i64 a0_6, .bool a0_7, .string a0_8, .slice A0_9 l0_9.length c0_9] 26 (0, 0)) (by (with_reducible repeat (first | refine blk_drewN ?_ _ | refine blk_drew ?_ | refine blk_alloc ?_ _)); exact BK119.out) hb); have n1_ := Aside0.mk (below_step (by repeat (first | (with_reducible first | exact HB.out | apply below_alloc | apply pw_below_drewN | apply below_drew1 | refine below_set ?_ GE119.out) | exact HB.out)) hb); clear BK119; clear HB; have BK119 := n0_; have HB := n1_; clear n0_ n1_; (try clear hb); (try clear hb2); (try clear hk); (try clear hi); have hcz31_0 : w30.cell? ⟨gb119, 0, none⟩ = some (.int .i64 a0_0) := (blk_cell BK119.out 0).trans rfl; have hcz31_1 : w30.cell? ⟨gb119, 1, none⟩ = some (.int .i64 a0_1) := (blk_cell BK119.out 1).trans rfl; have hcz31_2 : w30.cell? ⟨gb119, 2, none⟩ = some (.int .i64 a0_2) := (blk_cell BK119.out 2).trans rfl; have hcz31_3 : w30.cell? ⟨gb119, 3, none⟩ = some (.int .i64 a0_3) := (blk_cell BK119.out 3).trans rfl; have hcz31_4 : w30.cell? ⟨gb119, 4, none⟩ = some (.int .i64 a0_4) := (blk_cell BK119.out 4).trans rfl; have hcz31_5 : w30.cell? ⟨gb119, 5, none⟩ = some (.int .i64 a0_5) := (blk_cell BK119.out 5).trans rfl; have hcz31_6 : w30.cell? ⟨gb119, 6, none⟩ = some (.int .i64 a0_6) := (blk_cell BK119.out 6).trans rfl; have hcz31_7 : w30.cell? ⟨gb119, 7, none⟩ = some (.bool a0_7) := (blk_cell BK119.out 7).trans rfl; have hcz31_8 : w30.cell? ⟨gb119, 8, none⟩ = some (.string a0_8) := (blk_cell BK119.out 8).trans rfl; have hcz31_9 : w30.cell? ⟨gb119, 9, none⟩ = some (.slice A0_9 l0_9.length c0_9) := (blk_cell BK119.out 9).trans rfl; have hfz31_0 := blk_frozen BK119.out 0; have hfz31_1 := blk_frozen BK119.out 1; have hfz31_2 := blk_frozen BK119.out 2; have hfz31_3 := blk_frozen BK119.out 3; have hfz31_4 := blk_frozen BK119.out 4; have hfz31_5 := blk_frozen BK119.out 5; have hfz31_6 := blk_frozen BK119.out 6; have hfz31_7 := blk_frozen BK119.out 7; have hfz31_8 := blk_frozen BK119.out 8; have hfz31_9 := blk_frozen BK119.out 9))
              go_meet
              case rel => exact ⟨_, (false), (by first | rfl | (simp; done) | (simp [*]; done)), H', ⟨by first | omega | exact Nat.le_refl _⟩, ⟨by (with_reducible repeat (first | refine blk_drewN ?_ _ | refine blk_drew ?_ | refine blk_alloc ?_ _)); exact BK119.out⟩, ⟨by repeat (first | (with_reducible first | exact HB.out | apply below_alloc | apply pw_below_drewN | apply below_drew1 | refine below_set ?_ GE119.out) | exact HB.out)⟩⟩
            · rw [if_neg c26] at H
              have c26b0 : (a0_0 == 1) = false := beq_eq_false_iff_ne.mpr c26
              have c26b1 : (a0_0 != 1) = true := bne_iff_ne.mpr c26
              have H' := Aside0.mk H
              clear H
              have hcz32_0 : w3.cell? ⟨gb119, 0, none⟩ = some (.int .i64 a0_0) := (blk_cell BK119.out 0).trans rfl
              have hcz32_1 : w3.cell? ⟨gb119, 1, none⟩ = some (.int .i64 a0_1) := (blk_cell BK119.out 1).trans rfl
              have hcz32_2 : w3.cell? ⟨gb119, 2, none⟩ = some (.int .i64 a0_2) := (blk_cell BK119.out 2).trans rfl
              have hcz32_3 : w3.cell? ⟨gb119, 3, none⟩ = some (.int .i64 a0_3) := (blk_cell BK119.out 3).trans rfl
              have hcz32_4 : w3.cell? ⟨gb119, 4, none⟩ = some (.int .i64 a0_4) := (blk_cell BK119.out 4).trans rfl
              have hcz32_5 : w3.cell? ⟨gb119, 5, none⟩ = some (.int .i64 a0_5) := (blk_cell BK119.out 5).trans rfl
              have hcz32_6 : w3.cell? ⟨gb119, 6, none⟩ = some (.int .i64 a0_6) := (blk_cell BK119.out 6).trans rfl
              have hcz32_7 : w3.cell? ⟨gb119, 7, none⟩ = some (.bool a0_7) := (blk_cell BK119.out 7).trans rfl
              have hcz32_8 : w3.cell? ⟨gb119, 8, none⟩ = some (.string a0_8) := (blk_cell BK119.out 8).trans rfl
              have hcz32_9 : w3.cell? ⟨gb119, 9, none⟩ = some (.slice A0_9 l0_9.length c0_9) := (blk_cell BK119.out 9).trans rfl
              have hfz32_0 := blk_frozen BK119.out 0
              have hfz32_1 := blk_frozen BK119.out 1
              have hfz32_2 := blk_frozen BK119.out 2
              have hfz32_3 := blk_frozen BK119.out 3
              have hfz32_4 := blk_frozen BK119.out 4
              have hfz32_5 := blk_frozen BK119.out 5
              have hfz32_6 := blk_frozen BK119.out 6
              have hfz32_7 := blk_frozen BK119.out 7
              have hfz32_8 := blk_frozen BK119.out 8
              have hfz32_9 := blk_frozen BK119.out 9
              go_wp2_with (first | ((with_reducible refine gate_callee (f := 42) rfl ?_); refine goesL_ (some 5) rfl rfl Try.func42 (by kernel_rfl) rfl #[.agg #[.int .i64 a0_1, .int .i64 a0_2]] rfl (by (try simp only [List.map_toArray, List.map_cons, List.map_nil]); first | done | rfl | (simp only [List.length_drop, List.length_take]; rfl)) ?_; (with_reducible refine (cachetteref04_Right.calls a0_1 a0_2 true _ A4.out).mono ?_); rintro e w33 ⟨rfl, hb⟩; refine ⟨_, rfl, ?_⟩; have n0_ := Aside0.mk (blk_below (g := gb119) (o := .cells #[.int .i64 a0_0, .int .i64 a0_1, .int .i64 a0_2, .int .i64 a0_3, .int .i64 a0_4, .int .i64 a0_5, .int .i64 a0_6, .bool a0_7, .string a0_8, .slice A0_9 l0_9.length c0_9] 26 (0, 0)) (by (with_reducible repeat (first | refine blk_drewN ?_ _ | refine blk_drew ?_ | refine blk_alloc ?_ _)); exact BK119.out) hb); have n1_ := Aside0.mk (below_step (by repeat (first | (with_reducible first | exact HB.out | apply below_alloc | apply pw_below_drewN | apply below_drew1 | refine below_set ?_ GE119.out) | exact HB.out)) hb); clear BK119; clear HB; have BK119 := n0_; have HB := n1_; clear n0_ n1_; (try clear hb); (try clear hb2); (try clear hk); (try clear hi); have hcz34_0 : w33.cell? ⟨gb119, 0, none⟩ = some (.int .i64 a0_0) := (blk_cell BK119.out 0).trans rfl; have hcz34_1 : w33.cell? ⟨gb119, 1, none⟩ = some (.int .i64 a0_1) := (blk_cell BK119.out 1).trans rfl; have hcz34_2 : w33.cell? ⟨gb119, 2, none⟩ = some (.int .i64 a0_2) := (blk_cell BK119.out 2).trans rfl; have hcz34_3 : w33.cell? ⟨gb119, 3, none⟩ = some (.int .i64 a0_3) := (blk_cell BK119.out 3).trans rfl; have hcz34_4 : w33.cell? ⟨gb119, 4, none⟩ = some (.int .i64 a0_4) := (blk_cell BK119.out 4).trans rfl; have hcz34_5 : w33.cell? ⟨gb119, 5, none⟩ = some (.int .i64 a0_5) := (blk_cell BK119.out 5).trans rfl; have hcz34_6 : w33.cell? ⟨gb119, 6, none⟩ = some (.int .i64 a0_6) := (blk_cell BK119.out 6).trans rfl; have hcz34_7 : w33.cell? ⟨gb119, 7, none⟩ = some (.bool a0_7) := (blk_cell BK119.out 7).trans rfl; have hcz34_8 : w33.cell? ⟨gb119, 8, none⟩ = some (.string a0_8) := (blk_cell BK119.out 8).trans rfl; have hcz34_9 : w33.cell? ⟨gb119, 9, none⟩ = some (.slice A0_9 l0_9.length c0_9) := (blk_cell BK119.out 9).trans rfl; have hfz34_0 := blk_frozen BK119.out 0; have hfz34_1 := blk_frozen BK119.out 1; have hfz34_2 := blk_frozen BK119.out 2; have hfz34_3 := blk_frozen BK119.out 3; have hfz34_4 := blk_frozen BK119.out 4; have hfz34_5 := blk_frozen BK119.out 5; have hfz34_6 := blk_frozen BK119.out 6; have hfz34_7 := blk_frozen BK119.out 7; have hfz34_8 := blk_frozen BK119.out 8; have hfz34_9 := blk_frozen BK119.out 9) | (go_at_call 42; (with_reducible refine (cachetteref04_Right.calls a0_3 a0_4 true _ A6.out).mono ?_); rintro e w35 ⟨rfl, hb⟩; have n0_ := Aside0.mk (blk_below (g := gb119) (o := .cells #[.int .i64 a0_0, .int .i64 a0_1, .int .i64 a0_2, .int .i64 a0_3, .int .i64 a0_4, .int .i64 a0_5, .int .i64 a0_6, .bool a0_7, .string a0_8, .slice A0_9 l0_9.length c0_9] 26 (0, 0)) (by (with_reducible repeat (first | refine blk_drewN ?_ _ | refine blk_drew ?_ | refine blk_alloc ?_ _)); exact BK119.out) hb); have n1_ := Aside0.mk (below_step (by repeat (first | (with_reducible first | exact HB.out | apply below_alloc | apply pw_below_drewN | apply below_drew1 | refine below_set ?_ GE119.out) | exact HB.out)) hb); clear BK119; clear HB; have BK119 := n0_; have HB := n1_; clear n0_ n1_; (try clear hb); (try clear hb2); (try clear hk); (try clear hi); have hcz36_0 : w35.cell? ⟨gb119, 0, none⟩ = some (.int .i64 a0_0) := (blk_cell BK119.out 0).trans rfl; have hcz36_1 : w35.cell? ⟨gb119, 1, none⟩ = some (.int .i64 a0_1) := (blk_cell BK119.out 1).trans rfl; have hcz36_2 : w35.cell? ⟨gb119, 2, none⟩ = some (.int .i64 a0_2) := (blk_cell BK119.out 2).trans rfl; have hcz36_3 : w35.cell? ⟨gb119, 3, none⟩ = some (.int .i64 a0_3) := (blk_cell BK119.out 3).trans rfl; have hcz36_4 : w35.cell? ⟨gb119, 4, none⟩ = some (.int .i64 a0_4) := (blk_cell BK119.out 4).trans rfl; have hcz36_5 : w35.cell? ⟨gb119, 5, none⟩ = some (.int .i64 a0_5) := (blk_cell BK119.out 5).trans rfl; have hcz36_6 : w35.cell? ⟨gb119, 6, none⟩ = some (.int .i64 a0_6) := (blk_cell BK119.out 6).trans rfl; have hcz36_7 : w35.cell? ⟨gb119, 7, none⟩ = some (.bool a0_7) := (blk_cell BK119.out 7).trans rfl; have hcz36_8 : w35.cell? ⟨gb119, 8, none⟩ = some (.string a0_8) := (blk_cell BK119.out 8).trans rfl; have hcz36_9 : w35.cell? ⟨gb119, 9, none⟩ = some (.slice A0_9 l0_9.length c0_9) := (blk_cell BK119.out 9).trans rfl; have hfz36_0 := blk_frozen BK119.out 0; have hfz36_1 := blk_frozen BK119.out 1; have hfz36_2 := blk_frozen BK119.out 2; have hfz36_3 := blk_frozen BK119.out 3; have hfz36_4 := blk_frozen BK119.out 4; have hfz36_5 := blk_frozen BK119.out 5; have hfz36_6 := blk_frozen BK119.out 6; have hfz36_7 := blk_frozen BK119.out 7; have hfz36_8 := blk_frozen BK119.out 8; have hfz36_9 := blk_frozen BK119.out 9))
              go_meet
              case rel => exact ⟨_, (a0_7), (by first | rfl | (simp; done) | (simp [*]; done)), H', ⟨by first | omega | exact Nat.le_refl _⟩, ⟨by (with_reducible repeat (first | refine blk_drewN ?_ _ | refine blk_drew ?_ | refine blk_alloc ?_ _)); exact BK119.out⟩, ⟨by repeat (first | (with_reducible first | exact HB.out | apply below_alloc | apply pw_below_drewN | apply below_drew1 | refine below_set ?_ GE119.out) | exact HB.out)⟩⟩
      · replace c7 := Bool.eq_false_iff.mpr c7
        subst c7
        have H1 : (cachetteref15_Right.j0 k true a0_0 a0_1 a0_2 a0_3 a0_4 a0_5 a0_6 a0_7 a0_8 l0_9) = some r := by rw [if_neg (show ¬ (false = true) by decide)] at H; exact H
        clear H
        have H := H1
        clear H1
        have H' := Aside0.mk H
        clear H
        have hcz37_0 : w3.cell? ⟨gb119, 0, none⟩ = some (.int .i64 a0_0) := (blk_cell BK119.out 0).trans rfl
        have hcz37_1 : w3.cell? ⟨gb119, 1, none⟩ = some (.int .i64 a0_1) := (blk_cell BK119.out 1).trans rfl
        have hcz37_2 : w3.cell? ⟨gb119, 2, none⟩ = some (.int .i64 a0_2) := (blk_cell BK119.out 2).trans rfl
        have hcz37_3 : w3.cell? ⟨gb119, 3, none⟩ = some (.int .i64 a0_3) := (blk_cell BK119.out 3).trans rfl
        have hcz37_4 : w3.cell? ⟨gb119, 4, none⟩ = some (.int .i64 a0_4) := (blk_cell BK119.out 4).trans rfl
        have hcz37_5 : w3.cell? ⟨gb119, 5, none⟩ = some (.int .i64 a0_5) := (blk_cell BK119.out 5).trans rfl
        have hcz37_6 : w3.cell? ⟨gb119, 6, none⟩ = some (.int .i64 a0_6) := (blk_cell BK119.out 6).trans rfl
        have hcz37_7 : w3.cell? ⟨gb119, 7, none⟩ = some (.bool a0_7) := (blk_cell BK119.out 7).trans rfl
        have hcz37_8 : w3.cell? ⟨gb119, 8, none⟩ = some (.string a0_8) := (blk_cell BK119.out 8).trans rfl
        have hcz37_9 : w3.cell? ⟨gb119, 9, none⟩ = some (.slice A0_9 l0_9.length c0_9) := (blk_cell BK119.out 9).trans rfl
        have hfz37_0 := blk_frozen BK119.out 0
        have hfz37_1 := blk_frozen BK119.out 1
        have hfz37_2 := blk_frozen BK119.out 2
        have hfz37_3 := blk_frozen BK119.out 3
        have hfz37_4 := blk_frozen BK119.out 4
        have hfz37_5 := blk_frozen BK119.out 5
        have hfz37_6 := blk_frozen BK119.out 6
        have hfz37_7 := blk_frozen BK119.out 7
        have hfz37_8 := blk_frozen BK119.out 8
        have hfz37_9 := blk_frozen BK119.out 9
        go_wp2_with (first | ((with_reducible refine gate_callee (f := 42) rfl ?_); refine goesL_ (some 5) rfl rfl Try.func42 (by kernel_rfl) rfl #[.agg #[.int .i64 a0_1, .int .i64 a0_2]] rfl (by (try simp only [List.map_toArray, List.map_cons, List.map_nil]); first | done | rfl | (simp only [List.length_drop, List.length_take]; rfl)) ?_; (with_reducible refine (cachetteref04_Right.calls a0_1 a0_2 true _ A4.out).mono ?_); rintro e w38 ⟨rfl, hb⟩; refine ⟨_, rfl, ?_⟩; have n0_ := Aside0.mk (blk_below (g := gb119) (o := .cells #[.int .i64 a0_0, .int .i64 a0_1, .int .i64 a0_2, .int .i64 a0_3, .int .i64 a0_4, .int .i64 a0_5, .int .i64 a0_6, .bool a0_7, .string a0_8, .slice A0_9 l0_9.length c0_9] 26 (0, 0)) (by (with_reducible repeat (first | refine blk_drewN ?_ _ | refine blk_drew ?_ | refine blk_alloc ?_ _)); exact BK119.out) hb); have n1_ := Aside0.mk (below_step (by repeat (first | (with_reducible first | exact HB.out | apply below_alloc | apply pw_below_drewN | apply below_drew1 | refine below_set ?_ GE119.out) | exact HB.out)) hb); clear BK119; clear HB; have BK119 := n0_; have HB := n1_; clear n0_ n1_; (try clear hb); (try clear hb2); (try clear hk); (try clear hi); have hcz39_0 : w38.cell? ⟨gb119, 0, none⟩ = some (.int .i64 a0_0) := (blk_cell BK119.out 0).trans rfl; have hcz39_1 : w38.cell? ⟨gb119, 1, none⟩ = some (.int .i64 a0_1) := (blk_cell BK119.out 1).trans rfl; have hcz39_2 : w38.cell? ⟨gb119, 2, none⟩ = some (.int .i64 a0_2) := (blk_cell BK119.out 2).trans rfl; have hcz39_3 : w38.cell? ⟨gb119, 3, none⟩ = some (.int .i64 a0_3) := (blk_cell BK119.out 3).trans rfl; have hcz39_4 : w38.cell? ⟨gb119, 4, none⟩ = some (.int .i64 a0_4) := (blk_cell BK119.out 4).trans rfl; have hcz39_5 : w38.cell? ⟨gb119, 5, none⟩ = some (.int .i64 a0_5) := (blk_cell BK119.out 5).trans rfl; have hcz39_6 : w38.cell? ⟨gb119, 6, none⟩ = some (.int .i64 a0_6) := (blk_cell BK119.out 6).trans rfl; have hcz39_7 : w38.cell? ⟨gb119, 7, none⟩ = some (.bool a0_7) := (blk_cell BK119.out 7).trans rfl; have hcz39_8 : w38.cell? ⟨gb119, 8, none⟩ = some (.string a0_8) := (blk_cell BK119.out 8).trans rfl; have hcz39_9 : w38.cell? ⟨gb119, 9, none⟩ = some (.slice A0_9 l0_9.length c0_9) := (blk_cell BK119.out 9).trans rfl; have hfz39_0 := blk_frozen BK119.out 0; have hfz39_1 := blk_frozen BK119.out 1; have hfz39_2 := blk_frozen BK119.out 2; have hfz39_3 := blk_frozen BK119.out 3; have hfz39_4 := blk_frozen BK119.out 4; have hfz39_5 := blk_frozen BK119.out 5; have hfz39_6 := blk_frozen BK119.out 6; have hfz39_7 := blk_frozen BK119.out 7; have hfz39_8 := blk_frozen BK119.out 8; have hfz39_9 := blk_frozen BK119.out 9) | (go_at_call 42; (with_reducible refine (cachetteref04_Right.calls a0_3 a0_4 false _ A6.out).mono ?_); rintro e w40 ⟨rfl, hb⟩; have n0_ := Aside0.mk (blk_below (g := gb119) (o := .cells #[.int .i64 a0_0, .int .i64 a0_1, .int .i64 a0_2, .int .i64 a0_3, .int .i64 a0_4, .int .i64 a0_5, .int .i64 a0_6, .bool a0_7, .string a0_8, .slice A0_9 l0_9.length c0_9] 26 (0, 0)) (by (with_reducible repeat (first | refine blk_drewN ?_ _ | refine blk_drew ?_ | refine blk_alloc ?_ _)); exact BK119.out) hb); have n1_ := Aside0.mk (below_step (by repeat (first | (with_reducible first | exact HB.out | apply below_alloc | apply pw_below_drewN | apply below_drew1 | refine below_set ?_ GE119.out) | exact HB.out)) hb); clear BK119; clear HB; have BK119 := n0_; have HB := n1_; clear n0_ n1_; (try clear hb); (try clear hb2); (try clear hk); (try clear hi)))
        go_meet
        case rel => exact ⟨_, (true), (by first | rfl | (simp; done) | (simp [*]; done)), H', ⟨by first | omega | exact Nat.le_refl _⟩, ⟨by (with_reducible repeat (first | refine blk_drewN ?_ _ | refine blk_drew ?_ | refine blk_alloc ?_ _)); exact BK119.out⟩, ⟨by repeat (first | (with_reducible first | exact HB.out | apply below_alloc | apply pw_below_drewN | apply below_drew1 | refine below_set ?_ GE119.out) | exact HB.out)⟩⟩
    · replace c5 := Bool.eq_false_iff.mpr c5
      subst c5
      have H1 : (cachetteref15_Right.j0 k true a0_0 a0_1 a0_2 a0_3 a0_4 a0_5 a0_6 a0_7 a0_8 l0_9) = some r := by rw [if_neg (show ¬ (false = true) by decide)] at H; exact H
      clear H
      have H := H1
      clear H1
      have H' := Aside0.mk H
      clear H
      have hcz41_0 : w3.cell? ⟨gb119, 0, none⟩ = some (.int .i64 a0_0) := (blk_cell BK119.out 0).trans rfl
      have hcz41_1 : w3.cell? ⟨gb119, 1, none⟩ = some (.int .i64 a0_1) := (blk_cell BK119.out 1).trans rfl
      have hcz41_2 : w3.cell? ⟨gb119, 2, none⟩ = some (.int .i64 a0_2) := (blk_cell BK119.out 2).trans rfl
      have hcz41_3 : w3.cell? ⟨gb119, 3, none⟩ = some (.int .i64 a0_3) := (blk_cell BK119.out 3).trans rfl
      have hcz41_4 : w3.cell? ⟨gb119, 4, none⟩ = some (.int .i64 a0_4) := (blk_cell BK119.out 4).trans rfl
      have hcz41_5 : w3.cell? ⟨gb119, 5, none⟩ = some (.int .i64 a0_5) := (blk_cell BK119.out 5).trans rfl
      have hcz41_6 : w3.cell? ⟨gb119, 6, none⟩ = some (.int .i64 a0_6) := (blk_cell BK119.out 6).trans rfl
      have hcz41_7 : w3.cell? ⟨gb119, 7, none⟩ = some (.bool a0_7) := (blk_cell BK119.out 7).trans rfl
      have hcz41_8 : w3.cell? ⟨gb119, 8, none⟩ = some (.string a0_8) := (blk_cell BK119.out 8).trans rfl
      have hcz41_9 : w3.cell? ⟨gb119, 9, none⟩ = some (.slice A0_9 l0_9.length c0_9) := (blk_cell BK119.out 9).trans rfl
      have hfz41_0 := blk_frozen BK119.out 0
      have hfz41_1 := blk_frozen BK119.out 1
      have hfz41_2 := blk_frozen BK119.out 2
      have hfz41_3 := blk_frozen BK119.out 3
      have hfz41_4 := blk_frozen BK119.out 4
      have hfz41_5 := blk_frozen BK119.out 5
      have hfz41_6 := blk_frozen BK119.out 6
      have hfz41_7 := blk_frozen BK119.out 7
      have hfz41_8 := blk_frozen BK119.out 8
      have hfz41_9 := blk_frozen BK119.out 9
      go_wp2_with (first | ((with_reducible refine gate_callee (f := 42) rfl ?_); refine goesL_ (some 5) rfl rfl Try.func42 (by kernel_rfl) rfl #[.agg #[.int .i64 a0_1, .int .i64 a0_2]] rfl (by (try simp only [List.map_toArray, List.map_cons, List.map_nil]); first | done | rfl | (simp only [List.length_drop, List.length_take]; rfl)) ?_; (with_reducible refine (cachetteref04_Right.calls a0_1 a0_2 false _ A4.out).mono ?_); rintro e w42 ⟨rfl, hb⟩; refine ⟨_, rfl, ?_⟩; have n0_ := Aside0.mk (blk_below (g := gb119) (o := .cells #[.int .i64 a0_0, .int .i64 a0_1, .int .i64 a0_2, .int .i64 a0_3, .int .i64 a0_4, .int .i64 a0_5, .int .i64 a0_6, .bool a0_7, .string a0_8, .slice A0_9 l0_9.length c0_9] 26 (0, 0)) (by (with_reducible repeat (first | refine blk_drewN ?_ _ | refine blk_drew ?_ | refine blk_alloc ?_ _)); exact BK119.out) hb); have n1_ := Aside0.mk (below_step (by repeat (first | (with_reducible first | exact HB.out | apply below_alloc | apply pw_below_drewN | apply below_drew1 | refine below_set ?_ GE119.out) | exact HB.out)) hb); clear BK119; clear HB; have BK119 := n0_; have HB := n1_; clear n0_ n1_; (try clear hb); (try clear hb2); (try clear hk); (try clear hi)))
      go_meet
      case rel => exact ⟨_, (true), (by first | rfl | (simp; done) | (simp [*]; done)), H', ⟨by first | omega | exact Nat.le_refl _⟩, ⟨by (with_reducible repeat (first | refine blk_drewN ?_ _ | refine blk_drew ?_ | refine blk_alloc ?_ _)); exact BK119.out⟩, ⟨by repeat (first | (with_reducible first | exact HB.out | apply below_alloc | apply pw_below_drewN | apply below_drew1 | refine below_set ?_ GE119.out) | exact HB.out)⟩⟩
  case rest =>
    clear HC2
    try clear c1
    try clear c2
    try clear p2
    try clear c4
    try clear c5
    try clear c7
    try clear c8
    try clear c8b0
    try clear c8b1
    try clear c9
    try clear c9b0
    try clear c9b1
    try clear c15
    try clear c20
    try clear c20b0
    try clear c20b1
    try clear c26
    try clear c26b0
    try clear c26b1
    try clear c42
    try clear hcz10_0
    try clear hcz10_1
    try clear hcz10_2
    try clear hcz10_3
    try clear hcz10_4
    try clear hcz10_5
    try clear hcz10_6
    try clear hcz10_7
    try clear hcz10_8
    try clear hcz10_9
    try clear hcz12_0
    try clear hcz12_1
    try clear hcz12_2
    try clear hcz12_3
    try clear hcz12_4
    try clear hcz12_5
    try clear hcz12_6
    try clear hcz12_7
    try clear hcz12_8
    try clear hcz12_9
    try clear hcz14_0
    try clear hcz14_1
    try clear hcz14_2
    try clear hcz14_3
    try clear hcz14_4
    try clear hcz14_5
    try clear hcz14_6
    try clear hcz14_7
    try clear hcz14_8
    try clear hcz14_9
    try clear hcz15_0
    try clear hcz15_1
    try clear hcz15_2
    try clear hcz15_3
    try clear hcz15_4
    try clear hcz15_5
    try clear hcz15_6
    try clear hcz15_7
    try clear hcz15_8
    try clear hcz15_9
    try clear hcz17_0
    try clear hcz17_1
    try clear hcz17_2
    try clear hcz17_3
    try clear hcz17_4
    try clear hcz17_5
    try clear hcz17_6
    try clear hcz17_7
    try clear hcz17_8
    try clear hcz17_9
    try clear hcz19_0
    try clear hcz19_1
    try clear hcz19_2
    try clear hcz19_3
    try clear hcz19_4
    try clear hcz19_5
    try clear hcz19_6
    try clear hcz19_7
    try clear hcz19_8
    try clear hcz19_9
    try clear hcz21_0
    try clear hcz21_1
    try clear hcz21_2
    try clear hcz21_3
    try clear hcz21_4
    try clear hcz21_5
    try clear hcz21_6
    try clear hcz21_7
    try clear hcz21_8
    try clear hcz21_9
    try clear hcz23_0
    try clear hcz23_1
    try clear hcz23_2
    try clear hcz23_3
    try clear hcz23_4
    try clear hcz23_5
    try clear hcz23_6
    try clear hcz23_7
    try clear hcz23_8
    try clear hcz23_9
    try clear hcz25_0
    try clear hcz25_1
    try clear hcz25_2
    try clear hcz25_3
    try clear hcz25_4
    try clear hcz25_5
    try clear hcz25_6
    try clear hcz25_7
    try clear hcz25_8
    try clear hcz25_9
    try clear hcz27_0
    try clear hcz27_1
    try clear hcz27_2
    try clear hcz27_3
    try clear hcz27_4
    try clear hcz27_5
    try clear hcz27_6
    try clear hcz27_7
    try clear hcz27_8
    try clear hcz27_9
    try clear hcz29_0
    try clear hcz29_1
    try clear hcz29_2
    try clear hcz29_3
    try clear hcz29_4
    try clear hcz29_5
    try clear hcz29_6
    try clear hcz29_7
    try clear hcz29_8
    try clear hcz29_9
    try clear hcz31_0
    try clear hcz31_1
    try clear hcz31_2
    try clear hcz31_3
    try clear hcz31_4
    try clear hcz31_5
    try clear hcz31_6
    try clear hcz31_7
    try clear hcz31_8
    try clear hcz31_9
    try clear hcz32_0
    try clear hcz32_1
    try clear hcz32_2
    try clear hcz32_3
    try clear hcz32_4
    try clear hcz32_5
    try clear hcz32_6
    try clear hcz32_7
    try clear hcz32_8
    try clear hcz32_9
    try clear hcz34_0
    try clear hcz34_1
    try clear hcz34_2
    try clear hcz34_3
    try clear hcz34_4
    try clear hcz34_5
    try clear hcz34_6
    try clear hcz34_7
    try clear hcz34_8
    try clear hcz34_9
    try clear hcz36_0
    try clear hcz36_1
    try clear hcz36_2
    try clear hcz36_3
    try clear hcz36_4
    try clear hcz36_5
    try clear hcz36_6
    try clear hcz36_7
    try clear hcz36_8
    try clear hcz36_9
    try clear hcz37_0
    try clear hcz37_1
    try clear hcz37_2
    try clear hcz37_3
    try clear hcz37_4
    try clear hcz37_5
    try clear hcz37_6
    try clear hcz37_7
    try clear hcz37_8
    try clear hcz37_9
    try clear hcz39_0
    try clear hcz39_1
    try clear hcz39_2
    try clear hcz39_3
    try clear hcz39_4
    try clear hcz39_5
    try clear hcz39_6
    try clear hcz39_7
    try clear hcz39_8
    try clear hcz39_9
    try clear hcz41_0
    try clear hcz41_1
    try clear hcz41_2
    try clear hcz41_3
    try clear hcz41_4
    try clear hcz41_5
    try clear hcz41_6
    try clear hcz41_7
    try clear hcz41_8
    try clear hcz41_9
    try clear hfz10_0
    try clear hfz10_1
    try clear hfz10_2
    try clear hfz10_3
    try clear hfz10_4
    try clear hfz10_5
    try clear hfz10_6
    try clear hfz10_7
    try clear hfz10_8
    try clear hfz10_9
    try clear hfz12_0
    try clear hfz12_1
    try clear hfz12_2
    try clear hfz12_3
    try clear hfz12_4
    try clear hfz12_5
    try clear hfz12_6
    try clear hfz12_7
    try clear hfz12_8
    try clear hfz12_9
    try clear hfz14_0
    try clear hfz14_1
    try clear hfz14_2
    try clear hfz14_3
    try clear hfz14_4
    try clear hfz14_5
    try clear hfz14_6
    try clear hfz14_7
    try clear hfz14_8
    try clear hfz14_9
    try clear hfz15_0
    try clear hfz15_1
    try clear hfz15_2
    try clear hfz15_3
    try clear hfz15_4
    try clear hfz15_5
    try clear hfz15_6
    try clear hfz15_7
    try clear hfz15_8
    try clear hfz15_9
    try clear hfz17_0
    try clear hfz17_1
    try clear hfz17_2
    try clear hfz17_3
    try clear hfz17_4
    try clear hfz17_5
    try clear hfz17_6
    try clear hfz17_7
    try clear hfz17_8
    try clear hfz17_9
    try clear hfz19_0
    try clear hfz19_1
    try clear hfz19_2
    try clear hfz19_3
    try clear hfz19_4
    try clear hfz19_5
    try clear hfz19_6
    try clear hfz19_7
    try clear hfz19_8
    try clear hfz19_9
    try clear hfz21_0
    try clear hfz21_1
    try clear hfz21_2
    try clear hfz21_3
    try clear hfz21_4
    try clear hfz21_5
    try clear hfz21_6
    try clear hfz21_7
    try clear hfz21_8
    try clear hfz21_9
    try clear hfz23_0
    try clear hfz23_1
    try clear hfz23_2
    try clear hfz23_3
    try clear hfz23_4
    try clear hfz23_5
    try clear hfz23_6
    try clear hfz23_7
    try clear hfz23_8
    try clear hfz23_9
    try clear hfz25_0
    try clear hfz25_1
    try clear hfz25_2
    try clear hfz25_3
    try clear hfz25_4
    try clear hfz25_5
    try clear hfz25_6
    try clear hfz25_7
    try clear hfz25_8
    try clear hfz25_9
    try clear hfz27_0
    try clear hfz27_1
    try clear hfz27_2
    try clear hfz27_3
    try clear hfz27_4
    try clear hfz27_5
    try clear hfz27_6
    try clear hfz27_7
    try clear hfz27_8
    try clear hfz27_9
    try clear hfz29_0
    try clear hfz29_1
    try clear hfz29_2
    try clear hfz29_3
    try clear hfz29_4
    try clear hfz29_5
    try clear hfz29_6
    try clear hfz29_7
    try clear hfz29_8
    try clear hfz29_9
    try clear hfz31_0
    try clear hfz31_1
    try clear hfz31_2
    try clear hfz31_3
    try clear hfz31_4
    try clear hfz31_5
    try clear hfz31_6
    try clear hfz31_7
    try clear hfz31_8
    try clear hfz31_9
    try clear hfz32_0
    try clear hfz32_1
    try clear hfz32_2
    try clear hfz32_3
    try clear hfz32_4
    try clear hfz32_5
    try clear hfz32_6
    try clear hfz32_7
    try clear hfz32_8
    try clear hfz32_9
    try clear hfz34_0
    try clear hfz34_1
    try clear hfz34_2
    try clear hfz34_3
    try clear hfz34_4
    try clear hfz34_5
    try clear hfz34_6
    try clear hfz34_7
    try clear hfz34_8
    try clear hfz34_9
    try clear hfz36_0
    try clear hfz36_1
    try clear hfz36_2
    try clear hfz36_3
    try clear hfz36_4
    try clear hfz36_5
    try clear hfz36_6
    try clear hfz36_7
    try clear hfz36_8
    try clear hfz36_9
    try clear hfz37_0
    try clear hfz37_1
    try clear hfz37_2
    try clear hfz37_3
    try clear hfz37_4
    try clear hfz37_5
    try clear hfz37_6
    try clear hfz37_7
    try clear hfz37_8
    try clear hfz37_9
    try clear hfz39_0
    try clear hfz39_1
    try clear hfz39_2
    try clear hfz39_3
    try clear hfz39_4
    try clear hfz39_5
    try clear hfz39_6
    try clear hfz39_7
    try clear hfz39_8
    try clear hfz39_9
    try clear hfz41_0
    try clear hfz41_1
    try clear hfz41_2
    try clear hfz41_3
    try clear hfz41_4
    try clear hfz41_5
    try clear hfz41_6
    try clear hfz41_7
    try clear hfz41_8
    try clear hfz41_9
    obtain ⟨kq, x32_1, rfl, HA, HJ1, BK119, HB⟩ := hcut
    cases kq with
    | zero => exact absurd HA.out (by simp [cachetteref15_Right.j0])
    | succ kj1 =>
      have H := HA.out
      clear HA
      simp only [cachetteref15_Right.j0] at H
      by_cases c43 : x32_1 = true
      · subst c43
        have H1 : (some false) = some r := by rw [if_pos rfl] at H; exact H
        clear H
        have H := H1
        clear H1
        obtain rfl := Option.some.inj H
        go_wp2
        go_ret
        exact ⟨by first | rfl | (simp [errW_none, errW_some] <;> rfl) | (simp [*, errW_none, errW_some] <;> rfl), by repeat (first | (with_reducible first | exact HB.out | apply below_alloc | apply pw_below_drewN | apply below_drew1 | refine below_set ?_ GE119.out) | exact HB.out)⟩
      · replace c43 := Bool.eq_false_iff.mpr c43
        subst c43
        have H1 : (if a0_0 = 1 then (if (a0_3 == a0_1 && (a0_4 == a0_2)) = true then ((cachetteref15_place.f a0_5 a0_6).bind fun t122 => (if t122 = true then ((cachetteref15_Name.f kj1 a0_8).bind fun t123 => (some t123)) else (some false))) else (some false)) else (if a0_0 = 2 then ((cachetteref15_place.f a0_5 a0_6).bind fun t124 => (if t124 = true then ((cachetteref15_Name.f kj1 a0_8).bind fun t125 => (some t125)) else (some false))) else (if a0_0 = 3 then (if (a0_5 == 0 && (a0_6 == 0)) = true then (some (a0_8.toList == ([] : List UInt8))) else (some false)) else (if a0_0 = 4 then (if (a0_5 == 0 && (a0_6 == 0)) = true then (if a0_8.toList = ([] : List UInt8) then (some (decide ((l0_9.length : Int) ≤ 400))) else (some false)) else (some false)) else (some false))))) = some r := by rw [if_neg (show ¬ (false = true) by decide)] at H; exact H
        clear H
        have H := H1
        clear H1
        by_cases c44 : a0_0 = 1
        · rw [if_pos c44] at H
          have c44b0 : (a0_0 == 1) = true := beq_iff_eq.mpr c44
          have c44b1 : (a0_0 != 1) = false := bne_eq_false_iff_eq.mpr c44
          clear c44
          by_cases c45 : (a0_3 == a0_1 && (a0_4 == a0_2)) = true
          · rw [if_pos c45] at H
            have c45b0 : (a0_3 == a0_1 && (a0_4 == a0_2)) = true := c45
            (try (have c45b1 : decide (a0_3 = a0_1 && (a0_4 == a0_2)) = true := by simpa using c45))
            (try (have c45b2 : (a0_3 == a0_1 && (a0_4 == a0_2)) = true := by simpa using c45))
            clear c45
            replace H := Option.bind_eq_some_iff.mp H
            obtain ⟨t122, A460, H⟩ := H
            replace H : (if t122 = true then ((cachetteref15_Name.f kj1 a0_8).bind fun t123 => (some t123)) else (some false)) = some r := H
            have A46 := Aside0.mk A460
            clear A460
            by_cases c47 : t122 = true
            · subst c47
              have H1 : ((cachetteref15_Name.f kj1 a0_8).bind fun t123 => (some t123)) = some r := by rw [if_pos rfl] at H; exact H
              clear H
              have H := H1
              clear H1
              replace H := Option.bind_eq_some_iff.mp H
              obtain ⟨t123, A480, H⟩ := H
              replace H : (some t123) = some r := H
              have A48 := Aside0.mk A480
              clear A480
              obtain rfl := Option.some.inj H
              have hcz49_0 : wc.cell? ⟨gb119, 0, none⟩ = some (.int .i64 a0_0) := (blk_cell BK119.out 0).trans rfl
              have hcz49_1 : wc.cell? ⟨gb119, 1, none⟩ = some (.int .i64 a0_1) := (blk_cell BK119.out 1).trans rfl
              have hcz49_2 : wc.cell? ⟨gb119, 2, none⟩ = some (.int .i64 a0_2) := (blk_cell BK119.out 2).trans rfl
              have hcz49_3 : wc.cell? ⟨gb119, 3, none⟩ = some (.int .i64 a0_3) := (blk_cell BK119.out 3).trans rfl
              have hcz49_4 : wc.cell? ⟨gb119, 4, none⟩ = some (.int .i64 a0_4) := (blk_cell BK119.out 4).trans rfl
              have hcz49_5 : wc.cell? ⟨gb119, 5, none⟩ = some (.int .i64 a0_5) := (blk_cell BK119.out 5).trans rfl
              have hcz49_6 : wc.cell? ⟨gb119, 6, none⟩ = some (.int .i64 a0_6) := (blk_cell BK119.out 6).trans rfl
              have hcz49_7 : wc.cell? ⟨gb119, 7, none⟩ = some (.bool a0_7) := (blk_cell BK119.out 7).trans rfl
              have hcz49_8 : wc.cell? ⟨gb119, 8, none⟩ = some (.string a0_8) := (blk_cell BK119.out 8).trans rfl
              have hcz49_9 : wc.cell? ⟨gb119, 9, none⟩ = some (.slice A0_9 l0_9.length c0_9) := (blk_cell BK119.out 9).trans rfl
              have hfz49_0 := blk_frozen BK119.out 0
              have hfz49_1 := blk_frozen BK119.out 1
              have hfz49_2 := blk_frozen BK119.out 2
              have hfz49_3 := blk_frozen BK119.out 3
              have hfz49_4 := blk_frozen BK119.out 4
              have hfz49_5 := blk_frozen BK119.out 5
              have hfz49_6 := blk_frozen BK119.out 6
              have hfz49_7 := blk_frozen BK119.out 7
              have hfz49_8 := blk_frozen BK119.out 8
              have hfz49_9 := blk_frozen BK119.out 9
              go_wp2_with (first | (go_at_call 43; (with_reducible refine (cachetteref15_place.calls a0_5 a0_6 true _ A46.out).mono ?_); rintro e w50 ⟨rfl, hb⟩; have n0_ := Aside0.mk (blk_below (g := gb119) (o := .cells #[.int .i64 a0_0, .int .i64 a0_1, .int .i64 a0_2, .int .i64 a0_3, .int .i64 a0_4, .int .i64 a0_5, .int .i64 a0_6, .bool a0_7, .string a0_8, .slice A0_9 l0_9.length c0_9] 26 (0, 0)) (by (with_reducible repeat (first | refine blk_drewN ?_ _ | refine blk_drew ?_ | refine blk_alloc ?_ _)); exact BK119.out) hb); have n1_ := Aside0.mk (below_step (by repeat (first | (with_reducible first | exact HB.out | apply below_alloc | apply pw_below_drewN | apply below_drew1 | refine below_set ?_ GE119.out) | exact HB.out)) hb); clear BK119; clear HB; have BK119 := n0_; have HB := n1_; clear n0_ n1_; (try clear hb); (try clear hb2); (try clear hk); (try clear hi); have hcz51_0 : w50.cell? ⟨gb119, 0, none⟩ = some (.int .i64 a0_0) := (blk_cell BK119.out 0).trans rfl; have hcz51_1 : w50.cell? ⟨gb119, 1, none⟩ = some (.int .i64 a0_1) := (blk_cell BK119.out 1).trans rfl; have hcz51_2 : w50.cell? ⟨gb119, 2, none⟩ = some (.int .i64 a0_2) := (blk_cell BK119.out 2).trans rfl; have hcz51_3 : w50.cell? ⟨gb119, 3, none⟩ = some (.int .i64 a0_3) := (blk_cell BK119.out 3).trans rfl; have hcz51_4 : w50.cell? ⟨gb119, 4, none⟩ = some (.int .i64 a0_4) := (blk_cell BK119.out 4).trans rfl; have hcz51_5 : w50.cell? ⟨gb119, 5, none⟩ = some (.int .i64 a0_5) := (blk_cell BK119.out 5).trans rfl; have hcz51_6 : w50.cell? ⟨gb119, 6, none⟩ = some (.int .i64 a0_6) := (blk_cell BK119.out 6).trans rfl; have hcz51_7 : w50.cell? ⟨gb119, 7, none⟩ = some (.bool a0_7) := (blk_cell BK119.out 7).trans rfl; have hcz51_8 : w50.cell? ⟨gb119, 8, none⟩ = some (.string a0_8) := (blk_cell BK119.out 8).trans rfl; have hcz51_9 : w50.cell? ⟨gb119, 9, none⟩ = some (.slice A0_9 l0_9.length c0_9) := (blk_cell BK119.out 9).trans rfl; have hfz51_0 := blk_frozen BK119.out 0; have hfz51_1 := blk_frozen BK119.out 1; have hfz51_2 := blk_frozen BK119.out 2; have hfz51_3 := blk_frozen BK119.out 3; have hfz51_4 := blk_frozen BK119.out 4; have hfz51_5 := blk_frozen BK119.out 5; have hfz51_6 := blk_frozen BK119.out 6; have hfz51_7 := blk_frozen BK119.out 7; have hfz51_8 := blk_frozen BK119.out 8; have hfz51_9 := blk_frozen BK119.out 9) | (go_at_call 13; (with_reducible refine (cachetteref15_Name.calls kj1 a0_8 t123 _ A48.out).mono ?_); rintro e w' ⟨rfl, ⟨nd, rfl⟩⟩))
              go_ret
              exact ⟨by first | rfl | (simp [errW_none, errW_some] <;> rfl) | (simp [*, errW_none, errW_some] <;> rfl), by repeat (first | (with_reducible first | exact HB.out | apply below_alloc | apply pw_below_drewN | apply below_drew1 | refine below_set ?_ GE119.out) | exact HB.out)⟩
            · replace c47 := Bool.eq_false_iff.mpr c47
              subst c47
              have H1 : (some false) = some r := by rw [if_neg (show ¬ (false = true) by decide)] at H; exact H
              clear H
              have H := H1
              clear H1
              obtain rfl := Option.some.inj H
              have hcz52_0 : wc.cell? ⟨gb119, 0, none⟩ = some (.int .i64 a0_0) := (blk_cell BK119.out 0).trans rfl
              have hcz52_1 : wc.cell? ⟨gb119, 1, none⟩ = some (.int .i64 a0_1) := (blk_cell BK119.out 1).trans rfl
              have hcz52_2 : wc.cell? ⟨gb119, 2, none⟩ = some (.int .i64 a0_2) := (blk_cell BK119.out 2).trans rfl
              have hcz52_3 : wc.cell? ⟨gb119, 3, none⟩ = some (.int .i64 a0_3) := (blk_cell BK119.out 3).trans rfl
              have hcz52_4 : wc.cell? ⟨gb119, 4, none⟩ = some (.int .i64 a0_4) := (blk_cell BK119.out 4).trans rfl
              have hcz52_5 : wc.cell? ⟨gb119, 5, none⟩ = some (.int .i64 a0_5) := (blk_cell BK119.out 5).trans rfl
              have hcz52_6 : wc.cell? ⟨gb119, 6, none⟩ = some (.int .i64 a0_6) := (blk_cell BK119.out 6).trans rfl
              have hcz52_7 : wc.cell? ⟨gb119, 7, none⟩ = some (.bool a0_7) := (blk_cell BK119.out 7).trans rfl
              have hcz52_8 : wc.cell? ⟨gb119, 8, none⟩ = some (.string a0_8) := (blk_cell BK119.out 8).trans rfl
              have hcz52_9 : wc.cell? ⟨gb119, 9, none⟩ = some (.slice A0_9 l0_9.length c0_9) := (blk_cell BK119.out 9).trans rfl
              have hfz52_0 := blk_frozen BK119.out 0
              have hfz52_1 := blk_frozen BK119.out 1
              have hfz52_2 := blk_frozen BK119.out 2
              have hfz52_3 := blk_frozen BK119.out 3
              have hfz52_4 := blk_frozen BK119.out 4
              have hfz52_5 := blk_frozen BK119.out 5
              have hfz52_6 := blk_frozen BK119.out 6
              have hfz52_7 := blk_frozen BK119.out 7
              have hfz52_8 := blk_frozen BK119.out 8
              have hfz52_9 := blk_frozen BK119.out 9
              go_wp2_with (first | (go_at_call 43; (with_reducible refine (cachetteref15_place.calls a0_5 a0_6 false _ A46.out).mono ?_); rintro e w53 ⟨rfl, hb⟩; have n0_ := Aside0.mk (blk_below (g := gb119) (o := .cells #[.int .i64 a0_0, .int .i64 a0_1, .int .i64 a0_2, .int .i64 a0_3, .int .i64 a0_4, .int .i64 a0_5, .int .i64 a0_6, .bool a0_7, .string a0_8, .slice A0_9 l0_9.length c0_9] 26 (0, 0)) (by (with_reducible repeat (first | refine blk_drewN ?_ _ | refine blk_drew ?_ | refine blk_alloc ?_ _)); exact BK119.out) hb); have n1_ := Aside0.mk (below_step (by repeat (first | (with_reducible first | exact HB.out | apply below_alloc | apply pw_below_drewN | apply below_drew1 | refine below_set ?_ GE119.out) | exact HB.out)) hb); clear BK119; clear HB; have BK119 := n0_; have HB := n1_; clear n0_ n1_; (try clear hb); (try clear hb2); (try clear hk); (try clear hi)))
              go_ret
              exact ⟨by first | rfl | (simp [errW_none, errW_some] <;> rfl) | (simp [*, errW_none, errW_some] <;> rfl), by repeat (first | (with_reducible first | exact HB.out | apply below_alloc | apply pw_below_drewN | apply below_drew1 | refine below_set ?_ GE119.out) | exact HB.out)⟩
          · rw [if_neg c45] at H
            have c45b0 : (a0_3 == a0_1 && (a0_4 == a0_2)) = false := by simpa using c45
            (try (have c45b1 : decide (a0_3 = a0_1 && (a0_4 == a0_2)) = false := by simpa using c45))
            (try (have c45b2 : (a0_3 == a0_1 && (a0_4 == a0_2)) = false := by simpa using c45))
            (try (have c45b3 : ¬ (a0_3 = a0_1 && (a0_4 == a0_2)) := by simpa using c45))
            clear c45
            obtain rfl := Option.some.inj H
            have hcz54_0 : wc.cell? ⟨gb119, 0, none⟩ = some (.int .i64 a0_0) := (blk_cell BK119.out 0).trans rfl
            have hcz54_1 : wc.cell? ⟨gb119, 1, none⟩ = some (.int .i64 a0_1) := (blk_cell BK119.out 1).trans rfl
            have hcz54_2 : wc.cell? ⟨gb119, 2, none⟩ = some (.int .i64 a0_2) := (blk_cell BK119.out 2).trans rfl
            have hcz54_3 : wc.cell? ⟨gb119, 3, none⟩ = some (.int .i64 a0_3) := (blk_cell BK119.out 3).trans rfl
            have hcz54_4 : wc.cell? ⟨gb119, 4, none⟩ = some (.int .i64 a0_4) := (blk_cell BK119.out 4).trans rfl
            have hcz54_5 : wc.cell? ⟨gb119, 5, none⟩ = some (.int .i64 a0_5) := (blk_cell BK119.out 5).trans rfl
            have hcz54_6 : wc.cell? ⟨gb119, 6, none⟩ = some (.int .i64 a0_6) := (blk_cell BK119.out 6).trans rfl
            have hcz54_7 : wc.cell? ⟨gb119, 7, none⟩ = some (.bool a0_7) := (blk_cell BK119.out 7).trans rfl
            have hcz54_8 : wc.cell? ⟨gb119, 8, none⟩ = some (.string a0_8) := (blk_cell BK119.out 8).trans rfl
            have hcz54_9 : wc.cell? ⟨gb119, 9, none⟩ = some (.slice A0_9 l0_9.length c0_9) := (blk_cell BK119.out 9).trans rfl
            have hfz54_0 := blk_frozen BK119.out 0
            have hfz54_1 := blk_frozen BK119.out 1
            have hfz54_2 := blk_frozen BK119.out 2
            have hfz54_3 := blk_frozen BK119.out 3
            have hfz54_4 := blk_frozen BK119.out 4
            have hfz54_5 := blk_frozen BK119.out 5
            have hfz54_6 := blk_frozen BK119.out 6
            have hfz54_7 := blk_frozen BK119.out 7
            have hfz54_8 := blk_frozen BK119.out 8
            have hfz54_9 := blk_frozen BK119.out 9
            go_wp2
            go_ret
            exact ⟨by first | rfl | (simp [errW_none, errW_some] <;> rfl) | (simp [*, errW_none, errW_some] <;> rfl), by repeat (first | (with_reducible first | exact HB.out | apply below_alloc | apply pw_below_drewN | apply below_drew1 | refine below_set ?_ GE119.out) | exact HB.out)⟩
        · rw [if_neg c44] at H
          have c44b0 : (a0_0 == 1) = false := beq_eq_false_iff_ne.mpr c44
          have c44b1 : (a0_0 != 1) = true := bne_iff_ne.mpr c44
          by_cases c55 : a0_0 = 2
          · rw [if_pos c55] at H
            have c55b0 : (a0_0 == 2) = true := beq_iff_eq.mpr c55
            have c55b1 : (a0_0 != 2) = false := bne_eq_false_iff_eq.mpr c55
            clear c55
            replace H := Option.bind_eq_some_iff.mp H
            obtain ⟨t124, A560, H⟩ := H
            replace H : (if t124 = true then ((cachetteref15_Name.f kj1 a0_8).bind fun t125 => (some t125)) else (some false)) = some r := H
            have A56 := Aside0.mk A560
            clear A560
            by_cases c57 : t124 = true
            · subst c57
              have H1 : ((cachetteref15_Name.f kj1 a0_8).bind fun t125 => (some t125)) = some r := by rw [if_pos rfl] at H; exact H
              clear H
              have H := H1
              clear H1
              replace H := Option.bind_eq_some_iff.mp H
              obtain ⟨t125, A580, H⟩ := H
              replace H : (some t125) = some r := H
              have A58 := Aside0.mk A580
              clear A580
              obtain rfl := Option.some.inj H
              have hcz59_0 : wc.cell? ⟨gb119, 0, none⟩ = some (.int .i64 a0_0) := (blk_cell BK119.out 0).trans rfl
              have hcz59_1 : wc.cell? ⟨gb119, 1, none⟩ = some (.int .i64 a0_1) := (blk_cell BK119.out 1).trans rfl
              have hcz59_2 : wc.cell? ⟨gb119, 2, none⟩ = some (.int .i64 a0_2) := (blk_cell BK119.out 2).trans rfl
              have hcz59_3 : wc.cell? ⟨gb119, 3, none⟩ = some (.int .i64 a0_3) := (blk_cell BK119.out 3).trans rfl
              have hcz59_4 : wc.cell? ⟨gb119, 4, none⟩ = some (.int .i64 a0_4) := (blk_cell BK119.out 4).trans rfl
              have hcz59_5 : wc.cell? ⟨gb119, 5, none⟩ = some (.int .i64 a0_5) := (blk_cell BK119.out 5).trans rfl
              have hcz59_6 : wc.cell? ⟨gb119, 6, none⟩ = some (.int .i64 a0_6) := (blk_cell BK119.out 6).trans rfl
              have hcz59_7 : wc.cell? ⟨gb119, 7, none⟩ = some (.bool a0_7) := (blk_cell BK119.out 7).trans rfl
              have hcz59_8 : wc.cell? ⟨gb119, 8, none⟩ = some (.string a0_8) := (blk_cell BK119.out 8).trans rfl
              have hcz59_9 : wc.cell? ⟨gb119, 9, none⟩ = some (.slice A0_9 l0_9.length c0_9) := (blk_cell BK119.out 9).trans rfl
              have hfz59_0 := blk_frozen BK119.out 0
              have hfz59_1 := blk_frozen BK119.out 1
              have hfz59_2 := blk_frozen BK119.out 2
              have hfz59_3 := blk_frozen BK119.out 3
              have hfz59_4 := blk_frozen BK119.out 4
              have hfz59_5 := blk_frozen BK119.out 5
              have hfz59_6 := blk_frozen BK119.out 6
              have hfz59_7 := blk_frozen BK119.out 7
              have hfz59_8 := blk_frozen BK119.out 8
              have hfz59_9 := blk_frozen BK119.out 9
              go_wp2_with (first | ((with_reducible refine gate_callee (f := 43) rfl ?_); refine goesL_ (some 56) rfl rfl Try.func43 (by kernel_rfl) rfl #[.agg #[.int .i64 a0_5, .int .i64 a0_6]] rfl (by (try simp only [List.map_toArray, List.map_cons, List.map_nil]); first | done | rfl | (simp only [List.length_drop, List.length_take]; rfl)) ?_; (with_reducible refine (cachetteref15_place.calls a0_5 a0_6 true _ A56.out).mono ?_); rintro e w60 ⟨rfl, hb⟩; refine ⟨_, rfl, ?_⟩; have n0_ := Aside0.mk (blk_below (g := gb119) (o := .cells #[.int .i64 a0_0, .int .i64 a0_1, .int .i64 a0_2, .int .i64 a0_3, .int .i64 a0_4, .int .i64 a0_5, .int .i64 a0_6, .bool a0_7, .string a0_8, .slice A0_9 l0_9.length c0_9] 26 (0, 0)) (by (with_reducible repeat (first | refine blk_drewN ?_ _ | refine blk_drew ?_ | refine blk_alloc ?_ _)); exact BK119.out) hb); have n1_ := Aside0.mk (below_step (by repeat (first | (with_reducible first | exact HB.out | apply below_alloc | apply pw_below_drewN | apply below_drew1 | refine below_set ?_ GE119.out) | exact HB.out)) hb); clear BK119; clear HB; have BK119 := n0_; have HB := n1_; clear n0_ n1_; (try clear hb); (try clear hb2); (try clear hk); (try clear hi); have hcz61_0 : w60.cell? ⟨gb119, 0, none⟩ = some (.int .i64 a0_0) := (blk_cell BK119.out 0).trans rfl; have hcz61_1 : w60.cell? ⟨gb119, 1, none⟩ = some (.int .i64 a0_1) := (blk_cell BK119.out 1).trans rfl; have hcz61_2 : w60.cell? ⟨gb119, 2, none⟩ = some (.int .i64 a0_2) := (blk_cell BK119.out 2).trans rfl; have hcz61_3 : w60.cell? ⟨gb119, 3, none⟩ = some (.int .i64 a0_3) := (blk_cell BK119.out 3).trans rfl; have hcz61_4 : w60.cell? ⟨gb119, 4, none⟩ = some (.int .i64 a0_4) := (blk_cell BK119.out 4).trans rfl; have hcz61_5 : w60.cell? ⟨gb119, 5, none⟩ = some (.int .i64 a0_5) := (blk_cell BK119.out 5).trans rfl; have hcz61_6 : w60.cell? ⟨gb119, 6, none⟩ = some (.int .i64 a0_6) := (blk_cell BK119.out 6).trans rfl; have hcz61_7 : w60.cell? ⟨gb119, 7, none⟩ = some (.bool a0_7) := (blk_cell BK119.out 7).trans rfl; have hcz61_8 : w60.cell? ⟨gb119, 8, none⟩ = some (.string a0_8) := (blk_cell BK119.out 8).trans rfl; have hcz61_9 : w60.cell? ⟨gb119, 9, none⟩ = some (.slice A0_9 l0_9.length c0_9) := (blk_cell BK119.out 9).trans rfl; have hfz61_0 := blk_frozen BK119.out 0; have hfz61_1 := blk_frozen BK119.out 1; have hfz61_2 := blk_frozen BK119.out 2; have hfz61_3 := blk_frozen BK119.out 3; have hfz61_4 := blk_frozen BK119.out 4; have hfz61_5 := blk_frozen BK119.out 5; have hfz61_6 := blk_frozen BK119.out 6; have hfz61_7 := blk_frozen BK119.out 7; have hfz61_8 := blk_frozen BK119.out 8; have hfz61_9 := blk_frozen BK119.out 9) | (go_at_call 13; (with_reducible refine (cachetteref15_Name.calls kj1 a0_8 t125 _ A58.out).mono ?_); rintro e w' ⟨rfl, ⟨nd, rfl⟩⟩))
              go_ret
              exact ⟨by first | rfl | (simp [errW_none, errW_some] <;> rfl) | (simp [*, errW_none, errW_some] <;> rfl), by repeat (first | (with_reducible first | exact HB.out | apply below_alloc | apply pw_below_drewN | apply below_drew1 | refine below_set ?_ GE119.out) | exact HB.out)⟩
            · replace c57 := Bool.eq_false_iff.mpr c57
              subst c57
              have H1 : (some false) = some r := by rw [if_neg (show ¬ (false = true) by decide)] at H; exact H
              clear H
              have H := H1
              clear H1
              obtain rfl := Option.some.inj H
              have hcz62_0 : wc.cell? ⟨gb119, 0, none⟩ = some (.int .i64 a0_0) := (blk_cell BK119.out 0).trans rfl
              have hcz62_1 : wc.cell? ⟨gb119, 1, none⟩ = some (.int .i64 a0_1) := (blk_cell BK119.out 1).trans rfl
              have hcz62_2 : wc.cell? ⟨gb119, 2, none⟩ = some (.int .i64 a0_2) := (blk_cell BK119.out 2).trans rfl
              have hcz62_3 : wc.cell? ⟨gb119, 3, none⟩ = some (.int .i64 a0_3) := (blk_cell BK119.out 3).trans rfl
              have hcz62_4 : wc.cell? ⟨gb119, 4, none⟩ = some (.int .i64 a0_4) := (blk_cell BK119.out 4).trans rfl
              have hcz62_5 : wc.cell? ⟨gb119, 5, none⟩ = some (.int .i64 a0_5) := (blk_cell BK119.out 5).trans rfl
              have hcz62_6 : wc.cell? ⟨gb119, 6, none⟩ = some (.int .i64 a0_6) := (blk_cell BK119.out 6).trans rfl
              have hcz62_7 : wc.cell? ⟨gb119, 7, none⟩ = some (.bool a0_7) := (blk_cell BK119.out 7).trans rfl
              have hcz62_8 : wc.cell? ⟨gb119, 8, none⟩ = some (.string a0_8) := (blk_cell BK119.out 8).trans rfl
              have hcz62_9 : wc.cell? ⟨gb119, 9, none⟩ = some (.slice A0_9 l0_9.length c0_9) := (blk_cell BK119.out 9).trans rfl
              have hfz62_0 := blk_frozen BK119.out 0
              have hfz62_1 := blk_frozen BK119.out 1
              have hfz62_2 := blk_frozen BK119.out 2
              have hfz62_3 := blk_frozen BK119.out 3
              have hfz62_4 := blk_frozen BK119.out 4
              have hfz62_5 := blk_frozen BK119.out 5
              have hfz62_6 := blk_frozen BK119.out 6
              have hfz62_7 := blk_frozen BK119.out 7
              have hfz62_8 := blk_frozen BK119.out 8
              have hfz62_9 := blk_frozen BK119.out 9
              go_wp2_with (first | ((with_reducible refine gate_callee (f := 43) rfl ?_); refine goesL_ (some 56) rfl rfl Try.func43 (by kernel_rfl) rfl #[.agg #[.int .i64 a0_5, .int .i64 a0_6]] rfl (by (try simp only [List.map_toArray, List.map_cons, List.map_nil]); first | done | rfl | (simp only [List.length_drop, List.length_take]; rfl)) ?_; (with_reducible refine (cachetteref15_place.calls a0_5 a0_6 false _ A56.out).mono ?_); rintro e w63 ⟨rfl, hb⟩; refine ⟨_, rfl, ?_⟩; have n0_ := Aside0.mk (blk_below (g := gb119) (o := .cells #[.int .i64 a0_0, .int .i64 a0_1, .int .i64 a0_2, .int .i64 a0_3, .int .i64 a0_4, .int .i64 a0_5, .int .i64 a0_6, .bool a0_7, .string a0_8, .slice A0_9 l0_9.length c0_9] 26 (0, 0)) (by (with_reducible repeat (first | refine blk_drewN ?_ _ | refine blk_drew ?_ | refine blk_alloc ?_ _)); exact BK119.out) hb); have n1_ := Aside0.mk (below_step (by repeat (first | (with_reducible first | exact HB.out | apply below_alloc | apply pw_below_drewN | apply below_drew1 | refine below_set ?_ GE119.out) | exact HB.out)) hb); clear BK119; clear HB; have BK119 := n0_; have HB := n1_; clear n0_ n1_; (try clear hb); (try clear hb2); (try clear hk); (try clear hi)))
              go_ret
              exact ⟨by first | rfl | (simp [errW_none, errW_some] <;> rfl) | (simp [*, errW_none, errW_some] <;> rfl), by repeat (first | (with_reducible first | exact HB.out | apply below_alloc | apply pw_below_drewN | apply below_drew1 | refine below_set ?_ GE119.out) | exact HB.out)⟩
          · rw [if_neg c55] at H
            have c55b0 : (a0_0 == 2) = false := beq_eq_false_iff_ne.mpr c55
            have c55b1 : (a0_0 != 2) = true := bne_iff_ne.mpr c55
            by_cases c64 : a0_0 = 3
            · rw [if_pos c64] at H
              have c64b0 : (a0_0 == 3) = true := beq_iff_eq.mpr c64
              have c64b1 : (a0_0 != 3) = false := bne_eq_false_iff_eq.mpr c64
              clear c64
              by_cases c65 : (a0_5 == 0 && (a0_6 == 0)) = true
              · rw [if_pos c65] at H
                have c65b0 : (a0_5 == 0 && (a0_6 == 0)) = true := c65
                (try (have c65b1 : decide (a0_5 = 0 && (a0_6 == 0)) = true := by simpa using c65))
                (try (have c65b2 : (a0_5 == 0 && (a0_6 == 0)) = true := by simpa using c65))
                clear c65
                obtain rfl := Option.some.inj H
                have hcz66_0 : wc.cell? ⟨gb119, 0, none⟩ = some (.int .i64 a0_0) := (blk_cell BK119.out 0).trans rfl
                have hcz66_1 : wc.cell? ⟨gb119, 1, none⟩ = some (.int .i64 a0_1) := (blk_cell BK119.out 1).trans rfl
                have hcz66_2 : wc.cell? ⟨gb119, 2, none⟩ = some (.int .i64 a0_2) := (blk_cell BK119.out 2).trans rfl
                have hcz66_3 : wc.cell? ⟨gb119, 3, none⟩ = some (.int .i64 a0_3) := (blk_cell BK119.out 3).trans rfl
                have hcz66_4 : wc.cell? ⟨gb119, 4, none⟩ = some (.int .i64 a0_4) := (blk_cell BK119.out 4).trans rfl
                have hcz66_5 : wc.cell? ⟨gb119, 5, none⟩ = some (.int .i64 a0_5) := (blk_cell BK119.out 5).trans rfl
                have hcz66_6 : wc.cell? ⟨gb119, 6, none⟩ = some (.int .i64 a0_6) := (blk_cell BK119.out 6).trans rfl
                have hcz66_7 : wc.cell? ⟨gb119, 7, none⟩ = some (.bool a0_7) := (blk_cell BK119.out 7).trans rfl
                have hcz66_8 : wc.cell? ⟨gb119, 8, none⟩ = some (.string a0_8) := (blk_cell BK119.out 8).trans rfl
                have hcz66_9 : wc.cell? ⟨gb119, 9, none⟩ = some (.slice A0_9 l0_9.length c0_9) := (blk_cell BK119.out 9).trans rfl
                have hfz66_0 := blk_frozen BK119.out 0
                have hfz66_1 := blk_frozen BK119.out 1
                have hfz66_2 := blk_frozen BK119.out 2
                have hfz66_3 := blk_frozen BK119.out 3
                have hfz66_4 := blk_frozen BK119.out 4
                have hfz66_5 := blk_frozen BK119.out 5
                have hfz66_6 := blk_frozen BK119.out 6
                have hfz66_7 := blk_frozen BK119.out 7
                have hfz66_8 := blk_frozen BK119.out 8
                have hfz66_9 := blk_frozen BK119.out 9
                go_wp2
                go_ret
                exact ⟨by first | rfl | (simp [errW_none, errW_some] <;> rfl) | (simp [*, errW_none, errW_some] <;> rfl), by repeat (first | (with_reducible first | exact HB.out | apply below_alloc | apply pw_below_drewN | apply below_drew1 | refine below_set ?_ GE119.out) | exact HB.out)⟩
              · rw [if_neg c65] at H
                have c65b0 : (a0_5 == 0 && (a0_6 == 0)) = false := by simpa using c65
                (try (have c65b1 : decide (a0_5 = 0 && (a0_6 == 0)) = false := by simpa using c65))
                (try (have c65b2 : (a0_5 == 0 && (a0_6 == 0)) = false := by simpa using c65))
                (try (have c65b3 : ¬ (a0_5 = 0 && (a0_6 == 0)) := by simpa using c65))
                clear c65
                obtain rfl := Option.some.inj H
                have hcz67_0 : wc.cell? ⟨gb119, 0, none⟩ = some (.int .i64 a0_0) := (blk_cell BK119.out 0).trans rfl
                have hcz67_1 : wc.cell? ⟨gb119, 1, none⟩ = some (.int .i64 a0_1) := (blk_cell BK119.out 1).trans rfl
                have hcz67_2 : wc.cell? ⟨gb119, 2, none⟩ = some (.int .i64 a0_2) := (blk_cell BK119.out 2).trans rfl
                have hcz67_3 : wc.cell? ⟨gb119, 3, none⟩ = some (.int .i64 a0_3) := (blk_cell BK119.out 3).trans rfl
                have hcz67_4 : wc.cell? ⟨gb119, 4, none⟩ = some (.int .i64 a0_4) := (blk_cell BK119.out 4).trans rfl
                have hcz67_5 : wc.cell? ⟨gb119, 5, none⟩ = some (.int .i64 a0_5) := (blk_cell BK119.out 5).trans rfl
                have hcz67_6 : wc.cell? ⟨gb119, 6, none⟩ = some (.int .i64 a0_6) := (blk_cell BK119.out 6).trans rfl
                have hcz67_7 : wc.cell? ⟨gb119, 7, none⟩ = some (.bool a0_7) := (blk_cell BK119.out 7).trans rfl
                have hcz67_8 : wc.cell? ⟨gb119, 8, none⟩ = some (.string a0_8) := (blk_cell BK119.out 8).trans rfl
                have hcz67_9 : wc.cell? ⟨gb119, 9, none⟩ = some (.slice A0_9 l0_9.length c0_9) := (blk_cell BK119.out 9).trans rfl
                have hfz67_0 := blk_frozen BK119.out 0
                have hfz67_1 := blk_frozen BK119.out 1
                have hfz67_2 := blk_frozen BK119.out 2
                have hfz67_3 := blk_frozen BK119.out 3
                have hfz67_4 := blk_frozen BK119.out 4
                have hfz67_5 := blk_frozen BK119.out 5
                have hfz67_6 := blk_frozen BK119.out 6
                have hfz67_7 := blk_frozen BK119.out 7
                have hfz67_8 := blk_frozen BK119.out 8
                have hfz67_9 := blk_frozen BK119.out 9
                go_wp2
                go_ret
                exact ⟨by first | rfl | (simp [errW_none, errW_some] <;> rfl) | (simp [*, errW_none, errW_some] <;> rfl), by repeat (first | (with_reducible first | exact HB.out | apply below_alloc | apply pw_below_drewN | apply below_drew1 | refine below_set ?_ GE119.out) | exact HB.out)⟩
            · rw [if_neg c64] at H
              have c64b0 : (a0_0 == 3) = false := beq_eq_false_iff_ne.mpr c64
              have c64b1 : (a0_0 != 3) = true := bne_iff_ne.mpr c64
              by_cases c68 : a0_0 = 4
              · rw [if_pos c68] at H
                have c68b0 : (a0_0 == 4) = true := beq_iff_eq.mpr c68
                have c68b1 : (a0_0 != 4) = false := bne_eq_false_iff_eq.mpr c68
                clear c68
                by_cases c69 : (a0_5 == 0 && (a0_6 == 0)) = true
                · rw [if_pos c69] at H
                  have c69b0 : (a0_5 == 0 && (a0_6 == 0)) = true := c69
                  (try (have c69b1 : decide (a0_5 = 0 && (a0_6 == 0)) = true := by simpa using c69))
                  (try (have c69b2 : (a0_5 == 0 && (a0_6 == 0)) = true := by simpa using c69))
                  clear c69
                  by_cases c70 : a0_8.toList = ([] : List UInt8)
                  · rw [if_pos c70] at H
                    have c70b0 : (a0_8.toList == ([] : List UInt8)) = true := beq_iff_eq.mpr c70
                    have c70b1 : (a0_8.toList != ([] : List UInt8)) = false := bne_eq_false_iff_eq.mpr c70
                    clear c70
                    obtain rfl := Option.some.inj H
                    have hcz71_0 : wc.cell? ⟨gb119, 0, none⟩ = some (.int .i64 a0_0) := (blk_cell BK119.out 0).trans rfl
                    have hcz71_1 : wc.cell? ⟨gb119, 1, none⟩ = some (.int .i64 a0_1) := (blk_cell BK119.out 1).trans rfl
                    have hcz71_2 : wc.cell? ⟨gb119, 2, none⟩ = some (.int .i64 a0_2) := (blk_cell BK119.out 2).trans rfl
                    have hcz71_3 : wc.cell? ⟨gb119, 3, none⟩ = some (.int .i64 a0_3) := (blk_cell BK119.out 3).trans rfl
                    have hcz71_4 : wc.cell? ⟨gb119, 4, none⟩ = some (.int .i64 a0_4) := (blk_cell BK119.out 4).trans rfl
                    have hcz71_5 : wc.cell? ⟨gb119, 5, none⟩ = some (.int .i64 a0_5) := (blk_cell BK119.out 5).trans rfl
                    have hcz71_6 : wc.cell? ⟨gb119, 6, none⟩ = some (.int .i64 a0_6) := (blk_cell BK119.out 6).trans rfl
                    have hcz71_7 : wc.cell? ⟨gb119, 7, none⟩ = some (.bool a0_7) := (blk_cell BK119.out 7).trans rfl
                    have hcz71_8 : wc.cell? ⟨gb119, 8, none⟩ = some (.string a0_8) := (blk_cell BK119.out 8).trans rfl
                    have hcz71_9 : wc.cell? ⟨gb119, 9, none⟩ = some (.slice A0_9 l0_9.length c0_9) := (blk_cell BK119.out 9).trans rfl
                    have hfz71_0 := blk_frozen BK119.out 0
                    have hfz71_1 := blk_frozen BK119.out 1
                    have hfz71_2 := blk_frozen BK119.out 2
                    have hfz71_3 := blk_frozen BK119.out 3
                    have hfz71_4 := blk_frozen BK119.out 4
                    have hfz71_5 := blk_frozen BK119.out 5
                    have hfz71_6 := blk_frozen BK119.out 6
                    have hfz71_7 := blk_frozen BK119.out 7
                    have hfz71_8 := blk_frozen BK119.out 8
                    have hfz71_9 := blk_frozen BK119.out 9
                    go_wp2
                    go_ret
                    exact ⟨by first | rfl | (simp [errW_none, errW_some] <;> rfl) | (simp [*, errW_none, errW_some] <;> rfl), by repeat (first | (with_reducible first | exact HB.out | apply below_alloc | apply pw_below_drewN | apply below_drew1 | refine below_set ?_ GE119.out) | exact HB.out)⟩
                  · rw [if_neg c70] at H
                    have c70b0 : (a0_8.toList == ([] : List UInt8)) = false := beq_eq_false_iff_ne.mpr c70
                    have c70b1 : (a0_8.toList != ([] : List UInt8)) = true := bne_iff_ne.mpr c70
                    obtain rfl := Option.some.inj H
                    have hcz72_0 : wc.cell? ⟨gb119, 0, none⟩ = some (.int .i64 a0_0) := (blk_cell BK119.out 0).trans rfl
                    have hcz72_1 : wc.cell? ⟨gb119, 1, none⟩ = some (.int .i64 a0_1) := (blk_cell BK119.out 1).trans rfl
                    have hcz72_2 : wc.cell? ⟨gb119, 2, none⟩ = some (.int .i64 a0_2) := (blk_cell BK119.out 2).trans rfl
                    have hcz72_3 : wc.cell? ⟨gb119, 3, none⟩ = some (.int .i64 a0_3) := (blk_cell BK119.out 3).trans rfl
                    have hcz72_4 : wc.cell? ⟨gb119, 4, none⟩ = some (.int .i64 a0_4) := (blk_cell BK119.out 4).trans rfl
                    have hcz72_5 : wc.cell? ⟨gb119, 5, none⟩ = some (.int .i64 a0_5) := (blk_cell BK119.out 5).trans rfl
                    have hcz72_6 : wc.cell? ⟨gb119, 6, none⟩ = some (.int .i64 a0_6) := (blk_cell BK119.out 6).trans rfl
                    have hcz72_7 : wc.cell? ⟨gb119, 7, none⟩ = some (.bool a0_7) := (blk_cell BK119.out 7).trans rfl
                    have hcz72_8 : wc.cell? ⟨gb119, 8, none⟩ = some (.string a0_8) := (blk_cell BK119.out 8).trans rfl
                    have hcz72_9 : wc.cell? ⟨gb119, 9, none⟩ = some (.slice A0_9 l0_9.length c0_9) := (blk_cell BK119.out 9).trans rfl
                    have hfz72_0 := blk_frozen BK119.out 0
                    have hfz72_1 := blk_frozen BK119.out 1
                    have hfz72_2 := blk_frozen BK119.out 2
                    have hfz72_3 := blk_frozen BK119.out 3
                    have hfz72_4 := blk_frozen BK119.out 4
                    have hfz72_5 := blk_frozen BK119.out 5
                    have hfz72_6 := blk_frozen BK119.out 6
                    have hfz72_7 := blk_frozen BK119.out 7
                    have hfz72_8 := blk_frozen BK119.out 8
                    have hfz72_9 := blk_frozen BK119.out 9
                    go_wp2
                    go_ret
                    exact ⟨by first | rfl | (simp [errW_none, errW_some] <;> rfl) | (simp [*, errW_none, errW_some] <;> rfl), by repeat (first | (with_reducible first | exact HB.out | apply below_alloc | apply pw_below_drewN | apply below_drew1 | refine below_set ?_ GE119.out) | exact HB.out)⟩
                · rw [if_neg c69] at H
                  have c69b0 : (a0_5 == 0 && (a0_6 == 0)) = false := by simpa using c69
                  (try (have c69b1 : decide (a0_5 = 0 && (a0_6 == 0)) = false := by simpa using c69))
                  (try (have c69b2 : (a0_5 == 0 && (a0_6 == 0)) = false := by simpa using c69))
                  (try (have c69b3 : ¬ (a0_5 = 0 && (a0_6 == 0)) := by simpa using c69))
                  clear c69
                  obtain rfl := Option.some.inj H
                  have hcz73_0 : wc.cell? ⟨gb119, 0, none⟩ = some (.int .i64 a0_0) := (blk_cell BK119.out 0).trans rfl
                  have hcz73_1 : wc.cell? ⟨gb119, 1, none⟩ = some (.int .i64 a0_1) := (blk_cell BK119.out 1).trans rfl
                  have hcz73_2 : wc.cell? ⟨gb119, 2, none⟩ = some (.int .i64 a0_2) := (blk_cell BK119.out 2).trans rfl
                  have hcz73_3 : wc.cell? ⟨gb119, 3, none⟩ = some (.int .i64 a0_3) := (blk_cell BK119.out 3).trans rfl
                  have hcz73_4 : wc.cell? ⟨gb119, 4, none⟩ = some (.int .i64 a0_4) := (blk_cell BK119.out 4).trans rfl
                  have hcz73_5 : wc.cell? ⟨gb119, 5, none⟩ = some (.int .i64 a0_5) := (blk_cell BK119.out 5).trans rfl
                  have hcz73_6 : wc.cell? ⟨gb119, 6, none⟩ = some (.int .i64 a0_6) := (blk_cell BK119.out 6).trans rfl
                  have hcz73_7 : wc.cell? ⟨gb119, 7, none⟩ = some (.bool a0_7) := (blk_cell BK119.out 7).trans rfl
                  have hcz73_8 : wc.cell? ⟨gb119, 8, none⟩ = some (.string a0_8) := (blk_cell BK119.out 8).trans rfl
                  have hcz73_9 : wc.cell? ⟨gb119, 9, none⟩ = some (.slice A0_9 l0_9.length c0_9) := (blk_cell BK119.out 9).trans rfl
                  have hfz73_0 := blk_frozen BK119.out 0
                  have hfz73_1 := blk_frozen BK119.out 1
                  have hfz73_2 := blk_frozen BK119.out 2
                  have hfz73_3 := blk_frozen BK119.out 3
                  have hfz73_4 := blk_frozen BK119.out 4
                  have hfz73_5 := blk_frozen BK119.out 5
                  have hfz73_6 := blk_frozen BK119.out 6
                  have hfz73_7 := blk_frozen BK119.out 7
                  have hfz73_8 := blk_frozen BK119.out 8
                  have hfz73_9 := blk_frozen BK119.out 9
                  go_wp2
                  go_ret
                  exact ⟨by first | rfl | (simp [errW_none, errW_some] <;> rfl) | (simp [*, errW_none, errW_some] <;> rfl), by repeat (first | (with_reducible first | exact HB.out | apply below_alloc | apply pw_below_drewN | apply below_drew1 | refine below_set ?_ GE119.out) | exact HB.out)⟩
              · rw [if_neg c68] at H
                have c68b0 : (a0_0 == 4) = false := beq_eq_false_iff_ne.mpr c68
                have c68b1 : (a0_0 != 4) = true := bne_iff_ne.mpr c68
                obtain rfl := Option.some.inj H
                have hcz74_0 : wc.cell? ⟨gb119, 0, none⟩ = some (.int .i64 a0_0) := (blk_cell BK119.out 0).trans rfl
                have hcz74_1 : wc.cell? ⟨gb119, 1, none⟩ = some (.int .i64 a0_1) := (blk_cell BK119.out 1).trans rfl
                have hcz74_2 : wc.cell? ⟨gb119, 2, none⟩ = some (.int .i64 a0_2) := (blk_cell BK119.out 2).trans rfl
                have hcz74_3 : wc.cell? ⟨gb119, 3, none⟩ = some (.int .i64 a0_3) := (blk_cell BK119.out 3).trans rfl
                have hcz74_4 : wc.cell? ⟨gb119, 4, none⟩ = some (.int .i64 a0_4) := (blk_cell BK119.out 4).trans rfl
                have hcz74_5 : wc.cell? ⟨gb119, 5, none⟩ = some (.int .i64 a0_5) := (blk_cell BK119.out 5).trans rfl
                have hcz74_6 : wc.cell? ⟨gb119, 6, none⟩ = some (.int .i64 a0_6) := (blk_cell BK119.out 6).trans rfl
                have hcz74_7 : wc.cell? ⟨gb119, 7, none⟩ = some (.bool a0_7) := (blk_cell BK119.out 7).trans rfl
                have hcz74_8 : wc.cell? ⟨gb119, 8, none⟩ = some (.string a0_8) := (blk_cell BK119.out 8).trans rfl
                have hcz74_9 : wc.cell? ⟨gb119, 9, none⟩ = some (.slice A0_9 l0_9.length c0_9) := (blk_cell BK119.out 9).trans rfl
                have hfz74_0 := blk_frozen BK119.out 0
                have hfz74_1 := blk_frozen BK119.out 1
                have hfz74_2 := blk_frozen BK119.out 2
                have hfz74_3 := blk_frozen BK119.out 3
                have hfz74_4 := blk_frozen BK119.out 4
                have hfz74_5 := blk_frozen BK119.out 5
                have hfz74_6 := blk_frozen BK119.out 6
                have hfz74_7 := blk_frozen BK119.out 7
                have hfz74_8 := blk_frozen BK119.out 8
                have hfz74_9 := blk_frozen BK119.out 9
                go_wp2
                go_ret
                exact ⟨by first | rfl | (simp [errW_none, errW_some] <;> rfl) | (simp [*, errW_none, errW_some] <;> rfl), by repeat (first | (with_reducible first | exact HB.out | apply below_alloc | apply pw_below_drewN | apply below_drew1 | refine below_set ?_ GE119.out) | exact HB.out)⟩

end Go.Proofs.Ytginodjiaohcmaa.X

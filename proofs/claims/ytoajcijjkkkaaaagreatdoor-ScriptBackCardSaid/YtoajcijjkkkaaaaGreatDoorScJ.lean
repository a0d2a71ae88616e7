/- script.Right. -/
import Derived.Test.YtoajcijjkkkaaaaGreatDoorScI
namespace Go.Proofs.YtoajcijjkkkaaaaGreatDoor.K
open Go.RowKit Go.Proofs.YtoajcijjkkkaaaaGreatDoorW.PrintWords Go.Proofs.YtoajcijjkkkaaaaGreatDoorW.PrintLast Go.Proofs.YtoajcijjkkkaaaaGreatDoorW.PrintMore
set_option linter.unusedVariables false
set_option linter.unusedSimpArgs false

def b3 (x : Stp) : Bool := (wordOf x.kind).isEmpty || decide (x.who < 0) || decide (8 ≤ x.who)
def b5 (x : Stp) : Bool := decide ((500 : Int) < (x.p.length : Int)) || decide ((500 : Int) < (x.q.length : Int)) || decide ((100 : Int) < (x.keep.length : Int)) || (x.kind == 5 && decide (1 < x.n))
def b7 (x : Stp) : Bool := (!x.p.isEmpty && !hasA x.kind 80) || (!x.q.isEmpty && !hasA x.kind 81) || (!x.keep.isEmpty && !hasA x.kind 75)
def b9 (x : Stp) : Bool := numOk x.n (hasA x.kind 78) && numOk x.m (hasA x.kind 77)
theorem right_seq (x : Stp) : rightB x = if b3 x then false else if b5 x then false else if b7 x then false else b9 x := by
  have d1 : decide (0 ≤ x.who) = !decide (x.who < 0) := by rw [← decide_not]; congr 1; apply propext; omega
  have d2 : decide (x.who < 8) = !decide (8 ≤ x.who) := by rw [← decide_not]; congr 1; apply propext; omega
  have d3 : decide (x.p.length ≤ 500) = !decide ((500 : Int) < (x.p.length : Int)) := by rw [← decide_not]; congr 1; apply propext; omega
  have d4 : decide (x.q.length ≤ 500) = !decide ((500 : Int) < (x.q.length : Int)) := by rw [← decide_not]; congr 1; apply propext; omega
  have d5 : decide (x.keep.length ≤ 100) = !decide ((100 : Int) < (x.keep.length : Int)) := by rw [← decide_not]; congr 1; apply propext; omega
  unfold rightB b3 b5 b7 b9
  rw [d1, d2, d3, d4, d5]
  cases (wordOf x.kind).isEmpty <;> cases decide (x.who < 0) <;> cases decide (8 ≤ x.who) <;> try rfl
  cases decide ((500 : Int) < (x.p.length : Int)) <;> cases decide ((500 : Int) < (x.q.length : Int)) <;> cases decide ((100 : Int) < (x.keep.length : Int)) <;> cases (x.kind == 5 && decide (1 < x.n)) <;> try rfl
  cases x.p.isEmpty <;> cases x.q.isEmpty <;> cases x.keep.isEmpty <;> cases hasA x.kind 80 <;> cases hasA x.kind 81 <;> cases hasA x.kind 75 <;> try rfl
  all_goals (cases numOk x.n (hasA x.kind 78) <;> rfl)

/-- A step as a value; its digits' slice: A, c. -/
abbrev stpC (x : Stp) (A : Option Addr) (c : Nat) : Array Value := #[.int .i64 x.who, .int .i64 x.kind, .string ⟨x.p.toArray⟩, .string ⟨x.q.toArray⟩, .int .i64 x.n, .int .i64 x.m, .slice A x.keep.length c]

set_option maxRecDepth 100000 in
set_option maxHeartbeats 4000000 in
theorem right_calls (x : Stp) (A : Option Addr) (c : Nat) (w0 w : World) (hT : Tb w0) (hb : Below w0.heap.size w0 w) :
    Calls Tryz.prog 13 #[.agg (stpC x A c)] w fun e w' => e = .returned (.bool (rightB x)) ∧ Below w.heap.size w w' := by
  have HS := fun w1 hb1 => step_calls x.kind w0 w1 hT hb1
  have HB0 := Aside0.mk hb
  clear hT hb
  rw [right_seq]
  have hb3 : b3 x = b3 x := rfl
  obtain ⟨v3, h3⟩ : ∃ v, b3 x = v := ⟨_, rfl⟩
  obtain ⟨v5, h5⟩ : ∃ v, b5 x = v := ⟨_, rfl⟩
  obtain ⟨v7, h7⟩ : ∃ v, b7 x = v := ⟨_, rfl⟩
  obtain ⟨v9, h9⟩ : ∃ v, b9 x = v := ⟨_, rfl⟩
  rw [h3, h5, h7, h9]
  unfold b3 at h3
  unfold b5 at h5
  unfold b7 hasA at h7
  unfold b9 hasA at h9
  have H3 := Aside0.mk h3
  have H5 := Aside0.mk h5
  have H7 := Aside0.mk h7
  have H9 := Aside0.mk h9
  clear h3 h5 h7 h9 hb3
  obtain ⟨who, kind, p, q, n, m, keep⟩ := x
  dsimp only [stpC] at *
  obtain ⟨pB, hpB⟩ : ∃ pB : ByteArray, (⟨p.toArray⟩ : ByteArray) = pB := ⟨_, rfl⟩
  obtain ⟨qB, hqB⟩ : ∃ qB : ByteArray, (⟨q.toArray⟩ : ByteArray) = qB := ⟨_, rfl⟩
  obtain ⟨wB, hwB⟩ : ∃ wB : ByteArray, (⟨(wordOf kind).toArray⟩ : ByteArray) = wB := ⟨_, rfl⟩
  obtain ⟨AR, hAR⟩ : ∃ AR, argsOf kind = AR := ⟨_, rfl⟩
  have hp1 : pB.size = p.length := by rw [← hpB]; simp [ByteArray.size]
  have hp2 : pB.toList.isEmpty = p.isEmpty := by rw [Lib.toList_data, ← hpB]
  have hq1 : qB.size = q.length := by rw [← hqB]; simp [ByteArray.size]
  have hq2 : qB.toList.isEmpty = q.isEmpty := by rw [Lib.toList_data, ← hqB]
  have hw2 : wB.toList.isEmpty = (wordOf kind).isEmpty := by rw [Lib.toList_data, ← hwB]
  rw [hpB, hqB]
  rw [hwB, hAR] at HS
  rw [hAR] at H7 H9
  rw [← hp1, ← hq1] at H5
  rw [← hp2, ← hq2] at H7
  rw [← hw2] at H3
  clear hpB hqB hwB hAR hp1 hp2 hq1 hq2 hw2
  obtain ⟨kl, hkl⟩ : ∃ kl, keep.length = kl := ⟨_, rfl⟩
  have hke : keep.isEmpty = (kl == 0) := by rw [← hkl]; cases keep <;> simp
  rw [hkl] at H5 ⊢
  rw [hke] at H7
  clear hkl hke
  go_enter Tryz.func13, Tryz.ntmps13
  go_upto_region 2 with (first
    | (go_at_call 23; (with_reducible refine (HS _ (below_alloc HB0.out _)).mono ?_); rintro e w1 ⟨rfl, h1⟩; have H1 := Aside0.mk h1; clear h1))
  have BK := blk_alloc (blk_below (blk_new w (.cells #[.int .i64 who, .int .i64 kind, .string pB, .string qB, .int .i64 n, .int .i64 m, .slice A kl c] 31 (0, 0))) H1.out) (.cells #[.string ⟨AR.toArray⟩] 9)
  have BX := blk_new w1 (.cells #[.string ⟨AR.toArray⟩] 9 (0, 0))
  have HBW : Below w.heap.size w (w1.alloc (.cells #[.string ⟨AR.toArray⟩] 9)) := below_alloc ((below_alloc (Below.refl _ _) _).trans (H1.out.mono (by simp))) _
  clear H1 HS
  obtain ⟨b0, hb0⟩ : ∃ b0, w.heap.size = b0 := ⟨_, rfl⟩
  obtain ⟨b1, hb1⟩ : ∃ b1, w1.heap.size = b1 := ⟨_, rfl⟩
  obtain ⟨W, hW⟩ : ∃ W, w1.alloc (.cells #[.string ⟨AR.toArray⟩] 9) = W := ⟨_, rfl⟩
  rw [hW] at BK BX HBW ⊢
  rw [hb0] at BK HBW ⊢
  rw [hb1] at BX ⊢
  have q0 : W.cell? ⟨b0, 0, none⟩ = some (.int .i64 who) := (blk_cell BK 0).trans rfl
  have q1 : W.cell? ⟨b0, 1, none⟩ = some (.int .i64 kind) := (blk_cell BK 1).trans rfl
  have q2 : W.cell? ⟨b0, 2, none⟩ = some (.string pB) := (blk_cell BK 2).trans rfl
  have q3 : W.cell? ⟨b0, 3, none⟩ = some (.string qB) := (blk_cell BK 3).trans rfl
  have q4 : W.cell? ⟨b0, 4, none⟩ = some (.int .i64 n) := (blk_cell BK 4).trans rfl
  have q5 : W.cell? ⟨b0, 5, none⟩ = some (.int .i64 m) := (blk_cell BK 5).trans rfl
  have q6 : W.cell? ⟨b0, 6, none⟩ = some (.slice A kl c) := (blk_cell BK 6).trans rfl
  have r0 : W.cell? ⟨b1, 0, none⟩ = some (.string ⟨AR.toArray⟩) := (blk_cell BX 0).trans rfl
  have HBB := Aside0.mk HBW
  clear HBW BK BX hW hb1
  go_upto_region 3 with (fail)
  go_cut [13] (fun v13 wc => v13 = .bool v3 ∧ W = wc)
  case first =>
    have h3 := H3.out
    cases e1 : wB.toList.isEmpty
    · rw [e1] at h3
      by_cases c1 : who < 0
      · have d1 : decide (who < 0) = true := decide_eq_true c1
        rw [d1] at h3
        simp only [Bool.false_or, Bool.true_or] at h3
        subst h3
        go_wp2_with fail
        go_meet
        case rel => exact ⟨rfl, rfl⟩
      · have d1 : decide (who < 0) = false := decide_eq_false c1
        rw [d1] at h3
        simp only [Bool.false_or] at h3
        by_cases c2 : 8 ≤ who
        · have d2 : decide (8 ≤ who) = true := decide_eq_true c2
          rw [d2] at h3
          subst h3
          go_wp2_with fail
          go_meet
          case rel => exact ⟨rfl, rfl⟩
        · have d2 : decide (8 ≤ who) = false := decide_eq_false c2
          rw [d2] at h3
          subst h3
          go_wp2_with fail
          go_meet
          case rel => exact ⟨rfl, rfl⟩
    · rw [e1] at h3
      simp only [Bool.true_or] at h3
      subst h3
      go_wp2_with fail
      go_meet
      case rel => exact ⟨rfl, rfl⟩
  case rest =>
    obtain ⟨rfl, rfl⟩ := hcut
    cases v3
    rotate_left
    · go_wp2_with fail
      go_ret
      exact ⟨by simp, HBB.out⟩
    go_upto_region 5 with (fail)
    go_cut [26] (fun v26 wd => v26 = .bool v5 ∧ W = wd)
    case first =>
      have h5 := H5.out
      by_cases c10 : 500 < (pB.size : Int)
      · have d10 : decide (500 < (pB.size : Int)) = true := decide_eq_true c10
        rw [d10] at h5
        simp only [Bool.false_or, Bool.true_or] at h5
        subst h5
        go_wp2_with fail
        go_meet
        case rel => exact ⟨rfl, rfl⟩
      · have d10 : decide (500 < (pB.size : Int)) = false := decide_eq_false c10
        rw [d10] at h5
        simp only [Bool.false_or] at h5
        by_cases c11 : 500 < (qB.size : Int)
        · have d11 : decide (500 < (qB.size : Int)) = true := decide_eq_true c11
          rw [d11] at h5
          simp only [Bool.false_or, Bool.true_or] at h5
          subst h5
          go_wp2_with fail
          go_meet
          case rel => exact ⟨rfl, rfl⟩
        · have d11 : decide (500 < (qB.size : Int)) = false := decide_eq_false c11
          rw [d11] at h5
          simp only [Bool.false_or] at h5
          by_cases c12 : 100 < (kl : Int)
          · have d12 : decide (100 < (kl : Int)) = true := decide_eq_true c12
            rw [d12] at h5
            simp only [Bool.false_or, Bool.true_or] at h5
            subst h5
            go_wp2_with fail
            go_meet
            case rel => exact ⟨rfl, rfl⟩
          · have d12 : decide (100 < (kl : Int)) = false := decide_eq_false c12
            rw [d12] at h5
            simp only [Bool.false_or] at h5
            by_cases c20 : kind = 5
            · subst c20
              have d20 : ((5 : Int) == 5) = true := rfl
              rw [d20, Bool.true_and] at h5
              by_cases c21 : 1 < n
              · have d21 : decide (1 < n) = true := decide_eq_true c21
                rw [d21] at h5
                subst h5
                go_wp2_with fail
                go_meet
                case rel => exact ⟨rfl, rfl⟩
              · have d21 : decide (1 < n) = false := decide_eq_false c21
                rw [d21] at h5
                subst h5
                go_wp2_with fail
                go_meet
                case rel => exact ⟨rfl, rfl⟩
            · have d20 : (kind == 5) = false := beq_eq_false_iff_ne.2 c20
              rw [d20, Bool.false_and] at h5
              subst h5
              go_wp2_with fail
              go_meet
              case rel => exact ⟨rfl, rfl⟩
    case rest =>
      obtain ⟨rfl, rfl⟩ := hcut
      cases v5
      rotate_left
      · go_wp2_with fail
        go_ret
        exact ⟨by simp, HBB.out⟩
      go_upto_region 7 with (fail)
      go_cut [53] (fun v53 we => v53 = .bool v7 ∧ W = we)
      case first =>
        have h7 := H7.out
        have HC := fun cc => has_calls b1 AR cc W r0
        cases e30 : pB.toList.isEmpty
        · cases g30 : AR.contains 80
          · rw [e30, g30] at h7
            simp only [Bool.not_false, Bool.true_and, Bool.and_true, Bool.and_self, Bool.true_or, Bool.or_true] at h7
            have HD := HC 80
            rw [g30] at HD
            subst h7
            go_wp2_with (first | (go_at_call 37; (with_reducible refine HD.mono ?_); rintro e w' ⟨rfl, rfl⟩))
            go_meet
            case rel => exact ⟨rfl, rfl⟩
          · rw [e30, g30] at h7
            simp only [Bool.not_false, Bool.not_true, Bool.and_false, Bool.false_or] at h7
            have HD0 := HC 80
            rw [g30] at HD0
            cases e31 : qB.toList.isEmpty
            · cases g31 : AR.contains 81
              · rw [e31, g31] at h7
                simp only [Bool.not_false, Bool.true_and, Bool.and_true, Bool.and_self, Bool.true_or, Bool.or_true] at h7
                have HD := HC 81
                rw [g31] at HD
                subst h7
                go_wp2_with (first | (go_at_call 37; (with_reducible refine HD0.mono ?_); rintro e w' ⟨rfl, rfl⟩) | (go_at_call 37; (with_reducible refine HD.mono ?_); rintro e w' ⟨rfl, rfl⟩))
                go_meet
                case rel => exact ⟨rfl, rfl⟩
              · rw [e31, g31] at h7
                simp only [Bool.not_false, Bool.not_true, Bool.and_false, Bool.false_or] at h7
                have HD1 := HC 81
                rw [g31] at HD1
                by_cases c32 : kl = 0
                rotate_left
                · have e32 : (kl == 0) = false := beq_eq_false_iff_ne.2 c32
                  have e33 : decide (0 < (kl : Int)) = true := decide_eq_true (by omega)
                  have e34 : 0 < kl := by omega
                  cases g32 : AR.contains 75
                  · rw [e32, g32] at h7
                    simp only [Bool.not_false, Bool.true_and, Bool.and_true, Bool.and_self, Bool.true_or, Bool.or_true] at h7
                    have HD := HC 75
                    rw [g32] at HD
                    subst h7
                    go_wp2_with (first | (go_at_call 37; (with_reducible refine HD0.mono ?_); rintro e w' ⟨rfl, rfl⟩) | (go_at_call 37; (with_reducible refine HD1.mono ?_); rintro e w' ⟨rfl, rfl⟩) | (go_at_call 37; (with_reducible refine HD.mono ?_); rintro e w' ⟨rfl, rfl⟩))
                    go_meet
                    case rel => exact ⟨rfl, rfl⟩
                  · rw [e32, g32] at h7
                    simp only [Bool.not_false, Bool.not_true, Bool.and_false, Bool.false_or] at h7
                    have HD2 := HC 75
                    rw [g32] at HD2
                    skip
                    subst h7
                    go_wp2_with (first | (go_at_call 37; (with_reducible refine HD0.mono ?_); rintro e w' ⟨rfl, rfl⟩) | (go_at_call 37; (with_reducible refine HD1.mono ?_); rintro e w' ⟨rfl, rfl⟩) | (go_at_call 37; (with_reducible refine HD2.mono ?_); rintro e w' ⟨rfl, rfl⟩))
                    go_meet
                    case rel => exact ⟨rfl, rfl⟩
                · subst c32
                  have e35 : (((0 : Nat) == 0)) = true := rfl
                  simp only [e35, Bool.not_true, Bool.false_and] at h7
                  skip
                  subst h7
                  go_wp2_with (first | (go_at_call 37; (with_reducible refine HD0.mono ?_); rintro e w' ⟨rfl, rfl⟩) | (go_at_call 37; (with_reducible refine HD1.mono ?_); rintro e w' ⟨rfl, rfl⟩))
                  go_meet
                  case rel => exact ⟨rfl, rfl⟩
            · rw [e31] at h7
              simp only [Bool.not_true, Bool.false_and, Bool.false_or] at h7
              by_cases c32 : kl = 0
              rotate_left
              · have e32 : (kl == 0) = false := beq_eq_false_iff_ne.2 c32
                have e33 : decide (0 < (kl : Int)) = true := decide_eq_true (by omega)
                have e34 : 0 < kl := by omega
                cases g32 : AR.contains 75
                · rw [e32, g32] at h7
                  simp only [Bool.not_false, Bool.true_and, Bool.and_true, Bool.and_self, Bool.true_or, Bool.or_true] at h7
                  have HD := HC 75
                  rw [g32] at HD
                  subst h7
                  go_wp2_with (first | (go_at_call 37; (with_reducible refine HD0.mono ?_); rintro e w' ⟨rfl, rfl⟩) | (go_at_call 37; (with_reducible refine HD.mono ?_); rintro e w' ⟨rfl, rfl⟩))
                  go_meet
                  case rel => exact ⟨rfl, rfl⟩
                · rw [e32, g32] at h7
                  simp only [Bool.not_false, Bool.not_true, Bool.and_false, Bool.false_or] at h7
                  have HD2 := HC 75
                  rw [g32] at HD2
                  skip
                  subst h7
                  go_wp2_with (first | (go_at_call 37; (with_reducible refine HD0.mono ?_); rintro e w' ⟨rfl, rfl⟩) | (go_at_call 37; (with_reducible refine HD2.mono ?_); rintro e w' ⟨rfl, rfl⟩))
                  go_meet
                  case rel => exact ⟨rfl, rfl⟩
              · subst c32
                have e35 : (((0 : Nat) == 0)) = true := rfl
                simp only [e35, Bool.not_true, Bool.false_and] at h7
                skip
                subst h7
                go_wp2_with (first | (go_at_call 37; (with_reducible refine HD0.mono ?_); rintro e w' ⟨rfl, rfl⟩))
                go_meet
                case rel => exact ⟨rfl, rfl⟩
        · rw [e30] at h7
          simp only [Bool.not_true, Bool.false_and, Bool.false_or] at h7
          cases e31 : qB.toList.isEmpty
          · cases g31 : AR.contains 81
            · rw [e31, g31] at h7
              simp only [Bool.not_false, Bool.true_and, Bool.and_true, Bool.and_self, Bool.true_or, Bool.or_true] at h7
              have HD := HC 81
              rw [g31] at HD
              subst h7
              go_wp2_with (first | (go_at_call 37; (with_reducible refine HD.mono ?_); rintro e w' ⟨rfl, rfl⟩))
              go_meet
              case rel => exact ⟨rfl, rfl⟩
            · rw [e31, g31] at h7
              simp only [Bool.not_false, Bool.not_true, Bool.and_false, Bool.false_or] at h7
              have HD1 := HC 81
              rw [g31] at HD1
              by_cases c32 : kl = 0
              rotate_left
              · have e32 : (kl == 0) = false := beq_eq_false_iff_ne.2 c32
                have e33 : decide (0 < (kl : Int)) = true := decide_eq_true (by omega)
                have e34 : 0 < kl := by omega
                cases g32 : AR.contains 75
                · rw [e32, g32] at h7
                  simp only [Bool.not_false, Bool.true_and, Bool.and_true, Bool.and_self, Bool.true_or, Bool.or_true] at h7
                  have HD := HC 75
                  rw [g32] at HD
                  subst h7
                  go_wp2_with (first | (go_at_call 37; (with_reducible refine HD1.mono ?_); rintro e w' ⟨rfl, rfl⟩) | (go_at_call 37; (with_reducible refine HD.mono ?_); rintro e w' ⟨rfl, rfl⟩))
                  go_meet
                  case rel => exact ⟨rfl, rfl⟩
                · rw [e32, g32] at h7
                  simp only [Bool.not_false, Bool.not_true, Bool.and_false, Bool.false_or] at h7
                  have HD2 := HC 75
                  rw [g32] at HD2
                  skip
                  subst h7
                  go_wp2_with (first | (go_at_call 37; (with_reducible refine HD1.mono ?_); rintro e w' ⟨rfl, rfl⟩) | (go_at_call 37; (with_reducible refine HD2.mono ?_); rintro e w' ⟨rfl, rfl⟩))
                  go_meet
                  case rel => exact ⟨rfl, rfl⟩
              · subst c32
                have e35 : (((0 : Nat) == 0)) = true := rfl
                simp only [e35, Bool.not_true, Bool.false_and] at h7
                skip
                subst h7
                go_wp2_with (first | (go_at_call 37; (with_reducible refine HD1.mono ?_); rintro e w' ⟨rfl, rfl⟩))
                go_meet
                case rel => exact ⟨rfl, rfl⟩
          · rw [e31] at h7
            simp only [Bool.not_true, Bool.false_and, Bool.false_or] at h7
            by_cases c32 : kl = 0
            rotate_left
            · have e32 : (kl == 0) = false := beq_eq_false_iff_ne.2 c32
              have e33 : decide (0 < (kl : Int)) = true := decide_eq_true (by omega)
              have e34 : 0 < kl := by omega
              cases g32 : AR.contains 75
              · rw [e32, g32] at h7
                simp only [Bool.not_false, Bool.true_and, Bool.and_true, Bool.and_self, Bool.true_or, Bool.or_true] at h7
                have HD := HC 75
                rw [g32] at HD
                subst h7
                go_wp2_with (first | (go_at_call 37; (with_reducible refine HD.mono ?_); rintro e w' ⟨rfl, rfl⟩))
                go_meet
                case rel => exact ⟨rfl, rfl⟩
              · rw [e32, g32] at h7
                simp only [Bool.not_false, Bool.not_true, Bool.and_false, Bool.false_or] at h7
                have HD2 := HC 75
                rw [g32] at HD2
                skip
                subst h7
                go_wp2_with (first | (go_at_call 37; (with_reducible refine HD2.mono ?_); rintro e w' ⟨rfl, rfl⟩))
                go_meet
                case rel => exact ⟨rfl, rfl⟩
            · subst c32
              have e35 : (((0 : Nat) == 0)) = true := rfl
              simp only [e35, Bool.not_true, Bool.false_and] at h7
              skip
              subst h7
              go_wp2_with fail
              go_meet
              case rel => exact ⟨rfl, rfl⟩
      case rest =>
        obtain ⟨rfl, rfl⟩ := hcut
        cases v7
        rotate_left
        · go_wp2_with fail
          go_ret
          exact ⟨by simp, HBB.out⟩
        have h9 := H9.out
        obtain ⟨c78, h78⟩ : ∃ v, AR.contains 78 = v := ⟨_, rfl⟩
        obtain ⟨c77, h77⟩ : ∃ v, AR.contains 77 = v := ⟨_, rfl⟩
        rw [h78, h77] at h9
        have HN : ∀ k, Calls Tryz.prog 37 #[.string ⟨#[78]⟩, .pointer (some ⟨b1, 0, none⟩)] (W.drewN k) fun e w' => e = .returned (.bool c78) ∧ w' = W.drewN k := fun k => h78 ▸ has_calls b1 AR 78 (W.drewN k) r0
        have HM : ∀ k, Calls Tryz.prog 37 #[.string ⟨#[77]⟩, .pointer (some ⟨b1, 0, none⟩)] (W.drewN k) fun e w' => e = .returned (.bool c77) ∧ w' = W.drewN k := fun k => h77 ▸ has_calls b1 AR 77 (W.drewN k) r0
        obtain ⟨k1, hk1⟩ : ∃ v, numOk n c78 = v := ⟨_, rfl⟩
        obtain ⟨k2, hk2⟩ : ∃ v, numOk m c77 = v := ⟨_, rfl⟩
        rw [hk1, hk2] at h9
        have K1 : ∀ w, Calls Tryz.prog 39 #[.int .i64 n, .bool c78] w fun e w' => e = .returned (.bool k1) ∧ w' = w := fun w => hk1 ▸ num_calls n c78 w
        have K2 : ∀ w, Calls Tryz.prog 39 #[.int .i64 m, .bool c77] w fun e w' => e = .returned (.bool k2) ∧ w' = w := fun w => hk2 ▸ num_calls m c77 w
        subst h9
        clear H3 H5 H7 H9 h78 h77 hk1 hk2
        cases k1
        · go_upto_region 9 with (fail)
          go_quiet ((first | (go_at_call 37; first | with_reducible exact Calls.quiet_of_same (HN _) | with_reducible exact Calls.quiet_of_same (HM _)) | (go_at_call 39; first | with_reducible exact Calls.quiet_of_same (K1 _) | with_reducible exact Calls.quiet_of_same (K2 _))))
          go_wp2_with fail
          go_ret
          exact ⟨by simp, pw_below_drewN HBB.out _⟩
        · go_upto_region 9 with (fail)
          go_quiet ((first | (go_at_call 37; first | with_reducible exact Calls.quiet_of_same (HN _) | with_reducible exact Calls.quiet_of_same (HM _)) | (go_at_call 39; first | with_reducible exact Calls.quiet_of_same (K1 _) | with_reducible exact Calls.quiet_of_same (K2 _))))
          go_wp2_with fail
          go_ret
          exact ⟨by simp, pw_below_drewN HBB.out _⟩
end Go.Proofs.YtoajcijjkkkaaaaGreatDoor.K

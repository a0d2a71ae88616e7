/- cachetteref28.Same at equal steps; cachettelaw28.light. -/
import Derived.Test.YtoajcijjkkkaaaaGreatDoorSdA
import Derived.BigQuiet
namespace Go.Proofs.YtoajcijjkkkaaaaGreatDoor.K
open Go.RowKit Go.Proofs.YtoajcijjkkkaaaaGreatDoorW.PrintWords Go.Proofs.YtoajcijjkkkaaaaGreatDoorW.PrintLast Go.Proofs.YtoajcijjkkkaaaaGreatDoorW.PrintMore
set_option linter.unusedVariables false
set_option linter.unusedSimpArgs false

set_option maxRecDepth 100000 in
set_option maxHeartbeats 8000000 in
theorem same_calls (a b n m : Int) (p q : ByteArray) (l : List Bool) (A B : Option Addr) (c d : Nat) (w : World) (hA : Kd.bool.C w A l.length l) (hB : Kd.bool.C w B l.length l) (hl : l.length ≤ 4294967296) :
    Calls Tryz.prog 15 #[.agg #[.int .i64 a, .int .i64 b, .string p, .string q, .int .i64 n, .int .i64 m, .slice A l.length c], .agg #[.int .i64 a, .int .i64 b, .string p, .string q, .int .i64 n, .int .i64 m, .slice B l.length d]] w fun e w' => e = .returned (.bool true) ∧ Below w.heap.size w w' := by
  have mixed : Tryz.prog.follows Departure.mixedOrders = true := by kernel_rfl
  have HA := Aside0.mk hA
  have HB := Aside0.mk hB
  obtain ⟨N, hN⟩ : ∃ N, l.length = N := ⟨_, rfl⟩
  have hm : (N : Int) ≤ 4294967296 := by omega
  rw [hN] at hl HA HB ⊢
  have HN := Aside0.mk hN
  clear hA hB hN
  go_enter Tryz.func15, Tryz.ntmps15
  go_wp2_with fail
  have kA0 := blk_below (blk_new w (.cells #[.int .i64 a, .int .i64 b, .string p, .string q, .int .i64 n, .int .i64 m, .slice A N c] 24 (0, 0))) (below_alloc (Below.refl _ _) (.cells #[.int .i64 a, .int .i64 b, .string p, .string q, .int .i64 n, .int .i64 m, .slice B N d] 24 (0, 0)))
  have kB0 := blk_new (w.alloc (.cells #[.int .i64 a, .int .i64 b, .string p, .string q, .int .i64 n, .int .i64 m, .slice A N c] 24 (0, 0))) (.cells #[.int .i64 a, .int .i64 b, .string p, .string q, .int .i64 n, .int .i64 m, .slice B N d] 24 (0, 0))
  rw [World.size_alloc] at kB0
  have bel : Below w.heap.size w ((w.alloc (.cells #[.int .i64 a, .int .i64 b, .string p, .string q, .int .i64 n, .int .i64 m, .slice A N c] 24 (0, 0))).alloc (.cells #[.int .i64 a, .int .i64 b, .string p, .string q, .int .i64 n, .int .i64 m, .slice B N d] 24 (0, 0))) := (below_alloc (Below.refl _ _) _).alloc (by simp) _
  have HA2 : Aside0 (Kd.bool.C ((w.alloc (.cells #[.int .i64 a, .int .i64 b, .string p, .string q, .int .i64 n, .int .i64 m, .slice A N c] 24 (0, 0))).alloc (.cells #[.int .i64 a, .int .i64 b, .string p, .string q, .int .i64 n, .int .i64 m, .slice B N d] 24 (0, 0))) A N l) := ⟨Kd.C_below HA.out bel⟩
  have HB2 : Aside0 (Kd.bool.C ((w.alloc (.cells #[.int .i64 a, .int .i64 b, .string p, .string q, .int .i64 n, .int .i64 m, .slice A N c] 24 (0, 0))).alloc (.cells #[.int .i64 a, .int .i64 b, .string p, .string q, .int .i64 n, .int .i64 m, .slice B N d] 24 (0, 0))) B N l) := ⟨Kd.C_below HB.out bel⟩
  obtain ⟨b0, hb0⟩ : ∃ b0, w.heap.size = b0 := ⟨_, rfl⟩
  obtain ⟨W2, hW2⟩ : ∃ W2, ((w.alloc (.cells #[.int .i64 a, .int .i64 b, .string p, .string q, .int .i64 n, .int .i64 m, .slice A N c] 24 (0, 0))).alloc (.cells #[.int .i64 a, .int .i64 b, .string p, .string q, .int .i64 n, .int .i64 m, .slice B N d] 24 (0, 0))) = W2 := ⟨_, rfl⟩
  rw [hW2] at kA0 kB0 bel HA2 HB2
  change Code.wp _ _ _ _ ((w.alloc (.cells #[.int .i64 a, .int .i64 b, .string p, .string q, .int .i64 n, .int .i64 m, .slice A N c] 24 (0, 0))).alloc (.cells #[.int .i64 a, .int .i64 b, .string p, .string q, .int .i64 n, .int .i64 m, .slice B N d] 24 (0, 0)))
  rw [hW2]
  rw [hb0] at kA0 kB0 bel ⊢
  have HBW := Aside0.mk hb0
  have HK0 := Aside0.mk kA0
  have HK1 := Aside0.mk kB0
  have HBL := Aside0.mk bel
  clear hb0 hW2 kA0 kB0 bel
  go_loopg [5] (N + 1) (fun gf v5 wr => ∃ (k : Nat), v5 = .int .i64 k ∧ k ≤ N ∧ Aside0 (Below W2.heap.size W2 wr) ∧ N < k + gf)
  case atStart => exact ⟨0, rfl, by omega, ⟨Below.refl _ _⟩, by omega⟩
  case round =>
    obtain ⟨k, rfl, hk, HZ, hgf⟩ := hrel
    obtain ⟨j, rfl⟩ : ∃ j, gk = j + 1 := ⟨gk - 1, by omega⟩
    obtain ⟨p0, p1, p2, p3, p4, p5, p6⟩ := cells7 (blk_below HK0.out HZ.out)
    obtain ⟨q0, q1, q2, q3, q4, q5, q6⟩ := cells7 (blk_below HK1.out HZ.out)
    by_cases hlt : k < N
    · obtain ⟨ad1, rfl, hx1⟩ := Kd.at_bool (Kd.C_below HA2.out HZ.out) (k : Int) (by omega) (by omega)
      obtain ⟨ad2, rfl, hx2⟩ := Kd.at_bool (Kd.C_below HB2.out HZ.out) (k : Int) (by omega) (by omega)
      rw [Int.toNat_natCast] at hx1 hx2
      obtain ⟨x, hx⟩ : ∃ x, rdOf false l (k : Int) = x := ⟨_, rfl⟩
      rw [hx] at hx1 hx2
      clear hx p0 p1 p2 p3 p4 p5 q0 q1 q2 q3 q4 q5
      go_upto_region 6 with (fail)
      go_big_quiet_o (fail)
      go_wp2_with fail
      go_roundg j
      case measure => omega
      case rel => exact ⟨k + 1, by go_num, by omega, ⟨by with_reducible repeat (first | exact HZ.out | apply pw_below_drewN)⟩, by omega⟩
    · go_wp2_with fail
      go_ret
      have hs0 : b0 ≤ W2.heap.size := by have h1 := HBL.out.size; have h2 := HBW.out; omega
      exact ⟨rfl, by rw [HBW.out]; exact HBL.out.trans (HZ.out.mono hs0)⟩

/-- Is it small enough? -/
def lightX (x : SS) : Bool := decide (x.f2.size ≤ 600) && decide (x.f3.size ≤ 600) && decide (x.f6.length ≤ 120)
def lightB (xs : List SS) : Bool := decide (xs.length ≤ 40) && xs.all lightX
set_option maxRecDepth 100000 in
set_option maxHeartbeats 4000000 in
theorem light_calls (xs : List SS) (A : Option Addr) (c : Nat) (w : World) (hC : Kd.C kS w A xs.length xs) :
    Calls Tryz.prog 6 #[.slice A xs.length c] w fun e w' => e = .returned (.bool (lightB xs)) ∧ w' = w := by
  have hlen := hC.2.1
  have HC := Aside0.mk hC
  obtain ⟨N, hN⟩ : ∃ N, xs.length = N := ⟨_, rfl⟩
  have hm : (N : Int) ≤ 9223372036854775807 := by omega
  obtain ⟨R, hR⟩ : ∃ R, lightB xs = R := ⟨_, rfl⟩
  rw [hR]
  rw [hN] at hlen HC ⊢
  have HN := Aside0.mk hN
  have HR := Aside0.mk hR
  clear hC hN hR
  by_cases h40 : N ≤ 40
  case neg =>
    have hgt : (40 : Int) < (N : Int) := by omega
    have HRF : Aside0 (R = false) := ⟨by rw [← HR.out]; unfold lightB; rw [HN.out, decide_eq_false h40]; rfl⟩
    go_enter Tryz.func6, Tryz.ntmps6
    go_wp2_with fail
    rw [HRF.out]
    go_ret
    exact ⟨rfl, rfl⟩
  have hle : (N : Int) ≤ 40 := by omega
  have HRA : Aside0 (R = xs.all lightX) := ⟨by rw [← HR.out]; unfold lightB; rw [HN.out, decide_eq_true h40]; rfl⟩
  clear HR
  go_enter Tryz.func6, Tryz.ntmps6
  go_wp2_with fail
  go_loopg [3] (N + 1) (fun gf v3 wr => ∃ (k : Nat), v3 = .int .i64 k ∧ wr = w ∧ k ≤ N ∧ Aside0 ((xs.take k).all lightX = true) ∧ N < k + gf)
  case atStart => exact ⟨0, rfl, rfl, by omega, ⟨rfl⟩, by omega⟩
  case round =>
    obtain ⟨k, rfl, hwr, hk, HT, hgf⟩ := hrel
    subst hwr
    obtain ⟨n, rfl⟩ : ∃ n, gk = n + 1 := ⟨gk - 1, by omega⟩
    by_cases hlt : k < N
    · obtain ⟨ad, A6, c6, rfl, g0, g1, g2, g3, g4, g5, g6, hl6, hC6⟩ := atS HC.out (k : Int) (by omega) (by omega)
      rw [Int.toNat_natCast] at g0 g1 g2 g3 g4 g5 g6
      obtain ⟨x, hx⟩ : ∃ x, rdS xs (k : Int) = x := ⟨_, rfl⟩
      rw [hx] at g0 g1 g2 g3 g4 g5 g6 hl6 hC6
      have hk2 : k < xs.length := by rw [HN.out]; exact hlt
      have hx2 : xs[k] = x := by
        rw [← hx]
        unfold rdS
        rw [Int.toNat_natCast, List.getD_eq_getElem?_getD, List.getElem?_eq_getElem hk2]
        rfl
      have htk : xs.take (k + 1) = xs.take k ++ [x] := by rw [List.take_succ_eq_append_getElem hk2, hx2]
      have hmem : x ∈ xs := by rw [← hx2]; exact List.getElem_mem hk2
      have HTK := Aside0.mk htk
      have HM := Aside0.mk hmem
      clear hx hC6 hk2 hx2 htk hmem
      have bad : lightX x = false → Aside0 (R = false) := fun h => ⟨by
        rw [HRA.out]
        cases ha : xs.all lightX with
        | false => rfl
        | true =>
          have := List.all_eq_true.1 ha x HM.out
          rw [h] at this
          cases this⟩
      by_cases h1 : x.f2.size ≤ 600
      case neg =>
        have HRF := bad (by unfold lightX; rw [decide_eq_false h1]; rfl)
        have hi1 : (600 : Int) < (x.f2.size : Int) := by omega
        clear bad
        go_wp2_with fail
        rw [HRF.out]
        go_ret
        exact ⟨rfl, rfl⟩
      by_cases h2 : x.f3.size ≤ 600
      case neg =>
        have HRF := bad (by unfold lightX; rw [decide_eq_false h2, Bool.and_false]; rfl)
        have hi1 : ¬ (600 : Int) < (x.f2.size : Int) := by omega
        have hi2 : (600 : Int) < (x.f3.size : Int) := by omega
        clear bad
        go_wp2_with fail
        rw [HRF.out]
        go_ret
        exact ⟨rfl, rfl⟩
      have hi1 : ¬ (600 : Int) < (x.f2.size : Int) := by omega
      have hi2 : ¬ (600 : Int) < (x.f3.size : Int) := by omega
      by_cases h3 : x.f6.length ≤ 120
      case neg =>
        have HRF := bad (by unfold lightX; rw [decide_eq_false h3, Bool.and_false])
        have hi3 : (120 : Int) < (x.f6.length : Int) := by omega
        clear bad
        go_wp2_with fail
        rw [HRF.out]
        go_ret
        exact ⟨rfl, rfl⟩
      have hi3 : ¬ (120 : Int) < (x.f6.length : Int) := by omega
      have hok : lightX x = true := by unfold lightX; rw [decide_eq_true h1, decide_eq_true h2, decide_eq_true h3]; rfl
      have HOK := Aside0.mk hok
      clear bad hok
      go_wp2_with fail
      go_roundg n
      case measure => omega
      case rel => exact ⟨k + 1, by go_num, rfl, by omega, ⟨by rw [HTK.out, List.all_append, HT.out, List.all_cons, HOK.out]; rfl⟩, by omega⟩
    · have hu : xs.take k = xs := by rw [List.take_of_length_le]; rw [HN.out]; omega
      have HRT : Aside0 (R = true) := ⟨by rw [HRA.out, ← hu]; exact HT.out⟩
      clear hu
      go_wp2_with fail
      rw [HRT.out]
      go_ret
      exact ⟨rfl, rfl⟩
end Go.Proofs.YtoajcijjkkkaaaaGreatDoor.K

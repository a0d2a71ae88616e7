/- op.Name, cachetteref15.Name: which texts are names: told by their bytes (a rune of more than one byte has no odd byte; a byte that opens no rune is a rune of its own). -/
import Derived.Test.YtaiakklflmhpmaaX2
import Derived.Test.YtaiakklflmhpmaaRf
import Derived.Lib.DecodeN
import Derived.Lib.OthersKept
import Derived.Deep.LoopGhost
namespace Go.Proofs.Ytaiakklflmhpmaa.K
open Go.RowKit Go.Proofs.YtaiakklflmhpmaaW.PrintWords Go.Proofs.YtaiakklflmhpmaaW.PrintLast Go.Proofs.YtaiakklflmhpmaaW.PrintMore
set_option linter.unusedVariables false
set_option linter.unusedSimpArgs false

/-- A byte that no name has. -/
def oddN (x : Nat) : Bool := decide (x < 32 ∨ x = 127 ∨ x = 47 ∨ x = 126)
/-- Has a text such a byte? -/
def anyOdd (s : ByteArray) : Prop := ∃ j, j < s.size ∧ oddN (s.get! j).toNat = true

theorem oddN_big {x : Nat} (h : 128 ≤ x) : oddN x = false := by simp [oddN]; omega

theorem decN_small (n b0 b1 b2 b3 : Nat) (h : b0 < 128) : Lib.decodeN n b0 b1 b2 b3 = (b0, 1) := by simp [Lib.decodeN, h]
theorem decN_big (n b0 b1 b2 b3 : Nat) (h : ¬ b0 < 128) :
  128 ≤ (Lib.decodeN n b0 b1 b2 b3).1 ∧ 1 ≤ (Lib.decodeN n b0 b1 b2 b3).2 ∧ (Lib.decodeN n b0 b1 b2 b3).2 ≤ 4 ∧ (2 ≤ (Lib.decodeN n b0 b1 b2 b3).2 → 128 ≤ b1) ∧ (3 ≤ (Lib.decodeN n b0 b1 b2 b3).2 → 128 ≤ b2) ∧ (4 ≤ (Lib.decodeN n b0 b1 b2 b3).2 → 128 ≤ b3) := by
 unfold Lib.decodeN
 rw [if_neg h]
 repeat' split
 all_goals (dsimp only; omega)

/-- What the rune at pos is, and how many bytes it has. -/
theorem dec_odd (s : ByteArray) (pos : Nat) :
  1 ≤ (Utf8.decode s pos).2 ∧ (oddN (Utf8.decode s pos).1 = true → oddN (s.get! pos).toNat = true) ∧
  (oddN (Utf8.decode s pos).1 = false → ∀ j, pos ≤ j → j < pos + (Utf8.decode s pos).2 → oddN (s.get! j).toNat = false) := by
 rw [Lib.decode_at]
 by_cases h : (s.get! pos).toNat < 128
 ·rw [decN_small _ _ _ _ _ h]
  refine ⟨Nat.le_refl _, fun e => e, fun e j h1 h2 => ?_⟩
  obtain rfl : j = pos := by dsimp only at h2; omega
  exact e
 ·have hb := decN_big (s.size - pos) (s.get! pos).toNat (s.get! (pos + 1)).toNat (s.get! (pos + 2)).toNat (s.get! (pos + 3)).toNat h
  obtain ⟨h1, h2, h3, h4, h5, h6⟩ := hb
  refine ⟨h2, fun e => ?_, fun e j g1 g2 => ?_⟩
  ·rw [oddN_big h1] at e
   exact absurd e (by decide)
  ·apply oddN_big
   obtain ⟨d, rfl⟩ : ∃ d, j = pos + d := ⟨j - pos, by omega⟩
   rcases d with _ | _ | _ | _ | d
   ·exact Nat.le_of_not_lt h
   ·exact h4 (by omega)
   ·exact h5 (by omega)
   ·exact h6 (by omega)
   ·omega

set_option maxHeartbeats 400000 in
theorem odd_calls (R : Nat) (w : World) :
  Calls Try.prog 36 #[.int .i32 (R : Int)] w fun e w' => e = .returned (.bool (oddN R)) ∧ Drawn0 w w' :=
 X.op_odd.calls R _ w (by
  unfold X.op_odd.f oddN
  (repeat' split) <;> (refine congrArg some ?_; rw [Bool.eq_iff_iff]; simp only [beq_iff_eq, decide_eq_true_eq, true_iff]; omega))

set_option maxHeartbeats 2000000 in
set_option maxRecDepth 1000000 in
theorem indexFunc_calls (s : ByteArray) (w : World) :
  Calls Try.prog 66 #[.string s, .func (.func 36) #[] #[], .bool true] w fun e w' => (∃ i : Int, e = .returned (.int .i64 i) ∧ Aside0 (0 ≤ i ↔ anyOdd s)) ∧ Below w.heap.size w w' := by
 go_enter Try.func66, Try.ntmps66
 go_wp2
 go_loopg [] s.size (fun gf wx => ∃ pos : Nat, wx.heap[w.heap.size]? = some (.stringIter s pos) ∧ Below w.heap.size w wx ∧ Aside0 (∀ j, j < pos → oddN (s.get! j).toNat = false) ∧ s.size ≤ pos + gf)
 case atStart => exact ⟨0, World.iter_heap w s 0, (Below.refl _ w).alloc (Nat.le_refl _) _, ⟨fun j hj => absurd hj (by omega)⟩, by omega⟩
 case round =>
  obtain ⟨pos, hit, hbw, HL, hfu⟩ := hrel
  by_cases hps : pos < s.size
  ·obtain ⟨g', rfl⟩ : ∃ g', gk = g' + 1 := ⟨gk - 1, by omega⟩
   have hnx : ∀ ty, (Instr.next (.pointer (some ⟨w.heap.size, 0, none⟩)) true ty).run Try.prog wr = _ := fun ty => Lib.run_next_any_at wr w.heap.size s pos ty hit hps
   have hdec := dec_odd s pos
   obtain ⟨R, hR⟩ : ∃ R, (Utf8.decode s pos).1 = R := ⟨_, rfl⟩
   obtain ⟨K, hK⟩ : ∃ K, (Utf8.decode s pos).2 = K := ⟨_, rfl⟩
   rw [hR, hK] at hnx hdec
   obtain ⟨hwd, hd1, hd2⟩ := hdec
   have HD1 := Aside0.mk hd1
   have HD2 := Aside0.mk hd2
   clear hd1 hd2
   have hit2 := Lib.iterAt_heap wr w.heap.size s pos (pos + K) hit
   have hbw2 := Lib.below_iterAt hbw (k := w.heap.size) (Nat.le_refl _) s (pos + K)
   obtain ⟨W, hWd⟩ : ∃ W, wr.iterAt w.heap.size s (pos + K) = W := ⟨_, rfl⟩
   rw [hWd] at hnx hit2 hbw2
   have cS := odd_calls R W
   clear hR hK
   cases hsp : oddN R <;> rw [hsp] at cS
   ·have HS := Aside0.mk hsp
    clear hsp
    go_wp2_with (go_at_call 36; go_must (refine cS.mono ?_; rintro e W' ⟨rfl, q, rfl⟩))
    go_roundg g'
    case measure => omega
    case rel =>
     refine ⟨pos + K, hit2, pw_below_drewN hbw2 q, ⟨fun j hj => ?_⟩, by omega⟩
     by_cases hj2 : j < pos
     ·exact HL.out j hj2
     ·exact HD2.out HS.out j (by omega) hj
   ·have HS := Aside0.mk hsp
    clear hsp
    go_wp2_with (go_at_call 36; go_must (refine cS.mono ?_; rintro e W' ⟨rfl, q, rfl⟩))
    go_ret
    exact ⟨⟨_, rfl, ⟨fun _ => ⟨pos, hps, HD1.out HS.out⟩, fun _ => by omega⟩⟩, pw_below_drewN hbw2 q⟩
  ·have hnx : ∀ ty, (Instr.next (.pointer (some ⟨w.heap.size, 0, none⟩)) true ty).run Try.prog wr = _ := fun ty => Lib.run_next_end_at wr w.heap.size s pos ty hit hps
   go_wp2
   go_ret
   refine ⟨⟨_, rfl, ⟨fun h => absurd h (by decide), fun h => ?_⟩⟩, hbw⟩
   obtain ⟨j, hj, h1⟩ := h
   rw [HL.out j (by omega)] at h1
   exact absurd h1 (by decide)

set_option maxHeartbeats 400000 in
theorem containsFunc_calls (s : ByteArray) (b : Bool) (w : World) (hb : b = true ↔ anyOdd s) :
  Calls Try.prog 35 #[.string s, .func (.func 36) #[] #[]] w fun e w' => e = .returned (.bool b) ∧ Below w.heap.size w w' := by
 have HBB := Aside0.mk hb
 clear hb
 have cI : Calls Try.prog 54 #[.string s, .func (.func 36) #[] #[]] w fun e w' => (∃ i : Int, e = .returned (.int .i64 i) ∧ Aside0 (0 ≤ i ↔ anyOdd s)) ∧ Below w.heap.size w w' := by
  go_enter Try.func54, Try.ntmps54
  go_wp2_with (go_at_call 66; go_must ((refine (indexFunc_calls s w).mono ?_; rintro e w' ⟨⟨i, rfl, hi⟩, hb⟩)))
  go_ret
  exact ⟨⟨_, rfl, hi⟩, hb⟩
 go_enter Try.func35, Try.ntmps35
 go_wp2_with (go_at_call 54; go_must ((refine cI.mono ?_; rintro e w' ⟨⟨i, rfl, hi⟩, hb⟩)))
 go_ret
 refine ⟨?_, hb⟩
 have h : decide (0 ≤ i) = b := by
  have h1 := hi.out
  have h2 := HBB.out
  cases b <;> simp_all
 rw [h]
 first | rfl | simp

/-- Is a text a name? -/
noncomputable def nameB (s : ByteArray) : Bool := open Classical in decide (1 ≤ s.size ∧ s.size ≤ 24 ∧ s.toList ≠ [46] ∧ s.toList ≠ [46, 46] ∧ ¬ anyOdd s)

set_option maxHeartbeats 1000000 in
theorem name_calls (s : ByteArray) (w : World) :
    Calls Try.prog 17 #[.string s] w fun e w' => e = .returned (.bool (nameB s)) ∧ Below w.heap.size w w' := by
  obtain ⟨n, hn⟩ : ∃ n, nameB s = n := ⟨_, rfl⟩
  rw [hn]
  have HN := Aside0.mk hn
  clear hn
  have HB := Aside0.mk (Below.refl w.heap.size w)
  by_cases c3 : (1 : Int) ≤ (s.size : Int)
  · have c3b0 : decide ((1 : Int) ≤ (s.size : Int)) = true := decide_eq_true c3
    by_cases c4 : (s.size : Int) ≤ 24
    · have c4b0 : decide ((s.size : Int) ≤ 24) = true := decide_eq_true c4
      by_cases c5 : s.toList = ([46] : List UInt8)
      · have c5b1 : (s.toList != ([46] : List UInt8)) = false := bne_eq_false_iff_eq.mpr c5
        have e : n = false := by rw [← HN.out]; simp [nameB, c5]
        subst e
        go_enter Try.func17, Try.ntmps17
        go_wp2
        go_ret
        exact ⟨rfl, HB.out⟩
      · have c5b1 : (s.toList != ([46] : List UInt8)) = true := bne_iff_ne.mpr c5
        have C5 := Aside0.mk c5
        by_cases c6 : s.toList = ([46, 46] : List UInt8)
        · have c6b1 : (s.toList != ([46, 46] : List UInt8)) = false := bne_eq_false_iff_eq.mpr c6
          have e : n = false := by rw [← HN.out]; simp [nameB, c6]
          subst e
          go_enter Try.func17, Try.ntmps17
          go_wp2
          go_ret
          exact ⟨rfl, HB.out⟩
        · have c6b1 : (s.toList != ([46, 46] : List UInt8)) = true := bne_iff_ne.mpr c6
          have hC := containsFunc_calls s (!n) w (by
            rw [← HN.out]
            have h1 : 1 ≤ s.size := by omega
            have h2 : s.size ≤ 24 := by omega
            simp [nameB, h1, h2, C5.out, c6])
          go_enter Try.func17, Try.ntmps17
          go_wp2_with (go_at_call 35; go_must ((refine hC.mono ?_; rintro e w' ⟨rfl, hb⟩)))
          go_ret
          exact ⟨by simp [c5, c6], hb⟩
    · have c4b0 : decide ((s.size : Int) ≤ 24) = false := decide_eq_false c4
      have e : n = false := by rw [← HN.out]; have h2 : ¬ s.size ≤ 24 := by omega
                               simp [nameB, h2]
      subst e
      go_enter Try.func17, Try.ntmps17
      go_wp2
      go_ret
      exact ⟨rfl, HB.out⟩
  · have c3b0 : decide ((1 : Int) ≤ (s.size : Int)) = false := decide_eq_false c3
    have e : n = false := by rw [← HN.out]; have h2 : ¬ 1 ≤ s.size := by omega
                             simp only [nameB, h2, false_and, decide_false]
    subst e
    go_enter Try.func17, Try.ntmps17
    go_wp2
    go_ret
    exact ⟨rfl, HB.out⟩
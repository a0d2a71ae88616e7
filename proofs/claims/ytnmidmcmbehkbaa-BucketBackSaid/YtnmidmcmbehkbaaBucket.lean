/- bucket: classes, sizes and rooms, by the program and by the document; a text that is padded. (Over the print XPRINT of bucket.Class, Size, Room, Classes, class.size, class.room, Alike and cachetteref02.Class, Size, Room.) -/
import Derived.Test.YtnmidmcmbehkbaaRef01
import Derived.Test.YtnmidmcmbehkbaaX
namespace Go.Proofs.Ytnmidmcmbehkbaa.K
open Go.RowKit Go.Proofs.YtnmidmcmbehkbaaW.PrintWords Go.Proofs.YtnmidmcmbehkbaaW.PrintLast Go.Proofs.YtnmidmcmbehkbaaW.PrintMore
set_option linter.unusedVariables false
set_option linter.unusedSimpArgs false

/-- The size of a class; 0: of none. -/
def sizeB (c : Int) : Int := if c < 0 then 0 else if c ≥ 7 then 0 else if c = 0 then 16 else if c = 1 then 32 else if c = 2 then 64 else if c = 3 then 128 else if c = 4 then 256 else if c = 5 then 512 else 1024
/-- The longest text of a class. -/
def roomB (c : Int) : Int := if c < 0 then -1 else if c ≥ 7 then -1 else if c = 0 then 15 else if c = 1 then 31 else if c = 2 then 63 else if c = 3 then 127 else if c = 4 then 254 else if c = 5 then 510 else 1022
/-- The class of a text so long. -/
def classB (n : Int) : Int := if n < 0 then -1 else if n ≤ 15 then 0 else if n ≤ 31 then 1 else if n ≤ 63 then 2 else if n ≤ 127 then 3 else if n ≤ 254 then 4 else if n ≤ 510 then 5 else if n ≤ 1022 then 6 else -1

theorem seven {c : Int} (h0 : ¬ c < 0) (h7 : ¬ c ≥ 7) : c = 0 ∨ c = 1 ∨ c = 2 ∨ c = 3 ∨ c = 4 ∨ c = 5 ∨ c = 6 := by omega
theorem csize_f (c : Int) : X.bucket_class_size.f c = some (sizeB c) := by
  unfold X.bucket_class_size.f sizeB
  by_cases h0 : c < 0
  · simp [h0]
  · by_cases h7 : c ≥ 7
    · simp [h0, h7]
    · rcases seven h0 h7 with rfl | rfl | rfl | rfl | rfl | rfl | rfl <;> decide
theorem croom_f (c : Int) : X.bucket_class_room.f c = some (roomB c) := by
  unfold X.bucket_class_room.f
  rw [csize_f]
  simp only [Option.bind_some]
  unfold sizeB roomB
  by_cases h0 : c < 0
  · simp [if_pos h0, wrap64]
  · by_cases h7 : c ≥ 7
    · simp [if_neg h0, if_pos h7, wrap64]
    · rcases seven h0 h7 with rfl | rfl | rfl | rfl | rfl | rfl | rfl <;> simp [wrap64]
theorem size_f (c : Int) : X.bucket_Size.f c = some (sizeB c) := by
  unfold X.bucket_Size.f
  rw [csize_f]
  rfl
theorem room_f (c : Int) : X.bucket_Room.f c = some (roomB c) := by
  unfold X.bucket_Room.f
  rw [croom_f]
  rfl
theorem wrap64_of {n : Int} (h0 : -9223372036854775808 ≤ n) (h1 : n ≤ 9223372036854775807) : wrap64 n = n := by
  unfold wrap64
  omega
theorem class_l0 (k : Nat) (n c : Int) (h0 : 0 ≤ c) (h7 : c < 7) : X.bucket_Class.l0 (k + 1) n c = if 0 ≤ n ∧ n ≤ roomB c then some c else X.bucket_Class.l0 k n (c + 1) := by
  rw [X.bucket_Class.l0, if_pos h7, croom_f, wrap64_of (by omega) (by omega)]
  simp only [Option.bind_some, ge_iff_le]
  by_cases hn : 0 ≤ n
  · by_cases hr : n ≤ roomB c <;> simp [hn, hr]
  · simp [hn]
theorem class_end (k : Nat) (n c : Int) (h : ¬ c < 7) : X.bucket_Class.l0 (k + 1) n c = some (-1) := by rw [X.bucket_Class.l0, if_neg h]
theorem classB_is (n c : Int) (h0 : 0 ≤ c) (h7 : c < 7) (hn : 0 ≤ n) (hr : n ≤ roomB c) (hl : c = 0 ∨ roomB (c - 1) < n ∨ n < 0) : classB n = c := by
  rcases seven (c := c) (by omega) (by omega) with rfl | rfl | rfl | rfl | rfl | rfl | rfl <;> (simp [roomB] at hr hl; unfold classB; (repeat' split) <;> omega)
theorem classB_no (n : Int) (h : n < 0 ∨ 1022 < n) : classB n = -1 := by
  unfold classB
  (repeat' split) <;> omega
theorem class_up (n : Int) (d : Nat) : ∀ (k : Nat) (c : Int), c + d = 7 → 0 ≤ c → (c = 0 ∨ roomB (c - 1) < n ∨ n < 0) → X.bucket_Class.l0 (k + d + 1) n c = some (classB n) := by
  induction d with
  | zero =>
    intro k c hc h0 hl
    obtain rfl : c = 7 := by omega
    rw [class_end _ _ _ (by decide), classB_no n (by simp [roomB] at hl; omega)]
  | succ d ih =>
    intro k c hc h0 hl
    rw [show k + (d + 1) + 1 = (k + d + 1) + 1 by omega, class_l0 _ _ c h0 (by omega)]
    by_cases h : 0 ≤ n ∧ n ≤ roomB c
    · rw [if_pos h, classB_is n c h0 (by omega) h.1 h.2 hl]
    · rw [if_neg h]
      exact ih k (c + 1) (by omega) (by omega) (by rw [show c + 1 - 1 = c by omega]; omega)
theorem class_f (k : Nat) (n : Int) : X.bucket_Class.f (k + 8) n = some (classB n) := class_up n 7 k 0 (by decide) (by decide) (.inl rfl)
theorem rsize_f (c : Int) : X.cachetteref02_Size.f c = some (sizeB c) := by
  unfold X.cachetteref02_Size.f sizeB
  by_cases h0 : c < 0
  · simp [h0]
  · by_cases h7 : c ≥ 7
    · simp [h0, h7]
    · rcases seven h0 h7 with rfl | rfl | rfl | rfl | rfl | rfl | rfl <;> rfl
theorem rnum_f (k : Nat) (n : Int) (h0 : 0 ≤ n) (h1 : n < 16384) : ∃ r, X.cachetteref01_Num.f (k + 2) n = some r ∧ (r.length : Int) = if n < 128 then 1 else 2 := by
  rw [X.cachetteref01_Num.f]
  by_cases h : n < 128
  · exact ⟨_, by rw [if_pos h], by simp [h]⟩
  · have e : IntKind.u64.wrap (Int.tdiv n 128) = n / 128 := by
      rw [Int.tdiv_eq_ediv_of_nonneg h0]
      simp only [IntKind.wrap, IntKind.bits, IntKind.signed]
      simp
      omega
    rw [if_neg h, e, X.cachetteref01_Num.f, if_pos (by omega)]
    exact ⟨_, rfl, by simp [h]⟩
theorem rclass_l0 (k : Nat) (n c : Int) (h0 : 0 ≤ c) (h7 : c < 7) (hn0 : 0 ≤ n) (hn1 : n ≤ 2000) : X.cachetteref02_Class.l0 (k + 3) n c = if (if n < 128 then 1 else 2) + n ≤ sizeB c then some c else X.cachetteref02_Class.l0 (k + 2) n (c + 1) := by
  obtain ⟨r, hr, hl⟩ := rnum_f k n hn0 (by omega)
  have e : IntKind.u64.wrap n = n := by
    simp only [IntKind.wrap, IntKind.bits, IntKind.signed]
    simp
    omega
  rw [X.cachetteref02_Class.l0, if_pos h7, e, hr, rsize_f, wrap64_of (n := c + 1) (by omega) (by omega)]
  simp only [Option.bind_some]
  rw [hl, wrap64_of (by split <;> omega) (by split <;> omega)]
theorem rclass_end (k : Nat) (n c : Int) (h : ¬ c < 7) : X.cachetteref02_Class.l0 (k + 1) n c = some (-1) := by rw [X.cachetteref02_Class.l0, if_neg h]
theorem fits_iff (n c : Int) (h0 : 0 ≤ c) (h7 : c < 7) (hn : 0 ≤ n) : ((if n < 128 then 1 else 2) + n ≤ sizeB c) ↔ n ≤ roomB c := by
  rcases seven (c := c) (by omega) (by omega) with rfl | rfl | rfl | rfl | rfl | rfl | rfl <;> (simp [roomB, sizeB]; split <;> omega)
theorem rclass_up (n : Int) (hn0 : 0 ≤ n) (hn1 : n ≤ 2000) (d : Nat) : ∀ (k : Nat) (c : Int), c + d = 7 → 0 ≤ c → (c = 0 ∨ roomB (c - 1) < n ∨ n < 0) → X.cachetteref02_Class.l0 (k + d + 3) n c = some (classB n) := by
  induction d with
  | zero =>
    intro k c hc h0 hl
    obtain rfl : c = 7 := by omega
    rw [show k + 0 + 3 = (k + 2) + 1 by omega, rclass_end _ _ _ (by decide), classB_no n (by simp [roomB] at hl; omega)]
  | succ d ih =>
    intro k c hc h0 hl
    rw [show k + (d + 1) + 3 = (k + d + 1) + 3 by omega, rclass_l0 _ _ c h0 (by omega) hn0 hn1]
    by_cases h : (if n < 128 then 1 else 2) + n ≤ sizeB c
    · rw [if_pos h, classB_is n c h0 (by omega) hn0 ((fits_iff n c h0 (by omega) hn0).1 h) hl]
    · rw [if_neg h, show k + d + 1 + 2 = k + d + 3 by omega]
      exact ih k (c + 1) (by omega) (by omega) (by rw [show c + 1 - 1 = c by omega]; have := mt (fits_iff n c h0 (by omega) hn0).2 h; omega)
theorem rclass_f (k : Nat) (n : Int) : X.cachetteref02_Class.f (k + 11) n = some (classB n) := by
  unfold X.cachetteref02_Class.f
  by_cases h0 : n < 0
  · simp [h0, X.cachetteref02_Class.j0, classB]
  · rw [if_neg h0, X.cachetteref02_Class.j0]
    by_cases h1 : n > 2000
    · rw [if_pos (by simpa using h1), classB_no n (by omega)]
    · rw [if_neg (by simpa using h1)]
      exact rclass_up n (by omega) (by omega) 7 k 0 (by decide) (by decide) (.inl rfl)
theorem rroom_up (c : Int) (h0 : 0 ≤ c) (h6 : c ≤ 6) (d : Nat) : ∀ (n : Int) (k : Nat), 0 ≤ n → n + d = roomB c → X.cachetteref02_Room.l0 (k + 12 + d) c n = some (roomB c) := by
  have hup : ∀ n : Int, 0 ≤ n → n + 1 ≤ roomB c → 0 ≤ classB (n + 1) ∧ classB (n + 1) ≤ c := by
    intro n hn hr
    rcases seven (c := c) (by omega) (by omega) with rfl | rfl | rfl | rfl | rfl | rfl | rfl <;>
      (simp [roomB] at hr; unfold classB; constructor <;> ((repeat' split) <;> omega))
  have hend : 0 ≤ classB (roomB c + 1) → ¬ classB (roomB c + 1) ≤ c := by
    rcases seven (c := c) (by omega) (by omega) with rfl | rfl | rfl | rfl | rfl | rfl | rfl <;> decide
  have hb : roomB c ≤ 1022 := by
    unfold roomB
    (repeat' split) <;> omega
  induction d with
  | zero =>
    intro n k hn hd
    have e : n = roomB c := by omega
    subst e
    rw [show k + 12 + 0 = (k + 11) + 1 by omega, X.cachetteref02_Room.l0, wrap64_of (by omega) (by omega), rclass_f]
    simp only [Option.bind_some]
    by_cases hc : 0 ≤ classB (roomB c + 1)
    · simp [hc, hend hc]
    · simp [hc]
  | succ d ih =>
    intro n k hn hd
    obtain ⟨u0, u1⟩ := hup n hn (by omega)
    rw [show k + 12 + (d + 1) = (k + 12 + d) + 1 by omega, X.cachetteref02_Room.l0, wrap64_of (by omega) (by omega), show k + 12 + d = (k + 1 + d) + 11 by omega, rclass_f]
    simp only [Option.bind_some, ge_iff_le, u0, u1, if_true]
    rw [show k + 1 + d + 11 = k + 12 + d by omega]
    exact ih (n + 1) k (by omega) (by omega)
theorem rroom_f (c : Int) : X.cachetteref02_Room.f 1100 c = some (roomB c) := by
  unfold X.cachetteref02_Room.f
  by_cases h0 : c < 0
  · simp [h0, X.cachetteref02_Room.j0, roomB]
  · rw [if_neg h0, X.cachetteref02_Room.j0]
    by_cases h6 : c > 6
    · rw [if_pos (by simpa using h6)]
      simp [roomB, h0]
      omega
    · rw [if_neg (by simpa using h6)]
      have hb : 0 ≤ roomB c ∧ roomB c ≤ 1022 := by
        unfold roomB
        constructor <;> ((repeat' split) <;> omega)
      obtain ⟨hb0, hb1⟩ := hb
      have h := rroom_up c (by omega) (by omega) (roomB c).toNat 0 (1087 - (roomB c).toNat) (by omega) (by omega)
      rwa [show 1087 - (roomB c).toNat + 12 + (roomB c).toNat = 1099 by omega] at h

theorem bclass_calls (n : Int) (w : World) : Calls Try.prog 13 #[.int .i64 n] w fun e w' => e = .returned (.int .i64 (classB n)) ∧ Below w.heap.size w w' :=
  (X.bucket_Class.calls 8 n _ w (class_f 0 n)).mono fun _ _ ⟨he, hd⟩ => ⟨he, hd.below⟩
theorem bsize_calls (c : Int) (w : World) : Calls Try.prog 15 #[.int .i64 c] w fun e w' => e = .returned (.int .i64 (sizeB c)) ∧ Below w.heap.size w w' :=
  (X.bucket_Size.calls c _ w (size_f c)).mono fun _ _ ⟨he, hd⟩ => ⟨he, hd.below⟩
theorem broom_calls (c : Int) (w : World) : Calls Try.prog 17 #[.int .i64 c] w fun e w' => e = .returned (.int .i64 (roomB c)) ∧ Below w.heap.size w w' :=
  (X.bucket_Room.calls c _ w (room_f c)).mono fun _ _ ⟨he, hd⟩ => ⟨he, hd.below⟩
theorem bclasses_calls (w : World) : Calls Try.prog 19 #[] w fun e w' => e = .returned (.int .i64 7) ∧ Below w.heap.size w w' :=
  (X.bucket_Classes.calls _ w rfl).mono fun _ _ ⟨he, hd⟩ => ⟨he, hd.below⟩
theorem dclass_calls (n : Int) (w : World) : Calls Try.prog 14 #[.int .i64 n] w fun e w' => e = .returned (.int .i64 (classB n)) ∧ Below w.heap.size w w' :=
  X.cachetteref02_Class.calls 11 n _ w (rclass_f 0 n)
theorem dsize_calls (c : Int) (w : World) : Calls Try.prog 16 #[.int .i64 c] w fun e w' => e = .returned (.int .i64 (sizeB c)) ∧ Below w.heap.size w w' :=
  X.cachetteref02_Size.calls c _ w (rsize_f c)
theorem droom_calls (c : Int) (w : World) : Calls Try.prog 18 #[.int .i64 c] w fun e w' => e = .returned (.int .i64 (roomB c)) ∧ Below w.heap.size w w' :=
  X.cachetteref02_Room.calls 1100 c _ w (rroom_f c)
end Go.Proofs.Ytnmidmcmbehkbaa.K

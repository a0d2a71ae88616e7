/- wire.Reader: what each method takes of the bytes that are left, as Lean functions of (what is left, what is wrong). -/
import Derived.Test.YtaiakklflmhpmaaWire
import Derived.Laws.MathBits
namespace Go.Proofs.Ytaiakklflmhpmaa.K
open Go.RowKit Go.Proofs.YtaiakklflmhpmaaW.PrintWords Go.Proofs.YtaiakklflmhpmaaW.PrintLast Go.Proofs.YtaiakklflmhpmaaW.PrintMore
set_option linter.unusedVariables false
set_option linter.unusedSimpArgs false

/-- Bytes. -/
def BL (l : List Int) : Prop := (∀ x ∈ l, 0 ≤ x ∧ x ≤ 255) ∧ l.length ≤ 140737488355328
theorem BL.nil : BL [] := by simp [BL]
theorem BL.drop {l : List Int} (h : BL l) (n : Nat) : BL (l.drop n) := ⟨fun x hx => h.1 x (List.mem_of_mem_drop hx), by have := h.2; rw [List.length_drop]; omega⟩
theorem BL.take {l : List Int} (h : BL l) (n : Nat) : BL (l.take n) := ⟨fun x hx => h.1 x (List.mem_of_mem_take hx), by have := h.2; rw [List.length_take]; omega⟩
/-- A reader at block g of W: bytes l are left, k is wrong; what it reads came in by w0. -/
def Rdr (T : Nat) (w0 W : World) (g : Nat) (l : List Int) (k : Int) : Prop := ∃ v, W.heap[g]? = some (.cells #[v, .int .i64 k] T (0, 0)) ∧ w0.heap.size ≤ g ∧ Rd w0 v l ∧ BL l
/-- What a method on the reader at g has turned. -/
structure Stp (w0 w w' : World) (g : Nat) : Prop where
 below : Below w0.heap.size w0 w'
 keep : KeepBut w w' g none
theorem Rdr.drewN {T : Nat} {w0 W : World} {g : Nat} {l : List Int} {k : Int} (h : Rdr T w0 W g l k) (n : Nat) : Rdr T w0 (W.drewN n) g l k := h
theorem Rdr.below {T : Nat} {w0 W W1 : World} {g : Nat} {l : List Int} {k : Int} (h : Rdr T w0 W g l k) (hb : Below W.heap.size W W1) : Rdr T w0 W1 g l k := by
 obtain ⟨v, hv, h1⟩ := h
 exact ⟨v, (hb.block g (blk_lt hv)).trans hv, h1⟩
theorem Rdr.keep {T : Nat} {w0 W W1 : World} {g g' : Nat} {l : List Int} {k : Int} (h : Rdr T w0 W g l k) (hk : KeepBut W W1 g' none) (hne : g ≠ g') : Rdr T w0 W1 g l k := by
 obtain ⟨v, hv, h1⟩ := h
 exact ⟨v, hk.blk hv hne (by simp), h1⟩
theorem Stp.refl {w0 w : World} (g : Nat) (hB : Below w0.heap.size w0 w) : Stp w0 w w g := ⟨hB, KeepBut.refl _ _ _⟩
theorem Stp.trans {w0 a b c : World} {g : Nat} (h : Stp w0 a b g) (k : Stp w0 b c g) : Stp w0 a c g := ⟨k.below, h.keep.trans k.keep (.inl rfl)⟩
theorem Stp.of_below {w0 a b : World} (g : Nat) (hB : Below w0.heap.size w0 a) (h : Below a.heap.size a b) : Stp w0 a b g := ⟨hB.trans (h.mono hB.size), KeepBut.of_below h g none⟩
theorem Stp.drewN {w0 a b : World} {g : Nat} (h : Stp w0 a b g) (n : Nat) : Stp w0 a (b.drewN n) g := ⟨pw_below_drewN h.below n, ⟨h.keep.1, h.keep.2⟩⟩

set_option maxHeartbeats 400000 in
theorem ok_calls (g : Nat) (k : Int) (w : World) (h1 : w.cell? ⟨g, 1, none⟩ = some (.int .i64 k)) :
  Calls Try.prog 49 #[.pointer (some ⟨g, 0, none⟩)] w fun e w' => e = .returned (.bool (k == 0)) ∧ Drawn0 w w' := by
 go_enter Try.func49, Try.ntmps49
 go_wp2
 repeat (go_quiet (fail); try go_wp2)
 go_ret
 exact ⟨rfl, by repeat (first | exact Drawn0.refl _ | apply Drawn0.step)⟩

set_option maxHeartbeats 400000 in
theorem fail_calls (g : Nat) (l : List Int) (k k1 : Int) (w0 w : World) (hI : Rdr 71 w0 w g l k) (hB : Below w0.heap.size w0 w) :
  Calls Try.prog 51 #[.pointer (some ⟨g, 0, none⟩), .int .i64 k1] w fun e w' => e = .returned (.tuple #[]) ∧ Rdr 71 w0 w' g [] k1 ∧ Stp w0 w w' g := by
 obtain ⟨v, hb, hg, hR, hl⟩ := hI
 have h0 : w.cell? ⟨g, 0, none⟩ = some v := (blk_cell hb 0).trans rfl
 have h1 : w.cell? ⟨g, 1, none⟩ = some (.int .i64 k) := (blk_cell hb 1).trans rfl
 have f0 : w.frozen? ⟨g, 0, none⟩ = false := blk_frozen hb 0
 have f1 : w.frozen? ⟨g, 1, none⟩ = false := blk_frozen hb 1
 have HB := Aside0.mk hb
 clear hb hR hl
 go_enter Try.func51, Try.ntmps51
 go_wp2
 go_end0
 exact ⟨rfl, ⟨_, by simpa using blk_set (blk_set HB.out 0 (.slice none 0 0)) 1 (.int .i64 k1), hg, Rd.nil _, BL.nil⟩, (hB.setCell hg _).setCell hg _, ((KeepBut.refl _ _ _).set_ 0 _).set_ 1 _⟩

theorem ret_int {k : IntKind} {a b : Int} (h : a = b) : Ending.returned (.int k a) = .returned (.int k b) := by rw [h]
/-- How many bytes the number at the begin has; 0: there is none. -/
def widF : Nat → List Int → Nat
 | _, [] => 0
 | i, c :: r => if i = 9 ∧ c ≠ 1 then 0 else if c < 128 then (if c = 0 ∧ 0 < i then 0 else i + 1) else widF (i + 1) r
set_option maxHeartbeats 800000 in
theorem width_calls (g : Nat) (l : List Int) (v : Value) (w : World) (h0 : w.cell? ⟨g, 0, none⟩ = some v) (hR : Rd w v l) (hl : BL l) :
    Calls Try.prog 65 #[.pointer (some ⟨g, 0, none⟩)] w fun e w' => e = .returned (.int .i64 (widF 0 l)) ∧ Drawn0 w w' := by
  obtain ⟨A, c, rfl, hc, hC⟩ := hR
  have HC := Aside0.mk hC
  have hm := HC.out.2.1
  clear hC
  go_enter Try.func65, Try.ntmps65
  go_wp2
  repeat (go_quiet (fail); try go_wp2)
  go_loopw [10] (fun v10 wr => ∃ i : Nat, v10 = .int .i64 i ∧ i ≤ l.length ∧ Aside0 (widF i (l.drop i) = widF 0 l) ∧ Drawn0 w wr) (fun v10 _ => l.length - (intOf v10).toNat)
  case atStart => exact ⟨0, rfl, by omega, ⟨by simp⟩, by repeat (first | exact Drawn0.refl _ | apply Drawn0.step)⟩
  case round =>
    obtain ⟨i, rfl, hi, HE, ⟨m1, rfl⟩⟩ := hrel
    by_cases hlt : i < l.length
    · obtain ⟨ad, rfl, hx⟩ := Kd.at_int HC.out i (by omega) (by omega)
      have HD := Aside0.mk (drop_rd hlt)
      obtain ⟨x, hxx⟩ : ∃ x, x = rd l i := ⟨_, rfl⟩
      rw [Int.toNat_natCast] at hx
      rw [← hxx] at hx HD
      clear hxx
      go_wp2
      repeat (go_quiet (fail); try go_wp2)
      all_goals first
        | (go_ret
           refine ⟨ret_int ?_, by repeat (first | exact Drawn0.refl _ | apply Drawn0.step)⟩
           rw [← HE.out, HD.out, widF]
           (repeat' split) <;> simp_all <;> omega)
        | (go_roundw
           case rel =>
             refine ⟨i + 1, by first | go_num | (congr 1; omega), by omega, ⟨?_⟩, by repeat (first | exact Drawn0.refl _ | apply Drawn0.step)⟩
             rw [← HE.out, HD.out, widF, if_neg (by rintro ⟨h9, h1⟩; first | omega | simp_all), if_neg (by omega)]
           case measure => simp [intOf]; omega)
    · go_wp2
      go_ret
      refine ⟨ret_int ?_, by repeat (first | exact Drawn0.refl _ | apply Drawn0.step)⟩
      rw [← HE.out, List.drop_eq_nil_of_le (by omega)]
      rfl

/-- Num: the number, what is left, what is wrong. -/
def numR (l : List Int) (k : Int) : Nat × List Int × Int :=
 if k = 0 then (if widF 0 l = 0 then (0, [], 4) else (valF (l.take (widF 0 l)), l.drop (widF 0 l), 0)) else (0, l, k)

theorem widF_le (i : Nat) (l : List Int) : widF i l ≤ i + l.length := by
 induction l generalizing i with
 | nil => simp [widF]
 | cons c r ih =>
  have := ih (i + 1)
  simp only [widF, List.length_cons]
  (repeat' split) <;> omega
theorem widF_ten (i : Nat) (l : List Int) (h : i ≤ 9) : widF i l ≤ 10 := by
 induction l generalizing i with
 | nil => simp [widF]
 | cons c r ih =>
  simp only [widF]
  by_cases h9 : i = 9
  ·(repeat' split) <;> omega
  ·have := ih (i + 1) (by omega)
   (repeat' split) <;> omega
theorem widF_last (i : Nat) (l : List Int) (h : i ≤ 9) (hw : widF i l = 10) : rd l (9 - i : Nat) = 1 := by
 induction l generalizing i with
 | nil => simp [widF] at hw
 | cons c r ih =>
  simp only [widF] at hw
  by_cases h9 : i = 9
  ·subst h9
   simp [rd]
   by_cases h1 : c = 1
   ·exact h1
   ·simp [h1] at hw
  ·have e : (9 - i : Nat) = (9 - (i + 1) : Nat) + 1 := by omega
   rw [if_neg (by omega)] at hw
   split at hw
   ·split at hw <;> omega
   ·have := ih (i + 1) (by omega) hw
    rw [e]
    simpa [rd] using this
theorem widF_nine (l : List Int) (hw : widF 0 l = 10) : rd l 9 = 1 := widF_last 0 l (by omega) hw

set_option maxHeartbeats 800000 in
theorem rnum_calls (g : Nat) (l : List Int) (k : Int) (w0 w : World) (hI : Rdr 71 w0 w g l k) (hB : Below w0.heap.size w0 w) :
  Calls Try.prog 48 #[.pointer (some ⟨g, 0, none⟩)] w fun e w' => e = .returned (.int .u64 (numR l k).1) ∧ Rdr 71 w0 w' g (numR l k).2.1 (numR l k).2.2 ∧ Stp w0 w w' g := by
 have HI := Aside0.mk hI
 obtain ⟨v, hb, hg, hR, hl⟩ := hI
 have h0 : w.cell? ⟨g, 0, none⟩ = some v := (blk_cell hb 0).trans rfl
 have h1 : w.cell? ⟨g, 1, none⟩ = some (.int .i64 k) := (blk_cell hb 1).trans rfl
 have f0 : w.frozen? ⟨g, 0, none⟩ = false := blk_frozen hb 0
 have HR := Aside0.mk (hR.below hB)
 have HR0 := Aside0.mk hR
 have HBK := Aside0.mk hb
 have HB := Aside0.mk hB
 clear hB hR hb
 by_cases hk : k = 0
 ·subst hk
  by_cases hw : widF 0 l = 0
  ·go_enter Try.func48, Try.ntmps48
   go_wp2_with (first
    | (go_at_call 49; go_must ((refine (ok_calls g 0 w h1).mono ?_; rintro e w1 ⟨rfl, ⟨m1, rfl⟩⟩)))
    | (go_at_call 65; go_must ((refine (width_calls g l v _ (by exact h0) (by exact HR.out) hl).mono ?_; rintro e w1 ⟨rfl, ⟨m2, rfl⟩⟩; rw [hw])))
    | (go_at_call 51; go_must ((refine (fail_calls g l 0 4 w0 _ (HI.out.drewN _) (pw_below_drewN HB.out _)).mono ?_; rintro e w1 ⟨rfl, hr, hs⟩; have HS := Aside0.mk hs; have HR1 := Aside0.mk hr; clear hr hs))))
   go_ret
   simp only [numR, hw, if_true]
   exact ⟨rfl, HR1.out, (Stp.drewN (Stp.refl g HB.out) _).trans HS.out⟩
  ·have hwn : 0 < widF 0 l := by omega
   obtain ⟨n, hn⟩ : ∃ n, widF 0 l = n := ⟨_, rfl⟩
   have hz : ((n : Int) == 0) = false := by simp; omega
   have Hn := Aside0.mk hn
   have hn1 : n ≤ l.length := by rw [← hn]; have := widF_le 0 l; omega
   have hn2 : n ≤ 10 := by rw [← hn]; exact widF_ten 0 l (by omega)
   have H9 : Aside0 (n = 10 → rd l 9 = 1) := ⟨fun h => widF_nine l (by rw [hn]; exact h)⟩
   clear hn hw hwn
   obtain ⟨A, c, rfl, hc, hC0⟩ := HR0.out
   have HC0 := Aside0.mk hC0
   have HC := Aside0.mk (Kd.C_below hC0 HB.out)
   clear hC0
   go_enter Try.func48, Try.ntmps48
   go_wp2_with (first
    | (go_at_call 49; go_must ((refine (ok_calls g 0 w h1).mono ?_; rintro e w1 ⟨rfl, ⟨m1, rfl⟩⟩)))
    | (go_at_call 65; go_must ((refine (width_calls g l _ _ (by exact h0) (by exact HR.out) hl).mono ?_; rintro e w1 ⟨rfl, ⟨m2, rfl⟩⟩; rw [Hn.out]))))
   go_loopw [2, 15] (fun v2 v15 wr => ∃ i : Nat, v2 = .int .u64 (valF (l.take i)) ∧ v15 = .int .i64 i ∧ i ≤ n ∧ Drawn0 w wr) (fun _ v15 _ => n - (intOf v15).toNat)
   case atStart => exact ⟨0, rfl, rfl, by omega, by repeat (first | exact Drawn0.refl _ | apply Drawn0.step)⟩
   case round =>
    obtain ⟨i, rfl, rfl, hi, ⟨m3, rfl⟩⟩ := hrel
    by_cases hlt : i < n
    ·obtain ⟨ad, rfl, hx⟩ := Kd.at_int HC.out i (by omega) (by omega)
     obtain ⟨x, hxx⟩ : ∃ x, x = rd l i := ⟨_, rfl⟩
     rw [Int.toNat_natCast] at hx
     rw [← hxx] at hx
     have HX := Aside0.mk hxx
     clear hxx
     obtain ⟨y, hy⟩ : ∃ y, y = valF (l.take i) := ⟨_, rfl⟩
     have HY := Aside0.mk hy
     clear hy
     go_wp2
     repeat (go_quiet (fail); try go_wp2)
     go_roundw
     case rel =>
      have hil : i < l.length := by omega
      refine ⟨i + 1, ?_, by go_num, by omega, by repeat (first | exact Drawn0.refl _ | apply Drawn0.step)⟩
      have hxb := hl.1 x (by rw [HX.out]; exact rd_mem hil)
      rw [or_num _ i x (by have := valF_lt (l.take i); rw [List.length_take, Nat.min_eq_left (by omega)] at this; exact this) hxb.1 hxb.2 (by omega) (fun h => by subst h; rw [HX.out]; exact H9.out (by omega)), take_rd hil, valF_snoc, ← HX.out, List.length_take, Nat.min_eq_left (by omega)]
     case measure => simp [intOf]; omega
    ·obtain rfl : i = n := by omega
     obtain ⟨A1, hcut, hR1⟩ := cut_from (P := Try.prog) 29 Try.underlying29 info5 A l c i hn1 hc
     have HR1 := Aside0.mk hR1
     clear hR1
     go_wp2
     go_ret
     have hnum : numR l 0 = (valF (l.take i), l.drop i, 0) := by
      rw [numR, if_pos rfl, Hn.out, if_neg (by intro h; subst h; simp at hz)]
     rw [hnum]
     exact ⟨rfl, ⟨_, by simpa using blk_set (blk_drewN HBK.out m3) 0 (.slice A1 (l.length - i) (c - i)), hg, HR1.out w0 HC0.out, hl.drop _⟩, (pw_below_drewN HB.out m3).setCell hg _, ((Stp.drewN (Stp.refl g HB.out) m3).keep).set_ 0 _⟩
 ·go_enter Try.func48, Try.ntmps48
  have hk' : (k == 0) = false := by simpa using hk
  go_wp2_with (first
   | (go_at_call 49; go_must ((refine (ok_calls g k w h1).mono ?_; rintro e w1 ⟨rfl, ⟨m1, rfl⟩⟩))))
  go_ret
  simp only [numR, hk, if_false]
  exact ⟨rfl, HI.out, Stp.drewN (Stp.refl g HB.out) _⟩
end Go.Proofs.Ytaiakklflmhpmaa.K

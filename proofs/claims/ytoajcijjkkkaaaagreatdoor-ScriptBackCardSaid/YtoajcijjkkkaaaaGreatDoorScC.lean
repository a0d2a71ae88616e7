/- script's reader: must, byte, nibble, escaped, quoted, word. -/
import Derived.Test.YtoajcijjkkkaaaaGreatDoorKit
import Derived.Test.YtoajcijjkkkaaaaGreatDoorScB
import Derived.Test.YtoajcijjkkkaaaaGreatDoorLay
namespace Go.Proofs.YtoajcijjkkkaaaaGreatDoor.K
open Go.RowKit Go.Proofs.YtoajcijjkkkaaaaGreatDoorW.PrintWords Go.Proofs.YtoajcijjkkkaaaaGreatDoorW.PrintLast Go.Proofs.YtoajcijjkkkaaaaGreatDoorW.PrintMore
set_option linter.unusedVariables false
set_option linter.unusedSimpArgs false

/-- The panic of a wrong text. -/
abbrev Mal : Ending := .panicked [{ v := .iface 28 (.int .i64 4), recovered := false }]
theorem must_true (v : Value) (w : World) : Calls Tryz.prog 54 #[v, .bool true] w fun e w' => e = .returned (.tuple #[]) ∧ w = w' := by
  go_enter Tryz.func54, Tryz.ntmps54
  go_wp2
  go_end0
  exact ⟨rfl, rfl⟩
theorem must_false (v : Value) (w : World) : Calls Tryz.prog 54 #[v, .bool false] w fun e w' => e = Mal ∧ w = w' := by
  go_enter Tryz.func54, Tryz.ntmps54
  go_wp2
  exact ⟨rfl, rfl, rfl⟩

/-- A reader at block g, of the call's own, with the bytes l left. -/
def Rr (w0 w : World) (g : Nat) (l : Bs) : Prop :=
  ∃ s : ByteArray, w.heap[g]? = some (.cells #[.string s] 71 (0, 0)) ∧ s.data.toList = l ∧ w0.heap.size ≤ g ∧ Below w0.heap.size w0 w ∧ l.length ≤ 4294967280
/-- A reading that went wrong. -/
structure Wrong (w0 w : World) (g : Nat) (e : Ending) (w' : World) : Prop where
  mal : e = Mal
  below : Below w0.heap.size w0 w'
  keep : KeepBut w w' g none
theorem ba_size (s : ByteArray) : s.size = s.data.toList.length := by simp
theorem ba_empty {s : ByteArray} (h : s.data.toList = []) : s.toList.isEmpty = true := by rw [Lib.toList_data, h]; rfl
theorem ba_cons {s : ByteArray} {c : UInt8} {r : Bs} (h : s.data.toList = c :: r) : s.toList.isEmpty = false := by rw [Lib.toList_data, h]; rfl
theorem ba_head {s : ByteArray} {c : UInt8} {r : Bs} (h : s.data.toList = c :: r) : ∃ h0 : 0 < s.size, s[0] = c := by
  have hl : s.size = (c :: r).length := by rw [ba_size, h]
  refine ⟨by rw [hl]; simp, ?_⟩
  have : s.data[0]? = some c := by rw [← Array.getElem?_toList, h]; rfl
  have h2 := (Array.getElem?_eq_some_iff.1 this).2
  exact h2

set_option maxHeartbeats 400000 in
theorem byte_nil (w0 w : World) (g : Nat) (h : Rr w0 w g []) :
    Calls Tryz.prog 55 #[.pointer (some ⟨g, 0, none⟩)] w (Wrong w0 w g) := by
  obtain ⟨s, hk, hs, hg, hb, hl⟩ := h
  have h0 : w.cell? ⟨g, 0, none⟩ = some (.string s) := (blk_cell hk 0).trans rfl
  have e1 := ba_empty hs
  have HB := Aside0.mk hb
  clear hk hb hs hl
  go_enter Tryz.func55, Tryz.ntmps55
  go_wp2_with (go_at_call 54; (with_reducible refine (must_false _ _).mono ?_); rintro e w' ⟨rfl, rfl⟩)
  exact ⟨rfl, rfl, HB.out, KeepBut.refl _ _ _⟩
set_option maxHeartbeats 400000 in
theorem byte_cons (w0 w : World) (g : Nat) (c : UInt8) (r : Bs) (h : Rr w0 w g (c :: r)) :
    Calls Tryz.prog 55 #[.pointer (some ⟨g, 0, none⟩)] w fun e w' => e = .returned (.int .u8 c.toNat) ∧ Rr w0 w' g r ∧ KeepBut w w' g none := by
  obtain ⟨s, hk, hs, hg, hb, hl⟩ := h
  have h0 : w.cell? ⟨g, 0, none⟩ = some (.string s) := (blk_cell hk 0).trans rfl
  have f0 : w.frozen? ⟨g, 0, none⟩ = false := blk_frozen hk 0
  have e1 := ba_cons hs
  obtain ⟨hlt, e2⟩ := ba_head hs
  have e3 : (s.extract 1 s.size).data.toList = r := by rw [Lib.extract_to_end, hs]; rfl
  have hsz : (1 : Int) ≤ (s.size : Int) := by omega
  have HB := Aside0.mk hb
  have HK := Aside0.mk hk
  have HS := Aside0.mk hs
  have HL := Aside0.mk hl
  have HE := Aside0.mk e3
  clear hk hb hs hl e3
  go_enter Tryz.func55, Tryz.ntmps55
  go_wp2_with (go_at_call 54; (with_reducible refine (must_true _ _).mono ?_); rintro e w' ⟨rfl, rfl⟩)
  go_ret
  exact ⟨rfl, ⟨_, blk_set HK.out 0 _, HE.out, hg, HB.out.setCell hg _, by have := HL.out; simp only [List.length_cons] at this; omega⟩, (KeepBut.refl _ _ _).set_ 0 _⟩
theorem idx_nib_all : ∀ m : Fin 256, Lib.indexByte hexs (UInt8.ofNat m.val) = (match nib (UInt8.ofNat m.val) with | some n => (n : Int) | none => -1) := by decide +kernel
theorem idx_nib (c : UInt8) : Lib.indexByte hexs c = (match nib c with | some n => (n : Int) | none => -1) := by
  have h1 := idx_nib_all ⟨c.toNat, c.toNat_lt⟩
  simp only [u8_of] at h1
  exact h1
/-- strings.IndexByte in the digits. -/
theorem ixb_calls (c : UInt8) (v : Int) (h : Lib.indexByte hexs c = v) (w : World) :
    Calls Tryz.prog 71 #[.string ⟨#[48, 49, 50, 51, 52, 53, 54, 55, 56, 57, 97, 98, 99, 100, 101, 102]⟩, .int .u8 c.toNat] w fun e w' => e = .returned (.int .i64 v) ∧ w = w' := by
  refine (L.strings_IndexByte _ _ _).mono ?_
  rintro e w' ⟨rfl, rfl⟩
  refine ⟨?_, rfl⟩
  rw [Int.toNat_natCast]
  have e1 : c.toNat.toUInt8 = c := u8_of c
  rw [e1]
  exact congrArg (fun x => Ending.returned (.int .i64 x)) h
set_option maxHeartbeats 400000 in
theorem nibble_nil (w0 w : World) (g : Nat) (h : Rr w0 w g []) :
    Calls Tryz.prog 77 #[.pointer (some ⟨g, 0, none⟩)] w (Wrong w0 w g) := by
  have HR := Aside0.mk h
  clear h
  go_enter Tryz.func77, Tryz.ntmps77
  go_wp2_with (go_at_call 55; (with_reducible refine (byte_nil w0 w g HR.out).mono ?_); rintro e w' ⟨rfl, hb, hk⟩)
  exact ⟨rfl, rfl, hb, hk⟩
set_option maxHeartbeats 400000 in
theorem nibble_none (w0 w : World) (g : Nat) (c : UInt8) (r : Bs) (h : Rr w0 w g (c :: r)) (hn : nib c = none) :
    Calls Tryz.prog 77 #[.pointer (some ⟨g, 0, none⟩)] w (Wrong w0 w g) := by
  have HR := Aside0.mk h
  have hI := fun w => ixb_calls c (-1) (by rw [idx_nib, hn]) w
  clear h hn
  go_enter Tryz.func77, Tryz.ntmps77
  go_wp2_with (first
    | (go_at_call 55; (with_reducible refine (byte_cons w0 w g c r HR.out).mono ?_); rintro e w1 ⟨rfl, hr, hk⟩; have HR1 := Aside0.mk hr; have HK := Aside0.mk hk; clear hr hk)
    | (go_at_call 71; (with_reducible refine (hI _).mono ?_); rintro e w' ⟨rfl, rfl⟩)
    | (go_at_call 54; (with_reducible refine (must_false _ _).mono ?_); rintro e w' ⟨rfl, rfl⟩))
  obtain ⟨s, _, _, _, hb, _⟩ := HR1.out
  exact ⟨rfl, rfl, hb, HK.out⟩
set_option maxHeartbeats 400000 in
theorem nibble_some (w0 w : World) (g : Nat) (c : UInt8) (r : Bs) (n : Nat) (h : Rr w0 w g (c :: r)) (hn : nib c = some n) :
    Calls Tryz.prog 77 #[.pointer (some ⟨g, 0, none⟩)] w fun e w' => e = .returned (.int .u8 n) ∧ Rr w0 w' g r ∧ KeepBut w w' g none := by
  have HR := Aside0.mk h
  have hI := fun w => ixb_calls c n (by rw [idx_nib, hn]) w
  have hlt := (hexd_nib hn).1
  have h0 : (0 : Int) ≤ (n : Int) := by omega
  have h16 : (n : Int) < 16 := by omega
  clear h hn
  go_enter Tryz.func77, Tryz.ntmps77
  go_wp2_with (first
    | (go_at_call 55; (with_reducible refine (byte_cons w0 w g c r HR.out).mono ?_); rintro e w1 ⟨rfl, hr, hk⟩; have HR1 := Aside0.mk hr; have HK := Aside0.mk hk; clear hr hk)
    | (go_at_call 71; (with_reducible refine (hI _).mono ?_); rintro e w' ⟨rfl, rfl⟩)
    | (go_at_call 54; (with_reducible refine (must_true _ _).mono ?_); rintro e w' ⟨rfl, rfl⟩))
  go_ret
  exact ⟨rfl, HR1.out, HK.out⟩
end Go.Proofs.YtoajcijjkkkaaaaGreatDoor.K

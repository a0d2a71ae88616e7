/- script's reader: word, number, keep. -/
import Derived.Test.YtoajcijjkkkaaaaGreatDoorScE
import Derived.Lib.AppendIntMem
namespace Go.Proofs.YtoajcijjkkkaaaaGreatDoor.K
open Go.RowKit Go.Proofs.YtoajcijjkkkaaaaGreatDoorW.PrintWords Go.Proofs.YtoajcijjkkkaaaaGreatDoorW.PrintLast Go.Proofs.YtoajcijjkkkaaaaGreatDoorW.PrintMore
set_option linter.unusedVariables false
set_option linter.unusedSimpArgs false

theorem ba_eq {a : ByteArray} {l : Bs} (h : a.data.toList = l) : a = ⟨l.toArray⟩ := by
  subst h
  cases a
  simp
theorem ex_upto (s : ByteArray) (k : Nat) : (s.extract 0 k).data.toList = s.data.toList.take k := by simp
theorem idx_cases (l : Bs) (c : UInt8) : (Lib.indexByte l c = -1 ∧ l.takeWhile (fun x => x != c) = l ∧ l.dropWhile (fun x => x != c) = []) ∨
    ∃ k : Nat, k < l.length ∧ Lib.indexByte l c = k ∧ l.takeWhile (fun x => x != c) = l.take k ∧ l.dropWhile (fun x => x != c) = l.drop k := by
  induction l with
  | nil => exact .inl ⟨rfl, rfl, rfl⟩
  | cons a l ih =>
    by_cases h : a = c
    · subst h
      exact .inr ⟨0, by simp, by simp [Lib.indexByte], by simp, by simp⟩
    · rcases ih with ⟨h1, h2, h3⟩ | ⟨k, h0, h1, h2, h3⟩
      · exact .inl ⟨by simp [Lib.indexByte, h, h1], by simp [h, h2], by simp [h, h3]⟩
      · refine .inr ⟨k + 1, by simpa using h0, ?_, by simp [h, h2], by simp [h, h3]⟩
        have e : ((k : Int) == -1) = false := by rw [beq_eq_false_iff_ne]; omega
        simp [Lib.indexByte, h, h1]

set_option maxHeartbeats 400000 in
theorem word_calls (w0 w : World) (g : Nat) (l : Bs) (h : Rr w0 w g l) :
    Calls Tryz.prog 56 #[.pointer (some ⟨g, 0, none⟩)] w fun e w' => e = .returned (.string ⟨(upTo l).toArray⟩) ∧ Rr w0 w' g (onw l) ∧ KeepBut w w' g none := by
  obtain ⟨s, hk, hs, hg, hb, hl⟩ := h
  have h0 : w.cell? ⟨g, 0, none⟩ = some (.string s) := (blk_cell hk 0).trans rfl
  have f0 : w.frozen? ⟨g, 0, none⟩ = false := blk_frozen hk 0
  have hsz : s.size = l.length := by rw [ba_size, hs]
  have HB := Aside0.mk hb
  have HK := Aside0.mk hk
  have hix : ∀ v, Lib.indexByte l 32 = v → ∀ w, Calls Tryz.prog 71 #[.string s, .int .u8 32] w fun e w' => e = .returned (.int .i64 v) ∧ w = w' := by
    intro v hv w
    refine (L.strings_IndexByte s 32 w).mono ?_
    rintro e w' ⟨rfl, rfl⟩
    rw [hs]
    exact ⟨congrArg (fun x => Ending.returned (.int .i64 x)) hv, rfl⟩
  rcases idx_cases l 32 with ⟨h1, h2, h3⟩ | ⟨k, hkl, h1, h2, h3⟩
  · have hI := hix _ h1
    have e1 : s = ⟨(upTo l).toArray⟩ := ba_eq (by rw [hs]; unfold upTo; exact h2.symm)
    have e2 : ByteArray.empty.data.toList = onw l := by unfold onw; rw [h3]; rfl
    have E1 := Aside0.mk e1
    have E2 := Aside0.mk e2
    have HL : Aside0 ((onw l).length ≤ 4294967280) := ⟨by unfold onw; rw [h3]; simp⟩
    have hz : (s.size : Int) ≤ 4294967280 := by omega
    clear hk hb hs hl hix h1 h2 h3 e1 e2 hsz
    go_enter Tryz.func56, Tryz.ntmps56
    go_wp2_with (go_at_call 71; (with_reducible refine (hI _).mono ?_); rintro e w' ⟨rfl, rfl⟩)
    go_ret
    exact ⟨congrArg (fun x => Ending.returned (.string x)) E1.out, ⟨_, blk_set HK.out 0 _, E2.out, hg, HB.out.setCell hg _, HL.out⟩, (KeepBut.refl _ _ _).set_ 0 _⟩
  · have hI := hix _ h1
    have e1 : s.extract 0 k = ⟨(upTo l).toArray⟩ := ba_eq (by rw [ex_upto, hs]; unfold upTo; rw [h2])
    have e2 : (s.extract k s.size).data.toList = onw l := by rw [Lib.extract_to_end, hs]; unfold onw; exact h3.symm
    have E1 := Aside0.mk e1
    have E2 := Aside0.mk e2
    have HL : Aside0 ((onw l).length ≤ 4294967280) := ⟨by unfold onw; rw [h3, List.length_drop]; omega⟩
    have hz : (s.size : Int) ≤ 4294967280 := by omega
    have hk0 : (0 : Int) ≤ (k : Int) := by omega
    have hk1 : (k : Int) ≤ (s.size : Int) := by omega
    have hk2 : ¬ (k : Int) < 0 := by omega
    clear hk hb hs hl hix h1 h2 h3 e1 e2 hsz hkl
    go_enter Tryz.func56, Tryz.ntmps56
    go_wp2_with (go_at_call 71; (with_reducible refine (hI _).mono ?_); rintro e w' ⟨rfl, rfl⟩)
    go_ret
    exact ⟨by rw [← E1.out]; rfl, ⟨_, blk_set HK.out 0 _, E2.out, hg, HB.out.setCell hg _, HL.out⟩, (KeepBut.refl _ _ _).set_ 0 _⟩

theorem var_below {P : Program} {w w' : World} {n : String} {cs : Array Value} (h : w.var? P n = some cs) (hb : Below w.heap.size w w') : w'.var? P n = some cs := by
  unfold World.var? at h ⊢
  cases hg : P.globalNamed n with
  | none => rw [hg] at h; exact absurd h (by simp)
  | some g =>
    rw [hg] at h
    simp only [Option.bind_some] at h ⊢
    cases hk : w.heap[g]? with
    | none => rw [hk] at h; exact absurd h (by simp)
    | some o =>
      rw [hk] at h
      rw [hb.block g (blk_lt hk), hk]
      exact h
/-- What the library's variables hold. -/
structure Tb (w : World) : Prop where
  pow : Lib.TabIs Tryz.prog w "internal/strconv.uint64pow10" .u64 Lib.pow10Tab
  sp : Lib.TabIs Tryz.prog w "strings.asciiSpace" .u8 Lib.asciiSpaceTab
  syn : ∃ tp p, w.var? Tryz.prog "strconv.ErrSyntax" = some #[.iface tp p]
  rng : ∃ tp p, w.var? Tryz.prog "strconv.ErrRange" = some #[.iface tp p]
  max : ∃ m, w.cell? ⟨1, 0, none⟩ = some (.int .i64 m)
theorem Tb.below {w w' : World} (h : Tb w) (hb : Below w.heap.size w w') : Tb w' := by
  obtain ⟨h1, h2, ⟨a, b, h3⟩, ⟨c, d, h4⟩, ⟨m, h5⟩⟩ := h
  exact ⟨var_below h1 hb, var_below h2 hb, ⟨a, b, var_below h3 hb⟩, ⟨c, d, var_below h4 hb⟩, ⟨m, pw_cell_below hb h5⟩⟩

end Go.Proofs.YtoajcijjkkkaaaaGreatDoor.K

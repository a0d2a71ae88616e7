/- script's words, step, number; and Right's closure. -/
import Derived.Test.YtoajcijjkkkaaaaGreatDoorScH
namespace Go.Proofs.YtoajcijjkkkaaaaGreatDoor.K
open Go.RowKit Go.Proofs.YtoajcijjkkkaaaaGreatDoorW.PrintWords Go.Proofs.YtoajcijjkkkaaaaGreatDoorW.PrintLast Go.Proofs.YtoajcijjkkkaaaaGreatDoorW.PrintMore
set_option linter.unusedVariables false
set_option linter.unusedSimpArgs false

/-- The words with their arguments. -/
def tabL : List Bs := tab.map (fun p => p.1 ++ 58 :: p.2)
def WordsAt (w : World) (b : Nat) : Prop := ∀ j, j < 19 → w.cell? ⟨b, j, none⟩ = some (.string ⟨(tabL.getD j []).toArray⟩)
theorem WordsAt.on {w w' : World} {b : Nat} (h : WordsAt w b) (hb : Below w.heap.size w w') : WordsAt w' b := fun j hj => pw_cell_below hb (h j hj)
def WPost (w : World) (e : Ending) (w' : World) : Prop := e = .returned (.slice (some ⟨w.heap.size, 0, none⟩) 19 19) ∧ WordsAt w' w.heap.size ∧ Below w.heap.size w w'

theorem fields_calls (s : ByteArray) (h1 : s.size < 4294967281) (h2 : s.data.toList.all (fun b => decide (b.toNat < 128)) = true) (h3 : Lib.fields s.data.toList = tabL) (w : World) (hT : Lib.TabIs Tryz.prog w "strings.asciiSpace" .u8 Lib.asciiSpaceTab) :
    Calls Tryz.prog 66 #[.string s] w (WPost w) := by
  refine (L.strings_Fields_laid s w h1 (fun j b hj => ?_) hT).mono ?_
  · have := List.all_eq_true.1 h2 b (List.mem_of_getElem? hj)
    exact of_decide_eq_true this
  · rintro e w' ⟨rfl, rfl⟩
    rw [h3]
    refine ⟨rfl, fun j hj => ?_, below_alloc (Below.refl _ _) _⟩
    have hl : tabL.length = 19 := rfl
    have e : (w.alloc (.cells (List.map (fun l => Value.string ⟨l.toArray⟩) tabL).toArray 9)).cell? ⟨w.heap.size, j, none⟩ = (List.map (fun l => Value.string ⟨l.toArray⟩) tabL)[j]? := by
      simp [World.cell?, World.alloc, -World.alloc_eq]
    rw [e, List.getElem?_map, List.getElem?_eq_getElem (by omega)]
    simp [List.getD_eq_getElem?_getD, List.getElem?_eq_getElem (show j < tabL.length by omega)]
theorem words_calls (w0 w : World) (hT : Tb w0) (hb : Below w0.heap.size w0 w) :
    Calls Tryz.prog 47 #[] w (WPost w) := by
  have HT := Aside0.mk (hT.below hb).sp
  clear hT hb
  go_enter Tryz.func47, Tryz.ntmps47
  go_wp2_with (go_at_call 66; (with_reducible refine (fields_calls _ (by decide +kernel) (by decide +kernel) (by decide +kernel) w HT.out).mono ?_); rintro e w1 ⟨rfl, h1, h2⟩; have H1 := Aside0.mk h1; have H2 := Aside0.mk h2; clear h1 h2)
  go_ret
  exact ⟨rfl, H1.out, H2.out⟩

theorem cut_all : ∀ i : Fin 19, Lib.cut (tabL.getD i.val []) [58] = ((tab.getD i.val ([], [])).1, (tab.getD i.val ([], [])).2, true) := by decide +kernel
theorem cut_tab {d : Int} (h0 : 0 ≤ d) (h1 : d < 19) : Lib.cut (tabL.getD d.toNat []) [58] = (wordOf d, argsOf d, true) := by
  have h := cut_all ⟨d.toNat, by omega⟩
  unfold wordOf argsOf
  rw [if_pos ⟨h0, h1⟩, if_pos ⟨h0, h1⟩]
  exact h
theorem tabL_len : ∀ i : Fin 19, (tabL.getD i.val []).length < 100 := by decide +kernel
theorem cutd_calls (d : Int) (h0 : 0 ≤ d) (h1 : d < 19) (w0 w : World) (hT : Tb w0) (hb : Below w0.heap.size w0 w) :
    Calls Tryz.prog 48 #[.string ⟨(tabL.getD d.toNat []).toArray⟩, .string ⟨#[58]⟩] w fun e w' => e = .returned (.tuple #[.string ⟨(wordOf d).toArray⟩, .string ⟨(argsOf d).toArray⟩, .bool true]) ∧ Below w.heap.size w w' := by
  obtain ⟨m, hm⟩ := (hT.below hb).max
  have hl := tabL_len ⟨d.toNat, by omega⟩
  refine (L.strings_Cut _ _ m w (by rw [ba_size]; exact Nat.lt_trans hl (by decide)) hm).mono ?_
  rintro e w' ⟨rfl, n, rfl⟩
  have hc := cut_tab h0 h1
  refine ⟨?_, pw_below_drewN (Below.refl _ _) n⟩
  show Ending.returned (.tuple #[.string ⟨(Lib.cut (tabL.getD d.toNat []) [58]).1.toArray⟩, .string ⟨(Lib.cut (tabL.getD d.toNat []) [58]).2.1.toArray⟩, .bool (Lib.cut (tabL.getD d.toNat []) [58]).2.2]) = _
  rw [hc]
theorem out_word {d : Int} (h : ¬ (0 ≤ d ∧ d < 19)) : wordOf d = [] ∧ argsOf d = [] := by
  unfold wordOf argsOf
  rw [if_neg h, if_neg h]
  exact ⟨rfl, rfl⟩
theorem step_calls (d : Int) (w0 w : World) (hT : Tb w0) (hb : Below w0.heap.size w0 w) :
    Calls Tryz.prog 23 #[.int .i64 d] w fun e w' => e = .returned (.tuple #[.string ⟨(wordOf d).toArray⟩, .string ⟨(argsOf d).toArray⟩]) ∧ Below w.heap.size w w' := by
  have HT := Aside0.mk hT
  have HB := Aside0.mk hb
  have HW := words_calls w0 w hT hb
  clear hT hb
  by_cases h0 : d < 0
  · have hd : decide (d < 0) = true := decide_eq_true h0
    obtain ⟨e1, e2⟩ := out_word (d := d) (by omega)
    rw [e1, e2]
    clear e1 e2
    go_enter Tryz.func23, Tryz.ntmps23
    go_wp2_with (go_at_call 47; (with_reducible refine HW.mono ?_); rintro e w1 ⟨rfl, h1, h2⟩; have H1 := Aside0.mk h1; have H2 := Aside0.mk h2; clear h1 h2)
    go_ret2
    exact ⟨rfl, H2.out⟩
  · by_cases h1 : d < 19
    · have hc := fun w1 hb1 => cutd_calls d (by omega) h1 w0 w1 HT.out hb1
      have hd0 : (0 : Int) ≤ d := by omega
      have hx : d.toNat < 19 := by omega
      obtain ⟨tl, htl⟩ : ∃ tl, tabL.getD d.toNat [] = tl := ⟨_, rfl⟩
      have hwa : ∀ w b, WordsAt w b → w.cell? ⟨b, d.toNat, none⟩ = some (.string ⟨tl.toArray⟩) := fun w b h => by rw [← htl]; exact h _ hx
      rw [htl] at hc
      have HWA := Aside0.mk hwa
      have HC := Aside0.mk hc
      clear htl hwa hc
      go_enter Tryz.func23, Tryz.ntmps23
      go_wp2_with (first
        | (go_at_call 47; (with_reducible refine HW.mono ?_); rintro e w1 ⟨rfl, h1, h2⟩; have hcell := HWA.out _ _ h1; have H2 := Aside0.mk h2; clear h1 h2)
        | (go_at_call 48; (with_reducible refine (HC.out _ (HB.out.trans (H2.out.mono HB.out.size))).mono ?_); rintro e w2 ⟨rfl, h3⟩; have H3 := Aside0.mk h3; clear h3))
      go_ret2
      exact ⟨rfl, H2.out.trans (H3.out.mono H2.out.size)⟩
    · have hd : decide (d < 0) = false := decide_eq_false h0
      have hd2 : decide (19 ≤ d) = true := decide_eq_true (by omega)
      obtain ⟨e1, e2⟩ := out_word (d := d) (by omega)
      rw [e1, e2]
      clear e1 e2
      go_enter Tryz.func23, Tryz.ntmps23
      go_wp2_with (go_at_call 47; (with_reducible refine HW.mono ?_); rintro e w1 ⟨rfl, h1, h2⟩; have H1 := Aside0.mk h1; have H2 := Aside0.mk h2; clear h1 h2)
      go_ret2
      exact ⟨rfl, H2.out⟩

theorem num_calls (n : Int) (b : Bool) (w : World) : Calls Tryz.prog 39 #[.int .i64 n, .bool b] w fun e w' => e = .returned (.bool (numOk n b)) ∧ w' = w := by
  unfold numOk
  by_cases h0 : n = 0
  · subst h0
    go_enter Tryz.func39, Tryz.ntmps39
    go_wp2
    go_ret
    exact ⟨rfl, rfl⟩
  · have e0 : (n == 0) = false := beq_eq_false_iff_ne.2 h0
    rw [e0, Bool.false_or]
    cases b
    · go_enter Tryz.func39, Tryz.ntmps39
      go_wp2
      go_ret
      exact ⟨rfl, rfl⟩
    · by_cases h1 : 0 < n
      · have d1 : decide (0 < n) = true := decide_eq_true h1
        go_enter Tryz.func39, Tryz.ntmps39
        go_wp2
        go_ret
        exact ⟨by rw [d1]; rfl, rfl⟩
      · have d1 : decide (0 < n) = false := decide_eq_false h1
        go_enter Tryz.func39, Tryz.ntmps39
        go_wp2
        go_ret
        exact ⟨rfl, rfl⟩
theorem one_has (l : Bs) (c : UInt8) : decide (0 ≤ Lib.indexByte l c) = l.contains c := by
  rcases idx_cases l c with ⟨h1, h2, h3⟩ | ⟨k, hk, h1, h2, h3⟩
  · rw [h1]
    have : ¬ c ∈ l := by
      intro hc
      rw [← h2] at hc
      have := List.all_eq_true.1 (List.all_takeWhile (p := fun x => x != c) (l := l)) c hc
      simp at this
    simp [this]
  · rw [h1]
    have hm : c ∈ l := by
      have h4 := List.head?_dropWhile_not (fun x => x != c) l
      rw [h3] at h4
      have h5 : (l.drop k).head? = some l[k] := by rw [List.head?_drop, List.getElem?_eq_getElem hk]
      rw [h5] at h4
      simp only at h4
      have : l[k] = c := by simpa using h4
      rw [← this]
      exact List.getElem_mem hk
    simp [hm]
theorem has_calls (b : Nat) (A : Bs) (c : UInt8) (w : World) (h : w.cell? ⟨b, 0, none⟩ = some (.string ⟨A.toArray⟩)) :
    Calls Tryz.prog 37 #[.string ⟨#[c]⟩, .pointer (some ⟨b, 0, none⟩)] w fun e w' => e = .returned (.bool (A.contains c)) ∧ w' = w := by
  obtain ⟨hv, hhv⟩ : ∃ hv, A.contains c = hv := ⟨_, rfl⟩
  rw [hhv]
  have hc : Calls Tryz.prog 38 #[.string ⟨A.toArray⟩, .string ⟨#[c]⟩] w fun e w' => e = .returned (.bool hv) ∧ w = w' := by
    refine (L.strings_Contains_one _ c w).mono ?_
    rintro e w' ⟨rfl, rfl⟩
    exact ⟨by rw [← hhv, ← one_has A c], rfl⟩
  clear hhv
  go_enter Tryz.func37, Tryz.ntmps37
  go_wp2_with (go_at_call 38; (with_reducible refine hc.mono ?_); rintro e w1 ⟨rfl, rfl⟩)
  go_ret
  exact ⟨rfl, rfl⟩
end Go.Proofs.YtoajcijjkkkaaaaGreatDoor.K

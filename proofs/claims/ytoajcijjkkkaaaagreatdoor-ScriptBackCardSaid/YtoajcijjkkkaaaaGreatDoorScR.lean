/- script's whole: the kind that a word names; what comes ahead of the arguments. -/
import Derived.Test.YtoajcijjkkkaaaaGreatDoorScQ
import Derived.Test.YtoajcijjkkkaaaaGreatDoorScO
namespace Go.Proofs.YtoajcijjkkkaaaaGreatDoor.K
open Go.RowKit Go.Proofs.YtoajcijjkkkaaaaGreatDoorW.PrintWords Go.Proofs.YtoajcijjkkkaaaaGreatDoorW.PrintLast Go.Proofs.YtoajcijjkkkaaaaGreatDoorW.PrintMore
set_option linter.unusedVariables false
set_option linter.unusedSimpArgs false

theorem idxBy_find {α : Type} (p : α → Bool) (d : α) (l : List α) : Lib.idxBy (fun _ y => p y) l d = (match l.findIdx? p with | some i => (i : Int) | none => -1) := by
  have key : ∀ (l : List α) (k : Nat), Lib.idxByFrom (fun _ y => p y) d l k = (match l.findIdx? p with | some i => ((i + k : Nat) : Int) | none => -1) := by
    intro l
    induction l with
    | nil => intro k; rfl
    | cons a l ih =>
      intro k
      rw [Lib.idxByFrom, List.findIdx?_cons]
      cases h : p a
      · simp only [Bool.false_eq_true, if_false]
        rw [ih (k + 1)]
        cases l.findIdx? p with
        | none => rfl
        | some i => simp only [Option.map_some]; congr 1; omega
      · simp
  rw [Lib.idxBy, key l 0]
  cases l.findIdx? p <;> rfl
theorem idx_kind (u : Bs) : Lib.idxBy (fun _ y => (u ++ [58]).isPrefixOf y) (tabL.take 19) default = kindOf u := by
  rw [idxBy_find]
  have e : tabL.take 19 = tab.map (fun p => p.1 ++ 58 :: p.2) := rfl
  rw [e, List.findIdx?_map]
  rfl
set_option maxHeartbeats 1000000 in
theorem pre_calls (x u : Bs) (hu : u.length ≤ 4294967280) (b : Nat) (w : World) (h : w.cell? ⟨b, 0, none⟩ = some (.string ⟨u.toArray⟩)) :
    Calls Tryz.prog 58 #[.string ⟨x.toArray⟩, .pointer (some ⟨b, 0, none⟩)] w fun e w' => e = .returned (.bool ((u ++ [58]).isPrefixOf x)) ∧ ∃ q, w' = w.drewN q := by
  have hp : Calls Tryz.prog 44 #[.string ⟨x.toArray⟩, .string (⟨u.toArray⟩ ++ ⟨#[58]⟩)] w fun e w' => e = .returned (.bool ((u ++ [58]).isPrefixOf x)) ∧ w = w' := by
    refine (L.strings_HasPrefix _ _ w).mono ?_
    rintro e w' ⟨rfl, rfl⟩
    refine ⟨?_, rfl⟩
    have e1 : ((⟨u.toArray⟩ : ByteArray) ++ (⟨#[58]⟩ : ByteArray)).data.toList = u ++ [58] := by simp
    rw [e1]
    rfl
  obtain ⟨r, hr⟩ : ∃ r, (u ++ [58]).isPrefixOf x = r := ⟨_, rfl⟩
  rw [hr] at hp ⊢
  obtain ⟨uB, huB⟩ : ∃ uB : ByteArray, (⟨u.toArray⟩ : ByteArray) = uB := ⟨_, rfl⟩
  have hus : uB.size ≤ 4294967280 := by rw [ba_size, ← huB]; exact hu
  rw [huB] at hp h
  have hs1 : (9223372036854775807 < uB.size + 1) = False := eq_false (by omega)
  clear hr huB hu
  go_enter Tryz.func58, Tryz.ntmps58
  go_wp2_with (go_at_call 44; (with_reducible refine hp.mono ?_); rintro e w1 ⟨rfl, rfl⟩)
  go_ret
  exact ⟨rfl, 0, rfl⟩
theorem idxf_calls (u : Bs) (hu : u.length ≤ 4294967280) (b bw : Nat) (w : World) (hw : WordsAt w b) (h : w.cell? ⟨bw, 0, none⟩ = some (.string ⟨u.toArray⟩)) :
    Calls Tryz.prog 57 #[.slice (some ⟨b, 0, none⟩) 19 19, .func (.func 58) #[] #[.pointer (some ⟨bw, 0, none⟩)]] w fun e w' => e = .returned (.int .i64 (kindOf u)) ∧ Below w.heap.size w w' := by
  refine (L.slices_IndexFunc (α := Bs) (fun l => .string ⟨l.toArray⟩) (fun l => (u ++ [58]).isPrefixOf l) 58 #[.pointer (some ⟨bw, 0, none⟩)] (enters_of Tryz.func58 (by kernel_rfl) rfl) b 0 19 19 tabL w ?_ (by decide) (by decide) ?_).mono ?_
  · intro W x hb
    exact pre_calls x u hu bw W (pw_cell_below hb h)
  · intro j hj
    have hl : tabL.length = 19 := rfl
    have := hw j (by omega)
    rw [Nat.zero_add, this]
    simp [List.getD_eq_getElem?_getD, List.getElem!_eq_getElem?_getD]
    rfl
  · rintro e w' ⟨rfl, q, rfl⟩
    rw [idx_kind]
    exact ⟨rfl, pw_below_drewN (Below.refl _ _) q⟩
end Go.Proofs.YtoajcijjkkkaaaaGreatDoor.K

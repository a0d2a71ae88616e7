/- A slice of byte slices that came in; what waits for whom, in plain Lean. -/
import Derived.Test.YtlcifnejpejhmaaRelH
import Derived.Test.YtlcifnejpejhmaaOpen
namespace Go.Proofs.Ytlcifnejpejhmaa.K
open Go.RowKit Go.Proofs.YtlcifnejpejhmaaW.PrintWords Go.Proofs.YtlcifnejpejhmaaW.PrintLast Go.Proofs.YtlcifnejpejhmaaW.PrintMore
set_option linter.unusedVariables false
set_option linter.unusedSimpArgs false

section
open Go.ChangeShapes Go.WideShapes Go.ChangeAt Go.Deep
variable {H : Type} {enc : TypeId × Value → H} {w : World} {base : Nat} {spare : Nat → Bool} {held : Bool}
theorem open_bytess {d : DataW H} {p : List MemPlace} {a0 : Option Addr} {len0 cap0 : Nat} (h : DataW.Trod enc Try.prog w base spare held 41 (.slice a0 len0 cap0) d p) :
    ∃ ls : List (List Int), len0 = ls.length ∧ ls.length ≤ cap0 ∧ Kd.C BK w a0 ls.length ls := by
  obtain ⟨fuel, hf⟩ := h
  rcases open_slice Try.underlying41 hf with ⟨hcs, _⟩ | ⟨a, len, cap, m, n, D, Pl, hcs, hb, hl, hm, hmm, hx, hi⟩
  · simp [Value.cells] at hcs
    obtain ⟨rfl, rfl, rfl⟩ := hcs
    exact ⟨[], rfl, Nat.le_refl _, Kd.C_nil _ _⟩
  · simp [Value.cells] at hcs
    obtain ⟨rfl, rfl, rfl⟩ := hcs
    have H1 : ∀ i, ∃ l : List Int, i < len0 → ∃ v, w.cell? (a.add i) = some v ∧ Rd w v l := by
      intro i
      by_cases hlt : i < len0
      · have hm' : i < m := by rw [hmm]; split <;> omega
        obtain ⟨cs', hc, ht'⟩ := hi i hm'
        rw [show Try.prog.cellsOf 45 = 1 by kernel_rfl, Nat.mul_one] at hc
        obtain ⟨_, hcl, hat⟩ := World.cells?_some hc
        have hcell := hat 0 (by omega)
        have e0 : (a.add i).add 0 = a.add i := by simp [Addr.add]
        rw [e0] at hcell
        rcases open_ints Try.underlying45 Try.underlying5 (by kernel_rfl) ht' with ⟨rfl, _⟩ | ⟨b, len, cap, zs, rfl, _, h1, h2, hz, _, hcells, hwz⟩
        · exact ⟨[], fun _ => ⟨_, hcell, Rd.nil _⟩⟩
        · have hz' : zs.length = cap ∨ zs.length = len := by
            rw [hz]
            split <;> simp
          rcases hz' with hz' | hz'
          · obtain ⟨l, hr, _⟩ := rd_of_row (w := w) (a := some b) (len := len) (cap := cap) (zs := zs) (.inr ⟨b, rfl, h1, h2, hz', hcells, hwz⟩)
            exact ⟨l, fun _ => ⟨_, hcell, hr⟩⟩
          · obtain ⟨l, hr, _⟩ := rd_of_row (w := w) (a := some b) (len := len) (cap := len) (zs := zs) (.inr ⟨b, rfl, Nat.le_refl _, Nat.le_trans h1 h2, hz', hcells, hwz⟩)
            obtain ⟨A', c', he, hc1, hC1⟩ := hr
            injection he with e1 e2 e3
            subst e1
            refine ⟨l, fun _ => ⟨_, hcell, ?_⟩⟩
            rw [e2] at h1 ⊢
            exact ⟨_, _, rfl, h1, hC1⟩
      · exact ⟨[], fun h => absurd h hlt⟩
    obtain ⟨f, hf⟩ := Classical.axiomOfChoice H1
    refine ⟨(List.range len0).map f, by simp, by simpa using hl, ⟨rfl, ?_, fun hp => ⟨a, rfl, fun j q hj => ?_⟩⟩⟩
    · simp [maxLen] at hm ⊢
      omega
    · have hjl : j < len0 := by
        have := (List.getElem?_eq_some_iff.1 hj).1
        simpa using this
      rw [List.getElem?_map, List.getElem?_range hjl] at hj
      simp at hj
      subst hj
      obtain ⟨v, hv, A, c, rfl, hc, hC⟩ := hf j hjl
      refine ⟨[.slice A (f j).length c], rfl, ⟨A, c, rfl, hc, hC⟩, fun i u hu => ?_⟩
      match i, hu with
      | 0, hu =>
        simp at hu
        subst hu
        rw [show BK.sz = 1 from rfl, Nat.mul_one, Nat.add_zero]
        exact hv
end

/-- What of (bytes, who) waits for j. -/
def fQ (zs : List (List Int × Nat)) (j : Nat) : List It := (zs.filter (fun z => z.2 != j)).map (fun z => ⟨z.1, false⟩)
def fV (zs : List (List Int × Nat)) : List It := zs.map (fun z => ⟨z.1, false⟩)
/-- All queues, behind n readers; the first w have taken theirs. -/
def qsOf (n w : Nat) (zs : List (List Int × Nat)) : List (List It) := (List.range n).map (fun j => if j < w then [] else fQ zs j)
theorem qsOf_len (n w : Nat) (zs : List (List Int × Nat)) : (qsOf n w zs).length = n := by simp [qsOf]
theorem qsOf_get (n w : Nat) (zs : List (List Int × Nat)) (j : Nat) (h : j < (qsOf n w zs).length) : (qsOf n w zs)[j] = if j < w then [] else fQ zs j := by simp [qsOf]
theorem fQ_snoc (zs : List (List Int × Nat)) (z : List Int × Nat) (j : Nat) : fQ (zs ++ [z]) j = if z.2 ≠ j then fQ zs j ++ [⟨z.1, false⟩] else fQ zs j := by
  unfold fQ
  rw [List.filter_append, List.map_append]
  by_cases h : z.2 = j
  · simp [h]
  · simp [h]
theorem fQ_cons (z : List Int × Nat) (zs : List (List Int × Nat)) (j : Nat) : fQ (z :: zs) j = if z.2 ≠ j then ⟨z.1, false⟩ :: fQ zs j else fQ zs j := by
  unfold fQ
  by_cases h : z.2 = j
  · simp [h]
  · simp [h]
theorem fQ_len (zs : List (List Int × Nat)) (j : Nat) : (fQ zs j).length ≤ zs.length := by
  unfold fQ
  rw [List.length_map]
  exact List.length_filter_le _ _
theorem qsOf_zero (n : Nat) : qsOf n 0 [] = List.replicate n [] := by
  apply List.ext_getElem (by simp [qsOf])
  intro j h1 h2
  rw [qsOf_get]
  simp [fQ]
theorem qsOf_put (n : Nat) (zs : List (List Int × Nat)) (z : List Int × Nat) : putTo (qsOf n 0 zs).length z.2 ⟨z.1, false⟩ (qsOf n 0 zs) = qsOf n 0 (zs ++ [z]) := by
  apply List.ext_getElem (by rw [putTo_len, qsOf_len, qsOf_len])
  intro j h1 h2
  have h3 : j < (qsOf n 0 zs).length := by rwa [putTo_len] at h1
  rw [putTo_get _ _ _ _ _ h1 h3, qsOf_get, qsOf_get]
  have hz : ¬ j < 0 := by omega
  simp only [hz, if_false, fQ_snoc]
  by_cases h : z.2 = j
  · have h' : ¬ (j < (qsOf n 0 zs).length ∧ j ≠ z.2) := fun h4 => h4.2 h.symm
    rw [if_neg h', if_neg (fun h2 => h2 h)]
  · have h' : j < (qsOf n 0 zs).length ∧ j ≠ z.2 := ⟨h3, fun e => h e.symm⟩
    rw [if_pos h', if_pos h]
theorem qsOf_done (n w : Nat) (zs : List (List Int × Nat)) : (qsOf n w zs).set w [] = qsOf n (w + 1) zs := by
  apply List.ext_getElem (by rw [List.length_set, qsOf_len, qsOf_len])
  intro j h1 h2
  rw [qsOf_get]
  by_cases hj : j = w
  · subst hj
    rw [List.getElem_set_self, if_pos (by omega)]
  · rw [List.getElem_set_ne (Ne.symm hj), qsOf_get]
    by_cases h : j < w
    · rw [if_pos h, if_pos (by omega)]
    · rw [if_neg h, if_neg (by omega)]
end Go.Proofs.Ytlcifnejpejhmaa.K

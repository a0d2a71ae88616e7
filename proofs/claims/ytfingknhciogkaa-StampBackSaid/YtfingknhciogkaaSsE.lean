/- slices.Compact of stamps. -/
import Derived.Test.YtfingknhciogkaaSsD
namespace Go.Proofs.Ytfingknhciogkaa.K
open Go.RowKit Go.Sort Go.Shelf Go.Proofs.YtfingknhciogkaaW.PrintWords Go.Proofs.YtfingknhciogkaaW.PrintLast Go.Proofs.YtfingknhciogkaaW.PrintMore
set_option linter.unusedVariables false
set_option linter.unusedSimpArgs false

open Classical in
noncomputable def ddF (acc : List St) (x : St) : List St := if acc.getLast? = some x then acc else acc ++ [x]
/-- Runs of equals made one. -/
noncomputable def dd (l : List St) : List St := l.foldl ddF []
theorem dd_last (l : List St) : (dd l).getLast? = l.getLast? := by
  rcases List.eq_nil_or_concat l with rfl | ⟨r, x, rfl⟩
  · rfl
  · rw [List.concat_eq_append, dd, List.foldl_append]
    simp only [List.foldl_cons, List.foldl_nil, ddF]
    split
    · rename_i h
      rw [h]
      simp
    · simp
theorem dd_snoc (l : List St) (x : St) (h : l.getLast? = some x) : dd (l ++ [x]) = dd l := by
  have h2 := dd_last l
  rw [h] at h2
  rw [dd, List.foldl_append]
  simp only [List.foldl_cons, List.foldl_nil]
  show ddF (dd l) x = dd l
  unfold ddF
  rw [if_pos h2]
theorem dd_snoc' (l : List St) (x : St) (h : l.getLast? ≠ some x) : dd (l ++ [x]) = dd l ++ [x] := by
  have h2 := dd_last l
  rw [dd, List.foldl_append]
  simp only [List.foldl_cons, List.foldl_nil]
  show ddF (dd l) x = dd l ++ [x]
  unfold ddF
  rw [if_neg (by rw [h2]; exact h)]
theorem take_last {zs : List St} {k : Nat} {x : St} (h : zs[k]? = some x) : (zs.take (k + 1)).getLast? = some x := by
  rw [take_next h]
  simp
def Cl (cur : Array Value) (j : Nat) (x : St) : Prop := cur[j * 2]? = some (.int .i64 x.f0) ∧ cur[j * 2 + 1]? = some (.int .i64 x.f1)
/-- What Compact's block holds while it is at work: the list l, and from m on what it held. -/
def Cw (W : World) (b cap m : Nat) (l zs : List St) : Prop := zs.length ≤ cap ∧ cap ≤ maxLen ∧ ∃ cur : Array Value, W.heap[b]? = some (.cells cur 23 (0, 0)) ∧ cur.size = cap * 2 ∧ (∀ j x, l[j]? = some x → Cl cur j x) ∧ ∀ j x, m ≤ j → zs[j]? = some x → Cl cur j x
theorem Cw.cell {W : World} {b cap m : Nat} {l zs : List St} (h : Cw W b cap m l zs) (j : Nat) (x : St) (hm : m ≤ j) (hx : zs[j]? = some x) : W.cell? ⟨b, j * 2, none⟩ = some (.int .i64 x.f0) ∧ W.cell? ⟨b, j * 2 + 1, none⟩ = some (.int .i64 x.f1) := by
  obtain ⟨_, _, cur, hb, hs, _, hc⟩ := h
  obtain ⟨f0, f1⟩ := hc j x hm hx
  exact ⟨(blk_cell hb _).trans f0, (blk_cell hb _).trans f1⟩
theorem Cw.drewN {W : World} {b cap m : Nat} {l zs : List St} (h : Cw W b cap m l zs) (k : Nat) : Cw (W.drewN k) b cap m l zs := h
theorem Cl.set {cur : Array Value} {i : Nat} (hi : i * 2 + 1 < cur.size) (x : St) : Cl ((cur.setIfInBounds (i * 2) (.int .i64 x.f0)).setIfInBounds (i * 2 + 1) (.int .i64 x.f1)) i x := by
  constructor
  · rw [Array.getElem?_setIfInBounds_ne (by omega), Array.getElem?_setIfInBounds_self_of_lt (by omega)]
  · rw [Array.getElem?_setIfInBounds_self_of_lt (by simpa using hi)]
theorem Cl.far {cur : Array Value} {i j : Nat} {y : St} (h : Cl cur j y) (hij : j ≠ i) (u v : Value) : Cl ((cur.setIfInBounds (i * 2) u).setIfInBounds (i * 2 + 1) v) j y := by
  constructor
  · rw [Array.getElem?_setIfInBounds_ne (by omega), Array.getElem?_setIfInBounds_ne (by omega)]
    exact h.1
  · rw [Array.getElem?_setIfInBounds_ne (by omega), Array.getElem?_setIfInBounds_ne (by omega)]
    exact h.2
/-- A stamp is laid behind l. -/
theorem Cw.put {W : World} {b cap m : Nat} {l zs : List St} (h : Cw W b cap m l zs) (hl : l.length ≤ m) (hm : m < zs.length) (x : St) : Cw ((W.setCell ⟨b, l.length * 2, none⟩ (.int .i64 x.f0)).setCell ⟨b, l.length * 2 + 1, none⟩ (.int .i64 x.f1)) b cap (m + 1) (l ++ [x]) zs := by
  obtain ⟨h1, h2, cur, hb, hs, hl1, hc⟩ := h
  refine ⟨h1, h2, _, blk_set (blk_set hb _ _) _ _, by simpa using hs, fun j y hy => ?_, fun j y hj hy => ?_⟩
  · by_cases hjl : j = l.length
    · subst hjl
      have : y = x := by simpa using hy.symm
      subst this
      exact Cl.set (by omega) y
    · have hj2 : j < l.length := by
        have := (List.getElem?_eq_some_iff.1 hy).1
        simp at this
        omega
      rw [List.getElem?_append_left hj2] at hy
      exact (hl1 j y hy).far hjl _ _
  · exact (hc j y (by omega) hy).far (by omega) _ _
theorem Cw.on {W : World} {b cap m : Nat} {l zs : List St} (h : Cw W b cap m l zs) : Cw W b cap (m + 1) l zs := by
  obtain ⟨h1, h2, cur, hb, hs, hl1, hc⟩ := h
  exact ⟨h1, h2, cur, hb, hs, hl1, fun j y hj hy => hc j y (by omega) hy⟩
theorem Rw.cw {W : World} {b cap : Nat} {zs : List St} (h : Rw W b cap zs) (k m : Nat) : Cw W b cap m (zs.take k) zs := by
  obtain ⟨h1, h2, cur, hb, hs, hc⟩ := h
  refine ⟨h1, h2, cur, hb, hs, fun j x hx => hc j x ?_, fun j x _ hx => hc j x hx⟩
  rw [List.getElem?_take] at hx
  split at hx
  · exact hx
  · cases hx
end Go.Proofs.Ytfingknhciogkaa.K

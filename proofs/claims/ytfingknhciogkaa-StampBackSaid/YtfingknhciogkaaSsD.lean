/- slices.SortFunc of stamps at stamp.Compare. -/
import Derived.Test.YtfingknhciogkaaSsC
import Derived.Test.YtfingknhciogkaaLay
namespace Go.Proofs.Ytfingknhciogkaa.K
open Go.RowKit Go.Sort Go.Shelf Go.Proofs.YtfingknhciogkaaW.PrintWords Go.Proofs.YtfingknhciogkaaW.PrintLast Go.Proofs.YtfingknhciogkaaW.PrintMore
set_option linter.unusedVariables false
set_option linter.unusedSimpArgs false

def encS (x : St) : List Value := [.int .i64 x.f0, .int .i64 x.f1]
instance : Inhabited St := ⟨X.z23⟩
/-- Block b holds the stamps, from its first cell on. -/
def Rw (W : World) (b cap : Nat) (zs : List St) : Prop := zs.length ≤ cap ∧ cap ≤ maxLen ∧ ∃ cur : Array Value, W.heap[b]? = some (.cells cur 23 (0, 0)) ∧ cur.size = cap * 2 ∧ ∀ j x, zs[j]? = some x → cur[j * 2]? = some (.int .i64 x.f0) ∧ cur[j * 2 + 1]? = some (.int .i64 x.f1)
theorem flatS_at : ∀ (zs : List St) (j : Nat) (x : St), zs[j]? = some x → (flatS zs)[j * 2]? = some (.int .i64 x.f0) ∧ (flatS zs)[j * 2 + 1]? = some (.int .i64 x.f1)
  | [], j, x, h => by simp at h
  | y :: r, 0, x, h => by
    simp at h
    subst h
    simp [flatS]
  | y :: r, j + 1, x, h => by
    have := flatS_at r j x (by simpa using h)
    rw [show (j + 1) * 2 = j * 2 + 1 + 1 by omega]
    simpa [flatS] using this
theorem Rw.of_own {W : World} {base : Nat} {v : Value} {zs : List St} (h : W.ownsRow base 23 2 v zs.length (flatS zs)) : (v = .slice none 0 0 ∧ zs = []) ∨ ∃ g cap, v = .slice (some ⟨g, 0, none⟩) zs.length cap ∧ base ≤ g ∧ Rw W g cap zs := by
  obtain ⟨h1, ⟨rfl, h0⟩ | ⟨g, cap, cur, rfl, hb, hg, hc, hm, hs, ht⟩⟩ := h
  · exact .inl ⟨rfl, List.eq_nil_of_length_eq_zero h0⟩
  · refine .inr ⟨g, cap, rfl, hb, hc, hm, cur, hg, hs, fun j x hx => ?_⟩
    obtain ⟨f0, f1⟩ := flatS_at zs j x hx
    have hj := (List.getElem?_eq_some_iff.1 hx).1
    rw [← ht] at f0 f1
    rw [List.getElem?_take, if_pos (by omega)] at f0 f1
    exact ⟨by simpa using f0, by simpa using f1⟩
theorem Rw.cells {W : World} {b cap : Nat} {zs : List St} (h : Rw W b cap zs) (j : Nat) (x : St) (hx : zs[j]? = some x) : W.cell? ⟨b, j * 2, none⟩ = some (.int .i64 x.f0) ∧ W.cell? ⟨b, j * 2 + 1, none⟩ = some (.int .i64 x.f1) := by
  obtain ⟨_, _, cur, hb, hs, hc⟩ := h
  exact ⟨(blk_cell hb _).trans (hc j x hx).1, (blk_cell hb _).trans (hc j x hx).2⟩
theorem Rw.holds {W : World} {b cap : Nat} {zs : List St} (h : Rw W b cap zs) : HoldsK encS 2 W b 0 zs.toArray := by
  have hcs := h.cells
  obtain ⟨h1, h2, cur, hb, hs, hc⟩ := h
  intro t ht
  rw [size_flatK, List.size_toArray] at ht
  rw [get_flatK _ _ _ _ (by simpa using ht), Nat.zero_add]
  refine ⟨?_, blk_frozen hb _⟩
  have hj : t / 2 < zs.length := by omega
  have hx := List.getElem?_eq_getElem hj
  obtain ⟨f0, f1⟩ := hcs (t / 2) _ hx
  have he : zs.toArray[t / 2]! = zs[t / 2] := by simp [hj]
  rw [he]
  generalize zs[t / 2] = x at f0 f1 ⊢
  rcases Nat.mod_two_eq_zero_or_one t with hm | hm
  · rw [hm]
    rw [show t / 2 * 2 = t by omega] at f0
    simpa [encS] using f0
  · rw [hm]
    rw [show t / 2 * 2 + 1 = t by omega] at f1
    simpa [encS] using f1

theorem sort_block (w : World) (b n : Nat) (d : Array St) (os : Array Obj) (cur : Array Value) (hb : w.heap[b]? = some (.cells cur 23 (0, 0))) : ∃ cur', (sortWorldK encS 2 w b 0 n d os).heap[b]? = some (.cells cur' 23 (0, 0)) ∧ cur'.size = cur.size := by
  have hlt := blk_lt hb
  refine ⟨putCells id 0 (flatK encS 2 d) cur, ?_, by simp [putCells]⟩
  simp only [sortWorldK, grow, putRowK, putRow, mapBlock, Go.Sort.ahead]
  rw [Array.getElem?_append_left (by rw [Array.size_modify]; exact hlt), Array.getElem?_modify, if_pos rfl, hb]
  rfl
theorem sort_below (w : World) (b n base : Nat) (d : Array St) (os : Array Obj) (hb : base ≤ b) (hs : base ≤ w.heap.size) : RowKit.Below base w (sortWorldK encS 2 w b 0 n d os) := by
  refine ⟨rfl, rfl, rfl, ?_, fun k hk => ?_⟩
  · simp only [sortWorldK, grow, putRowK, putRow, mapBlock, Go.Sort.ahead, Array.size_append, Array.size_modify]
    omega
  · simp only [sortWorldK, grow, putRowK, putRow, mapBlock, Go.Sort.ahead]
    rw [Array.getElem?_append_left (by rw [Array.size_modify]; omega), Array.getElem?_modify, if_neg (by omega)]
theorem Rw.sorted {w : World} {b cap n : Nat} {zs : List St} (h : Rw w b cap zs) (d : Array St) (hs : d.size = zs.length) (os : Array Obj) : Rw (sortWorldK encS 2 w b 0 n d os) b cap d.toList := by
  have hh := h.holds
  obtain ⟨h1, h2, cur, hb, hcs, hc⟩ := h
  have hlt := blk_lt hb
  have hold : HoldsK encS 2 (sortWorldK encS 2 w b 0 n d os) b 0 d := holdsK_sortWorldK encS 2 w b 0 n zs.toArray d os hlt hh (by simpa using hs)
  obtain ⟨cur', hb', hs'⟩ := sort_block w b n d os cur hb
  refine ⟨by simpa [hs] using h1, h2, cur', hb', by rw [hs']; exact hcs, fun j x hx => ?_⟩
  have hj : j < d.size := by
    have := (List.getElem?_eq_some_iff.1 hx).1
    simpa using this
  have he : d[j]! = x := by
    have : d[j]? = some x := by simpa using hx
    simp [this, Array.getElem!_eq_getD, Array.getD_eq_getD_getElem?]
  have f0 := (hold.cell (i := j) (c := 0) hj (by omega)).1
  have f1 := (hold.cell (i := j) (c := 1) hj (by omega)).1
  rw [he, Nat.zero_add] at f0 f1
  rw [Nat.add_zero, blk_cell hb'] at f0
  rw [blk_cell hb'] at f1
  exact ⟨by simpa [encS] using f0, by simpa [encS] using f1⟩

theorem cmpLays (blk off size : Nat) (w : World) : CmpLays Try.prog 10 #[] encS 2 cmpT blk off size w := fun _ _ _ _ x y => compare_grow x.f0 x.f1 y.f0 y.f1 _
theorem cmpT_neg (x y : St) : cmpT x y < 0 ↔ (x.f0 < y.f0 ∨ (x.f0 = y.f0 ∧ x.f1 < y.f1)) := by
  unfold cmpT cmpS
  split
  · constructor
    · intro; omega
    · intro; omega
  · split
    · constructor
      · intro; omega
      · intro; omega
    · split
      · constructor
        · intro; omega
        · intro; omega
      · split
        · constructor
          · intro; omega
          · intro; omega
        · constructor
          · intro; omega
          · intro; omega
theorem swoT : SWO (ltOf cmpT) where
  irrefl x := by
    simp only [ltOf, decide_eq_false_iff_not, cmpT_neg]
    omega
  trans x y z h1 h2 := by
    simp only [ltOf, decide_eq_true_eq, cmpT_neg] at *
    omega
  ntrans x y z h1 h2 := by
    simp only [ltOf, decide_eq_false_iff_not, cmpT_neg] at *
    omega

def Asc (ys : List St) : Prop := ys.Pairwise (fun x y => ¬ cmpT y x < 0)
set_option maxRecDepth 100000 in
set_option maxHeartbeats 1000000 in
/-- slices.SortFunc: the same stamps, in order. -/
theorem sortfunc_calls (b cap base : Nat) (zs : List St) (w : World) (h : Rw w b cap zs) (hl : zs.length ≤ 100000) (hb : base ≤ b) (hs : base ≤ w.heap.size) :
    Calls Try.prog 39 #[.slice (some ⟨b, 0, none⟩) zs.length cap, .func (.func 10) #[] #[]] w fun e w' => e = .returned (.tuple #[]) ∧ ∃ ys, ys.Perm zs ∧ Asc ys ∧ Rw w' b cap ys ∧ RowKit.Below base w w' := by
  have eg : ∀ args w, (callFunc 10 args).run Try.prog w = .ok (.enter 10 args) w := enters_of Try.func10 (by kernel_rfl) rfl
  have hlt : b < w.heap.size := by
    obtain ⟨_, _, cur, hb, _⟩ := h
    exact blk_lt hb
  have hcon := AnyQ.slices_SortFunc sortSt 2 Try.isAgg23 Try.sizeOf23 encS (fun _ => rfl) (fun x v hv => by simp [encS] at hv; rcases hv with rfl | rfl <;> rfl) cmpT swoT 10 #[] b 0 cap zs.toArray w eg (cmpLays b 0 zs.toArray.size w) h.holds hlt (by simp; omega)
  change Calls Try.prog 39 _ _ _ at hcon
  rw [List.size_toArray] at hcon
  refine hcon.mono ?_
  rintro e w' ⟨he, d', n, os, hp, hsd, rfl⟩
  obtain ⟨p1, p2, p3⟩ := hp
  have hsz : d'.size = zs.length := by simpa using p1
  refine ⟨he, d'.toList, ?_, ?_, h.sorted d' hsz os, sort_below w b n base d' os hb hs⟩
  · have e1 : d'.extract 0 zs.length = d' := by rw [← hsz]; exact Array.extract_size
    have e2 : zs.toArray.extract 0 zs.length = zs.toArray := by simp
    rw [e1, e2] at p3
    exact p3
  · refine List.pairwise_iff_getElem.2 (fun i j hi hj hij => ?_)
    have hj' : j < d'.size := by simpa using hj
    have hi' : i < d'.size := by simpa using hi
    have := hsd i j (Nat.zero_le _) hij (by omega)
    rw [getElem!_pos d' j hj', getElem!_pos d' i hi'] at this
    simpa [ltOf] using this
end Go.Proofs.Ytfingknhciogkaa.K

/- Piles of entries: rows of the call's own, what stands in them. (buffer.pile).Swap. Heaps, in plain Lean. -/
import Derived.Test.YtekhpogigndlkaaKit
import Derived.Test.YtekhpogigndlkaaX0
import Derived.Test.YtekhpogigndlkaaWTab
namespace Go.Proofs.Ytekhpogigndlkaa.K
open Go.RowKit Go.Proofs.YtekhpogigndlkaaW.PrintWords Go.Proofs.YtekhpogigndlkaaW.PrintLast Go.Proofs.YtekhpogigndlkaaW.PrintMore
set_option linter.unusedVariables false
set_option linter.unusedSimpArgs false

abbrev En := X.S33
/-- An entry and its body's slice. -/
structure EP where
  e : En
  A : Option Addr
  c : Nat
abbrev EP.b (p : EP) : Value := .slice p.A p.e.f5.length p.c
def enC (p : EP) : List Value := [.int .i64 p.e.f0, .int .i64 p.e.f1, .int .u64 p.e.f2, .int .i64 p.e.f3.f0, .int .i64 p.e.f3.f1, .int .i64 p.e.f4, .slice p.A p.e.f5.length p.c, .int .u64 p.e.f6]
def enV (p : EP) : Value := .agg #[.int .i64 p.e.f0, .int .i64 p.e.f1, .int .u64 p.e.f2, .int .i64 p.e.f3.f0, .int .i64 p.e.f3.f1, .int .i64 p.e.f4, .slice p.A p.e.f5.length p.c, .int .u64 p.e.f6]
def flE (ps : List EP) : List Value := ps.flatMap enC
theorem flE_cons (p : EP) (ps : List EP) : flE (p :: ps) = enC p ++ flE ps := by simp [flE]
theorem flE_append (a b : List EP) : flE (a ++ b) = flE a ++ flE b := by simp [flE]
theorem flE_get : ∀ (ps : List EP) (m : Nat), (flE ps)[m]? = (ps[m / 8]?).bind (fun p => (enC p)[m % 8]?)
  | [], m => by simp [flE]
  | p :: r, m => by
    rw [flE_cons]
    by_cases h : m < 8
    · rw [List.getElem?_append_left (by simpa [enC] using h), show m / 8 = 0 by omega, show m % 8 = m by omega]
      rfl
    · rw [List.getElem?_append_right (by simp [enC]; omega), show (enC p).length = 8 from rfl, flE_get r (m - 8), show m / 8 = (m - 8) / 8 + 1 by omega, show (m - 8) % 8 = m % 8 by omega, List.getElem?_cons_succ]
theorem flE_length (ps : List EP) : (flE ps).length = ps.length * 8 := by
  induction ps with
  | nil => rfl
  | cons p r ih =>
    rw [flE_cons, List.length_append, ih, show (enC p).length = 8 from rfl, List.length_cons]
    omega
def setA (cur : Array Value) (o : Nat) : List Value → Array Value
  | [] => cur
  | v :: r => setA (cur.setIfInBounds o v) (o + 1) r
theorem setA_size (cur : Array Value) (o : Nat) (l : List Value) : (setA cur o l).size = cur.size := by
  induction l generalizing cur o with
  | nil => rfl
  | cons v r ih =>
    show (setA (cur.setIfInBounds o v) (o + 1) r).size = _
    rw [ih, Array.size_setIfInBounds]
theorem setA_get (cur : Array Value) (o : Nat) (l : List Value) (m : Nat) (hs : o + l.length ≤ cur.size) : (setA cur o l)[m]? = if o ≤ m ∧ m < o + l.length then l[m - o]? else cur[m]? := by
  induction l generalizing cur o with
  | nil =>
    show cur[m]? = _
    rw [if_neg (by intro h; simp at h; omega)]
  | cons v r ih =>
    show (setA (cur.setIfInBounds o v) (o + 1) r)[m]? = _
    simp only [List.length_cons] at hs ⊢
    rw [ih _ _ (by rw [Array.size_setIfInBounds]; omega)]
    by_cases h1 : o + 1 ≤ m ∧ m < o + 1 + r.length
    · rw [if_pos h1, if_pos (by omega), show m - o = (m - (o + 1)) + 1 by omega, List.getElem?_cons_succ]
    · rw [if_neg h1]
      by_cases h2 : m = o
      · subst h2
        rw [if_pos (by omega), Array.getElem?_setIfInBounds_self, if_pos (by omega), Nat.sub_self]
        rfl
      · rw [if_neg (by omega), Array.getElem?_setIfInBounds_ne (Ne.symm h2)]
theorem heap_set8 {W : World} {g t : Nat} {cur : Array Value} (h : W.heap[g]? = some (.cells cur t (0, 0))) (o : Nat) (p : EP) :
    ((((((((W.setCell ⟨g, o, none⟩ (.int .i64 p.e.f0)).setCell ⟨g, o + 1, none⟩ (.int .i64 p.e.f1)).setCell ⟨g, o + 2, none⟩ (.int .u64 p.e.f2)).setCell ⟨g, o + 3, none⟩ (.int .i64 p.e.f3.f0)).setCell ⟨g, o + 4, none⟩ (.int .i64 p.e.f3.f1)).setCell ⟨g, o + 5, none⟩ (.int .i64 p.e.f4)).setCell ⟨g, o + 6, none⟩ (.slice p.A p.e.f5.length p.c)).setCell ⟨g, o + 7, none⟩ (.int .u64 p.e.f6)).heap[g]? = some (.cells (setA cur o (enC p)) t (0, 0)) :=
  blk_set (blk_set (blk_set (blk_set (blk_set (blk_set (blk_set (blk_set h o _) (o + 1) _) (o + 2) _) (o + 3) _) (o + 4) _) (o + 5) _) (o + 6) _) (o + 7) _
theorem take_set {cur : Array Value} {ps : List EP} (hc : cur.toList.take (ps.length * 8) = flE ps) (hs : ps.length * 8 ≤ cur.size) (i : Nat) (hi : i < ps.length) (p : EP) :
    (setA cur (i * 8) (enC p)).toList.take ((ps.set i p).length * 8) = flE (ps.set i p) := by
  apply List.ext_getElem?
  intro m
  rw [List.length_set, List.getElem?_take, flE_get, Array.getElem?_toList, setA_get _ _ _ _ (by show i * 8 + 8 ≤ _; omega)]
  have h0 := congrArg (fun l => l[m]?) hc
  simp only [List.getElem?_take, Array.getElem?_toList, flE_get] at h0
  by_cases hm : m < ps.length * 8
  · rw [if_pos hm] at h0 ⊢
    by_cases h1 : i * 8 ≤ m ∧ m < i * 8 + (enC p).length
    · have h8 : (enC p).length = 8 := rfl
      rw [if_pos h1, show m / 8 = i by omega, List.getElem?_set_self (by omega), show m % 8 = m - i * 8 by omega]
      rfl
    · have h8 : (enC p).length = 8 := rfl
      rw [if_neg h1, List.getElem?_set_ne (by omega)]
      exact h0
  · rw [if_neg hm, List.getElem?_eq_none (by rw [List.length_set]; omega)]
    rfl
/-- What may have changed. -/
structure Fr (w w' : World) (S : Nat → Prop) : Prop where
  os : w'.os = w.os
  tape : w'.tape = w.tape
  output : w'.output = w.output
  size : w.heap.size ≤ w'.heap.size
  block : ∀ k, k < w.heap.size → ¬ S k → w'.heap[k]? = w.heap[k]?
theorem Fr.refl (w : World) (S : Nat → Prop) : Fr w w S := ⟨rfl, rfl, rfl, Nat.le_refl _, fun _ _ _ => rfl⟩
theorem Fr.trans {a b c : World} {S T : Nat → Prop} (h : Fr a b S) (k : Fr b c T) (hT : ∀ q, q < a.heap.size → T q → S q) : Fr a c S :=
  ⟨k.os.trans h.os, k.tape.trans h.tape, k.output.trans h.output, Nat.le_trans h.size k.size, fun i hi hn => (k.block i (Nat.lt_of_lt_of_le hi h.size) (fun ht => hn (hT i hi ht))).trans (h.block i hi hn)⟩
theorem Fr.mono {a b : World} {S T : Nat → Prop} (h : Fr a b S) (hk : ∀ k, k < a.heap.size → S k → T k) : Fr a b T := ⟨h.os, h.tape, h.output, h.size, fun i hi hn => h.block i hi (fun ho => hn (hk i hi ho))⟩
theorem Fr.ofBelow {a b : World} (S : Nat → Prop) (h : Below a.heap.size a b) : Fr a b S := ⟨h.os, h.tape, h.output, h.size, fun i hi _ => h.block i hi⟩
theorem Fr.below {w0 a b : World} {S : Nat → Prop} (h : Fr a b S) (hB : Below w0.heap.size w0 a) (hk : ∀ k, S k → w0.heap.size ≤ k) : Below w0.heap.size w0 b :=
  ⟨h.os.trans hB.os, h.tape.trans hB.tape, h.output.trans hB.output, Nat.le_trans hB.size h.size, fun i hi => (h.block i (Nat.lt_of_lt_of_le hi hB.size) (fun ho => by have := hk i ho; omega)).trans (hB.block i hi)⟩
theorem Fr.set {w w' : World} {S : Nat → Prop} (h : Fr w w' S) {g : Nat} (hg : S g ∨ w.heap.size ≤ g) (i : Nat) (u : Value) : Fr w (w'.setCell ⟨g, i, none⟩ u) S :=
  ⟨h.os, h.tape, h.output, by simpa [World.setCell] using h.size, fun k hk hn => by
    refine (Below.heap_setCell w' ⟨g, i, none⟩ u k ?_).trans (h.block k hk hn)
    rintro rfl
    rcases hg with hg | hg
    · exact hn hg
    · exact absurd (Nat.lt_of_lt_of_le hk hg) (Nat.lt_irrefl _)⟩
theorem Fr.blk {w w' : World} {S : Nat → Prop} (h : Fr w w' S) {g : Nat} {o : Obj} (hg : w.heap[g]? = some o) (hn : ¬ S g) : w'.heap[g]? = some o := (h.block g (blk_lt hg) hn).trans hg
theorem Own.fr {w w' : World} {S : Nat → Prop} {base : Nat} {b : Value} {l : List Int} (h : Own w base b l) (hf : Fr w w' S) (hn : ∀ k, b.ownBlock = some k → ¬ S k) : Own w' base b l :=
  Kd.R_of_own (own_move (Kd.own_of_R h) (fun k hk => hf.block k (Kd.R_lt h k hk) (hn k hk))) (fun _ _ => trivial)
/-- A row of entries of the call's own. -/
structure PlR (W : World) (base : Nat) (v : Value) (ps : List EP) : Prop where
  row : W.ownsRow base 33 8 v ps.length (flE ps)
  bod : ∀ p ∈ ps, Own W base p.b p.e.f5
theorem PlR.nil (W : World) (base : Nat) : PlR W base (.slice none 0 0) [] := ⟨own_nil _ _ _ _, fun p hp => by simp at hp⟩
theorem PlR.fr {w w' : World} {S : Nat → Prop} {base : Nat} {v : Value} {ps : List EP} (h : PlR w base v ps) (hf : Fr w w' S) (hv : ∀ k, v.ownBlock = some k → ¬ S k) (hn : ∀ p ∈ ps, ∀ k, p.b.ownBlock = some k → ¬ S k) : PlR w' base v ps :=
  ⟨own_move h.row (fun k hk => hf.block k (own_lt h.row k hk) (hv k hk)), fun p hp => Own.fr (h.bod p hp) hf (hn p hp)⟩
theorem PlR.below {w w' : World} {base : Nat} {v : Value} {ps : List EP} (h : PlR w base v ps) (hb : Below w.heap.size w w') : PlR w' base v ps := h.fr (Fr.ofBelow (fun _ => False) hb) (fun _ _ h => h) (fun _ _ _ _ h => h)
/-- Blocks of another type hold no body. -/
theorem Own.typed {w : World} {base : Nat} {b : Value} {l : List Int} (h : Own w base b l) {g t : Nat} {cs : Array Value} (hg : w.heap[g]? = some (.cells cs t (0, 0))) (ht : t ≠ 5) (k : Nat) (hk : b.ownBlock = some k) : k ≠ g := by
  rintro rfl
  exact Kd.R_ne h hg (Ne.symm ht) hk.symm
theorem PlR.typed {w : World} {base : Nat} {v : Value} {ps : List EP} (h : PlR w base v ps) (k : Nat) (hk : v.ownBlock = some k) : ∃ cs, w.heap[k]? = some (.cells cs 33 (0, 0)) := own_typed h.row k hk
/-- The frame of a pile's own ways: its header's block, its row. -/
def SP (pb : Nat) (v : Value) : Nat → Prop := fun k => k = pb ∨ v.ownBlock = some k
theorem PlR.far {w w' : World} {base pb t : Nat} {v u : Value} {ps qs : List EP} (h : PlR w base u qs) (hf : Fr w w' (SP pb v)) (hp : PlR w base v ps) {cs : Array Value} (hg : w.heap[pb]? = some (.cells cs t (0, 0))) (h5 : t ≠ 5) (h33 : t ≠ 33) (hne : ∀ k, u.ownBlock = some k → v.ownBlock ≠ some k) : PlR w' base u qs := by
  refine h.fr hf (fun k hk hs => ?_) (fun p hp' k hk hs => ?_)
  · rcases hs with rfl | hs
    · obtain ⟨cs', hc⟩ := h.typed k hk
      rw [hg] at hc
      injection hc with hc
      injection hc with _ hc
      exact h33 hc
    · exact hne k hk hs
  · rcases hs with rfl | hs
    · exact Own.typed (h.bod p hp') hg h5 k hk rfl
    · obtain ⟨cs', hc⟩ := hp.typed k hs
      exact Own.typed (h.bod p hp') hc (by decide) k hk rfl
theorem Own.farP {w w' : World} {base pb t : Nat} {v b : Value} {l : List Int} {ps : List EP} (h : Own w base b l) (hf : Fr w w' (SP pb v)) (hp : PlR w base v ps) {cs : Array Value} (hg : w.heap[pb]? = some (.cells cs t (0, 0))) (h5 : t ≠ 5) : Own w' base b l := by
  refine h.fr hf (fun k hk hs => ?_)
  rcases hs with rfl | hs
  · exact Own.typed h hg h5 k hk rfl
  · obtain ⟨cs', hc⟩ := hp.typed k hs
    exact Own.typed h hc (by decide) k hk rfl
theorem PlR.slice {w : World} {base : Nat} {v : Value} {ps : List EP} (h : PlR w base v ps) : v = .slice none 0 0 ∧ ps = [] ∨ ∃ g cap cur, v = .slice (some ⟨g, 0, none⟩) ps.length cap ∧ base ≤ g ∧ w.heap[g]? = some (.cells cur 33 (0, 0)) ∧ ps.length ≤ cap ∧ cap ≤ maxLen ∧ cur.size = cap * 8 ∧ cur.toList.take (ps.length * 8) = flE ps := by
  rcases h.row.2 with ⟨h1, h2⟩ | ⟨g, cap, cur, h1, h2, h3, h4, h5, h6, h7⟩
  · exact .inl ⟨h1, List.eq_nil_of_length_eq_zero h2⟩
  · exact .inr ⟨g, cap, cur, h1, h2, h3, h4, h5, h6, h7⟩
theorem cur_at {cur : Array Value} {ps : List EP} (hc : cur.toList.take (ps.length * 8) = flE ps) {j : Nat} {p : EP} (hp : ps[j]? = some p) (q : Nat) (u : Value) (hu : (enC p)[q]? = some u) : cur[j * 8 + q]? = some u := by
  have hq : q < 8 := (List.getElem?_eq_some_iff.1 hu).1
  have hj := (List.getElem?_eq_some_iff.1 hp).1
  have h0 := congrArg (fun l => l[j * 8 + q]?) hc
  simp only [List.getElem?_take, Array.getElem?_toList, flE_get] at h0
  rw [if_pos (by omega), show (j * 8 + q) / 8 = j by omega, show (j * 8 + q) % 8 = q by omega, hp] at h0
  exact h0.trans hu
/-- The row reads as its entries. -/
theorem PlR.reads {w : World} {base : Nat} {v : Value} {ps : List EP} (h : PlR w base v ps) : ∃ A c, v = .slice A ps.length c ∧ ps.length ≤ c ∧ Kd.C X.k33 w A (ps.map (·.e)).length (ps.map (·.e)) := by
  rcases h.slice with ⟨rfl, rfl⟩ | ⟨g, cap, cur, rfl, h2, h3, h4, h5, h6, h7⟩
  · exact ⟨none, 0, rfl, Nat.le_refl _, Kd.C_nil _ _⟩
  · refine ⟨_, _, rfl, h4, ⟨rfl, by rw [List.length_map]; exact Nat.le_trans h4 h5, fun hp => ⟨_, rfl, fun j x hx => ?_⟩⟩⟩
    rw [List.getElem?_map, Option.map_eq_some_iff] at hx
    obtain ⟨p, hp', rfl⟩ := hx
    obtain ⟨_, hl, hC⟩ := Kd.R_reads' (h.bod p (List.mem_of_getElem? hp'))
    refine ⟨enC p, rfl, ?_, fun q u hu => ?_⟩
    · exact X.k33_mk w p.e hl hC
    · rw [Addr.add_lit, Nat.zero_add, blk_cell h3]
      exact cur_at h7 hp' q u hu
end Go.Proofs.Ytekhpogigndlkaa.K

namespace Go.Proofs.Ytekhpogigndlkaa.K
open Go.RowKit Go.Proofs.YtekhpogigndlkaaW.PrintWords Go.Proofs.YtekhpogigndlkaaW.PrintLast Go.Proofs.YtekhpogigndlkaaW.PrintMore
set_option linter.unusedVariables false
set_option linter.unusedSimpArgs false

theorem gen_world {P : Program} {C : Code} {Q : Exit → Act → World → Prop} {a : Act} {w : World} (h : ∀ W, W = w → C.wp P Q a W) : C.wp P Q a w := h w rfl
theorem gen_bp {P : Program} {f : Func} {Q : Ending → World → Prop} {x : Exit} {a : Act} {w : World} (h : ∀ W, W = w → bodyPost P f Q x a W) : bodyPost P f Q x a w := h w rfl
theorem gen_K {K : Act → World → Prop} {a : Act} {w : World} (h : ∀ W, W = w → K a W) : K a w := h w rfl
theorem Fr.drew {w w' : World} {S : Nat → Prop} (h : Fr w w' S) : Fr w w'.drew S := ⟨h.os, h.tape, h.output, h.size, h.block⟩
theorem Fr.setg {w w' : World} {g : Nat} (h : Fr w w' (fun k => k = g)) (i : Nat) (u : Value) : Fr w (w'.setCell ⟨g, i, none⟩ u) (fun k => k = g) := h.set (.inl rfl) i u
theorem cells8 {W : World} {g t i : Nat} {cur : Array Value} (h : W.heap[g]? = some (.cells cur t (0, 0))) (hs : i * 8 + 8 ≤ cur.size) :
    ∃ u0 u1 u2 u3 u4 u5 u6 u7, W.cell? ⟨g, i * 8, none⟩ = some u0 ∧ W.cell? ⟨g, i * 8 + 1, none⟩ = some u1 ∧ W.cell? ⟨g, i * 8 + 2, none⟩ = some u2 ∧ W.cell? ⟨g, i * 8 + 3, none⟩ = some u3 ∧ W.cell? ⟨g, i * 8 + 4, none⟩ = some u4 ∧ W.cell? ⟨g, i * 8 + 5, none⟩ = some u5 ∧ W.cell? ⟨g, i * 8 + 6, none⟩ = some u6 ∧ W.cell? ⟨g, i * 8 + 7, none⟩ = some u7 ∧ W.frozen? ⟨g, i * 8, none⟩ = false ∧ W.frozen? ⟨g, i * 8 + 1, none⟩ = false ∧ W.frozen? ⟨g, i * 8 + 2, none⟩ = false ∧ W.frozen? ⟨g, i * 8 + 3, none⟩ = false ∧ W.frozen? ⟨g, i * 8 + 4, none⟩ = false ∧ W.frozen? ⟨g, i * 8 + 5, none⟩ = false ∧ W.frozen? ⟨g, i * 8 + 6, none⟩ = false ∧ W.frozen? ⟨g, i * 8 + 7, none⟩ = false := by
  have e : ∀ q, q < 8 → ∃ u, W.cell? ⟨g, i * 8 + q, none⟩ = some u := fun q hq => ⟨_, (blk_cell h _).trans (Array.getElem?_eq_getElem (show i * 8 + q < cur.size by omega))⟩
  obtain ⟨u0, h0⟩ := e 0 (by omega)
  obtain ⟨u1, h1⟩ := e 1 (by omega)
  obtain ⟨u2, h2⟩ := e 2 (by omega)
  obtain ⟨u3, h3⟩ := e 3 (by omega)
  obtain ⟨u4, h4⟩ := e 4 (by omega)
  obtain ⟨u5, h5⟩ := e 5 (by omega)
  obtain ⟨u6, h6⟩ := e 6 (by omega)
  obtain ⟨u7, h7⟩ := e 7 (by omega)
  exact ⟨u0, u1, u2, u3, u4, u5, u6, u7, h0, h1, h2, h3, h4, h5, h6, h7, blk_frozen h _, blk_frozen h _, blk_frozen h _, blk_frozen h _, blk_frozen h _, blk_frozen h _, blk_frozen h _, blk_frozen h _⟩
theorem cells_at {W : World} {g t : Nat} {cur : Array Value} {ps : List EP} (h : W.heap[g]? = some (.cells cur t (0, 0))) (hc : cur.toList.take (ps.length * 8) = flE ps) {i : Nat} {p : EP} (hp : ps[i]? = some p) :
    W.cell? ⟨g, i * 8, none⟩ = some (.int .i64 p.e.f0) ∧ W.cell? ⟨g, i * 8 + 1, none⟩ = some (.int .i64 p.e.f1) ∧ W.cell? ⟨g, i * 8 + 2, none⟩ = some (.int .u64 p.e.f2) ∧ W.cell? ⟨g, i * 8 + 3, none⟩ = some (.int .i64 p.e.f3.f0) ∧ W.cell? ⟨g, i * 8 + 4, none⟩ = some (.int .i64 p.e.f3.f1) ∧ W.cell? ⟨g, i * 8 + 5, none⟩ = some (.int .i64 p.e.f4) ∧ W.cell? ⟨g, i * 8 + 6, none⟩ = some (.slice p.A p.e.f5.length p.c) ∧ W.cell? ⟨g, i * 8 + 7, none⟩ = some (.int .u64 p.e.f6) :=
  ⟨(blk_cell h _).trans (cur_at hc hp 0 _ rfl), (blk_cell h _).trans (cur_at hc hp 1 _ rfl), (blk_cell h _).trans (cur_at hc hp 2 _ rfl), (blk_cell h _).trans (cur_at hc hp 3 _ rfl), (blk_cell h _).trans (cur_at hc hp 4 _ rfl), (blk_cell h _).trans (cur_at hc hp 5 _ rfl), (blk_cell h _).trans (cur_at hc hp 6 _ rfl), (blk_cell h _).trans (cur_at hc hp 7 _ rfl)⟩
def swapP (ps : List EP) (i j : Nat) (pi pj : EP) : List EP := (ps.set i pj).set j pi
theorem swapP_length (ps : List EP) (i j : Nat) (pi pj : EP) : (swapP ps i j pi pj).length = ps.length := by simp [swapP]
theorem swap_done {w W : World} {gr cap base i j : Nat} {ps : List EP} {pi pj : EP} {cur : Array Value} (h : PlR w base (.slice (some ⟨gr, 0, none⟩) ps.length cap) ps) (hi : ps[i]? = some pi) (hj : ps[j]? = some pj)
    (hbg : base ≤ gr) (hcur : w.heap[gr]? = some (.cells cur 33 (0, 0))) (hnc : ps.length ≤ cap) (hcm : cap ≤ maxLen) (hsz : cur.size = cap * 8) (htk : cur.toList.take (ps.length * 8) = flE ps)
    (hb : W.heap[gr]? = some (.cells (setA (setA cur (i * 8) (enC pj)) (j * 8) (enC pi)) 33 (0, 0))) (hf : Fr w W (fun k => k = gr)) : PlR W base (.slice (some ⟨gr, 0, none⟩) ps.length cap) (swapP ps i j pi pj) := by
  have hil := (List.getElem?_eq_some_iff.1 hi).1
  have hjl := (List.getElem?_eq_some_iff.1 hj).1
  have h1 := take_set htk (by omega) i hil pj
  have h2 := take_set h1 (by rw [setA_size, List.length_set]; omega) j (by rw [List.length_set]; exact hjl) pi
  refine ⟨⟨by rw [flE_length], .inr ⟨gr, cap, _, ?_, hbg, hb, by rw [swapP_length]; exact hnc, hcm, by rw [setA_size, setA_size]; exact hsz, h2⟩⟩, fun p hp => ?_⟩
  · rw [swapP_length]
  · have hp' : p ∈ ps := by
      rcases List.mem_or_eq_of_mem_set hp with hp | rfl
      · rcases List.mem_or_eq_of_mem_set hp with hp | rfl
        · exact hp
        · exact List.mem_of_getElem? hj
      · exact List.mem_of_getElem? hi
    exact Own.fr (h.bod p hp') hf (fun k hk e => Own.typed (h.bod p hp') hcur (by decide) k hk e)
def swap_calls.T0 : Bool × List (List Nat × List Nat) := (true, [([], []), ([], []), ([], []), ([], []), ([], []), ([], []), ([4, 5], [4, 5]), ([6], [6]), ([], []), ([], []), ([8, 9], [8, 9]), ([10], [10]), ([0, 1, 0, 1, 4, 5, 6, 7, 11], [0, 1]), ([12, 7, 0, 1, 4, 5, 6, 7, 11], [7, 12]), ([2, 3, 0, 1, 2, 3, 4, 5, 6, 7, 8, 9, 10, 11, 12, 13], [2, 3]), ([14, 11, 13, 0, 1, 2, 3, 4, 5, 6, 7, 8, 9, 10, 11, 12, 13], [11, 14])])
def swap_calls.B0 : List Nat := [0, 0, 0, 0, 0, 0, 48, 112, 0, 0, 768, 1792, 4083, 8179, 16383, 32767]
theorem swap_calls.tab0 : rtab .any (opsOf Try.f70 0) = swap_calls.T0 := by kernel_rfl
theorem swap_calls.bits0 : waitsOk swap_calls.T0.2 swap_calls.B0 = true := by kernel_rfl
set_option maxRecDepth 100000 in
set_option maxHeartbeats 16000000 in
theorem swap_calls (gr cap base i j : Nat) (ps : List EP) (pi pj : EP) (w : World) (h : PlR w base (.slice (some ⟨gr, 0, none⟩) ps.length cap) ps) (hi : ps[i]? = some pi) (hj : ps[j]? = some pj) :
    Calls Try.prog 70 #[.slice (some ⟨gr, 0, none⟩) ps.length cap, .int .i64 i, .int .i64 j] w fun e w' => e = .returned (.tuple #[]) ∧ PlR w' base (.slice (some ⟨gr, 0, none⟩) ps.length cap) (swapP ps i j pi pj) ∧ Fr w w' (fun k => k = gr) := by
  have HP := Aside0.mk h
  rcases h.slice with ⟨h, _⟩ | ⟨g, cap', cur, h1, hbg, hcur, hnc, hcm, hsz, htk⟩
  · cases h
  injection h1 with h1 _ h2
  injection h1 with h1
  injection h1 with h1
  subst h1 h2
  have hil := (List.getElem?_eq_some_iff.1 hi).1
  have hjl := (List.getElem?_eq_some_iff.1 hj).1
  obtain ⟨ci0, ci1, ci2, ci3, ci4, ci5, ci6, ci7⟩ := cells_at hcur htk hi
  obtain ⟨cj0, cj1, cj2, cj3, cj4, cj5, cj6, cj7⟩ := cells_at hcur htk hj
  obtain ⟨_u0, _u1, _u2, _u3, _u4, _u5, _u6, _u7, _d0, _d1, _d2, _d3, _d4, _d5, _d6, _d7, z0, z1, z2, z3, z4, z5, z6, z7⟩ := cells8 hcur (i := i) (by omega)
  clear _d0 _d1 _d2 _d3 _d4 _d5 _d6 _d7 _u0 _u1 _u2 _u3 _u4 _u5 _u6 _u7
  obtain ⟨n, hn⟩ : ∃ n, ps.length = n := ⟨_, rfl⟩
  have HN := Aside0.mk hn
  rw [hn] at hil hjl hnc ⊢
  have hi0 : (0 : Int) ≤ i := by omega
  have hj0 : (0 : Int) ≤ j := by omega
  have hin : (i : Int) < n := by omega
  have hjn : (j : Int) < n := by omega
  have HI := Aside0.mk hi
  have HJ := Aside0.mk hj
  have HCUR := Aside0.mk hcur
  have HTK := Aside0.mk htk
  clear hcur htk hn hi hj h
  go_enter Try.func70, Try.ntmps70
  go_upto_region 0 with fail
  refine start_ (n := 16) (S := fun w' => w'.cell? ⟨gr, j * 8, none⟩ = some (.int .i64 pj.e.f0) ∧ w'.cell? ⟨gr, j * 8 + 1, none⟩ = some (.int .i64 pj.e.f1) ∧ w'.cell? ⟨gr, j * 8 + 2, none⟩ = some (.int .u64 pj.e.f2) ∧ w'.cell? ⟨gr, j * 8 + 3, none⟩ = some (.int .i64 pj.e.f3.f0) ∧ w'.cell? ⟨gr, j * 8 + 4, none⟩ = some (.int .i64 pj.e.f3.f1) ∧ w'.cell? ⟨gr, j * 8 + 5, none⟩ = some (.int .i64 pj.e.f4) ∧ w'.cell? ⟨gr, j * 8 + 6, none⟩ = some (.slice pj.A pj.e.f5.length pj.c) ∧ w'.cell? ⟨gr, j * 8 + 7, none⟩ = some (.int .u64 pj.e.f6) ∧ w'.cell? ⟨gr, i * 8, none⟩ = some (.int .i64 pi.e.f0) ∧ w'.cell? ⟨gr, i * 8 + 1, none⟩ = some (.int .i64 pi.e.f1) ∧ w'.cell? ⟨gr, i * 8 + 2, none⟩ = some (.int .u64 pi.e.f2) ∧ w'.cell? ⟨gr, i * 8 + 3, none⟩ = some (.int .i64 pi.e.f3.f0) ∧ w'.cell? ⟨gr, i * 8 + 4, none⟩ = some (.int .i64 pi.e.f3.f1) ∧ w'.cell? ⟨gr, i * 8 + 5, none⟩ = some (.int .i64 pi.e.f4) ∧ w'.cell? ⟨gr, i * 8 + 6, none⟩ = some (.slice pi.A pi.e.f5.length pi.c) ∧ w'.cell? ⟨gr, i * 8 + 7, none⟩ = some (.int .u64 pi.e.f6)) (ds := [13, 15]) #[false, false, false, false, false, false, false, false, false, false, false, false, false, false, false, false] (by kernel_rfl) rfl rfl ⟨cj0, cj1, cj2, cj3, cj4, cj5, cj6, cj7, ci0, ci1, ci2, ci3, ci4, ci5, ci6, ci7⟩ (fun hHeld => ?_)
  refine with_tabW swap_calls.tab0 swap_calls.bits0 (fun HT_ HW_ => ?_)
  refine pure_ (i := 0) (N := some 6) (v := ?_) (a' := ?_) #[true, false, false, false, false, false, false, false, false, false, false, false, false, false, false, false] rfl rfl (any_of HT_.out (by kernel_rfl)) (fun _ _ _ h => h) (Or.inl ⟨by rfl, ?_⟩) ?_ ?_
  rotate_left
  · intro w'
    go_simp
    with_reducible rfl
  rotate_left
  · simp only [Act.put, List.setIfInBounds_toArray, List.set_cons_zero, List.set_cons_succ, i64_w, i32_w]
    rfl
  refine pure_ (i := 1) (N := some 7) (v := ?_) (a' := ?_) #[true, true, false, false, false, false, false, false, false, false, false, false, false, false, false, false] rfl rfl (any_of HT_.out (by kernel_rfl)) (fun _ _ _ h => h) (Or.inl ⟨by rfl, ?_⟩) ?_ ?_
  rotate_left
  · intro w'
    go_simp
    with_reducible rfl
  rotate_left
  · simp only [Act.put, List.setIfInBounds_toArray, List.set_cons_zero, List.set_cons_succ, i64_w, i32_w]
    rfl
  refine pure_ (i := 2) (N := some 8) (v := ?_) (a' := ?_) #[true, true, true, false, false, false, false, false, false, false, false, false, false, false, false, false] rfl rfl (any_of HT_.out (by kernel_rfl)) (fun _ _ _ h => h) (Or.inl ⟨by rfl, ?_⟩) ?_ ?_
  rotate_left
  · intro w'
    go_simp
    with_reducible rfl
  rotate_left
  · simp only [Act.put, List.setIfInBounds_toArray, List.set_cons_zero, List.set_cons_succ, i64_w, i32_w]
    rfl
  refine pure_ (i := 3) (N := some 9) (v := ?_) (a' := ?_) #[true, true, true, true, false, false, false, false, false, false, false, false, false, false, false, false] rfl rfl (any_of HT_.out (by kernel_rfl)) (fun _ _ _ h => h) (Or.inl ⟨by rfl, ?_⟩) ?_ ?_
  rotate_left
  · intro w'
    go_simp
    with_reducible rfl
  rotate_left
  · simp only [Act.put, List.setIfInBounds_toArray, List.set_cons_zero, List.set_cons_succ, i64_w, i32_w]
    rfl
  refine pure_ (i := 4) (N := some 10) (v := ?_) (a' := ?_) #[true, true, true, true, true, false, false, false, false, false, false, false, false, false, false, false] rfl rfl (any_of HT_.out (by kernel_rfl)) (fun _ _ _ h => h) (Or.inl ⟨by rfl, ?_⟩) ?_ ?_
  rotate_left
  · intro w'
    go_simp
    with_reducible rfl
  rotate_left
  · simp only [Act.put, List.setIfInBounds_toArray, List.set_cons_zero, List.set_cons_succ, i64_w, i32_w]
    rfl
  refine pure_ (i := 5) (N := some 11) (v := ?_) (a' := ?_) #[true, true, true, true, true, true, false, false, false, false, false, false, false, false, false, false] rfl rfl (any_of HT_.out (by kernel_rfl)) (fun _ _ _ h => h) (Or.inl ⟨by rfl, ?_⟩) ?_ ?_
  rotate_left
  · intro w'
    go_simp
    with_reducible rfl
  rotate_left
  · simp only [Act.put, List.setIfInBounds_toArray, List.set_cons_zero, List.set_cons_succ, i64_w, i32_w]
    rfl
  refine pure_ (i := 6) (N := some 12) (v := ?_) (a' := ?_) #[true, true, true, true, true, true, true, false, false, false, false, false, false, false, false, false] rfl rfl (any_of HT_.out (by kernel_rfl)) (fun _ _ _ h => h) (Or.inl ⟨by rfl, ?_⟩) ?_ ?_
  rotate_left
  · intro w'
    go_simp
    with_reducible rfl
  rotate_left
  · simp only [Act.put, List.setIfInBounds_toArray, List.set_cons_zero, List.set_cons_succ, i64_w, i32_w]
    rfl
  refine pure_ (i := 8) (N := some 14) (v := ?_) (a' := ?_) #[true, true, true, true, true, true, true, false, true, false, false, false, false, false, false, false] rfl rfl (any_of HT_.out (by kernel_rfl)) (fun _ _ _ h => h) (Or.inl ⟨by rfl, ?_⟩) ?_ ?_
  rotate_left
  · intro w'
    go_simp
    with_reducible rfl
  rotate_left
  · simp only [Act.put, List.setIfInBounds_toArray, List.set_cons_zero, List.set_cons_succ, i64_w, i32_w]
    rfl
  refine pure_ (i := 9) (N := some 15) (v := ?_) (a' := ?_) #[true, true, true, true, true, true, true, false, true, true, false, false, false, false, false, false] rfl rfl (any_of HT_.out (by kernel_rfl)) (fun _ _ _ h => h) (Or.inl ⟨by rfl, ?_⟩) ?_ ?_
  rotate_left
  · intro w'
    go_simp
    with_reducible rfl
  rotate_left
  · simp only [Act.put, List.setIfInBounds_toArray, List.set_cons_zero, List.set_cons_succ, i64_w, i32_w]
    rfl
  refine pure_ (i := 10) (N := some 16) (v := ?_) (a' := ?_) #[true, true, true, true, true, true, true, false, true, true, true, false, false, false, false, false] rfl rfl (any_of HT_.out (by kernel_rfl)) (fun _ _ _ h => h) (Or.inl ⟨by rfl, ?_⟩) ?_ ?_
  rotate_left
  · intro w'
    go_simp
    with_reducible rfl
  rotate_left
  · simp only [Act.put, List.setIfInBounds_toArray, List.set_cons_zero, List.set_cons_succ, i64_w, i32_w]
    rfl
  refine take_ (i := 7) (N := some 13) (v := ?_) (a' := ?_) #[true, true, true, true, true, true, true, true, true, true, true, false, false, false, false, false] rfl rfl (take_ofW HT_.out HW_.out (by kernel_rfl)) (fun _ _ _ h => h) (Or.inl ⟨by rfl, ?_⟩) hHeld ?_ ?_
  rotate_left
  · rintro w' ⟨s0, s1, s2, s3, s4, s5, s6, s7, s8, s9, s10, s11, s12, s13, s14, s15⟩
    go_simp
    with_reducible rfl
  rotate_left
  · simp only [Act.put, List.setIfInBounds_toArray, List.set_cons_zero, List.set_cons_succ, i64_w, i32_w]
    rfl
  refine take_ (i := 11) (N := some 17) (v := ?_) (a' := ?_) #[true, true, true, true, true, true, true, true, true, true, true, true, false, false, false, false] rfl rfl (take_ofW HT_.out HW_.out (by kernel_rfl)) (fun _ _ _ h => h) (Or.inl ⟨by rfl, ?_⟩) hHeld ?_ ?_
  rotate_left
  · rintro w' ⟨s0, s1, s2, s3, s4, s5, s6, s7, s8, s9, s10, s11, s12, s13, s14, s15⟩
    go_simp
    with_reducible rfl
  rotate_left
  · simp only [Act.put, List.setIfInBounds_toArray, List.set_cons_zero, List.set_cons_succ, i64_w, i32_w]
    rfl
  refine pure_ (i := 12) (N := some 18) (v := ?_) (a' := ?_) #[true, true, true, true, true, true, true, true, true, true, true, true, true, false, false, false] rfl rfl (any_of HT_.out (by kernel_rfl)) (fun _ _ _ h => h) (Or.inl ⟨by rfl, ?_⟩) ?_ ?_
  rotate_left
  · intro w'
    go_simp
    with_reducible rfl
  rotate_left
  · simp only [Act.put, List.setIfInBounds_toArray, List.set_cons_zero, List.set_cons_succ, i64_w, i32_w]
    rfl
  refine last_ (i := 13) (N := none) #[true, true, true, true, true, true, true, true, true, true, true, true, true, true, false, false] rfl rfl (one_of HT_.out (by kernel_rfl)) (by decide) (fun K hK => ?_)
  refine skip_ (w1 := ?_) (by rfl) rfl ?_ ?_
  rotate_left
  · go_simp
    rfl
  refine gen_K (fun W1 hW1 => ?_)
  have hb1 : W1.heap[gr]? = some (.cells (setA cur (i * 8) (enC pj)) 33 (0, 0)) := by rw [hW1]; (try with_reducible refine blk_drew ?_); exact heap_set8 HCUR.out (i * 8) pj
  have hf1 : Fr w W1 (fun k => k = gr) := by rw [hW1]; repeat (with_reducible first | exact Fr.refl _ _ | refine Fr.drew ?_ | refine Fr.setg ?_ _ _)
  have HB1 := Aside0.mk hb1
  have HF1 := Aside0.mk hf1
  obtain ⟨u0, u1, u2, u3, u4, u5, u6, u7, d0, d1, d2, d3, d4, d5, d6, d7, z0, z1, z2, z3, z4, z5, z6, z7⟩ := cells8 hb1 (i := j) (by rw [setA_size]; omega)
  clear hW1 hb1 hf1
  refine hK.out _ _ ?_
  clear hK K
  refine pure_ (i := 14) (N := some 19) (v := ?_) (a' := ?_) #[true, true, true, true, true, true, true, true, true, true, true, true, true, true, true, false] rfl rfl (any_of HT_.out (by kernel_rfl)) (fun _ _ _ h => h) (Or.inl ⟨by rfl, ?_⟩) ?_ ?_
  rotate_left
  · intro w'
    go_simp
    with_reducible rfl
  rotate_left
  · simp only [Act.put, List.setIfInBounds_toArray, List.set_cons_zero, List.set_cons_succ, i64_w, i32_w]
    rfl
  refine last_ (i := 15) (N := none) #[true, true, true, true, true, true, true, true, true, true, true, true, true, true, true, true] rfl rfl (one_of HT_.out (by kernel_rfl)) (by decide) (fun K hK => ?_)
  refine skip_ (w1 := ?_) (by rfl) rfl ?_ ?_
  rotate_left
  · go_simp
    rfl
  refine hK.out _ _ ?_
  clear hK K
  refine done_ (done_of HT_.out (by kernel_rfl)) ?_
  refine gen_bp (fun W2 hW2 => ?_)
  have hb2 : W2.heap[gr]? = some (.cells (setA (setA cur (i * 8) (enC pj)) (j * 8) (enC pi)) 33 (0, 0)) := by rw [hW2]; (try with_reducible refine blk_drew ?_); exact heap_set8 HB1.out (j * 8) pi
  have hf2 : Fr w W2 (fun k => k = gr) := by rw [hW2]; repeat (with_reducible first | exact HF1.out | refine Fr.drew ?_ | refine Fr.setg ?_ _ _)
  have HPP := Aside0.mk (swap_done HP.out HI.out HJ.out hbg HCUR.out (by have := HN.out; omega) hcm hsz HTK.out hb2 hf2)
  have HF2 := Aside0.mk hf2
  rw [HN.out] at HPP
  clear hW2 hb2 hf2
  go_end0
  exact ⟨rfl, HPP.out, HF2.out⟩
end Go.Proofs.Ytekhpogigndlkaa.K

namespace Go.Proofs.Ytekhpogigndlkaa.K
set_option linter.unusedVariables false
set_option linter.unusedSimpArgs false

abbrev Ky := Int × Int
def ltK (a b : Ky) : Prop := a.1 < b.1 ∨ (a.1 = b.1 ∧ a.2 < b.2)
instance (a b : Ky) : Decidable (ltK a b) := by unfold ltK; infer_instance
theorem ltK.asym {a b : Ky} (h : ltK a b) : ¬ ltK b a := by
  unfold ltK at *
  omega
theorem ltK.trans {a b c : Ky} (h : ltK a b) (k : ltK b c) : ltK a c := by
  unfold ltK at *
  omega
theorem ltK.le_trans {a b c : Ky} (h : ¬ ltK b a) (k : ¬ ltK c b) : ¬ ltK c a := by
  unfold ltK at *
  omega
theorem ltK.eq {a b : Ky} (h : ¬ ltK a b) (k : ¬ ltK b a) : a = b := by
  unfold ltK at *
  exact Prod.ext (by omega) (by omega)
def sw (f : Nat → Ky) (i j k : Nat) : Ky := if k = i then f j else if k = j then f i else f k
theorem sw_i (f : Nat → Ky) (i j : Nat) : sw f i j i = f j := by simp [sw]
theorem sw_j (f : Nat → Ky) (i j : Nat) : sw f i j j = f i := by
  unfold sw
  split
  · rename_i h; rw [h]
  · simp
theorem sw_n (f : Nat → Ky) {i j k : Nat} (h1 : k ≠ i) (h2 : k ≠ j) : sw f i j k = f k := by simp [sw, h1, h2]
/-- A heap, from lo on. -/
def HeapF (f : Nat → Ky) (n lo : Nat) : Prop := ∀ k, 0 < k → k < n → lo ≤ (k - 1) / 2 → ¬ ltK (f k) (f ((k - 1) / 2))
def DownInv (f : Nat → Ky) (n lo i0 i : Nat) : Prop :=
  (∀ k, 0 < k → k < n → lo ≤ (k - 1) / 2 → (k - 1) / 2 ≠ i → (i = i0 → k ≠ i) → ¬ ltK (f k) (f ((k - 1) / 2))) ∧
  (∀ c, 0 < c → c < n → (c - 1) / 2 = i → 0 < i → lo ≤ (i - 1) / 2 → ¬ ltK (f c) (f ((i - 1) / 2)))
def UpInv (f : Nat → Ky) (n lo j : Nat) : Prop :=
  (∀ k, 0 < k → k < n → lo ≤ (k - 1) / 2 → k ≠ j → ¬ ltK (f k) (f ((k - 1) / 2))) ∧
  (∀ c, 0 < c → c < n → (c - 1) / 2 = j → 0 < j → lo ≤ (j - 1) / 2 → ¬ ltK (f c) (f ((j - 1) / 2)))
theorem down_step {f : Nat → Ky} {n lo i0 i j : Nat} (h : DownInv f n lo i0 i) (hi0 : i0 ≤ i) (hj : j < n) (hp : (j - 1) / 2 = i) (hj0 : 0 < j)
    (hmin : ∀ c, 0 < c → c < n → (c - 1) / 2 = i → ¬ ltK (f c) (f j)) (hlt : ltK (f j) (f i)) : DownInv (sw f i j) n lo i0 j := by
  have hij : i < j := by omega
  refine ⟨fun k hk hkn hlo hne _ => ?_, fun c hc hcn hcp _ hlo => ?_⟩
  · by_cases hkj : k = j
    · subst hkj
      rw [sw_j, hp, sw_i]
      exact hlt.asym
    · by_cases hpi : (k - 1) / 2 = i
      · rw [hpi, sw_i, sw_n f (by omega) hkj]
        exact hmin k hk hkn hpi
      · by_cases hki : k = i
        · subst hki
          rw [sw_i, sw_n f hpi hne]
          exact h.2 j hj0 hj hp hk hlo
        · rw [sw_n f hki hkj, sw_n f hpi hne]
          exact h.1 k hk hkn hlo hpi (fun _ => hki)
  · rw [hp, sw_i, sw_n f (by omega) (by omega), ← hcp]
    exact h.1 c hc hcn (by omega) (by omega) (fun _ => by omega)
theorem down_moved {f : Nat → Ky} {n lo i0 i : Nat} (h : DownInv f n lo i0 i) (hne : i ≠ i0) (hex : ∀ c, 0 < c → c < n → (c - 1) / 2 = i → ¬ ltK (f c) (f i)) : HeapF f n lo := by
  intro k hk hkn hlo
  by_cases hp : (k - 1) / 2 = i
  · rw [hp]
    exact hex k hk hkn hp
  · exact h.1 k hk hkn hlo hp (fun e => absurd e hne)
theorem down_stays {f : Nat → Ky} {n lo i : Nat} (h : DownInv f n lo i i) (hex : ∀ c, 0 < c → c < n → (c - 1) / 2 = i → ¬ ltK (f c) (f i)) : UpInv f n lo i := by
  refine ⟨fun k hk hkn hlo hne => ?_, h.2⟩
  by_cases hp : (k - 1) / 2 = i
  · rw [hp]
    exact hex k hk hkn hp
  · exact h.1 k hk hkn hlo hp (fun _ => hne)
theorem up_step {f : Nat → Ky} {n j : Nat} (h : UpInv f n 0 j) (hj : j < n) (hj0 : 0 < j) (hlt : ltK (f j) (f ((j - 1) / 2))) : UpInv (sw f ((j - 1) / 2) j) n 0 ((j - 1) / 2) := by
  obtain ⟨i, hi⟩ : ∃ i, (j - 1) / 2 = i := ⟨_, rfl⟩
  rw [hi] at hlt ⊢
  have hij : i < j := by omega
  refine ⟨fun k hk hkn _ hne => ?_, fun c hc hcn hcp h0 _ => ?_⟩
  · by_cases hkj : k = j
    · subst hkj
      rw [sw_j, hi, sw_i]
      exact hlt.asym
    · by_cases hpi : (k - 1) / 2 = i
      · rw [hpi, sw_i, sw_n f hne hkj]
        have := h.1 k hk hkn (Nat.zero_le _) hkj
        rw [hpi] at this
        exact fun hh => this (hh.trans hlt)
      · by_cases hpj : (k - 1) / 2 = j
        · rw [hpj, sw_j, sw_n f hne hkj, ← hi]
          exact h.2 k hk hkn hpj hj0 (Nat.zero_le _)
        · rw [sw_n f hne hkj, sw_n f hpi hpj]
          exact h.1 k hk hkn (Nat.zero_le _) hkj
  · have hii := h.1 i h0 (by omega) (Nat.zero_le _) (by omega)
    rw [sw_n f (show (i - 1) / 2 ≠ i by omega) (by omega)]
    by_cases hcj : c = j
    · subst hcj
      rw [sw_j]
      exact hii
    · rw [sw_n f (by omega) hcj]
      have hci := h.1 c hc hcn (Nat.zero_le _) hcj
      rw [hcp] at hci
      exact ltK.le_trans hii hci
theorem up_done {f : Nat → Ky} {n j : Nat} (h : UpInv f n 0 j) (hex : 0 < j → ¬ ltK (f j) (f ((j - 1) / 2))) : HeapF f n 0 := by
  intro k hk hkn hlo
  by_cases hkj : k = j
  · subst hkj
    exact hex hk
  · exact h.1 k hk hkn hlo hkj
theorem heap_min {f : Nat → Ky} {n : Nat} (h : HeapF f n 0) : ∀ k, k < n → ¬ ltK (f k) (f 0) := by
  intro k
  induction k using Nat.strongRecOn with
  | ind k ih =>
    intro hk
    by_cases h0 : k = 0
    · subst h0
      unfold ltK
      omega
    · exact ltK.le_trans (ih ((k - 1) / 2) (by omega) (by omega)) (h k (by omega) hk (Nat.zero_le _))
theorem heap_less {f : Nat → Ky} {n m lo : Nat} (h : HeapF f n lo) (hm : m ≤ n) : HeapF f m lo := fun k hk hkm hlo => h k hk (by omega) hlo
theorem heap_congr {f g : Nat → Ky} {n lo : Nat} (h : HeapF f n lo) (e : ∀ k, k < n → g k = f k) : HeapF g n lo := fun k hk hkm hlo => by
  rw [e k hkm, e _ (by omega)]
  exact h k hk hkm hlo
/-- The last one laid at i. -/
theorem remove_start {f : Nat → Ky} {n i : Nat} (h : HeapF f (n + 1) 0) (hi : i ≤ n) : DownInv (sw f i n) n 0 i i := by
  refine ⟨fun k hk hkn hlo hp hne => ?_, fun c hc hcn hcp h0 _ => ?_⟩
  · rw [sw_n f (hne rfl) (by omega), sw_n f hp (by omega)]
    exact h k hk (by omega) hlo
  · rw [sw_n f (show c ≠ i by omega) (by omega), sw_n f (show (i - 1) / 2 ≠ i by omega) (by omega)]
    have h1 := h c hc (by omega) (Nat.zero_le _)
    rw [hcp] at h1
    exact ltK.le_trans (h i h0 (by omega) (Nat.zero_le _)) h1
theorem push_start {f g : Nat → Ky} {n : Nat} (h : HeapF f n 0) (e : ∀ k, k < n → g k = f k) : UpInv g (n + 1) 0 n := by
  refine ⟨fun k hk hkn hlo hne => ?_, fun c hc hcn hcp h0 _ => by omega⟩
  rw [e k (by omega), e _ (by omega)]
  exact h k hk (by omega) hlo
theorem init_start {f : Nat → Ky} {n i : Nat} (h : HeapF f n (i + 1)) : DownInv f n i i i :=
  ⟨fun k hk hkn hlo hp _ => h k hk hkn (by omega), fun c hc hcn hcp h0 hlo => by omega⟩
theorem init_stays {f : Nat → Ky} {n i : Nat} (h : UpInv f n i i) : HeapF f n i := fun k hk hkn hlo => h.1 k hk hkn hlo (by omega)
theorem init_zero (f : Nat → Ky) (n : Nat) : HeapF f n (n / 2) := fun k hk hkn hlo => by omega
/-- The keys of a pile. -/
def keyE (x : En) : Ky := (x.f0, x.f1)
def ky (ps : List EP) (i : Nat) : Ky := match ps[i]? with
  | some p => keyE p.e
  | none => (0, 0)
theorem ky_at {ps : List EP} {i : Nat} {p : EP} (h : ps[i]? = some p) : ky ps i = keyE p.e := by simp [ky, h]
theorem ky_swap {ps : List EP} {i j : Nat} {pi pj : EP} (hi : ps[i]? = some pi) (hj : ps[j]? = some pj) : ky (swapP ps i j pi pj) = sw (ky ps) i j := by
  have hil := (List.getElem?_eq_some_iff.1 hi).1
  have hjl := (List.getElem?_eq_some_iff.1 hj).1
  funext k
  by_cases h2 : k = j
  · subst h2
    rw [sw_j, ky_at hi]
    exact ky_at (List.getElem?_set_self (by rw [List.length_set]; exact hjl))
  · by_cases h1 : k = i
    · subst h1
      rw [sw_i, ky_at hj]
      refine ky_at ?_
      unfold swapP
      rw [List.getElem?_set_ne (by omega), List.getElem?_set_self hil]
    · rw [sw_n _ h1 h2]
      unfold ky swapP
      rw [List.getElem?_set_ne (by omega), List.getElem?_set_ne (by omega)]
theorem swapP_at {ps : List EP} {i j : Nat} {pi pj : EP} {k : Nat} (h1 : k ≠ i) (h2 : k ≠ j) : (swapP ps i j pi pj)[k]? = ps[k]? := by
  unfold swapP
  rw [List.getElem?_set_ne (by omega), List.getElem?_set_ne (by omega)]
theorem swapP_j {ps : List EP} {i j : Nat} {pi pj : EP} (hj : j < ps.length) : (swapP ps i j pi pj)[j]? = some pi := List.getElem?_set_self (by rw [List.length_set]; exact hj)
theorem swapP_perm {ps : List EP} {i j : Nat} {pi pj : EP} (hi : ps[i]? = some pi) (hj : ps[j]? = some pj) : (swapP ps i j pi pj).Perm ps := by
  have hil := (List.getElem?_eq_some_iff.1 hi).1
  have hjl := (List.getElem?_eq_some_iff.1 hj).1
  have e1 : ps[i] = pi := (List.getElem?_eq_some_iff.1 hi).2
  have e2 : ps[j] = pj := (List.getElem?_eq_some_iff.1 hj).2
  have h := List.set_set_perm hil hjl
  rw [e1, e2] at h
  exact h
end Go.Proofs.Ytekhpogigndlkaa.K

/- Stable sorting, as lists alone: blocks exchanged, SymMerge's search, sorted blocks. Rows of operations: of the call's own, what stands in them. op.compare; a row of operations while it is sorted; slices.insertionSortCmpFunc. slices.swapRangeCmpFunc, slices.rotateCmpFunc. -/
import Derived.Test.YtaiakklflmhpmaaKit
import Derived.Test.YtaiakklflmhpmaaX
import Derived.Test.YtaiakklflmhpmaaWTab
import Derived.Deep.LoopGhost
namespace Go.Proofs.Ytaiakklflmhpmaa.K
set_option linter.unusedVariables false
set_option linter.unusedSimpArgs false

abbrev Ko := Int × Int
def ltO (a b : Ko) : Prop := a.1 < b.1 ∨ (a.1 = b.1 ∧ a.2 < b.2)
instance (a b : Ko) : Decidable (ltO a b) := inferInstanceAs (Decidable (_ ∨ _))
theorem ltO.asym {a b : Ko} (h : ltO a b) : ¬ ltO b a := by unfold ltO at *; omega
theorem ltO.trans {a b c : Ko} (h : ltO a b) (k : ltO b c) : ltO a c := by unfold ltO at *; omega
theorem ltO.le_trans {a b c : Ko} (h : ¬ ltO b a) (k : ¬ ltO c b) : ¬ ltO c a := by unfold ltO at *; omega
theorem ltO.lt_le {a b c : Ko} (h : ltO a b) (k : ¬ ltO c b) : ltO a c := by unfold ltO at *; omega
theorem ltO.le_lt {a b c : Ko} (h : ¬ ltO b a) (k : ltO b c) : ltO a c := by unfold ltO at *; omega
theorem ltO.irr {a : Ko} : ¬ ltO a a := by unfold ltO; omega
theorem ltO.eq {a b : Ko} (h : ¬ ltO a b) (k : ¬ ltO b a) : a = b := by
 unfold ltO at h k
 exact Prod.ext (by omega) (by omega)

section
variable {α : Type} (key : α → Ko)
def sO (l : List α) : Prop := l.Pairwise (fun a b => ¬ ltO (key b) (key a))
/-- The same elements, those of one key in the same order. -/
def Cl (l m : List α) : Prop := l.Perm m ∧ ∀ k, l.filter (fun a => decide (key a = k)) = m.filter (fun a => decide (key a = k))
variable {key}
theorem Cl.refl (l : List α) : Cl key l l := ⟨List.Perm.refl _, fun _ => rfl⟩
theorem Cl.trans {l m n : List α} (h : Cl key l m) (k : Cl key m n) : Cl key l n := ⟨h.1.trans k.1, fun x => (h.2 x).trans (k.2 x)⟩
theorem Cl.symm {l m : List α} (h : Cl key l m) : Cl key m l := ⟨h.1.symm, fun x => (h.2 x).symm⟩
theorem Cl.append {a b c d : List α} (h : Cl key a b) (k : Cl key c d) : Cl key (a ++ c) (b ++ d) := ⟨h.1.append k.1, fun x => by rw [List.filter_append, List.filter_append, h.2, k.2]⟩
theorem Cl.left (a : List α) {c d : List α} (k : Cl key c d) : Cl key (a ++ c) (a ++ d) := (Cl.refl a).append k
theorem Cl.right {a b : List α} (h : Cl key a b) (c : List α) : Cl key (a ++ c) (b ++ c) := h.append (Cl.refl c)
/-- Two neighbouring blocks, all of the second ahead of all of the first. -/
theorem Cl.exch {u v : List α} (h : ∀ a ∈ u, ∀ b ∈ v, ltO (key b) (key a)) : Cl key (u ++ v) (v ++ u) := by
 refine ⟨List.perm_append_comm, fun k => ?_⟩
 rw [List.filter_append, List.filter_append]
 by_cases hu : ∃ a ∈ u, key a = k
 ·obtain ⟨a, ha, hk⟩ := hu
  have hv : v.filter (fun a => decide (key a = k)) = [] := by
   rw [List.filter_eq_nil_iff]
   intro b hb hkb
   have h1 := h a ha b hb
   have h2 : key b = k := by simpa using hkb
   rw [h2, hk] at h1
   exact ltO.irr h1
  rw [hv, List.append_nil, List.nil_append]
 ·have hv : u.filter (fun a => decide (key a = k)) = [] := by
   rw [List.filter_eq_nil_iff]
   intro a ha hk
   exact hu ⟨a, ha, by simpa using hk⟩
  rw [hv, List.append_nil, List.nil_append]
theorem sO.append {l m : List α} : sO key (l ++ m) ↔ sO key l ∧ sO key m ∧ ∀ a ∈ l, ∀ b ∈ m, ¬ ltO (key b) (key a) := List.pairwise_append
theorem sO.nil : sO key ([] : List α) := List.Pairwise.nil
theorem sO.one (a : α) : sO key [a] := List.pairwise_singleton _ _
theorem sO.get {l : List α} (h : sO key l) {i j : Nat} {a b : α} (hi : l[i]? = some a) (hj : l[j]? = some b) (hij : i ≤ j) : ¬ ltO (key b) (key a) := by
 rcases Nat.lt_or_eq_of_le hij with hlt | rfl
 ·obtain ⟨h1, rfl⟩ := List.getElem?_eq_some_iff.1 hi
  obtain ⟨h2, rfl⟩ := List.getElem?_eq_some_iff.1 hj
  exact (List.pairwise_iff_getElem.1 h) i j h1 h2 hlt
 ·rw [hi] at hj
  injection hj with hj
  rw [hj]
  exact ltO.irr
end

/-! ### Exchanges -/
section
variable {α : Type}
def exP (l : List α) (i j : Nat) (a b : α) : List α := (l.set i b).set j a
theorem exP_length (l : List α) (i j : Nat) (a b : α) : (exP l i j a b).length = l.length := by simp [exP]
theorem set_mid (p q : List α) (a b : α) : (p ++ a :: q).set p.length b = p ++ b :: q := by
 rw [List.set_append_right _ _ (Nat.le_refl _), Nat.sub_self]
 rfl
theorem ex_mid (p m q : List α) (a b : α) : exP (p ++ a :: m ++ b :: q) p.length (p.length + 1 + m.length) a b = p ++ b :: m ++ a :: q := by
 have h1 : (p ++ a :: m ++ b :: q).set p.length b = p ++ b :: m ++ b :: q := by
  rw [List.append_assoc, List.append_assoc]
  exact set_mid p (m ++ b :: q) a b
 have h2 : p.length + 1 + m.length = (p ++ b :: m).length := by simp; omega
 rw [exP, h1, h2, set_mid]
theorem ex_mid' (p m q : List α) (a b : α) : exP (p ++ a :: m ++ b :: q) (p.length + 1 + m.length) p.length b a = p ++ b :: m ++ a :: q := by
 have h2 : p.length + 1 + m.length = (p ++ a :: m).length := by simp; omega
 have h1 : (p ++ a :: m ++ b :: q).set (p.length + 1 + m.length) a = p ++ a :: m ++ a :: q := by
  rw [h2, set_mid]
 rw [exP, h1, List.append_assoc, List.append_assoc]
 exact set_mid p (m ++ a :: q) a b
theorem get_mid (p q : List α) (a : α) : (p ++ a :: q)[p.length]? = some a := by rw [List.getElem?_append_right (Nat.le_refl _), Nat.sub_self]; rfl
end
/-! ### SymMerge -/
section
variable {α : Type} {key : α → Ko}
theorem drop_get {l : List α} {i : Nat} {u : α} (hu : u ∈ l.drop i) : ∃ j, i ≤ j ∧ l[j]? = some u := by
 obtain ⟨j, hj, rfl⟩ := List.mem_iff_getElem.1 hu
 rw [List.length_drop] at hj
 exact ⟨i + j, by omega, by rw [List.getElem_drop]; exact List.getElem?_eq_getElem _⟩
theorem take_get {l : List α} {i : Nat} {u : α} (hu : u ∈ l.take i) : ∃ j, j < i ∧ l[j]? = some u := by
 obtain ⟨j, hj, rfl⟩ := List.mem_iff_getElem.1 hu
 rw [List.length_take] at hj
 exact ⟨j, by omega, by rw [List.getElem_take]; exact List.getElem?_eq_getElem _⟩
/-- Where SymMerge's search ended. -/
structure SymOk (key : α → Ko) (l r : List α) (h x : Nat) : Prop where
 xl : x ≤ l.length
 xh : x ≤ h
 hr : h - x ≤ r.length
 up : ∀ u ∈ l.drop x, ∀ v ∈ r.take (h - x), ltO (key v) (key u)
 dn : ∀ a ∈ l.take x, ∀ b ∈ r.drop (h - x), ¬ ltO (key b) (key a)
theorem sym_ok {l r : List α} {h x lo hi : Nat} (hl : sO key l) (hr : sO key r) (h1 : lo ≤ x) (h2 : x ≤ hi) (hlo : lo = 0 ∨ lo + r.length = h) (hhi : hi = h ∨ hi = l.length) (hh : hi ≤ h) (hhl : hi ≤ l.length) (hlr : h ≤ lo + r.length)
  (s1 : lo < x → ∀ a b, l[x - 1]? = some a → r[h - x]? = some b → ¬ ltO (key b) (key a)) (s2 : x < hi → ∀ a b, l[x]? = some a → r[h - 1 - x]? = some b → ltO (key b) (key a)) : SymOk key l r h x := by
 refine ⟨by omega, by omega, by omega, fun u hu v hv => ?_, fun a ha b hb => ?_⟩
 ·obtain ⟨i, hi1, hi2⟩ := drop_get hu
  obtain ⟨j, hj1, hj2⟩ := take_get hv
  have hil := (List.getElem?_eq_some_iff.1 hi2).1
  have hjl := (List.getElem?_eq_some_iff.1 hj2).1
  have hx : x < hi := by omega
  have e1 : l[x]? = some l[x] := List.getElem?_eq_getElem (by omega)
  have e2 : r[h - 1 - x]? = some r[h - 1 - x] := List.getElem?_eq_getElem (by omega)
  have h3 := s2 hx _ _ e1 e2
  have h4 := hl.get e1 hi2 hi1
  have h5 := hr.get hj2 e2 (by omega)
  exact ltO.le_lt h5 (ltO.lt_le h3 h4)
 ·obtain ⟨i, hi1, hi2⟩ := take_get ha
  obtain ⟨j, hj1, hj2⟩ := drop_get hb
  have hil := (List.getElem?_eq_some_iff.1 hi2).1
  have hjl := (List.getElem?_eq_some_iff.1 hj2).1
  have hx : lo < x := by omega
  have e1 : l[x - 1]? = some l[x - 1] := List.getElem?_eq_getElem (by omega)
  have e2 : r[h - x]? = some r[h - x] := List.getElem?_eq_getElem (by omega)
  have h3 := s1 hx _ _ e1 e2
  have h4 := hl.get hi2 e1 (by omega)
  have h5 := hr.get e2 hj2 hj1
  exact ltO.le_trans h4 (ltO.le_trans h3 h5)
theorem sym_done {l r s t : List α} {h x : Nat} (ok : SymOk key l r h x) (hl : sO key l) (hr : sO key r) (hs : sO key s) (ht : sO key t) (cs : Cl key (l.take x ++ r.take (h - x)) s) (ct : Cl key (l.drop x ++ r.drop (h - x)) t) : sO key (s ++ t) ∧ Cl key (l ++ r) (s ++ t) := by
 have hl' := hl
 have hr' := hr
 rw [← List.take_append_drop x l] at hl'
 rw [← List.take_append_drop (h - x) r] at hr'
 have hl2 := (sO.append.1 hl').2.2
 have hr2 := (sO.append.1 hr').2.2
 constructor
 ·refine sO.append.2 ⟨hs, ht, fun a ha b hb => ?_⟩
  rcases List.mem_append.1 (cs.1.mem_iff.2 ha) with ha | ha <;> rcases List.mem_append.1 (ct.1.mem_iff.2 hb) with hb | hb
  ·exact hl2 a ha b hb
  ·exact ok.dn a ha b hb
  ·exact ltO.asym (ok.up b hb a ha)
  ·exact hr2 a ha b hb
 ·have e1 : Cl key (l ++ r) (l.take x ++ r.take (h - x) ++ (l.drop x ++ r.drop (h - x))) := by
   have h1 : l ++ r = l.take x ++ (l.drop x ++ r.take (h - x)) ++ r.drop (h - x) := by
    rw [List.append_assoc, List.append_assoc, List.take_append_drop, ← List.append_assoc, List.take_append_drop]
   have h2 : l.take x ++ r.take (h - x) ++ (l.drop x ++ r.drop (h - x)) = l.take x ++ (r.take (h - x) ++ l.drop x) ++ r.drop (h - x) := by simp only [List.append_assoc]
   rw [h1, h2]
   exact ((Cl.exch ok.up).left _).right _
  exact e1.trans (cs.append ct)
theorem ins_left {r : List α} {x : α} {i : Nat} (hr : sO key r) (h1 : 0 < i → ∀ y, r[i - 1]? = some y → ltO (key y) (key x)) (h2 : ∀ y, r[i]? = some y → ¬ ltO (key y) (key x)) (hi : i ≤ r.length) :
  sO key (r.take i ++ x :: r.drop i) ∧ Cl key (x :: r) (r.take i ++ x :: r.drop i) := by
 have hr' := hr
 rw [← List.take_append_drop i r] at hr'
 obtain ⟨g1, g2, g3⟩ := sO.append.1 hr'
 have k1 : ∀ y ∈ r.take i, ltO (key y) (key x) := fun y hy => by
  obtain ⟨j, hj, hy⟩ := take_get hy
  have e : r[i - 1]? = some r[i - 1] := List.getElem?_eq_getElem (by omega)
  exact ltO.le_lt (hr.get hy e (by omega)) (h1 (by omega) _ e)
 have k2 : ∀ y ∈ r.drop i, ¬ ltO (key y) (key x) := fun y hy => by
  obtain ⟨j, hj, hy⟩ := drop_get hy
  have hjl := (List.getElem?_eq_some_iff.1 hy).1
  have e : r[i]? = some r[i] := List.getElem?_eq_getElem (by omega)
  exact ltO.le_trans (h2 _ e) (hr.get e hy hj)
 constructor
 ·refine sO.append.2 ⟨g1, List.pairwise_cons.2 ⟨k2, g2⟩, fun a ha b hb => ?_⟩
  rcases List.mem_cons.1 hb with rfl | hb
  ·exact ltO.asym (k1 a ha)
  ·exact g3 a ha b hb
 ·have h3 : Cl key ([x] ++ r.take i) (r.take i ++ [x]) := Cl.exch (fun a ha b hb => by rw [List.mem_singleton.1 ha]; exact k1 b hb)
  have h4 := h3.right (r.drop i)
  rw [List.append_assoc, List.take_append_drop, List.append_assoc] at h4
  exact h4
theorem ins_right {l : List α} {x : α} {i : Nat} (hl : sO key l) (h1 : 0 < i → ∀ y, l[i - 1]? = some y → ¬ ltO (key x) (key y)) (h2 : ∀ y, l[i]? = some y → ltO (key x) (key y)) (hi : i ≤ l.length) :
  sO key (l.take i ++ x :: l.drop i) ∧ Cl key (l ++ [x]) (l.take i ++ x :: l.drop i) := by
 have hl' := hl
 rw [← List.take_append_drop i l] at hl'
 obtain ⟨g1, g2, g3⟩ := sO.append.1 hl'
 have k1 : ∀ y ∈ l.take i, ¬ ltO (key x) (key y) := fun y hy => by
  obtain ⟨j, hj, hy⟩ := take_get hy
  have e : l[i - 1]? = some l[i - 1] := List.getElem?_eq_getElem (by omega)
  exact ltO.le_trans (hl.get hy e (by omega)) (h1 (by omega) _ e)
 have k2 : ∀ y ∈ l.drop i, ltO (key x) (key y) := fun y hy => by
  obtain ⟨j, hj, hy⟩ := drop_get hy
  have hjl := (List.getElem?_eq_some_iff.1 hy).1
  have e : l[i]? = some l[i] := List.getElem?_eq_getElem (by omega)
  exact ltO.lt_le (h2 _ e) (hl.get e hy hj)
 constructor
 ·refine sO.append.2 ⟨g1, List.pairwise_cons.2 ⟨fun b hb => ltO.asym (k2 b hb), g2⟩, fun a ha b hb => ?_⟩
  rcases List.mem_cons.1 hb with rfl | hb
  ·exact k1 a ha
  ·exact g3 a ha b hb
 ·have h3 : Cl key (l.drop i ++ [x]) ([x] ++ l.drop i) := Cl.exch (fun a ha b hb => by rw [List.mem_singleton.1 hb]; exact k2 a ha)
  have h4 := h3.left (l.take i)
  rw [← List.append_assoc, List.take_append_drop] at h4
  exact h4
/-! ### Blocks -/
def Bl (key : α → Ko) (bs : Nat) (l : List α) : Prop := ∀ q, sO key ((l.drop (q * bs)).take bs)
theorem Bl.nil (bs : Nat) : Bl key bs ([] : List α) := fun q => by simp; exact sO.nil
theorem Bl.whole {bs : Nat} {l : List α} (h : Bl key bs l) (hl : l.length ≤ bs) : sO key l := by
 have := h 0
 rw [Nat.zero_mul, List.drop_zero, List.take_of_length_le hl] at this
 exact this
theorem Bl.drop {bs q : Nat} {l : List α} (h : Bl key bs l) : Bl key bs (l.drop (q * bs)) := fun q' => by
 rw [List.drop_drop, ← Nat.add_mul]
 exact h (q + q')
theorem Bl.snoc {bs q : Nat} {l s : List α} (h : Bl key bs l) (hq : l.length = q * bs) (hs : sO key s) (hb : s.length ≤ bs) : Bl key bs (l ++ s) := by
 intro q'
 by_cases hlt : q' < q
 ·have h1 : q' * bs + bs ≤ l.length := by rw [hq, ← Nat.succ_mul]; exact Nat.mul_le_mul_right _ hlt
  rw [List.drop_append_of_le_length (by omega), List.take_append_of_le_length (by rw [List.length_drop]; omega)]
  exact h q'
 ·have h1 : l.length ≤ q' * bs := by rw [hq]; exact Nat.mul_le_mul_right _ (by omega)
  rw [List.drop_append, List.drop_of_length_le h1, List.nil_append]
  exact (hs.sublist (List.drop_sublist _ _)).sublist (List.take_sublist _ _)
theorem Bl.two {bs : Nat} {l : List α} (h : Bl key bs l) : sO key (l.take bs) ∧ sO key ((l.drop bs).take bs) := by
 have h0 := h 0
 have h1 := h 1
 rw [Nat.zero_mul, List.drop_zero] at h0
 rw [Nat.one_mul] at h1
 exact ⟨h0, h1⟩
end
end Go.Proofs.Ytaiakklflmhpmaa.K

namespace Go.Proofs.Ytaiakklflmhpmaa.K
open Go.RowKit Go.Proofs.YtaiakklflmhpmaaW.PrintWords Go.Proofs.YtaiakklflmhpmaaW.PrintLast Go.Proofs.YtaiakklflmhpmaaW.PrintMore
set_option linter.unusedVariables false
set_option linter.unusedSimpArgs false

abbrev Oe := X.S31
/-- An entry and its body's slice. -/
structure QP where
 e : Oe
 A : Option Addr
 c : Nat
abbrev QP.b (p : QP) : Value := .slice p.A p.e.f6.length p.c
def qC (p : QP) : List Value := [.int .i64 p.e.f0, .int .i64 p.e.f1.f0, .int .i64 p.e.f1.f1, .int .i64 p.e.f2.f0, .int .i64 p.e.f2.f1, .int .i64 p.e.f3.f0, .int .i64 p.e.f3.f1, .bool p.e.f4, .string p.e.f5, .slice p.A p.e.f6.length p.c]
def qV (p : QP) : Value := .agg #[.int .i64 p.e.f0, .int .i64 p.e.f1.f0, .int .i64 p.e.f1.f1, .int .i64 p.e.f2.f0, .int .i64 p.e.f2.f1, .int .i64 p.e.f3.f0, .int .i64 p.e.f3.f1, .bool p.e.f4, .string p.e.f5, .slice p.A p.e.f6.length p.c]
def flQ (ps : List QP) : List Value := ps.flatMap qC
theorem flQ_cons (p : QP) (ps : List QP) : flQ (p :: ps) = qC p ++ flQ ps := by simp [flQ]
theorem flQ_append (a b : List QP) : flQ (a ++ b) = flQ a ++ flQ b := by simp [flQ]
theorem flQ_get : ∀ (ps : List QP) (m : Nat), (flQ ps)[m]? = (ps[m / 10]?).bind (fun p => (qC p)[m % 10]?)
 | [], m => by simp [flQ]
 | p :: r, m => by
  rw [flQ_cons]
  by_cases h : m < 10
  ·rw [List.getElem?_append_left (by simpa [qC] using h), show m / 10 = 0 by omega, show m % 10 = m by omega]
   rfl
  ·rw [List.getElem?_append_right (by simp [qC]; omega), show (qC p).length = 10 from rfl, flQ_get r (m - 10), show m / 10 = (m - 10) / 10 + 1 by omega, show (m - 10) % 10 = m % 10 by omega, List.getElem?_cons_succ]
theorem flQ_length (ps : List QP) : (flQ ps).length = ps.length * 10 := by
 induction ps with
 | nil => rfl
 | cons p r ih =>
  rw [flQ_cons, List.length_append, ih, show (qC p).length = 10 from rfl, List.length_cons]
  omega
def setA (cur : Array Value) (o : Nat) : List Value → Array Value
 | [] => cur
 | v :: r => setA (cur.setIfInBounds o v) (o + 1) r
theorem setA_size (cur : Array Value) (o : Nat) (l : List Value) : (setA cur o l).size = cur.size := by
 induction l generalizing cur o with
 | nil => rfl
 | cons v r ih =>
  show (setA (cur.setIfInBounds o v) (o + 1) r).size = _
  rw [ih, Array.size_setIfInBounds]
theorem setA_get (cur : Array Value) (o : Nat) (l : List Value) (m : Nat) (hs : o + l.length ≤ cur.size) : (setA cur o l)[m]? = if o ≤ m ∧ m < o + l.length then l[m - o]? else cur[m]? := by
 induction l generalizing cur o with
 | nil =>
  show cur[m]? = _
  rw [if_neg (by intro h; simp at h; omega)]
 | cons v r ih =>
  show (setA (cur.setIfInBounds o v) (o + 1) r)[m]? = _
  simp only [List.length_cons] at hs ⊢
  rw [ih _ _ (by rw [Array.size_setIfInBounds]; omega)]
  by_cases h1 : o + 1 ≤ m ∧ m < o + 1 + r.length
  ·rw [if_pos h1, if_pos (by omega), show m - o = (m - (o + 1)) + 1 by omega, List.getElem?_cons_succ]
  ·rw [if_neg h1]
   by_cases h2 : m = o
   ·subst h2
    rw [if_pos (by omega), Array.getElem?_setIfInBounds_self, if_pos (by omega), Nat.sub_self]
    rfl
   ·rw [if_neg (by omega), Array.getElem?_setIfInBounds_ne (Ne.symm h2)]
theorem heap_set10 {W : World} {g t : Nat} {cur : Array Value} (h : W.heap[g]? = some (.cells cur t (0, 0))) (o : Nat) (p : QP) :
  ((((((((((W.setCell ⟨g, o, none⟩ (.int .i64 p.e.f0)).setCell ⟨g, o + 1, none⟩ (.int .i64 p.e.f1.f0)).setCell ⟨g, o + 2, none⟩ (.int .i64 p.e.f1.f1)).setCell ⟨g, o + 3, none⟩ (.int .i64 p.e.f2.f0)).setCell ⟨g, o + 4, none⟩ (.int .i64 p.e.f2.f1)).setCell ⟨g, o + 5, none⟩ (.int .i64 p.e.f3.f0)).setCell ⟨g, o + 6, none⟩ (.int .i64 p.e.f3.f1)).setCell ⟨g, o + 7, none⟩ (.bool p.e.f4)).setCell ⟨g, o + 8, none⟩ (.string p.e.f5)).setCell ⟨g, o + 9, none⟩ (.slice p.A p.e.f6.length p.c)).heap[g]? = some (.cells (setA cur o (qC p)) t (0, 0)) :=
 (blk_set (blk_set (blk_set (blk_set (blk_set (blk_set (blk_set (blk_set (blk_set (blk_set h o _) (o + 1) _) (o + 2) _) (o + 3) _) (o + 4) _) (o + 5) _) (o + 6) _) (o + 7) _) (o + 8) _) (o + 9) _)
theorem take_set {cur : Array Value} {ps : List QP} (hc : cur.toList.take (ps.length * 10) = flQ ps) (hs : ps.length * 10 ≤ cur.size) (i : Nat) (hi : i < ps.length) (p : QP) :
  (setA cur (i * 10) (qC p)).toList.take ((ps.set i p).length * 10) = flQ (ps.set i p) := by
 apply List.ext_getElem?
 intro m
 rw [List.length_set, List.getElem?_take, flQ_get, Array.getElem?_toList, setA_get _ _ _ _ (by show i * 10 + 10 ≤ _; omega)]
 have h0 := congrArg (fun l => l[m]?) hc
 simp only [List.getElem?_take, Array.getElem?_toList, flQ_get] at h0
 by_cases hm : m < ps.length * 10
 ·rw [if_pos hm] at h0 ⊢
  by_cases h1 : i * 10 ≤ m ∧ m < i * 10 + (qC p).length
  ·have h8 : (qC p).length = 10 := rfl
   rw [if_pos h1, show m / 10 = i by omega, List.getElem?_set_self (by omega), show m % 10 = m - i * 10 by omega]
   rfl
  ·have h8 : (qC p).length = 10 := rfl
   rw [if_neg h1, List.getElem?_set_ne (by omega)]
   exact h0
 ·rw [if_neg hm, List.getElem?_eq_none (by rw [List.length_set]; omega)]
  rfl
/-- What may have changed. -/
structure Fr (w w' : World) (S : Nat → Prop) : Prop where
 os : w'.os = w.os
 tape : w'.tape = w.tape
 output : w'.output = w.output
 size : w.heap.size ≤ w'.heap.size
 block : ∀ k, k < w.heap.size → ¬ S k → w'.heap[k]? = w.heap[k]?
theorem Fr.refl (w : World) (S : Nat → Prop) : Fr w w S := ⟨rfl, rfl, rfl, Nat.le_refl _, fun _ _ _ => rfl⟩
theorem Fr.trans {a b c : World} {S T : Nat → Prop} (h : Fr a b S) (k : Fr b c T) (hT : ∀ q, q < a.heap.size → T q → S q) : Fr a c S :=
 ⟨k.os.trans h.os, k.tape.trans h.tape, k.output.trans h.output, Nat.le_trans h.size k.size, fun i hi hn => (k.block i (Nat.lt_of_lt_of_le hi h.size) (fun ht => hn (hT i hi ht))).trans (h.block i hi hn)⟩
theorem Fr.mono {a b : World} {S T : Nat → Prop} (h : Fr a b S) (hk : ∀ k, k < a.heap.size → S k → T k) : Fr a b T := ⟨h.os, h.tape, h.output, h.size, fun i hi hn => h.block i hi (fun ho => hn (hk i hi ho))⟩
theorem Fr.ofBelow {a b : World} (S : Nat → Prop) (h : Below a.heap.size a b) : Fr a b S := ⟨h.os, h.tape, h.output, h.size, fun i hi _ => h.block i hi⟩
theorem Fr.below {w0 a b : World} {S : Nat → Prop} (h : Fr a b S) (hB : Below w0.heap.size w0 a) (hk : ∀ k, S k → w0.heap.size ≤ k) : Below w0.heap.size w0 b :=
 ⟨h.os.trans hB.os, h.tape.trans hB.tape, h.output.trans hB.output, Nat.le_trans hB.size h.size, fun i hi => (h.block i (Nat.lt_of_lt_of_le hi hB.size) (fun ho => by have := hk i ho; omega)).trans (hB.block i hi)⟩
theorem Fr.set {w w' : World} {S : Nat → Prop} (h : Fr w w' S) {g : Nat} (hg : S g ∨ w.heap.size ≤ g) (i : Nat) (u : Value) : Fr w (w'.setCell ⟨g, i, none⟩ u) S :=
 ⟨h.os, h.tape, h.output, by simpa [World.setCell] using h.size, fun k hk hn => by
  refine (Below.heap_setCell w' ⟨g, i, none⟩ u k ?_).trans (h.block k hk hn)
  rintro rfl
  rcases hg with hg | hg
  ·exact hn hg
  ·exact absurd (Nat.lt_of_lt_of_le hk hg) (Nat.lt_irrefl _)⟩
theorem Fr.blk {w w' : World} {S : Nat → Prop} (h : Fr w w' S) {g : Nat} {o : Obj} (hg : w.heap[g]? = some o) (hn : ¬ S g) : w'.heap[g]? = some o := (h.block g (blk_lt hg) hn).trans hg
theorem Own.fr {w w' : World} {S : Nat → Prop} {base : Nat} {b : Value} {l : List Int} (h : Own w base b l) (hf : Fr w w' S) (hn : ∀ k, b.ownBlock = some k → ¬ S k) : Own w' base b l :=
 Kd.R_of_own (own_move (Kd.own_of_R h) (fun k hk => hf.block k (Kd.R_lt h k hk) (hn k hk))) (fun _ _ => trivial)
/-- A row of entries of the call's own. -/
structure QlR (W : World) (base : Nat) (v : Value) (ps : List QP) : Prop where
 row : W.ownsRow base 31 10 v ps.length (flQ ps)
 bod : ∀ p ∈ ps, Own W base p.b p.e.f6
theorem QlR.nil (W : World) (base : Nat) : QlR W base (.slice none 0 0) [] := ⟨own_nil _ _ _ _, fun p hp => by simp at hp⟩
theorem QlR.fr {w w' : World} {S : Nat → Prop} {base : Nat} {v : Value} {ps : List QP} (h : QlR w base v ps) (hf : Fr w w' S) (hv : ∀ k, v.ownBlock = some k → ¬ S k) (hn : ∀ p ∈ ps, ∀ k, p.b.ownBlock = some k → ¬ S k) : QlR w' base v ps :=
 ⟨own_move h.row (fun k hk => hf.block k (own_lt h.row k hk) (hv k hk)), fun p hp => Own.fr (h.bod p hp) hf (hn p hp)⟩
theorem QlR.below {w w' : World} {base : Nat} {v : Value} {ps : List QP} (h : QlR w base v ps) (hb : Below w.heap.size w w') : QlR w' base v ps := h.fr (Fr.ofBelow (fun _ => False) hb) (fun _ _ h => h) (fun _ _ _ _ h => h)
/-- Blocks of another type hold no body. -/
theorem Own.typed {w : World} {base : Nat} {b : Value} {l : List Int} (h : Own w base b l) {g t : Nat} {cs : Array Value} (hg : w.heap[g]? = some (.cells cs t (0, 0))) (ht : t ≠ 5) (k : Nat) (hk : b.ownBlock = some k) : k ≠ g := by
 rintro rfl
 exact Kd.R_ne h hg (Ne.symm ht) hk.symm
theorem QlR.typed {w : World} {base : Nat} {v : Value} {ps : List QP} (h : QlR w base v ps) (k : Nat) (hk : v.ownBlock = some k) : ∃ cs, w.heap[k]? = some (.cells cs 31 (0, 0)) := own_typed h.row k hk
/-- The frame of a pile's own ways: its header's block, its row. -/
def SP (pb : Nat) (v : Value) : Nat → Prop := fun k => k = pb ∨ v.ownBlock = some k
theorem QlR.slice {w : World} {base : Nat} {v : Value} {ps : List QP} (h : QlR w base v ps) : v = .slice none 0 0 ∧ ps = [] ∨ ∃ g cap cur, v = .slice (some ⟨g, 0, none⟩) ps.length cap ∧ base ≤ g ∧ w.heap[g]? = some (.cells cur 31 (0, 0)) ∧ ps.length ≤ cap ∧ cap ≤ maxLen ∧ cur.size = cap * 10 ∧ cur.toList.take (ps.length * 10) = flQ ps := by
 rcases h.row.2 with ⟨h1, h2⟩ | ⟨g, cap, cur, h1, h2, h3, h4, h5, h6, h7⟩
 ·exact .inl ⟨h1, List.eq_nil_of_length_eq_zero h2⟩
 ·exact .inr ⟨g, cap, cur, h1, h2, h3, h4, h5, h6, h7⟩
theorem cur_at {cur : Array Value} {ps : List QP} (hc : cur.toList.take (ps.length * 10) = flQ ps) {j : Nat} {p : QP} (hp : ps[j]? = some p) (q : Nat) (u : Value) (hu : (qC p)[q]? = some u) : cur[j * 10 + q]? = some u := by
 have hq : q < 10 := (List.getElem?_eq_some_iff.1 hu).1
 have hj := (List.getElem?_eq_some_iff.1 hp).1
 have h0 := congrArg (fun l => l[j * 10 + q]?) hc
 simp only [List.getElem?_take, Array.getElem?_toList, flQ_get] at h0
 rw [if_pos (by omega), show (j * 10 + q) / 10 = j by omega, show (j * 10 + q) % 10 = q by omega, hp] at h0
 exact h0.trans hu
/-- The row reads as its entries. -/
theorem QlR.reads {w : World} {base : Nat} {v : Value} {ps : List QP} (h : QlR w base v ps) : ∃ A c, v = .slice A ps.length c ∧ ps.length ≤ c ∧ Kd.C X.k31 w A (ps.map (·.e)).length (ps.map (·.e)) := by
 rcases h.slice with ⟨rfl, rfl⟩ | ⟨g, cap, cur, rfl, h2, h3, h4, h5, h6, h7⟩
 ·exact ⟨none, 0, rfl, Nat.le_refl _, Kd.C_nil _ _⟩
 ·refine ⟨_, _, rfl, h4, ⟨rfl, by rw [List.length_map]; exact Nat.le_trans h4 h5, fun hp => ⟨_, rfl, fun j x hx => ?_⟩⟩⟩
  rw [List.getElem?_map, Option.map_eq_some_iff] at hx
  obtain ⟨p, hp', rfl⟩ := hx
  obtain ⟨_, hl, hC⟩ := Kd.R_reads' (h.bod p (List.mem_of_getElem? hp'))
  refine ⟨qC p, rfl, ?_, fun q u hu => ?_⟩
  ·exact X.k31_mk w p.e hl hC
  ·rw [Addr.add_lit, Nat.zero_add, blk_cell h3]
   exact cur_at h7 hp' q u hu
theorem gen_world {P : Program} {C : Code} {Q : Exit → Act → World → Prop} {a : Act} {w : World} (h : ∀ W, W = w → C.wp P Q a W) : C.wp P Q a w := h w rfl
theorem gen_bp {P : Program} {f : Func} {Q : Ending → World → Prop} {x : Exit} {a : Act} {w : World} (h : ∀ W, W = w → bodyPost P f Q x a W) : bodyPost P f Q x a w := h w rfl
theorem gen_K {K : Act → World → Prop} {a : Act} {w : World} (h : ∀ W, W = w → K a W) : K a w := h w rfl
theorem Fr.drew {w w' : World} {S : Nat → Prop} (h : Fr w w' S) : Fr w w'.drew S := ⟨h.os, h.tape, h.output, h.size, h.block⟩
theorem Fr.setg {w w' : World} {g : Nat} (h : Fr w w' (fun k => k = g)) (i : Nat) (u : Value) : Fr w (w'.setCell ⟨g, i, none⟩ u) (fun k => k = g) := h.set (.inl rfl) i u
theorem cellsQ {W : World} {g t i : Nat} {cur : Array Value} (h : W.heap[g]? = some (.cells cur t (0, 0))) (hs : i * 10 + 10 ≤ cur.size) :
  ∃ u0 u1 u2 u3 u4 u5 u6 u7 u8 u9, W.cell? ⟨g, i * 10, none⟩ = some u0 ∧ W.cell? ⟨g, i * 10 + 1, none⟩ = some u1 ∧ W.cell? ⟨g, i * 10 + 2, none⟩ = some u2 ∧ W.cell? ⟨g, i * 10 + 3, none⟩ = some u3 ∧ W.cell? ⟨g, i * 10 + 4, none⟩ = some u4 ∧ W.cell? ⟨g, i * 10 + 5, none⟩ = some u5 ∧ W.cell? ⟨g, i * 10 + 6, none⟩ = some u6 ∧ W.cell? ⟨g, i * 10 + 7, none⟩ = some u7 ∧ W.cell? ⟨g, i * 10 + 8, none⟩ = some u8 ∧ W.cell? ⟨g, i * 10 + 9, none⟩ = some u9 ∧ W.frozen? ⟨g, i * 10, none⟩ = false ∧ W.frozen? ⟨g, i * 10 + 1, none⟩ = false ∧ W.frozen? ⟨g, i * 10 + 2, none⟩ = false ∧ W.frozen? ⟨g, i * 10 + 3, none⟩ = false ∧ W.frozen? ⟨g, i * 10 + 4, none⟩ = false ∧ W.frozen? ⟨g, i * 10 + 5, none⟩ = false ∧ W.frozen? ⟨g, i * 10 + 6, none⟩ = false ∧ W.frozen? ⟨g, i * 10 + 7, none⟩ = false ∧ W.frozen? ⟨g, i * 10 + 8, none⟩ = false ∧ W.frozen? ⟨g, i * 10 + 9, none⟩ = false := by
 have e : ∀ q, q < 10 → ∃ u, W.cell? ⟨g, i * 10 + q, none⟩ = some u := fun q hq => ⟨_, (blk_cell h _).trans (Array.getElem?_eq_getElem (show i * 10 + q < cur.size by omega))⟩
 obtain ⟨u0, h0⟩ := e 0 (by omega)
 obtain ⟨u1, h1⟩ := e 1 (by omega)
 obtain ⟨u2, h2⟩ := e 2 (by omega)
 obtain ⟨u3, h3⟩ := e 3 (by omega)
 obtain ⟨u4, h4⟩ := e 4 (by omega)
 obtain ⟨u5, h5⟩ := e 5 (by omega)
 obtain ⟨u6, h6⟩ := e 6 (by omega)
 obtain ⟨u7, h7⟩ := e 7 (by omega)
 obtain ⟨u8, h8⟩ := e 8 (by omega)
 obtain ⟨u9, h9⟩ := e 9 (by omega)
 exact ⟨u0, u1, u2, u3, u4, u5, u6, u7, u8, u9, h0, h1, h2, h3, h4, h5, h6, h7, h8, h9, blk_frozen h _, blk_frozen h _, blk_frozen h _, blk_frozen h _, blk_frozen h _, blk_frozen h _, blk_frozen h _, blk_frozen h _, blk_frozen h _, blk_frozen h _⟩
/-- A row of entries, their bytes wherever they are. -/
structure QRow (W : World) (base : Nat) (v : Value) (ps : List QP) : Prop where
 row : W.ownsRow base 31 10 v ps.length (flQ ps)
theorem QRow.nil (W : World) (base : Nat) : QRow W base (.slice none 0 0) [] := ⟨own_nil _ _ _ _⟩
theorem QRow.fr {w W : World} {S : Nat → Prop} {base : Nat} {v : Value} {ps : List QP} (h : QRow w base v ps) (hf : Fr w W S) (hv : ∀ k, v.ownBlock = some k → ¬ S k) : QRow W base v ps := ⟨own_move h.row (fun k hk => hf.block k (own_lt h.row k hk) (hv k hk))⟩
theorem QRow.below {w W : World} {base : Nat} {v : Value} {ps : List QP} (h : QRow w base v ps) (hb : Below w.heap.size w W) : QRow W base v ps := h.fr (Fr.ofBelow (fun _ => False) hb) (fun _ _ h => h)
theorem QRow.lt {w : World} {base : Nat} {v : Value} {ps : List QP} (h : QRow w base v ps) (k : Nat) (hk : v.ownBlock = some k) : k < w.heap.size := own_lt h.row k hk
theorem QRow.slice {w : World} {base : Nat} {v : Value} {ps : List QP} (h : QRow w base v ps) : v = .slice none 0 0 ∧ ps = [] ∨ ∃ g cap cur, v = .slice (some ⟨g, 0, none⟩) ps.length cap ∧ base ≤ g ∧ w.heap[g]? = some (.cells cur 31 (0, 0)) ∧ ps.length ≤ cap ∧ cap ≤ maxLen ∧ cur.size = cap * 10 ∧ cur.toList.take (ps.length * 10) = flQ ps := by
 rcases h.row.2 with ⟨h1, h2⟩ | ⟨g, cap, cur, h1, h2, h3, h4, h5, h6, h7⟩
 ·exact .inl ⟨h1, List.eq_nil_of_length_eq_zero h2⟩
 ·exact .inr ⟨g, cap, cur, h1, h2, h3, h4, h5, h6, h7⟩
theorem QRow.form {w : World} {base : Nat} {v : Value} {ps : List QP} (h : QRow w base v ps) : ∃ A c, v = .slice A ps.length c := by
 rcases h.slice with ⟨h1, h2⟩ | ⟨g, cap, cur, h1, _⟩
 ·exact ⟨none, 0, by rw [h1, h2]; rfl⟩
 ·exact ⟨_, cap, h1⟩
theorem cells_atQ {W : World} {g t : Nat} {cur : Array Value} {ps : List QP} (h : W.heap[g]? = some (.cells cur t (0, 0))) (hc : cur.toList.take (ps.length * 10) = flQ ps) {i : Nat} {p : QP} (hp : ps[i]? = some p) :
  W.cell? ⟨g, i * 10, none⟩ = some (.int .i64 p.e.f0) ∧ W.cell? ⟨g, i * 10 + 1, none⟩ = some (.int .i64 p.e.f1.f0) ∧ W.cell? ⟨g, i * 10 + 2, none⟩ = some (.int .i64 p.e.f1.f1) ∧ W.cell? ⟨g, i * 10 + 3, none⟩ = some (.int .i64 p.e.f2.f0) ∧ W.cell? ⟨g, i * 10 + 4, none⟩ = some (.int .i64 p.e.f2.f1) ∧ W.cell? ⟨g, i * 10 + 5, none⟩ = some (.int .i64 p.e.f3.f0) ∧ W.cell? ⟨g, i * 10 + 6, none⟩ = some (.int .i64 p.e.f3.f1) ∧ W.cell? ⟨g, i * 10 + 7, none⟩ = some (.bool p.e.f4) ∧ W.cell? ⟨g, i * 10 + 8, none⟩ = some (.string p.e.f5) ∧ W.cell? ⟨g, i * 10 + 9, none⟩ = some (.slice p.A p.e.f6.length p.c) :=
 ⟨(blk_cell h _).trans (cur_at hc hp 0 _ rfl), (blk_cell h _).trans (cur_at hc hp 1 _ rfl), (blk_cell h _).trans (cur_at hc hp 2 _ rfl), (blk_cell h _).trans (cur_at hc hp 3 _ rfl), (blk_cell h _).trans (cur_at hc hp 4 _ rfl), (blk_cell h _).trans (cur_at hc hp 5 _ rfl), (blk_cell h _).trans (cur_at hc hp 6 _ rfl), (blk_cell h _).trans (cur_at hc hp 7 _ rfl), (blk_cell h _).trans (cur_at hc hp 8 _ rfl), (blk_cell h _).trans (cur_at hc hp 9 _ rfl)⟩
theorem QRow.at {w : World} {base n : Nat} {A : Option Addr} {c : Nat} {ps : List QP} (h : QRow w base (.slice A n c) ps) {i : Nat} {p : QP} (hp : ps[i]? = some p) :
  ∃ gr, A = some ⟨gr, 0, none⟩ ∧ w.cell? ⟨gr, i * 10, none⟩ = some (.int .i64 p.e.f0) ∧ w.cell? ⟨gr, i * 10 + 1, none⟩ = some (.int .i64 p.e.f1.f0) ∧ w.cell? ⟨gr, i * 10 + 2, none⟩ = some (.int .i64 p.e.f1.f1) ∧ w.cell? ⟨gr, i * 10 + 3, none⟩ = some (.int .i64 p.e.f2.f0) ∧ w.cell? ⟨gr, i * 10 + 4, none⟩ = some (.int .i64 p.e.f2.f1) ∧ w.cell? ⟨gr, i * 10 + 5, none⟩ = some (.int .i64 p.e.f3.f0) ∧ w.cell? ⟨gr, i * 10 + 6, none⟩ = some (.int .i64 p.e.f3.f1) ∧ w.cell? ⟨gr, i * 10 + 7, none⟩ = some (.bool p.e.f4) ∧ w.cell? ⟨gr, i * 10 + 8, none⟩ = some (.string p.e.f5) ∧ w.cell? ⟨gr, i * 10 + 9, none⟩ = some (.slice p.A p.e.f6.length p.c) := by
 rcases h.slice with ⟨h1, h2⟩ | ⟨g, cap, cur, h1, hbg, hcur, hnc, hcm, hsz, htk⟩
 ·subst h2
  simp at hp
 ·injection h1 with h1 _ _
  exact ⟨g, h1, cells_atQ hcur htk hp⟩
end Go.Proofs.Ytaiakklflmhpmaa.K

namespace Go.Proofs.Ytaiakklflmhpmaa.K
open Go.RowKit Go.Proofs.YtaiakklflmhpmaaW.PrintWords Go.Proofs.YtaiakklflmhpmaaW.PrintLast Go.Proofs.YtaiakklflmhpmaaW.PrintMore
set_option linter.unusedVariables false
set_option linter.unusedSimpArgs false

theorem w64 {x y : Int} (h : x = y) (k : -1000000 ≤ y ∧ y ≤ 1000000) : wrap64 x = y := by
 subst h
 unfold wrap64
 rw [Int.emod_eq_of_lt (by omega) (by omega)]
 omega
theorem iw {x y : Int} (h : x = y) (k : -1000000 ≤ y ∧ y ≤ 1000000) : IntKind.i64.wrap x = y := by
 rw [i64_w]
 exact w64 h k
/-- A shorter row. -/
def cmpS (t1 w1 t2 w2 : Int) : Int := if t1 < t2 then -1 else if t2 < t1 then 1 else if w1 < w2 then -1 else if w2 < w1 then 1 else 0
theorem or_f (x y : Int) : X.cmp_Or_int.f 3 [x, y] = some (if x = 0 then y else x) := by
 unfold X.cmp_Or_int.f
 simp only [X.cmp_Or_int.l0, List.length_cons, List.length_nil, rd]
 have e1 : wrap64 1 = 1 := by unfold wrap64; omega
 have e2 : wrap64 2 = 2 := by unfold wrap64; omega
 by_cases hx : x = 0 <;> by_cases hy : y = 0 <;> simp [hx, hy, e1, e2]
theorem cmpi_f (x y : Int) : X.cmp_Compare_int.f x y = some (if x < y then -1 else if y < x then 1 else 0) := by
 unfold X.cmp_Compare_int.f X.cmp_isNaN_int.f
 simp
 (repeat' split) <;> simp_all <;> omega
theorem cmp64_f (x y : Int) : X.cmp_Compare_int64.f x y = some (if x < y then -1 else if y < x then 1 else 0) := by
 unfold X.cmp_Compare_int64.f X.cmp_isNaN_int64.f
 simp
 (repeat' split) <;> simp_all <;> omega
theorem scompare_f (a b c d : Int) : X.stamp_Compare.f 3 a b c d = some (cmpS a b c d) := by
 unfold X.stamp_Compare.f
 rw [cmpi_f, cmp64_f]
 simp only [Option.bind_some]
 rw [or_f]
 simp only [Option.bind_some, cmpS]
 congr 1
 (repeat' split) <;> simp_all <;> omega
/-- A call of a function value, as a step of a region that draws its order. -/
theorem goesv_ {P : Program} {ops : Array Oper} {Q : Exit → Act → World → Prop} {oi : Oper} {N : Option Tmp} {a : Act} {w : World} {K : Act → World → Prop} {f : FuncId} {fn : Func} {o : Operand} {xs : Array Operand} {ts : Array TypeId} (hf : P.funcs[f]? = some fn) (hname : (fn.name == "runtime.NumGoroutine") = false) (hb : fn.body.isSome = true) (args : Array Value)
  (hw : Region.wanted oi (yielded ops a.tmps) = true) (hN : oi.dst = N) (hop : oi.op = .call { callee := .value o, args := xs, argTypes := ts }) (hv : a.eval o = .func (.func f) #[] #[]) (hargs : xs.map a.eval = args)
  (h : Calls P f args w fun e w' => ∃ v, e = .returned v ∧ K (a.put N v) w') : if Region.wanted oi (yielded ops a.tmps) = true then Oper.wp P oi a w K Q else K (a.put N undef) w := by
 refine call_ f args hw hN ?_ h
 have he := enters_ hf hname hb args w
 unfold execOp
 simp [hop, resolve, Deferred.ofValue, invoke, hv, hargs, he]
/-- When an operation was. -/
def kO (p : QP) : Ko := (p.e.f1.f0, p.e.f1.f1)
def cmO (p q : QP) : Int := cmpS p.e.f1.f0 p.e.f1.f1 q.e.f1.f0 q.e.f1.f1
theorem cmO_lt (p q : QP) : cmO p q < 0 ↔ ltO (kO p) (kO q) := by
 unfold cmO cmpS ltO kO
 (repeat' split) <;> simp <;> omega
theorem cmpo_calls (p q : QP) (w : World) (hp : Rd w p.b p.e.f6) (hq : Rd w q.b q.e.f6) :
  Calls Try.prog 21 #[.agg #[.int .i64 p.e.f0, .int .i64 p.e.f1.f0, .int .i64 p.e.f1.f1, .int .i64 p.e.f2.f0, .int .i64 p.e.f2.f1, .int .i64 p.e.f3.f0, .int .i64 p.e.f3.f1, .bool p.e.f4, .string p.e.f5, .slice p.A p.e.f6.length p.c], .agg #[.int .i64 q.e.f0, .int .i64 q.e.f1.f0, .int .i64 q.e.f1.f1, .int .i64 q.e.f2.f0, .int .i64 q.e.f2.f1, .int .i64 q.e.f3.f0, .int .i64 q.e.f3.f1, .bool q.e.f4, .string q.e.f5, .slice q.A q.e.f6.length q.c]] w fun e w' => e = .returned (.int .i64 (cmO p q)) ∧ Below w.heap.size w w' := by
 obtain ⟨A, c, hv, hc, hC⟩ := hp
 injection hv with h1 h2 h3
 subst h1 h3
 obtain ⟨A, c, hv, hc', hC'⟩ := hq
 injection hv with h1 h2 h3
 subst h1 h3
 have hf : X.op_compare.f 3 p.e.f0 p.e.f1.f0 p.e.f1.f1 p.e.f2.f0 p.e.f2.f1 p.e.f3.f0 p.e.f3.f1 p.e.f4 p.e.f5 p.e.f6 q.e.f0 q.e.f1.f0 q.e.f1.f1 q.e.f2.f0 q.e.f2.f1 q.e.f3.f0 q.e.f3.f1 q.e.f4 q.e.f5 q.e.f6 = some (cmO p q) := by
  unfold X.op_compare.f
  rw [scompare_f]
  rfl
 refine (X.op_compare.calls 3 p.e.f0 p.e.f1.f0 p.e.f1.f1 p.e.f2.f0 p.e.f2.f1 p.e.f3.f0 p.e.f3.f1 p.e.f4 p.e.f5 p.A p.c p.e.f6 q.e.f0 q.e.f1.f0 q.e.f1.f1 q.e.f2.f0 q.e.f2.f1 q.e.f3.f0 q.e.f3.f1 q.e.f4 q.e.f5 q.A q.c q.e.f6 _ w hC hc hC' hc' hf).mono ?_
 rintro e w' ⟨h1, h2⟩
 exact ⟨h1, by first | exact h2 | exact h2.below⟩
/-- .. as a comparison's value alone. -/
theorem cmpo_lt (p q : QP) (w : World) (hp : Rd w p.b p.e.f6) (hq : Rd w q.b q.e.f6) (h : ltO (kO p) (kO q)) :
  Calls Try.prog 21 #[.agg #[.int .i64 p.e.f0, .int .i64 p.e.f1.f0, .int .i64 p.e.f1.f1, .int .i64 p.e.f2.f0, .int .i64 p.e.f2.f1, .int .i64 p.e.f3.f0, .int .i64 p.e.f3.f1, .bool p.e.f4, .string p.e.f5, .slice p.A p.e.f6.length p.c], .agg #[.int .i64 q.e.f0, .int .i64 q.e.f1.f0, .int .i64 q.e.f1.f1, .int .i64 q.e.f2.f0, .int .i64 q.e.f2.f1, .int .i64 q.e.f3.f0, .int .i64 q.e.f3.f1, .bool q.e.f4, .string q.e.f5, .slice q.A q.e.f6.length q.c]] w fun e w' => ∃ r : Int, e = .returned (.int .i64 r) ∧ decide (r < 0) = true ∧ r < 0 ∧ Below w.heap.size w w' :=
 (cmpo_calls p q w hp hq).mono (fun e w' ⟨h1, h2⟩ => ⟨_, h1, decide_eq_true ((cmO_lt p q).2 h), (cmO_lt p q).2 h, h2⟩)
theorem cmpo_ge (p q : QP) (w : World) (hp : Rd w p.b p.e.f6) (hq : Rd w q.b q.e.f6) (h : ¬ ltO (kO p) (kO q)) :
  Calls Try.prog 21 #[.agg #[.int .i64 p.e.f0, .int .i64 p.e.f1.f0, .int .i64 p.e.f1.f1, .int .i64 p.e.f2.f0, .int .i64 p.e.f2.f1, .int .i64 p.e.f3.f0, .int .i64 p.e.f3.f1, .bool p.e.f4, .string p.e.f5, .slice p.A p.e.f6.length p.c], .agg #[.int .i64 q.e.f0, .int .i64 q.e.f1.f0, .int .i64 q.e.f1.f1, .int .i64 q.e.f2.f0, .int .i64 q.e.f2.f1, .int .i64 q.e.f3.f0, .int .i64 q.e.f3.f1, .bool q.e.f4, .string q.e.f5, .slice q.A q.e.f6.length q.c]] w fun e w' => ∃ r : Int, e = .returned (.int .i64 r) ∧ decide (r < 0) = false ∧ ¬ r < 0 ∧ Below w.heap.size w w' :=
 (cmpo_calls p q w hp hq).mono (fun e w' ⟨h1, h2⟩ => ⟨_, h1, decide_eq_false (fun e => h ((cmO_lt p q).1 e)), fun e => h ((cmO_lt p q).1 e), h2⟩)
/-- A row while it is sorted. -/
structure Srt (w W : World) (base gr n cap : Nat) (ps : List QP) : Prop where
 row : QlR W base (.slice (some ⟨gr, 0, none⟩) n cap) ps
 len : ps.length = n
 fr : Fr w W (fun k => k = gr)
section
variable {w W X : World} {base gr n cap : Nat} {ps : List QP}
theorem Srt.below (h : Srt w W base gr n cap ps) (hb : Below W.heap.size W X) : Srt w X base gr n cap ps := ⟨h.row.below hb, h.len, h.fr.trans (Fr.ofBelow (fun _ => False) hb) (fun _ _ h => h.elim)⟩
theorem Srt.rd (h : Srt w W base gr n cap ps) {i : Nat} {p : QP} (hp : ps[i]? = some p) : Rd W p.b p.e.f6 := Own.rd (h.row.bod p (List.mem_of_getElem? hp))
theorem Srt.lt (h : Srt w W base gr n cap ps) {i : Nat} {p : QP} (hp : ps[i]? = some p) : i < n := by rw [← h.len]; exact (List.getElem?_eq_some_iff.1 hp).1
theorem Srt.parts (h : Srt w W base gr n cap ps) : ∃ cur, base ≤ gr ∧ W.heap[gr]? = some (.cells cur 31 (0, 0)) ∧ n ≤ cap ∧ cap ≤ maxLen ∧ cur.size = cap * 10 ∧ cur.toList.take (ps.length * 10) = flQ ps := by
 rcases h.row.slice with ⟨h1, _⟩ | ⟨g, cap', cur, h1, hbg, hcur, hnc, hcm, hsz, htk⟩
 ·cases h1
 injection h1 with h1 h3 h2
 injection h1 with h1
 injection h1 with h1
 subst h1 h2
 exact ⟨cur, hbg, hcur, by rw [← h.len]; exact hnc, hcm, hsz, htk⟩
theorem Srt.cells (h : Srt w W base gr n cap ps) {i : Nat} {p : QP} (hp : ps[i]? = some p) : W.cell? ⟨gr, i * 10, none⟩ = some (.int .i64 p.e.f0) ∧ W.cell? ⟨gr, i * 10 + 1, none⟩ = some (.int .i64 p.e.f1.f0) ∧ W.cell? ⟨gr, i * 10 + 2, none⟩ = some (.int .i64 p.e.f1.f1) ∧ W.cell? ⟨gr, i * 10 + 3, none⟩ = some (.int .i64 p.e.f2.f0) ∧ W.cell? ⟨gr, i * 10 + 4, none⟩ = some (.int .i64 p.e.f2.f1) ∧ W.cell? ⟨gr, i * 10 + 5, none⟩ = some (.int .i64 p.e.f3.f0) ∧ W.cell? ⟨gr, i * 10 + 6, none⟩ = some (.int .i64 p.e.f3.f1) ∧ W.cell? ⟨gr, i * 10 + 7, none⟩ = some (.bool p.e.f4) ∧ W.cell? ⟨gr, i * 10 + 8, none⟩ = some (.string p.e.f5) ∧ W.cell? ⟨gr, i * 10 + 9, none⟩ = some (.slice p.A p.e.f6.length p.c) := by
 obtain ⟨cur, _, hcur, _, _, _, htk⟩ := h.parts
 exact cells_atQ hcur htk hp
theorem Srt.swapped (h : Srt w W base gr n cap ps) {i j : Nat} {pi pj : QP} {cur : Array Value} (hi : ps[i]? = some pi) (hj : ps[j]? = some pj)
  (hbg : base ≤ gr) (hcur : W.heap[gr]? = some (.cells cur 31 (0, 0))) (hnc : n ≤ cap) (hcm : cap ≤ maxLen) (hsz : cur.size = cap * 10) (htk : cur.toList.take (ps.length * 10) = flQ ps)
  (hb : X.heap[gr]? = some (.cells (setA (setA cur (i * 10) (qC pj)) (j * 10) (qC pi)) 31 (0, 0))) (hf : Fr W X (fun k => k = gr)) : Srt w X base gr n cap (exP ps i j pi pj) := by
 have hil := (List.getElem?_eq_some_iff.1 hi).1
 have hjl := (List.getElem?_eq_some_iff.1 hj).1
 have hln := h.len
 have h1 := take_set htk (by omega) i hil pj
 have h2 := take_set h1 (by rw [setA_size, List.length_set]; omega) j (by rw [List.length_set]; exact hjl) pi
 refine ⟨⟨⟨by rw [flQ_length], .inr ⟨gr, cap, _, ?_, hbg, hb, by rw [exP_length, hln]; exact hnc, hcm, by rw [setA_size, setA_size]; exact hsz, h2⟩⟩, fun p hp => ?_⟩, by rw [exP_length]; exact hln, h.fr.trans hf (fun _ _ h => h)⟩
 ·rw [exP_length, hln]
 ·have hp' : p ∈ ps := by
   rcases List.mem_or_eq_of_mem_set hp with hp | rfl
   ·rcases List.mem_or_eq_of_mem_set hp with hp | rfl
    ·exact hp
    ·exact List.mem_of_getElem? hj
   ·exact List.mem_of_getElem? hi
  exact Own.fr (h.row.bod p hp') hf (fun k hk e => Own.typed (h.row.bod p hp') hcur (by decide) k hk e)
end
/-- Insertion's rows: x between S's halves. -/
def insL (P S R : List QP) (x : QP) (m : Nat) : List QP := P ++ S.take m ++ x :: S.drop m ++ R
theorem insL_at {P S R : List QP} {x : QP} {m : Nat} (hm : m ≤ S.length) : (insL P S R x m)[P.length + m]? = some x := by
 unfold insL
 have h1 : P.length + m = (P ++ S.take m).length := by rw [List.length_append, List.length_take]; omega
 rw [h1, List.append_assoc]
 exact get_mid _ _ _
theorem insL_left {P S R : List QP} {x y : QP} {m : Nat} (hy : S[m]? = some y) : (insL P S R x (m + 1))[P.length + m]? = some y := by
 have hm := (List.getElem?_eq_some_iff.1 hy).1
 unfold insL
 have h1 : P.length + m = (P ++ S.take m).length := by rw [List.length_append, List.length_take]; omega
 have h2 : S.take (m + 1) = S.take m ++ [y] := by rw [List.take_succ_eq_append_getElem hm, (List.getElem?_eq_some_iff.1 hy).2]
 rw [h1, h2, List.append_assoc, List.append_assoc, List.append_assoc, ← List.append_assoc P]
 exact get_mid _ _ _
theorem insL_swap {P S R : List QP} {x y : QP} {m : Nat} (hy : S[m]? = some y) : exP (insL P S R x (m + 1)) (P.length + (m + 1)) (P.length + m) x y = insL P S R x m := by
 have hm := (List.getElem?_eq_some_iff.1 hy).1
 have h1 : P.length + m = (P ++ S.take m).length := by rw [List.length_append, List.length_take]; omega
 have h2 : S.take (m + 1) = S.take m ++ [y] := by rw [List.take_succ_eq_append_getElem hm, (List.getElem?_eq_some_iff.1 hy).2]
 have h3 : S.drop m = y :: S.drop (m + 1) := by rw [List.drop_eq_getElem_cons hm, (List.getElem?_eq_some_iff.1 hy).2]
 have h4 := ex_mid' (P ++ S.take m) [] (S.drop (m + 1) ++ R) y x
 have h5 : P.length + (m + 1) = (P ++ S.take m).length + 1 + ([] : List QP).length := by rw [← h1]; simp; omega
 unfold insL
 rw [h5, h1, h2, h3]
 simpa using h4
theorem insL_done {P S R : List QP} {x : QP} {m : Nat} {l : List QP} (hs : sO kO S) (hc : Cl kO l S) (hm : m ≤ S.length) (h1 : ∀ y ∈ S.drop m, ltO (kO x) (kO y)) (h2 : ∀ k y, k + 1 = m → S[k]? = some y → ¬ ltO (kO x) (kO y)) :
  ∃ S', insL P S R x m = P ++ S' ++ R ∧ sO kO S' ∧ Cl kO (l ++ [x]) S' ∧ S'.length = S.length + 1 := by
 obtain ⟨g1, g2⟩ := ins_right (key := kO) (l := S) (x := x) (i := m) hs (fun h0 y hy => h2 (m - 1) y (by omega) hy) (fun y hy => h1 y (by
  have hm' := (List.getElem?_eq_some_iff.1 hy).1
  rw [List.drop_eq_getElem_cons hm', (List.getElem?_eq_some_iff.1 hy).2]
  exact List.mem_cons_self)) hm
 exact ⟨_, by unfold insL; simp, g1, (hc.right [x]).trans g2, by simp; omega⟩
/-- What a sort of a part leaves. -/
def PartP (w : World) (base gr n cap : Nat) (P l R : List QP) (e : Ending) (W : World) : Prop :=
 e = .returned (.tuple #[]) ∧ ∃ S, Srt w W base gr n cap (P ++ S ++ R) ∧ sO kO S ∧ Cl kO l S
def ins_calls.T4 : Bool × List (List Nat × List Nat) := (true, [([], []), ([], []), ([0, 1], [0, 1]), ([2], [2]), ([3], [3]), ([3], [3]), ([3], [3]), ([5, 6, 3], [3, 5, 6]), ([7, 3], [3, 7]), ([3], [3]), ([3], [3]), ([10, 3], [3, 10]), ([9, 11, 3], [3, 9, 11]), ([12, 3], [3, 12]), ([4, 8, 13, 3, 3], [3, 4, 8, 13]), ([14, 3], [3, 14]), ([3, 15], [3, 15])])
def ins_calls.B4 : List Nat := [0, 0, 3, 7, 15, 15, 15, 111, 239, 15, 15, 1039, 3599, 7695, 16383, 32767, 65535]
theorem ins_calls.tab4 : rtab .any (opsOf Try.f55 4) = ins_calls.T4 := by kernel_rfl
theorem ins_calls.bits4 : waitsOk ins_calls.T4.2 ins_calls.B4 = true := by kernel_rfl
def ins_calls.T6 : Bool × List (List Nat × List Nat) := (true, [([], []), ([], []), ([], []), ([], []), ([3], [3]), ([], []), ([], []), ([6], [6]), ([5, 7], [5, 7]), ([8], [8]), ([], []), ([], []), ([10, 11], [10, 11]), ([12], [12]), ([0, 1, 0, 1, 5, 6, 7, 8, 9, 13], [0, 1]), ([14, 9, 0, 1, 5, 6, 7, 8, 9, 13], [9, 14]), ([2, 4, 0, 1, 2, 3, 4, 5, 6, 7, 8, 9, 10, 11, 12, 13, 14, 15], [2, 4]), ([16, 13, 15, 0, 1, 2, 3, 4, 5, 6, 7, 8, 9, 10, 11, 12, 13, 14, 15], [13, 16])])
def ins_calls.B6 : List Nat := [0, 0, 0, 0, 8, 0, 0, 64, 224, 480, 0, 0, 3072, 7168, 16355, 32739, 65535, 131071]
theorem ins_calls.tab6 : rtab .any (opsOf Try.f55 6) = ins_calls.T6 := by kernel_rfl
theorem ins_calls.bits6 : waitsOk ins_calls.T6.2 ins_calls.B6 = true := by kernel_rfl
set_option maxRecDepth 100000 in
set_option maxHeartbeats 16000000 in
theorem ins_calls (base gr n cap a b : Nat) (P l R : List QP) (w : World) (h : Srt w w base gr n cap (P ++ l ++ R)) (ha : P.length = a) (hb : P.length + l.length = b) (hn : n ≤ 100000) :
  Calls Try.prog 55 #[.slice (some ⟨gr, 0, none⟩) n cap, .int .i64 a, .int .i64 b, .func (.func 21) #[] #[]] w fun e w' => PartP w base gr n cap P l R e w' := by
 have HH := Aside0.mk h
 have HAB := Aside0.mk (And.intro ha (And.intro hb hn))
 have HLN : Aside0 (P.length + l.length + R.length = n) := ⟨by have := h.len; simp only [List.length_append] at this; omega⟩
 have hk : (-1000000 : Int) ≤ (a : Int) + 1 ∧ (a : Int) + 1 ≤ 1000000 := by have := HLN.out; omega
 have hw1 := iw (x := (a : Int) + 1) rfl hk
 have hw2 := w64 (x := (a : Int) + 1) rfl hk
 clear h ha hb hn hk
 go_enter Try.func55, Try.ntmps55
 go_wp2
 clear hw1 hw2
 go_loopg [8] (b - a) (fun gg v8 wr => ∃ (k : Nat) (S : List QP), gg = b - a - k ∧ v8 = .int .i64 ((a : Int) + 1 + k) ∧ Aside0 (Srt w wr base gr n cap (P ++ S ++ l.drop (k + 1) ++ R)) ∧ Aside0 (sO kO S) ∧ Aside0 (Cl kO (l.take (k + 1)) S))
 case atStart => exact ⟨0, l.take 1, by simp, by simp, ⟨by have h := HH.out; rw [List.append_assoc P, List.take_append_drop]; exact h⟩, ⟨by
  cases l with
  | nil => exact sO.nil
  | cons x l => exact sO.one _⟩, ⟨Cl.refl _⟩⟩
 case round =>
  obtain ⟨k, S, hg, rfl, HS, HSO, HCL⟩ := hrel
  have HG := Aside0.mk hg
  clear hg
  by_cases hkb : a + 1 + k < b
  ·obtain ⟨x, hx⟩ : ∃ x, l[k + 1]? = some x := ⟨_, List.getElem?_eq_getElem (by have := HAB.out; omega)⟩
   have HX := Aside0.mk hx
   have HSL : Aside0 (S.length = k + 1) := ⟨by
    have h1 := HCL.out.1.length_eq
    have h2 := (List.getElem?_eq_some_iff.1 hx).1
    rw [List.length_take] at h1
    omega⟩
   have HKB := Aside0.mk hkb
   have hkb2 : (a : Int) + 1 + k < b := by omega
   clear hx hkb
   go_wp2
   clear hkb2
   go_loopg [9] (k + 2) (fun gz v9 wi => ∃ (m j : Nat), gz = m + 1 ∧ v9 = .int .i64 j ∧ j = a + m ∧ m ≤ k + 1 ∧ Aside0 (Srt w wi base gr n cap (insL P S (l.drop (k + 2) ++ R) x m)) ∧ Aside0 (∀ y ∈ S.drop m, ltO (kO x) (kO y)))
   case atStart => exact ⟨k + 1, a + (k + 1), rfl, by congr 1; (try push_cast); (try omega), rfl, Nat.le_refl _, ⟨by
    have h := HS.out
    have h1 := (List.getElem?_eq_some_iff.1 HX.out)
    obtain ⟨h2, h3⟩ := h1
    rw [List.drop_eq_getElem_cons h2, h3] at h
    unfold insL
    rw [List.take_of_length_le (by rw [HSL.out]; exact Nat.le_refl _), List.drop_of_length_le (by rw [HSL.out]; exact Nat.le_refl _)]
    simpa using h⟩, ⟨fun y hy => by rw [List.drop_of_length_le (by rw [HSL.out]; exact Nat.le_refl _)] at hy; simp at hy⟩⟩
   case round =>
    clear HS
    obtain ⟨m, j, hg2, rfl, hjm, hm, HS, HD⟩ := hrel
    have HG2 := Aside0.mk hg2
    have HJM := Aside0.mk (And.intro hjm hm)
    clear hg2
    by_cases hm0 : m = 0
    ·have hja : decide ((a : Int) < (j : Int)) = false := decide_eq_false (by omega)
     have hjaN : decide (a < j) = false := decide_eq_false (by omega)
     have HM0 := Aside0.mk hm0
     clear hjm hm hm0
     go_upto_region 4 with fail
     refine gen_world (fun wx hwx => ?_)
     have HSX : Aside0 (Srt w wx base gr n cap (insL P S (l.drop (k + 2) ++ R) x m)) := ⟨by rw [hwx]; first | exact HS.out | exact HS.out.below (by repeat (first | exact Below.refl _ _ | apply pw_below_drewN | apply below_drew1))⟩
     clear hwx HS
     refine start_ (n := 17) (S := fun w' => True) (ds := []) #[false, false, false, false, false, false, false, false, false, false, false, false, false, false, false, false, false] (by kernel_rfl) rfl rfl trivial (fun hHeld => ?_)
     refine with_tabW ins_calls.tab4 ins_calls.bits4 (fun HT_ HW_ => ?_)
     refine pure_ (i := 0) (N := some 18) (v := ?_) (a' := ?_) #[true, false, false, false, false, false, false, false, false, false, false, false, false, false, false, false, false] rfl rfl (any_of HT_.out (by kernel_rfl)) (fun _ _ _ h => h) (Or.inl ⟨by rfl, ?_⟩) ?_ ?_
     rotate_left
     ·intro w'
      go_simp
      with_reducible rfl
     rotate_left
     ·simp only [Act.put, ta, tb, tc, i64_w, i32_w]
      rfl
     refine pure_ (i := 1) (N := some 19) (v := ?_) (a' := ?_) #[true, true, false, false, false, false, false, false, false, false, false, false, false, false, false, false, false] rfl rfl (any_of HT_.out (by kernel_rfl)) (fun _ _ _ h => h) (Or.inl ⟨by rfl, ?_⟩) ?_ ?_
     rotate_left
     ·intro w'
      go_simp
      with_reducible rfl
     rotate_left
     ·simp only [Act.put, ta, tb, tc, i64_w, i32_w]
      rfl
     refine pure_ (i := 2) (N := some 20) (v := ?_) (a' := ?_) #[true, true, true, false, false, false, false, false, false, false, false, false, false, false, false, false, false] rfl rfl (any_of HT_.out (by kernel_rfl)) (fun _ _ _ h => h) (Or.inl ⟨by rfl, ?_⟩) ?_ ?_
     rotate_left
     ·intro w'
      go_simp
      with_reducible rfl
     rotate_left
     ·simp only [Act.put, ta, tb, tc, i64_w, i32_w]
      rfl
     refine pure_ (i := 3) (N := some 21) (v := ?_) (a' := ?_) #[true, true, true, true, false, false, false, false, false, false, false, false, false, false, false, false, false] rfl rfl (any_of HT_.out (by kernel_rfl)) (fun _ _ _ h => h) (Or.inl ⟨by rfl, ?_⟩) ?_ ?_
     rotate_left
     ·intro w'
      go_simp
      with_reducible rfl
     rotate_left
     ·simp only [Act.put, ta, tb, tc, i64_w, i32_w]
      rfl
     refine pure_ (i := 4) (N := some 22) (v := undef) (a' := ?_) #[true, true, true, true, true, false, false, false, false, false, false, false, false, false, false, false, false] rfl rfl (any_of HT_.out (by kernel_rfl)) (fun _ _ _ h => h) (Or.inr ⟨by rfl, rfl⟩) ?_ ?_
     rotate_left
     ·simp only [Act.put, ta, tb, tc, i64_w, i32_w]
      rfl
     refine pure_ (i := 5) (N := some 23) (v := undef) (a' := ?_) #[true, true, true, true, true, true, false, false, false, false, false, false, false, false, false, false, false] rfl rfl (any_of HT_.out (by kernel_rfl)) (fun _ _ _ h => h) (Or.inr ⟨by rfl, rfl⟩) ?_ ?_
     rotate_left
     ·simp only [Act.put, ta, tb, tc, i64_w, i32_w]
      rfl
     refine pure_ (i := 6) (N := some 24) (v := undef) (a' := ?_) #[true, true, true, true, true, true, true, false, false, false, false, false, false, false, false, false, false] rfl rfl (any_of HT_.out (by kernel_rfl)) (fun _ _ _ h => h) (Or.inr ⟨by rfl, rfl⟩) ?_ ?_
     rotate_left
     ·simp only [Act.put, ta, tb, tc, i64_w, i32_w]
      rfl
     refine pure_ (i := 7) (N := some 25) (v := undef) (a' := ?_) #[true, true, true, true, true, true, true, true, false, false, false, false, false, false, false, false, false] rfl rfl (any_of HT_.out (by kernel_rfl)) (fun _ _ _ h => h) (Or.inr ⟨by rfl, rfl⟩) ?_ ?_
     rotate_left
     ·simp only [Act.put, ta, tb, tc, i64_w, i32_w]
      rfl
     refine pure_ (i := 8) (N := some 26) (v := undef) (a' := ?_) #[true, true, true, true, true, true, true, true, true, false, false, false, false, false, false, false, false] rfl rfl (any_of HT_.out (by kernel_rfl)) (fun _ _ _ h => h) (Or.inr ⟨by rfl, rfl⟩) ?_ ?_
     rotate_left
     ·simp only [Act.put, ta, tb, tc, i64_w, i32_w]
      rfl
     refine pure_ (i := 9) (N := some 27) (v := undef) (a' := ?_) #[true, true, true, true, true, true, true, true, true, true, false, false, false, false, false, false, false] rfl rfl (any_of HT_.out (by kernel_rfl)) (fun _ _ _ h => h) (Or.inr ⟨by rfl, rfl⟩) ?_ ?_
     rotate_left
     ·simp only [Act.put, ta, tb, tc, i64_w, i32_w]
      rfl
     refine pure_ (i := 10) (N := some 28) (v := undef) (a' := ?_) #[true, true, true, true, true, true, true, true, true, true, true, false, false, false, false, false, false] rfl rfl (any_of HT_.out (by kernel_rfl)) (fun _ _ _ h => h) (Or.inr ⟨by rfl, rfl⟩) ?_ ?_
     rotate_left
     ·simp only [Act.put, ta, tb, tc, i64_w, i32_w]
      rfl
     refine pure_ (i := 11) (N := some 29) (v := undef) (a' := ?_) #[true, true, true, true, true, true, true, true, true, true, true, true, false, false, false, false, false] rfl rfl (any_of HT_.out (by kernel_rfl)) (fun _ _ _ h => h) (Or.inr ⟨by rfl, rfl⟩) ?_ ?_
     rotate_left
     ·simp only [Act.put, ta, tb, tc, i64_w, i32_w]
      rfl
     refine pure_ (i := 12) (N := some 30) (v := undef) (a' := ?_) #[true, true, true, true, true, true, true, true, true, true, true, true, true, false, false, false, false] rfl rfl (any_of HT_.out (by kernel_rfl)) (fun _ _ _ h => h) (Or.inr ⟨by rfl, rfl⟩) ?_ ?_
     rotate_left
     ·simp only [Act.put, ta, tb, tc, i64_w, i32_w]
      rfl
     refine pure_ (i := 13) (N := some 31) (v := undef) (a' := ?_) #[true, true, true, true, true, true, true, true, true, true, true, true, true, true, false, false, false] rfl rfl (any_of HT_.out (by kernel_rfl)) (fun _ _ _ h => h) (Or.inr ⟨by rfl, rfl⟩) ?_ ?_
     rotate_left
     ·simp only [Act.put, ta, tb, tc, i64_w, i32_w]
      rfl
     refine pure_ (i := 14) (N := some 32) (v := undef) (a' := ?_) #[true, true, true, true, true, true, true, true, true, true, true, true, true, true, true, false, false] rfl rfl (any_of HT_.out (by kernel_rfl)) (fun _ _ _ h => h) (Or.inr ⟨by rfl, rfl⟩) ?_ ?_
     rotate_left
     ·simp only [Act.put, ta, tb, tc, i64_w, i32_w]
      rfl
     refine pure_ (i := 15) (N := some 33) (v := undef) (a' := ?_) #[true, true, true, true, true, true, true, true, true, true, true, true, true, true, true, true, false] rfl rfl (any_of HT_.out (by kernel_rfl)) (fun _ _ _ h => h) (Or.inr ⟨by rfl, rfl⟩) ?_ ?_
     rotate_left
     ·simp only [Act.put, ta, tb, tc, i64_w, i32_w]
      rfl
     refine pure_ (i := 16) (N := some 34) (v := ?_) (a' := ?_) #[true, true, true, true, true, true, true, true, true, true, true, true, true, true, true, true, true] rfl rfl (any_of HT_.out (by kernel_rfl)) (fun _ _ _ h => h) (Or.inl ⟨by rfl, ?_⟩) ?_ ?_
     rotate_left
     ·intro w'
      go_simp
      with_reducible rfl
     rotate_left
     ·simp only [Act.put, ta, tb, tc, i64_w, i32_w]
      rfl
     refine done_ (done_of HT_.out (by kernel_rfl)) ?_
     obtain ⟨S', e1, e2, e3, e4⟩ := insL_done (P := P) (R := l.drop (k + 2) ++ R) HSO.out HCL.out (by rw [HSL.out]; exact HJM.out.2) HD.out (fun k' y hk' _ => (by have := HM0.out; omega))
     have HS4 : Aside0 (Srt w wx base gr n cap (P ++ S' ++ l.drop (k + 1 + 1) ++ R)) := ⟨by have h := HSX.out; rw [e1] at h; rw [List.append_assoc (P ++ S')]; exact h.below (by repeat (first | exact Below.refl _ _ | apply pw_below_drewN | apply below_drew1))⟩
     have HO4 := Aside0.mk e2
     have HC4 : Aside0 (Cl kO (l.take (k + 1 + 1)) S') := ⟨by
      have h1 := List.getElem?_eq_some_iff.1 HX.out
      obtain ⟨h2, h3⟩ := h1
      rw [List.take_succ_eq_append_getElem h2, h3]
      exact e3⟩
     have hk5 : (-1000000 : Int) ≤ (a : Int) + 1 + k + 1 ∧ (a : Int) + 1 + k + 1 ≤ 1000000 := by have := HKB.out; have := HAB.out; have := HLN.out; omega
     have hw3 := iw (x := (a : Int) + 1 + k + 1) rfl hk5
     have hw4 := w64 (x := (a : Int) + 1 + k + 1) rfl hk5
     clear hk5 e1 e2 e3 e4
     go_wp2
     clear hw3 hw4
     go_roundg (b - a - (k + 1))
     case measure => rw [HG.out]; have := HKB.out; omega
     case rel => exact ⟨k + 1, S', rfl, by congr 1; (try push_cast); (try omega), ⟨HS4.out.below (by repeat (first | exact Below.refl _ _ | apply pw_below_drewN | apply below_drew1))⟩, HO4, HC4⟩
    ·obtain ⟨m', rfl⟩ : ∃ m', m = m' + 1 := ⟨m - 1, by omega⟩
     have hja : decide ((a : Int) < (j : Int)) = true := decide_eq_true (by omega)
     have hjaN : decide (a < j) = true := decide_eq_true (by omega)
     obtain ⟨y, hy⟩ : ∃ y, S[m']? = some y := ⟨_, List.getElem?_eq_getElem (by have := HSL.out; omega)⟩
     have HY := Aside0.mk hy
     obtain ⟨i, hi⟩ : ∃ i, i = a + m' := ⟨_, rfl⟩
     have HI0 := Aside0.mk hi
     have hij : (j : Int) - 1 = (i : Int) := by omega
     have hkk : (-1000000 : Int) ≤ (i : Int) ∧ (i : Int) ≤ 1000000 := by have := HLN.out; have := HAB.out; have := HSL.out; have := HKB.out; omega
     have hw1 := iw hij hkk
     have hw2 := w64 hij hkk
     have hj0 : (0 : Int) ≤ j := by omega
     have hi0 : (0 : Int) ≤ i := by omega
     have hjn : (j : Int) < n := by have := HLN.out; have := HAB.out; have := HKB.out; omega
     have hin : (i : Int) < n := by omega
     have hjx : (insL P S (l.drop (k + 2) ++ R) x (m' + 1))[j]? = some x := by rw [hjm, ← HAB.out.1]; exact insL_at (by rw [HSL.out]; omega)
     have hiy : (insL P S (l.drop (k + 2) ++ R) x (m' + 1))[i]? = some y := by rw [hi, ← HAB.out.1]; exact insL_left hy
     have HJX := Aside0.mk hjx
     have HIY := Aside0.mk hiy
     clear hjm hm hm0 hy hi hij hkk hjx hiy
     go_upto_region 4 with fail
     refine gen_world (fun wx hwx => ?_)
     have HSX : Aside0 (Srt w wx base gr n cap (insL P S (l.drop (k + 2) ++ R) x (m' + 1))) := ⟨by rw [hwx]; first | exact HS.out | exact HS.out.below (by repeat (first | exact Below.refl _ _ | apply pw_below_drewN | apply below_drew1))⟩
     clear hwx HS
     have HRX := Aside0.mk (HSX.out.rd HJX.out)
     have HRY := Aside0.mk (HSX.out.rd HIY.out)
     obtain ⟨x0, x1, x2, x3, x4, x5, x6, x7, x8, x9⟩ := HSX.out.cells HJX.out
     obtain ⟨y0, y1, y2, y3, y4, y5, y6, y7, y8, y9⟩ := HSX.out.cells HIY.out
     by_cases hlt : ltO (kO x) (kO y)
     ·have HLT := Aside0.mk hlt
      clear hlt
      refine start_ (n := 17) (S := fun w' => w'.cell? ⟨gr, j * 10, none⟩ = some (.int .i64 x.e.f0) ∧ w'.cell? ⟨gr, j * 10 + 1, none⟩ = some (.int .i64 x.e.f1.f0) ∧ w'.cell? ⟨gr, j * 10 + 2, none⟩ = some (.int .i64 x.e.f1.f1) ∧ w'.cell? ⟨gr, j * 10 + 3, none⟩ = some (.int .i64 x.e.f2.f0) ∧ w'.cell? ⟨gr, j * 10 + 4, none⟩ = some (.int .i64 x.e.f2.f1) ∧ w'.cell? ⟨gr, j * 10 + 5, none⟩ = some (.int .i64 x.e.f3.f0) ∧ w'.cell? ⟨gr, j * 10 + 6, none⟩ = some (.int .i64 x.e.f3.f1) ∧ w'.cell? ⟨gr, j * 10 + 7, none⟩ = some (.bool x.e.f4) ∧ w'.cell? ⟨gr, j * 10 + 8, none⟩ = some (.string x.e.f5) ∧ w'.cell? ⟨gr, j * 10 + 9, none⟩ = some (.slice x.A x.e.f6.length x.c) ∧ w'.cell? ⟨gr, i * 10, none⟩ = some (.int .i64 y.e.f0) ∧ w'.cell? ⟨gr, i * 10 + 1, none⟩ = some (.int .i64 y.e.f1.f0) ∧ w'.cell? ⟨gr, i * 10 + 2, none⟩ = some (.int .i64 y.e.f1.f1) ∧ w'.cell? ⟨gr, i * 10 + 3, none⟩ = some (.int .i64 y.e.f2.f0) ∧ w'.cell? ⟨gr, i * 10 + 4, none⟩ = some (.int .i64 y.e.f2.f1) ∧ w'.cell? ⟨gr, i * 10 + 5, none⟩ = some (.int .i64 y.e.f3.f0) ∧ w'.cell? ⟨gr, i * 10 + 6, none⟩ = some (.int .i64 y.e.f3.f1) ∧ w'.cell? ⟨gr, i * 10 + 7, none⟩ = some (.bool y.e.f4) ∧ w'.cell? ⟨gr, i * 10 + 8, none⟩ = some (.string y.e.f5) ∧ w'.cell? ⟨gr, i * 10 + 9, none⟩ = some (.slice y.A y.e.f6.length y.c)) (ds := []) #[false, false, false, false, false, false, false, false, false, false, false, false, false, false, false, false, false] (by kernel_rfl) rfl rfl ⟨x0, x1, x2, x3, x4, x5, x6, x7, x8, x9, y0, y1, y2, y3, y4, y5, y6, y7, y8, y9⟩ (fun hHeld => ?_)
      refine with_tabW ins_calls.tab4 ins_calls.bits4 (fun HT_ HW_ => ?_)
      refine pure_ (i := 0) (N := some 18) (v := ?_) (a' := ?_) #[true, false, false, false, false, false, false, false, false, false, false, false, false, false, false, false, false] rfl rfl (any_of HT_.out (by kernel_rfl)) (fun _ _ _ h => h) (Or.inl ⟨by rfl, ?_⟩) ?_ ?_
      rotate_left
      ·intro w'
       go_simp
       with_reducible rfl
      rotate_left
      ·simp only [Act.put, ta, tb, tc, i64_w, i32_w]
       rfl
      refine pure_ (i := 1) (N := some 19) (v := ?_) (a' := ?_) #[true, true, false, false, false, false, false, false, false, false, false, false, false, false, false, false, false] rfl rfl (any_of HT_.out (by kernel_rfl)) (fun _ _ _ h => h) (Or.inl ⟨by rfl, ?_⟩) ?_ ?_
      rotate_left
      ·intro w'
       go_simp
       with_reducible rfl
      rotate_left
      ·simp only [Act.put, ta, tb, tc, i64_w, i32_w]
       rfl
      refine pure_ (i := 2) (N := some 20) (v := ?_) (a' := ?_) #[true, true, true, false, false, false, false, false, false, false, false, false, false, false, false, false, false] rfl rfl (any_of HT_.out (by kernel_rfl)) (fun _ _ _ h => h) (Or.inl ⟨by rfl, ?_⟩) ?_ ?_
      rotate_left
      ·intro w'
       go_simp
       with_reducible rfl
      rotate_left
      ·simp only [Act.put, ta, tb, tc, i64_w, i32_w]
       rfl
      refine pure_ (i := 3) (N := some 21) (v := ?_) (a' := ?_) #[true, true, true, true, false, false, false, false, false, false, false, false, false, false, false, false, false] rfl rfl (any_of HT_.out (by kernel_rfl)) (fun _ _ _ h => h) (Or.inl ⟨by rfl, ?_⟩) ?_ ?_
      rotate_left
      ·intro w'
       go_simp
       with_reducible rfl
      rotate_left
      ·simp only [Act.put, ta, tb, tc, i64_w, i32_w]
       rfl
      refine pure_ (i := 4) (N := some 22) (v := ?_) (a' := ?_) #[true, true, true, true, true, false, false, false, false, false, false, false, false, false, false, false, false] rfl rfl (any_of HT_.out (by kernel_rfl)) (fun _ _ _ h => h) (Or.inl ⟨by rfl, ?_⟩) ?_ ?_
      rotate_left
      ·intro w'
       go_simp
       with_reducible rfl
      rotate_left
      ·simp only [Act.put, ta, tb, tc, i64_w, i32_w]
       rfl
      refine pure_ (i := 5) (N := some 23) (v := ?_) (a' := ?_) #[true, true, true, true, true, true, false, false, false, false, false, false, false, false, false, false, false] rfl rfl (any_of HT_.out (by kernel_rfl)) (fun _ _ _ h => h) (Or.inl ⟨by rfl, ?_⟩) ?_ ?_
      rotate_left
      ·intro w'
       go_simp
       with_reducible rfl
      rotate_left
      ·simp only [Act.put, ta, tb, tc, i64_w, i32_w]
       rfl
      refine pure_ (i := 6) (N := some 24) (v := ?_) (a' := ?_) #[true, true, true, true, true, true, true, false, false, false, false, false, false, false, false, false, false] rfl rfl (any_of HT_.out (by kernel_rfl)) (fun _ _ _ h => h) (Or.inl ⟨by rfl, ?_⟩) ?_ ?_
      rotate_left
      ·intro w'
       go_simp
       with_reducible rfl
      rotate_left
      ·simp only [Act.put, ta, tb, tc, i64_w, i32_w]
       rfl
      refine pure_ (i := 7) (N := some 25) (v := ?_) (a' := ?_) #[true, true, true, true, true, true, true, true, false, false, false, false, false, false, false, false, false] rfl rfl (any_of HT_.out (by kernel_rfl)) (fun _ _ _ h => h) (Or.inl ⟨by rfl, ?_⟩) ?_ ?_
      rotate_left
      ·intro w'
       go_simp
       with_reducible rfl
      rotate_left
      ·simp only [Act.put, ta, tb, tc, i64_w, i32_w]
       rfl
      refine pure_ (i := 9) (N := some 27) (v := ?_) (a' := ?_) #[true, true, true, true, true, true, true, true, false, true, false, false, false, false, false, false, false] rfl rfl (any_of HT_.out (by kernel_rfl)) (fun _ _ _ h => h) (Or.inl ⟨by rfl, ?_⟩) ?_ ?_
      rotate_left
      ·intro w'
       go_simp
       with_reducible rfl
      rotate_left
      ·simp only [Act.put, ta, tb, tc, i64_w, i32_w]
       rfl
      refine pure_ (i := 10) (N := some 28) (v := ?_) (a' := ?_) #[true, true, true, true, true, true, true, true, false, true, true, false, false, false, false, false, false] rfl rfl (any_of HT_.out (by kernel_rfl)) (fun _ _ _ h => h) (Or.inl ⟨by rfl, ?_⟩) ?_ ?_
      rotate_left
      ·intro w'
       go_simp
       with_reducible rfl
      rotate_left
      ·simp only [Act.put, ta, tb, tc, i64_w, i32_w]
       rfl
      refine pure_ (i := 11) (N := some 29) (v := ?_) (a' := ?_) #[true, true, true, true, true, true, true, true, false, true, true, true, false, false, false, false, false] rfl rfl (any_of HT_.out (by kernel_rfl)) (fun _ _ _ h => h) (Or.inl ⟨by rfl, ?_⟩) ?_ ?_
      rotate_left
      ·intro w'
       go_simp
       with_reducible rfl
      rotate_left
      ·simp only [Act.put, ta, tb, tc, i64_w, i32_w]
       rfl
      refine pure_ (i := 12) (N := some 30) (v := ?_) (a' := ?_) #[true, true, true, true, true, true, true, true, false, true, true, true, true, false, false, false, false] rfl rfl (any_of HT_.out (by kernel_rfl)) (fun _ _ _ h => h) (Or.inl ⟨by rfl, ?_⟩) ?_ ?_
      rotate_left
      ·intro w'
       go_simp
       with_reducible rfl
      rotate_left
      ·simp only [Act.put, ta, tb, tc, i64_w, i32_w]
       rfl
      refine take_ (i := 8) (N := some 26) (v := ?_) (a' := ?_) #[true, true, true, true, true, true, true, true, true, true, true, true, true, false, false, false, false] rfl rfl (take_ofW HT_.out HW_.out (by kernel_rfl)) (fun _ _ _ h => h) (Or.inl ⟨by rfl, ?_⟩) hHeld ?_ ?_
      rotate_left
      ·rintro w' ⟨s0, s1, s2, s3, s4, s5, s6, s7, s8, s9, s10, s11, s12, s13, s14, s15, s16, s17, s18, s19⟩
       go_simp
       with_reducible rfl
      rotate_left
      ·simp only [Act.put, ta, tb, tc, i64_w, i32_w]
       rfl
      refine take_ (i := 13) (N := some 31) (v := ?_) (a' := ?_) #[true, true, true, true, true, true, true, true, true, true, true, true, true, true, false, false, false] rfl rfl (take_ofW HT_.out HW_.out (by kernel_rfl)) (fun _ _ _ h => h) (Or.inl ⟨by rfl, ?_⟩) hHeld ?_ ?_
      rotate_left
      ·rintro w' ⟨s0, s1, s2, s3, s4, s5, s6, s7, s8, s9, s10, s11, s12, s13, s14, s15, s16, s17, s18, s19⟩
       go_simp
       with_reducible rfl
      rotate_left
      ·simp only [Act.put, ta, tb, tc, i64_w, i32_w]
       rfl
      refine one_ (i := 14) (N := some 32) #[true, true, true, true, true, true, true, true, true, true, true, true, true, true, true, false, false] rfl rfl (one_of HT_.out (by kernel_rfl)) (by decide) (fun K hK => ?_)
      refine goesv_ Try.func21 (by kernel_rfl) rfl #[.agg #[.int .i64 x.e.f0, .int .i64 x.e.f1.f0, .int .i64 x.e.f1.f1, .int .i64 x.e.f2.f0, .int .i64 x.e.f2.f1, .int .i64 x.e.f3.f0, .int .i64 x.e.f3.f1, .bool x.e.f4, .string x.e.f5, .slice x.A x.e.f6.length x.c], .agg #[.int .i64 y.e.f0, .int .i64 y.e.f1.f0, .int .i64 y.e.f1.f1, .int .i64 y.e.f2.f0, .int .i64 y.e.f2.f1, .int .i64 y.e.f3.f0, .int .i64 y.e.f3.f1, .bool y.e.f4, .string y.e.f5, .slice y.A y.e.f6.length y.c]] (by rfl) rfl rfl (by rfl) (by simp only [List.map_toArray, List.map_cons, List.map_nil]; rfl) ?_
      with_reducible refine (cmpo_lt x y _ (HRX.out.below (below_drew1 (Below.refl _ _))) (HRY.out.below (below_drew1 (Below.refl _ _))) HLT.out).mono ?_
      rintro e w3 ⟨r, rfl, hr1, hr2, hb3⟩
      refine ⟨_, rfl, ?_⟩
      refine hK.out _ _ (lift20 hb3 x0 x1 x2 x3 x4 x5 x6 x7 x8 x9 y0 y1 y2 y3 y4 y5 y6 y7 y8 y9) (fun hHeld => ?_)
      clear hK K
      refine norm_ (a' := ?_) ?_ ?_
      rotate_left
      ·show Act.put _ (some 32) _ = _
       simp only [Act.put, ta, tb, tc, i64_w, i32_w]
       rfl
      refine pure_ (i := 15) (N := some 33) (v := ?_) (a' := ?_) #[true, true, true, true, true, true, true, true, true, true, true, true, true, true, true, true, false] rfl rfl (any_of HT_.out (by kernel_rfl)) (fun _ _ _ h => h) (Or.inl ⟨by rfl, ?_⟩) ?_ ?_
      rotate_left
      ·intro w'
       go_simp
       with_reducible rfl
      rotate_left
      ·simp only [Act.put, ta, tb, tc, i64_w, i32_w]
       rfl
      refine pure_ (i := 16) (N := some 34) (v := ?_) (a' := ?_) #[true, true, true, true, true, true, true, true, true, true, true, true, true, true, true, true, true] rfl rfl (any_of HT_.out (by kernel_rfl)) (fun _ _ _ h => h) (Or.inl ⟨by rfl, ?_⟩) ?_ ?_
      rotate_left
      ·intro w'
       go_simp
       with_reducible rfl
      rotate_left
      ·simp only [Act.put, ta, tb, tc, i64_w, i32_w]
       rfl
      refine done_ (done_of HT_.out (by kernel_rfl)) ?_
      have HS3 : Aside0 (Srt w w3 base gr n cap (insL P S (l.drop (k + 2) ++ R) x (m' + 1))) := ⟨HSX.out.below (below_step (below_drew1 (Below.refl _ _)) hb3)⟩
      clear hb3 HSX HRX HRY x0 x1 x2 x3 x4 x5 x6 x7 x8 x9 y0 y1 y2 y3 y4 y5 y6 y7 y8 y9
      go_upto_region 6 with fail
      refine gen_world (fun wx hwx => ?_)
      have HSX : Aside0 (Srt w wx base gr n cap (insL P S (l.drop (k + 2) ++ R) x (m' + 1))) := ⟨by rw [hwx]; exact HS3.out.below (by repeat (first | exact Below.refl _ _ | apply pw_below_drewN | apply below_drew1))⟩
      clear hwx HS3
      obtain ⟨pi, hpi⟩ : ∃ p, p = x := ⟨_, rfl⟩
      obtain ⟨pj, hpj⟩ : ∃ p, p = y := ⟨_, rfl⟩
      have HI : Aside0 ((insL P S (l.drop (k + 2) ++ R) x (m' + 1))[j]? = some pi) := ⟨by rw [hpi]; exact HJX.out⟩
      have HJ : Aside0 ((insL P S (l.drop (k + 2) ++ R) x (m' + 1))[i]? = some pj) := ⟨by rw [hpj]; exact HIY.out⟩
      have HPI := Aside0.mk (And.intro hpi hpj)
      clear hpi hpj
      obtain ⟨cur, hbg, hcur, hnc, hcm, hsz, htk⟩ := HSX.out.parts
      have HCUR := Aside0.mk hcur
      have HPT := Aside0.mk (And.intro hbg (And.intro hnc (And.intro hcm (And.intro hsz htk))))
      have hil : j < n := HSX.out.lt HI.out
      have hjl : i < n := HSX.out.lt HJ.out
      obtain ⟨ci0, ci1, ci2, ci3, ci4, ci5, ci6, ci7, ci8, ci9⟩ := cells_atQ hcur htk HI.out
      obtain ⟨cj0, cj1, cj2, cj3, cj4, cj5, cj6, cj7, cj8, cj9⟩ := cells_atQ hcur htk HJ.out
      obtain ⟨_u0, _u1, _u2, _u3, _u4, _u5, _u6, _u7, _u8, _u9, _d0, _d1, _d2, _d3, _d4, _d5, _d6, _d7, _d8, _d9, z0, z1, z2, z3, z4, z5, z6, z7, z8, z9⟩ := cellsQ hcur (i := j) (by omega)
      clear _d0 _d1 _d2 _d3 _d4 _d5 _d6 _d7 _d8 _d9 _u0 _u1 _u2 _u3 _u4 _u5 _u6 _u7 _u8 _u9 hcur htk hbg hcm
      refine start_ (n := 18) (S := fun w' => w'.cell? ⟨gr, i * 10, none⟩ = some (.int .i64 pj.e.f0) ∧ w'.cell? ⟨gr, i * 10 + 1, none⟩ = some (.int .i64 pj.e.f1.f0) ∧ w'.cell? ⟨gr, i * 10 + 2, none⟩ = some (.int .i64 pj.e.f1.f1) ∧ w'.cell? ⟨gr, i * 10 + 3, none⟩ = some (.int .i64 pj.e.f2.f0) ∧ w'.cell? ⟨gr, i * 10 + 4, none⟩ = some (.int .i64 pj.e.f2.f1) ∧ w'.cell? ⟨gr, i * 10 + 5, none⟩ = some (.int .i64 pj.e.f3.f0) ∧ w'.cell? ⟨gr, i * 10 + 6, none⟩ = some (.int .i64 pj.e.f3.f1) ∧ w'.cell? ⟨gr, i * 10 + 7, none⟩ = some (.bool pj.e.f4) ∧ w'.cell? ⟨gr, i * 10 + 8, none⟩ = some (.string pj.e.f5) ∧ w'.cell? ⟨gr, i * 10 + 9, none⟩ = some (.slice pj.A pj.e.f6.length pj.c) ∧ w'.cell? ⟨gr, j * 10, none⟩ = some (.int .i64 pi.e.f0) ∧ w'.cell? ⟨gr, j * 10 + 1, none⟩ = some (.int .i64 pi.e.f1.f0) ∧ w'.cell? ⟨gr, j * 10 + 2, none⟩ = some (.int .i64 pi.e.f1.f1) ∧ w'.cell? ⟨gr, j * 10 + 3, none⟩ = some (.int .i64 pi.e.f2.f0) ∧ w'.cell? ⟨gr, j * 10 + 4, none⟩ = some (.int .i64 pi.e.f2.f1) ∧ w'.cell? ⟨gr, j * 10 + 5, none⟩ = some (.int .i64 pi.e.f3.f0) ∧ w'.cell? ⟨gr, j * 10 + 6, none⟩ = some (.int .i64 pi.e.f3.f1) ∧ w'.cell? ⟨gr, j * 10 + 7, none⟩ = some (.bool pi.e.f4) ∧ w'.cell? ⟨gr, j * 10 + 8, none⟩ = some (.string pi.e.f5) ∧ w'.cell? ⟨gr, j * 10 + 9, none⟩ = some (.slice pi.A pi.e.f6.length pi.c)) (ds := [15, 17]) #[false, false, false, false, false, false, false, false, false, false, false, false, false, false, false, false, false, false] (by kernel_rfl) rfl rfl ⟨cj0, cj1, cj2, cj3, cj4, cj5, cj6, cj7, cj8, cj9, ci0, ci1, ci2, ci3, ci4, ci5, ci6, ci7, ci8, ci9⟩ (fun hHeld => ?_)
      refine with_tabW ins_calls.tab6 ins_calls.bits6 (fun HT_ HW_ => ?_)
      refine pure_ (i := 0) (N := some 37) (v := ?_) (a' := ?_) #[true, false, false, false, false, false, false, false, false, false, false, false, false, false, false, false, false, false] rfl rfl (any_of HT_.out (by kernel_rfl)) (fun _ _ _ h => h) (Or.inl ⟨by rfl, ?_⟩) ?_ ?_
      rotate_left
      ·intro w'
       go_simp
       with_reducible rfl
      rotate_left
      ·simp only [Act.put, ta, tb, tc, i64_w, i32_w]
       rfl
      refine pure_ (i := 1) (N := some 38) (v := ?_) (a' := ?_) #[true, true, false, false, false, false, false, false, false, false, false, false, false, false, false, false, false, false] rfl rfl (any_of HT_.out (by kernel_rfl)) (fun _ _ _ h => h) (Or.inl ⟨by rfl, ?_⟩) ?_ ?_
      rotate_left
      ·intro w'
       go_simp
       with_reducible rfl
      rotate_left
      ·simp only [Act.put, ta, tb, tc, i64_w, i32_w]
       rfl
      refine pure_ (i := 2) (N := some 39) (v := ?_) (a' := ?_) #[true, true, true, false, false, false, false, false, false, false, false, false, false, false, false, false, false, false] rfl rfl (any_of HT_.out (by kernel_rfl)) (fun _ _ _ h => h) (Or.inl ⟨by rfl, ?_⟩) ?_ ?_
      rotate_left
      ·intro w'
       go_simp
       with_reducible rfl
      rotate_left
      ·simp only [Act.put, ta, tb, tc, i64_w, i32_w]
       rfl
      refine pure_ (i := 3) (N := some 40) (v := ?_) (a' := ?_) #[true, true, true, true, false, false, false, false, false, false, false, false, false, false, false, false, false, false] rfl rfl (any_of HT_.out (by kernel_rfl)) (fun _ _ _ h => h) (Or.inl ⟨by rfl, ?_⟩) ?_ ?_
      rotate_left
      ·intro w'
       go_simp
       with_reducible rfl
      rotate_left
      ·simp only [Act.put, ta, tb, tc, i64_w, i32_w]
       rfl
      refine pure_ (i := 4) (N := some 41) (v := ?_) (a' := ?_) #[true, true, true, true, true, false, false, false, false, false, false, false, false, false, false, false, false, false] rfl rfl (any_of HT_.out (by kernel_rfl)) (fun _ _ _ h => h) (Or.inl ⟨by rfl, ?_⟩) ?_ ?_
      rotate_left
      ·intro w'
       go_simp
       with_reducible rfl
      rotate_left
      ·simp only [Act.put, ta, tb, tc, i64_w, i32_w]
       rfl
      refine pure_ (i := 5) (N := some 42) (v := ?_) (a' := ?_) #[true, true, true, true, true, true, false, false, false, false, false, false, false, false, false, false, false, false] rfl rfl (any_of HT_.out (by kernel_rfl)) (fun _ _ _ h => h) (Or.inl ⟨by rfl, ?_⟩) ?_ ?_
      rotate_left
      ·intro w'
       go_simp
       with_reducible rfl
      rotate_left
      ·simp only [Act.put, ta, tb, tc, i64_w, i32_w]
       rfl
      refine pure_ (i := 6) (N := some 43) (v := ?_) (a' := ?_) #[true, true, true, true, true, true, true, false, false, false, false, false, false, false, false, false, false, false] rfl rfl (any_of HT_.out (by kernel_rfl)) (fun _ _ _ h => h) (Or.inl ⟨by rfl, ?_⟩) ?_ ?_
      rotate_left
      ·intro w'
       go_simp
       with_reducible rfl
      rotate_left
      ·simp only [Act.put, ta, tb, tc, i64_w, i32_w]
       rfl
      refine pure_ (i := 7) (N := some 44) (v := ?_) (a' := ?_) #[true, true, true, true, true, true, true, true, false, false, false, false, false, false, false, false, false, false] rfl rfl (any_of HT_.out (by kernel_rfl)) (fun _ _ _ h => h) (Or.inl ⟨by rfl, ?_⟩) ?_ ?_
      rotate_left
      ·intro w'
       go_simp
       with_reducible rfl
      rotate_left
      ·simp only [Act.put, ta, tb, tc, i64_w, i32_w]
       rfl
      refine pure_ (i := 8) (N := some 45) (v := ?_) (a' := ?_) #[true, true, true, true, true, true, true, true, true, false, false, false, false, false, false, false, false, false] rfl rfl (any_of HT_.out (by kernel_rfl)) (fun _ _ _ h => h) (Or.inl ⟨by rfl, ?_⟩) ?_ ?_
      rotate_left
      ·intro w'
       go_simp
       with_reducible rfl
      rotate_left
      ·simp only [Act.put, ta, tb, tc, i64_w, i32_w]
       rfl
      refine pure_ (i := 10) (N := some 47) (v := ?_) (a' := ?_) #[true, true, true, true, true, true, true, true, true, false, true, false, false, false, false, false, false, false] rfl rfl (any_of HT_.out (by kernel_rfl)) (fun _ _ _ h => h) (Or.inl ⟨by rfl, ?_⟩) ?_ ?_
      rotate_left
      ·intro w'
       go_simp
       with_reducible rfl
      rotate_left
      ·simp only [Act.put, ta, tb, tc, i64_w, i32_w]
       rfl
      refine pure_ (i := 11) (N := some 48) (v := ?_) (a' := ?_) #[true, true, true, true, true, true, true, true, true, false, true, true, false, false, false, false, false, false] rfl rfl (any_of HT_.out (by kernel_rfl)) (fun _ _ _ h => h) (Or.inl ⟨by rfl, ?_⟩) ?_ ?_
      rotate_left
      ·intro w'
       go_simp
       with_reducible rfl
      rotate_left
      ·simp only [Act.put, ta, tb, tc, i64_w, i32_w]
       rfl
      refine pure_ (i := 12) (N := some 49) (v := ?_) (a' := ?_) #[true, true, true, true, true, true, true, true, true, false, true, true, true, false, false, false, false, false] rfl rfl (any_of HT_.out (by kernel_rfl)) (fun _ _ _ h => h) (Or.inl ⟨by rfl, ?_⟩) ?_ ?_
      rotate_left
      ·intro w'
       go_simp
       with_reducible rfl
      rotate_left
      ·simp only [Act.put, ta, tb, tc, i64_w, i32_w]
       rfl
      refine take_ (i := 9) (N := some 46) (v := ?_) (a' := ?_) #[true, true, true, true, true, true, true, true, true, true, true, true, true, false, false, false, false, false] rfl rfl (take_ofW HT_.out HW_.out (by kernel_rfl)) (fun _ _ _ h => h) (Or.inl ⟨by rfl, ?_⟩) hHeld ?_ ?_
      rotate_left
      ·rintro w' ⟨s0, s1, s2, s3, s4, s5, s6, s7, s8, s9, s10, s11, s12, s13, s14, s15, s16, s17, s18, s19⟩
       go_simp
       with_reducible rfl
      rotate_left
      ·simp only [Act.put, ta, tb, tc, i64_w, i32_w]
       rfl
      refine take_ (i := 13) (N := some 50) (v := ?_) (a' := ?_) #[true, true, true, true, true, true, true, true, true, true, true, true, true, true, false, false, false, false] rfl rfl (take_ofW HT_.out HW_.out (by kernel_rfl)) (fun _ _ _ h => h) (Or.inl ⟨by rfl, ?_⟩) hHeld ?_ ?_
      rotate_left
      ·rintro w' ⟨s0, s1, s2, s3, s4, s5, s6, s7, s8, s9, s10, s11, s12, s13, s14, s15, s16, s17, s18, s19⟩
       go_simp
       with_reducible rfl
      rotate_left
      ·simp only [Act.put, ta, tb, tc, i64_w, i32_w]
       rfl
      refine pure_ (i := 14) (N := some 51) (v := ?_) (a' := ?_) #[true, true, true, true, true, true, true, true, true, true, true, true, true, true, true, false, false, false] rfl rfl (any_of HT_.out (by kernel_rfl)) (fun _ _ _ h => h) (Or.inl ⟨by rfl, ?_⟩) ?_ ?_
      rotate_left
      ·intro w'
       go_simp
       with_reducible rfl
      rotate_left
      ·simp only [Act.put, ta, tb, tc, i64_w, i32_w]
       rfl
      refine last_ (i := 15) (N := none) #[true, true, true, true, true, true, true, true, true, true, true, true, true, true, true, true, false, false] rfl rfl (one_of HT_.out (by kernel_rfl)) (by decide) (fun K hK => ?_)
      refine skip_ (w1 := ?_) (by rfl) rfl ?_ ?_
      rotate_left
      ·go_simp
       rfl
      refine gen_K (fun W1 hW1 => ?_)
      have hb1 : W1.heap[gr]? = some (.cells (setA cur (j * 10) (qC pj)) 31 (0, 0)) := by rw [hW1]; (try with_reducible refine blk_drew ?_); exact heap_set10 HCUR.out (j * 10) pj
      have hf1 : Fr wx W1 (fun k => k = gr) := by rw [hW1]; repeat (with_reducible first | exact Fr.refl _ _ | refine Fr.drew ?_ | refine Fr.setg ?_ _ _)
      have HB1 := Aside0.mk hb1
      have HF1 := Aside0.mk hf1
      obtain ⟨u0, u1, u2, u3, u4, u5, u6, u7, u8, u9, d0, d1, d2, d3, d4, d5, d6, d7, d8, d9, z0, z1, z2, z3, z4, z5, z6, z7, z8, z9⟩ := cellsQ hb1 (i := i) (by rw [setA_size]; omega)
      clear hW1 hb1 hf1
      refine hK.out _ _ ?_
      clear hK K
      refine pure_ (i := 16) (N := some 52) (v := ?_) (a' := ?_) #[true, true, true, true, true, true, true, true, true, true, true, true, true, true, true, true, true, false] rfl rfl (any_of HT_.out (by kernel_rfl)) (fun _ _ _ h => h) (Or.inl ⟨by rfl, ?_⟩) ?_ ?_
      rotate_left
      ·intro w'
       go_simp
       with_reducible rfl
      rotate_left
      ·simp only [Act.put, ta, tb, tc, i64_w, i32_w]
       rfl
      refine last_ (i := 17) (N := none) #[true, true, true, true, true, true, true, true, true, true, true, true, true, true, true, true, true, true] rfl rfl (one_of HT_.out (by kernel_rfl)) (by decide) (fun K hK => ?_)
      refine skip_ (w1 := ?_) (by rfl) rfl ?_ ?_
      rotate_left
      ·go_simp
       rfl
      refine hK.out _ _ ?_
      clear hK K
      refine done_ (done_of HT_.out (by kernel_rfl)) ?_
      refine gen_K (fun W2 hW2 => ?_)
      have hb2 : W2.heap[gr]? = some (.cells (setA (setA cur (j * 10) (qC pj)) (i * 10) (qC pi)) 31 (0, 0)) := by rw [hW2]; (try with_reducible refine blk_drew ?_); exact heap_set10 HB1.out (i * 10) pi
      have hf2 : Fr wx W2 (fun k => k = gr) := by rw [hW2]; repeat (with_reducible first | exact HF1.out | refine Fr.drew ?_ | refine Fr.setg ?_ _ _)
      have HS2 := Aside0.mk (HSX.out.swapped HI.out HJ.out HPT.out.1 HCUR.out HPT.out.2.1 HPT.out.2.2.1 HPT.out.2.2.2.1 HPT.out.2.2.2.2 hb2 hf2)
      clear hW2 hb2 hf2 HB1 HF1 HCUR HPT hil hjl hnc hsz
      have HS5 : Aside0 (Srt w W2 base gr n cap (insL P S (l.drop (k + 2) ++ R) x m')) := ⟨by
       have h := HS2.out
       rw [HPI.out.1, HPI.out.2, HJM.out.1, HI0.out, ← HAB.out.1, insL_swap HY.out] at h
       exact h⟩
      have HD5 : Aside0 (∀ z ∈ S.drop m', ltO (kO x) (kO z)) := ⟨fun z hz => by
       have h1 := List.getElem?_eq_some_iff.1 HY.out
       obtain ⟨h2, h3⟩ := h1
       rw [List.drop_eq_getElem_cons h2, h3] at hz
       rcases List.mem_cons.1 hz with hz | hz
       ·rw [hz]
        exact HLT.out
       ·exact HD.out z hz⟩
      clear HS2 HSX HI HJ
      go_wp2
      clear hw1 hw2
      go_roundg (m' + 1)
      case measure => rw [HG2.out]; exact Nat.lt_succ_self _
      case rel => exact ⟨m', i, rfl, rfl, HI0.out, by have := HJM.out.2; omega, ⟨HS5.out.below (by repeat (first | exact Below.refl _ _ | apply pw_below_drewN | apply below_drew1))⟩, HD5⟩
     ·have HLT := Aside0.mk hlt
      clear hlt
      refine start_ (n := 17) (S := fun w' => w'.cell? ⟨gr, j * 10, none⟩ = some (.int .i64 x.e.f0) ∧ w'.cell? ⟨gr, j * 10 + 1, none⟩ = some (.int .i64 x.e.f1.f0) ∧ w'.cell? ⟨gr, j * 10 + 2, none⟩ = some (.int .i64 x.e.f1.f1) ∧ w'.cell? ⟨gr, j * 10 + 3, none⟩ = some (.int .i64 x.e.f2.f0) ∧ w'.cell? ⟨gr, j * 10 + 4, none⟩ = some (.int .i64 x.e.f2.f1) ∧ w'.cell? ⟨gr, j * 10 + 5, none⟩ = some (.int .i64 x.e.f3.f0) ∧ w'.cell? ⟨gr, j * 10 + 6, none⟩ = some (.int .i64 x.e.f3.f1) ∧ w'.cell? ⟨gr, j * 10 + 7, none⟩ = some (.bool x.e.f4) ∧ w'.cell? ⟨gr, j * 10 + 8, none⟩ = some (.string x.e.f5) ∧ w'.cell? ⟨gr, j * 10 + 9, none⟩ = some (.slice x.A x.e.f6.length x.c) ∧ w'.cell? ⟨gr, i * 10, none⟩ = some (.int .i64 y.e.f0) ∧ w'.cell? ⟨gr, i * 10 + 1, none⟩ = some (.int .i64 y.e.f1.f0) ∧ w'.cell? ⟨gr, i * 10 + 2, none⟩ = some (.int .i64 y.e.f1.f1) ∧ w'.cell? ⟨gr, i * 10 + 3, none⟩ = some (.int .i64 y.e.f2.f0) ∧ w'.cell? ⟨gr, i * 10 + 4, none⟩ = some (.int .i64 y.e.f2.f1) ∧ w'.cell? ⟨gr, i * 10 + 5, none⟩ = some (.int .i64 y.e.f3.f0) ∧ w'.cell? ⟨gr, i * 10 + 6, none⟩ = some (.int .i64 y.e.f3.f1) ∧ w'.cell? ⟨gr, i * 10 + 7, none⟩ = some (.bool y.e.f4) ∧ w'.cell? ⟨gr, i * 10 + 8, none⟩ = some (.string y.e.f5) ∧ w'.cell? ⟨gr, i * 10 + 9, none⟩ = some (.slice y.A y.e.f6.length y.c)) (ds := []) #[false, false, false, false, false, false, false, false, false, false, false, false, false, false, false, false, false] (by kernel_rfl) rfl rfl ⟨x0, x1, x2, x3, x4, x5, x6, x7, x8, x9, y0, y1, y2, y3, y4, y5, y6, y7, y8, y9⟩ (fun hHeld => ?_)
      refine with_tabW ins_calls.tab4 ins_calls.bits4 (fun HT_ HW_ => ?_)
      refine pure_ (i := 0) (N := some 18) (v := ?_) (a' := ?_) #[true, false, false, false, false, false, false, false, false, false, false, false, false, false, false, false, false] rfl rfl (any_of HT_.out (by kernel_rfl)) (fun _ _ _ h => h) (Or.inl ⟨by rfl, ?_⟩) ?_ ?_
      rotate_left
      ·intro w'
       go_simp
       with_reducible rfl
      rotate_left
      ·simp only [Act.put, ta, tb, tc, i64_w, i32_w]
       rfl
      refine pure_ (i := 1) (N := some 19) (v := ?_) (a' := ?_) #[true, true, false, false, false, false, false, false, false, false, false, false, false, false, false, false, false] rfl rfl (any_of HT_.out (by kernel_rfl)) (fun _ _ _ h => h) (Or.inl ⟨by rfl, ?_⟩) ?_ ?_
      rotate_left
      ·intro w'
       go_simp
       with_reducible rfl
      rotate_left
      ·simp only [Act.put, ta, tb, tc, i64_w, i32_w]
       rfl
      refine pure_ (i := 2) (N := some 20) (v := ?_) (a' := ?_) #[true, true, true, false, false, false, false, false, false, false, false, false, false, false, false, false, false] rfl rfl (any_of HT_.out (by kernel_rfl)) (fun _ _ _ h => h) (Or.inl ⟨by rfl, ?_⟩) ?_ ?_
      rotate_left
      ·intro w'
       go_simp
       with_reducible rfl
      rotate_left
      ·simp only [Act.put, ta, tb, tc, i64_w, i32_w]
       rfl
      refine pure_ (i := 3) (N := some 21) (v := ?_) (a' := ?_) #[true, true, true, true, false, false, false, false, false, false, false, false, false, false, false, false, false] rfl rfl (any_of HT_.out (by kernel_rfl)) (fun _ _ _ h => h) (Or.inl ⟨by rfl, ?_⟩) ?_ ?_
      rotate_left
      ·intro w'
       go_simp
       with_reducible rfl
      rotate_left
      ·simp only [Act.put, ta, tb, tc, i64_w, i32_w]
       rfl
      refine pure_ (i := 4) (N := some 22) (v := ?_) (a' := ?_) #[true, true, true, true, true, false, false, false, false, false, false, false, false, false, false, false, false] rfl rfl (any_of HT_.out (by kernel_rfl)) (fun _ _ _ h => h) (Or.inl ⟨by rfl, ?_⟩) ?_ ?_
      rotate_left
      ·intro w'
       go_simp
       with_reducible rfl
      rotate_left
      ·simp only [Act.put, ta, tb, tc, i64_w, i32_w]
       rfl
      refine pure_ (i := 5) (N := some 23) (v := ?_) (a' := ?_) #[true, true, true, true, true, true, false, false, false, false, false, false, false, false, false, false, false] rfl rfl (any_of HT_.out (by kernel_rfl)) (fun _ _ _ h => h) (Or.inl ⟨by rfl, ?_⟩) ?_ ?_
      rotate_left
      ·intro w'
       go_simp
       with_reducible rfl
      rotate_left
      ·simp only [Act.put, ta, tb, tc, i64_w, i32_w]
       rfl
      refine pure_ (i := 6) (N := some 24) (v := ?_) (a' := ?_) #[true, true, true, true, true, true, true, false, false, false, false, false, false, false, false, false, false] rfl rfl (any_of HT_.out (by kernel_rfl)) (fun _ _ _ h => h) (Or.inl ⟨by rfl, ?_⟩) ?_ ?_
      rotate_left
      ·intro w'
       go_simp
       with_reducible rfl
      rotate_left
      ·simp only [Act.put, ta, tb, tc, i64_w, i32_w]
       rfl
      refine pure_ (i := 7) (N := some 25) (v := ?_) (a' := ?_) #[true, true, true, true, true, true, true, true, false, false, false, false, false, false, false, false, false] rfl rfl (any_of HT_.out (by kernel_rfl)) (fun _ _ _ h => h) (Or.inl ⟨by rfl, ?_⟩) ?_ ?_
      rotate_left
      ·intro w'
       go_simp
       with_reducible rfl
      rotate_left
      ·simp only [Act.put, ta, tb, tc, i64_w, i32_w]
       rfl
      refine pure_ (i := 9) (N := some 27) (v := ?_) (a' := ?_) #[true, true, true, true, true, true, true, true, false, true, false, false, false, false, false, false, false] rfl rfl (any_of HT_.out (by kernel_rfl)) (fun _ _ _ h => h) (Or.inl ⟨by rfl, ?_⟩) ?_ ?_
      rotate_left
      ·intro w'
       go_simp
       with_reducible rfl
      rotate_left
      ·simp only [Act.put, ta, tb, tc, i64_w, i32_w]
       rfl
      refine pure_ (i := 10) (N := some 28) (v := ?_) (a' := ?_) #[true, true, true, true, true, true, true, true, false, true, true, false, false, false, false, false, false] rfl rfl (any_of HT_.out (by kernel_rfl)) (fun _ _ _ h => h) (Or.inl ⟨by rfl, ?_⟩) ?_ ?_
      rotate_left
      ·intro w'
       go_simp
       with_reducible rfl
      rotate_left
      ·simp only [Act.put, ta, tb, tc, i64_w, i32_w]
       rfl
      refine pure_ (i := 11) (N := some 29) (v := ?_) (a' := ?_) #[true, true, true, true, true, true, true, true, false, true, true, true, false, false, false, false, false] rfl rfl (any_of HT_.out (by kernel_rfl)) (fun _ _ _ h => h) (Or.inl ⟨by rfl, ?_⟩) ?_ ?_
      rotate_left
      ·intro w'
       go_simp
       with_reducible rfl
      rotate_left
      ·simp only [Act.put, ta, tb, tc, i64_w, i32_w]
       rfl
      refine pure_ (i := 12) (N := some 30) (v := ?_) (a' := ?_) #[true, true, true, true, true, true, true, true, false, true, true, true, true, false, false, false, false] rfl rfl (any_of HT_.out (by kernel_rfl)) (fun _ _ _ h => h) (Or.inl ⟨by rfl, ?_⟩) ?_ ?_
      rotate_left
      ·intro w'
       go_simp
       with_reducible rfl
      rotate_left
      ·simp only [Act.put, ta, tb, tc, i64_w, i32_w]
       rfl
      refine take_ (i := 8) (N := some 26) (v := ?_) (a' := ?_) #[true, true, true, true, true, true, true, true, true, true, true, true, true, false, false, false, false] rfl rfl (take_ofW HT_.out HW_.out (by kernel_rfl)) (fun _ _ _ h => h) (Or.inl ⟨by rfl, ?_⟩) hHeld ?_ ?_
      rotate_left
      ·rintro w' ⟨s0, s1, s2, s3, s4, s5, s6, s7, s8, s9, s10, s11, s12, s13, s14, s15, s16, s17, s18, s19⟩
       go_simp
       with_reducible rfl
      rotate_left
      ·simp only [Act.put, ta, tb, tc, i64_w, i32_w]
       rfl
      refine take_ (i := 13) (N := some 31) (v := ?_) (a' := ?_) #[true, true, true, true, true, true, true, true, true, true, true, true, true, true, false, false, false] rfl rfl (take_ofW HT_.out HW_.out (by kernel_rfl)) (fun _ _ _ h => h) (Or.inl ⟨by rfl, ?_⟩) hHeld ?_ ?_
      rotate_left
      ·rintro w' ⟨s0, s1, s2, s3, s4, s5, s6, s7, s8, s9, s10, s11, s12, s13, s14, s15, s16, s17, s18, s19⟩
       go_simp
       with_reducible rfl
      rotate_left
      ·simp only [Act.put, ta, tb, tc, i64_w, i32_w]
       rfl
      refine one_ (i := 14) (N := some 32) #[true, true, true, true, true, true, true, true, true, true, true, true, true, true, true, false, false] rfl rfl (one_of HT_.out (by kernel_rfl)) (by decide) (fun K hK => ?_)
      refine goesv_ Try.func21 (by kernel_rfl) rfl #[.agg #[.int .i64 x.e.f0, .int .i64 x.e.f1.f0, .int .i64 x.e.f1.f1, .int .i64 x.e.f2.f0, .int .i64 x.e.f2.f1, .int .i64 x.e.f3.f0, .int .i64 x.e.f3.f1, .bool x.e.f4, .string x.e.f5, .slice x.A x.e.f6.length x.c], .agg #[.int .i64 y.e.f0, .int .i64 y.e.f1.f0, .int .i64 y.e.f1.f1, .int .i64 y.e.f2.f0, .int .i64 y.e.f2.f1, .int .i64 y.e.f3.f0, .int .i64 y.e.f3.f1, .bool y.e.f4, .string y.e.f5, .slice y.A y.e.f6.length y.c]] (by rfl) rfl rfl (by rfl) (by simp only [List.map_toArray, List.map_cons, List.map_nil]; rfl) ?_
      with_reducible refine (cmpo_ge x y _ (HRX.out.below (below_drew1 (Below.refl _ _))) (HRY.out.below (below_drew1 (Below.refl _ _))) HLT.out).mono ?_
      rintro e w3 ⟨r, rfl, hr1, hr2, hb3⟩
      refine ⟨_, rfl, ?_⟩
      refine hK.out _ _ (lift20 hb3 x0 x1 x2 x3 x4 x5 x6 x7 x8 x9 y0 y1 y2 y3 y4 y5 y6 y7 y8 y9) (fun hHeld => ?_)
      clear hK K
      refine norm_ (a' := ?_) ?_ ?_
      rotate_left
      ·show Act.put _ (some 32) _ = _
       simp only [Act.put, ta, tb, tc, i64_w, i32_w]
       rfl
      refine pure_ (i := 15) (N := some 33) (v := ?_) (a' := ?_) #[true, true, true, true, true, true, true, true, true, true, true, true, true, true, true, true, false] rfl rfl (any_of HT_.out (by kernel_rfl)) (fun _ _ _ h => h) (Or.inl ⟨by rfl, ?_⟩) ?_ ?_
      rotate_left
      ·intro w'
       go_simp
       with_reducible rfl
      rotate_left
      ·simp only [Act.put, ta, tb, tc, i64_w, i32_w]
       rfl
      refine pure_ (i := 16) (N := some 34) (v := ?_) (a' := ?_) #[true, true, true, true, true, true, true, true, true, true, true, true, true, true, true, true, true] rfl rfl (any_of HT_.out (by kernel_rfl)) (fun _ _ _ h => h) (Or.inl ⟨by rfl, ?_⟩) ?_ ?_
      rotate_left
      ·intro w'
       go_simp
       with_reducible rfl
      rotate_left
      ·simp only [Act.put, ta, tb, tc, i64_w, i32_w]
       rfl
      refine done_ (done_of HT_.out (by kernel_rfl)) ?_
      have HSX : Aside0 (Srt w w3 base gr n cap (insL P S (l.drop (k + 2) ++ R) x (m' + 1))) := ⟨HSX.out.below (below_step (below_drew1 (Below.refl _ _)) hb3)⟩
      clear hb3 HRX HRY x0 x1 x2 x3 x4 x5 x6 x7 x8 x9 y0 y1 y2 y3 y4 y5 y6 y7 y8 y9 hw1 hw2
      obtain ⟨S', e1, e2, e3, e4⟩ := insL_done (P := P) (R := l.drop (k + 2) ++ R) HSO.out HCL.out (by rw [HSL.out]; exact HJM.out.2) HD.out (fun k' y' hk' hy' => (by have h : k' = m' := (by omega); subst h; have h2 := HY.out.symm.trans hy'; injection h2 with h2; rw [← h2]; exact HLT.out))
      have HS4 : Aside0 (Srt w w3 base gr n cap (P ++ S' ++ l.drop (k + 1 + 1) ++ R)) := ⟨by have h := HSX.out; rw [e1] at h; rw [List.append_assoc (P ++ S')]; exact h.below (by repeat (first | exact Below.refl _ _ | apply pw_below_drewN | apply below_drew1))⟩
      have HO4 := Aside0.mk e2
      have HC4 : Aside0 (Cl kO (l.take (k + 1 + 1)) S') := ⟨by
       have h1 := List.getElem?_eq_some_iff.1 HX.out
       obtain ⟨h2, h3⟩ := h1
       rw [List.take_succ_eq_append_getElem h2, h3]
       exact e3⟩
      have hk5 : (-1000000 : Int) ≤ (a : Int) + 1 + k + 1 ∧ (a : Int) + 1 + k + 1 ≤ 1000000 := by have := HKB.out; have := HAB.out; have := HLN.out; omega
      have hw3 := iw (x := (a : Int) + 1 + k + 1) rfl hk5
      have hw4 := w64 (x := (a : Int) + 1 + k + 1) rfl hk5
      clear hk5 e1 e2 e3 e4
      go_wp2
      clear hw3 hw4
      go_roundg (b - a - (k + 1))
      case measure => rw [HG.out]; have := HKB.out; omega
      case rel => exact ⟨k + 1, S', rfl, by congr 1; (try push_cast); (try omega), ⟨HS4.out.below (by repeat (first | exact Below.refl _ _ | apply pw_below_drewN | apply below_drew1))⟩, HO4, HC4⟩
  ·have hkb2 : ¬ (a : Int) + 1 + k < b := by omega
   have HKB := Aside0.mk hkb
   clear hkb
   go_wp2
   go_end0
   refine ⟨rfl, S, ?_, HSO.out, ?_⟩
   ·have h := HS.out
    rw [List.drop_of_length_le (by have := HAB.out; have := HKB.out; omega), List.append_nil] at h
    exact h
   ·have h := HCL.out
    rw [List.take_of_length_le (by have := HAB.out; have := HKB.out; omega)] at h
    exact h
end Go.Proofs.Ytaiakklflmhpmaa.K

namespace Go.Proofs.Ytaiakklflmhpmaa.K
open Go.RowKit Go.Proofs.YtaiakklflmhpmaaW.PrintWords Go.Proofs.YtaiakklflmhpmaaW.PrintLast Go.Proofs.YtaiakklflmhpmaaW.PrintMore
set_option linter.unusedVariables false
set_option linter.unusedSimpArgs false

theorem Srt.self {w W : World} {base gr n cap : Nat} {ps : List QP} (h : Srt w W base gr n cap ps) : Srt W W base gr n cap ps := ⟨h.row, h.len, Fr.refl _ _⟩
theorem Srt.next {w W X : World} {base gr n cap : Nat} {ps qs : List QP} (h : Srt w W base gr n cap ps) (k : Srt W X base gr n cap qs) : Srt w X base gr n cap qs := ⟨k.row, k.len, h.fr.trans k.fr (fun _ _ h => h)⟩
/-- swapRange's rows. -/
def srL (P U M V R : List QP) (i : Nat) : List QP := (P ++ V.take i) ++ U.drop i ++ (M ++ U.take i) ++ V.drop i ++ R
theorem srL_split {P U M V R : List QP} {i : Nat} {u v : QP} (hu : U[i]? = some u) (hv : V[i]? = some v) : srL P U M V R i = (P ++ V.take i) ++ u :: (U.drop (i + 1) ++ M ++ U.take i) ++ v :: (V.drop (i + 1) ++ R) := by
 obtain ⟨h1, h2⟩ := List.getElem?_eq_some_iff.1 hu
 obtain ⟨h3, h4⟩ := List.getElem?_eq_some_iff.1 hv
 unfold srL
 rw [List.drop_eq_getElem_cons h1, h2, List.drop_eq_getElem_cons h3, h4]
 simp
theorem srL_next {P U M V R : List QP} {i : Nat} {u v : QP} (hu : U[i]? = some u) (hv : V[i]? = some v) : srL P U M V R (i + 1) = (P ++ V.take i) ++ v :: (U.drop (i + 1) ++ M ++ U.take i) ++ u :: (V.drop (i + 1) ++ R) := by
 obtain ⟨h1, h2⟩ := List.getElem?_eq_some_iff.1 hu
 obtain ⟨h3, h4⟩ := List.getElem?_eq_some_iff.1 hv
 unfold srL
 rw [List.take_succ_eq_append_getElem h1, h2, List.take_succ_eq_append_getElem h3, h4]
 simp
theorem srL_at1 {P U M V R : List QP} {i : Nat} {u v : QP} (hl : U.length = V.length) (hu : U[i]? = some u) (hv : V[i]? = some v) : (srL P U M V R i)[P.length + i]? = some u := by
 have h1 := (List.getElem?_eq_some_iff.1 hv).1
 have e : P.length + i = (P ++ V.take i).length := by rw [List.length_append, List.length_take]; omega
 rw [srL_split hu hv, e, List.append_assoc]
 exact get_mid _ _ _
theorem srL_at2 {P U M V R : List QP} {i : Nat} {u v : QP} (hl : U.length = V.length) (hu : U[i]? = some u) (hv : V[i]? = some v) : (srL P U M V R i)[P.length + U.length + M.length + i]? = some v := by
 have h1 := (List.getElem?_eq_some_iff.1 hv).1
 have e : P.length + U.length + M.length + i = ((P ++ V.take i) ++ u :: (U.drop (i + 1) ++ M ++ U.take i)).length := by simp only [List.length_append, List.length_take, List.length_cons, List.length_drop]; omega
 rw [srL_split hu hv, e]
 exact get_mid _ _ _
theorem srL_ex {P U M V R : List QP} {i : Nat} {u v : QP} (hl : U.length = V.length) (hu : U[i]? = some u) (hv : V[i]? = some v) : exP (srL P U M V R i) (P.length + i) (P.length + U.length + M.length + i) u v = srL P U M V R (i + 1) := by
 have h1 := (List.getElem?_eq_some_iff.1 hv).1
 have e1 : P.length + i = (P ++ V.take i).length := by rw [List.length_append, List.length_take]; omega
 have e2 : P.length + U.length + M.length + i = (P ++ V.take i).length + 1 + (U.drop (i + 1) ++ M ++ U.take i).length := by simp only [List.length_append, List.length_take, List.length_drop]; omega
 rw [srL_split hu hv, srL_next hu hv, e2, e1]
 exact ex_mid _ _ _ _ _
def swr_calls.T3 : Bool × List (List Nat × List Nat) := (true, [([], []), ([], []), ([], []), ([1, 2], [1, 2]), ([], []), ([], []), ([], []), ([5, 6], [5, 6]), ([], []), ([], []), ([], []), ([9, 10], [9, 10]), ([8, 11], [8, 11]), ([12], [12]), ([], []), ([], []), ([], []), ([15, 16], [15, 16]), ([14, 17], [14, 17]), ([18], [18]), ([0, 3, 0, 1, 2, 3, 8, 9, 10, 11, 12, 13, 19], [0, 3]), ([20, 13, 0, 1, 2, 3, 8, 9, 10, 11, 12, 13, 19], [13, 20]), ([4, 7, 0, 1, 2, 3, 4, 5, 6, 7, 8, 9, 10, 11, 12, 13, 14, 15, 16, 17, 18, 19, 20, 21], [4, 7]), ([22, 19, 21, 0, 1, 2, 3, 4, 5, 6, 7, 8, 9, 10, 11, 12, 13, 14, 15, 16, 17, 18, 19, 20, 21], [19, 22])])
def swr_calls.B3 : List Nat := [0, 0, 0, 6, 0, 0, 0, 96, 0, 0, 0, 1536, 3840, 7936, 0, 0, 0, 98304, 245760, 507904, 1048335, 2096911, 4194303, 8388607]
theorem swr_calls.tab3 : rtab .any (opsOf Try.f71 3) = swr_calls.T3 := by kernel_rfl
theorem swr_calls.bits3 : waitsOk swr_calls.T3.2 swr_calls.B3 = true := by kernel_rfl
set_option maxRecDepth 100000 in
set_option maxHeartbeats 16000000 in
theorem swr_calls (base gr n cap a b m : Nat) (P U M V R : List QP) (w : World) (h : Srt w w base gr n cap (P ++ U ++ M ++ V ++ R)) (ha : P.length = a) (hb : P.length + U.length + M.length = b) (hu : U.length = m) (hv : V.length = m) (hn : n ≤ 100000) :
  Calls Try.prog 71 #[.slice (some ⟨gr, 0, none⟩) n cap, .int .i64 a, .int .i64 b, .int .i64 m, .func (.func 21) #[] #[]] w fun e w' => e = .returned (.tuple #[]) ∧ Srt w w' base gr n cap (P ++ V ++ M ++ U ++ R) := by
 have HH := Aside0.mk h
 have HAB := Aside0.mk (And.intro ha (And.intro hb (And.intro hu (And.intro hv hn))))
 have HLN : Aside0 (P.length + U.length + M.length + V.length + R.length = n) := ⟨by have := h.len; simp only [List.length_append] at this; omega⟩
 clear h ha hb hu hv hn
 go_enter Try.func71, Try.ntmps71
 go_wp2
 go_loopg [10] m (fun gg v10 wr => ∃ (i : Nat), gg = m - i ∧ v10 = .int .i64 i ∧ i ≤ m ∧ Aside0 (Srt w wr base gr n cap (srL P U M V R i)))
 case atStart => exact ⟨0, rfl, rfl, Nat.zero_le _, ⟨by have h := HH.out; unfold srL; simpa using h⟩⟩
 case round =>
  obtain ⟨i, hg, rfl, hi, HS0⟩ := hrel
  have HG := Aside0.mk hg
  clear hg
  by_cases him : i < m
  ·obtain ⟨pi, hpi⟩ : ∃ p, U[i]? = some p := ⟨_, List.getElem?_eq_getElem (by have := HAB.out; omega)⟩
   obtain ⟨pj, hpj⟩ : ∃ p, V[i]? = some p := ⟨_, List.getElem?_eq_getElem (by have := HAB.out; omega)⟩
   have HU := Aside0.mk hpi
   have HV := Aside0.mk hpj
   have HUV : Aside0 (U.length = V.length) := ⟨by have := HAB.out; omega⟩
   obtain ⟨p1, hp1⟩ : ∃ p, p = a + i := ⟨_, rfl⟩
   obtain ⟨p2, hp2⟩ : ∃ p, p = b + i := ⟨_, rfl⟩
   have HP12 := Aside0.mk (And.intro hp1 hp2)
   have e1 : (a : Int) + (i : Int) = (p1 : Int) := by omega
   have e2 : (b : Int) + (i : Int) = (p2 : Int) := by omega
   have k1 : (-1000000 : Int) ≤ (p1 : Int) ∧ (p1 : Int) ≤ 1000000 := by have := HLN.out; have := HAB.out; omega
   have k2 : (-1000000 : Int) ≤ (p2 : Int) ∧ (p2 : Int) ≤ 1000000 := by have := HLN.out; have := HAB.out; omega
   have k3 : (-1000000 : Int) ≤ (i : Int) + 1 ∧ (i : Int) + 1 ≤ 1000000 := by have := HLN.out; have := HAB.out; omega
   have hw1 := iw e1 k1
   have hw2 := w64 e1 k1
   have hw3 := iw e2 k2
   have hw4 := w64 e2 k2
   have q1 : (0 : Int) ≤ p1 := by omega
   have q2 : (0 : Int) ≤ p2 := by omega
   have q3 : (p1 : Int) < n := by have := HLN.out; have := HAB.out; omega
   have q4 : (p2 : Int) < n := by have := HLN.out; have := HAB.out; omega
   have HI : Aside0 ((srL P U M V R i)[p1]? = some pi) := ⟨by rw [hp1, ← HAB.out.1]; exact srL_at1 HUV.out hpi hpj⟩
   have HJ : Aside0 ((srL P U M V R i)[p2]? = some pj) := ⟨by rw [hp2, ← HAB.out.2.1]; exact srL_at2 HUV.out hpi hpj⟩
   have HIM := Aside0.mk him
   have HK3 := Aside0.mk k3
   have hlt : (i : Int) < m := by omega
   clear hpi hpj hp1 hp2 e1 e2 k1 k2 k3 him
   go_upto_region 3 with fail
   refine gen_world (fun wx hwx => ?_)
   have HS : Aside0 (Srt w wx base gr n cap (srL P U M V R i)) := ⟨by rw [hwx]; first | exact HS0.out | exact HS0.out.below (by repeat (first | exact Below.refl _ _ | apply pw_below_drewN | apply below_drew1))⟩
   clear hwx HS0
   obtain ⟨cur, hbg, hcur, hnc, hcm, hsz, htk⟩ := HS.out.parts
   have HCUR := Aside0.mk hcur
   have HPT := Aside0.mk (And.intro hbg (And.intro hnc (And.intro hcm (And.intro hsz htk))))
   have hil : p1 < n := HS.out.lt HI.out
   have hjl : p2 < n := HS.out.lt HJ.out
   obtain ⟨ci0, ci1, ci2, ci3, ci4, ci5, ci6, ci7, ci8, ci9⟩ := cells_atQ hcur htk HI.out
   obtain ⟨cj0, cj1, cj2, cj3, cj4, cj5, cj6, cj7, cj8, cj9⟩ := cells_atQ hcur htk HJ.out
   obtain ⟨_u0, _u1, _u2, _u3, _u4, _u5, _u6, _u7, _u8, _u9, _d0, _d1, _d2, _d3, _d4, _d5, _d6, _d7, _d8, _d9, z0, z1, z2, z3, z4, z5, z6, z7, z8, z9⟩ := cellsQ hcur (i := p1) (by omega)
   clear _d0 _d1 _d2 _d3 _d4 _d5 _d6 _d7 _d8 _d9 _u0 _u1 _u2 _u3 _u4 _u5 _u6 _u7 _u8 _u9 hcur htk hbg hcm
   refine start_ (n := 24) (S := fun w' => w'.cell? ⟨gr, p2 * 10, none⟩ = some (.int .i64 pj.e.f0) ∧ w'.cell? ⟨gr, p2 * 10 + 1, none⟩ = some (.int .i64 pj.e.f1.f0) ∧ w'.cell? ⟨gr, p2 * 10 + 2, none⟩ = some (.int .i64 pj.e.f1.f1) ∧ w'.cell? ⟨gr, p2 * 10 + 3, none⟩ = some (.int .i64 pj.e.f2.f0) ∧ w'.cell? ⟨gr, p2 * 10 + 4, none⟩ = some (.int .i64 pj.e.f2.f1) ∧ w'.cell? ⟨gr, p2 * 10 + 5, none⟩ = some (.int .i64 pj.e.f3.f0) ∧ w'.cell? ⟨gr, p2 * 10 + 6, none⟩ = some (.int .i64 pj.e.f3.f1) ∧ w'.cell? ⟨gr, p2 * 10 + 7, none⟩ = some (.bool pj.e.f4) ∧ w'.cell? ⟨gr, p2 * 10 + 8, none⟩ = some (.string pj.e.f5) ∧ w'.cell? ⟨gr, p2 * 10 + 9, none⟩ = some (.slice pj.A pj.e.f6.length pj.c) ∧ w'.cell? ⟨gr, p1 * 10, none⟩ = some (.int .i64 pi.e.f0) ∧ w'.cell? ⟨gr, p1 * 10 + 1, none⟩ = some (.int .i64 pi.e.f1.f0) ∧ w'.cell? ⟨gr, p1 * 10 + 2, none⟩ = some (.int .i64 pi.e.f1.f1) ∧ w'.cell? ⟨gr, p1 * 10 + 3, none⟩ = some (.int .i64 pi.e.f2.f0) ∧ w'.cell? ⟨gr, p1 * 10 + 4, none⟩ = some (.int .i64 pi.e.f2.f1) ∧ w'.cell? ⟨gr, p1 * 10 + 5, none⟩ = some (.int .i64 pi.e.f3.f0) ∧ w'.cell? ⟨gr, p1 * 10 + 6, none⟩ = some (.int .i64 pi.e.f3.f1) ∧ w'.cell? ⟨gr, p1 * 10 + 7, none⟩ = some (.bool pi.e.f4) ∧ w'.cell? ⟨gr, p1 * 10 + 8, none⟩ = some (.string pi.e.f5) ∧ w'.cell? ⟨gr, p1 * 10 + 9, none⟩ = some (.slice pi.A pi.e.f6.length pi.c)) (ds := [21, 23]) #[false, false, false, false, false, false, false, false, false, false, false, false, false, false, false, false, false, false, false, false, false, false, false, false] (by kernel_rfl) rfl rfl ⟨cj0, cj1, cj2, cj3, cj4, cj5, cj6, cj7, cj8, cj9, ci0, ci1, ci2, ci3, ci4, ci5, ci6, ci7, ci8, ci9⟩ (fun hHeld => ?_)
   refine with_tabW swr_calls.tab3 swr_calls.bits3 (fun HT_ HW_ => ?_)
   refine pure_ (i := 0) (N := some 16) (v := ?_) (a' := ?_) #[true, false, false, false, false, false, false, false, false, false, false, false, false, false, false, false, false, false, false, false, false, false, false, false] rfl rfl (any_of HT_.out (by kernel_rfl)) (fun _ _ _ h => h) (Or.inl ⟨by rfl, ?_⟩) ?_ ?_
   rotate_left
   ·intro w'
    go_simp
    with_reducible rfl
   rotate_left
   ·simp only [Act.put, ta, tb, tc, i64_w, i32_w]
    rfl
   refine pure_ (i := 1) (N := some 17) (v := ?_) (a' := ?_) #[true, true, false, false, false, false, false, false, false, false, false, false, false, false, false, false, false, false, false, false, false, false, false, false] rfl rfl (any_of HT_.out (by kernel_rfl)) (fun _ _ _ h => h) (Or.inl ⟨by rfl, ?_⟩) ?_ ?_
   rotate_left
   ·intro w'
    go_simp
    with_reducible rfl
   rotate_left
   ·simp only [Act.put, ta, tb, tc, i64_w, i32_w]
    rfl
   refine pure_ (i := 2) (N := some 18) (v := ?_) (a' := ?_) #[true, true, true, false, false, false, false, false, false, false, false, false, false, false, false, false, false, false, false, false, false, false, false, false] rfl rfl (any_of HT_.out (by kernel_rfl)) (fun _ _ _ h => h) (Or.inl ⟨by rfl, ?_⟩) ?_ ?_
   rotate_left
   ·intro w'
    go_simp
    with_reducible rfl
   rotate_left
   ·simp only [Act.put, ta, tb, tc, i64_w, i32_w]
    rfl
   refine pure_ (i := 3) (N := some 19) (v := ?_) (a' := ?_) #[true, true, true, true, false, false, false, false, false, false, false, false, false, false, false, false, false, false, false, false, false, false, false, false] rfl rfl (any_of HT_.out (by kernel_rfl)) (fun _ _ _ h => h) (Or.inl ⟨by rfl, ?_⟩) ?_ ?_
   rotate_left
   ·intro w'
    go_simp
    with_reducible rfl
   rotate_left
   ·simp only [Act.put, ta, tb, tc, i64_w, i32_w]
    rfl
   refine pure_ (i := 4) (N := some 20) (v := ?_) (a' := ?_) #[true, true, true, true, true, false, false, false, false, false, false, false, false, false, false, false, false, false, false, false, false, false, false, false] rfl rfl (any_of HT_.out (by kernel_rfl)) (fun _ _ _ h => h) (Or.inl ⟨by rfl, ?_⟩) ?_ ?_
   rotate_left
   ·intro w'
    go_simp
    with_reducible rfl
   rotate_left
   ·simp only [Act.put, ta, tb, tc, i64_w, i32_w]
    rfl
   refine pure_ (i := 5) (N := some 21) (v := ?_) (a' := ?_) #[true, true, true, true, true, true, false, false, false, false, false, false, false, false, false, false, false, false, false, false, false, false, false, false] rfl rfl (any_of HT_.out (by kernel_rfl)) (fun _ _ _ h => h) (Or.inl ⟨by rfl, ?_⟩) ?_ ?_
   rotate_left
   ·intro w'
    go_simp
    with_reducible rfl
   rotate_left
   ·simp only [Act.put, ta, tb, tc, i64_w, i32_w]
    rfl
   refine pure_ (i := 6) (N := some 22) (v := ?_) (a' := ?_) #[true, true, true, true, true, true, true, false, false, false, false, false, false, false, false, false, false, false, false, false, false, false, false, false] rfl rfl (any_of HT_.out (by kernel_rfl)) (fun _ _ _ h => h) (Or.inl ⟨by rfl, ?_⟩) ?_ ?_
   rotate_left
   ·intro w'
    go_simp
    with_reducible rfl
   rotate_left
   ·simp only [Act.put, ta, tb, tc, i64_w, i32_w]
    rfl
   refine pure_ (i := 7) (N := some 23) (v := ?_) (a' := ?_) #[true, true, true, true, true, true, true, true, false, false, false, false, false, false, false, false, false, false, false, false, false, false, false, false] rfl rfl (any_of HT_.out (by kernel_rfl)) (fun _ _ _ h => h) (Or.inl ⟨by rfl, ?_⟩) ?_ ?_
   rotate_left
   ·intro w'
    go_simp
    with_reducible rfl
   rotate_left
   ·simp only [Act.put, ta, tb, tc, i64_w, i32_w]
    rfl
   refine pure_ (i := 8) (N := some 24) (v := ?_) (a' := ?_) #[true, true, true, true, true, true, true, true, true, false, false, false, false, false, false, false, false, false, false, false, false, false, false, false] rfl rfl (any_of HT_.out (by kernel_rfl)) (fun _ _ _ h => h) (Or.inl ⟨by rfl, ?_⟩) ?_ ?_
   rotate_left
   ·intro w'
    go_simp
    with_reducible rfl
   rotate_left
   ·simp only [Act.put, ta, tb, tc, i64_w, i32_w]
    rfl
   refine pure_ (i := 9) (N := some 25) (v := ?_) (a' := ?_) #[true, true, true, true, true, true, true, true, true, true, false, false, false, false, false, false, false, false, false, false, false, false, false, false] rfl rfl (any_of HT_.out (by kernel_rfl)) (fun _ _ _ h => h) (Or.inl ⟨by rfl, ?_⟩) ?_ ?_
   rotate_left
   ·intro w'
    go_simp
    with_reducible rfl
   rotate_left
   ·simp only [Act.put, ta, tb, tc, i64_w, i32_w]
    rfl
   refine pure_ (i := 10) (N := some 26) (v := ?_) (a' := ?_) #[true, true, true, true, true, true, true, true, true, true, true, false, false, false, false, false, false, false, false, false, false, false, false, false] rfl rfl (any_of HT_.out (by kernel_rfl)) (fun _ _ _ h => h) (Or.inl ⟨by rfl, ?_⟩) ?_ ?_
   rotate_left
   ·intro w'
    go_simp
    with_reducible rfl
   rotate_left
   ·simp only [Act.put, ta, tb, tc, i64_w, i32_w]
    rfl
   refine pure_ (i := 11) (N := some 27) (v := ?_) (a' := ?_) #[true, true, true, true, true, true, true, true, true, true, true, true, false, false, false, false, false, false, false, false, false, false, false, false] rfl rfl (any_of HT_.out (by kernel_rfl)) (fun _ _ _ h => h) (Or.inl ⟨by rfl, ?_⟩) ?_ ?_
   rotate_left
   ·intro w'
    go_simp
    with_reducible rfl
   rotate_left
   ·simp only [Act.put, ta, tb, tc, i64_w, i32_w]
    rfl
   refine pure_ (i := 12) (N := some 28) (v := ?_) (a' := ?_) #[true, true, true, true, true, true, true, true, true, true, true, true, true, false, false, false, false, false, false, false, false, false, false, false] rfl rfl (any_of HT_.out (by kernel_rfl)) (fun _ _ _ h => h) (Or.inl ⟨by rfl, ?_⟩) ?_ ?_
   rotate_left
   ·intro w'
    go_simp
    with_reducible rfl
   rotate_left
   ·simp only [Act.put, ta, tb, tc, i64_w, i32_w]
    rfl
   refine pure_ (i := 14) (N := some 30) (v := ?_) (a' := ?_) #[true, true, true, true, true, true, true, true, true, true, true, true, true, false, true, false, false, false, false, false, false, false, false, false] rfl rfl (any_of HT_.out (by kernel_rfl)) (fun _ _ _ h => h) (Or.inl ⟨by rfl, ?_⟩) ?_ ?_
   rotate_left
   ·intro w'
    go_simp
    with_reducible rfl
   rotate_left
   ·simp only [Act.put, ta, tb, tc, i64_w, i32_w]
    rfl
   refine pure_ (i := 15) (N := some 31) (v := ?_) (a' := ?_) #[true, true, true, true, true, true, true, true, true, true, true, true, true, false, true, true, false, false, false, false, false, false, false, false] rfl rfl (any_of HT_.out (by kernel_rfl)) (fun _ _ _ h => h) (Or.inl ⟨by rfl, ?_⟩) ?_ ?_
   rotate_left
   ·intro w'
    go_simp
    with_reducible rfl
   rotate_left
   ·simp only [Act.put, ta, tb, tc, i64_w, i32_w]
    rfl
   refine pure_ (i := 16) (N := some 32) (v := ?_) (a' := ?_) #[true, true, true, true, true, true, true, true, true, true, true, true, true, false, true, true, true, false, false, false, false, false, false, false] rfl rfl (any_of HT_.out (by kernel_rfl)) (fun _ _ _ h => h) (Or.inl ⟨by rfl, ?_⟩) ?_ ?_
   rotate_left
   ·intro w'
    go_simp
    with_reducible rfl
   rotate_left
   ·simp only [Act.put, ta, tb, tc, i64_w, i32_w]
    rfl
   refine pure_ (i := 17) (N := some 33) (v := ?_) (a' := ?_) #[true, true, true, true, true, true, true, true, true, true, true, true, true, false, true, true, true, true, false, false, false, false, false, false] rfl rfl (any_of HT_.out (by kernel_rfl)) (fun _ _ _ h => h) (Or.inl ⟨by rfl, ?_⟩) ?_ ?_
   rotate_left
   ·intro w'
    go_simp
    with_reducible rfl
   rotate_left
   ·simp only [Act.put, ta, tb, tc, i64_w, i32_w]
    rfl
   refine pure_ (i := 18) (N := some 34) (v := ?_) (a' := ?_) #[true, true, true, true, true, true, true, true, true, true, true, true, true, false, true, true, true, true, true, false, false, false, false, false] rfl rfl (any_of HT_.out (by kernel_rfl)) (fun _ _ _ h => h) (Or.inl ⟨by rfl, ?_⟩) ?_ ?_
   rotate_left
   ·intro w'
    go_simp
    with_reducible rfl
   rotate_left
   ·simp only [Act.put, ta, tb, tc, i64_w, i32_w]
    rfl
   refine take_ (i := 13) (N := some 29) (v := ?_) (a' := ?_) #[true, true, true, true, true, true, true, true, true, true, true, true, true, true, true, true, true, true, true, false, false, false, false, false] rfl rfl (take_ofW HT_.out HW_.out (by kernel_rfl)) (fun _ _ _ h => h) (Or.inl ⟨by rfl, ?_⟩) hHeld ?_ ?_
   rotate_left
   ·rintro w' ⟨s0, s1, s2, s3, s4, s5, s6, s7, s8, s9, s10, s11, s12, s13, s14, s15, s16, s17, s18, s19⟩
    go_simp
    with_reducible rfl
   rotate_left
   ·simp only [Act.put, ta, tb, tc, i64_w, i32_w]
    rfl
   refine take_ (i := 19) (N := some 35) (v := ?_) (a' := ?_) #[true, true, true, true, true, true, true, true, true, true, true, true, true, true, true, true, true, true, true, true, false, false, false, false] rfl rfl (take_ofW HT_.out HW_.out (by kernel_rfl)) (fun _ _ _ h => h) (Or.inl ⟨by rfl, ?_⟩) hHeld ?_ ?_
   rotate_left
   ·rintro w' ⟨s0, s1, s2, s3, s4, s5, s6, s7, s8, s9, s10, s11, s12, s13, s14, s15, s16, s17, s18, s19⟩
    go_simp
    with_reducible rfl
   rotate_left
   ·simp only [Act.put, ta, tb, tc, i64_w, i32_w]
    rfl
   refine pure_ (i := 20) (N := some 36) (v := ?_) (a' := ?_) #[true, true, true, true, true, true, true, true, true, true, true, true, true, true, true, true, true, true, true, true, true, false, false, false] rfl rfl (any_of HT_.out (by kernel_rfl)) (fun _ _ _ h => h) (Or.inl ⟨by rfl, ?_⟩) ?_ ?_
   rotate_left
   ·intro w'
    go_simp
    with_reducible rfl
   rotate_left
   ·simp only [Act.put, ta, tb, tc, i64_w, i32_w]
    rfl
   refine last_ (i := 21) (N := none) #[true, true, true, true, true, true, true, true, true, true, true, true, true, true, true, true, true, true, true, true, true, true, false, false] rfl rfl (one_of HT_.out (by kernel_rfl)) (by decide) (fun K hK => ?_)
   refine skip_ (w1 := ?_) (by rfl) rfl ?_ ?_
   rotate_left
   ·go_simp
    rfl
   refine gen_K (fun W1 hW1 => ?_)
   have hb1 : W1.heap[gr]? = some (.cells (setA cur (p1 * 10) (qC pj)) 31 (0, 0)) := by rw [hW1]; (try with_reducible refine blk_drew ?_); exact heap_set10 HCUR.out (p1 * 10) pj
   have hf1 : Fr wx W1 (fun k => k = gr) := by rw [hW1]; repeat (with_reducible first | exact Fr.refl _ _ | refine Fr.drew ?_ | refine Fr.setg ?_ _ _)
   have HB1 := Aside0.mk hb1
   have HF1 := Aside0.mk hf1
   obtain ⟨u0, u1, u2, u3, u4, u5, u6, u7, u8, u9, d0, d1, d2, d3, d4, d5, d6, d7, d8, d9, z0, z1, z2, z3, z4, z5, z6, z7, z8, z9⟩ := cellsQ hb1 (i := p2) (by rw [setA_size]; omega)
   clear hW1 hb1 hf1
   refine hK.out _ _ ?_
   clear hK K
   refine pure_ (i := 22) (N := some 37) (v := ?_) (a' := ?_) #[true, true, true, true, true, true, true, true, true, true, true, true, true, true, true, true, true, true, true, true, true, true, true, false] rfl rfl (any_of HT_.out (by kernel_rfl)) (fun _ _ _ h => h) (Or.inl ⟨by rfl, ?_⟩) ?_ ?_
   rotate_left
   ·intro w'
    go_simp
    with_reducible rfl
   rotate_left
   ·simp only [Act.put, ta, tb, tc, i64_w, i32_w]
    rfl
   refine last_ (i := 23) (N := none) #[true, true, true, true, true, true, true, true, true, true, true, true, true, true, true, true, true, true, true, true, true, true, true, true] rfl rfl (one_of HT_.out (by kernel_rfl)) (by decide) (fun K hK => ?_)
   refine skip_ (w1 := ?_) (by rfl) rfl ?_ ?_
   rotate_left
   ·go_simp
    rfl
   refine hK.out _ _ ?_
   clear hK K
   refine done_ (done_of HT_.out (by kernel_rfl)) ?_
   refine gen_K (fun W2 hW2 => ?_)
   have hb2 : W2.heap[gr]? = some (.cells (setA (setA cur (p1 * 10) (qC pj)) (p2 * 10) (qC pi)) 31 (0, 0)) := by rw [hW2]; (try with_reducible refine blk_drew ?_); exact heap_set10 HB1.out (p2 * 10) pi
   have hf2 : Fr wx W2 (fun k => k = gr) := by rw [hW2]; repeat (with_reducible first | exact HF1.out | refine Fr.drew ?_ | refine Fr.setg ?_ _ _)
   have HS2 := Aside0.mk (HS.out.swapped HI.out HJ.out HPT.out.1 HCUR.out HPT.out.2.1 HPT.out.2.2.1 HPT.out.2.2.2.1 HPT.out.2.2.2.2 hb2 hf2)
   clear hW2 hb2 hf2 HB1 HF1 HCUR HPT hil hjl hnc hsz
   have HS5 : Aside0 (Srt w W2 base gr n cap (srL P U M V R (i + 1))) := ⟨by
    have h := HS2.out
    rw [HP12.out.1, HP12.out.2, ← HAB.out.1, ← HAB.out.2.1, srL_ex HUV.out HU.out HV.out] at h
    exact h⟩
   clear HS2 HS HI HJ hw1 hw2 hw3 hw4
   have hw5 := iw (x := (i : Int) + 1) rfl HK3.out
   have hw6 := w64 (x := (i : Int) + 1) rfl HK3.out
   go_wp2
   clear hw5 hw6
   go_roundg (m - (i + 1))
   case measure => rw [HG.out]; have := HIM.out; omega
   case rel => exact ⟨i + 1, rfl, by simp, HIM.out, ⟨HS5.out.below (by repeat (first | exact Below.refl _ _ | apply pw_below_drewN | apply below_drew1))⟩⟩
  ·have hlt : ¬ (i : Int) < m := by omega
   have HIM : Aside0 (i = m) := ⟨by omega⟩
   clear him hi
   go_wp2
   go_end0
   refine ⟨rfl, ?_⟩
   have h := HS0.out
   unfold srL at h
   rw [HIM.out] at h
   have e1 := HAB.out.2.2.1
   have e2 := HAB.out.2.2.2.1
   rw [List.take_of_length_le (by omega), List.take_of_length_le (by omega), List.drop_of_length_le (by omega), List.drop_of_length_le (by omega)] at h
   simpa using h
/-- What rotate has to leave. -/
structure Rot (w W : World) (base gr n cap m : Nat) (P U V R : List QP) (i j : Nat) (V1 U' V' U2 : List QP) : Prop where
 s : Srt w W base gr n cap (P ++ V1 ++ U' ++ V' ++ U2 ++ R)
 ui : U'.length = i
 vj : V'.length = j
 i0 : 0 < i
 j0 : 0 < j
 at_ : P.length + V1.length + i = m
 eq : V1 ++ V' ++ U' ++ U2 = V ++ U
set_option maxRecDepth 100000 in
set_option maxHeartbeats 16000000 in
theorem rot_calls (base gr n cap a m b : Nat) (P U V R : List QP) (w : World) (h : Srt w w base gr n cap (P ++ U ++ V ++ R)) (ha : P.length = a) (hm : P.length + U.length = m) (hb : P.length + U.length + V.length = b) (hu : 0 < U.length) (hv : 0 < V.length) (hn : n ≤ 100000) :
  Calls Try.prog 67 #[.slice (some ⟨gr, 0, none⟩) n cap, .int .i64 a, .int .i64 m, .int .i64 b, .func (.func 21) #[] #[]] w fun e w' => e = .returned (.tuple #[]) ∧ Srt w w' base gr n cap (P ++ V ++ U ++ R) := by
 have HLN : Aside0 (P.length + U.length + V.length + R.length = n ∧ n ≤ 100000) := ⟨by have := h.len; simp only [List.length_append] at this; omega, hn⟩
 obtain ⟨i0, hi0⟩ : ∃ i, i = U.length := ⟨_, rfl⟩
 obtain ⟨j0, hj0⟩ : ∃ j, j = V.length := ⟨_, rfl⟩
 have HR0 : Aside0 (Rot w w base gr n cap m P U V R i0 j0 [] U V []) := ⟨by simpa using h, hi0.symm, hj0.symm, by omega, by omega, by simp; omega, by simp⟩
 have HBD : Aside0 (i0 + j0 ≤ n) := ⟨by have := HLN.out; omega⟩
 have e1 : (m : Int) - (a : Int) = (i0 : Int) := by omega
 have e2 : (b : Int) - (m : Int) = (j0 : Int) := by omega
 have k1 : (-1000000 : Int) ≤ (i0 : Int) ∧ (i0 : Int) ≤ 1000000 := by have := HLN.out; omega
 have k2 : (-1000000 : Int) ≤ (j0 : Int) ∧ (j0 : Int) ≤ 1000000 := by have := HLN.out; omega
 have hw1 := iw e1 k1
 have hw2 := w64 e1 k1
 have hw3 := iw e2 k2
 have hw4 := w64 e2 k2
 have HMN : Aside0 (m ≤ n) := ⟨by have := HLN.out; omega⟩
 clear h ha hm hb hu hv hn hi0 hj0 e1 e2 k1 k2
 go_enter Try.func67, Try.ntmps67
 go_wp2
 clear hw1 hw2 hw3 hw4
 go_loopg [10, 11] (i0 + j0) (fun gg v10 v11 wr => ∃ (i j : Nat) (V1 U' V' U2 : List QP), gg = i + j ∧ v10 = .int .i64 i ∧ v11 = .int .i64 j ∧ i + j ≤ n ∧ Aside0 (Rot w wr base gr n cap m P U V R i j V1 U' V' U2))
 case atStart => exact ⟨i0, j0, [], U, V, [], rfl, rfl, rfl, HBD.out, HR0⟩
 case round =>
  clear HR0 HBD
  obtain ⟨i, j, V1, U', V', U2, hg, rfl, rfl, hij, HR⟩ := hrel
  have HG := Aside0.mk (And.intro hg hij)
  clear hg
  obtain ⟨c, hc⟩ : ∃ c, c = m - i := ⟨_, rfl⟩
  have e1 : (m : Int) - (i : Int) = (c : Int) := by have := HR.out.at_; omega
  have k1 : (-1000000 : Int) ≤ (c : Int) ∧ (c : Int) ≤ 1000000 := by have := HLN.out; have := HMN.out; omega
  have HE1 := Aside0.mk (And.intro e1 k1)
  have HC : Aside0 (P.length + V1.length = c) := ⟨by have := HR.out.at_; omega⟩
  clear e1 k1 hc
  by_cases hEq : i = j
  ·subst hEq
   have hne : ((i : Int) != (i : Int)) = false := by simp
   have hneN : (i != i) = false := by simp
   have HGB : Aside0 ((P ++ V1).length + U'.length + ([] : List QP).length = m) := ⟨by have := HR.out.at_; have := HR.out.ui; simp only [List.length_append, List.length_nil]; omega⟩
   clear hij
   have hw1 := iw HE1.out.1 HE1.out.2
   have hw2 := w64 HE1.out.1 HE1.out.2
   go_wp2_with (first
    | (go_at_call 71; go_must (refine (swr_calls base gr n cap c m i (P ++ V1) U' [] V' (U2 ++ R) _ (by have h := HR.out.s.self; simpa using h) (by rw [List.length_append]; exact HC.out) HGB.out HR.out.ui HR.out.vj HLN.out.2).mono ?_; rintro e w9 ⟨rfl, hs⟩; have HS9 := Aside0.mk (HR.out.s.next hs); clear hs)))
   go_end0
   refine ⟨rfl, ?_⟩
   have h := HS9.out
   have e := HR.out.eq
   have e2 : P ++ V1 ++ V' ++ [] ++ U' ++ (U2 ++ R) = P ++ (V1 ++ V' ++ U' ++ U2) ++ R := by simp
   rw [e2, e] at h
   simpa using h
  ·have hne : ((i : Int) != (j : Int)) = true := by simp; omega
   have hneN : (i != j) = true := by simpa using hEq
   by_cases hgt : j < i
   ·have hgtI : (j : Int) < (i : Int) := by omega
    obtain ⟨d, hd⟩ : ∃ d, d = i - j := ⟨_, rfl⟩
    have e2 : (i : Int) - (j : Int) = (d : Int) := by omega
    have k2 : (-1000000 : Int) ≤ (d : Int) ∧ (d : Int) ≤ 1000000 := by have := HLN.out; omega
    have HD : Aside0 (i = d + j ∧ 0 < d) := ⟨by omega, by omega⟩
    have HUX : Aside0 (U' = U'.take j ++ U'.drop j ∧ (U'.take j).length = j ∧ (U'.drop j).length = d) := ⟨(List.take_append_drop _ _).symm, by rw [List.length_take, HR.out.ui]; omega, by rw [List.length_drop, HR.out.ui]; omega⟩
    have HGB : Aside0 ((P ++ V1).length + (U'.take j).length + (U'.drop j).length = m) := ⟨by have h1 := HR.out.at_; have h2 := HUX.out.2; have h3 := HD.out; rw [List.length_append]; omega⟩
    have HE2 := Aside0.mk (And.intro e2 k2)
    clear e2 k2 hd hij hEq
    have hw1 := iw HE1.out.1 HE1.out.2
    have hw2 := w64 HE1.out.1 HE1.out.2
    have hw3 := iw HE2.out.1 HE2.out.2
    have hw4 := w64 HE2.out.1 HE2.out.2
    go_wp2_with (first
     | (go_at_call 71; go_must (refine (swr_calls base gr n cap c m j (P ++ V1) (U'.take j) (U'.drop j) V' (U2 ++ R) _ (by have h := HR.out.s.self; rw [HUX.out.1] at h; simpa using h) (by rw [List.length_append]; exact HC.out) HGB.out HUX.out.2.1 HR.out.vj HLN.out.2).mono ?_; rintro e w9 ⟨rfl, hs⟩; have HS9 := Aside0.mk (HR.out.s.next hs); clear hs)))
    clear hw1 hw2 hw3 hw4
    have HR9 : Aside0 (Rot w w9 base gr n cap m P U V R d j (V1 ++ V') (U'.drop j) (U'.take j) U2) := ⟨by have h := HS9.out; simpa using h, HUX.out.2.2, HUX.out.2.1, HD.out.2, HR.out.j0, by have := HR.out.at_; have := HD.out; have := HR.out.vj; rw [List.length_append]; omega, by
     have e := HR.out.eq
     rw [HUX.out.1] at e
     simpa using e⟩
    go_roundg (d + j)
    case measure => rw [HG.out.1]; have := HD.out; have := HR.out.j0; omega
    case rel => exact ⟨d, j, _, _, _, _, rfl, rfl, rfl, by have := HG.out; have := HD.out; omega, ⟨by
     have h := HR9.out
     exact ⟨h.s.below (by repeat (first | exact Below.refl _ _ | apply pw_below_drewN | apply below_drew1)), h.ui, h.vj, h.i0, h.j0, h.at_, h.eq⟩⟩⟩
   ·have hgtI : ¬ (j : Int) < (i : Int) := by omega
    obtain ⟨d, hd⟩ : ∃ d, d = j - i := ⟨_, rfl⟩
    obtain ⟨q, hq⟩ : ∃ q, q = m + j := ⟨_, rfl⟩
    obtain ⟨s, hs⟩ : ∃ s, s = m + j - i := ⟨_, rfl⟩
    have hat := HR.out.at_
    have e2 : (j : Int) - (i : Int) = (d : Int) := by omega
    have e3 : (m : Int) + (j : Int) = (q : Int) := by omega
    have e4 : (q : Int) - (i : Int) = (s : Int) := by omega
    have k2 : (-1000000 : Int) ≤ (d : Int) ∧ (d : Int) ≤ 1000000 := by have := HLN.out; omega
    have k3 : (-1000000 : Int) ≤ (q : Int) ∧ (q : Int) ≤ 1000000 := by have := HLN.out; have := HMN.out; omega
    have k4 : (-1000000 : Int) ≤ (s : Int) ∧ (s : Int) ≤ 1000000 := by have := HLN.out; have := HMN.out; omega
    have HE2 := Aside0.mk (And.intro e2 k2)
    have HE3 := Aside0.mk (And.intro e3 k3)
    have HE4 := Aside0.mk (And.intro e4 k4)
    have HD : Aside0 (j = d + i ∧ 0 < d) := ⟨by omega, by omega⟩
    have HQS : Aside0 (s = m + d) := ⟨by omega⟩
    have HVX : Aside0 (V' = V'.take d ++ V'.drop d ∧ (V'.take d).length = d ∧ (V'.drop d).length = i) := ⟨(List.take_append_drop _ _).symm, by rw [List.length_take, HR.out.vj]; omega, by rw [List.length_drop, HR.out.vj]; omega⟩
    have HGB : Aside0 ((P ++ V1).length + U'.length + (V'.take d).length = s) := ⟨by have h2 := HVX.out.2; have h6 := HR.out.ui; rw [List.length_append]; omega⟩
    clear e2 e3 e4 k2 k3 k4 hd hq hs hat hij hEq
    have hw1 := iw HE1.out.1 HE1.out.2
    have hw2 := w64 HE1.out.1 HE1.out.2
    have hw3 := iw HE2.out.1 HE2.out.2
    have hw4 := w64 HE2.out.1 HE2.out.2
    have hw5 := iw HE3.out.1 HE3.out.2
    have hw6 := w64 HE3.out.1 HE3.out.2
    have hw7 := iw HE4.out.1 HE4.out.2
    have hw8 := w64 HE4.out.1 HE4.out.2
    go_wp2_with (first
     | (go_at_call 71; go_must (refine (swr_calls base gr n cap c s i (P ++ V1) U' (V'.take d) (V'.drop d) (U2 ++ R) _ (by have h := HR.out.s.self; rw [HVX.out.1] at h; simpa using h) (by rw [List.length_append]; exact HC.out) HGB.out HR.out.ui HVX.out.2.2 HLN.out.2).mono ?_; rintro e w9 ⟨rfl, hs⟩; have HS9 := Aside0.mk (HR.out.s.next hs); clear hs)))
    clear hw1 hw2 hw3 hw4 hw5 hw6 hw7 hw8
    have HR9 : Aside0 (Rot w w9 base gr n cap m P U V R i d V1 (V'.drop d) (V'.take d) (U' ++ U2)) := ⟨by have h := HS9.out; simpa using h, HVX.out.2.2, HVX.out.2.1, HR.out.i0, HD.out.2, HR.out.at_, by
     have e := HR.out.eq
     rw [HVX.out.1] at e
     simpa using e⟩
    go_roundg (i + d)
    case measure => rw [HG.out.1]; have := HD.out; have := HR.out.i0; omega
    case rel => exact ⟨i, d, _, _, _, _, rfl, rfl, rfl, by have := HG.out; have := HD.out; omega, ⟨by
     have h := HR9.out
     exact ⟨h.s.below (by repeat (first | exact Below.refl _ _ | apply pw_below_drewN | apply below_drew1)), h.ui, h.vj, h.i0, h.j0, h.at_, h.eq⟩⟩⟩
end Go.Proofs.Ytaiakklflmhpmaa.K

/- A sorted list of operations is the reference's: plain law. cachetteref15.Sort. -/
import Derived.Test.YtaiakklflmhpmaaMF
namespace Go.Proofs.Ytaiakklflmhpmaa.K
open Go.RowKit Go.Proofs.YtaiakklflmhpmaaW.PrintWords Go.Proofs.YtaiakklflmhpmaaW.PrintLast Go.Proofs.YtaiakklflmhpmaaW.PrintMore
set_option linter.unusedVariables false
set_option linter.unusedSimpArgs false

theorem dd2_first : ∀ (k : Ko) (l : List QP), sO kO l → (∀ x ∈ l, ¬ ltO (kO x) k) → ∀ y ∈ dd2 k l, (l.filter (fun a => decide (kO a = kO y))).head? = some y
 | k, [], _, _, y, hy => by simp [dd2] at hy
 | k, b :: l, hs, hk, y, hy => by
  have hs' := List.pairwise_cons.1 hs
  unfold dd2 at hy
  by_cases h : kO b = k
  ·rw [if_pos h] at hy
   have hk' : ∀ x ∈ l, ¬ ltO (kO x) k := fun x hx => hk x (List.mem_cons_of_mem _ hx)
   have hlt := (dd2_sorted k l hs'.2 hk').2 y hy
   rw [List.filter_cons_of_neg (by simp only [decide_eq_true_eq]; intro e; rw [← e, h] at hlt; exact ltO.irr hlt)]
   exact dd2_first k l hs'.2 hk' y hy
  ·rw [if_neg h] at hy
   rcases List.mem_cons.1 hy with rfl | hy
   ·rw [List.filter_cons_of_pos (by simp)]
    rfl
   ·have hlt := (dd2_sorted (kO b) l hs'.2 hs'.1).2 y hy
    rw [List.filter_cons_of_neg (by simp only [decide_eq_true_eq]; intro e; rw [← e] at hlt; exact ltO.irr hlt)]
    exact dd2_first (kO b) l hs'.2 hs'.1 y hy
theorem dd_first {l : List QP} (hs : sO kO l) {y : QP} (hy : y ∈ dd l) : (l.filter (fun a => decide (kO a = kO y))).head? = some y := by
 cases l with
 | nil => simp [dd] at hy
 | cons a l =>
  have hs' := List.pairwise_cons.1 hs
  rcases List.mem_cons.1 (show y ∈ a :: dd2 (kO a) l from hy) with rfl | hy
  ·rw [List.filter_cons_of_pos (by simp)]
   rfl
  ·have hlt := (dd2_sorted (kO a) l hs'.2 hs'.1).2 y hy
   rw [List.filter_cons_of_neg (by simp only [decide_eq_true_eq]; intro e; rw [← e] at hlt; exact ltO.irr hlt)]
   exact dd2_first (kO a) l hs'.2 hs'.1 y hy
/-- Of each time the first one, in order. -/
structure Fo (l : List Oe) (out : List QP) : Prop where
 st : tS out
 mem : ∀ e ∈ l, ∃ s ∈ out, kO s = keO e
 fst : ∀ s ∈ out, (l.filter (fun e => decide (keO e = kO s))).head? = some s.e
theorem filt_map (ps : List QP) (k : Ko) : (ps.map (·.e)).filter (fun e => decide (keO e = k)) = (ps.filter (fun a => decide (kO a = k))).map (·.e) := by
 rw [List.filter_map]
 rfl
theorem SortP.fo {l : List Oe} {ss : List QP} (h : SortP l ss) : Fo l ss := by
 have hd := h.sd
 obtain ⟨ps, qs, hp, hs, hc, rfl⟩ := h
 refine ⟨hd.st, hd.mem, fun s hs' => ?_⟩
 have h1 := dd_first hs hs'
 rw [← hc.2 (kO s)] at h1
 rw [← hp, filt_map, List.head?_map, h1]
 rfl
theorem st_ext : ∀ (a b : List Oe), a.Pairwise (fun x y => ltO (keO x) (keO y)) → b.Pairwise (fun x y => ltO (keO x) (keO y)) → (∀ x, x ∈ a ↔ x ∈ b) → a = b
 | [], [], _, _, _ => rfl
 | [], y :: b, _, _, h => absurd ((h y).2 List.mem_cons_self) (by simp)
 | x :: a, [], _, _, h => absurd ((h x).1 List.mem_cons_self) (by simp)
 | x :: a, y :: b, ha, hb, h => by
  have ha' := List.pairwise_cons.1 ha
  have hb' := List.pairwise_cons.1 hb
  have hxy : x = y := by
   rcases List.mem_cons.1 ((h x).1 List.mem_cons_self) with e | e
   ·exact e
   ·rcases List.mem_cons.1 ((h y).2 List.mem_cons_self) with e2 | e2
    ·exact e2.symm
    ·exact absurd (ha'.1 y e2) (ltO.asym (hb'.1 x e))
  subst hxy
  rw [st_ext a b ha'.2 hb'.2 (fun z => ⟨fun hz => by
   rcases List.mem_cons.1 ((h z).1 (List.mem_cons_of_mem _ hz)) with e | e
   ·rw [e] at hz
    exact absurd (ha'.1 x hz) ltO.irr
   ·exact e, fun hz => by
   rcases List.mem_cons.1 ((h z).2 (List.mem_cons_of_mem _ hz)) with e | e
   ·rw [e] at hz
    exact absurd (hb'.1 x hz) ltO.irr
   ·exact e⟩)]
theorem Fo.same {l : List Oe} {a b : List QP} (ha : Fo l a) (hb : Fo l b) : a.map (·.e) = b.map (·.e) := by
 have sub : ∀ {a b : List QP}, Fo l a → Fo l b → ∀ x, x ∈ a.map (·.e) → x ∈ b.map (·.e) := by
  intro a b ha hb x hx
  obtain ⟨s, hs, rfl⟩ := List.mem_map.1 hx
  have h1 := ha.fst s hs
  have hm : s.e ∈ l := by
   have := List.mem_of_mem_head? h1
   exact (List.mem_filter.1 this).1
  obtain ⟨t, ht, hk⟩ := hb.mem s.e hm
  have h2 := hb.fst t ht
  rw [hk] at h2
  have h3 : kO s = keO s.e := rfl
  rw [h3] at h1
  rw [h1] at h2
  injection h2 with h2
  exact List.mem_map.2 ⟨t, ht, h2.symm⟩
 have p : ∀ {c : List QP}, tS c → (c.map (·.e)).Pairwise (fun x y => ltO (keO x) (keO y)) := fun {c} h => by
  rw [List.pairwise_map]
  exact h
 exact st_ext _ _ (p ha.st) (p hb.st) (fun x => ⟨sub ha hb x, sub hb ha x⟩)
theorem Fo.nil : Fo [] [] := ⟨List.Pairwise.nil, fun e he => by simp at he, fun s hs => by simp at hs⟩
/-- One more operation: there's one of its time. -/
theorem Fo.stay {l : List Oe} {out : List QP} {e : Oe} {s : QP} (h : Fo l out) (hs : s ∈ out) (hk : kO s = keO e) : Fo (l ++ [e]) out := by
 refine ⟨h.st, fun f hf => ?_, fun t ht => ?_⟩
 ·rcases List.mem_append.1 hf with hf | hf
  ·exact h.mem f hf
  ·rw [List.mem_singleton.1 hf]
   exact ⟨s, hs, hk⟩
 ·rw [List.filter_append]
  have h1 := h.fst t ht
  cases hl : l.filter (fun e => decide (keO e = kO t)) with
  | nil => rw [hl] at h1; simp at h1
  | cons a r => rw [hl] at h1; exact h1
/-- .. there's none. -/
theorem Fo.put {l : List Oe} {out : List QP} {x : QP} {k : Nat} (h : Fo l out) (h1 : ∀ s ∈ out.take k, ltO (kO s) (kO x)) (h2 : ∀ s, out[k]? = some s → ¬ ltO (kO s) (kO x) ∧ kO s ≠ kO x) : Fo (l ++ [x.e]) (out.take k ++ [x] ++ out.drop k) := by
 have hgt : ∀ s ∈ out.drop k, ltO (kO x) (kO s) := fun s hs => by
  obtain ⟨j, hj, hjs⟩ := drop_get hs
  have hjl := (List.getElem?_eq_some_iff.1 hjs).1
  have e : out[k]? = some out[k] := List.getElem?_eq_getElem (by omega)
  obtain ⟨g1, g2⟩ := h2 _ e
  have g3 : ltO (kO x) (kO out[k]) := by
   by_cases g : ltO (kO x) (kO out[k])
   ·exact g
   ·exact absurd (ltO.eq g1 g) g2
  exact ltO.lt_le g3 (h.st.sO.get e hjs hj)
 have hne : ∀ s ∈ out, kO s ≠ kO x := fun s hs e => by
  rw [← List.take_append_drop k out] at hs
  rcases List.mem_append.1 hs with hs | hs
  ·have := h1 s hs
   rw [e] at this
   exact ltO.irr this
  ·have := hgt s hs
   rw [e] at this
   exact ltO.irr this
 have hst := h.st
 rw [← List.take_append_drop k out] at hst
 have hst' := List.pairwise_append.1 hst
 have hkx : kO x = keO x.e := rfl
 refine ⟨?_, fun f hf => ?_, fun t ht => ?_⟩
 ·rw [List.append_assoc]
  refine List.pairwise_append.2 ⟨hst'.1, List.pairwise_cons.2 ⟨hgt, hst'.2.1⟩, fun a ha b hb => ?_⟩
  rcases List.mem_cons.1 hb with rfl | hb
  ·exact h1 a ha
  ·exact hst'.2.2 a ha b hb
 ·rcases List.mem_append.1 hf with hf | hf
  ·obtain ⟨s, hs, hk⟩ := h.mem f hf
   refine ⟨s, ?_, hk⟩
   rw [← List.take_append_drop k out] at hs
   rcases List.mem_append.1 hs with hs | hs
   ·exact List.mem_append.2 (.inl (List.mem_append.2 (.inl hs)))
   ·exact List.mem_append.2 (.inr hs)
  ·rw [List.mem_singleton.1 hf]
   exact ⟨x, by simp, hkx⟩
 ·have hold : t ∈ out → ((l ++ [x.e]).filter (fun e => decide (keO e = kO t))).head? = some t.e := fun ht => by
   rw [List.filter_append]
   have h1 := h.fst t ht
   cases hl : l.filter (fun e => decide (keO e = kO t)) with
   | nil => rw [hl] at h1; simp at h1
   | cons a r => rw [hl] at h1; exact h1
  rcases List.mem_append.1 ht with ht | ht
  ·rcases List.mem_append.1 ht with ht | ht
   ·exact hold (List.mem_of_mem_take ht)
   ·rw [List.mem_singleton.1 ht, List.filter_append]
    have hno : l.filter (fun e => decide (keO e = kO x)) = [] := by
     rw [List.filter_eq_nil_iff]
     intro e he hk
     obtain ⟨s, hs, hsk⟩ := h.mem e he
     exact hne s hs (by rw [hsk]; simpa using hk)
    rw [hno, List.nil_append, List.filter_cons_of_pos (by simp [hkx])]
    rfl
  ·exact hold (List.mem_of_mem_drop ht)
end Go.Proofs.Ytaiakklflmhpmaa.K

namespace Go.Proofs.Ytaiakklflmhpmaa.K
open Go.RowKit Go.Proofs.YtaiakklflmhpmaaW.PrintWords Go.Proofs.YtaiakklflmhpmaaW.PrintLast Go.Proofs.YtaiakklflmhpmaaW.PrintMore
set_option linter.unusedVariables false
set_option linter.unusedSimpArgs false

theorem hat_orR {u' u : Value} {n : Nat} (h : u'.ownBlock = u.ownBlock ∨ u'.ownBlock = some n) : ∀ k, u'.ownBlock = some k → u.ownBlock = some k ∨ n ≤ k := by
 intro k hk
 rcases h with h | h
 ·rw [h] at hk
  exact .inl hk
 ·rw [h] at hk
  exact .inr (Nat.le_of_eq (Option.some.inj hk))
/-- append of entries onto a row of one's own, as a step of a region that draws its order. -/
theorem step_app_rows {ops : Array Oper} {o : Oper} {a : Act} {K : Act → World → Prop} {Q : Exit → Act → World → Prop} {E : Prop} {W : World} (base : Nat) (hgd : o.guard = none) (s x : Operand) (t : TypeId)
  (ho : o.op = .call { callee := .builtin .append, args := #[s, x], argTypes := #[t, t] }) (ht : Try.prog.underlying t = some (.slice 31))
  (v : Value) (ps qs : List QP) (hs : a.eval s = v) (HO : QRow W base v ps) (ad : Addr) (m c : Nat) (hx : a.eval x = .slice (some ad) m c) (hm : qs.length = m)
  (hnews : ∀ j u, (flQ qs)[j]? = some u → W.cell? (ad.add j) = some u) (hbase : base ≤ W.heap.size) (hl : ps.length + m ≤ 1000000)
  (h : ∀ v1 w1, QRow w1 base v1 (ps ++ qs) → Fr W w1 (fun k => v.ownBlock = some k) → (v1.ownBlock = v.ownBlock ∨ v1.ownBlock = some W.heap.size) → K (a.put o.dst v1) w1) :
  if Region.wanted o (yielded ops a.tmps) = true then Oper.wp Try.prog o a W K Q else E := by
 have hw : Region.wanted o (yielded ops a.tmps) = true := by simp [Region.wanted, hgd]
 rw [if_pos hw]
 obtain ⟨i, hi, hzz⟩ := Option.map_eq_some_iff.1 infoOp
 simp only [Prod.mk.injEq] at hzz
 obtain ⟨hz, hs8, hs80⟩ := hzz
 subst hm
 obtain ⟨v', w', hr, h1, h2, h3, h4⟩ := run_append_own_at (P := Try.prog) W base t o.type 31 i _ 10 104 ht hi hz hs8 hs80 rfl (by decide) v ps.length (flQ ps) HO.row ad qs.length c (flQ qs) (flQ_length qs) hnews (flQ_one qs) (by simp only [maxLen]; omega) (by omega) hbase
 unfold Oper.wp execOp
 simp only [ho, resolve, invoke, builtin, Sem.run_bind, Sem.run_pure, Result.andThen_ok, List.map_toArray, List.map_cons, List.map_nil, hs, hx, hr]
 exact h v' w' ⟨by rw [List.length_append, flQ_append]; exact h1⟩ (grown_fr h2) h4
/-- A part of a row, as cells. -/
theorem row_news {W : World} {base gr n cap : Nat} {hs l m r : List QP} (h : QRow W base (.slice (some ⟨gr, 0, none⟩) n cap) hs) (he : hs = l ++ m ++ r) : ∀ j u, (flQ m)[j]? = some u → W.cell? ((⟨gr, l.length * 10, none⟩ : Addr).add j) = some u := by
 intro j u hu
 rcases h.slice with ⟨h1, _⟩ | ⟨g, cap', cur, h1, hbg, hcur, hnc, hcm, hsz, htk⟩
 ·cases h1
 injection h1 with h1 _ h2
 injection h1 with h1
 injection h1 with h1
 subst h1 h2
 have hadd : (⟨gr, l.length * 10, none⟩ : Addr).add j = ⟨gr, l.length * 10 + j, none⟩ := by unfold Addr.add; split <;> simp_all
 rw [hadd, blk_cell hcur]
 have hj := (List.getElem?_eq_some_iff.1 hu).1
 rw [flQ_length] at hj
 have hlen : hs.length = l.length + m.length + r.length := by rw [he]; simp; omega
 have h0 := congrArg (fun z => z[l.length * 10 + j]?) htk
 simp only [List.getElem?_take, Array.getElem?_toList] at h0
 rw [if_pos (by omega), he, flQ_append, flQ_append, List.append_assoc, List.getElem?_append_right (by rw [flQ_length]; omega), flQ_length, Nat.add_sub_cancel_left, List.getElem?_append_left (by rw [flQ_length]; exact hj), hu] at h0
 exact h0
theorem QRow.empty (W : World) (base : Nat) (hb : base ≤ W.heap.size) : QRow (W.alloc (.cells #[] 31)) base (.slice (some ⟨W.heap.size, 0, none⟩) 0 0) [] :=
 ⟨⟨rfl, .inr ⟨W.heap.size, 0, #[], rfl, hb, heap_alloc_new _ _, Nat.le_refl _, by decide, rfl, rfl⟩⟩⟩
theorem take_next {α : Type} {l : List α} {j : Nat} {p : α} (h : l[j]? = some p) : l.take (j + 1) = l.take j ++ [p] := by
 obtain ⟨hj, rfl⟩ := List.getElem?_eq_some_iff.1 h
 exact List.take_succ_eq_append_getElem hj
/-- What an append adds. -/
def SrcE (W : World) (X : Value) (qs : List QP) : Prop := (X = .slice none 0 0 ∧ qs = []) ∨ ∃ ad m c, X = .slice (some ad) m c ∧ qs.length = m ∧ ∀ j u, (flQ qs)[j]? = some u → W.cell? (ad.add j) = some u
theorem SrcE.below {w W : World} {X : Value} {qs : List QP} (h : SrcE w X qs) (hb : Below w.heap.size w W) : SrcE W X qs := by
 rcases h with h | ⟨ad, m, c, h1, h2, h3⟩
 ·exact .inl h
 ·exact .inr ⟨ad, m, c, h1, h2, fun j u hu => pw_cell_below hb (h3 j u hu)⟩
theorem srcE_take {W : World} {base gr n cap k : Nat} {hs : List QP} (h : QRow W base (.slice (some ⟨gr, 0, none⟩) n cap) hs) (hn : hs.length = n) (hk : k ≤ n) : SrcE W (.slice (some ⟨gr, 0, none⟩) k cap) (hs.take k) :=
 .inr ⟨_, _, _, rfl, by rw [List.length_take]; omega, fun j u hu => by
  have h := row_news h (l := []) (m := hs.take k) (r := hs.drop k) (by simp) j u hu
  simpa using h⟩
theorem srcE_drop {W : World} {base gr n cap k : Nat} {hs : List QP} (h : QRow W base (.slice (some ⟨gr, 0, none⟩) n cap) hs) (hn : hs.length = n) (hk : k ≤ n) : SrcE W (.slice (some ⟨gr, k * 10, none⟩) (n - k) (cap - k)) (hs.drop k) :=
 .inr ⟨_, _, _, rfl, by rw [List.length_drop]; omega, fun j u hu => by
  have h := row_news h (l := hs.take k) (m := hs.drop k) (r := []) (by simp) j u hu
  rw [List.length_take, Nat.min_eq_left (by omega)] at h
  exact h⟩
theorem QRow.cap {W : World} {base n cap : Nat} {A : Option Addr} {hs : List QP} (h : QRow W base (.slice A n cap) hs) : hs.length ≤ cap := by
 rcases h.slice with ⟨h1, h2⟩ | ⟨g, cap', cur, h1, h2, h3, h4, _⟩
 ·rw [h2]
  exact Nat.zero_le _
 ·injection h1 with _ _ h5
  omega
theorem QRow.empty2 (W : World) (o : Obj) (base : Nat) (hb : base ≤ W.heap.size) : QRow ((W.alloc o).alloc (.cells #[] 31)) base (.slice (some ⟨W.heap.size + 1, 0, none⟩) 0 0) [] := by
 have h := QRow.empty (W.alloc o) base (Nat.le_trans hb (by simp))
 rw [World.size_alloc] at h
 exact h
/-- append of no or more entries onto a row of one's own, as a step of a region that draws its order. -/
theorem step_app_src {ops : Array Oper} {o : Oper} {a : Act} {K : Act → World → Prop} {Q : Exit → Act → World → Prop} {E : Prop} {W : World} (base : Nat) (hgd : o.guard = none) (s x : Operand) (t : TypeId)
  (ho : o.op = .call { callee := .builtin .append, args := #[s, x], argTypes := #[t, t] }) (ht : Try.prog.underlying t = some (.slice 31))
  (v : Value) (ps qs : List QP) (hs : a.eval s = v) (HO : QRow W base v ps) (X : Value) (hx : a.eval x = X) (hsrc : SrcE W X qs) (hbase : base ≤ W.heap.size) (hl : ps.length + qs.length ≤ 1000000)
  (h : ∀ v1 w1, QRow w1 base v1 (ps ++ qs) → Fr W w1 (fun k => v.ownBlock = some k) → (v1.ownBlock = v.ownBlock ∨ v1.ownBlock = some W.heap.size) → K (a.put o.dst v1) w1) :
  if Region.wanted o (yielded ops a.tmps) = true then Oper.wp Try.prog o a W K Q else E := by
 rcases hsrc with ⟨rfl, rfl⟩ | ⟨ad, m, c, rfl, hm, hnews⟩
 ·have hw : Region.wanted o (yielded ops a.tmps) = true := by simp [Region.wanted, hgd]
  rw [if_pos hw]
  obtain ⟨i, hi, hzz⟩ := Option.map_eq_some_iff.1 infoOp
  have hr : (Builtin.append_ #[t, t] o.type #[v, .slice none 0 0]).run Try.prog W = .ok v W := by
   rcases HO.slice with ⟨h1, h2⟩ | ⟨g, cap', cur, h1, h2, h3, h4, _⟩
   ·rw [h1]
    simp [Builtin.append_, run_underlying ht, sizeOf, typeInfo, hi, Builtin.lenOf, Builtin.firstCells, loadCells, loadCellsFrom]
   ·rw [h1]
    simp [Builtin.append_, run_underlying ht, sizeOf, typeInfo, hi, Builtin.lenOf, Builtin.firstCells, loadCells, loadCellsFrom, storeCells, h4]
  unfold Oper.wp execOp
  simp only [ho, resolve, invoke, builtin, Sem.run_bind, Sem.run_pure, Result.andThen_ok, List.map_toArray, List.map_cons, List.map_nil, hs, hx, hr]
  exact h v W (by rw [List.append_nil]; exact HO) (Fr.refl _ _) (.inl rfl)
 ·exact step_app_rows base hgd s x t ho ht v ps qs hs HO ad m c hx hm hnews hbase (by omega) h
def lessK (a b c d : Int) : Bool := (X.cachetteref04_Less.f a b c d).getD false
theorem fless4_f (y x : QP) : X.cachetteref04_Less.f y.e.f1.f0 y.e.f1.f1 x.e.f1.f0 x.e.f1.f1 = some (decide (ltO (kO y) (kO x))) := by
 unfold X.cachetteref04_Less.f
 have hL : ltO (kO y) (kO x) ↔ (y.e.f1.f0 < x.e.f1.f0 ∨ (y.e.f1.f0 = x.e.f1.f0 ∧ y.e.f1.f1 < x.e.f1.f1)) := Iff.rfl
 repeat' split
 all_goals (congr 1; rw [Bool.eq_iff_iff]; simp only [decide_eq_true_eq, Bool.false_eq_true, false_iff, eq_self, true_iff, hL]; omega)
theorem fless4_calls (y x : QP) (w : World) : Calls Try.prog 13 #[.agg #[.int .i64 y.e.f1.f0, .int .i64 y.e.f1.f1], .agg #[.int .i64 x.e.f1.f0, .int .i64 x.e.f1.f1]] w fun e w' => e = .returned (.bool (decide (ltO (kO y) (kO x)))) ∧ Below w.heap.size w w' := by
 refine (X.cachetteref04_Less.calls y.e.f1.f0 y.e.f1.f1 x.e.f1.f0 x.e.f1.f1 _ w (fless4_f y x)).mono ?_
 rintro e w' ⟨h1, h2⟩
 exact ⟨h1, by first | exact h2 | exact h2.below⟩
theorem fless4_yes (y x : QP) (w : World) (h : ltO (kO y) (kO x)) : Calls Try.prog 13 #[.agg #[.int .i64 y.e.f1.f0, .int .i64 y.e.f1.f1], .agg #[.int .i64 x.e.f1.f0, .int .i64 x.e.f1.f1]] w fun e w' => e = .returned (.bool true) ∧ Below w.heap.size w w' := by
 have := fless4_calls y x w
 rw [decide_eq_true h] at this
 exact this
theorem fless4_no (y x : QP) (w : World) (h : ¬ ltO (kO y) (kO x)) : Calls Try.prog 13 #[.agg #[.int .i64 y.e.f1.f0, .int .i64 y.e.f1.f1], .agg #[.int .i64 x.e.f1.f0, .int .i64 x.e.f1.f1]] w fun e w' => e = .returned (.bool false) ∧ Below w.heap.size w w' := by
 have := fless4_calls y x w
 rw [decide_eq_false h] at this
 exact this
structure RsI (w W : World) (l : List Oe) (i : Nat) (v : Value) (out : List QP) : Prop where
 row : QRow W w.heap.size v out
 fo : Fo (l.take i) out
 rd : ∀ s ∈ out, Rd w s.b s.e.f6
 bel : Below w.heap.size w W
 ln : out.length ≤ i
/-- What the reference's Sort gives. -/
def RSortP (w : World) (l : List Oe) (e : Ending) (W : World) : Prop :=
 ∃ (B : Option Addr) (d : Nat) (out : List QP), e = .returned (.slice B out.length d) ∧ QRow W w.heap.size (.slice B out.length d) out ∧ (∀ s ∈ out, Rd w s.b s.e.f6) ∧ Fo l out ∧ Below w.heap.size w W
def rsort_calls.T6 : Bool × List (List Nat × List Nat) := (true, [([], []), ([], []), ([1], [1]), ([0, 2], [0, 2]), ([3], [3]), ([4], [4]), ([4], [4]), ([5, 6, 4], [4, 5, 6]), ([7, 4], [4, 7]), ([8, 4], [4, 8]), ([4], [4]), ([4], [4]), ([10, 11, 4], [4, 10, 11]), ([12, 4], [4, 12]), ([13, 4], [4, 13]), ([9, 14, 4, 4], [4, 9, 14]), ([4, 15], [4, 15])])
def rsort_calls.B6 : List Nat := [0, 0, 2, 7, 15, 31, 31, 127, 255, 511, 31, 31, 3103, 7199, 15391, 32767, 65535]
theorem rsort_calls.tab6 : rtab .any (opsOf Try.f10 6) = rsort_calls.T6 := by kernel_rfl
theorem rsort_calls.bits6 : waitsOk rsort_calls.T6.2 rsort_calls.B6 = true := by kernel_rfl
def rsort_calls.T8 : Bool × List (List Nat × List Nat) := (true, [([], []), ([], []), ([1], [1]), ([0, 2], [0, 2]), ([3], [3]), ([4], [4]), ([4], [4]), ([5, 6, 4], [4, 5, 6]), ([7, 4], [4, 7]), ([8, 4], [4, 8]), ([4], [4]), ([4], [4]), ([10, 11, 4], [4, 10, 11]), ([12, 4], [4, 12]), ([13, 4], [4, 13]), ([9, 14, 4], [4, 9, 14]), ([4, 15], [4, 15])])
def rsort_calls.B8 : List Nat := [0, 0, 2, 7, 15, 31, 31, 127, 255, 511, 31, 31, 3103, 7199, 15391, 32767, 65535]
theorem rsort_calls.tab8 : rtab .any (opsOf Try.f10 8) = rsort_calls.T8 := by kernel_rfl
theorem rsort_calls.bits8 : waitsOk rsort_calls.T8.2 rsort_calls.B8 = true := by kernel_rfl
def rsort_calls.T9 : Bool × List (List Nat × List Nat) := (true, [([], []), ([], []), ([], []), ([1, 2], [1, 2]), ([0, 3], [0, 3]), ([], []), ([], []), ([5, 6], [5, 6]), ([7], [7]), ([8], [8]), ([4, 9, 4], [4, 9]), ([], []), ([], []), ([11, 12], [11, 12]), ([10, 13, 10], [10, 13]), ([14, 14, 0, 1, 2, 3, 4, 5, 6, 7, 8, 9, 10, 11, 12, 13, 14], [1, 11, 14])])
def rsort_calls.B9 : List Nat := [0, 0, 0, 6, 15, 0, 0, 96, 224, 480, 1023, 0, 0, 6144, 16383, 32767]
theorem rsort_calls.tab9 : rtab .any (opsOf Try.f10 9) = rsort_calls.T9 := by kernel_rfl
theorem rsort_calls.bits9 : waitsOk rsort_calls.T9.2 rsort_calls.B9 = true := by kernel_rfl
attribute [local go_sem high] X.eqA28
set_option maxRecDepth 100000 in
set_option maxHeartbeats 16000000 in
theorem rsort_calls (A : Option Addr) (c : Nat) (l : List Oe) (w : World) (hC : Kd.C X.k31 w A l.length l) (hl : l.length ≤ 60) :
  Calls Try.prog 10 #[.slice A l.length c] w fun e w' => RSortP w l e w' := by
 have hu := Try.underlying28
 have HC := Aside0.mk hC
 obtain ⟨n, hn⟩ : ∃ n, l.length = n := ⟨_, rfl⟩
 have HN := Aside0.mk hn
 have HN60 : Aside0 (n ≤ 60) := ⟨by omega⟩
 rw [hn]
 have HI0 : Aside0 (RsI w w l 0 (.slice none 0 0) []) := ⟨QRow.nil _ _, by simpa using Fo.nil, fun s hs => by simp at hs, Below.refl _ _, Nat.le_refl _⟩
 clear hC hl hn
 go_enter Try.func10, Try.ntmps10
 go_wp2
 go_loopg [3, 4] n (fun gg v3 v4 wr => ∃ (i : Nat) (out : List QP), gg = n - i ∧ v4 = .int .i64 i ∧ i ≤ n ∧ Aside0 (RsI w wr l i v3 out))
 case atStart => exact ⟨0, [], rfl, rfl, Nat.zero_le _, HI0⟩
 case round =>
  clear HI0
  obtain ⟨i, out, hg, rfl, hi, HI⟩ := hrel
  have HG := Aside0.mk hg
  clear hg
  obtain ⟨wo, hwo⟩ : ∃ wo, wo = wr := ⟨_, rfl⟩
  subst hwo
  obtain ⟨B, d, hform⟩ := HI.out.row.form
  by_cases hin : i < n
  ·obtain ⟨ad, x, hA, hxe, hrx, x0, x1, x2, x3, x4, x5, x6, x7, x8, x9⟩ := opq_at HC.out (i := i) (by rw [HN.out]; exact hin)
   subst hA
   have HX0 := Aside0.mk x0
   have HX1 := Aside0.mk x1
   have HX2 := Aside0.mk x2
   have HX3 := Aside0.mk x3
   have HX4 := Aside0.mk x4
   have HX5 := Aside0.mk x5
   have HX6 := Aside0.mk x6
   have HX7 := Aside0.mk x7
   have HX8 := Aside0.mk x8
   have HX9 := Aside0.mk x9
   have HXE := Aside0.mk hxe
   have HRX := Aside0.mk hrx
   have HIN : Aside0 (i < n) := ⟨hin⟩
   have HII : Aside0 ((-1000000 : Int) ≤ (i : Int) + 1 ∧ (i : Int) + 1 ≤ 1000000) := ⟨by have := HN60.out; omega⟩
   have q1 : (0 : Int) ≤ i := by omega
   have q2 : (i : Int) < n := by omega
   clear x0 x1 x2 x3 x4 x5 x6 x7 x8 x9 hxe hrx hin hi
   rcases HI.out.row.slice with ⟨hv, ho⟩ | ⟨gr, d', cur, hv, _⟩
   ·have HM0 : Aside0 (out.length = 0) := ⟨by rw [ho]; rfl⟩
    clear hform ho
    subst hv
    have hkb : decide ((0 : Int) < (0 : Int)) = false := by simp
    have hkb2 : ((0 : Int) == (0 : Int)) = true := by simp
    go_wp2
    go_loopg [5] 0 (fun gz v5 wi => v5 = .int .i64 0 ∧ Aside0 (Below wo.heap.size wo wi))
    case atStart => exact ⟨rfl, ⟨(by repeat (first | exact Below.refl _ _ | apply pw_below_drewN | apply below_drew1))⟩⟩
    case round =>
     obtain ⟨rfl, HB⟩ := hrel
     go_upto_region 6 with fail
     refine gen_world (fun wx hwx => ?_)
     have HBO : Aside0 (Below wo.heap.size wo wx) := ⟨by rw [hwx]; first | exact HB.out | exact below_step HB.out (by repeat (first | exact Below.refl _ _ | apply pw_below_drewN | apply below_drew1))⟩
     have HBX : Aside0 (Below w.heap.size w wx) := ⟨HI.out.bel.trans (HBO.out.mono HI.out.bel.size)⟩
     clear hwx
     have HBK : Aside0 (Below wo.heap.size wo wx.drew) := ⟨below_drew1 HBO.out⟩
     clear HBO HBX
     refine start_ (n := 17) (S := fun w' => True) (ds := []) #[false, false, false, false, false, false, false, false, false, false, false, false, false, false, false, false, false] (by kernel_rfl) rfl rfl trivial (fun hHeld => ?_)
     refine with_tabW rsort_calls.tab6 rsort_calls.bits6 (fun HT_ HW_ => ?_)
     refine pure_ (i := 0) (N := some 12) (v := ?_) (a' := ?_) #[true, false, false, false, false, false, false, false, false, false, false, false, false, false, false, false, false] rfl rfl (any_of HT_.out (by kernel_rfl)) (fun _ _ _ h => h) (Or.inl ⟨by rfl, ?_⟩) ?_ ?_
     rotate_left
     ·intro w'
      go_simp
      with_reducible rfl
     rotate_left
     ·simp only [Act.put, ta, tb, tc, i64_w, i32_w]
      rfl
     refine pure_ (i := 1) (N := some 13) (v := ?_) (a' := ?_) #[true, true, false, false, false, false, false, false, false, false, false, false, false, false, false, false, false] rfl rfl (any_of HT_.out (by kernel_rfl)) (fun _ _ _ h => h) (Or.inl ⟨by rfl, ?_⟩) ?_ ?_
     rotate_left
     ·intro w'
      go_simp
      with_reducible rfl
     rotate_left
     ·simp only [Act.put, ta, tb, tc, i64_w, i32_w]
      rfl
     refine pure_ (i := 2) (N := some 14) (v := ?_) (a' := ?_) #[true, true, true, false, false, false, false, false, false, false, false, false, false, false, false, false, false] rfl rfl (any_of HT_.out (by kernel_rfl)) (fun _ _ _ h => h) (Or.inl ⟨by rfl, ?_⟩) ?_ ?_
     rotate_left
     ·intro w'
      go_simp
      with_reducible rfl
     rotate_left
     ·simp only [Act.put, ta, tb, tc, i64_w, i32_w]
      rfl
     refine pure_ (i := 3) (N := some 15) (v := ?_) (a' := ?_) #[true, true, true, true, false, false, false, false, false, false, false, false, false, false, false, false, false] rfl rfl (any_of HT_.out (by kernel_rfl)) (fun _ _ _ h => h) (Or.inl ⟨by rfl, ?_⟩) ?_ ?_
     rotate_left
     ·intro w'
      go_simp
      with_reducible rfl
     rotate_left
     ·simp only [Act.put, ta, tb, tc, i64_w, i32_w]
      rfl
     refine pure_ (i := 4) (N := some 16) (v := ?_) (a' := ?_) #[true, true, true, true, true, false, false, false, false, false, false, false, false, false, false, false, false] rfl rfl (any_of HT_.out (by kernel_rfl)) (fun _ _ _ h => h) (Or.inl ⟨by rfl, ?_⟩) ?_ ?_
     rotate_left
     ·intro w'
      go_simp
      with_reducible rfl
     rotate_left
     ·simp only [Act.put, ta, tb, tc, i64_w, i32_w]
      rfl
     refine pure_ (i := 5) (N := some 17) (v := undef) (a' := ?_) #[true, true, true, true, true, true, false, false, false, false, false, false, false, false, false, false, false] rfl rfl (any_of HT_.out (by kernel_rfl)) (fun _ _ _ h => h) (Or.inr ⟨by rfl, rfl⟩) ?_ ?_
     rotate_left
     ·simp only [Act.put, ta, tb, tc, i64_w, i32_w]
      rfl
     refine pure_ (i := 6) (N := some 18) (v := undef) (a' := ?_) #[true, true, true, true, true, true, true, false, false, false, false, false, false, false, false, false, false] rfl rfl (any_of HT_.out (by kernel_rfl)) (fun _ _ _ h => h) (Or.inr ⟨by rfl, rfl⟩) ?_ ?_
     rotate_left
     ·simp only [Act.put, ta, tb, tc, i64_w, i32_w]
      rfl
     refine pure_ (i := 7) (N := some 19) (v := undef) (a' := ?_) #[true, true, true, true, true, true, true, true, false, false, false, false, false, false, false, false, false] rfl rfl (any_of HT_.out (by kernel_rfl)) (fun _ _ _ h => h) (Or.inr ⟨by rfl, rfl⟩) ?_ ?_
     rotate_left
     ·simp only [Act.put, ta, tb, tc, i64_w, i32_w]
      rfl
     refine pure_ (i := 8) (N := some 20) (v := undef) (a' := ?_) #[true, true, true, true, true, true, true, true, true, false, false, false, false, false, false, false, false] rfl rfl (any_of HT_.out (by kernel_rfl)) (fun _ _ _ h => h) (Or.inr ⟨by rfl, rfl⟩) ?_ ?_
     rotate_left
     ·simp only [Act.put, ta, tb, tc, i64_w, i32_w]
      rfl
     refine pure_ (i := 9) (N := some 21) (v := undef) (a' := ?_) #[true, true, true, true, true, true, true, true, true, true, false, false, false, false, false, false, false] rfl rfl (any_of HT_.out (by kernel_rfl)) (fun _ _ _ h => h) (Or.inr ⟨by rfl, rfl⟩) ?_ ?_
     rotate_left
     ·simp only [Act.put, ta, tb, tc, i64_w, i32_w]
      rfl
     refine pure_ (i := 10) (N := some 22) (v := undef) (a' := ?_) #[true, true, true, true, true, true, true, true, true, true, true, false, false, false, false, false, false] rfl rfl (any_of HT_.out (by kernel_rfl)) (fun _ _ _ h => h) (Or.inr ⟨by rfl, rfl⟩) ?_ ?_
     rotate_left
     ·simp only [Act.put, ta, tb, tc, i64_w, i32_w]
      rfl
     refine pure_ (i := 11) (N := some 23) (v := undef) (a' := ?_) #[true, true, true, true, true, true, true, true, true, true, true, true, false, false, false, false, false] rfl rfl (any_of HT_.out (by kernel_rfl)) (fun _ _ _ h => h) (Or.inr ⟨by rfl, rfl⟩) ?_ ?_
     rotate_left
     ·simp only [Act.put, ta, tb, tc, i64_w, i32_w]
      rfl
     refine pure_ (i := 12) (N := some 24) (v := undef) (a' := ?_) #[true, true, true, true, true, true, true, true, true, true, true, true, true, false, false, false, false] rfl rfl (any_of HT_.out (by kernel_rfl)) (fun _ _ _ h => h) (Or.inr ⟨by rfl, rfl⟩) ?_ ?_
     rotate_left
     ·simp only [Act.put, ta, tb, tc, i64_w, i32_w]
      rfl
     refine pure_ (i := 13) (N := some 25) (v := undef) (a' := ?_) #[true, true, true, true, true, true, true, true, true, true, true, true, true, true, false, false, false] rfl rfl (any_of HT_.out (by kernel_rfl)) (fun _ _ _ h => h) (Or.inr ⟨by rfl, rfl⟩) ?_ ?_
     rotate_left
     ·simp only [Act.put, ta, tb, tc, i64_w, i32_w]
      rfl
     refine pure_ (i := 14) (N := some 26) (v := undef) (a' := ?_) #[true, true, true, true, true, true, true, true, true, true, true, true, true, true, true, false, false] rfl rfl (any_of HT_.out (by kernel_rfl)) (fun _ _ _ h => h) (Or.inr ⟨by rfl, rfl⟩) ?_ ?_
     rotate_left
     ·simp only [Act.put, ta, tb, tc, i64_w, i32_w]
      rfl
     refine pure_ (i := 15) (N := some 27) (v := undef) (a' := ?_) #[true, true, true, true, true, true, true, true, true, true, true, true, true, true, true, true, false] rfl rfl (any_of HT_.out (by kernel_rfl)) (fun _ _ _ h => h) (Or.inr ⟨by rfl, rfl⟩) ?_ ?_
     rotate_left
     ·simp only [Act.put, ta, tb, tc, i64_w, i32_w]
      rfl
     refine pure_ (i := 16) (N := some 28) (v := ?_) (a' := ?_) #[true, true, true, true, true, true, true, true, true, true, true, true, true, true, true, true, true] rfl rfl (any_of HT_.out (by kernel_rfl)) (fun _ _ _ h => h) (Or.inl ⟨by rfl, ?_⟩) ?_ ?_
     rotate_left
     ·intro w'
      go_simp
      with_reducible rfl
     rotate_left
     ·simp only [Act.put, ta, tb, tc, i64_w, i32_w]
      rfl
     refine done_ (done_of HT_.out (by kernel_rfl)) ?_
     go_wp2
     go_upto_region 8 with fail
     refine gen_world (fun wx hwx => ?_)
     have HBO : Aside0 (Below wo.heap.size wo wx) := ⟨by rw [hwx]; first | exact HBK.out | exact below_step HBK.out (by repeat (first | exact Below.refl _ _ | apply pw_below_drewN | apply below_drew1))⟩
     have HBX : Aside0 (Below w.heap.size w wx) := ⟨HI.out.bel.trans (HBO.out.mono HI.out.bel.size)⟩
     clear hwx
     have HBK2 : Aside0 (Below wo.heap.size wo wx.drew) := ⟨below_drew1 HBO.out⟩
     clear HBO HBX
     refine start_ (n := 17) (S := fun w' => True) (ds := []) #[false, false, false, false, false, false, false, false, false, false, false, false, false, false, false, false, false] (by kernel_rfl) rfl rfl trivial (fun hHeld => ?_)
     refine with_tabW rsort_calls.tab8 rsort_calls.bits8 (fun HT_ HW_ => ?_)
     refine pure_ (i := 0) (N := some 31) (v := ?_) (a' := ?_) #[true, false, false, false, false, false, false, false, false, false, false, false, false, false, false, false, false] rfl rfl (any_of HT_.out (by kernel_rfl)) (fun _ _ _ h => h) (Or.inl ⟨by rfl, ?_⟩) ?_ ?_
     rotate_left
     ·intro w'
      go_simp
      with_reducible rfl
     rotate_left
     ·simp only [Act.put, ta, tb, tc, i64_w, i32_w]
      rfl
     refine pure_ (i := 1) (N := some 32) (v := ?_) (a' := ?_) #[true, true, false, false, false, false, false, false, false, false, false, false, false, false, false, false, false] rfl rfl (any_of HT_.out (by kernel_rfl)) (fun _ _ _ h => h) (Or.inl ⟨by rfl, ?_⟩) ?_ ?_
     rotate_left
     ·intro w'
      go_simp
      with_reducible rfl
     rotate_left
     ·simp only [Act.put, ta, tb, tc, i64_w, i32_w]
      rfl
     refine pure_ (i := 2) (N := some 33) (v := ?_) (a' := ?_) #[true, true, true, false, false, false, false, false, false, false, false, false, false, false, false, false, false] rfl rfl (any_of HT_.out (by kernel_rfl)) (fun _ _ _ h => h) (Or.inl ⟨by rfl, ?_⟩) ?_ ?_
     rotate_left
     ·intro w'
      go_simp
      with_reducible rfl
     rotate_left
     ·simp only [Act.put, ta, tb, tc, i64_w, i32_w]
      rfl
     refine pure_ (i := 3) (N := some 34) (v := ?_) (a' := ?_) #[true, true, true, true, false, false, false, false, false, false, false, false, false, false, false, false, false] rfl rfl (any_of HT_.out (by kernel_rfl)) (fun _ _ _ h => h) (Or.inl ⟨by rfl, ?_⟩) ?_ ?_
     rotate_left
     ·intro w'
      go_simp
      with_reducible rfl
     rotate_left
     ·simp only [Act.put, ta, tb, tc, i64_w, i32_w]
      rfl
     refine pure_ (i := 4) (N := some 35) (v := ?_) (a' := ?_) #[true, true, true, true, true, false, false, false, false, false, false, false, false, false, false, false, false] rfl rfl (any_of HT_.out (by kernel_rfl)) (fun _ _ _ h => h) (Or.inl ⟨by rfl, ?_⟩) ?_ ?_
     rotate_left
     ·intro w'
      go_simp
      with_reducible rfl
     rotate_left
     ·simp only [Act.put, ta, tb, tc, i64_w, i32_w]
      rfl
     refine pure_ (i := 5) (N := some 36) (v := undef) (a' := ?_) #[true, true, true, true, true, true, false, false, false, false, false, false, false, false, false, false, false] rfl rfl (any_of HT_.out (by kernel_rfl)) (fun _ _ _ h => h) (Or.inr ⟨by rfl, rfl⟩) ?_ ?_
     rotate_left
     ·simp only [Act.put, ta, tb, tc, i64_w, i32_w]
      rfl
     refine pure_ (i := 6) (N := some 37) (v := undef) (a' := ?_) #[true, true, true, true, true, true, true, false, false, false, false, false, false, false, false, false, false] rfl rfl (any_of HT_.out (by kernel_rfl)) (fun _ _ _ h => h) (Or.inr ⟨by rfl, rfl⟩) ?_ ?_
     rotate_left
     ·simp only [Act.put, ta, tb, tc, i64_w, i32_w]
      rfl
     refine pure_ (i := 7) (N := some 38) (v := undef) (a' := ?_) #[true, true, true, true, true, true, true, true, false, false, false, false, false, false, false, false, false] rfl rfl (any_of HT_.out (by kernel_rfl)) (fun _ _ _ h => h) (Or.inr ⟨by rfl, rfl⟩) ?_ ?_
     rotate_left
     ·simp only [Act.put, ta, tb, tc, i64_w, i32_w]
      rfl
     refine pure_ (i := 8) (N := some 39) (v := undef) (a' := ?_) #[true, true, true, true, true, true, true, true, true, false, false, false, false, false, false, false, false] rfl rfl (any_of HT_.out (by kernel_rfl)) (fun _ _ _ h => h) (Or.inr ⟨by rfl, rfl⟩) ?_ ?_
     rotate_left
     ·simp only [Act.put, ta, tb, tc, i64_w, i32_w]
      rfl
     refine pure_ (i := 9) (N := some 40) (v := undef) (a' := ?_) #[true, true, true, true, true, true, true, true, true, true, false, false, false, false, false, false, false] rfl rfl (any_of HT_.out (by kernel_rfl)) (fun _ _ _ h => h) (Or.inr ⟨by rfl, rfl⟩) ?_ ?_
     rotate_left
     ·simp only [Act.put, ta, tb, tc, i64_w, i32_w]
      rfl
     refine pure_ (i := 10) (N := some 41) (v := undef) (a' := ?_) #[true, true, true, true, true, true, true, true, true, true, true, false, false, false, false, false, false] rfl rfl (any_of HT_.out (by kernel_rfl)) (fun _ _ _ h => h) (Or.inr ⟨by rfl, rfl⟩) ?_ ?_
     rotate_left
     ·simp only [Act.put, ta, tb, tc, i64_w, i32_w]
      rfl
     refine pure_ (i := 11) (N := some 42) (v := undef) (a' := ?_) #[true, true, true, true, true, true, true, true, true, true, true, true, false, false, false, false, false] rfl rfl (any_of HT_.out (by kernel_rfl)) (fun _ _ _ h => h) (Or.inr ⟨by rfl, rfl⟩) ?_ ?_
     rotate_left
     ·simp only [Act.put, ta, tb, tc, i64_w, i32_w]
      rfl
     refine pure_ (i := 12) (N := some 43) (v := undef) (a' := ?_) #[true, true, true, true, true, true, true, true, true, true, true, true, true, false, false, false, false] rfl rfl (any_of HT_.out (by kernel_rfl)) (fun _ _ _ h => h) (Or.inr ⟨by rfl, rfl⟩) ?_ ?_
     rotate_left
     ·simp only [Act.put, ta, tb, tc, i64_w, i32_w]
      rfl
     refine pure_ (i := 13) (N := some 44) (v := undef) (a' := ?_) #[true, true, true, true, true, true, true, true, true, true, true, true, true, true, false, false, false] rfl rfl (any_of HT_.out (by kernel_rfl)) (fun _ _ _ h => h) (Or.inr ⟨by rfl, rfl⟩) ?_ ?_
     rotate_left
     ·simp only [Act.put, ta, tb, tc, i64_w, i32_w]
      rfl
     refine pure_ (i := 14) (N := some 45) (v := undef) (a' := ?_) #[true, true, true, true, true, true, true, true, true, true, true, true, true, true, true, false, false] rfl rfl (any_of HT_.out (by kernel_rfl)) (fun _ _ _ h => h) (Or.inr ⟨by rfl, rfl⟩) ?_ ?_
     rotate_left
     ·simp only [Act.put, ta, tb, tc, i64_w, i32_w]
      rfl
     refine pure_ (i := 15) (N := some 46) (v := undef) (a' := ?_) #[true, true, true, true, true, true, true, true, true, true, true, true, true, true, true, true, false] rfl rfl (any_of HT_.out (by kernel_rfl)) (fun _ _ _ h => h) (Or.inr ⟨by rfl, rfl⟩) ?_ ?_
     rotate_left
     ·simp only [Act.put, ta, tb, tc, i64_w, i32_w]
      rfl
     refine pure_ (i := 16) (N := some 47) (v := ?_) (a' := ?_) #[true, true, true, true, true, true, true, true, true, true, true, true, true, true, true, true, true] rfl rfl (any_of HT_.out (by kernel_rfl)) (fun _ _ _ h => h) (Or.inl ⟨by rfl, ?_⟩) ?_ ?_
     rotate_left
     ·intro w'
      go_simp
      with_reducible rfl
     rotate_left
     ·simp only [Act.put, ta, tb, tc, i64_w, i32_w]
      rfl
     refine done_ (done_of HT_.out (by kernel_rfl)) ?_
     go_wp2
     go_upto_region 9 with fail
     refine gen_world (fun wx hwx => ?_)
     have HBO : Aside0 (Below wo.heap.size wo wx) := ⟨by rw [hwx]; first | exact HBK2.out | exact below_step HBK2.out (by repeat (first | exact Below.refl _ _ | apply pw_below_drewN | apply below_drew1))⟩
     have HBX : Aside0 (Below w.heap.size w wx) := ⟨HI.out.bel.trans (HBO.out.mono HI.out.bel.size)⟩
     clear hwx
     have x0 := pw_cell_below HBX.out HX0.out
     have x1 := pw_cell_below HBX.out HX1.out
     have x2 := pw_cell_below HBX.out HX2.out
     have x3 := pw_cell_below HBX.out HX3.out
     have x4 := pw_cell_below HBX.out HX4.out
     have x5 := pw_cell_below HBX.out HX5.out
     have x6 := pw_cell_below HBX.out HX6.out
     have x7 := pw_cell_below HBX.out HX7.out
     have x8 := pw_cell_below HBX.out HX8.out
     have x9 := pw_cell_below HBX.out HX9.out
     have HKI : Aside0 ((0 : Nat) ≤ out.length ∧ out.length = 0 ∧ out.length ≤ 60) := ⟨Nat.zero_le _, HM0.out, by have := HM0.out; omega⟩
     have HS1 : Aside0 (SrcE wx (.slice none 0 0) (out.take 0)) := ⟨.inl ⟨rfl, by simp⟩⟩
     have HS2 : Aside0 (SrcE wx (.slice none 0 0) (out.drop 0)) := ⟨.inl ⟨rfl, by rw [List.drop_zero]; exact List.eq_nil_of_length_eq_zero HM0.out⟩⟩
     clear hkb hkb2
     refine start_ (n := 16) (S := fun w' => w'.cell? (ad.add (i * 10)) = some (.int .i64 x.e.f0) ∧ w'.cell? ⟨(ad.add (i * 10)).block, (ad.add (i * 10)).off + 1, none⟩ = some (.int .i64 x.e.f1.f0) ∧ w'.cell? ⟨(ad.add (i * 10)).block, (ad.add (i * 10)).off + 2, none⟩ = some (.int .i64 x.e.f1.f1) ∧ w'.cell? ⟨(ad.add (i * 10)).block, (ad.add (i * 10)).off + 3, none⟩ = some (.int .i64 x.e.f2.f0) ∧ w'.cell? ⟨(ad.add (i * 10)).block, (ad.add (i * 10)).off + 4, none⟩ = some (.int .i64 x.e.f2.f1) ∧ w'.cell? ⟨(ad.add (i * 10)).block, (ad.add (i * 10)).off + 5, none⟩ = some (.int .i64 x.e.f3.f0) ∧ w'.cell? ⟨(ad.add (i * 10)).block, (ad.add (i * 10)).off + 6, none⟩ = some (.int .i64 x.e.f3.f1) ∧ w'.cell? ⟨(ad.add (i * 10)).block, (ad.add (i * 10)).off + 7, none⟩ = some (.bool x.e.f4) ∧ w'.cell? ⟨(ad.add (i * 10)).block, (ad.add (i * 10)).off + 8, none⟩ = some (.string x.e.f5) ∧ w'.cell? ⟨(ad.add (i * 10)).block, (ad.add (i * 10)).off + 9, none⟩ = some (.slice x.A x.e.f6.length x.c)) (ds := []) #[false, false, false, false, false, false, false, false, false, false, false, false, false, false, false, false] (by kernel_rfl) rfl rfl ⟨x0, x1, x2, x3, x4, x5, x6, x7, x8, x9⟩ (fun hHeld => ?_)
     refine with_tabW rsort_calls.tab9 rsort_calls.bits9 (fun HT_ HW_ => ?_)
     refine pure_ (i := 1) (N := some 49) (v := ?_) (a' := ?_) #[false, true, false, false, false, false, false, false, false, false, false, false, false, false, false, false] rfl rfl (any_of HT_.out (by kernel_rfl)) (fun _ _ _ h => h) (Or.inl ⟨by rfl, ?_⟩) ?_ ?_
     rotate_left
     ·intro w'
      go_simp
      with_reducible rfl
     rotate_left
     ·simp only [Act.put, ta, tb, tc, i64_w, i32_w]
      rfl
     refine pure_ (i := 2) (N := some 50) (v := ?_) (a' := ?_) #[false, true, true, false, false, false, false, false, false, false, false, false, false, false, false, false] rfl rfl (any_of HT_.out (by kernel_rfl)) (fun _ _ _ h => h) (Or.inl ⟨by rfl, ?_⟩) ?_ ?_
     rotate_left
     ·intro w'
      go_simp
      with_reducible rfl
     rotate_left
     ·simp only [Act.put, ta, tb, tc, i64_w, i32_w]
      rfl
     refine pure_ (i := 3) (N := some 51) (v := ?_) (a' := ?_) #[false, true, true, true, false, false, false, false, false, false, false, false, false, false, false, false] rfl rfl (any_of HT_.out (by kernel_rfl)) (fun _ _ _ h => h) (Or.inl ⟨by rfl, ?_⟩) ?_ ?_
     rotate_left
     ·intro w'
      go_simp
      with_reducible rfl
     rotate_left
     ·simp only [Act.put, ta, tb, tc, i64_w, i32_w]
      rfl
     refine pure_ (i := 5) (N := some 53) (v := ?_) (a' := ?_) #[false, true, true, true, false, true, false, false, false, false, false, false, false, false, false, false] rfl rfl (any_of HT_.out (by kernel_rfl)) (fun _ _ _ h => h) (Or.inl ⟨by rfl, ?_⟩) ?_ ?_
     rotate_left
     ·intro w'
      go_simp
      with_reducible rfl
     rotate_left
     ·simp only [Act.put, ta, tb, tc, i64_w, i32_w]
      rfl
     refine pure_ (i := 6) (N := some 54) (v := ?_) (a' := ?_) #[false, true, true, true, false, true, true, false, false, false, false, false, false, false, false, false] rfl rfl (any_of HT_.out (by kernel_rfl)) (fun _ _ _ h => h) (Or.inl ⟨by rfl, ?_⟩) ?_ ?_
     rotate_left
     ·intro w'
      go_simp
      with_reducible rfl
     rotate_left
     ·simp only [Act.put, ta, tb, tc, i64_w, i32_w]
      rfl
     refine pure_ (i := 7) (N := some 55) (v := ?_) (a' := ?_) #[false, true, true, true, false, true, true, true, false, false, false, false, false, false, false, false] rfl rfl (any_of HT_.out (by kernel_rfl)) (fun _ _ _ h => h) (Or.inl ⟨by rfl, ?_⟩) ?_ ?_
     rotate_left
     ·intro w'
      go_simp
      with_reducible rfl
     rotate_left
     ·simp only [Act.put, ta, tb, tc, i64_w, i32_w]
      rfl
     refine pure_ (i := 11) (N := some 59) (v := ?_) (a' := ?_) #[false, true, true, true, false, true, true, true, false, false, false, true, false, false, false, false] rfl rfl (any_of HT_.out (by kernel_rfl)) (fun _ _ _ h => h) (Or.inl ⟨by rfl, ?_⟩) ?_ ?_
     rotate_left
     ·intro w'
      go_simp
      with_reducible rfl
     rotate_left
     ·simp only [Act.put, ta, tb, tc, i64_w, i32_w]
      rfl
     refine pure_ (i := 12) (N := some 60) (v := ?_) (a' := ?_) #[false, true, true, true, false, true, true, true, false, false, false, true, true, false, false, false] rfl rfl (any_of HT_.out (by kernel_rfl)) (fun _ _ _ h => h) (Or.inl ⟨by rfl, ?_⟩) ?_ ?_
     rotate_left
     ·intro w'
      go_simp
      with_reducible rfl
     rotate_left
     ·simp only [Act.put, ta, tb, tc, i64_w, i32_w]
      rfl
     refine pure_ (i := 13) (N := some 61) (v := ?_) (a' := ?_) #[false, true, true, true, false, true, true, true, false, false, false, true, true, true, false, false] rfl rfl (any_of HT_.out (by kernel_rfl)) (fun _ _ _ h => h) (Or.inl ⟨by rfl, ?_⟩) ?_ ?_
     rotate_left
     ·intro w'
      go_simp
      with_reducible rfl
     rotate_left
     ·simp only [Act.put, ta, tb, tc, i64_w, i32_w]
      rfl
     refine take_ (i := 8) (N := some 56) (v := ?_) (a' := ?_) #[false, true, true, true, false, true, true, true, true, false, false, true, true, true, false, false] rfl rfl (take_ofW HT_.out HW_.out (by kernel_rfl)) (fun _ _ _ h => h) (Or.inl ⟨by rfl, ?_⟩) hHeld ?_ ?_
     rotate_left
     ·rintro w' ⟨s0, s1, s2, s3, s4, s5, s6, s7, s8, s9⟩
      go_simp
      with_reducible rfl
     rotate_left
     ·simp only [Act.put, ta, tb, tc, i64_w, i32_w]
      rfl
     refine join_ (σ := Nat × Value × Nat) 3 #[true, true, true, true, true, true, true, true, true, true, false, true, true, true, false, false] (fun s => [(48, .slice (some ⟨s.1, 0, none⟩) 0 0), (52, s.2.1), (57, .slice (some ⟨s.2.2, 0, none⟩) 1 1)]) (fun s w' => (QRow w' w.heap.size s.2.1 (out.take 0) ∧ w'.heap[s.2.2]? = some (.cells #[.int .i64 x.e.f0, .int .i64 x.e.f1.f0, .int .i64 x.e.f1.f1, .int .i64 x.e.f2.f0, .int .i64 x.e.f2.f1, .int .i64 x.e.f3.f0, .int .i64 x.e.f3.f1, .bool x.e.f4, .string x.e.f5, .slice x.A x.e.f6.length x.c] 31 (0, 0)) ∧ Below wx.heap.size wx w' ∧ ∀ j, s.2.1.ownBlock = some j → wx.heap.size ≤ j) ∧ w'.cell? (ad.add (i * 10)) = some (.int .i64 x.e.f0) ∧ w'.cell? ⟨(ad.add (i * 10)).block, (ad.add (i * 10)).off + 1, none⟩ = some (.int .i64 x.e.f1.f0) ∧ w'.cell? ⟨(ad.add (i * 10)).block, (ad.add (i * 10)).off + 2, none⟩ = some (.int .i64 x.e.f1.f1) ∧ w'.cell? ⟨(ad.add (i * 10)).block, (ad.add (i * 10)).off + 3, none⟩ = some (.int .i64 x.e.f2.f0) ∧ w'.cell? ⟨(ad.add (i * 10)).block, (ad.add (i * 10)).off + 4, none⟩ = some (.int .i64 x.e.f2.f1) ∧ w'.cell? ⟨(ad.add (i * 10)).block, (ad.add (i * 10)).off + 5, none⟩ = some (.int .i64 x.e.f3.f0) ∧ w'.cell? ⟨(ad.add (i * 10)).block, (ad.add (i * 10)).off + 6, none⟩ = some (.int .i64 x.e.f3.f1) ∧ w'.cell? ⟨(ad.add (i * 10)).block, (ad.add (i * 10)).off + 7, none⟩ = some (.bool x.e.f4) ∧ w'.cell? ⟨(ad.add (i * 10)).block, (ad.add (i * 10)).off + 8, none⟩ = some (.string x.e.f5) ∧ w'.cell? ⟨(ad.add (i * 10)).block, (ad.add (i * 10)).off + 9, none⟩ = some (.slice x.A x.e.f6.length x.c)) ?_ ?_
     rotate_left
     ·intro hCont
      refine two_ (i := 0) (j := 9) (Ni := some 48) (Nj := some 57) #[true, true, true, true, false, true, true, true, true, false, false, true, true, true, false, false] #[false, true, true, true, false, true, true, true, true, true, false, true, true, true, false, false] rfl rfl rfl rfl (two_of HT_.out (by kernel_rfl)) (by decide) (by decide) (fun K hK => ?_) (fun K hK => ?_)
      ·skip
       refine value_ (w1 := ?_) (v := ?_) (by rfl) rfl ?_ ?_
       rotate_left 2
       ·go_simp
        constructor
        ·rfl
        ·rfl
       refine hK.out _ _ (lift10 (by with_reducible repeat (first | exact Below.refl _ _ | apply below_alloc | apply pw_below_drewN | apply below_drew1)) x0 x1 x2 x3 x4 x5 x6 x7 x8 x9) (fun hHeld => ?_)
       clear hK K
       refine norm_ (a' := ?_) ?_ ?_
       rotate_left
       ·show Act.put _ (some 48) _ = _
        simp only [Act.put, ta, tb, tc, i64_w, i32_w]
        rfl
       refine two_ (i := 4) (j := 9) (Ni := some 52) (Nj := some 57) #[true, true, true, true, true, true, true, true, true, false, false, true, true, true, false, false] #[true, true, true, true, false, true, true, true, true, true, false, true, true, true, false, false] rfl rfl rfl rfl (two_of HT_.out (by kernel_rfl)) (by decide) (by decide) (fun K hK => ?_) (fun K hK => ?_)
       ·skip
        refine step_app_src w.heap.size rfl (.tmp 48) (.tmp 51) 22 rfl Try.underlying22 _ [] (out.take 0) rfl ?ho _ rfl ?hsrc ?hbs ?hlt ?_
        case hsrc => exact HS1.out.below (show Below wx.heap.size wx _ from (by with_reducible repeat (first | exact Below.refl _ _ | apply below_alloc | apply pw_below_drewN | apply below_drew1)))
        case hlt => (have := HKI.out; simp only [List.length_nil, List.length_append, List.length_take, List.length_drop, List.length_cons]; omega)
        case ho => exact QRow.empty wx.drew w.heap.size HBX.out.size
        case hbs => exact Nat.le_trans HBX.out.size (show Below wx.heap.size wx _ from (by with_reducible repeat (first | exact Below.refl _ _ | apply below_alloc | apply pw_below_drewN | apply below_drew1))).size
        intro v52 w52 hp hf hat
        rw [List.nil_append] at hp
        have hb52 : Below wx.heap.size wx w52 := hf.below (by with_reducible repeat (first | exact Below.refl _ _ | apply below_alloc | apply pw_below_drewN | apply below_drew1)) (fun j hj => Nat.le_of_eq (Option.some.inj hj))
        have hf52 : ∀ j, v52.ownBlock = some j → wx.heap.size ≤ j := fun j hj => (hat_orR hat j hj).elim (fun hj => Nat.le_of_eq (Option.some.inj hj)) (fun h => Nat.le_trans (show Below wx.heap.size wx _ from (by with_reducible repeat (first | exact Below.refl _ _ | apply below_alloc | apply pw_below_drewN | apply below_drew1))).size h)
        refine hK.out _ _ (lift10 hb52 x0 x1 x2 x3 x4 x5 x6 x7 x8 x9) (fun hHeld => ?_)
        clear hK K
        refine norm_ (a' := ?_) ?_ ?_
        rotate_left
        ·show Act.put _ (some 52) _ = _
         simp only [Act.put, ta, tb, tc, i64_w, i32_w]
         rfl
        refine one_ (i := 9) (N := some 57) #[true, true, true, true, true, true, true, true, true, true, false, true, true, true, false, false] rfl rfl (one_of HT_.out (by kernel_rfl)) (by decide) (fun K hK => ?_)
        refine value_ (w1 := ?_) (v := ?_) (by rfl) rfl ?_ ?_
        rotate_left 2
        ·go_simp
         constructor
         ·rfl
         ·rfl
        refine hK.out _ _ (lift10 (by with_reducible repeat (first | exact hb52 | apply below_alloc | apply pw_below_drewN | apply below_drew1)) x0 x1 x2 x3 x4 x5 x6 x7 x8 x9) (fun hHeld => ?_)
        clear hK K
        refine norm_ (a' := ?_) ?_ ?_
        rotate_left
        ·show Act.put _ (some 57) _ = _
         simp only [Act.put, ta, tb, tc, i64_w, i32_w]
         rfl
        exact norm_ (by simp only [putAll, Act.put, List.setIfInBounds_toArray, List.set_cons_zero, List.set_cons_succ]) (hCont (wx.heap.size, v52, w52.heap.size) _ ⟨⟨hp.below (below_alloc (Below.refl _ _) _), blk_new w52 _, below_alloc hb52 _, hf52⟩, pw_cell_below (by with_reducible repeat (first | exact hb52 | apply below_alloc | apply pw_below_drewN | apply below_drew1)) x0, pw_cell_below (by with_reducible repeat (first | exact hb52 | apply below_alloc | apply pw_below_drewN | apply below_drew1)) x1, pw_cell_below (by with_reducible repeat (first | exact hb52 | apply below_alloc | apply pw_below_drewN | apply below_drew1)) x2, pw_cell_below (by with_reducible repeat (first | exact hb52 | apply below_alloc | apply pw_below_drewN | apply below_drew1)) x3, pw_cell_below (by with_reducible repeat (first | exact hb52 | apply below_alloc | apply pw_below_drewN | apply below_drew1)) x4, pw_cell_below (by with_reducible repeat (first | exact hb52 | apply below_alloc | apply pw_below_drewN | apply below_drew1)) x5, pw_cell_below (by with_reducible repeat (first | exact hb52 | apply below_alloc | apply pw_below_drewN | apply below_drew1)) x6, pw_cell_below (by with_reducible repeat (first | exact hb52 | apply below_alloc | apply pw_below_drewN | apply below_drew1)) x7, pw_cell_below (by with_reducible repeat (first | exact hb52 | apply below_alloc | apply pw_below_drewN | apply below_drew1)) x8, pw_cell_below (by with_reducible repeat (first | exact hb52 | apply below_alloc | apply pw_below_drewN | apply below_drew1)) x9⟩)
       ·skip
        refine value_ (w1 := ?_) (v := ?_) (by rfl) rfl ?_ ?_
        rotate_left 2
        ·go_simp
         constructor
         ·rfl
         ·rfl
        refine hK.out _ _ (lift10 (by with_reducible repeat (first | exact Below.refl _ _ | apply below_alloc | apply pw_below_drewN | apply below_drew1)) x0 x1 x2 x3 x4 x5 x6 x7 x8 x9) (fun hHeld => ?_)
        clear hK K
        refine norm_ (a' := ?_) ?_ ?_
        rotate_left
        ·show Act.put _ (some 57) _ = _
         simp only [Act.put, ta, tb, tc, i64_w, i32_w]
         rfl
        refine one_ (i := 4) (N := some 52) #[true, true, true, true, true, true, true, true, true, true, false, true, true, true, false, false] rfl rfl (one_of HT_.out (by kernel_rfl)) (by decide) (fun K hK => ?_)
        refine step_app_src w.heap.size rfl (.tmp 48) (.tmp 51) 22 rfl Try.underlying22 _ [] (out.take 0) rfl ?ho _ rfl ?hsrc ?hbs ?hlt ?_
        case hsrc => exact HS1.out.below (show Below wx.heap.size wx _ from (by with_reducible repeat (first | exact Below.refl _ _ | apply below_alloc | apply pw_below_drewN | apply below_drew1)))
        case hlt => (have := HKI.out; simp only [List.length_nil, List.length_append, List.length_take, List.length_drop, List.length_cons]; omega)
        case ho => exact (QRow.empty wx.drew w.heap.size HBX.out.size).below (below_alloc (Below.refl _ _) _)
        case hbs => exact Nat.le_trans HBX.out.size (show Below wx.heap.size wx _ from (by with_reducible repeat (first | exact Below.refl _ _ | apply below_alloc | apply pw_below_drewN | apply below_drew1))).size
        intro v52 w52 hp hf hat
        rw [List.nil_append] at hp
        have hb52 : Below wx.heap.size wx w52 := hf.below (by with_reducible repeat (first | exact Below.refl _ _ | apply below_alloc | apply pw_below_drewN | apply below_drew1)) (fun j hj => Nat.le_of_eq (Option.some.inj hj))
        have hf52 : ∀ j, v52.ownBlock = some j → wx.heap.size ≤ j := fun j hj => (hat_orR hat j hj).elim (fun hj => Nat.le_of_eq (Option.some.inj hj)) (fun h => Nat.le_trans (show Below wx.heap.size wx _ from (by with_reducible repeat (first | exact Below.refl _ _ | apply below_alloc | apply pw_below_drewN | apply below_drew1))).size h)
        have hx52 := hf.blk (heap_alloc_new (wx.drew.alloc (.cells #[] 31)) (.cells #[.int .i64 x.e.f0, .int .i64 x.e.f1.f0, .int .i64 x.e.f1.f1, .int .i64 x.e.f2.f0, .int .i64 x.e.f2.f1, .int .i64 x.e.f3.f0, .int .i64 x.e.f3.f1, .bool x.e.f4, .string x.e.f5, .slice x.A x.e.f6.length x.c] 31 (0, 0))) (fun hj => by have h := Option.some.inj hj; simp at h)
        refine hK.out _ _ (lift10 hb52 x0 x1 x2 x3 x4 x5 x6 x7 x8 x9) (fun hHeld => ?_)
        clear hK K
        refine norm_ (a' := ?_) ?_ ?_
        rotate_left
        ·show Act.put _ (some 52) _ = _
         simp only [Act.put, ta, tb, tc, i64_w, i32_w]
         rfl
        exact norm_ (by simp only [putAll, Act.put, List.setIfInBounds_toArray, List.set_cons_zero, List.set_cons_succ]) (hCont (wx.heap.size, v52, (wx.heap.size + 1)) _ ⟨⟨hp, by simpa using hx52, hb52, hf52⟩, pw_cell_below hb52 x0, pw_cell_below hb52 x1, pw_cell_below hb52 x2, pw_cell_below hb52 x3, pw_cell_below hb52 x4, pw_cell_below hb52 x5, pw_cell_below hb52 x6, pw_cell_below hb52 x7, pw_cell_below hb52 x8, pw_cell_below hb52 x9⟩)
      ·skip
       refine value_ (w1 := ?_) (v := ?_) (by rfl) rfl ?_ ?_
       rotate_left 2
       ·go_simp
        constructor
        ·rfl
        ·rfl
       refine hK.out _ _ (lift10 (by with_reducible repeat (first | exact Below.refl _ _ | apply below_alloc | apply pw_below_drewN | apply below_drew1)) x0 x1 x2 x3 x4 x5 x6 x7 x8 x9) (fun hHeld => ?_)
       clear hK K
       refine norm_ (a' := ?_) ?_ ?_
       rotate_left
       ·show Act.put _ (some 57) _ = _
        simp only [Act.put, ta, tb, tc, i64_w, i32_w]
        rfl
       refine one_ (i := 0) (N := some 48) #[true, true, true, true, false, true, true, true, true, true, false, true, true, true, false, false] rfl rfl (one_of HT_.out (by kernel_rfl)) (by decide) (fun K hK => ?_)
       refine value_ (w1 := ?_) (v := ?_) (by rfl) rfl ?_ ?_
       rotate_left 2
       ·go_simp
        constructor
        ·rfl
        ·rfl
       refine hK.out _ _ (lift10 (by with_reducible repeat (first | exact Below.refl _ _ | apply below_alloc | apply pw_below_drewN | apply below_drew1)) x0 x1 x2 x3 x4 x5 x6 x7 x8 x9) (fun hHeld => ?_)
       clear hK K
       refine norm_ (a' := ?_) ?_ ?_
       rotate_left
       ·show Act.put _ (some 48) _ = _
        simp only [Act.put, ta, tb, tc, i64_w, i32_w]
        rfl
       refine one_ (i := 4) (N := some 52) #[true, true, true, true, true, true, true, true, true, true, false, true, true, true, false, false] rfl rfl (one_of HT_.out (by kernel_rfl)) (by decide) (fun K hK => ?_)
       refine step_app_src w.heap.size rfl (.tmp 48) (.tmp 51) 22 rfl Try.underlying22 _ [] (out.take 0) rfl ?ho _ rfl ?hsrc ?hbs ?hlt ?_
       case hsrc => exact HS1.out.below (show Below wx.heap.size wx _ from (by with_reducible repeat (first | exact Below.refl _ _ | apply below_alloc | apply pw_below_drewN | apply below_drew1)))
       case hlt => (have := HKI.out; simp only [List.length_nil, List.length_append, List.length_take, List.length_drop, List.length_cons]; omega)
       case ho => exact (QRow.empty2 wx (.cells #[.int .i64 x.e.f0, .int .i64 x.e.f1.f0, .int .i64 x.e.f1.f1, .int .i64 x.e.f2.f0, .int .i64 x.e.f2.f1, .int .i64 x.e.f3.f0, .int .i64 x.e.f3.f1, .bool x.e.f4, .string x.e.f5, .slice x.A x.e.f6.length x.c] 31) w.heap.size HBX.out.size).below (below_drew1 (Below.refl _ _))
       case hbs => exact Nat.le_trans HBX.out.size (show Below wx.heap.size wx _ from (by with_reducible repeat (first | exact Below.refl _ _ | apply below_alloc | apply pw_below_drewN | apply below_drew1))).size
       intro v52 w52 hp hf hat
       rw [List.nil_append] at hp
       have hb52 : Below wx.heap.size wx w52 := hf.below (by with_reducible repeat (first | exact Below.refl _ _ | apply below_alloc | apply pw_below_drewN | apply below_drew1)) (fun j hj => (by have h := Option.some.inj hj; simp at h; omega))
       have hf52 : ∀ j, v52.ownBlock = some j → wx.heap.size ≤ j := fun j hj => (hat_orR hat j hj).elim (fun hj => (by have h := Option.some.inj hj; simp at h; omega)) (fun h => Nat.le_trans (show Below wx.heap.size wx _ from (by with_reducible repeat (first | exact Below.refl _ _ | apply below_alloc | apply pw_below_drewN | apply below_drew1))).size h)
       have hx52 := hf.blk (blk_alloc (blk_new wx.drew (.cells #[.int .i64 x.e.f0, .int .i64 x.e.f1.f0, .int .i64 x.e.f1.f1, .int .i64 x.e.f2.f0, .int .i64 x.e.f2.f1, .int .i64 x.e.f3.f0, .int .i64 x.e.f3.f1, .bool x.e.f4, .string x.e.f5, .slice x.A x.e.f6.length x.c] 31 (0, 0))) (.cells #[] 31 (0, 0))) (fun hj => by have h := Option.some.inj hj; simp at h)
       refine hK.out _ _ (lift10 hb52 x0 x1 x2 x3 x4 x5 x6 x7 x8 x9) (fun hHeld => ?_)
       clear hK K
       refine norm_ (a' := ?_) ?_ ?_
       rotate_left
       ·show Act.put _ (some 52) _ = _
        simp only [Act.put, ta, tb, tc, i64_w, i32_w]
        rfl
       exact norm_ (by simp only [putAll, Act.put, List.setIfInBounds_toArray, List.set_cons_zero, List.set_cons_succ]) (hCont ((wx.heap.size + 1), v52, wx.heap.size) _ ⟨⟨hp, by simpa using hx52, hb52, hf52⟩, pw_cell_below hb52 x0, pw_cell_below hb52 x1, pw_cell_below hb52 x2, pw_cell_below hb52 x3, pw_cell_below hb52 x4, pw_cell_below hb52 x5, pw_cell_below hb52 x6, pw_cell_below hb52 x7, pw_cell_below hb52 x8, pw_cell_below hb52 x9⟩)
     rintro ⟨a48, v52, b57⟩ w57 ⟨⟨hO52, hx57, hb57, hf57⟩, hHeld⟩
     change QRow w57 w.heap.size v52 _ at hO52
     change w57.heap[b57]? = _ at hx57
     change ∀ j, v52.ownBlock = some j → _ at hf57
     refine norm_ (a' := ?_) ?_ ?_
     rotate_left
     ·simp only [putAll, Act.put, List.setIfInBounds_toArray, List.set_cons_zero, List.set_cons_succ]
      rfl
     refine one_ (i := 10) (N := some 58) #[true, true, true, true, true, true, true, true, true, true, true, true, true, true, false, false] rfl rfl (one_of HT_.out (by kernel_rfl)) (by decide) (fun K hK => ?_)
     refine step_app_src w.heap.size rfl (.tmp 52) (.tmp 57) 22 rfl Try.underlying22 v52 (out.take 0) [x] rfl ?ho _ rfl ?hsrc ?hbs ?hlt ?_
     case hsrc => exact .inr ⟨_, 1, _, rfl, rfl, fun j u hu => World.news_of_block hx57 j u (by simpa [flQ, qC] using hu)⟩
     case hlt => (have := HKI.out; simp only [List.length_nil, List.length_append, List.length_take, List.length_drop, List.length_cons]; omega)
     case ho => exact hO52
     case hbs => exact Nat.le_trans HBX.out.size hb57.size
     intro v58 w58 hp hf hat
     have hb58 : Below wx.heap.size wx w58 := hf.below hb57 (fun j hj => hf57 j hj)
     have hf58 : ∀ j, v58.ownBlock = some j → wx.heap.size ≤ j := fun j hj => (hat_orR hat j hj).elim (fun h => hf57 j h) (fun h => Nat.le_trans hb57.size h)
     have hO58 := hp
     clear hp hf hat
     refine hK.out _ _ (lift10 hb58 x0 x1 x2 x3 x4 x5 x6 x7 x8 x9) (fun hHeld => ?_)
     clear hK K
     refine norm_ (a' := ?_) ?_ ?_
     rotate_left
     ·show Act.put _ (some 58) _ = _
      simp only [Act.put, ta, tb, tc, i64_w, i32_w]
      rfl
     refine one_ (i := 14) (N := some 62) #[true, true, true, true, true, true, true, true, true, true, true, true, true, true, true, false] rfl rfl (one_of HT_.out (by kernel_rfl)) (by decide) (fun K hK => ?_)
     refine step_app_src w.heap.size rfl (.tmp 58) (.tmp 61) 22 rfl Try.underlying22 v58 ((out.take 0) ++ [x]) (out.drop 0) rfl ?ho _ rfl ?hsrc ?hbs ?hlt ?_
     case hsrc => first | exact HS2.out.below hb58 | exact HS3.out.below hb58
     case hlt => (have := HKI.out; simp only [List.length_nil, List.length_append, List.length_take, List.length_drop, List.length_cons]; omega)
     case ho => exact hO58
     case hbs => exact Nat.le_trans HBX.out.size hb58.size
     intro v62 w62 hp hf hat
     have hb62 : Below wx.heap.size wx w62 := hf.below hb58 (fun j hj => hf58 j hj)
     have HB62 := Aside0.mk hb62
     have HO62 := Aside0.mk hp
     clear hp hf hat
     refine hK.out _ _ (lift10 hb62 x0 x1 x2 x3 x4 x5 x6 x7 x8 x9) (fun hHeld => ?_)
     clear hK K
     refine norm_ (a' := ?_) ?_ ?_
     rotate_left
     ·show Act.put _ (some 62) _ = _
      simp only [Act.put, ta, tb, tc, i64_w, i32_w]
      rfl
     refine pure_ (i := 15) (N := some 3) (v := ?_) (a' := ?_) #[true, true, true, true, true, true, true, true, true, true, true, true, true, true, true, true] rfl rfl (any_of HT_.out (by kernel_rfl)) (fun _ _ _ h => h) (Or.inl ⟨by rfl, ?_⟩) ?_ ?_
     rotate_left
     ·intro w'
      go_simp
      with_reducible rfl
     rotate_left
     ·simp only [Act.put, ta, tb, tc, i64_w, i32_w]
      rfl
     refine done_ (done_of HT_.out (by kernel_rfl)) ?_
     have HFO : Aside0 (Fo (l.take (i + 1)) (out.take 0 ++ [x] ++ out.drop 0)) := ⟨by
      have h1 := List.getElem?_eq_some_iff.1 HXE.out
      obtain ⟨h2, h3⟩ := h1
      rw [List.take_succ_eq_append_getElem h2, h3]
      exact HI.out.fo.put (fun s hs => by simp at hs) (fun s hs => by have h1 := (List.getElem?_eq_some_iff.1 hs).1; have h2 := HM0.out; omega)⟩
     have HI2 : Aside0 (RsI w w62 l (i + 1) v62 (out.take 0 ++ [x] ++ out.drop 0)) := ⟨HO62.out, HFO.out, fun s hs => by
      rcases List.mem_append.1 hs with hs | hs
      ·rcases List.mem_append.1 hs with hs | hs
       ·exact HI.out.rd s (List.mem_of_mem_take hs)
       ·rw [List.mem_singleton.1 hs]
        exact HRX.out
      ·exact HI.out.rd s (List.mem_of_mem_drop hs), HBX.out.trans (HB62.out.mono HBX.out.size), by have h := HI.out.ln; have h2 := HKI.out; simp only [List.length_append, List.length_take, List.length_drop, List.length_cons, List.length_nil]; omega⟩
     clear x0 x1 x2 x3 x4 x5 x6 x7 x8 x9
     have hw1 := iw (x := (i : Int) + 1) rfl HII.out
     have hw2 := w64 (x := (i : Int) + 1) rfl HII.out
     go_wp2
     clear hw1 hw2
     go_roundg (n - (i + 1))
     case measure => rw [HG.out]; have := HIN.out; omega
     case rel => exact ⟨i + 1, _, rfl, by simp, HIN.out, HI2⟩
   ·obtain ⟨m, hm⟩ : ∃ m, out.length = m := ⟨_, rfl⟩
    have HM := Aside0.mk hm
    rw [hv] at hform
    injection hform with h1 h2 h3
    subst h1 h3
    rw [hm] at hv
    subst hv
    have hmd : m ≤ d' := by
     have h := HI.out.row.cap
     rw [hm] at h
     exact h
    obtain ⟨d, hd⟩ : ∃ d, d = d' := ⟨_, rfl⟩
    subst hd
    have HMD := Aside0.mk hmd
    clear hm h2 hmd
    go_wp2
    go_loopg [5] m (fun gz v5 wi => ∃ k : Nat, gz = m - k ∧ v5 = .int .i64 k ∧ k ≤ m ∧ Aside0 (∀ s ∈ out.take k, ltO (kO s) (kO x)) ∧ Aside0 (Below wo.heap.size wo wi))
    case atStart => exact ⟨0, rfl, rfl, Nat.zero_le _, ⟨by simp⟩, ⟨(by repeat (first | exact Below.refl _ _ | apply pw_below_drewN | apply below_drew1))⟩⟩
    case round =>
     obtain ⟨k, hg2, rfl, hk, HT, HB⟩ := hrel
     have HG2 := Aside0.mk hg2
     clear hg2
     have hmd := HMD.out
     by_cases hkm : k < m
     ·obtain ⟨y, hy⟩ : ∃ y, out[k]? = some y := ⟨_, List.getElem?_eq_getElem (by have := HM.out; omega)⟩
      have HY := Aside0.mk hy
      have q3 : (k : Int) < m := by omega
      have q4 : (0 : Int) ≤ k := by omega
      have hkb : decide ((k : Int) < (m : Int)) = true := by simpa using hkm
      have hkb2 : ((k : Int) == (m : Int)) = false := by simp; omega
      have hkb3 : (k == m) = false := by simp; omega
      have hkbn : decide (k < m) = true := by simpa using hkm
      clear hy
      go_upto_region 6 with fail
      refine gen_world (fun wx hwx => ?_)
      have HBO : Aside0 (Below wo.heap.size wo wx) := ⟨by rw [hwx]; first | exact HB.out | exact below_step HB.out (by repeat (first | exact Below.refl _ _ | apply pw_below_drewN | apply below_drew1))⟩
      have HBX : Aside0 (Below w.heap.size w wx) := ⟨HI.out.bel.trans (HBO.out.mono HI.out.bel.size)⟩
      clear hwx
      obtain ⟨gr', hgr, _, y1, y2, _⟩ := (show QRow wx w.heap.size (.slice (some ⟨gr, 0, none⟩) m d) out from HI.out.row.below HBO.out).at HY.out
      injection hgr with hgr
      injection hgr with hgr
      subst hgr
      have x1 := pw_cell_below HBX.out HX1.out
      have x2 := pw_cell_below HBX.out HX2.out
      by_cases hlt : ltO (kO y) (kO x)
      ·have HLT := Aside0.mk hlt
       clear hlt
       refine start_ (n := 17) (S := fun w' => w'.cell? ⟨gr, k * 10 + 1, none⟩ = some (.int .i64 y.e.f1.f0) ∧ w'.cell? ⟨gr, k * 10 + 2, none⟩ = some (.int .i64 y.e.f1.f1) ∧ w'.cell? ⟨(ad.add (i * 10)).block, (ad.add (i * 10)).off + 1, none⟩ = some (.int .i64 x.e.f1.f0) ∧ w'.cell? ⟨(ad.add (i * 10)).block, (ad.add (i * 10)).off + 2, none⟩ = some (.int .i64 x.e.f1.f1)) (ds := []) #[false, false, false, false, false, false, false, false, false, false, false, false, false, false, false, false, false] (by kernel_rfl) rfl rfl ⟨y1, y2, x1, x2⟩ (fun hHeld => ?_)
       refine with_tabW rsort_calls.tab6 rsort_calls.bits6 (fun HT_ HW_ => ?_)
       refine pure_ (i := 0) (N := some 12) (v := ?_) (a' := ?_) #[true, false, false, false, false, false, false, false, false, false, false, false, false, false, false, false, false] rfl rfl (any_of HT_.out (by kernel_rfl)) (fun _ _ _ h => h) (Or.inl ⟨by rfl, ?_⟩) ?_ ?_
       rotate_left
       ·intro w'
        go_simp
        with_reducible rfl
       rotate_left
       ·simp only [Act.put, ta, tb, tc, i64_w, i32_w]
        rfl
       refine pure_ (i := 1) (N := some 13) (v := ?_) (a' := ?_) #[true, true, false, false, false, false, false, false, false, false, false, false, false, false, false, false, false] rfl rfl (any_of HT_.out (by kernel_rfl)) (fun _ _ _ h => h) (Or.inl ⟨by rfl, ?_⟩) ?_ ?_
       rotate_left
       ·intro w'
        go_simp
        with_reducible rfl
       rotate_left
       ·simp only [Act.put, ta, tb, tc, i64_w, i32_w]
        rfl
       refine pure_ (i := 2) (N := some 14) (v := ?_) (a' := ?_) #[true, true, true, false, false, false, false, false, false, false, false, false, false, false, false, false, false] rfl rfl (any_of HT_.out (by kernel_rfl)) (fun _ _ _ h => h) (Or.inl ⟨by rfl, ?_⟩) ?_ ?_
       rotate_left
       ·intro w'
        go_simp
        with_reducible rfl
       rotate_left
       ·simp only [Act.put, ta, tb, tc, i64_w, i32_w]
        rfl
       refine pure_ (i := 3) (N := some 15) (v := ?_) (a' := ?_) #[true, true, true, true, false, false, false, false, false, false, false, false, false, false, false, false, false] rfl rfl (any_of HT_.out (by kernel_rfl)) (fun _ _ _ h => h) (Or.inl ⟨by rfl, ?_⟩) ?_ ?_
       rotate_left
       ·intro w'
        go_simp
        with_reducible rfl
       rotate_left
       ·simp only [Act.put, ta, tb, tc, i64_w, i32_w]
        rfl
       refine pure_ (i := 4) (N := some 16) (v := ?_) (a' := ?_) #[true, true, true, true, true, false, false, false, false, false, false, false, false, false, false, false, false] rfl rfl (any_of HT_.out (by kernel_rfl)) (fun _ _ _ h => h) (Or.inl ⟨by rfl, ?_⟩) ?_ ?_
       rotate_left
       ·intro w'
        go_simp
        with_reducible rfl
       rotate_left
       ·simp only [Act.put, ta, tb, tc, i64_w, i32_w]
        rfl
       refine pure_ (i := 5) (N := some 17) (v := ?_) (a' := ?_) #[true, true, true, true, true, true, false, false, false, false, false, false, false, false, false, false, false] rfl rfl (any_of HT_.out (by kernel_rfl)) (fun _ _ _ h => h) (Or.inl ⟨by rfl, ?_⟩) ?_ ?_
       rotate_left
       ·intro w'
        go_simp
        with_reducible rfl
       rotate_left
       ·simp only [Act.put, ta, tb, tc, i64_w, i32_w]
        rfl
       refine pure_ (i := 6) (N := some 18) (v := ?_) (a' := ?_) #[true, true, true, true, true, true, true, false, false, false, false, false, false, false, false, false, false] rfl rfl (any_of HT_.out (by kernel_rfl)) (fun _ _ _ h => h) (Or.inl ⟨by rfl, ?_⟩) ?_ ?_
       rotate_left
       ·intro w'
        go_simp
        with_reducible rfl
       rotate_left
       ·simp only [Act.put, ta, tb, tc, i64_w, i32_w]
        rfl
       refine pure_ (i := 7) (N := some 19) (v := ?_) (a' := ?_) #[true, true, true, true, true, true, true, true, false, false, false, false, false, false, false, false, false] rfl rfl (any_of HT_.out (by kernel_rfl)) (fun _ _ _ h => h) (Or.inl ⟨by rfl, ?_⟩) ?_ ?_
       rotate_left
       ·intro w'
        go_simp
        with_reducible rfl
       rotate_left
       ·simp only [Act.put, ta, tb, tc, i64_w, i32_w]
        rfl
       refine pure_ (i := 8) (N := some 20) (v := ?_) (a' := ?_) #[true, true, true, true, true, true, true, true, true, false, false, false, false, false, false, false, false] rfl rfl (any_of HT_.out (by kernel_rfl)) (fun _ _ _ h => h) (Or.inl ⟨by rfl, ?_⟩) ?_ ?_
       rotate_left
       ·intro w'
        go_simp
        with_reducible rfl
       rotate_left
       ·simp only [Act.put, ta, tb, tc, i64_w, i32_w]
        rfl
       refine pure_ (i := 10) (N := some 22) (v := ?_) (a' := ?_) #[true, true, true, true, true, true, true, true, true, false, true, false, false, false, false, false, false] rfl rfl (any_of HT_.out (by kernel_rfl)) (fun _ _ _ h => h) (Or.inl ⟨by rfl, ?_⟩) ?_ ?_
       rotate_left
       ·intro w'
        go_simp
        with_reducible rfl
       rotate_left
       ·simp only [Act.put, ta, tb, tc, i64_w, i32_w]
        rfl
       refine pure_ (i := 11) (N := some 23) (v := ?_) (a' := ?_) #[true, true, true, true, true, true, true, true, true, false, true, true, false, false, false, false, false] rfl rfl (any_of HT_.out (by kernel_rfl)) (fun _ _ _ h => h) (Or.inl ⟨by rfl, ?_⟩) ?_ ?_
       rotate_left
       ·intro w'
        go_simp
        with_reducible rfl
       rotate_left
       ·simp only [Act.put, ta, tb, tc, i64_w, i32_w]
        rfl
       refine pure_ (i := 12) (N := some 24) (v := ?_) (a' := ?_) #[true, true, true, true, true, true, true, true, true, false, true, true, true, false, false, false, false] rfl rfl (any_of HT_.out (by kernel_rfl)) (fun _ _ _ h => h) (Or.inl ⟨by rfl, ?_⟩) ?_ ?_
       rotate_left
       ·intro w'
        go_simp
        with_reducible rfl
       rotate_left
       ·simp only [Act.put, ta, tb, tc, i64_w, i32_w]
        rfl
       refine pure_ (i := 13) (N := some 25) (v := ?_) (a' := ?_) #[true, true, true, true, true, true, true, true, true, false, true, true, true, true, false, false, false] rfl rfl (any_of HT_.out (by kernel_rfl)) (fun _ _ _ h => h) (Or.inl ⟨by rfl, ?_⟩) ?_ ?_
       rotate_left
       ·intro w'
        go_simp
        with_reducible rfl
       rotate_left
       ·simp only [Act.put, ta, tb, tc, i64_w, i32_w]
        rfl
       refine take_ (i := 9) (N := some 21) (v := ?_) (a' := ?_) #[true, true, true, true, true, true, true, true, true, true, true, true, true, true, false, false, false] rfl rfl (take_ofW HT_.out HW_.out (by kernel_rfl)) (fun _ _ _ h => h) (Or.inl ⟨by rfl, ?_⟩) hHeld ?_ ?_
       rotate_left
       ·rintro w' ⟨s0, s1, s2, s3⟩
        go_simp
        with_reducible rfl
       rotate_left
       ·simp only [Act.put, ta, tb, tc, i64_w, i32_w]
        rfl
       refine take_ (i := 14) (N := some 26) (v := ?_) (a' := ?_) #[true, true, true, true, true, true, true, true, true, true, true, true, true, true, true, false, false] rfl rfl (take_ofW HT_.out HW_.out (by kernel_rfl)) (fun _ _ _ h => h) (Or.inl ⟨by rfl, ?_⟩) hHeld ?_ ?_
       rotate_left
       ·rintro w' ⟨s0, s1, s2, s3⟩
        go_simp
        with_reducible rfl
       rotate_left
       ·simp only [Act.put, ta, tb, tc, i64_w, i32_w]
        rfl
       refine one_ (i := 15) (N := some 27) #[true, true, true, true, true, true, true, true, true, true, true, true, true, true, true, true, false] rfl rfl (one_of HT_.out (by kernel_rfl)) (by decide) (fun K hK => ?_)
       refine goes_ Try.func13 (by kernel_rfl) rfl #[.agg #[.int .i64 y.e.f1.f0, .int .i64 y.e.f1.f1], .agg #[.int .i64 x.e.f1.f0, .int .i64 x.e.f1.f1]] (by rfl) rfl rfl (by simp only [List.map_toArray, List.map_cons, List.map_nil]; rfl) ?_
       with_reducible refine (fless4_yes y x _ HLT.out).mono ?_
       rintro e w3 ⟨rfl, hb3⟩
       refine ⟨_, rfl, ?_⟩
       refine hK.out _ _ (lift4 hb3 y1 y2 x1 x2) (fun hHeld => ?_)
       clear hK K
       refine norm_ (a' := ?_) ?_ ?_
       rotate_left
       ·show Act.put _ (some 27) _ = _
        simp only [Act.put, ta, tb, tc, i64_w, i32_w]
        rfl
       refine pure_ (i := 16) (N := some 28) (v := ?_) (a' := ?_) #[true, true, true, true, true, true, true, true, true, true, true, true, true, true, true, true, true] rfl rfl (any_of HT_.out (by kernel_rfl)) (fun _ _ _ h => h) (Or.inl ⟨by rfl, ?_⟩) ?_ ?_
       rotate_left
       ·intro w'
        go_simp
        with_reducible rfl
       rotate_left
       ·simp only [Act.put, ta, tb, tc, i64_w, i32_w]
        rfl
       refine done_ (done_of HT_.out (by kernel_rfl)) ?_
       have HBK : Aside0 (Below wo.heap.size wo w3) := ⟨below_step (below_drew1 HBO.out) hb3⟩
       have HKM : Aside0 (k < m) := ⟨hkm⟩
       clear hb3 HBO HBX y1 y2 x1 x2 hkb hkb2 hkb3 hkbn
       have hkk : (-1000000 : Int) ≤ (k : Int) + 1 ∧ (k : Int) + 1 ≤ 1000000 := by have := HM.out; have := HI.out.ln; have := HIN.out; have := HN60.out; omega
       have hw1 := iw (x := (k : Int) + 1) rfl hkk
       have hw2 := w64 (x := (k : Int) + 1) rfl hkk
       clear hkk hmd hk hkm
       go_wp2
       clear hw1 hw2
       go_roundg (m - (k + 1))
       case measure => rw [HG2.out]; have := HKM.out; omega
       case rel => exact ⟨k + 1, rfl, by simp, HKM.out, ⟨fun s hs => by
        rw [take_next HY.out, List.mem_append, List.mem_singleton] at hs
        rcases hs with hs | hs
        ·exact HT.out s hs
        ·rw [hs]
         exact HLT.out⟩, ⟨below_step HBK.out (by repeat (first | exact Below.refl _ _ | apply pw_below_drewN | apply below_drew1))⟩⟩
      ·have HLT := Aside0.mk hlt
       clear hlt
       refine start_ (n := 17) (S := fun w' => w'.cell? ⟨gr, k * 10 + 1, none⟩ = some (.int .i64 y.e.f1.f0) ∧ w'.cell? ⟨gr, k * 10 + 2, none⟩ = some (.int .i64 y.e.f1.f1) ∧ w'.cell? ⟨(ad.add (i * 10)).block, (ad.add (i * 10)).off + 1, none⟩ = some (.int .i64 x.e.f1.f0) ∧ w'.cell? ⟨(ad.add (i * 10)).block, (ad.add (i * 10)).off + 2, none⟩ = some (.int .i64 x.e.f1.f1)) (ds := []) #[false, false, false, false, false, false, false, false, false, false, false, false, false, false, false, false, false] (by kernel_rfl) rfl rfl ⟨y1, y2, x1, x2⟩ (fun hHeld => ?_)
       refine with_tabW rsort_calls.tab6 rsort_calls.bits6 (fun HT_ HW_ => ?_)
       refine pure_ (i := 0) (N := some 12) (v := ?_) (a' := ?_) #[true, false, false, false, false, false, false, false, false, false, false, false, false, false, false, false, false] rfl rfl (any_of HT_.out (by kernel_rfl)) (fun _ _ _ h => h) (Or.inl ⟨by rfl, ?_⟩) ?_ ?_
       rotate_left
       ·intro w'
        go_simp
        with_reducible rfl
       rotate_left
       ·simp only [Act.put, ta, tb, tc, i64_w, i32_w]
        rfl
       refine pure_ (i := 1) (N := some 13) (v := ?_) (a' := ?_) #[true, true, false, false, false, false, false, false, false, false, false, false, false, false, false, false, false] rfl rfl (any_of HT_.out (by kernel_rfl)) (fun _ _ _ h => h) (Or.inl ⟨by rfl, ?_⟩) ?_ ?_
       rotate_left
       ·intro w'
        go_simp
        with_reducible rfl
       rotate_left
       ·simp only [Act.put, ta, tb, tc, i64_w, i32_w]
        rfl
       refine pure_ (i := 2) (N := some 14) (v := ?_) (a' := ?_) #[true, true, true, false, false, false, false, false, false, false, false, false, false, false, false, false, false] rfl rfl (any_of HT_.out (by kernel_rfl)) (fun _ _ _ h => h) (Or.inl ⟨by rfl, ?_⟩) ?_ ?_
       rotate_left
       ·intro w'
        go_simp
        with_reducible rfl
       rotate_left
       ·simp only [Act.put, ta, tb, tc, i64_w, i32_w]
        rfl
       refine pure_ (i := 3) (N := some 15) (v := ?_) (a' := ?_) #[true, true, true, true, false, false, false, false, false, false, false, false, false, false, false, false, false] rfl rfl (any_of HT_.out (by kernel_rfl)) (fun _ _ _ h => h) (Or.inl ⟨by rfl, ?_⟩) ?_ ?_
       rotate_left
       ·intro w'
        go_simp
        with_reducible rfl
       rotate_left
       ·simp only [Act.put, ta, tb, tc, i64_w, i32_w]
        rfl
       refine pure_ (i := 4) (N := some 16) (v := ?_) (a' := ?_) #[true, true, true, true, true, false, false, false, false, false, false, false, false, false, false, false, false] rfl rfl (any_of HT_.out (by kernel_rfl)) (fun _ _ _ h => h) (Or.inl ⟨by rfl, ?_⟩) ?_ ?_
       rotate_left
       ·intro w'
        go_simp
        with_reducible rfl
       rotate_left
       ·simp only [Act.put, ta, tb, tc, i64_w, i32_w]
        rfl
       refine pure_ (i := 5) (N := some 17) (v := ?_) (a' := ?_) #[true, true, true, true, true, true, false, false, false, false, false, false, false, false, false, false, false] rfl rfl (any_of HT_.out (by kernel_rfl)) (fun _ _ _ h => h) (Or.inl ⟨by rfl, ?_⟩) ?_ ?_
       rotate_left
       ·intro w'
        go_simp
        with_reducible rfl
       rotate_left
       ·simp only [Act.put, ta, tb, tc, i64_w, i32_w]
        rfl
       refine pure_ (i := 6) (N := some 18) (v := ?_) (a' := ?_) #[true, true, true, true, true, true, true, false, false, false, false, false, false, false, false, false, false] rfl rfl (any_of HT_.out (by kernel_rfl)) (fun _ _ _ h => h) (Or.inl ⟨by rfl, ?_⟩) ?_ ?_
       rotate_left
       ·intro w'
        go_simp
        with_reducible rfl
       rotate_left
       ·simp only [Act.put, ta, tb, tc, i64_w, i32_w]
        rfl
       refine pure_ (i := 7) (N := some 19) (v := ?_) (a' := ?_) #[true, true, true, true, true, true, true, true, false, false, false, false, false, false, false, false, false] rfl rfl (any_of HT_.out (by kernel_rfl)) (fun _ _ _ h => h) (Or.inl ⟨by rfl, ?_⟩) ?_ ?_
       rotate_left
       ·intro w'
        go_simp
        with_reducible rfl
       rotate_left
       ·simp only [Act.put, ta, tb, tc, i64_w, i32_w]
        rfl
       refine pure_ (i := 8) (N := some 20) (v := ?_) (a' := ?_) #[true, true, true, true, true, true, true, true, true, false, false, false, false, false, false, false, false] rfl rfl (any_of HT_.out (by kernel_rfl)) (fun _ _ _ h => h) (Or.inl ⟨by rfl, ?_⟩) ?_ ?_
       rotate_left
       ·intro w'
        go_simp
        with_reducible rfl
       rotate_left
       ·simp only [Act.put, ta, tb, tc, i64_w, i32_w]
        rfl
       refine pure_ (i := 10) (N := some 22) (v := ?_) (a' := ?_) #[true, true, true, true, true, true, true, true, true, false, true, false, false, false, false, false, false] rfl rfl (any_of HT_.out (by kernel_rfl)) (fun _ _ _ h => h) (Or.inl ⟨by rfl, ?_⟩) ?_ ?_
       rotate_left
       ·intro w'
        go_simp
        with_reducible rfl
       rotate_left
       ·simp only [Act.put, ta, tb, tc, i64_w, i32_w]
        rfl
       refine pure_ (i := 11) (N := some 23) (v := ?_) (a' := ?_) #[true, true, true, true, true, true, true, true, true, false, true, true, false, false, false, false, false] rfl rfl (any_of HT_.out (by kernel_rfl)) (fun _ _ _ h => h) (Or.inl ⟨by rfl, ?_⟩) ?_ ?_
       rotate_left
       ·intro w'
        go_simp
        with_reducible rfl
       rotate_left
       ·simp only [Act.put, ta, tb, tc, i64_w, i32_w]
        rfl
       refine pure_ (i := 12) (N := some 24) (v := ?_) (a' := ?_) #[true, true, true, true, true, true, true, true, true, false, true, true, true, false, false, false, false] rfl rfl (any_of HT_.out (by kernel_rfl)) (fun _ _ _ h => h) (Or.inl ⟨by rfl, ?_⟩) ?_ ?_
       rotate_left
       ·intro w'
        go_simp
        with_reducible rfl
       rotate_left
       ·simp only [Act.put, ta, tb, tc, i64_w, i32_w]
        rfl
       refine pure_ (i := 13) (N := some 25) (v := ?_) (a' := ?_) #[true, true, true, true, true, true, true, true, true, false, true, true, true, true, false, false, false] rfl rfl (any_of HT_.out (by kernel_rfl)) (fun _ _ _ h => h) (Or.inl ⟨by rfl, ?_⟩) ?_ ?_
       rotate_left
       ·intro w'
        go_simp
        with_reducible rfl
       rotate_left
       ·simp only [Act.put, ta, tb, tc, i64_w, i32_w]
        rfl
       refine take_ (i := 9) (N := some 21) (v := ?_) (a' := ?_) #[true, true, true, true, true, true, true, true, true, true, true, true, true, true, false, false, false] rfl rfl (take_ofW HT_.out HW_.out (by kernel_rfl)) (fun _ _ _ h => h) (Or.inl ⟨by rfl, ?_⟩) hHeld ?_ ?_
       rotate_left
       ·rintro w' ⟨s0, s1, s2, s3⟩
        go_simp
        with_reducible rfl
       rotate_left
       ·simp only [Act.put, ta, tb, tc, i64_w, i32_w]
        rfl
       refine take_ (i := 14) (N := some 26) (v := ?_) (a' := ?_) #[true, true, true, true, true, true, true, true, true, true, true, true, true, true, true, false, false] rfl rfl (take_ofW HT_.out HW_.out (by kernel_rfl)) (fun _ _ _ h => h) (Or.inl ⟨by rfl, ?_⟩) hHeld ?_ ?_
       rotate_left
       ·rintro w' ⟨s0, s1, s2, s3⟩
        go_simp
        with_reducible rfl
       rotate_left
       ·simp only [Act.put, ta, tb, tc, i64_w, i32_w]
        rfl
       refine one_ (i := 15) (N := some 27) #[true, true, true, true, true, true, true, true, true, true, true, true, true, true, true, true, false] rfl rfl (one_of HT_.out (by kernel_rfl)) (by decide) (fun K hK => ?_)
       refine goes_ Try.func13 (by kernel_rfl) rfl #[.agg #[.int .i64 y.e.f1.f0, .int .i64 y.e.f1.f1], .agg #[.int .i64 x.e.f1.f0, .int .i64 x.e.f1.f1]] (by rfl) rfl rfl (by simp only [List.map_toArray, List.map_cons, List.map_nil]; rfl) ?_
       with_reducible refine (fless4_no y x _ HLT.out).mono ?_
       rintro e w3 ⟨rfl, hb3⟩
       refine ⟨_, rfl, ?_⟩
       refine hK.out _ _ (lift4 hb3 y1 y2 x1 x2) (fun hHeld => ?_)
       clear hK K
       refine norm_ (a' := ?_) ?_ ?_
       rotate_left
       ·show Act.put _ (some 27) _ = _
        simp only [Act.put, ta, tb, tc, i64_w, i32_w]
        rfl
       refine pure_ (i := 16) (N := some 28) (v := ?_) (a' := ?_) #[true, true, true, true, true, true, true, true, true, true, true, true, true, true, true, true, true] rfl rfl (any_of HT_.out (by kernel_rfl)) (fun _ _ _ h => h) (Or.inl ⟨by rfl, ?_⟩) ?_ ?_
       rotate_left
       ·intro w'
        go_simp
        with_reducible rfl
       rotate_left
       ·simp only [Act.put, ta, tb, tc, i64_w, i32_w]
        rfl
       refine done_ (done_of HT_.out (by kernel_rfl)) ?_
       have HBK : Aside0 (Below wo.heap.size wo w3) := ⟨below_step (below_drew1 HBO.out) hb3⟩
       clear hb3 HBO HBX y1 y2 x1 x2
       go_wp2
       go_upto_region 8 with fail
       refine gen_world (fun wx hwx => ?_)
       have HBO : Aside0 (Below wo.heap.size wo wx) := ⟨by rw [hwx]; first | exact HBK.out | exact below_step HBK.out (by repeat (first | exact Below.refl _ _ | apply pw_below_drewN | apply below_drew1))⟩
       have HBX : Aside0 (Below w.heap.size w wx) := ⟨HI.out.bel.trans (HBO.out.mono HI.out.bel.size)⟩
       clear hwx
       obtain ⟨gr', hgr, _, y1, y2, _⟩ := (show QRow wx w.heap.size (.slice (some ⟨gr, 0, none⟩) m d) out from HI.out.row.below HBO.out).at HY.out
       injection hgr with hgr
       injection hgr with hgr
       subst hgr
       have x1 := pw_cell_below HBX.out HX1.out
       have x2 := pw_cell_below HBX.out HX2.out
       by_cases heq : kO y = kO x
       ·have HEQ : Aside0 (kO y = keO x.e) := ⟨heq⟩
        have hz : (y.e.f1.f0 == x.e.f1.f0 && y.e.f1.f1 == x.e.f1.f1) = true := by simp only [kO, Prod.mk.injEq] at heq; simp [heq.1, heq.2]
        have hz1 : (y.e.f1.f0 == x.e.f1.f0) = true := by simp only [kO, Prod.mk.injEq] at heq; simp [heq.1]
        have hz2 : (y.e.f1.f1 == x.e.f1.f1) = true := by simp only [kO, Prod.mk.injEq] at heq; simp [heq.2]
        clear heq
        refine start_ (n := 17) (S := fun w' => w'.cell? ⟨gr, k * 10 + 1, none⟩ = some (.int .i64 y.e.f1.f0) ∧ w'.cell? ⟨gr, k * 10 + 2, none⟩ = some (.int .i64 y.e.f1.f1) ∧ w'.cell? ⟨(ad.add (i * 10)).block, (ad.add (i * 10)).off + 1, none⟩ = some (.int .i64 x.e.f1.f0) ∧ w'.cell? ⟨(ad.add (i * 10)).block, (ad.add (i * 10)).off + 2, none⟩ = some (.int .i64 x.e.f1.f1)) (ds := []) #[false, false, false, false, false, false, false, false, false, false, false, false, false, false, false, false, false] (by kernel_rfl) rfl rfl ⟨y1, y2, x1, x2⟩ (fun hHeld => ?_)
        refine with_tabW rsort_calls.tab8 rsort_calls.bits8 (fun HT_ HW_ => ?_)
        refine pure_ (i := 0) (N := some 31) (v := ?_) (a' := ?_) #[true, false, false, false, false, false, false, false, false, false, false, false, false, false, false, false, false] rfl rfl (any_of HT_.out (by kernel_rfl)) (fun _ _ _ h => h) (Or.inl ⟨by rfl, ?_⟩) ?_ ?_
        rotate_left
        ·intro w'
         go_simp
         with_reducible rfl
        rotate_left
        ·simp only [Act.put, ta, tb, tc, i64_w, i32_w]
         rfl
        refine pure_ (i := 1) (N := some 32) (v := ?_) (a' := ?_) #[true, true, false, false, false, false, false, false, false, false, false, false, false, false, false, false, false] rfl rfl (any_of HT_.out (by kernel_rfl)) (fun _ _ _ h => h) (Or.inl ⟨by rfl, ?_⟩) ?_ ?_
        rotate_left
        ·intro w'
         go_simp
         with_reducible rfl
        rotate_left
        ·simp only [Act.put, ta, tb, tc, i64_w, i32_w]
         rfl
        refine pure_ (i := 2) (N := some 33) (v := ?_) (a' := ?_) #[true, true, true, false, false, false, false, false, false, false, false, false, false, false, false, false, false] rfl rfl (any_of HT_.out (by kernel_rfl)) (fun _ _ _ h => h) (Or.inl ⟨by rfl, ?_⟩) ?_ ?_
        rotate_left
        ·intro w'
         go_simp
         with_reducible rfl
        rotate_left
        ·simp only [Act.put, ta, tb, tc, i64_w, i32_w]
         rfl
        refine pure_ (i := 3) (N := some 34) (v := ?_) (a' := ?_) #[true, true, true, true, false, false, false, false, false, false, false, false, false, false, false, false, false] rfl rfl (any_of HT_.out (by kernel_rfl)) (fun _ _ _ h => h) (Or.inl ⟨by rfl, ?_⟩) ?_ ?_
        rotate_left
        ·intro w'
         go_simp
         with_reducible rfl
        rotate_left
        ·simp only [Act.put, ta, tb, tc, i64_w, i32_w]
         rfl
        refine pure_ (i := 4) (N := some 35) (v := ?_) (a' := ?_) #[true, true, true, true, true, false, false, false, false, false, false, false, false, false, false, false, false] rfl rfl (any_of HT_.out (by kernel_rfl)) (fun _ _ _ h => h) (Or.inl ⟨by rfl, ?_⟩) ?_ ?_
        rotate_left
        ·intro w'
         go_simp
         with_reducible rfl
        rotate_left
        ·simp only [Act.put, ta, tb, tc, i64_w, i32_w]
         rfl
        refine pure_ (i := 5) (N := some 36) (v := ?_) (a' := ?_) #[true, true, true, true, true, true, false, false, false, false, false, false, false, false, false, false, false] rfl rfl (any_of HT_.out (by kernel_rfl)) (fun _ _ _ h => h) (Or.inl ⟨by rfl, ?_⟩) ?_ ?_
        rotate_left
        ·intro w'
         go_simp
         with_reducible rfl
        rotate_left
        ·simp only [Act.put, ta, tb, tc, i64_w, i32_w]
         rfl
        refine pure_ (i := 6) (N := some 37) (v := ?_) (a' := ?_) #[true, true, true, true, true, true, true, false, false, false, false, false, false, false, false, false, false] rfl rfl (any_of HT_.out (by kernel_rfl)) (fun _ _ _ h => h) (Or.inl ⟨by rfl, ?_⟩) ?_ ?_
        rotate_left
        ·intro w'
         go_simp
         with_reducible rfl
        rotate_left
        ·simp only [Act.put, ta, tb, tc, i64_w, i32_w]
         rfl
        refine pure_ (i := 7) (N := some 38) (v := ?_) (a' := ?_) #[true, true, true, true, true, true, true, true, false, false, false, false, false, false, false, false, false] rfl rfl (any_of HT_.out (by kernel_rfl)) (fun _ _ _ h => h) (Or.inl ⟨by rfl, ?_⟩) ?_ ?_
        rotate_left
        ·intro w'
         go_simp
         with_reducible rfl
        rotate_left
        ·simp only [Act.put, ta, tb, tc, i64_w, i32_w]
         rfl
        refine pure_ (i := 8) (N := some 39) (v := ?_) (a' := ?_) #[true, true, true, true, true, true, true, true, true, false, false, false, false, false, false, false, false] rfl rfl (any_of HT_.out (by kernel_rfl)) (fun _ _ _ h => h) (Or.inl ⟨by rfl, ?_⟩) ?_ ?_
        rotate_left
        ·intro w'
         go_simp
         with_reducible rfl
        rotate_left
        ·simp only [Act.put, ta, tb, tc, i64_w, i32_w]
         rfl
        refine pure_ (i := 10) (N := some 41) (v := ?_) (a' := ?_) #[true, true, true, true, true, true, true, true, true, false, true, false, false, false, false, false, false] rfl rfl (any_of HT_.out (by kernel_rfl)) (fun _ _ _ h => h) (Or.inl ⟨by rfl, ?_⟩) ?_ ?_
        rotate_left
        ·intro w'
         go_simp
         with_reducible rfl
        rotate_left
        ·simp only [Act.put, ta, tb, tc, i64_w, i32_w]
         rfl
        refine pure_ (i := 11) (N := some 42) (v := ?_) (a' := ?_) #[true, true, true, true, true, true, true, true, true, false, true, true, false, false, false, false, false] rfl rfl (any_of HT_.out (by kernel_rfl)) (fun _ _ _ h => h) (Or.inl ⟨by rfl, ?_⟩) ?_ ?_
        rotate_left
        ·intro w'
         go_simp
         with_reducible rfl
        rotate_left
        ·simp only [Act.put, ta, tb, tc, i64_w, i32_w]
         rfl
        refine pure_ (i := 12) (N := some 43) (v := ?_) (a' := ?_) #[true, true, true, true, true, true, true, true, true, false, true, true, true, false, false, false, false] rfl rfl (any_of HT_.out (by kernel_rfl)) (fun _ _ _ h => h) (Or.inl ⟨by rfl, ?_⟩) ?_ ?_
        rotate_left
        ·intro w'
         go_simp
         with_reducible rfl
        rotate_left
        ·simp only [Act.put, ta, tb, tc, i64_w, i32_w]
         rfl
        refine pure_ (i := 13) (N := some 44) (v := ?_) (a' := ?_) #[true, true, true, true, true, true, true, true, true, false, true, true, true, true, false, false, false] rfl rfl (any_of HT_.out (by kernel_rfl)) (fun _ _ _ h => h) (Or.inl ⟨by rfl, ?_⟩) ?_ ?_
        rotate_left
        ·intro w'
         go_simp
         with_reducible rfl
        rotate_left
        ·simp only [Act.put, ta, tb, tc, i64_w, i32_w]
         rfl
        refine take_ (i := 9) (N := some 40) (v := ?_) (a' := ?_) #[true, true, true, true, true, true, true, true, true, true, true, true, true, true, false, false, false] rfl rfl (take_ofW HT_.out HW_.out (by kernel_rfl)) (fun _ _ _ h => h) (Or.inl ⟨by rfl, ?_⟩) hHeld ?_ ?_
        rotate_left
        ·rintro w' ⟨s0, s1, s2, s3⟩
         go_simp
         with_reducible rfl
        rotate_left
        ·simp only [Act.put, ta, tb, tc, i64_w, i32_w]
         rfl
        refine take_ (i := 14) (N := some 45) (v := ?_) (a' := ?_) #[true, true, true, true, true, true, true, true, true, true, true, true, true, true, true, false, false] rfl rfl (take_ofW HT_.out HW_.out (by kernel_rfl)) (fun _ _ _ h => h) (Or.inl ⟨by rfl, ?_⟩) hHeld ?_ ?_
        rotate_left
        ·rintro w' ⟨s0, s1, s2, s3⟩
         go_simp
         with_reducible rfl
        rotate_left
        ·simp only [Act.put, ta, tb, tc, i64_w, i32_w]
         rfl
        refine pure_ (i := 15) (N := some 46) (v := ?_) (a' := ?_) #[true, true, true, true, true, true, true, true, true, true, true, true, true, true, true, true, false] rfl rfl (any_of HT_.out (by kernel_rfl)) (fun _ _ _ h => h) (Or.inl ⟨by rfl, ?_⟩) ?_ ?_
        rotate_left
        ·intro w'
         go_simp
         with_reducible rfl
        rotate_left
        ·simp only [Act.put, ta, tb, tc, i64_w, i32_w]
         rfl
        refine pure_ (i := 16) (N := some 47) (v := ?_) (a' := ?_) #[true, true, true, true, true, true, true, true, true, true, true, true, true, true, true, true, true] rfl rfl (any_of HT_.out (by kernel_rfl)) (fun _ _ _ h => h) (Or.inl ⟨by rfl, ?_⟩) ?_ ?_
        rotate_left
        ·intro w'
         go_simp
         with_reducible rfl
        rotate_left
        ·simp only [Act.put, ta, tb, tc, i64_w, i32_w]
         rfl
        refine done_ (done_of HT_.out (by kernel_rfl)) ?_
        have hB8 : Below wx.heap.size wx wx.drew := below_drew1 (Below.refl _ _)
        have HI2 : Aside0 (RsI w wx.drew l (i + 1) (.slice (some ⟨gr, 0, none⟩) m d) out) := ⟨HI.out.row.below (HBO.out.trans (hB8.mono HBO.out.size)), by
         have h1 := List.getElem?_eq_some_iff.1 HXE.out
         obtain ⟨h2, h3⟩ := h1
         rw [List.take_succ_eq_append_getElem h2, h3]
         exact HI.out.fo.stay (List.mem_of_getElem? HY.out) HEQ.out, HI.out.rd, HBX.out.trans (hB8.mono HBX.out.size), by have h := HI.out.ln; omega⟩
        clear y1 y2 x1 x2 hB8
        have hw1 := iw (x := (i : Int) + 1) rfl HII.out
        have hw2 := w64 (x := (i : Int) + 1) rfl HII.out
        go_wp2
        clear hw1 hw2
        go_roundg (n - (i + 1))
        case measure => rw [HG.out]; have := HIN.out; omega
        case rel => exact ⟨i + 1, out, rfl, by simp, HIN.out, ⟨⟨HI2.out.row.below (by repeat (first | exact Below.refl _ _ | apply pw_below_drewN | apply below_drew1)), HI2.out.fo, HI2.out.rd, below_step HI2.out.bel (by repeat (first | exact Below.refl _ _ | apply pw_below_drewN | apply below_drew1)), HI2.out.ln⟩⟩⟩
       ·have HEQ := Aside0.mk heq
        have hz : (y.e.f1.f0 == x.e.f1.f0 && y.e.f1.f1 == x.e.f1.f1) = false := by
         rw [Bool.eq_false_iff]
         intro e
         simp only [Bool.and_eq_true, beq_iff_eq] at e
         exact heq (Prod.ext e.1 e.2)
        clear heq
        refine start_ (n := 17) (S := fun w' => w'.cell? ⟨gr, k * 10 + 1, none⟩ = some (.int .i64 y.e.f1.f0) ∧ w'.cell? ⟨gr, k * 10 + 2, none⟩ = some (.int .i64 y.e.f1.f1) ∧ w'.cell? ⟨(ad.add (i * 10)).block, (ad.add (i * 10)).off + 1, none⟩ = some (.int .i64 x.e.f1.f0) ∧ w'.cell? ⟨(ad.add (i * 10)).block, (ad.add (i * 10)).off + 2, none⟩ = some (.int .i64 x.e.f1.f1)) (ds := []) #[false, false, false, false, false, false, false, false, false, false, false, false, false, false, false, false, false] (by kernel_rfl) rfl rfl ⟨y1, y2, x1, x2⟩ (fun hHeld => ?_)
        refine with_tabW rsort_calls.tab8 rsort_calls.bits8 (fun HT_ HW_ => ?_)
        refine pure_ (i := 0) (N := some 31) (v := ?_) (a' := ?_) #[true, false, false, false, false, false, false, false, false, false, false, false, false, false, false, false, false] rfl rfl (any_of HT_.out (by kernel_rfl)) (fun _ _ _ h => h) (Or.inl ⟨by rfl, ?_⟩) ?_ ?_
        rotate_left
        ·intro w'
         go_simp
         with_reducible rfl
        rotate_left
        ·simp only [Act.put, ta, tb, tc, i64_w, i32_w]
         rfl
        refine pure_ (i := 1) (N := some 32) (v := ?_) (a' := ?_) #[true, true, false, false, false, false, false, false, false, false, false, false, false, false, false, false, false] rfl rfl (any_of HT_.out (by kernel_rfl)) (fun _ _ _ h => h) (Or.inl ⟨by rfl, ?_⟩) ?_ ?_
        rotate_left
        ·intro w'
         go_simp
         with_reducible rfl
        rotate_left
        ·simp only [Act.put, ta, tb, tc, i64_w, i32_w]
         rfl
        refine pure_ (i := 2) (N := some 33) (v := ?_) (a' := ?_) #[true, true, true, false, false, false, false, false, false, false, false, false, false, false, false, false, false] rfl rfl (any_of HT_.out (by kernel_rfl)) (fun _ _ _ h => h) (Or.inl ⟨by rfl, ?_⟩) ?_ ?_
        rotate_left
        ·intro w'
         go_simp
         with_reducible rfl
        rotate_left
        ·simp only [Act.put, ta, tb, tc, i64_w, i32_w]
         rfl
        refine pure_ (i := 3) (N := some 34) (v := ?_) (a' := ?_) #[true, true, true, true, false, false, false, false, false, false, false, false, false, false, false, false, false] rfl rfl (any_of HT_.out (by kernel_rfl)) (fun _ _ _ h => h) (Or.inl ⟨by rfl, ?_⟩) ?_ ?_
        rotate_left
        ·intro w'
         go_simp
         with_reducible rfl
        rotate_left
        ·simp only [Act.put, ta, tb, tc, i64_w, i32_w]
         rfl
        refine pure_ (i := 4) (N := some 35) (v := ?_) (a' := ?_) #[true, true, true, true, true, false, false, false, false, false, false, false, false, false, false, false, false] rfl rfl (any_of HT_.out (by kernel_rfl)) (fun _ _ _ h => h) (Or.inl ⟨by rfl, ?_⟩) ?_ ?_
        rotate_left
        ·intro w'
         go_simp
         with_reducible rfl
        rotate_left
        ·simp only [Act.put, ta, tb, tc, i64_w, i32_w]
         rfl
        refine pure_ (i := 5) (N := some 36) (v := ?_) (a' := ?_) #[true, true, true, true, true, true, false, false, false, false, false, false, false, false, false, false, false] rfl rfl (any_of HT_.out (by kernel_rfl)) (fun _ _ _ h => h) (Or.inl ⟨by rfl, ?_⟩) ?_ ?_
        rotate_left
        ·intro w'
         go_simp
         with_reducible rfl
        rotate_left
        ·simp only [Act.put, ta, tb, tc, i64_w, i32_w]
         rfl
        refine pure_ (i := 6) (N := some 37) (v := ?_) (a' := ?_) #[true, true, true, true, true, true, true, false, false, false, false, false, false, false, false, false, false] rfl rfl (any_of HT_.out (by kernel_rfl)) (fun _ _ _ h => h) (Or.inl ⟨by rfl, ?_⟩) ?_ ?_
        rotate_left
        ·intro w'
         go_simp
         with_reducible rfl
        rotate_left
        ·simp only [Act.put, ta, tb, tc, i64_w, i32_w]
         rfl
        refine pure_ (i := 7) (N := some 38) (v := ?_) (a' := ?_) #[true, true, true, true, true, true, true, true, false, false, false, false, false, false, false, false, false] rfl rfl (any_of HT_.out (by kernel_rfl)) (fun _ _ _ h => h) (Or.inl ⟨by rfl, ?_⟩) ?_ ?_
        rotate_left
        ·intro w'
         go_simp
         with_reducible rfl
        rotate_left
        ·simp only [Act.put, ta, tb, tc, i64_w, i32_w]
         rfl
        refine pure_ (i := 8) (N := some 39) (v := ?_) (a' := ?_) #[true, true, true, true, true, true, true, true, true, false, false, false, false, false, false, false, false] rfl rfl (any_of HT_.out (by kernel_rfl)) (fun _ _ _ h => h) (Or.inl ⟨by rfl, ?_⟩) ?_ ?_
        rotate_left
        ·intro w'
         go_simp
         with_reducible rfl
        rotate_left
        ·simp only [Act.put, ta, tb, tc, i64_w, i32_w]
         rfl
        refine pure_ (i := 10) (N := some 41) (v := ?_) (a' := ?_) #[true, true, true, true, true, true, true, true, true, false, true, false, false, false, false, false, false] rfl rfl (any_of HT_.out (by kernel_rfl)) (fun _ _ _ h => h) (Or.inl ⟨by rfl, ?_⟩) ?_ ?_
        rotate_left
        ·intro w'
         go_simp
         with_reducible rfl
        rotate_left
        ·simp only [Act.put, ta, tb, tc, i64_w, i32_w]
         rfl
        refine pure_ (i := 11) (N := some 42) (v := ?_) (a' := ?_) #[true, true, true, true, true, true, true, true, true, false, true, true, false, false, false, false, false] rfl rfl (any_of HT_.out (by kernel_rfl)) (fun _ _ _ h => h) (Or.inl ⟨by rfl, ?_⟩) ?_ ?_
        rotate_left
        ·intro w'
         go_simp
         with_reducible rfl
        rotate_left
        ·simp only [Act.put, ta, tb, tc, i64_w, i32_w]
         rfl
        refine pure_ (i := 12) (N := some 43) (v := ?_) (a' := ?_) #[true, true, true, true, true, true, true, true, true, false, true, true, true, false, false, false, false] rfl rfl (any_of HT_.out (by kernel_rfl)) (fun _ _ _ h => h) (Or.inl ⟨by rfl, ?_⟩) ?_ ?_
        rotate_left
        ·intro w'
         go_simp
         with_reducible rfl
        rotate_left
        ·simp only [Act.put, ta, tb, tc, i64_w, i32_w]
         rfl
        refine pure_ (i := 13) (N := some 44) (v := ?_) (a' := ?_) #[true, true, true, true, true, true, true, true, true, false, true, true, true, true, false, false, false] rfl rfl (any_of HT_.out (by kernel_rfl)) (fun _ _ _ h => h) (Or.inl ⟨by rfl, ?_⟩) ?_ ?_
        rotate_left
        ·intro w'
         go_simp
         with_reducible rfl
        rotate_left
        ·simp only [Act.put, ta, tb, tc, i64_w, i32_w]
         rfl
        refine take_ (i := 9) (N := some 40) (v := ?_) (a' := ?_) #[true, true, true, true, true, true, true, true, true, true, true, true, true, true, false, false, false] rfl rfl (take_ofW HT_.out HW_.out (by kernel_rfl)) (fun _ _ _ h => h) (Or.inl ⟨by rfl, ?_⟩) hHeld ?_ ?_
        rotate_left
        ·rintro w' ⟨s0, s1, s2, s3⟩
         go_simp
         with_reducible rfl
        rotate_left
        ·simp only [Act.put, ta, tb, tc, i64_w, i32_w]
         rfl
        refine take_ (i := 14) (N := some 45) (v := ?_) (a' := ?_) #[true, true, true, true, true, true, true, true, true, true, true, true, true, true, true, false, false] rfl rfl (take_ofW HT_.out HW_.out (by kernel_rfl)) (fun _ _ _ h => h) (Or.inl ⟨by rfl, ?_⟩) hHeld ?_ ?_
        rotate_left
        ·rintro w' ⟨s0, s1, s2, s3⟩
         go_simp
         with_reducible rfl
        rotate_left
        ·simp only [Act.put, ta, tb, tc, i64_w, i32_w]
         rfl
        refine pure_ (i := 15) (N := some 46) (v := ?_) (a' := ?_) #[true, true, true, true, true, true, true, true, true, true, true, true, true, true, true, true, false] rfl rfl (any_of HT_.out (by kernel_rfl)) (fun _ _ _ h => h) (Or.inl ⟨by rfl, ?_⟩) ?_ ?_
        rotate_left
        ·intro w'
         go_simp
         with_reducible rfl
        rotate_left
        ·simp only [Act.put, ta, tb, tc, i64_w, i32_w]
         rfl
        refine pure_ (i := 16) (N := some 47) (v := ?_) (a' := ?_) #[true, true, true, true, true, true, true, true, true, true, true, true, true, true, true, true, true] rfl rfl (any_of HT_.out (by kernel_rfl)) (fun _ _ _ h => h) (Or.inl ⟨by rfl, ?_⟩) ?_ ?_
        rotate_left
        ·intro w'
         go_simp
         with_reducible rfl
        rotate_left
        ·simp only [Act.put, ta, tb, tc, i64_w, i32_w]
         rfl
        refine done_ (done_of HT_.out (by kernel_rfl)) ?_
        have HBK2 : Aside0 (Below wo.heap.size wo wx.drew) := ⟨below_drew1 HBO.out⟩
        clear HBO HBX y1 y2 x1 x2
        go_wp2
        go_upto_region 9 with fail
        refine gen_world (fun wx hwx => ?_)
        have HBO : Aside0 (Below wo.heap.size wo wx) := ⟨by rw [hwx]; first | exact HBK2.out | exact below_step HBK2.out (by repeat (first | exact Below.refl _ _ | apply pw_below_drewN | apply below_drew1))⟩
        have HBX : Aside0 (Below w.heap.size w wx) := ⟨HI.out.bel.trans (HBO.out.mono HI.out.bel.size)⟩
        clear hwx
        have x0 := pw_cell_below HBX.out HX0.out
        have x1 := pw_cell_below HBX.out HX1.out
        have x2 := pw_cell_below HBX.out HX2.out
        have x3 := pw_cell_below HBX.out HX3.out
        have x4 := pw_cell_below HBX.out HX4.out
        have x5 := pw_cell_below HBX.out HX5.out
        have x6 := pw_cell_below HBX.out HX6.out
        have x7 := pw_cell_below HBX.out HX7.out
        have x8 := pw_cell_below HBX.out HX8.out
        have x9 := pw_cell_below HBX.out HX9.out
        have HKI : Aside0 (k ≤ out.length ∧ out.length = m ∧ out.length ≤ 60) := ⟨by have := HM.out; omega, HM.out, by have := HI.out.ln; have := HIN.out; have := HN60.out; omega⟩
        have hrow := HI.out.row.below HBO.out
        have HS1 : Aside0 (SrcE wx (.slice (some ⟨gr, 0, none⟩) k d) (out.take k)) := ⟨srcE_take hrow HM.out (by omega)⟩
        have HS2 : Aside0 (SrcE wx (.slice (some ⟨gr, k * 10, none⟩) (m - k) (d - k)) (out.drop k)) := ⟨srcE_drop hrow HM.out (by omega)⟩
        have q9 : k ≤ d := by omega
        have q10 : (k : Int) ≤ d := by omega
        have q11 : ¬ d = k := by omega
        have q12 : (k : Int) < d := by omega
        have q13 : (k : Int) ≤ m := by omega
        have q14 : (0 : Int) ≤ k := by omega
        clear hrow
        clear hkb hkb2 hkb3 hkbn hz
        refine start_ (n := 16) (S := fun w' => w'.cell? (ad.add (i * 10)) = some (.int .i64 x.e.f0) ∧ w'.cell? ⟨(ad.add (i * 10)).block, (ad.add (i * 10)).off + 1, none⟩ = some (.int .i64 x.e.f1.f0) ∧ w'.cell? ⟨(ad.add (i * 10)).block, (ad.add (i * 10)).off + 2, none⟩ = some (.int .i64 x.e.f1.f1) ∧ w'.cell? ⟨(ad.add (i * 10)).block, (ad.add (i * 10)).off + 3, none⟩ = some (.int .i64 x.e.f2.f0) ∧ w'.cell? ⟨(ad.add (i * 10)).block, (ad.add (i * 10)).off + 4, none⟩ = some (.int .i64 x.e.f2.f1) ∧ w'.cell? ⟨(ad.add (i * 10)).block, (ad.add (i * 10)).off + 5, none⟩ = some (.int .i64 x.e.f3.f0) ∧ w'.cell? ⟨(ad.add (i * 10)).block, (ad.add (i * 10)).off + 6, none⟩ = some (.int .i64 x.e.f3.f1) ∧ w'.cell? ⟨(ad.add (i * 10)).block, (ad.add (i * 10)).off + 7, none⟩ = some (.bool x.e.f4) ∧ w'.cell? ⟨(ad.add (i * 10)).block, (ad.add (i * 10)).off + 8, none⟩ = some (.string x.e.f5) ∧ w'.cell? ⟨(ad.add (i * 10)).block, (ad.add (i * 10)).off + 9, none⟩ = some (.slice x.A x.e.f6.length x.c)) (ds := []) #[false, false, false, false, false, false, false, false, false, false, false, false, false, false, false, false] (by kernel_rfl) rfl rfl ⟨x0, x1, x2, x3, x4, x5, x6, x7, x8, x9⟩ (fun hHeld => ?_)
        refine with_tabW rsort_calls.tab9 rsort_calls.bits9 (fun HT_ HW_ => ?_)
        refine pure_ (i := 1) (N := some 49) (v := ?_) (a' := ?_) #[false, true, false, false, false, false, false, false, false, false, false, false, false, false, false, false] rfl rfl (any_of HT_.out (by kernel_rfl)) (fun _ _ _ h => h) (Or.inl ⟨by rfl, ?_⟩) ?_ ?_
        rotate_left
        ·intro w'
         go_simp
         with_reducible rfl
        rotate_left
        ·simp only [Act.put, ta, tb, tc, i64_w, i32_w]
         rfl
        refine pure_ (i := 2) (N := some 50) (v := ?_) (a' := ?_) #[false, true, true, false, false, false, false, false, false, false, false, false, false, false, false, false] rfl rfl (any_of HT_.out (by kernel_rfl)) (fun _ _ _ h => h) (Or.inl ⟨by rfl, ?_⟩) ?_ ?_
        rotate_left
        ·intro w'
         go_simp
         with_reducible rfl
        rotate_left
        ·simp only [Act.put, ta, tb, tc, i64_w, i32_w]
         rfl
        refine pure_ (i := 3) (N := some 51) (v := ?_) (a' := ?_) #[false, true, true, true, false, false, false, false, false, false, false, false, false, false, false, false] rfl rfl (any_of HT_.out (by kernel_rfl)) (fun _ _ _ h => h) (Or.inl ⟨by rfl, ?_⟩) ?_ ?_
        rotate_left
        ·intro w'
         go_simp
         with_reducible rfl
        rotate_left
        ·simp only [Act.put, ta, tb, tc, i64_w, i32_w]
         rfl
        refine pure_ (i := 5) (N := some 53) (v := ?_) (a' := ?_) #[false, true, true, true, false, true, false, false, false, false, false, false, false, false, false, false] rfl rfl (any_of HT_.out (by kernel_rfl)) (fun _ _ _ h => h) (Or.inl ⟨by rfl, ?_⟩) ?_ ?_
        rotate_left
        ·intro w'
         go_simp
         with_reducible rfl
        rotate_left
        ·simp only [Act.put, ta, tb, tc, i64_w, i32_w]
         rfl
        refine pure_ (i := 6) (N := some 54) (v := ?_) (a' := ?_) #[false, true, true, true, false, true, true, false, false, false, false, false, false, false, false, false] rfl rfl (any_of HT_.out (by kernel_rfl)) (fun _ _ _ h => h) (Or.inl ⟨by rfl, ?_⟩) ?_ ?_
        rotate_left
        ·intro w'
         go_simp
         with_reducible rfl
        rotate_left
        ·simp only [Act.put, ta, tb, tc, i64_w, i32_w]
         rfl
        refine pure_ (i := 7) (N := some 55) (v := ?_) (a' := ?_) #[false, true, true, true, false, true, true, true, false, false, false, false, false, false, false, false] rfl rfl (any_of HT_.out (by kernel_rfl)) (fun _ _ _ h => h) (Or.inl ⟨by rfl, ?_⟩) ?_ ?_
        rotate_left
        ·intro w'
         go_simp
         with_reducible rfl
        rotate_left
        ·simp only [Act.put, ta, tb, tc, i64_w, i32_w]
         rfl
        refine pure_ (i := 11) (N := some 59) (v := ?_) (a' := ?_) #[false, true, true, true, false, true, true, true, false, false, false, true, false, false, false, false] rfl rfl (any_of HT_.out (by kernel_rfl)) (fun _ _ _ h => h) (Or.inl ⟨by rfl, ?_⟩) ?_ ?_
        rotate_left
        ·intro w'
         go_simp
         with_reducible rfl
        rotate_left
        ·simp only [Act.put, ta, tb, tc, i64_w, i32_w]
         rfl
        refine pure_ (i := 12) (N := some 60) (v := ?_) (a' := ?_) #[false, true, true, true, false, true, true, true, false, false, false, true, true, false, false, false] rfl rfl (any_of HT_.out (by kernel_rfl)) (fun _ _ _ h => h) (Or.inl ⟨by rfl, ?_⟩) ?_ ?_
        rotate_left
        ·intro w'
         go_simp
         with_reducible rfl
        rotate_left
        ·simp only [Act.put, ta, tb, tc, i64_w, i32_w]
         rfl
        refine pure_ (i := 13) (N := some 61) (v := ?_) (a' := ?_) #[false, true, true, true, false, true, true, true, false, false, false, true, true, true, false, false] rfl rfl (any_of HT_.out (by kernel_rfl)) (fun _ _ _ h => h) (Or.inl ⟨by rfl, ?_⟩) ?_ ?_
        rotate_left
        ·intro w'
         go_simp
         with_reducible rfl
        rotate_left
        ·simp only [Act.put, ta, tb, tc, i64_w, i32_w]
         rfl
        refine take_ (i := 8) (N := some 56) (v := ?_) (a' := ?_) #[false, true, true, true, false, true, true, true, true, false, false, true, true, true, false, false] rfl rfl (take_ofW HT_.out HW_.out (by kernel_rfl)) (fun _ _ _ h => h) (Or.inl ⟨by rfl, ?_⟩) hHeld ?_ ?_
        rotate_left
        ·rintro w' ⟨s0, s1, s2, s3, s4, s5, s6, s7, s8, s9⟩
         go_simp
         with_reducible rfl
        rotate_left
        ·simp only [Act.put, ta, tb, tc, i64_w, i32_w]
         rfl
        refine join_ (σ := Nat × Value × Nat) 3 #[true, true, true, true, true, true, true, true, true, true, false, true, true, true, false, false] (fun s => [(48, .slice (some ⟨s.1, 0, none⟩) 0 0), (52, s.2.1), (57, .slice (some ⟨s.2.2, 0, none⟩) 1 1)]) (fun s w' => (QRow w' w.heap.size s.2.1 (out.take k) ∧ w'.heap[s.2.2]? = some (.cells #[.int .i64 x.e.f0, .int .i64 x.e.f1.f0, .int .i64 x.e.f1.f1, .int .i64 x.e.f2.f0, .int .i64 x.e.f2.f1, .int .i64 x.e.f3.f0, .int .i64 x.e.f3.f1, .bool x.e.f4, .string x.e.f5, .slice x.A x.e.f6.length x.c] 31 (0, 0)) ∧ Below wx.heap.size wx w' ∧ ∀ j, s.2.1.ownBlock = some j → wx.heap.size ≤ j) ∧ w'.cell? (ad.add (i * 10)) = some (.int .i64 x.e.f0) ∧ w'.cell? ⟨(ad.add (i * 10)).block, (ad.add (i * 10)).off + 1, none⟩ = some (.int .i64 x.e.f1.f0) ∧ w'.cell? ⟨(ad.add (i * 10)).block, (ad.add (i * 10)).off + 2, none⟩ = some (.int .i64 x.e.f1.f1) ∧ w'.cell? ⟨(ad.add (i * 10)).block, (ad.add (i * 10)).off + 3, none⟩ = some (.int .i64 x.e.f2.f0) ∧ w'.cell? ⟨(ad.add (i * 10)).block, (ad.add (i * 10)).off + 4, none⟩ = some (.int .i64 x.e.f2.f1) ∧ w'.cell? ⟨(ad.add (i * 10)).block, (ad.add (i * 10)).off + 5, none⟩ = some (.int .i64 x.e.f3.f0) ∧ w'.cell? ⟨(ad.add (i * 10)).block, (ad.add (i * 10)).off + 6, none⟩ = some (.int .i64 x.e.f3.f1) ∧ w'.cell? ⟨(ad.add (i * 10)).block, (ad.add (i * 10)).off + 7, none⟩ = some (.bool x.e.f4) ∧ w'.cell? ⟨(ad.add (i * 10)).block, (ad.add (i * 10)).off + 8, none⟩ = some (.string x.e.f5) ∧ w'.cell? ⟨(ad.add (i * 10)).block, (ad.add (i * 10)).off + 9, none⟩ = some (.slice x.A x.e.f6.length x.c)) ?_ ?_
        rotate_left
        ·intro hCont
         refine two_ (i := 0) (j := 9) (Ni := some 48) (Nj := some 57) #[true, true, true, true, false, true, true, true, true, false, false, true, true, true, false, false] #[false, true, true, true, false, true, true, true, true, true, false, true, true, true, false, false] rfl rfl rfl rfl (two_of HT_.out (by kernel_rfl)) (by decide) (by decide) (fun K hK => ?_) (fun K hK => ?_)
         ·skip
          refine value_ (w1 := ?_) (v := ?_) (by rfl) rfl ?_ ?_
          rotate_left 2
          ·go_simp
           constructor
           ·rfl
           ·rfl
          refine hK.out _ _ (lift10 (by with_reducible repeat (first | exact Below.refl _ _ | apply below_alloc | apply pw_below_drewN | apply below_drew1)) x0 x1 x2 x3 x4 x5 x6 x7 x8 x9) (fun hHeld => ?_)
          clear hK K
          refine norm_ (a' := ?_) ?_ ?_
          rotate_left
          ·show Act.put _ (some 48) _ = _
           simp only [Act.put, ta, tb, tc, i64_w, i32_w]
           rfl
          refine two_ (i := 4) (j := 9) (Ni := some 52) (Nj := some 57) #[true, true, true, true, true, true, true, true, true, false, false, true, true, true, false, false] #[true, true, true, true, false, true, true, true, true, true, false, true, true, true, false, false] rfl rfl rfl rfl (two_of HT_.out (by kernel_rfl)) (by decide) (by decide) (fun K hK => ?_) (fun K hK => ?_)
          ·skip
           refine step_app_src w.heap.size rfl (.tmp 48) (.tmp 51) 22 rfl Try.underlying22 _ [] (out.take k) rfl ?ho _ rfl ?hsrc ?hbs ?hlt ?_
           case hsrc => exact HS1.out.below (show Below wx.heap.size wx _ from (by with_reducible repeat (first | exact Below.refl _ _ | apply below_alloc | apply pw_below_drewN | apply below_drew1)))
           case hlt => (have := HKI.out; simp only [List.length_nil, List.length_append, List.length_take, List.length_drop, List.length_cons]; omega)
           case ho => exact QRow.empty wx.drew w.heap.size HBX.out.size
           case hbs => exact Nat.le_trans HBX.out.size (show Below wx.heap.size wx _ from (by with_reducible repeat (first | exact Below.refl _ _ | apply below_alloc | apply pw_below_drewN | apply below_drew1))).size
           intro v52 w52 hp hf hat
           rw [List.nil_append] at hp
           have hb52 : Below wx.heap.size wx w52 := hf.below (by with_reducible repeat (first | exact Below.refl _ _ | apply below_alloc | apply pw_below_drewN | apply below_drew1)) (fun j hj => Nat.le_of_eq (Option.some.inj hj))
           have hf52 : ∀ j, v52.ownBlock = some j → wx.heap.size ≤ j := fun j hj => (hat_orR hat j hj).elim (fun hj => Nat.le_of_eq (Option.some.inj hj)) (fun h => Nat.le_trans (show Below wx.heap.size wx _ from (by with_reducible repeat (first | exact Below.refl _ _ | apply below_alloc | apply pw_below_drewN | apply below_drew1))).size h)
           refine hK.out _ _ (lift10 hb52 x0 x1 x2 x3 x4 x5 x6 x7 x8 x9) (fun hHeld => ?_)
           clear hK K
           refine norm_ (a' := ?_) ?_ ?_
           rotate_left
           ·show Act.put _ (some 52) _ = _
            simp only [Act.put, ta, tb, tc, i64_w, i32_w]
            rfl
           refine one_ (i := 9) (N := some 57) #[true, true, true, true, true, true, true, true, true, true, false, true, true, true, false, false] rfl rfl (one_of HT_.out (by kernel_rfl)) (by decide) (fun K hK => ?_)
           refine value_ (w1 := ?_) (v := ?_) (by rfl) rfl ?_ ?_
           rotate_left 2
           ·go_simp
            constructor
            ·rfl
            ·rfl
           refine hK.out _ _ (lift10 (by with_reducible repeat (first | exact hb52 | apply below_alloc | apply pw_below_drewN | apply below_drew1)) x0 x1 x2 x3 x4 x5 x6 x7 x8 x9) (fun hHeld => ?_)
           clear hK K
           refine norm_ (a' := ?_) ?_ ?_
           rotate_left
           ·show Act.put _ (some 57) _ = _
            simp only [Act.put, ta, tb, tc, i64_w, i32_w]
            rfl
           exact norm_ (by simp only [putAll, Act.put, List.setIfInBounds_toArray, List.set_cons_zero, List.set_cons_succ]) (hCont (wx.heap.size, v52, w52.heap.size) _ ⟨⟨hp.below (below_alloc (Below.refl _ _) _), blk_new w52 _, below_alloc hb52 _, hf52⟩, pw_cell_below (by with_reducible repeat (first | exact hb52 | apply below_alloc | apply pw_below_drewN | apply below_drew1)) x0, pw_cell_below (by with_reducible repeat (first | exact hb52 | apply below_alloc | apply pw_below_drewN | apply below_drew1)) x1, pw_cell_below (by with_reducible repeat (first | exact hb52 | apply below_alloc | apply pw_below_drewN | apply below_drew1)) x2, pw_cell_below (by with_reducible repeat (first | exact hb52 | apply below_alloc | apply pw_below_drewN | apply below_drew1)) x3, pw_cell_below (by with_reducible repeat (first | exact hb52 | apply below_alloc | apply pw_below_drewN | apply below_drew1)) x4, pw_cell_below (by with_reducible repeat (first | exact hb52 | apply below_alloc | apply pw_below_drewN | apply below_drew1)) x5, pw_cell_below (by with_reducible repeat (first | exact hb52 | apply below_alloc | apply pw_below_drewN | apply below_drew1)) x6, pw_cell_below (by with_reducible repeat (first | exact hb52 | apply below_alloc | apply pw_below_drewN | apply below_drew1)) x7, pw_cell_below (by with_reducible repeat (first | exact hb52 | apply below_alloc | apply pw_below_drewN | apply below_drew1)) x8, pw_cell_below (by with_reducible repeat (first | exact hb52 | apply below_alloc | apply pw_below_drewN | apply below_drew1)) x9⟩)
          ·skip
           refine value_ (w1 := ?_) (v := ?_) (by rfl) rfl ?_ ?_
           rotate_left 2
           ·go_simp
            constructor
            ·rfl
            ·rfl
           refine hK.out _ _ (lift10 (by with_reducible repeat (first | exact Below.refl _ _ | apply below_alloc | apply pw_below_drewN | apply below_drew1)) x0 x1 x2 x3 x4 x5 x6 x7 x8 x9) (fun hHeld => ?_)
           clear hK K
           refine norm_ (a' := ?_) ?_ ?_
           rotate_left
           ·show Act.put _ (some 57) _ = _
            simp only [Act.put, ta, tb, tc, i64_w, i32_w]
            rfl
           refine one_ (i := 4) (N := some 52) #[true, true, true, true, true, true, true, true, true, true, false, true, true, true, false, false] rfl rfl (one_of HT_.out (by kernel_rfl)) (by decide) (fun K hK => ?_)
           refine step_app_src w.heap.size rfl (.tmp 48) (.tmp 51) 22 rfl Try.underlying22 _ [] (out.take k) rfl ?ho _ rfl ?hsrc ?hbs ?hlt ?_
           case hsrc => exact HS1.out.below (show Below wx.heap.size wx _ from (by with_reducible repeat (first | exact Below.refl _ _ | apply below_alloc | apply pw_below_drewN | apply below_drew1)))
           case hlt => (have := HKI.out; simp only [List.length_nil, List.length_append, List.length_take, List.length_drop, List.length_cons]; omega)
           case ho => exact (QRow.empty wx.drew w.heap.size HBX.out.size).below (below_alloc (Below.refl _ _) _)
           case hbs => exact Nat.le_trans HBX.out.size (show Below wx.heap.size wx _ from (by with_reducible repeat (first | exact Below.refl _ _ | apply below_alloc | apply pw_below_drewN | apply below_drew1))).size
           intro v52 w52 hp hf hat
           rw [List.nil_append] at hp
           have hb52 : Below wx.heap.size wx w52 := hf.below (by with_reducible repeat (first | exact Below.refl _ _ | apply below_alloc | apply pw_below_drewN | apply below_drew1)) (fun j hj => Nat.le_of_eq (Option.some.inj hj))
           have hf52 : ∀ j, v52.ownBlock = some j → wx.heap.size ≤ j := fun j hj => (hat_orR hat j hj).elim (fun hj => Nat.le_of_eq (Option.some.inj hj)) (fun h => Nat.le_trans (show Below wx.heap.size wx _ from (by with_reducible repeat (first | exact Below.refl _ _ | apply below_alloc | apply pw_below_drewN | apply below_drew1))).size h)
           have hx52 := hf.blk (heap_alloc_new (wx.drew.alloc (.cells #[] 31)) (.cells #[.int .i64 x.e.f0, .int .i64 x.e.f1.f0, .int .i64 x.e.f1.f1, .int .i64 x.e.f2.f0, .int .i64 x.e.f2.f1, .int .i64 x.e.f3.f0, .int .i64 x.e.f3.f1, .bool x.e.f4, .string x.e.f5, .slice x.A x.e.f6.length x.c] 31 (0, 0))) (fun hj => by have h := Option.some.inj hj; simp at h)
           refine hK.out _ _ (lift10 hb52 x0 x1 x2 x3 x4 x5 x6 x7 x8 x9) (fun hHeld => ?_)
           clear hK K
           refine norm_ (a' := ?_) ?_ ?_
           rotate_left
           ·show Act.put _ (some 52) _ = _
            simp only [Act.put, ta, tb, tc, i64_w, i32_w]
            rfl
           exact norm_ (by simp only [putAll, Act.put, List.setIfInBounds_toArray, List.set_cons_zero, List.set_cons_succ]) (hCont (wx.heap.size, v52, (wx.heap.size + 1)) _ ⟨⟨hp, by simpa using hx52, hb52, hf52⟩, pw_cell_below hb52 x0, pw_cell_below hb52 x1, pw_cell_below hb52 x2, pw_cell_below hb52 x3, pw_cell_below hb52 x4, pw_cell_below hb52 x5, pw_cell_below hb52 x6, pw_cell_below hb52 x7, pw_cell_below hb52 x8, pw_cell_below hb52 x9⟩)
         ·skip
          refine value_ (w1 := ?_) (v := ?_) (by rfl) rfl ?_ ?_
          rotate_left 2
          ·go_simp
           constructor
           ·rfl
           ·rfl
          refine hK.out _ _ (lift10 (by with_reducible repeat (first | exact Below.refl _ _ | apply below_alloc | apply pw_below_drewN | apply below_drew1)) x0 x1 x2 x3 x4 x5 x6 x7 x8 x9) (fun hHeld => ?_)
          clear hK K
          refine norm_ (a' := ?_) ?_ ?_
          rotate_left
          ·show Act.put _ (some 57) _ = _
           simp only [Act.put, ta, tb, tc, i64_w, i32_w]
           rfl
          refine one_ (i := 0) (N := some 48) #[true, true, true, true, false, true, true, true, true, true, false, true, true, true, false, false] rfl rfl (one_of HT_.out (by kernel_rfl)) (by decide) (fun K hK => ?_)
          refine value_ (w1 := ?_) (v := ?_) (by rfl) rfl ?_ ?_
          rotate_left 2
          ·go_simp
           constructor
           ·rfl
           ·rfl
          refine hK.out _ _ (lift10 (by with_reducible repeat (first | exact Below.refl _ _ | apply below_alloc | apply pw_below_drewN | apply below_drew1)) x0 x1 x2 x3 x4 x5 x6 x7 x8 x9) (fun hHeld => ?_)
          clear hK K
          refine norm_ (a' := ?_) ?_ ?_
          rotate_left
          ·show Act.put _ (some 48) _ = _
           simp only [Act.put, ta, tb, tc, i64_w, i32_w]
           rfl
          refine one_ (i := 4) (N := some 52) #[true, true, true, true, true, true, true, true, true, true, false, true, true, true, false, false] rfl rfl (one_of HT_.out (by kernel_rfl)) (by decide) (fun K hK => ?_)
          refine step_app_src w.heap.size rfl (.tmp 48) (.tmp 51) 22 rfl Try.underlying22 _ [] (out.take k) rfl ?ho _ rfl ?hsrc ?hbs ?hlt ?_
          case hsrc => exact HS1.out.below (show Below wx.heap.size wx _ from (by with_reducible repeat (first | exact Below.refl _ _ | apply below_alloc | apply pw_below_drewN | apply below_drew1)))
          case hlt => (have := HKI.out; simp only [List.length_nil, List.length_append, List.length_take, List.length_drop, List.length_cons]; omega)
          case ho => exact (QRow.empty2 wx (.cells #[.int .i64 x.e.f0, .int .i64 x.e.f1.f0, .int .i64 x.e.f1.f1, .int .i64 x.e.f2.f0, .int .i64 x.e.f2.f1, .int .i64 x.e.f3.f0, .int .i64 x.e.f3.f1, .bool x.e.f4, .string x.e.f5, .slice x.A x.e.f6.length x.c] 31) w.heap.size HBX.out.size).below (below_drew1 (Below.refl _ _))
          case hbs => exact Nat.le_trans HBX.out.size (show Below wx.heap.size wx _ from (by with_reducible repeat (first | exact Below.refl _ _ | apply below_alloc | apply pw_below_drewN | apply below_drew1))).size
          intro v52 w52 hp hf hat
          rw [List.nil_append] at hp
          have hb52 : Below wx.heap.size wx w52 := hf.below (by with_reducible repeat (first | exact Below.refl _ _ | apply below_alloc | apply pw_below_drewN | apply below_drew1)) (fun j hj => (by have h := Option.some.inj hj; simp at h; omega))
          have hf52 : ∀ j, v52.ownBlock = some j → wx.heap.size ≤ j := fun j hj => (hat_orR hat j hj).elim (fun hj => (by have h := Option.some.inj hj; simp at h; omega)) (fun h => Nat.le_trans (show Below wx.heap.size wx _ from (by with_reducible repeat (first | exact Below.refl _ _ | apply below_alloc | apply pw_below_drewN | apply below_drew1))).size h)
          have hx52 := hf.blk (blk_alloc (blk_new wx.drew (.cells #[.int .i64 x.e.f0, .int .i64 x.e.f1.f0, .int .i64 x.e.f1.f1, .int .i64 x.e.f2.f0, .int .i64 x.e.f2.f1, .int .i64 x.e.f3.f0, .int .i64 x.e.f3.f1, .bool x.e.f4, .string x.e.f5, .slice x.A x.e.f6.length x.c] 31 (0, 0))) (.cells #[] 31 (0, 0))) (fun hj => by have h := Option.some.inj hj; simp at h)
          refine hK.out _ _ (lift10 hb52 x0 x1 x2 x3 x4 x5 x6 x7 x8 x9) (fun hHeld => ?_)
          clear hK K
          refine norm_ (a' := ?_) ?_ ?_
          rotate_left
          ·show Act.put _ (some 52) _ = _
           simp only [Act.put, ta, tb, tc, i64_w, i32_w]
           rfl
          exact norm_ (by simp only [putAll, Act.put, List.setIfInBounds_toArray, List.set_cons_zero, List.set_cons_succ]) (hCont ((wx.heap.size + 1), v52, wx.heap.size) _ ⟨⟨hp, by simpa using hx52, hb52, hf52⟩, pw_cell_below hb52 x0, pw_cell_below hb52 x1, pw_cell_below hb52 x2, pw_cell_below hb52 x3, pw_cell_below hb52 x4, pw_cell_below hb52 x5, pw_cell_below hb52 x6, pw_cell_below hb52 x7, pw_cell_below hb52 x8, pw_cell_below hb52 x9⟩)
        rintro ⟨a48, v52, b57⟩ w57 ⟨⟨hO52, hx57, hb57, hf57⟩, hHeld⟩
        change QRow w57 w.heap.size v52 _ at hO52
        change w57.heap[b57]? = _ at hx57
        change ∀ j, v52.ownBlock = some j → _ at hf57
        refine norm_ (a' := ?_) ?_ ?_
        rotate_left
        ·simp only [putAll, Act.put, List.setIfInBounds_toArray, List.set_cons_zero, List.set_cons_succ]
         rfl
        refine one_ (i := 10) (N := some 58) #[true, true, true, true, true, true, true, true, true, true, true, true, true, true, false, false] rfl rfl (one_of HT_.out (by kernel_rfl)) (by decide) (fun K hK => ?_)
        refine step_app_src w.heap.size rfl (.tmp 52) (.tmp 57) 22 rfl Try.underlying22 v52 (out.take k) [x] rfl ?ho _ rfl ?hsrc ?hbs ?hlt ?_
        case hsrc => exact .inr ⟨_, 1, _, rfl, rfl, fun j u hu => World.news_of_block hx57 j u (by simpa [flQ, qC] using hu)⟩
        case hlt => (have := HKI.out; simp only [List.length_nil, List.length_append, List.length_take, List.length_drop, List.length_cons]; omega)
        case ho => exact hO52
        case hbs => exact Nat.le_trans HBX.out.size hb57.size
        intro v58 w58 hp hf hat
        have hb58 : Below wx.heap.size wx w58 := hf.below hb57 (fun j hj => hf57 j hj)
        have hf58 : ∀ j, v58.ownBlock = some j → wx.heap.size ≤ j := fun j hj => (hat_orR hat j hj).elim (fun h => hf57 j h) (fun h => Nat.le_trans hb57.size h)
        have hO58 := hp
        clear hp hf hat
        refine hK.out _ _ (lift10 hb58 x0 x1 x2 x3 x4 x5 x6 x7 x8 x9) (fun hHeld => ?_)
        clear hK K
        refine norm_ (a' := ?_) ?_ ?_
        rotate_left
        ·show Act.put _ (some 58) _ = _
         simp only [Act.put, ta, tb, tc, i64_w, i32_w]
         rfl
        refine one_ (i := 14) (N := some 62) #[true, true, true, true, true, true, true, true, true, true, true, true, true, true, true, false] rfl rfl (one_of HT_.out (by kernel_rfl)) (by decide) (fun K hK => ?_)
        refine step_app_src w.heap.size rfl (.tmp 58) (.tmp 61) 22 rfl Try.underlying22 v58 ((out.take k) ++ [x]) (out.drop k) rfl ?ho _ rfl ?hsrc ?hbs ?hlt ?_
        case hsrc => first | exact HS2.out.below hb58 | exact HS3.out.below hb58
        case hlt => (have := HKI.out; simp only [List.length_nil, List.length_append, List.length_take, List.length_drop, List.length_cons]; omega)
        case ho => exact hO58
        case hbs => exact Nat.le_trans HBX.out.size hb58.size
        intro v62 w62 hp hf hat
        have hb62 : Below wx.heap.size wx w62 := hf.below hb58 (fun j hj => hf58 j hj)
        have HB62 := Aside0.mk hb62
        have HO62 := Aside0.mk hp
        clear hp hf hat
        refine hK.out _ _ (lift10 hb62 x0 x1 x2 x3 x4 x5 x6 x7 x8 x9) (fun hHeld => ?_)
        clear hK K
        refine norm_ (a' := ?_) ?_ ?_
        rotate_left
        ·show Act.put _ (some 62) _ = _
         simp only [Act.put, ta, tb, tc, i64_w, i32_w]
         rfl
        refine pure_ (i := 15) (N := some 3) (v := ?_) (a' := ?_) #[true, true, true, true, true, true, true, true, true, true, true, true, true, true, true, true] rfl rfl (any_of HT_.out (by kernel_rfl)) (fun _ _ _ h => h) (Or.inl ⟨by rfl, ?_⟩) ?_ ?_
        rotate_left
        ·intro w'
         go_simp
         with_reducible rfl
        rotate_left
        ·simp only [Act.put, ta, tb, tc, i64_w, i32_w]
         rfl
        refine done_ (done_of HT_.out (by kernel_rfl)) ?_
        have HFO : Aside0 (Fo (l.take (i + 1)) (out.take k ++ [x] ++ out.drop k)) := ⟨by
         have h1 := List.getElem?_eq_some_iff.1 HXE.out
         obtain ⟨h2, h3⟩ := h1
         rw [List.take_succ_eq_append_getElem h2, h3]
         exact HI.out.fo.put HT.out (fun s hs => by rw [HY.out] at hs; injection hs with hs; rw [← hs]; exact ⟨HLT.out, HEQ.out⟩)⟩
        have HI2 : Aside0 (RsI w w62 l (i + 1) v62 (out.take k ++ [x] ++ out.drop k)) := ⟨HO62.out, HFO.out, fun s hs => by
         rcases List.mem_append.1 hs with hs | hs
         ·rcases List.mem_append.1 hs with hs | hs
          ·exact HI.out.rd s (List.mem_of_mem_take hs)
          ·rw [List.mem_singleton.1 hs]
           exact HRX.out
         ·exact HI.out.rd s (List.mem_of_mem_drop hs), HBX.out.trans (HB62.out.mono HBX.out.size), by have h := HI.out.ln; have h2 := HKI.out; simp only [List.length_append, List.length_take, List.length_drop, List.length_cons, List.length_nil]; omega⟩
        clear x0 x1 x2 x3 x4 x5 x6 x7 x8 x9
        have hw1 := iw (x := (i : Int) + 1) rfl HII.out
        have hw2 := w64 (x := (i : Int) + 1) rfl HII.out
        go_wp2
        clear hw1 hw2
        go_roundg (n - (i + 1))
        case measure => rw [HG.out]; have := HIN.out; omega
        case rel => exact ⟨i + 1, _, rfl, by simp, HIN.out, HI2⟩
     ·have hke : m = k := by omega
      subst hke
      have hkb : decide ((m : Int) < (m : Int)) = false := by simp
      have hkbn : decide (m < m) = false := by simp
      have hkb2 : ((m : Int) == (m : Int)) = true := by simp
      have hkb3 : (m == m) = true := by simp
      clear hkm hk
      go_upto_region 6 with fail
      refine gen_world (fun wx hwx => ?_)
      have HBO : Aside0 (Below wo.heap.size wo wx) := ⟨by rw [hwx]; first | exact HB.out | exact below_step HB.out (by repeat (first | exact Below.refl _ _ | apply pw_below_drewN | apply below_drew1))⟩
      have HBX : Aside0 (Below w.heap.size w wx) := ⟨HI.out.bel.trans (HBO.out.mono HI.out.bel.size)⟩
      clear hwx
      have HBK : Aside0 (Below wo.heap.size wo wx.drew) := ⟨below_drew1 HBO.out⟩
      clear HBO HBX
      refine start_ (n := 17) (S := fun w' => True) (ds := []) #[false, false, false, false, false, false, false, false, false, false, false, false, false, false, false, false, false] (by kernel_rfl) rfl rfl trivial (fun hHeld => ?_)
      refine with_tabW rsort_calls.tab6 rsort_calls.bits6 (fun HT_ HW_ => ?_)
      refine pure_ (i := 0) (N := some 12) (v := ?_) (a' := ?_) #[true, false, false, false, false, false, false, false, false, false, false, false, false, false, false, false, false] rfl rfl (any_of HT_.out (by kernel_rfl)) (fun _ _ _ h => h) (Or.inl ⟨by rfl, ?_⟩) ?_ ?_
      rotate_left
      ·intro w'
       go_simp
       with_reducible rfl
      rotate_left
      ·simp only [Act.put, ta, tb, tc, i64_w, i32_w]
       rfl
      refine pure_ (i := 1) (N := some 13) (v := ?_) (a' := ?_) #[true, true, false, false, false, false, false, false, false, false, false, false, false, false, false, false, false] rfl rfl (any_of HT_.out (by kernel_rfl)) (fun _ _ _ h => h) (Or.inl ⟨by rfl, ?_⟩) ?_ ?_
      rotate_left
      ·intro w'
       go_simp
       with_reducible rfl
      rotate_left
      ·simp only [Act.put, ta, tb, tc, i64_w, i32_w]
       rfl
      refine pure_ (i := 2) (N := some 14) (v := ?_) (a' := ?_) #[true, true, true, false, false, false, false, false, false, false, false, false, false, false, false, false, false] rfl rfl (any_of HT_.out (by kernel_rfl)) (fun _ _ _ h => h) (Or.inl ⟨by rfl, ?_⟩) ?_ ?_
      rotate_left
      ·intro w'
       go_simp
       with_reducible rfl
      rotate_left
      ·simp only [Act.put, ta, tb, tc, i64_w, i32_w]
       rfl
      refine pure_ (i := 3) (N := some 15) (v := ?_) (a' := ?_) #[true, true, true, true, false, false, false, false, false, false, false, false, false, false, false, false, false] rfl rfl (any_of HT_.out (by kernel_rfl)) (fun _ _ _ h => h) (Or.inl ⟨by rfl, ?_⟩) ?_ ?_
      rotate_left
      ·intro w'
       go_simp
       with_reducible rfl
      rotate_left
      ·simp only [Act.put, ta, tb, tc, i64_w, i32_w]
       rfl
      refine pure_ (i := 4) (N := some 16) (v := ?_) (a' := ?_) #[true, true, true, true, true, false, false, false, false, false, false, false, false, false, false, false, false] rfl rfl (any_of HT_.out (by kernel_rfl)) (fun _ _ _ h => h) (Or.inl ⟨by rfl, ?_⟩) ?_ ?_
      rotate_left
      ·intro w'
       go_simp
       with_reducible rfl
      rotate_left
      ·simp only [Act.put, ta, tb, tc, i64_w, i32_w]
       rfl
      refine pure_ (i := 5) (N := some 17) (v := undef) (a' := ?_) #[true, true, true, true, true, true, false, false, false, false, false, false, false, false, false, false, false] rfl rfl (any_of HT_.out (by kernel_rfl)) (fun _ _ _ h => h) (Or.inr ⟨by rfl, rfl⟩) ?_ ?_
      rotate_left
      ·simp only [Act.put, ta, tb, tc, i64_w, i32_w]
       rfl
      refine pure_ (i := 6) (N := some 18) (v := undef) (a' := ?_) #[true, true, true, true, true, true, true, false, false, false, false, false, false, false, false, false, false] rfl rfl (any_of HT_.out (by kernel_rfl)) (fun _ _ _ h => h) (Or.inr ⟨by rfl, rfl⟩) ?_ ?_
      rotate_left
      ·simp only [Act.put, ta, tb, tc, i64_w, i32_w]
       rfl
      refine pure_ (i := 7) (N := some 19) (v := undef) (a' := ?_) #[true, true, true, true, true, true, true, true, false, false, false, false, false, false, false, false, false] rfl rfl (any_of HT_.out (by kernel_rfl)) (fun _ _ _ h => h) (Or.inr ⟨by rfl, rfl⟩) ?_ ?_
      rotate_left
      ·simp only [Act.put, ta, tb, tc, i64_w, i32_w]
       rfl
      refine pure_ (i := 8) (N := some 20) (v := undef) (a' := ?_) #[true, true, true, true, true, true, true, true, true, false, false, false, false, false, false, false, false] rfl rfl (any_of HT_.out (by kernel_rfl)) (fun _ _ _ h => h) (Or.inr ⟨by rfl, rfl⟩) ?_ ?_
      rotate_left
      ·simp only [Act.put, ta, tb, tc, i64_w, i32_w]
       rfl
      refine pure_ (i := 9) (N := some 21) (v := undef) (a' := ?_) #[true, true, true, true, true, true, true, true, true, true, false, false, false, false, false, false, false] rfl rfl (any_of HT_.out (by kernel_rfl)) (fun _ _ _ h => h) (Or.inr ⟨by rfl, rfl⟩) ?_ ?_
      rotate_left
      ·simp only [Act.put, ta, tb, tc, i64_w, i32_w]
       rfl
      refine pure_ (i := 10) (N := some 22) (v := undef) (a' := ?_) #[true, true, true, true, true, true, true, true, true, true, true, false, false, false, false, false, false] rfl rfl (any_of HT_.out (by kernel_rfl)) (fun _ _ _ h => h) (Or.inr ⟨by rfl, rfl⟩) ?_ ?_
      rotate_left
      ·simp only [Act.put, ta, tb, tc, i64_w, i32_w]
       rfl
      refine pure_ (i := 11) (N := some 23) (v := undef) (a' := ?_) #[true, true, true, true, true, true, true, true, true, true, true, true, false, false, false, false, false] rfl rfl (any_of HT_.out (by kernel_rfl)) (fun _ _ _ h => h) (Or.inr ⟨by rfl, rfl⟩) ?_ ?_
      rotate_left
      ·simp only [Act.put, ta, tb, tc, i64_w, i32_w]
       rfl
      refine pure_ (i := 12) (N := some 24) (v := undef) (a' := ?_) #[true, true, true, true, true, true, true, true, true, true, true, true, true, false, false, false, false] rfl rfl (any_of HT_.out (by kernel_rfl)) (fun _ _ _ h => h) (Or.inr ⟨by rfl, rfl⟩) ?_ ?_
      rotate_left
      ·simp only [Act.put, ta, tb, tc, i64_w, i32_w]
       rfl
      refine pure_ (i := 13) (N := some 25) (v := undef) (a' := ?_) #[true, true, true, true, true, true, true, true, true, true, true, true, true, true, false, false, false] rfl rfl (any_of HT_.out (by kernel_rfl)) (fun _ _ _ h => h) (Or.inr ⟨by rfl, rfl⟩) ?_ ?_
      rotate_left
      ·simp only [Act.put, ta, tb, tc, i64_w, i32_w]
       rfl
      refine pure_ (i := 14) (N := some 26) (v := undef) (a' := ?_) #[true, true, true, true, true, true, true, true, true, true, true, true, true, true, true, false, false] rfl rfl (any_of HT_.out (by kernel_rfl)) (fun _ _ _ h => h) (Or.inr ⟨by rfl, rfl⟩) ?_ ?_
      rotate_left
      ·simp only [Act.put, ta, tb, tc, i64_w, i32_w]
       rfl
      refine pure_ (i := 15) (N := some 27) (v := undef) (a' := ?_) #[true, true, true, true, true, true, true, true, true, true, true, true, true, true, true, true, false] rfl rfl (any_of HT_.out (by kernel_rfl)) (fun _ _ _ h => h) (Or.inr ⟨by rfl, rfl⟩) ?_ ?_
      rotate_left
      ·simp only [Act.put, ta, tb, tc, i64_w, i32_w]
       rfl
      refine pure_ (i := 16) (N := some 28) (v := ?_) (a' := ?_) #[true, true, true, true, true, true, true, true, true, true, true, true, true, true, true, true, true] rfl rfl (any_of HT_.out (by kernel_rfl)) (fun _ _ _ h => h) (Or.inl ⟨by rfl, ?_⟩) ?_ ?_
      rotate_left
      ·intro w'
       go_simp
       with_reducible rfl
      rotate_left
      ·simp only [Act.put, ta, tb, tc, i64_w, i32_w]
       rfl
      refine done_ (done_of HT_.out (by kernel_rfl)) ?_
      go_wp2
      go_upto_region 8 with fail
      refine gen_world (fun wx hwx => ?_)
      have HBO : Aside0 (Below wo.heap.size wo wx) := ⟨by rw [hwx]; first | exact HBK.out | exact below_step HBK.out (by repeat (first | exact Below.refl _ _ | apply pw_below_drewN | apply below_drew1))⟩
      have HBX : Aside0 (Below w.heap.size w wx) := ⟨HI.out.bel.trans (HBO.out.mono HI.out.bel.size)⟩
      clear hwx
      have HBK2 : Aside0 (Below wo.heap.size wo wx.drew) := ⟨below_drew1 HBO.out⟩
      clear HBO HBX
      refine start_ (n := 17) (S := fun w' => True) (ds := []) #[false, false, false, false, false, false, false, false, false, false, false, false, false, false, false, false, false] (by kernel_rfl) rfl rfl trivial (fun hHeld => ?_)
      refine with_tabW rsort_calls.tab8 rsort_calls.bits8 (fun HT_ HW_ => ?_)
      refine pure_ (i := 0) (N := some 31) (v := ?_) (a' := ?_) #[true, false, false, false, false, false, false, false, false, false, false, false, false, false, false, false, false] rfl rfl (any_of HT_.out (by kernel_rfl)) (fun _ _ _ h => h) (Or.inl ⟨by rfl, ?_⟩) ?_ ?_
      rotate_left
      ·intro w'
       go_simp
       with_reducible rfl
      rotate_left
      ·simp only [Act.put, ta, tb, tc, i64_w, i32_w]
       rfl
      refine pure_ (i := 1) (N := some 32) (v := ?_) (a' := ?_) #[true, true, false, false, false, false, false, false, false, false, false, false, false, false, false, false, false] rfl rfl (any_of HT_.out (by kernel_rfl)) (fun _ _ _ h => h) (Or.inl ⟨by rfl, ?_⟩) ?_ ?_
      rotate_left
      ·intro w'
       go_simp
       with_reducible rfl
      rotate_left
      ·simp only [Act.put, ta, tb, tc, i64_w, i32_w]
       rfl
      refine pure_ (i := 2) (N := some 33) (v := ?_) (a' := ?_) #[true, true, true, false, false, false, false, false, false, false, false, false, false, false, false, false, false] rfl rfl (any_of HT_.out (by kernel_rfl)) (fun _ _ _ h => h) (Or.inl ⟨by rfl, ?_⟩) ?_ ?_
      rotate_left
      ·intro w'
       go_simp
       with_reducible rfl
      rotate_left
      ·simp only [Act.put, ta, tb, tc, i64_w, i32_w]
       rfl
      refine pure_ (i := 3) (N := some 34) (v := ?_) (a' := ?_) #[true, true, true, true, false, false, false, false, false, false, false, false, false, false, false, false, false] rfl rfl (any_of HT_.out (by kernel_rfl)) (fun _ _ _ h => h) (Or.inl ⟨by rfl, ?_⟩) ?_ ?_
      rotate_left
      ·intro w'
       go_simp
       with_reducible rfl
      rotate_left
      ·simp only [Act.put, ta, tb, tc, i64_w, i32_w]
       rfl
      refine pure_ (i := 4) (N := some 35) (v := ?_) (a' := ?_) #[true, true, true, true, true, false, false, false, false, false, false, false, false, false, false, false, false] rfl rfl (any_of HT_.out (by kernel_rfl)) (fun _ _ _ h => h) (Or.inl ⟨by rfl, ?_⟩) ?_ ?_
      rotate_left
      ·intro w'
       go_simp
       with_reducible rfl
      rotate_left
      ·simp only [Act.put, ta, tb, tc, i64_w, i32_w]
       rfl
      refine pure_ (i := 5) (N := some 36) (v := undef) (a' := ?_) #[true, true, true, true, true, true, false, false, false, false, false, false, false, false, false, false, false] rfl rfl (any_of HT_.out (by kernel_rfl)) (fun _ _ _ h => h) (Or.inr ⟨by rfl, rfl⟩) ?_ ?_
      rotate_left
      ·simp only [Act.put, ta, tb, tc, i64_w, i32_w]
       rfl
      refine pure_ (i := 6) (N := some 37) (v := undef) (a' := ?_) #[true, true, true, true, true, true, true, false, false, false, false, false, false, false, false, false, false] rfl rfl (any_of HT_.out (by kernel_rfl)) (fun _ _ _ h => h) (Or.inr ⟨by rfl, rfl⟩) ?_ ?_
      rotate_left
      ·simp only [Act.put, ta, tb, tc, i64_w, i32_w]
       rfl
      refine pure_ (i := 7) (N := some 38) (v := undef) (a' := ?_) #[true, true, true, true, true, true, true, true, false, false, false, false, false, false, false, false, false] rfl rfl (any_of HT_.out (by kernel_rfl)) (fun _ _ _ h => h) (Or.inr ⟨by rfl, rfl⟩) ?_ ?_
      rotate_left
      ·simp only [Act.put, ta, tb, tc, i64_w, i32_w]
       rfl
      refine pure_ (i := 8) (N := some 39) (v := undef) (a' := ?_) #[true, true, true, true, true, true, true, true, true, false, false, false, false, false, false, false, false] rfl rfl (any_of HT_.out (by kernel_rfl)) (fun _ _ _ h => h) (Or.inr ⟨by rfl, rfl⟩) ?_ ?_
      rotate_left
      ·simp only [Act.put, ta, tb, tc, i64_w, i32_w]
       rfl
      refine pure_ (i := 9) (N := some 40) (v := undef) (a' := ?_) #[true, true, true, true, true, true, true, true, true, true, false, false, false, false, false, false, false] rfl rfl (any_of HT_.out (by kernel_rfl)) (fun _ _ _ h => h) (Or.inr ⟨by rfl, rfl⟩) ?_ ?_
      rotate_left
      ·simp only [Act.put, ta, tb, tc, i64_w, i32_w]
       rfl
      refine pure_ (i := 10) (N := some 41) (v := undef) (a' := ?_) #[true, true, true, true, true, true, true, true, true, true, true, false, false, false, false, false, false] rfl rfl (any_of HT_.out (by kernel_rfl)) (fun _ _ _ h => h) (Or.inr ⟨by rfl, rfl⟩) ?_ ?_
      rotate_left
      ·simp only [Act.put, ta, tb, tc, i64_w, i32_w]
       rfl
      refine pure_ (i := 11) (N := some 42) (v := undef) (a' := ?_) #[true, true, true, true, true, true, true, true, true, true, true, true, false, false, false, false, false] rfl rfl (any_of HT_.out (by kernel_rfl)) (fun _ _ _ h => h) (Or.inr ⟨by rfl, rfl⟩) ?_ ?_
      rotate_left
      ·simp only [Act.put, ta, tb, tc, i64_w, i32_w]
       rfl
      refine pure_ (i := 12) (N := some 43) (v := undef) (a' := ?_) #[true, true, true, true, true, true, true, true, true, true, true, true, true, false, false, false, false] rfl rfl (any_of HT_.out (by kernel_rfl)) (fun _ _ _ h => h) (Or.inr ⟨by rfl, rfl⟩) ?_ ?_
      rotate_left
      ·simp only [Act.put, ta, tb, tc, i64_w, i32_w]
       rfl
      refine pure_ (i := 13) (N := some 44) (v := undef) (a' := ?_) #[true, true, true, true, true, true, true, true, true, true, true, true, true, true, false, false, false] rfl rfl (any_of HT_.out (by kernel_rfl)) (fun _ _ _ h => h) (Or.inr ⟨by rfl, rfl⟩) ?_ ?_
      rotate_left
      ·simp only [Act.put, ta, tb, tc, i64_w, i32_w]
       rfl
      refine pure_ (i := 14) (N := some 45) (v := undef) (a' := ?_) #[true, true, true, true, true, true, true, true, true, true, true, true, true, true, true, false, false] rfl rfl (any_of HT_.out (by kernel_rfl)) (fun _ _ _ h => h) (Or.inr ⟨by rfl, rfl⟩) ?_ ?_
      rotate_left
      ·simp only [Act.put, ta, tb, tc, i64_w, i32_w]
       rfl
      refine pure_ (i := 15) (N := some 46) (v := undef) (a' := ?_) #[true, true, true, true, true, true, true, true, true, true, true, true, true, true, true, true, false] rfl rfl (any_of HT_.out (by kernel_rfl)) (fun _ _ _ h => h) (Or.inr ⟨by rfl, rfl⟩) ?_ ?_
      rotate_left
      ·simp only [Act.put, ta, tb, tc, i64_w, i32_w]
       rfl
      refine pure_ (i := 16) (N := some 47) (v := ?_) (a' := ?_) #[true, true, true, true, true, true, true, true, true, true, true, true, true, true, true, true, true] rfl rfl (any_of HT_.out (by kernel_rfl)) (fun _ _ _ h => h) (Or.inl ⟨by rfl, ?_⟩) ?_ ?_
      rotate_left
      ·intro w'
       go_simp
       with_reducible rfl
      rotate_left
      ·simp only [Act.put, ta, tb, tc, i64_w, i32_w]
       rfl
      refine done_ (done_of HT_.out (by kernel_rfl)) ?_
      go_wp2
      by_cases hkd : m = d
      ·subst hkd
       go_upto_region 9 with fail
       refine gen_world (fun wx hwx => ?_)
       have HBO : Aside0 (Below wo.heap.size wo wx) := ⟨by rw [hwx]; first | exact HBK2.out | exact below_step HBK2.out (by repeat (first | exact Below.refl _ _ | apply pw_below_drewN | apply below_drew1))⟩
       have HBX : Aside0 (Below w.heap.size w wx) := ⟨HI.out.bel.trans (HBO.out.mono HI.out.bel.size)⟩
       clear hwx
       have x0 := pw_cell_below HBX.out HX0.out
       have x1 := pw_cell_below HBX.out HX1.out
       have x2 := pw_cell_below HBX.out HX2.out
       have x3 := pw_cell_below HBX.out HX3.out
       have x4 := pw_cell_below HBX.out HX4.out
       have x5 := pw_cell_below HBX.out HX5.out
       have x6 := pw_cell_below HBX.out HX6.out
       have x7 := pw_cell_below HBX.out HX7.out
       have x8 := pw_cell_below HBX.out HX8.out
       have x9 := pw_cell_below HBX.out HX9.out
       have HKI : Aside0 (m ≤ out.length ∧ out.length = m ∧ out.length ≤ 60) := ⟨by have := HM.out; omega, HM.out, by have := HI.out.ln; have := HIN.out; have := HN60.out; omega⟩
       have hrow := HI.out.row.below HBO.out
       have HS1 : Aside0 (SrcE wx (.slice (some ⟨gr, 0, none⟩) m m) (out.take m)) := ⟨srcE_take hrow HM.out (by omega)⟩
       have HS2 : Aside0 (SrcE wx (.slice (some ⟨gr, 0, none⟩) 0 0) (out.drop m)) := ⟨.inr ⟨_, _, _, rfl, by rw [List.length_drop, HM.out, Nat.sub_self], fun j u hu => by rw [List.drop_of_length_le (by rw [HM.out]; exact Nat.le_refl _)] at hu; simp [flQ] at hu⟩⟩
       have q14 : (0 : Int) ≤ m := by omega
       clear hrow
       clear hkb hkb2 hkb3 hkbn
       refine start_ (n := 16) (S := fun w' => w'.cell? (ad.add (i * 10)) = some (.int .i64 x.e.f0) ∧ w'.cell? ⟨(ad.add (i * 10)).block, (ad.add (i * 10)).off + 1, none⟩ = some (.int .i64 x.e.f1.f0) ∧ w'.cell? ⟨(ad.add (i * 10)).block, (ad.add (i * 10)).off + 2, none⟩ = some (.int .i64 x.e.f1.f1) ∧ w'.cell? ⟨(ad.add (i * 10)).block, (ad.add (i * 10)).off + 3, none⟩ = some (.int .i64 x.e.f2.f0) ∧ w'.cell? ⟨(ad.add (i * 10)).block, (ad.add (i * 10)).off + 4, none⟩ = some (.int .i64 x.e.f2.f1) ∧ w'.cell? ⟨(ad.add (i * 10)).block, (ad.add (i * 10)).off + 5, none⟩ = some (.int .i64 x.e.f3.f0) ∧ w'.cell? ⟨(ad.add (i * 10)).block, (ad.add (i * 10)).off + 6, none⟩ = some (.int .i64 x.e.f3.f1) ∧ w'.cell? ⟨(ad.add (i * 10)).block, (ad.add (i * 10)).off + 7, none⟩ = some (.bool x.e.f4) ∧ w'.cell? ⟨(ad.add (i * 10)).block, (ad.add (i * 10)).off + 8, none⟩ = some (.string x.e.f5) ∧ w'.cell? ⟨(ad.add (i * 10)).block, (ad.add (i * 10)).off + 9, none⟩ = some (.slice x.A x.e.f6.length x.c)) (ds := []) #[false, false, false, false, false, false, false, false, false, false, false, false, false, false, false, false] (by kernel_rfl) rfl rfl ⟨x0, x1, x2, x3, x4, x5, x6, x7, x8, x9⟩ (fun hHeld => ?_)
       refine with_tabW rsort_calls.tab9 rsort_calls.bits9 (fun HT_ HW_ => ?_)
       refine pure_ (i := 1) (N := some 49) (v := ?_) (a' := ?_) #[false, true, false, false, false, false, false, false, false, false, false, false, false, false, false, false] rfl rfl (any_of HT_.out (by kernel_rfl)) (fun _ _ _ h => h) (Or.inl ⟨by rfl, ?_⟩) ?_ ?_
       rotate_left
       ·intro w'
        go_simp
        with_reducible rfl
       rotate_left
       ·simp only [Act.put, ta, tb, tc, i64_w, i32_w]
        rfl
       refine pure_ (i := 2) (N := some 50) (v := ?_) (a' := ?_) #[false, true, true, false, false, false, false, false, false, false, false, false, false, false, false, false] rfl rfl (any_of HT_.out (by kernel_rfl)) (fun _ _ _ h => h) (Or.inl ⟨by rfl, ?_⟩) ?_ ?_
       rotate_left
       ·intro w'
        go_simp
        with_reducible rfl
       rotate_left
       ·simp only [Act.put, ta, tb, tc, i64_w, i32_w]
        rfl
       refine pure_ (i := 3) (N := some 51) (v := ?_) (a' := ?_) #[false, true, true, true, false, false, false, false, false, false, false, false, false, false, false, false] rfl rfl (any_of HT_.out (by kernel_rfl)) (fun _ _ _ h => h) (Or.inl ⟨by rfl, ?_⟩) ?_ ?_
       rotate_left
       ·intro w'
        go_simp
        with_reducible rfl
       rotate_left
       ·simp only [Act.put, ta, tb, tc, i64_w, i32_w]
        rfl
       refine pure_ (i := 5) (N := some 53) (v := ?_) (a' := ?_) #[false, true, true, true, false, true, false, false, false, false, false, false, false, false, false, false] rfl rfl (any_of HT_.out (by kernel_rfl)) (fun _ _ _ h => h) (Or.inl ⟨by rfl, ?_⟩) ?_ ?_
       rotate_left
       ·intro w'
        go_simp
        with_reducible rfl
       rotate_left
       ·simp only [Act.put, ta, tb, tc, i64_w, i32_w]
        rfl
       refine pure_ (i := 6) (N := some 54) (v := ?_) (a' := ?_) #[false, true, true, true, false, true, true, false, false, false, false, false, false, false, false, false] rfl rfl (any_of HT_.out (by kernel_rfl)) (fun _ _ _ h => h) (Or.inl ⟨by rfl, ?_⟩) ?_ ?_
       rotate_left
       ·intro w'
        go_simp
        with_reducible rfl
       rotate_left
       ·simp only [Act.put, ta, tb, tc, i64_w, i32_w]
        rfl
       refine pure_ (i := 7) (N := some 55) (v := ?_) (a' := ?_) #[false, true, true, true, false, true, true, true, false, false, false, false, false, false, false, false] rfl rfl (any_of HT_.out (by kernel_rfl)) (fun _ _ _ h => h) (Or.inl ⟨by rfl, ?_⟩) ?_ ?_
       rotate_left
       ·intro w'
        go_simp
        with_reducible rfl
       rotate_left
       ·simp only [Act.put, ta, tb, tc, i64_w, i32_w]
        rfl
       refine pure_ (i := 11) (N := some 59) (v := ?_) (a' := ?_) #[false, true, true, true, false, true, true, true, false, false, false, true, false, false, false, false] rfl rfl (any_of HT_.out (by kernel_rfl)) (fun _ _ _ h => h) (Or.inl ⟨by rfl, ?_⟩) ?_ ?_
       rotate_left
       ·intro w'
        go_simp
        with_reducible rfl
       rotate_left
       ·simp only [Act.put, ta, tb, tc, i64_w, i32_w]
        rfl
       refine pure_ (i := 12) (N := some 60) (v := ?_) (a' := ?_) #[false, true, true, true, false, true, true, true, false, false, false, true, true, false, false, false] rfl rfl (any_of HT_.out (by kernel_rfl)) (fun _ _ _ h => h) (Or.inl ⟨by rfl, ?_⟩) ?_ ?_
       rotate_left
       ·intro w'
        go_simp
        with_reducible rfl
       rotate_left
       ·simp only [Act.put, ta, tb, tc, i64_w, i32_w]
        rfl
       refine pure_ (i := 13) (N := some 61) (v := ?_) (a' := ?_) #[false, true, true, true, false, true, true, true, false, false, false, true, true, true, false, false] rfl rfl (any_of HT_.out (by kernel_rfl)) (fun _ _ _ h => h) (Or.inl ⟨by rfl, ?_⟩) ?_ ?_
       rotate_left
       ·intro w'
        go_simp
        with_reducible rfl
       rotate_left
       ·simp only [Act.put, ta, tb, tc, i64_w, i32_w]
        rfl
       refine take_ (i := 8) (N := some 56) (v := ?_) (a' := ?_) #[false, true, true, true, false, true, true, true, true, false, false, true, true, true, false, false] rfl rfl (take_ofW HT_.out HW_.out (by kernel_rfl)) (fun _ _ _ h => h) (Or.inl ⟨by rfl, ?_⟩) hHeld ?_ ?_
       rotate_left
       ·rintro w' ⟨s0, s1, s2, s3, s4, s5, s6, s7, s8, s9⟩
        go_simp
        with_reducible rfl
       rotate_left
       ·simp only [Act.put, ta, tb, tc, i64_w, i32_w]
        rfl
       refine join_ (σ := Nat × Value × Nat) 3 #[true, true, true, true, true, true, true, true, true, true, false, true, true, true, false, false] (fun s => [(48, .slice (some ⟨s.1, 0, none⟩) 0 0), (52, s.2.1), (57, .slice (some ⟨s.2.2, 0, none⟩) 1 1)]) (fun s w' => (QRow w' w.heap.size s.2.1 (out.take m) ∧ w'.heap[s.2.2]? = some (.cells #[.int .i64 x.e.f0, .int .i64 x.e.f1.f0, .int .i64 x.e.f1.f1, .int .i64 x.e.f2.f0, .int .i64 x.e.f2.f1, .int .i64 x.e.f3.f0, .int .i64 x.e.f3.f1, .bool x.e.f4, .string x.e.f5, .slice x.A x.e.f6.length x.c] 31 (0, 0)) ∧ Below wx.heap.size wx w' ∧ ∀ j, s.2.1.ownBlock = some j → wx.heap.size ≤ j) ∧ w'.cell? (ad.add (i * 10)) = some (.int .i64 x.e.f0) ∧ w'.cell? ⟨(ad.add (i * 10)).block, (ad.add (i * 10)).off + 1, none⟩ = some (.int .i64 x.e.f1.f0) ∧ w'.cell? ⟨(ad.add (i * 10)).block, (ad.add (i * 10)).off + 2, none⟩ = some (.int .i64 x.e.f1.f1) ∧ w'.cell? ⟨(ad.add (i * 10)).block, (ad.add (i * 10)).off + 3, none⟩ = some (.int .i64 x.e.f2.f0) ∧ w'.cell? ⟨(ad.add (i * 10)).block, (ad.add (i * 10)).off + 4, none⟩ = some (.int .i64 x.e.f2.f1) ∧ w'.cell? ⟨(ad.add (i * 10)).block, (ad.add (i * 10)).off + 5, none⟩ = some (.int .i64 x.e.f3.f0) ∧ w'.cell? ⟨(ad.add (i * 10)).block, (ad.add (i * 10)).off + 6, none⟩ = some (.int .i64 x.e.f3.f1) ∧ w'.cell? ⟨(ad.add (i * 10)).block, (ad.add (i * 10)).off + 7, none⟩ = some (.bool x.e.f4) ∧ w'.cell? ⟨(ad.add (i * 10)).block, (ad.add (i * 10)).off + 8, none⟩ = some (.string x.e.f5) ∧ w'.cell? ⟨(ad.add (i * 10)).block, (ad.add (i * 10)).off + 9, none⟩ = some (.slice x.A x.e.f6.length x.c)) ?_ ?_
       rotate_left
       ·intro hCont
        refine two_ (i := 0) (j := 9) (Ni := some 48) (Nj := some 57) #[true, true, true, true, false, true, true, true, true, false, false, true, true, true, false, false] #[false, true, true, true, false, true, true, true, true, true, false, true, true, true, false, false] rfl rfl rfl rfl (two_of HT_.out (by kernel_rfl)) (by decide) (by decide) (fun K hK => ?_) (fun K hK => ?_)
        ·skip
         refine value_ (w1 := ?_) (v := ?_) (by rfl) rfl ?_ ?_
         rotate_left 2
         ·go_simp
          constructor
          ·rfl
          ·rfl
         refine hK.out _ _ (lift10 (by with_reducible repeat (first | exact Below.refl _ _ | apply below_alloc | apply pw_below_drewN | apply below_drew1)) x0 x1 x2 x3 x4 x5 x6 x7 x8 x9) (fun hHeld => ?_)
         clear hK K
         refine norm_ (a' := ?_) ?_ ?_
         rotate_left
         ·show Act.put _ (some 48) _ = _
          simp only [Act.put, ta, tb, tc, i64_w, i32_w]
          rfl
         refine two_ (i := 4) (j := 9) (Ni := some 52) (Nj := some 57) #[true, true, true, true, true, true, true, true, true, false, false, true, true, true, false, false] #[true, true, true, true, false, true, true, true, true, true, false, true, true, true, false, false] rfl rfl rfl rfl (two_of HT_.out (by kernel_rfl)) (by decide) (by decide) (fun K hK => ?_) (fun K hK => ?_)
         ·skip
          refine step_app_src w.heap.size rfl (.tmp 48) (.tmp 51) 22 rfl Try.underlying22 _ [] (out.take m) rfl ?ho _ rfl ?hsrc ?hbs ?hlt ?_
          case hsrc => exact HS1.out.below (show Below wx.heap.size wx _ from (by with_reducible repeat (first | exact Below.refl _ _ | apply below_alloc | apply pw_below_drewN | apply below_drew1)))
          case hlt => (have := HKI.out; simp only [List.length_nil, List.length_append, List.length_take, List.length_drop, List.length_cons]; omega)
          case ho => exact QRow.empty wx.drew w.heap.size HBX.out.size
          case hbs => exact Nat.le_trans HBX.out.size (show Below wx.heap.size wx _ from (by with_reducible repeat (first | exact Below.refl _ _ | apply below_alloc | apply pw_below_drewN | apply below_drew1))).size
          intro v52 w52 hp hf hat
          rw [List.nil_append] at hp
          have hb52 : Below wx.heap.size wx w52 := hf.below (by with_reducible repeat (first | exact Below.refl _ _ | apply below_alloc | apply pw_below_drewN | apply below_drew1)) (fun j hj => Nat.le_of_eq (Option.some.inj hj))
          have hf52 : ∀ j, v52.ownBlock = some j → wx.heap.size ≤ j := fun j hj => (hat_orR hat j hj).elim (fun hj => Nat.le_of_eq (Option.some.inj hj)) (fun h => Nat.le_trans (show Below wx.heap.size wx _ from (by with_reducible repeat (first | exact Below.refl _ _ | apply below_alloc | apply pw_below_drewN | apply below_drew1))).size h)
          refine hK.out _ _ (lift10 hb52 x0 x1 x2 x3 x4 x5 x6 x7 x8 x9) (fun hHeld => ?_)
          clear hK K
          refine norm_ (a' := ?_) ?_ ?_
          rotate_left
          ·show Act.put _ (some 52) _ = _
           simp only [Act.put, ta, tb, tc, i64_w, i32_w]
           rfl
          refine one_ (i := 9) (N := some 57) #[true, true, true, true, true, true, true, true, true, true, false, true, true, true, false, false] rfl rfl (one_of HT_.out (by kernel_rfl)) (by decide) (fun K hK => ?_)
          refine value_ (w1 := ?_) (v := ?_) (by rfl) rfl ?_ ?_
          rotate_left 2
          ·go_simp
           constructor
           ·rfl
           ·rfl
          refine hK.out _ _ (lift10 (by with_reducible repeat (first | exact hb52 | apply below_alloc | apply pw_below_drewN | apply below_drew1)) x0 x1 x2 x3 x4 x5 x6 x7 x8 x9) (fun hHeld => ?_)
          clear hK K
          refine norm_ (a' := ?_) ?_ ?_
          rotate_left
          ·show Act.put _ (some 57) _ = _
           simp only [Act.put, ta, tb, tc, i64_w, i32_w]
           rfl
          exact norm_ (by simp only [putAll, Act.put, List.setIfInBounds_toArray, List.set_cons_zero, List.set_cons_succ]) (hCont (wx.heap.size, v52, w52.heap.size) _ ⟨⟨hp.below (below_alloc (Below.refl _ _) _), blk_new w52 _, below_alloc hb52 _, hf52⟩, pw_cell_below (by with_reducible repeat (first | exact hb52 | apply below_alloc | apply pw_below_drewN | apply below_drew1)) x0, pw_cell_below (by with_reducible repeat (first | exact hb52 | apply below_alloc | apply pw_below_drewN | apply below_drew1)) x1, pw_cell_below (by with_reducible repeat (first | exact hb52 | apply below_alloc | apply pw_below_drewN | apply below_drew1)) x2, pw_cell_below (by with_reducible repeat (first | exact hb52 | apply below_alloc | apply pw_below_drewN | apply below_drew1)) x3, pw_cell_below (by with_reducible repeat (first | exact hb52 | apply below_alloc | apply pw_below_drewN | apply below_drew1)) x4, pw_cell_below (by with_reducible repeat (first | exact hb52 | apply below_alloc | apply pw_below_drewN | apply below_drew1)) x5, pw_cell_below (by with_reducible repeat (first | exact hb52 | apply below_alloc | apply pw_below_drewN | apply below_drew1)) x6, pw_cell_below (by with_reducible repeat (first | exact hb52 | apply below_alloc | apply pw_below_drewN | apply below_drew1)) x7, pw_cell_below (by with_reducible repeat (first | exact hb52 | apply below_alloc | apply pw_below_drewN | apply below_drew1)) x8, pw_cell_below (by with_reducible repeat (first | exact hb52 | apply below_alloc | apply pw_below_drewN | apply below_drew1)) x9⟩)
         ·skip
          refine value_ (w1 := ?_) (v := ?_) (by rfl) rfl ?_ ?_
          rotate_left 2
          ·go_simp
           constructor
           ·rfl
           ·rfl
          refine hK.out _ _ (lift10 (by with_reducible repeat (first | exact Below.refl _ _ | apply below_alloc | apply pw_below_drewN | apply below_drew1)) x0 x1 x2 x3 x4 x5 x6 x7 x8 x9) (fun hHeld => ?_)
          clear hK K
          refine norm_ (a' := ?_) ?_ ?_
          rotate_left
          ·show Act.put _ (some 57) _ = _
           simp only [Act.put, ta, tb, tc, i64_w, i32_w]
           rfl
          refine one_ (i := 4) (N := some 52) #[true, true, true, true, true, true, true, true, true, true, false, true, true, true, false, false] rfl rfl (one_of HT_.out (by kernel_rfl)) (by decide) (fun K hK => ?_)
          refine step_app_src w.heap.size rfl (.tmp 48) (.tmp 51) 22 rfl Try.underlying22 _ [] (out.take m) rfl ?ho _ rfl ?hsrc ?hbs ?hlt ?_
          case hsrc => exact HS1.out.below (show Below wx.heap.size wx _ from (by with_reducible repeat (first | exact Below.refl _ _ | apply below_alloc | apply pw_below_drewN | apply below_drew1)))
          case hlt => (have := HKI.out; simp only [List.length_nil, List.length_append, List.length_take, List.length_drop, List.length_cons]; omega)
          case ho => exact (QRow.empty wx.drew w.heap.size HBX.out.size).below (below_alloc (Below.refl _ _) _)
          case hbs => exact Nat.le_trans HBX.out.size (show Below wx.heap.size wx _ from (by with_reducible repeat (first | exact Below.refl _ _ | apply below_alloc | apply pw_below_drewN | apply below_drew1))).size
          intro v52 w52 hp hf hat
          rw [List.nil_append] at hp
          have hb52 : Below wx.heap.size wx w52 := hf.below (by with_reducible repeat (first | exact Below.refl _ _ | apply below_alloc | apply pw_below_drewN | apply below_drew1)) (fun j hj => Nat.le_of_eq (Option.some.inj hj))
          have hf52 : ∀ j, v52.ownBlock = some j → wx.heap.size ≤ j := fun j hj => (hat_orR hat j hj).elim (fun hj => Nat.le_of_eq (Option.some.inj hj)) (fun h => Nat.le_trans (show Below wx.heap.size wx _ from (by with_reducible repeat (first | exact Below.refl _ _ | apply below_alloc | apply pw_below_drewN | apply below_drew1))).size h)
          have hx52 := hf.blk (heap_alloc_new (wx.drew.alloc (.cells #[] 31)) (.cells #[.int .i64 x.e.f0, .int .i64 x.e.f1.f0, .int .i64 x.e.f1.f1, .int .i64 x.e.f2.f0, .int .i64 x.e.f2.f1, .int .i64 x.e.f3.f0, .int .i64 x.e.f3.f1, .bool x.e.f4, .string x.e.f5, .slice x.A x.e.f6.length x.c] 31 (0, 0))) (fun hj => by have h := Option.some.inj hj; simp at h)
          refine hK.out _ _ (lift10 hb52 x0 x1 x2 x3 x4 x5 x6 x7 x8 x9) (fun hHeld => ?_)
          clear hK K
          refine norm_ (a' := ?_) ?_ ?_
          rotate_left
          ·show Act.put _ (some 52) _ = _
           simp only [Act.put, ta, tb, tc, i64_w, i32_w]
           rfl
          exact norm_ (by simp only [putAll, Act.put, List.setIfInBounds_toArray, List.set_cons_zero, List.set_cons_succ]) (hCont (wx.heap.size, v52, (wx.heap.size + 1)) _ ⟨⟨hp, by simpa using hx52, hb52, hf52⟩, pw_cell_below hb52 x0, pw_cell_below hb52 x1, pw_cell_below hb52 x2, pw_cell_below hb52 x3, pw_cell_below hb52 x4, pw_cell_below hb52 x5, pw_cell_below hb52 x6, pw_cell_below hb52 x7, pw_cell_below hb52 x8, pw_cell_below hb52 x9⟩)
        ·skip
         refine value_ (w1 := ?_) (v := ?_) (by rfl) rfl ?_ ?_
         rotate_left 2
         ·go_simp
          constructor
          ·rfl
          ·rfl
         refine hK.out _ _ (lift10 (by with_reducible repeat (first | exact Below.refl _ _ | apply below_alloc | apply pw_below_drewN | apply below_drew1)) x0 x1 x2 x3 x4 x5 x6 x7 x8 x9) (fun hHeld => ?_)
         clear hK K
         refine norm_ (a' := ?_) ?_ ?_
         rotate_left
         ·show Act.put _ (some 57) _ = _
          simp only [Act.put, ta, tb, tc, i64_w, i32_w]
          rfl
         refine one_ (i := 0) (N := some 48) #[true, true, true, true, false, true, true, true, true, true, false, true, true, true, false, false] rfl rfl (one_of HT_.out (by kernel_rfl)) (by decide) (fun K hK => ?_)
         refine value_ (w1 := ?_) (v := ?_) (by rfl) rfl ?_ ?_
         rotate_left 2
         ·go_simp
          constructor
          ·rfl
          ·rfl
         refine hK.out _ _ (lift10 (by with_reducible repeat (first | exact Below.refl _ _ | apply below_alloc | apply pw_below_drewN | apply below_drew1)) x0 x1 x2 x3 x4 x5 x6 x7 x8 x9) (fun hHeld => ?_)
         clear hK K
         refine norm_ (a' := ?_) ?_ ?_
         rotate_left
         ·show Act.put _ (some 48) _ = _
          simp only [Act.put, ta, tb, tc, i64_w, i32_w]
          rfl
         refine one_ (i := 4) (N := some 52) #[true, true, true, true, true, true, true, true, true, true, false, true, true, true, false, false] rfl rfl (one_of HT_.out (by kernel_rfl)) (by decide) (fun K hK => ?_)
         refine step_app_src w.heap.size rfl (.tmp 48) (.tmp 51) 22 rfl Try.underlying22 _ [] (out.take m) rfl ?ho _ rfl ?hsrc ?hbs ?hlt ?_
         case hsrc => exact HS1.out.below (show Below wx.heap.size wx _ from (by with_reducible repeat (first | exact Below.refl _ _ | apply below_alloc | apply pw_below_drewN | apply below_drew1)))
         case hlt => (have := HKI.out; simp only [List.length_nil, List.length_append, List.length_take, List.length_drop, List.length_cons]; omega)
         case ho => exact (QRow.empty2 wx (.cells #[.int .i64 x.e.f0, .int .i64 x.e.f1.f0, .int .i64 x.e.f1.f1, .int .i64 x.e.f2.f0, .int .i64 x.e.f2.f1, .int .i64 x.e.f3.f0, .int .i64 x.e.f3.f1, .bool x.e.f4, .string x.e.f5, .slice x.A x.e.f6.length x.c] 31) w.heap.size HBX.out.size).below (below_drew1 (Below.refl _ _))
         case hbs => exact Nat.le_trans HBX.out.size (show Below wx.heap.size wx _ from (by with_reducible repeat (first | exact Below.refl _ _ | apply below_alloc | apply pw_below_drewN | apply below_drew1))).size
         intro v52 w52 hp hf hat
         rw [List.nil_append] at hp
         have hb52 : Below wx.heap.size wx w52 := hf.below (by with_reducible repeat (first | exact Below.refl _ _ | apply below_alloc | apply pw_below_drewN | apply below_drew1)) (fun j hj => (by have h := Option.some.inj hj; simp at h; omega))
         have hf52 : ∀ j, v52.ownBlock = some j → wx.heap.size ≤ j := fun j hj => (hat_orR hat j hj).elim (fun hj => (by have h := Option.some.inj hj; simp at h; omega)) (fun h => Nat.le_trans (show Below wx.heap.size wx _ from (by with_reducible repeat (first | exact Below.refl _ _ | apply below_alloc | apply pw_below_drewN | apply below_drew1))).size h)
         have hx52 := hf.blk (blk_alloc (blk_new wx.drew (.cells #[.int .i64 x.e.f0, .int .i64 x.e.f1.f0, .int .i64 x.e.f1.f1, .int .i64 x.e.f2.f0, .int .i64 x.e.f2.f1, .int .i64 x.e.f3.f0, .int .i64 x.e.f3.f1, .bool x.e.f4, .string x.e.f5, .slice x.A x.e.f6.length x.c] 31 (0, 0))) (.cells #[] 31 (0, 0))) (fun hj => by have h := Option.some.inj hj; simp at h)
         refine hK.out _ _ (lift10 hb52 x0 x1 x2 x3 x4 x5 x6 x7 x8 x9) (fun hHeld => ?_)
         clear hK K
         refine norm_ (a' := ?_) ?_ ?_
         rotate_left
         ·show Act.put _ (some 52) _ = _
          simp only [Act.put, ta, tb, tc, i64_w, i32_w]
          rfl
         exact norm_ (by simp only [putAll, Act.put, List.setIfInBounds_toArray, List.set_cons_zero, List.set_cons_succ]) (hCont ((wx.heap.size + 1), v52, wx.heap.size) _ ⟨⟨hp, by simpa using hx52, hb52, hf52⟩, pw_cell_below hb52 x0, pw_cell_below hb52 x1, pw_cell_below hb52 x2, pw_cell_below hb52 x3, pw_cell_below hb52 x4, pw_cell_below hb52 x5, pw_cell_below hb52 x6, pw_cell_below hb52 x7, pw_cell_below hb52 x8, pw_cell_below hb52 x9⟩)
       rintro ⟨a48, v52, b57⟩ w57 ⟨⟨hO52, hx57, hb57, hf57⟩, hHeld⟩
       change QRow w57 w.heap.size v52 _ at hO52
       change w57.heap[b57]? = _ at hx57
       change ∀ j, v52.ownBlock = some j → _ at hf57
       refine norm_ (a' := ?_) ?_ ?_
       rotate_left
       ·simp only [putAll, Act.put, List.setIfInBounds_toArray, List.set_cons_zero, List.set_cons_succ]
        rfl
       refine one_ (i := 10) (N := some 58) #[true, true, true, true, true, true, true, true, true, true, true, true, true, true, false, false] rfl rfl (one_of HT_.out (by kernel_rfl)) (by decide) (fun K hK => ?_)
       refine step_app_src w.heap.size rfl (.tmp 52) (.tmp 57) 22 rfl Try.underlying22 v52 (out.take m) [x] rfl ?ho _ rfl ?hsrc ?hbs ?hlt ?_
       case hsrc => exact .inr ⟨_, 1, _, rfl, rfl, fun j u hu => World.news_of_block hx57 j u (by simpa [flQ, qC] using hu)⟩
       case hlt => (have := HKI.out; simp only [List.length_nil, List.length_append, List.length_take, List.length_drop, List.length_cons]; omega)
       case ho => exact hO52
       case hbs => exact Nat.le_trans HBX.out.size hb57.size
       intro v58 w58 hp hf hat
       have hb58 : Below wx.heap.size wx w58 := hf.below hb57 (fun j hj => hf57 j hj)
       have hf58 : ∀ j, v58.ownBlock = some j → wx.heap.size ≤ j := fun j hj => (hat_orR hat j hj).elim (fun h => hf57 j h) (fun h => Nat.le_trans hb57.size h)
       have hO58 := hp
       clear hp hf hat
       refine hK.out _ _ (lift10 hb58 x0 x1 x2 x3 x4 x5 x6 x7 x8 x9) (fun hHeld => ?_)
       clear hK K
       refine norm_ (a' := ?_) ?_ ?_
       rotate_left
       ·show Act.put _ (some 58) _ = _
        simp only [Act.put, ta, tb, tc, i64_w, i32_w]
        rfl
       refine one_ (i := 14) (N := some 62) #[true, true, true, true, true, true, true, true, true, true, true, true, true, true, true, false] rfl rfl (one_of HT_.out (by kernel_rfl)) (by decide) (fun K hK => ?_)
       refine step_app_src w.heap.size rfl (.tmp 58) (.tmp 61) 22 rfl Try.underlying22 v58 ((out.take m) ++ [x]) (out.drop m) rfl ?ho _ rfl ?hsrc ?hbs ?hlt ?_
       case hsrc => first | exact HS2.out.below hb58 | exact HS3.out.below hb58
       case hlt => (have := HKI.out; simp only [List.length_nil, List.length_append, List.length_take, List.length_drop, List.length_cons]; omega)
       case ho => exact hO58
       case hbs => exact Nat.le_trans HBX.out.size hb58.size
       intro v62 w62 hp hf hat
       have hb62 : Below wx.heap.size wx w62 := hf.below hb58 (fun j hj => hf58 j hj)
       have HB62 := Aside0.mk hb62
       have HO62 := Aside0.mk hp
       clear hp hf hat
       refine hK.out _ _ (lift10 hb62 x0 x1 x2 x3 x4 x5 x6 x7 x8 x9) (fun hHeld => ?_)
       clear hK K
       refine norm_ (a' := ?_) ?_ ?_
       rotate_left
       ·show Act.put _ (some 62) _ = _
        simp only [Act.put, ta, tb, tc, i64_w, i32_w]
        rfl
       refine pure_ (i := 15) (N := some 3) (v := ?_) (a' := ?_) #[true, true, true, true, true, true, true, true, true, true, true, true, true, true, true, true] rfl rfl (any_of HT_.out (by kernel_rfl)) (fun _ _ _ h => h) (Or.inl ⟨by rfl, ?_⟩) ?_ ?_
       rotate_left
       ·intro w'
        go_simp
        with_reducible rfl
       rotate_left
       ·simp only [Act.put, ta, tb, tc, i64_w, i32_w]
        rfl
       refine done_ (done_of HT_.out (by kernel_rfl)) ?_
       have HFO : Aside0 (Fo (l.take (i + 1)) (out.take m ++ [x] ++ out.drop m)) := ⟨by
        have h1 := List.getElem?_eq_some_iff.1 HXE.out
        obtain ⟨h2, h3⟩ := h1
        rw [List.take_succ_eq_append_getElem h2, h3]
        exact HI.out.fo.put HT.out (fun s hs => by have h1 := (List.getElem?_eq_some_iff.1 hs).1; have h2 := HM.out; omega)⟩
       have HI2 : Aside0 (RsI w w62 l (i + 1) v62 (out.take m ++ [x] ++ out.drop m)) := ⟨HO62.out, HFO.out, fun s hs => by
        rcases List.mem_append.1 hs with hs | hs
        ·rcases List.mem_append.1 hs with hs | hs
         ·exact HI.out.rd s (List.mem_of_mem_take hs)
         ·rw [List.mem_singleton.1 hs]
          exact HRX.out
        ·exact HI.out.rd s (List.mem_of_mem_drop hs), HBX.out.trans (HB62.out.mono HBX.out.size), by have h := HI.out.ln; have h2 := HKI.out; simp only [List.length_append, List.length_take, List.length_drop, List.length_cons, List.length_nil]; omega⟩
       clear x0 x1 x2 x3 x4 x5 x6 x7 x8 x9
       have hw1 := iw (x := (i : Int) + 1) rfl HII.out
       have hw2 := w64 (x := (i : Int) + 1) rfl HII.out
       go_wp2
       clear hw1 hw2
       go_roundg (n - (i + 1))
       case measure => rw [HG.out]; have := HIN.out; omega
       case rel => exact ⟨i + 1, _, rfl, by simp, HIN.out, HI2⟩
      ·skip
       go_upto_region 9 with fail
       refine gen_world (fun wx hwx => ?_)
       have HBO : Aside0 (Below wo.heap.size wo wx) := ⟨by rw [hwx]; first | exact HBK2.out | exact below_step HBK2.out (by repeat (first | exact Below.refl _ _ | apply pw_below_drewN | apply below_drew1))⟩
       have HBX : Aside0 (Below w.heap.size w wx) := ⟨HI.out.bel.trans (HBO.out.mono HI.out.bel.size)⟩
       clear hwx
       have x0 := pw_cell_below HBX.out HX0.out
       have x1 := pw_cell_below HBX.out HX1.out
       have x2 := pw_cell_below HBX.out HX2.out
       have x3 := pw_cell_below HBX.out HX3.out
       have x4 := pw_cell_below HBX.out HX4.out
       have x5 := pw_cell_below HBX.out HX5.out
       have x6 := pw_cell_below HBX.out HX6.out
       have x7 := pw_cell_below HBX.out HX7.out
       have x8 := pw_cell_below HBX.out HX8.out
       have x9 := pw_cell_below HBX.out HX9.out
       have HKI : Aside0 (m ≤ out.length ∧ out.length = m ∧ out.length ≤ 60) := ⟨by have := HM.out; omega, HM.out, by have := HI.out.ln; have := HIN.out; have := HN60.out; omega⟩
       have hrow := HI.out.row.below HBO.out
       have HS1 : Aside0 (SrcE wx (.slice (some ⟨gr, 0, none⟩) m d) (out.take m)) := ⟨srcE_take hrow HM.out (by omega)⟩
       have HS2 : Aside0 (SrcE wx (.slice (some ⟨gr, m * 10, none⟩) (m - m) (d - m)) (out.drop m)) := ⟨srcE_drop hrow HM.out (by omega)⟩
       have q9 : m ≤ d := by omega
       have q10 : (m : Int) ≤ d := by omega
       have q11 : ¬ d = m := by omega
       have q12 : (m : Int) < d := by omega
       have q13 : (m : Int) ≤ m := by omega
       have q14 : (0 : Int) ≤ m := by omega
       clear hrow
       have HS3 : Aside0 (SrcE wx (.slice (some ⟨gr, m * 10, none⟩) 0 (d - m)) (out.drop m)) := ⟨.inr ⟨_, _, _, rfl, by rw [List.length_drop, HM.out, Nat.sub_self], fun j u hu => by rw [List.drop_of_length_le (by rw [HM.out]; exact Nat.le_refl _)] at hu; simp [flQ] at hu⟩⟩
       clear hkb hkb2 hkb3 hkbn
       refine start_ (n := 16) (S := fun w' => w'.cell? (ad.add (i * 10)) = some (.int .i64 x.e.f0) ∧ w'.cell? ⟨(ad.add (i * 10)).block, (ad.add (i * 10)).off + 1, none⟩ = some (.int .i64 x.e.f1.f0) ∧ w'.cell? ⟨(ad.add (i * 10)).block, (ad.add (i * 10)).off + 2, none⟩ = some (.int .i64 x.e.f1.f1) ∧ w'.cell? ⟨(ad.add (i * 10)).block, (ad.add (i * 10)).off + 3, none⟩ = some (.int .i64 x.e.f2.f0) ∧ w'.cell? ⟨(ad.add (i * 10)).block, (ad.add (i * 10)).off + 4, none⟩ = some (.int .i64 x.e.f2.f1) ∧ w'.cell? ⟨(ad.add (i * 10)).block, (ad.add (i * 10)).off + 5, none⟩ = some (.int .i64 x.e.f3.f0) ∧ w'.cell? ⟨(ad.add (i * 10)).block, (ad.add (i * 10)).off + 6, none⟩ = some (.int .i64 x.e.f3.f1) ∧ w'.cell? ⟨(ad.add (i * 10)).block, (ad.add (i * 10)).off + 7, none⟩ = some (.bool x.e.f4) ∧ w'.cell? ⟨(ad.add (i * 10)).block, (ad.add (i * 10)).off + 8, none⟩ = some (.string x.e.f5) ∧ w'.cell? ⟨(ad.add (i * 10)).block, (ad.add (i * 10)).off + 9, none⟩ = some (.slice x.A x.e.f6.length x.c)) (ds := []) #[false, false, false, false, false, false, false, false, false, false, false, false, false, false, false, false] (by kernel_rfl) rfl rfl ⟨x0, x1, x2, x3, x4, x5, x6, x7, x8, x9⟩ (fun hHeld => ?_)
       refine with_tabW rsort_calls.tab9 rsort_calls.bits9 (fun HT_ HW_ => ?_)
       refine pure_ (i := 1) (N := some 49) (v := ?_) (a' := ?_) #[false, true, false, false, false, false, false, false, false, false, false, false, false, false, false, false] rfl rfl (any_of HT_.out (by kernel_rfl)) (fun _ _ _ h => h) (Or.inl ⟨by rfl, ?_⟩) ?_ ?_
       rotate_left
       ·intro w'
        go_simp
        with_reducible rfl
       rotate_left
       ·simp only [Act.put, ta, tb, tc, i64_w, i32_w]
        rfl
       refine pure_ (i := 2) (N := some 50) (v := ?_) (a' := ?_) #[false, true, true, false, false, false, false, false, false, false, false, false, false, false, false, false] rfl rfl (any_of HT_.out (by kernel_rfl)) (fun _ _ _ h => h) (Or.inl ⟨by rfl, ?_⟩) ?_ ?_
       rotate_left
       ·intro w'
        go_simp
        with_reducible rfl
       rotate_left
       ·simp only [Act.put, ta, tb, tc, i64_w, i32_w]
        rfl
       refine pure_ (i := 3) (N := some 51) (v := ?_) (a' := ?_) #[false, true, true, true, false, false, false, false, false, false, false, false, false, false, false, false] rfl rfl (any_of HT_.out (by kernel_rfl)) (fun _ _ _ h => h) (Or.inl ⟨by rfl, ?_⟩) ?_ ?_
       rotate_left
       ·intro w'
        go_simp
        with_reducible rfl
       rotate_left
       ·simp only [Act.put, ta, tb, tc, i64_w, i32_w]
        rfl
       refine pure_ (i := 5) (N := some 53) (v := ?_) (a' := ?_) #[false, true, true, true, false, true, false, false, false, false, false, false, false, false, false, false] rfl rfl (any_of HT_.out (by kernel_rfl)) (fun _ _ _ h => h) (Or.inl ⟨by rfl, ?_⟩) ?_ ?_
       rotate_left
       ·intro w'
        go_simp
        with_reducible rfl
       rotate_left
       ·simp only [Act.put, ta, tb, tc, i64_w, i32_w]
        rfl
       refine pure_ (i := 6) (N := some 54) (v := ?_) (a' := ?_) #[false, true, true, true, false, true, true, false, false, false, false, false, false, false, false, false] rfl rfl (any_of HT_.out (by kernel_rfl)) (fun _ _ _ h => h) (Or.inl ⟨by rfl, ?_⟩) ?_ ?_
       rotate_left
       ·intro w'
        go_simp
        with_reducible rfl
       rotate_left
       ·simp only [Act.put, ta, tb, tc, i64_w, i32_w]
        rfl
       refine pure_ (i := 7) (N := some 55) (v := ?_) (a' := ?_) #[false, true, true, true, false, true, true, true, false, false, false, false, false, false, false, false] rfl rfl (any_of HT_.out (by kernel_rfl)) (fun _ _ _ h => h) (Or.inl ⟨by rfl, ?_⟩) ?_ ?_
       rotate_left
       ·intro w'
        go_simp
        with_reducible rfl
       rotate_left
       ·simp only [Act.put, ta, tb, tc, i64_w, i32_w]
        rfl
       refine pure_ (i := 11) (N := some 59) (v := ?_) (a' := ?_) #[false, true, true, true, false, true, true, true, false, false, false, true, false, false, false, false] rfl rfl (any_of HT_.out (by kernel_rfl)) (fun _ _ _ h => h) (Or.inl ⟨by rfl, ?_⟩) ?_ ?_
       rotate_left
       ·intro w'
        go_simp
        with_reducible rfl
       rotate_left
       ·simp only [Act.put, ta, tb, tc, i64_w, i32_w]
        rfl
       refine pure_ (i := 12) (N := some 60) (v := ?_) (a' := ?_) #[false, true, true, true, false, true, true, true, false, false, false, true, true, false, false, false] rfl rfl (any_of HT_.out (by kernel_rfl)) (fun _ _ _ h => h) (Or.inl ⟨by rfl, ?_⟩) ?_ ?_
       rotate_left
       ·intro w'
        go_simp
        with_reducible rfl
       rotate_left
       ·simp only [Act.put, ta, tb, tc, i64_w, i32_w]
        rfl
       refine pure_ (i := 13) (N := some 61) (v := ?_) (a' := ?_) #[false, true, true, true, false, true, true, true, false, false, false, true, true, true, false, false] rfl rfl (any_of HT_.out (by kernel_rfl)) (fun _ _ _ h => h) (Or.inl ⟨by rfl, ?_⟩) ?_ ?_
       rotate_left
       ·intro w'
        go_simp
        with_reducible rfl
       rotate_left
       ·simp only [Act.put, ta, tb, tc, i64_w, i32_w]
        rfl
       refine take_ (i := 8) (N := some 56) (v := ?_) (a' := ?_) #[false, true, true, true, false, true, true, true, true, false, false, true, true, true, false, false] rfl rfl (take_ofW HT_.out HW_.out (by kernel_rfl)) (fun _ _ _ h => h) (Or.inl ⟨by rfl, ?_⟩) hHeld ?_ ?_
       rotate_left
       ·rintro w' ⟨s0, s1, s2, s3, s4, s5, s6, s7, s8, s9⟩
        go_simp
        with_reducible rfl
       rotate_left
       ·simp only [Act.put, ta, tb, tc, i64_w, i32_w]
        rfl
       refine join_ (σ := Nat × Value × Nat) 3 #[true, true, true, true, true, true, true, true, true, true, false, true, true, true, false, false] (fun s => [(48, .slice (some ⟨s.1, 0, none⟩) 0 0), (52, s.2.1), (57, .slice (some ⟨s.2.2, 0, none⟩) 1 1)]) (fun s w' => (QRow w' w.heap.size s.2.1 (out.take m) ∧ w'.heap[s.2.2]? = some (.cells #[.int .i64 x.e.f0, .int .i64 x.e.f1.f0, .int .i64 x.e.f1.f1, .int .i64 x.e.f2.f0, .int .i64 x.e.f2.f1, .int .i64 x.e.f3.f0, .int .i64 x.e.f3.f1, .bool x.e.f4, .string x.e.f5, .slice x.A x.e.f6.length x.c] 31 (0, 0)) ∧ Below wx.heap.size wx w' ∧ ∀ j, s.2.1.ownBlock = some j → wx.heap.size ≤ j) ∧ w'.cell? (ad.add (i * 10)) = some (.int .i64 x.e.f0) ∧ w'.cell? ⟨(ad.add (i * 10)).block, (ad.add (i * 10)).off + 1, none⟩ = some (.int .i64 x.e.f1.f0) ∧ w'.cell? ⟨(ad.add (i * 10)).block, (ad.add (i * 10)).off + 2, none⟩ = some (.int .i64 x.e.f1.f1) ∧ w'.cell? ⟨(ad.add (i * 10)).block, (ad.add (i * 10)).off + 3, none⟩ = some (.int .i64 x.e.f2.f0) ∧ w'.cell? ⟨(ad.add (i * 10)).block, (ad.add (i * 10)).off + 4, none⟩ = some (.int .i64 x.e.f2.f1) ∧ w'.cell? ⟨(ad.add (i * 10)).block, (ad.add (i * 10)).off + 5, none⟩ = some (.int .i64 x.e.f3.f0) ∧ w'.cell? ⟨(ad.add (i * 10)).block, (ad.add (i * 10)).off + 6, none⟩ = some (.int .i64 x.e.f3.f1) ∧ w'.cell? ⟨(ad.add (i * 10)).block, (ad.add (i * 10)).off + 7, none⟩ = some (.bool x.e.f4) ∧ w'.cell? ⟨(ad.add (i * 10)).block, (ad.add (i * 10)).off + 8, none⟩ = some (.string x.e.f5) ∧ w'.cell? ⟨(ad.add (i * 10)).block, (ad.add (i * 10)).off + 9, none⟩ = some (.slice x.A x.e.f6.length x.c)) ?_ ?_
       rotate_left
       ·intro hCont
        refine two_ (i := 0) (j := 9) (Ni := some 48) (Nj := some 57) #[true, true, true, true, false, true, true, true, true, false, false, true, true, true, false, false] #[false, true, true, true, false, true, true, true, true, true, false, true, true, true, false, false] rfl rfl rfl rfl (two_of HT_.out (by kernel_rfl)) (by decide) (by decide) (fun K hK => ?_) (fun K hK => ?_)
        ·skip
         refine value_ (w1 := ?_) (v := ?_) (by rfl) rfl ?_ ?_
         rotate_left 2
         ·go_simp
          constructor
          ·rfl
          ·rfl
         refine hK.out _ _ (lift10 (by with_reducible repeat (first | exact Below.refl _ _ | apply below_alloc | apply pw_below_drewN | apply below_drew1)) x0 x1 x2 x3 x4 x5 x6 x7 x8 x9) (fun hHeld => ?_)
         clear hK K
         refine norm_ (a' := ?_) ?_ ?_
         rotate_left
         ·show Act.put _ (some 48) _ = _
          simp only [Act.put, ta, tb, tc, i64_w, i32_w]
          rfl
         refine two_ (i := 4) (j := 9) (Ni := some 52) (Nj := some 57) #[true, true, true, true, true, true, true, true, true, false, false, true, true, true, false, false] #[true, true, true, true, false, true, true, true, true, true, false, true, true, true, false, false] rfl rfl rfl rfl (two_of HT_.out (by kernel_rfl)) (by decide) (by decide) (fun K hK => ?_) (fun K hK => ?_)
         ·skip
          refine step_app_src w.heap.size rfl (.tmp 48) (.tmp 51) 22 rfl Try.underlying22 _ [] (out.take m) rfl ?ho _ rfl ?hsrc ?hbs ?hlt ?_
          case hsrc => exact HS1.out.below (show Below wx.heap.size wx _ from (by with_reducible repeat (first | exact Below.refl _ _ | apply below_alloc | apply pw_below_drewN | apply below_drew1)))
          case hlt => (have := HKI.out; simp only [List.length_nil, List.length_append, List.length_take, List.length_drop, List.length_cons]; omega)
          case ho => exact QRow.empty wx.drew w.heap.size HBX.out.size
          case hbs => exact Nat.le_trans HBX.out.size (show Below wx.heap.size wx _ from (by with_reducible repeat (first | exact Below.refl _ _ | apply below_alloc | apply pw_below_drewN | apply below_drew1))).size
          intro v52 w52 hp hf hat
          rw [List.nil_append] at hp
          have hb52 : Below wx.heap.size wx w52 := hf.below (by with_reducible repeat (first | exact Below.refl _ _ | apply below_alloc | apply pw_below_drewN | apply below_drew1)) (fun j hj => Nat.le_of_eq (Option.some.inj hj))
          have hf52 : ∀ j, v52.ownBlock = some j → wx.heap.size ≤ j := fun j hj => (hat_orR hat j hj).elim (fun hj => Nat.le_of_eq (Option.some.inj hj)) (fun h => Nat.le_trans (show Below wx.heap.size wx _ from (by with_reducible repeat (first | exact Below.refl _ _ | apply below_alloc | apply pw_below_drewN | apply below_drew1))).size h)
          refine hK.out _ _ (lift10 hb52 x0 x1 x2 x3 x4 x5 x6 x7 x8 x9) (fun hHeld => ?_)
          clear hK K
          refine norm_ (a' := ?_) ?_ ?_
          rotate_left
          ·show Act.put _ (some 52) _ = _
           simp only [Act.put, ta, tb, tc, i64_w, i32_w]
           rfl
          refine one_ (i := 9) (N := some 57) #[true, true, true, true, true, true, true, true, true, true, false, true, true, true, false, false] rfl rfl (one_of HT_.out (by kernel_rfl)) (by decide) (fun K hK => ?_)
          refine value_ (w1 := ?_) (v := ?_) (by rfl) rfl ?_ ?_
          rotate_left 2
          ·go_simp
           constructor
           ·rfl
           ·rfl
          refine hK.out _ _ (lift10 (by with_reducible repeat (first | exact hb52 | apply below_alloc | apply pw_below_drewN | apply below_drew1)) x0 x1 x2 x3 x4 x5 x6 x7 x8 x9) (fun hHeld => ?_)
          clear hK K
          refine norm_ (a' := ?_) ?_ ?_
          rotate_left
          ·show Act.put _ (some 57) _ = _
           simp only [Act.put, ta, tb, tc, i64_w, i32_w]
           rfl
          exact norm_ (by simp only [putAll, Act.put, List.setIfInBounds_toArray, List.set_cons_zero, List.set_cons_succ]) (hCont (wx.heap.size, v52, w52.heap.size) _ ⟨⟨hp.below (below_alloc (Below.refl _ _) _), blk_new w52 _, below_alloc hb52 _, hf52⟩, pw_cell_below (by with_reducible repeat (first | exact hb52 | apply below_alloc | apply pw_below_drewN | apply below_drew1)) x0, pw_cell_below (by with_reducible repeat (first | exact hb52 | apply below_alloc | apply pw_below_drewN | apply below_drew1)) x1, pw_cell_below (by with_reducible repeat (first | exact hb52 | apply below_alloc | apply pw_below_drewN | apply below_drew1)) x2, pw_cell_below (by with_reducible repeat (first | exact hb52 | apply below_alloc | apply pw_below_drewN | apply below_drew1)) x3, pw_cell_below (by with_reducible repeat (first | exact hb52 | apply below_alloc | apply pw_below_drewN | apply below_drew1)) x4, pw_cell_below (by with_reducible repeat (first | exact hb52 | apply below_alloc | apply pw_below_drewN | apply below_drew1)) x5, pw_cell_below (by with_reducible repeat (first | exact hb52 | apply below_alloc | apply pw_below_drewN | apply below_drew1)) x6, pw_cell_below (by with_reducible repeat (first | exact hb52 | apply below_alloc | apply pw_below_drewN | apply below_drew1)) x7, pw_cell_below (by with_reducible repeat (first | exact hb52 | apply below_alloc | apply pw_below_drewN | apply below_drew1)) x8, pw_cell_below (by with_reducible repeat (first | exact hb52 | apply below_alloc | apply pw_below_drewN | apply below_drew1)) x9⟩)
         ·skip
          refine value_ (w1 := ?_) (v := ?_) (by rfl) rfl ?_ ?_
          rotate_left 2
          ·go_simp
           constructor
           ·rfl
           ·rfl
          refine hK.out _ _ (lift10 (by with_reducible repeat (first | exact Below.refl _ _ | apply below_alloc | apply pw_below_drewN | apply below_drew1)) x0 x1 x2 x3 x4 x5 x6 x7 x8 x9) (fun hHeld => ?_)
          clear hK K
          refine norm_ (a' := ?_) ?_ ?_
          rotate_left
          ·show Act.put _ (some 57) _ = _
           simp only [Act.put, ta, tb, tc, i64_w, i32_w]
           rfl
          refine one_ (i := 4) (N := some 52) #[true, true, true, true, true, true, true, true, true, true, false, true, true, true, false, false] rfl rfl (one_of HT_.out (by kernel_rfl)) (by decide) (fun K hK => ?_)
          refine step_app_src w.heap.size rfl (.tmp 48) (.tmp 51) 22 rfl Try.underlying22 _ [] (out.take m) rfl ?ho _ rfl ?hsrc ?hbs ?hlt ?_
          case hsrc => exact HS1.out.below (show Below wx.heap.size wx _ from (by with_reducible repeat (first | exact Below.refl _ _ | apply below_alloc | apply pw_below_drewN | apply below_drew1)))
          case hlt => (have := HKI.out; simp only [List.length_nil, List.length_append, List.length_take, List.length_drop, List.length_cons]; omega)
          case ho => exact (QRow.empty wx.drew w.heap.size HBX.out.size).below (below_alloc (Below.refl _ _) _)
          case hbs => exact Nat.le_trans HBX.out.size (show Below wx.heap.size wx _ from (by with_reducible repeat (first | exact Below.refl _ _ | apply below_alloc | apply pw_below_drewN | apply below_drew1))).size
          intro v52 w52 hp hf hat
          rw [List.nil_append] at hp
          have hb52 : Below wx.heap.size wx w52 := hf.below (by with_reducible repeat (first | exact Below.refl _ _ | apply below_alloc | apply pw_below_drewN | apply below_drew1)) (fun j hj => Nat.le_of_eq (Option.some.inj hj))
          have hf52 : ∀ j, v52.ownBlock = some j → wx.heap.size ≤ j := fun j hj => (hat_orR hat j hj).elim (fun hj => Nat.le_of_eq (Option.some.inj hj)) (fun h => Nat.le_trans (show Below wx.heap.size wx _ from (by with_reducible repeat (first | exact Below.refl _ _ | apply below_alloc | apply pw_below_drewN | apply below_drew1))).size h)
          have hx52 := hf.blk (heap_alloc_new (wx.drew.alloc (.cells #[] 31)) (.cells #[.int .i64 x.e.f0, .int .i64 x.e.f1.f0, .int .i64 x.e.f1.f1, .int .i64 x.e.f2.f0, .int .i64 x.e.f2.f1, .int .i64 x.e.f3.f0, .int .i64 x.e.f3.f1, .bool x.e.f4, .string x.e.f5, .slice x.A x.e.f6.length x.c] 31 (0, 0))) (fun hj => by have h := Option.some.inj hj; simp at h)
          refine hK.out _ _ (lift10 hb52 x0 x1 x2 x3 x4 x5 x6 x7 x8 x9) (fun hHeld => ?_)
          clear hK K
          refine norm_ (a' := ?_) ?_ ?_
          rotate_left
          ·show Act.put _ (some 52) _ = _
           simp only [Act.put, ta, tb, tc, i64_w, i32_w]
           rfl
          exact norm_ (by simp only [putAll, Act.put, List.setIfInBounds_toArray, List.set_cons_zero, List.set_cons_succ]) (hCont (wx.heap.size, v52, (wx.heap.size + 1)) _ ⟨⟨hp, by simpa using hx52, hb52, hf52⟩, pw_cell_below hb52 x0, pw_cell_below hb52 x1, pw_cell_below hb52 x2, pw_cell_below hb52 x3, pw_cell_below hb52 x4, pw_cell_below hb52 x5, pw_cell_below hb52 x6, pw_cell_below hb52 x7, pw_cell_below hb52 x8, pw_cell_below hb52 x9⟩)
        ·skip
         refine value_ (w1 := ?_) (v := ?_) (by rfl) rfl ?_ ?_
         rotate_left 2
         ·go_simp
          constructor
          ·rfl
          ·rfl
         refine hK.out _ _ (lift10 (by with_reducible repeat (first | exact Below.refl _ _ | apply below_alloc | apply pw_below_drewN | apply below_drew1)) x0 x1 x2 x3 x4 x5 x6 x7 x8 x9) (fun hHeld => ?_)
         clear hK K
         refine norm_ (a' := ?_) ?_ ?_
         rotate_left
         ·show Act.put _ (some 57) _ = _
          simp only [Act.put, ta, tb, tc, i64_w, i32_w]
          rfl
         refine one_ (i := 0) (N := some 48) #[true, true, true, true, false, true, true, true, true, true, false, true, true, true, false, false] rfl rfl (one_of HT_.out (by kernel_rfl)) (by decide) (fun K hK => ?_)
         refine value_ (w1 := ?_) (v := ?_) (by rfl) rfl ?_ ?_
         rotate_left 2
         ·go_simp
          constructor
          ·rfl
          ·rfl
         refine hK.out _ _ (lift10 (by with_reducible repeat (first | exact Below.refl _ _ | apply below_alloc | apply pw_below_drewN | apply below_drew1)) x0 x1 x2 x3 x4 x5 x6 x7 x8 x9) (fun hHeld => ?_)
         clear hK K
         refine norm_ (a' := ?_) ?_ ?_
         rotate_left
         ·show Act.put _ (some 48) _ = _
          simp only [Act.put, ta, tb, tc, i64_w, i32_w]
          rfl
         refine one_ (i := 4) (N := some 52) #[true, true, true, true, true, true, true, true, true, true, false, true, true, true, false, false] rfl rfl (one_of HT_.out (by kernel_rfl)) (by decide) (fun K hK => ?_)
         refine step_app_src w.heap.size rfl (.tmp 48) (.tmp 51) 22 rfl Try.underlying22 _ [] (out.take m) rfl ?ho _ rfl ?hsrc ?hbs ?hlt ?_
         case hsrc => exact HS1.out.below (show Below wx.heap.size wx _ from (by with_reducible repeat (first | exact Below.refl _ _ | apply below_alloc | apply pw_below_drewN | apply below_drew1)))
         case hlt => (have := HKI.out; simp only [List.length_nil, List.length_append, List.length_take, List.length_drop, List.length_cons]; omega)
         case ho => exact (QRow.empty2 wx (.cells #[.int .i64 x.e.f0, .int .i64 x.e.f1.f0, .int .i64 x.e.f1.f1, .int .i64 x.e.f2.f0, .int .i64 x.e.f2.f1, .int .i64 x.e.f3.f0, .int .i64 x.e.f3.f1, .bool x.e.f4, .string x.e.f5, .slice x.A x.e.f6.length x.c] 31) w.heap.size HBX.out.size).below (below_drew1 (Below.refl _ _))
         case hbs => exact Nat.le_trans HBX.out.size (show Below wx.heap.size wx _ from (by with_reducible repeat (first | exact Below.refl _ _ | apply below_alloc | apply pw_below_drewN | apply below_drew1))).size
         intro v52 w52 hp hf hat
         rw [List.nil_append] at hp
         have hb52 : Below wx.heap.size wx w52 := hf.below (by with_reducible repeat (first | exact Below.refl _ _ | apply below_alloc | apply pw_below_drewN | apply below_drew1)) (fun j hj => (by have h := Option.some.inj hj; simp at h; omega))
         have hf52 : ∀ j, v52.ownBlock = some j → wx.heap.size ≤ j := fun j hj => (hat_orR hat j hj).elim (fun hj => (by have h := Option.some.inj hj; simp at h; omega)) (fun h => Nat.le_trans (show Below wx.heap.size wx _ from (by with_reducible repeat (first | exact Below.refl _ _ | apply below_alloc | apply pw_below_drewN | apply below_drew1))).size h)
         have hx52 := hf.blk (blk_alloc (blk_new wx.drew (.cells #[.int .i64 x.e.f0, .int .i64 x.e.f1.f0, .int .i64 x.e.f1.f1, .int .i64 x.e.f2.f0, .int .i64 x.e.f2.f1, .int .i64 x.e.f3.f0, .int .i64 x.e.f3.f1, .bool x.e.f4, .string x.e.f5, .slice x.A x.e.f6.length x.c] 31 (0, 0))) (.cells #[] 31 (0, 0))) (fun hj => by have h := Option.some.inj hj; simp at h)
         refine hK.out _ _ (lift10 hb52 x0 x1 x2 x3 x4 x5 x6 x7 x8 x9) (fun hHeld => ?_)
         clear hK K
         refine norm_ (a' := ?_) ?_ ?_
         rotate_left
         ·show Act.put _ (some 52) _ = _
          simp only [Act.put, ta, tb, tc, i64_w, i32_w]
          rfl
         exact norm_ (by simp only [putAll, Act.put, List.setIfInBounds_toArray, List.set_cons_zero, List.set_cons_succ]) (hCont ((wx.heap.size + 1), v52, wx.heap.size) _ ⟨⟨hp, by simpa using hx52, hb52, hf52⟩, pw_cell_below hb52 x0, pw_cell_below hb52 x1, pw_cell_below hb52 x2, pw_cell_below hb52 x3, pw_cell_below hb52 x4, pw_cell_below hb52 x5, pw_cell_below hb52 x6, pw_cell_below hb52 x7, pw_cell_below hb52 x8, pw_cell_below hb52 x9⟩)
       rintro ⟨a48, v52, b57⟩ w57 ⟨⟨hO52, hx57, hb57, hf57⟩, hHeld⟩
       change QRow w57 w.heap.size v52 _ at hO52
       change w57.heap[b57]? = _ at hx57
       change ∀ j, v52.ownBlock = some j → _ at hf57
       refine norm_ (a' := ?_) ?_ ?_
       rotate_left
       ·simp only [putAll, Act.put, List.setIfInBounds_toArray, List.set_cons_zero, List.set_cons_succ]
        rfl
       refine one_ (i := 10) (N := some 58) #[true, true, true, true, true, true, true, true, true, true, true, true, true, true, false, false] rfl rfl (one_of HT_.out (by kernel_rfl)) (by decide) (fun K hK => ?_)
       refine step_app_src w.heap.size rfl (.tmp 52) (.tmp 57) 22 rfl Try.underlying22 v52 (out.take m) [x] rfl ?ho _ rfl ?hsrc ?hbs ?hlt ?_
       case hsrc => exact .inr ⟨_, 1, _, rfl, rfl, fun j u hu => World.news_of_block hx57 j u (by simpa [flQ, qC] using hu)⟩
       case hlt => (have := HKI.out; simp only [List.length_nil, List.length_append, List.length_take, List.length_drop, List.length_cons]; omega)
       case ho => exact hO52
       case hbs => exact Nat.le_trans HBX.out.size hb57.size
       intro v58 w58 hp hf hat
       have hb58 : Below wx.heap.size wx w58 := hf.below hb57 (fun j hj => hf57 j hj)
       have hf58 : ∀ j, v58.ownBlock = some j → wx.heap.size ≤ j := fun j hj => (hat_orR hat j hj).elim (fun h => hf57 j h) (fun h => Nat.le_trans hb57.size h)
       have hO58 := hp
       clear hp hf hat
       refine hK.out _ _ (lift10 hb58 x0 x1 x2 x3 x4 x5 x6 x7 x8 x9) (fun hHeld => ?_)
       clear hK K
       refine norm_ (a' := ?_) ?_ ?_
       rotate_left
       ·show Act.put _ (some 58) _ = _
        simp only [Act.put, ta, tb, tc, i64_w, i32_w]
        rfl
       refine one_ (i := 14) (N := some 62) #[true, true, true, true, true, true, true, true, true, true, true, true, true, true, true, false] rfl rfl (one_of HT_.out (by kernel_rfl)) (by decide) (fun K hK => ?_)
       refine step_app_src w.heap.size rfl (.tmp 58) (.tmp 61) 22 rfl Try.underlying22 v58 ((out.take m) ++ [x]) (out.drop m) rfl ?ho _ rfl ?hsrc ?hbs ?hlt ?_
       case hsrc => first | exact HS2.out.below hb58 | exact HS3.out.below hb58
       case hlt => (have := HKI.out; simp only [List.length_nil, List.length_append, List.length_take, List.length_drop, List.length_cons]; omega)
       case ho => exact hO58
       case hbs => exact Nat.le_trans HBX.out.size hb58.size
       intro v62 w62 hp hf hat
       have hb62 : Below wx.heap.size wx w62 := hf.below hb58 (fun j hj => hf58 j hj)
       have HB62 := Aside0.mk hb62
       have HO62 := Aside0.mk hp
       clear hp hf hat
       refine hK.out _ _ (lift10 hb62 x0 x1 x2 x3 x4 x5 x6 x7 x8 x9) (fun hHeld => ?_)
       clear hK K
       refine norm_ (a' := ?_) ?_ ?_
       rotate_left
       ·show Act.put _ (some 62) _ = _
        simp only [Act.put, ta, tb, tc, i64_w, i32_w]
        rfl
       refine pure_ (i := 15) (N := some 3) (v := ?_) (a' := ?_) #[true, true, true, true, true, true, true, true, true, true, true, true, true, true, true, true] rfl rfl (any_of HT_.out (by kernel_rfl)) (fun _ _ _ h => h) (Or.inl ⟨by rfl, ?_⟩) ?_ ?_
       rotate_left
       ·intro w'
        go_simp
        with_reducible rfl
       rotate_left
       ·simp only [Act.put, ta, tb, tc, i64_w, i32_w]
        rfl
       refine done_ (done_of HT_.out (by kernel_rfl)) ?_
       have HFO : Aside0 (Fo (l.take (i + 1)) (out.take m ++ [x] ++ out.drop m)) := ⟨by
        have h1 := List.getElem?_eq_some_iff.1 HXE.out
        obtain ⟨h2, h3⟩ := h1
        rw [List.take_succ_eq_append_getElem h2, h3]
        exact HI.out.fo.put HT.out (fun s hs => by have h1 := (List.getElem?_eq_some_iff.1 hs).1; have h2 := HM.out; omega)⟩
       have HI2 : Aside0 (RsI w w62 l (i + 1) v62 (out.take m ++ [x] ++ out.drop m)) := ⟨HO62.out, HFO.out, fun s hs => by
        rcases List.mem_append.1 hs with hs | hs
        ·rcases List.mem_append.1 hs with hs | hs
         ·exact HI.out.rd s (List.mem_of_mem_take hs)
         ·rw [List.mem_singleton.1 hs]
          exact HRX.out
        ·exact HI.out.rd s (List.mem_of_mem_drop hs), HBX.out.trans (HB62.out.mono HBX.out.size), by have h := HI.out.ln; have h2 := HKI.out; simp only [List.length_append, List.length_take, List.length_drop, List.length_cons, List.length_nil]; omega⟩
       clear x0 x1 x2 x3 x4 x5 x6 x7 x8 x9
       have hw1 := iw (x := (i : Int) + 1) rfl HII.out
       have hw2 := w64 (x := (i : Int) + 1) rfl HII.out
       go_wp2
       clear hw1 hw2
       go_roundg (n - (i + 1))
       case measure => rw [HG.out]; have := HIN.out; omega
       case rel => exact ⟨i + 1, _, rfl, by simp, HIN.out, HI2⟩
  ·have hie : i = n := by omega
   have q2 : ¬ (i : Int) < n := by omega
   have HF : Aside0 (Fo l out) := ⟨by have h := HI.out.fo; rw [List.take_of_length_le (by rw [HN.out]; omega)] at h; exact h⟩
   subst hform
   clear hie hin hi
   go_wp2
   go_ret
   exact ⟨B, d, out, rfl, HI.out.row, HI.out.rd, HF.out, HI.out.bel⟩
end Go.Proofs.Ytaiakklflmhpmaa.K

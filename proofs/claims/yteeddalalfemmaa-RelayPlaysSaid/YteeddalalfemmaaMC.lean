/- cachetteref22: rows told by their cells. cachetteref22: its relay. cachetteref22: New, Next. cachetteref22: New. cachetteref22: Drop. -/
import Derived.Test.YteeddalalfemmaaMB
import Derived.Deep.Upon
import Derived.BigRegion
import Derived.Deep.RegionLaw
namespace Go.Proofs.Yteeddalalfemmaa.K
open Go.RowKit Go.Proofs.YteeddalalfemmaaW.PrintWords Go.Proofs.YteeddalalfemmaaW.PrintLast Go.Proofs.YteeddalalfemmaaW.PrintMore
set_option linter.unusedVariables false
set_option linter.unusedSimpArgs false

/-- A row told by its cells: n elements, the cells olds; it lies in a block that is ok; its spare is there. -/
def Row (W : World) (size : Nat) (ok : Nat → Prop) (v : Value) (n : Nat) (olds : List Value) : Prop :=
  (n = 0 ∧ olds = [] ∧ ∃ ao, v = .slice ao 0 0) ∨
  ∃ b off cap, v = .slice (some ⟨b, off, none⟩) n cap ∧ 0 < cap ∧ n ≤ cap ∧ cap ≤ maxLen ∧ ok b ∧ olds.length = n * size ∧
    (∀ j, j < olds.length → W.cell? ⟨b, off + j, none⟩ = olds[j]?) ∧ ∀ j, j < cap * size → (W.cell? ⟨b, off + j, none⟩).isSome = true ∧ W.frozen? ⟨b, off + j, none⟩ = false
/-- What an append to such a row leaves. -/
structure Lv (w w' : World) (ok : Nat → Prop) : Prop where
  os : w'.os = w.os
  tape : w'.tape = w.tape
  output : w'.output = w.output
  size : w.heap.size ≤ w'.heap.size
  block : ∀ k, k < w.heap.size → ¬ ok k → w'.heap[k]? = w.heap[k]?
theorem Lv.refl (w : World) (ok : Nat → Prop) : Lv w w ok := ⟨rfl, rfl, rfl, Nat.le_refl _, fun _ _ _ => rfl⟩
theorem Lv.trans {a b c : World} {ok : Nat → Prop} (h : Lv a b ok) (k : Lv b c ok) : Lv a c ok :=
  ⟨k.os.trans h.os, k.tape.trans h.tape, k.output.trans h.output, Nat.le_trans h.size k.size, fun i hi hn => (k.block i (Nat.lt_of_lt_of_le hi h.size) hn).trans (h.block i hi hn)⟩
theorem Lv.mono {a b : World} {ok ok' : Nat → Prop} (h : Lv a b ok) (hk : ∀ k, k < a.heap.size → ok k → ok' k) : Lv a b ok' := ⟨h.os, h.tape, h.output, h.size, fun i hi hn => h.block i hi (fun ho => hn (hk i hi ho))⟩
theorem Lv.ofBelow {a b : World} (ok : Nat → Prop) (h : Below a.heap.size a b) : Lv a b ok := ⟨h.os, h.tape, h.output, h.size, fun i hi _ => h.block i hi⟩
theorem Lv.below {w0 a b : World} {ok : Nat → Prop} (h : Lv a b ok) (hB : Below w0.heap.size w0 a) (hk : ∀ k, ok k → w0.heap.size ≤ k) : Below w0.heap.size w0 b :=
  ⟨h.os.trans hB.os, h.tape.trans hB.tape, h.output.trans hB.output, Nat.le_trans hB.size h.size, fun i hi => (h.block i (Nat.lt_of_lt_of_le hi hB.size) (fun ho => by have := hk i ho; omega)).trans (hB.block i hi)⟩
theorem Row.mono {W : World} {size : Nat} {ok ok' : Nat → Prop} {v : Value} {n : Nat} {olds : List Value} (h : Row W size ok v n olds) (hk : ∀ k, ok k → ok' k) : Row W size ok' v n olds :=
  h.imp id fun ⟨b, off, cap, h1, h2, h3, h4, h5, h6⟩ => ⟨b, off, cap, h1, h2, h3, h4, hk b h5, h6⟩
theorem Row.nil (W : World) (size : Nat) (ok : Nat → Prop) (ao : Option Addr) : Row W size ok (.slice ao 0 0) 0 [] := .inl ⟨rfl, rfl, ao, rfl⟩
theorem Row.lt {W : World} {size b off cap : Nat} (hs : 0 < size) (hc : 0 < cap) (h : ∀ j, j < cap * size → (W.cell? ⟨b, off + j, none⟩).isSome = true ∧ W.frozen? ⟨b, off + j, none⟩ = false) : b < W.heap.size := by
  have h1 := (h 0 (Nat.mul_pos hc hs)).1
  obtain ⟨u, hu⟩ := Option.isSome_iff_exists.1 h1
  exact World.block_lt_of_cell? _ _ hu
theorem Row.bound {W : World} {size : Nat} {ok : Nat → Prop} {v : Value} {n : Nat} {olds : List Value} (hs : 0 < size) (h : Row W size ok v n olds) : Row W size (fun k => ok k ∧ k < W.heap.size) v n olds :=
  h.imp id fun ⟨b, off, cap, h1, h2, h3, h4, h5, h6, h7, h8⟩ => ⟨b, off, cap, h1, h2, h3, h4, ⟨h5, Row.lt hs h2 h8⟩, h6, h7, h8⟩
theorem Row.step {W W' : World} {size : Nat} {ok : Nat → Prop} {v : Value} {n : Nat} {olds : List Value} (hs : 0 < size) (h : Row W size ok v n olds) (hb : ∀ k, k < W.heap.size → ok k → W'.heap[k]? = W.heap[k]?) : Row W' size ok v n olds :=
  h.imp id fun ⟨b, off, cap, h1, h2, h3, h4, h5, h6, h7, h8⟩ => by
    have e := hb b (Row.lt hs h2 h8) h5
    exact ⟨b, off, cap, h1, h2, h3, h4, h5, h6, fun j hj => (World.cell?_of_block (a := ⟨b, off + j, none⟩) e).trans (h7 j hj), fun j hj => ⟨by rw [World.cell?_of_block (a := ⟨b, off + j, none⟩) e]; exact (h8 j hj).1, (World.frozen?_of_block (a := ⟨b, off + j, none⟩) e).trans (h8 j hj).2⟩⟩
theorem Row.below {W W' : World} {size : Nat} {ok : Nat → Prop} {v : Value} {n : Nat} {olds : List Value} (hs : 0 < size) (h : Row W size ok v n olds) (hb : Below W.heap.size W W') : Row W' size ok v n olds := h.step hs (fun k hk _ => hb.block k hk)
theorem Row.shape {W : World} {size : Nat} {ok : Nat → Prop} {v : Value} {n : Nat} {olds : List Value} (h : Row W size ok v n olds) : ∃ A c, v = .slice A n c ∧ n ≤ c := by
  rcases h with ⟨rfl, rfl, ao, rfl⟩ | ⟨b, off, cap, rfl, _, h3, _⟩
  · exact ⟨_, _, rfl, Nat.le_refl _⟩
  · exact ⟨_, _, rfl, h3⟩
theorem Row.len {W : World} {size : Nat} {ok : Nat → Prop} {v : Value} {n : Nat} {olds : List Value} (h : Row W size ok v n olds) : olds.length = n * size := by
  rcases h with ⟨rfl, rfl, ao, rfl⟩ | ⟨b, off, cap, rfl, _, h3, _, _, h, _⟩
  · simp
  · exact h
/-- The row without its first elements; its first elements alone. -/
theorem Row.at {W : World} {size : Nat} {ok : Nat → Prop} {v : Value} {n : Nat} {olds : List Value} (h : Row W size ok v n olds) (hn : 0 < n) :
    ∃ b off cap, v = .slice (some ⟨b, off, none⟩) n cap ∧ n ≤ cap ∧ ok b ∧ (∀ j, j < n * size → W.cell? ⟨b, off + j, none⟩ = olds[j]?) ∧ ∀ j, j < cap * size → (W.cell? ⟨b, off + j, none⟩).isSome = true ∧ W.frozen? ⟨b, off + j, none⟩ = false := by
  rcases h with ⟨rfl, rfl, ao, rfl⟩ | ⟨b, off, cap, rfl, _, h3, _, h5, h6, h7, h8⟩
  · omega
  · exact ⟨b, off, cap, rfl, h3, h5, fun j hj => h7 j (by omega), h8⟩

section
variable {P : Program}
theorem Row.src {w : World} {size : Nat} {ok : Nat → Prop} {v : Value} {n : Nat} {olds : List Value} (h : Row w size ok v n olds) {tx e' : TypeId} (hk : P.underlying tx = some (.slice e')) (h1 : ∀ u ∈ olds, u.oneCell' = true) : Src P size tx v n olds w := by
  rcases h with ⟨rfl, rfl, ao, rfl⟩ | ⟨b, off, cap, rfl, _, h3, _, h5, h6, h7, h8⟩
  · cases ao with
    | none => exact Src.ofNil w hk 0
    | some a => exact Src.ofSlice w hk a 0 0 [] (by simp) (by intro j u hu; simp at hu) h1
  · exact Src.ofSlice w hk ⟨b, off, none⟩ n cap olds h6 (fun j u hu => by rw [Addr.add_lit]; exact (h7 j (List.getElem?_eq_some_iff.1 hu).1).trans hu) h1
theorem Lv.setCells (b : Nat) : ∀ (vs : List Value) (o : Nat) (w : World), Lv w (w.setCells b o vs) (fun k => k = b)
  | [], _, w => Lv.refl w _
  | v :: r, o, w => Lv.trans (b := w.setCell ⟨b, o, none⟩ v) ⟨rfl, rfl, rfl, by simp [World.setCell], fun k _ hk => Below.heap_setCell _ _ _ _ hk⟩ (Lv.setCells b r (o + 1) _)
theorem row_grow {w : World} {ok : Nat → Prop} {ao : Option Addr} {n cap : Nat} {olds : List Value} {size : Nat} (hs0 : 0 < size) (hol : olds.length = n * size)
    (t tx ty e : TypeId) (i : TypeInfo) (z : Value) (bytes : Nat) (ht : P.underlying t = some (.slice e)) (hi : P.info? e = some i) (hz : i.zero = some z) (hsz : i.size = size) (hby : i.bytes = bytes) (hzs : z.cells.size = size)
    (x : Value) (k : Nat) (news : List Value) (hs : Src P size tx x k news w) (hl : (n + k) * bytes ≤ 140737488355328) (hlen : n + k ≤ 140737488355328) (hg : cap < n + k)
    (hold : (Builtin.firstCells size n (.slice ao n cap)).run P w.drew = .ok olds.toArray w.drew) :
    ∃ v' w', (Builtin.append_ #[t, tx] ty #[.slice ao n cap, x]).run P w = .ok v' w' ∧ Row w' size (fun j => ok j ∨ w.heap.size ≤ j) v' (n + k) (olds ++ news) ∧ Lv w w' ok := by
  subst hsz hby
  have hNL : news.length = k * i.size := hs.newsLen
  have hL : (olds ++ news).length = (n + k) * i.size := by rw [List.length_append, hol, hNL, Nat.add_mul]
  have hge := grownCap_ge w (n + k) cap e
  have hcm := grownCap_le_maxLen w (n + k) cap e (by simp only [maxLen]; omega)
  refine ⟨_, _, run_append_grow_src (P := P) w t tx ty e i z ht hi hz ao n cap olds hold x k news hs hg (by omega) (growslice_fits hg hl), .inr ⟨w.heap.size, 0, _, rfl, by omega, by omega, hcm, .inr (Nat.le_refl _), hL, fun j hj => ?_, fun j hj => ⟨?_, ?_⟩⟩, ⟨rfl, rfl, rfl, by simp, fun q hq _ => Below.heap_alloc w.drew _ q hq⟩⟩
  · have e1 : (w.drew.alloc (.cells ((olds ++ news).toArray ++ Builtin.zeroCells z.cells (grownCap w (n + k) cap e - (n + k))) e)).cell? ⟨w.heap.size, j, none⟩ = _ := World.cell?_alloc_new w.drew _ _ j
    rw [Nat.zero_add, e1, Array.getElem?_append_left (by simpa using hj), List.getElem?_toArray]
  · have e1 : (w.drew.alloc (.cells ((olds ++ news).toArray ++ Builtin.zeroCells z.cells (grownCap w (n + k) cap e - (n + k))) e)).cell? ⟨w.heap.size, j, none⟩ = _ := World.cell?_alloc_new w.drew _ _ j
    rw [Nat.zero_add, e1]
    have hsz : ((olds ++ news).toArray ++ Builtin.zeroCells z.cells (grownCap w (n + k) cap e - (n + k))).size = grownCap w (n + k) cap e * i.size := by
      rw [Array.size_append, List.size_toArray, hL, size_zeroCells, hzs, ← Nat.add_mul]
      congr 1
      omega
    rw [Array.getElem?_eq_getElem (by rw [hsz]; exact hj)]
    rfl
  · rw [Nat.zero_add]
    exact World.frozen?_alloc_new w.drew _ _ j
/-- An append to such a row. -/
theorem row_append {w : World} {ok : Nat → Prop} {v : Value} {n : Nat} {olds : List Value} {size : Nat} (h : Row w size ok v n olds) (hs0 : 0 < size)
    (t tx ty e : TypeId) (z : Value) (bytes : Nat) (ht : P.underlying t = some (.slice e)) (hinfo : (P.info? e).map (fun i => (i.zero, i.size, i.bytes)) = some (some z, size, bytes)) (hzs : z.cells.size = size) (hb0 : 0 < bytes)
    (x : Value) (k : Nat) (news : List Value) (hs : Src P size tx x k news w) (hl : (n + k) * bytes ≤ 140737488355328) :
    ∃ v' w', (Builtin.append_ #[t, tx] ty #[v, x]).run P w = .ok v' w' ∧ Row w' size (fun j => ok j ∨ w.heap.size ≤ j) v' (n + k) (olds ++ news) ∧ Lv w w' ok := by
  obtain ⟨i, hi, hzz⟩ := Option.map_eq_some_iff.1 hinfo
  simp only [Prod.mk.injEq] at hzz
  obtain ⟨hz0, hz1, hz2⟩ := hzz
  have hlen : n + k ≤ 140737488355328 := Nat.le_trans (Nat.le_mul_of_pos_right _ hb0) hl
  have hNL : news.length = k * size := hs.newsLen
  rcases h with ⟨rfl, rfl, ao, rfl⟩ | ⟨b, off, cap, rfl, h2, h3, h4, h5, h6, h7, h8⟩
  · by_cases hk : k = 0
    · subst hk
      have : news = [] := List.eq_nil_of_length_eq_zero (by simpa using hNL)
      subst this hz1
      exact ⟨_, _, run_append_nothing (P := P) w t tx ty e i ht hi ao 0 0 (Nat.le_refl _) x hs, Row.nil _ _ _ _, Lv.refl _ _⟩
    · refine row_grow hs0 (by simp) t tx ty e i z bytes ht hi hz0 hz1 hz2 hzs x k news hs hl hlen (by omega) ?_
      cases ao with
      | none => exact run_firstCells_none w.drew size 0 0 0
      | some a' => exact run_firstCells_some w.drew size 0 a' 0 0 [] (by simp) (by intro _ _ h'; simp at h')
  · have hnk : (n + k) * size = n * size + k * size := Nat.add_mul _ _ _
    by_cases hfit : n + k ≤ cap
    · subst hz1
      have hcap : (n + k) * i.size ≤ cap * i.size := Nat.mul_le_mul_right _ hfit
      have hc1 : ∀ j, j < news.length → (w.cell? ⟨b, off + n * i.size + j, none⟩).isSome = true := fun j hj => by rw [Nat.add_assoc]; exact (h8 _ (by omega)).1
      refine ⟨_, _, run_append_room_src (P := P) w t tx ty e i ht hi b off n cap x k news hs hfit hc1 (fun j hj => by rw [Nat.add_assoc]; exact (h8 _ (by omega)).2), .inr ⟨b, off, cap, rfl, h2, hfit, h4, .inl h5, by rw [List.length_append, h6, hNL, hnk], fun j hj => ?_, fun j hj => ⟨?_, ?_⟩⟩, (Lv.setCells b news _ w).mono (fun k _ e => by rw [e]; exact h5)⟩
      · by_cases hjo : j < olds.length
        · rw [World.cell?_setCells_out b _ _ _ _ (fun _ _ => Or.inl (by show off + j < off + n * i.size; omega)), List.getElem?_append_left hjo]
          exact h7 j hjo
        · rw [List.length_append] at hj
          have ht' : j - olds.length < news.length := by omega
          have := World.cell?_setCells_in b news (off + n * i.size) w hc1 (j - olds.length) ht'
          rw [show off + n * i.size + (j - olds.length) = off + j by omega] at this
          rw [this, List.getElem?_append_right (by omega), List.getElem?_eq_getElem ht']
      · by_cases hin : n * i.size ≤ j ∧ j < n * i.size + news.length
        · have := World.cell?_setCells_in b news (off + n * i.size) w hc1 (j - n * i.size) (by omega)
          rw [show off + n * i.size + (j - n * i.size) = off + j by omega] at this
          rw [this]; rfl
        · rw [World.cell?_setCells_out b _ _ _ _ (fun _ _ => by show off + j < off + n * i.size ∨ off + n * i.size + news.length ≤ off + j; omega)]
          exact (h8 j hj).1
      · rw [World.frozen?_setCells]
        exact (h8 j hj).2
    · refine row_grow hs0 h6 t tx ty e i z bytes ht hi hz0 hz1 hz2 hzs x k news hs hl hlen (by omega) ?_
      exact run_firstCells_some w.drew size n ⟨b, off, none⟩ n cap olds h6 (fun j u hu => by rw [Addr.add_lit]; exact (h7 j (List.getElem?_eq_some_iff.1 hu).1).trans hu)
end
section
variable {P : Program} {ops : Array Oper} {o : Oper} {rest : List Oper} {a : Act} {Q : Exit → Act → World → Prop} {Kc : Act → World → Prop}
/-- .. in a region of open order. -/
theorem row_step {w : World} (hw : Region.wanted o (yielded ops a.tmps) = true) (s x : Operand) (t tx e : TypeId) (z : Value) (size bytes : Nat)
    (ho : o.op = .call { callee := .builtin .append, args := #[s, x], argTypes := #[t, tx] })
    (ht : P.underlying t = some (.slice e)) (hinfo : (P.info? e).map (fun i => (i.zero, i.size, i.bytes)) = some (some z, size, bytes)) (hzs : z.cells.size = size) (hs0 : 0 < size) (hb0 : 0 < bytes)
    (v xv : Value) (n k : Nat) (olds news : List Value) (ok : Nat → Prop) (hs : a.eval s = v) (hx : a.eval x = xv)
    (h : Row w size ok v n olds) (hsrc : Src P size tx xv k news w) (hl : (n + k) * bytes ≤ 140737488355328)
    (hK : ∀ v' w', Row w' size (fun j => ok j ∨ w.heap.size ≤ j) v' (n + k) (olds ++ news) → Lv w w' ok → Kc (a.put o.dst v') w') :
    if Region.wanted o (yielded ops a.tmps) = true then Oper.wp P o a w Kc Q else Kc (a.put o.dst undef) w := by
  rw [if_pos hw]
  obtain ⟨v', w', hr, h1, h2⟩ := row_append (P := P) h hs0 t tx o.type e z bytes ht hinfo hzs hb0 xv k news hsrc hl
  unfold Oper.wp execOp
  simp only [ho, resolve, invoke, builtin, Sem.run_bind, Sem.run_pure, Result.andThen_ok, List.map_toArray, List.map_cons, List.map_nil, hs, hx, hr]
  exact hK v' w' h1 h2
/-- .. in a region in the text's order, behind 'at_builtin'. -/
theorem row_plain {w : World} (hgd : o.guard = none) (s x : Operand) (t tx e : TypeId) (z : Value) (size bytes : Nat)
    (ho : o.op = .call { callee := .builtin .append, args := #[s, x], argTypes := #[t, tx] })
    (ht : P.underlying t = some (.slice e)) (hinfo : (P.info? e).map (fun i => (i.zero, i.size, i.bytes)) = some (some z, size, bytes)) (hzs : z.cells.size = size) (hs0 : 0 < size) (hb0 : 0 < bytes)
    (v xv : Value) (n k : Nat) (olds news : List Value) (ok : Nat → Prop) (hs : a.eval s = v) (hx : a.eval x = xv)
    (h : Row w size ok v n olds) (hsrc : Src P size tx xv k news w) (hl : (n + k) * bytes ≤ 140737488355328)
    (hK : ∀ v' w', Row w' size (fun j => ok j ∨ w.heap.size ≤ j) v' (n + k) (olds ++ news) → Lv w w' ok → wpList P ops Q rest (a.put o.dst v') w') :
    wpList P ops Q (o :: rest) a w := by
  refine wpList_plain hgd fun K hK' => ?_
  obtain ⟨v', w', hr, h1, h2⟩ := row_append (P := P) h hs0 t tx o.type e z bytes ht hinfo hzs hb0 xv k news hsrc hl
  unfold Oper.wp
  simp [execOp, ho, resolve, invoke, builtin, hs, hx, hr, Result.andThen]
  exact hK' _ _ (hK v' w' h1 h2)
end
end Go.Proofs.Yteeddalalfemmaa.K

namespace Go.Proofs.Yteeddalalfemmaa.K
open Go.RowKit Go.Proofs.YteeddalalfemmaaW.PrintWords Go.Proofs.YteeddalalfemmaaW.PrintLast Go.Proofs.YteeddalalfemmaaW.PrintMore
set_option linter.unusedVariables false
set_option linter.unusedSimpArgs false

/-- Bytes: never written; their block's colour is 9. -/
abbrev Bs (W : World) (b0 : Nat) (col : Nat → Nat) (v : Value) (l : List Int) : Prop := Kd.R (Kd.int .u8) 5 W b0 (fun k => col k = 9) v l
/-- The cells of a row of items. -/
def flat (ps : List (Value × It)) : List Value := ps.flatMap fun p => [p.1, .bool p.2.f1]
def Good (W : World) (b0 : Nat) (col : Nat → Nat) (ps : List (Value × It)) : Prop := ∀ p ∈ ps, Bs W b0 col p.1 p.2.f0
theorem flat_append (a b : List (Value × It)) : flat (a ++ b) = flat a ++ flat b := by simp [flat]
theorem flat_length (ps : List (Value × It)) : (flat ps).length = ps.length * 2 := by
  induction ps with
  | nil => rfl
  | cons p r ih => simp [flat] at ih ⊢; omega
theorem flat_at : ∀ (ps : List (Value × It)) (i : Nat) (p : Value × It), ps[i]? = some p → (flat ps)[i * 2]? = some p.1 ∧ (flat ps)[i * 2 + 1]? = some (.bool p.2.f1)
  | [], i, p, h => by simp at h
  | q :: r, 0, p, h => by
    simp at h
    subst h
    exact ⟨rfl, rfl⟩
  | q :: r, i + 1, p, h => by
    have := flat_at r i p (by simpa using h)
    simpa [flat, Nat.add_mul, Nat.add_right_comm] using this
theorem flat_drop (ps : List (Value × It)) (i : Nat) : (flat ps).drop (i * 2) = flat (ps.drop i) := by
  induction i generalizing ps with
  | zero => simp
  | succ i ih =>
    cases ps with
    | nil => simp [flat]
    | cons p r =>
      have := ih r
      rw [show (i + 1) * 2 = i * 2 + 1 + 1 by omega]
      simpa [flat] using this
theorem flat_take (ps : List (Value × It)) (i : Nat) : (flat ps).take (i * 2) = flat (ps.take i) := by
  induction i generalizing ps with
  | zero => simp [flat]
  | succ i ih =>
    cases ps with
    | nil => simp [flat]
    | cons p r =>
      have := ih r
      rw [show (i + 1) * 2 = i * 2 + 1 + 1 by omega]
      simpa [flat] using this
theorem Bs.below {W W' : World} {b0 : Nat} {col : Nat → Nat} {v : Value} {l : List Int} (h : Bs W b0 col v l) (hb : Below W.heap.size W W') : Bs W' b0 col v l := Kd.R_below h hb
theorem Bs.rd {W : World} {b0 : Nat} {col : Nat → Nat} {v : Value} {l : List Int} (h : Bs W b0 col v l) : Rd W v l := Kd.R_reads h
theorem Bs.one {W : World} {b0 : Nat} {col : Nat → Nat} {v : Value} {l : List Int} (h : Bs W b0 col v l) : v.oneCell' = true := by
  obtain ⟨A, c, rfl, _⟩ := Kd.R_reads h
  rfl
theorem Good.one {W : World} {b0 : Nat} {col : Nat → Nat} {ps : List (Value × It)} (h : Good W b0 col ps) : ∀ u ∈ flat ps, u.oneCell' = true := by
  intro u hu
  obtain ⟨p, hp, hm⟩ := List.mem_flatMap.1 hu
  simp at hm
  rcases hm with rfl | rfl
  · exact (h p hp).one
  · rfl
/-- What is kept: the blocks of the bytes; new blocks may be coloured anew. -/
theorem Bs.step {W W' : World} {b0 : Nat} {col col' : Nat → Nat} {v : Value} {l : List Int} (h : Bs W b0 col v l) (hb : ∀ k, k < W.heap.size → col k = 9 → W'.heap[k]? = W.heap[k]?) (hc : ∀ k, k < W.heap.size → col' k = col k) : Bs W' b0 col' v l := by
  have h1 := Kd.R_bound h
  have h2 : Kd.R (Kd.int .u8) 5 W b0 (fun k => col' k = 9 ∧ k < W.heap.size) v l := Kd.R_mono h1 (fun k hk => ⟨by rw [hc k hk.2.2.1]; exact hk.1, hk.2.2.1⟩)
  exact Kd.R_mono (Kd.R_step h2 (fun k hk hlt => hb k hlt (by rw [← hc k hlt]; exact hk.1))) (fun _ hk => hk.1)

structure Mel (W : World) (b0 g gq : Nat) (col : Nat → Nat) (vw : List It) (qs : List (List It)) : Prop where
  blk : ∃ vv pv, W.heap[g]? = some (.cells #[.slice (some ⟨gq, 0, none⟩) qs.length qs.length, vv] 41 (0, 0)) ∧ Row W 1 (fun k => b0 ≤ k ∧ col k = 10) vv pv.length (pv.map Prod.fst) ∧ pv.map Prod.snd = vw ∧ Good W b0 col pv
  qb : ∃ cs : Array Value, W.heap[gq]? = some (.cells cs 43 (0, 0)) ∧ cs.size = qs.length ∧ ∀ i (h : i < qs.length), ∃ v ps, cs[i]? = some v ∧ Row W 2 (fun k => b0 ≤ k ∧ col k = 11 + i) v ps.length (flat ps) ∧ ps.map Prod.snd = qs[i] ∧ Good W b0 col ps
  ge : b0 ≤ g ∧ b0 ≤ gq ∧ g < W.heap.size ∧ gq < W.heap.size ∧ col g = 99 ∧ col gq = 99 ∧ qs.length ≤ 8
/-- New blocks are coloured as one wishes; blocks of no such colour may be written. -/
theorem Mel.step {W W' : World} {b0 g gq : Nat} {col col' : Nat → Nat} {vw : List It} {qs : List (List It)} (h : Mel W b0 g gq col vw qs) (hsz : W.heap.size ≤ W'.heap.size) (hb : ∀ k, k < W.heap.size → 9 ≤ col k → W'.heap[k]? = W.heap[k]?) (hc : ∀ k, k < W.heap.size → col' k = col k) : Mel W' b0 g gq col' vw qs := by
  obtain ⟨⟨vv, pv, h1, h2, h3, h4⟩, ⟨cs, h5, h6, h7⟩, h8, h9, ha, hb', hg, hq, hn8⟩ := h
  have mv : ∀ {size : Nat} {c : Nat} {v : Value} {n : Nat} {olds : List Value}, 0 < size → 9 ≤ c → Row W size (fun k => b0 ≤ k ∧ col k = c) v n olds → Row W' size (fun k => b0 ≤ k ∧ col' k = c) v n olds := by
    intro size c v n olds hs0 h9 hr
    have hr2 : Row W size (fun k => (b0 ≤ k ∧ col' k = c) ∧ k < W.heap.size) v n olds := (Row.bound hs0 hr).mono (fun k hk => ⟨⟨hk.1.1, by rw [hc k hk.2]; exact hk.1.2⟩, hk.2⟩)
    exact (hr2.step hs0 (fun k hlt hk => hb k hlt (by rw [← hc k hlt, hk.1.2]; exact h9))).mono (fun _ hk => hk.1)
  have gd : ∀ {ps : List (Value × It)}, Good W b0 col ps → Good W' b0 col' ps := fun hg p hp => (hg p hp).step (fun k hk h9 => hb k hk (by omega)) hc
  refine ⟨⟨vv, pv, (hb g ha (by omega)).trans h1, mv (by omega) (by omega) h2, h3, gd h4⟩, ⟨cs, (hb gq hb' (by omega)).trans h5, h6, fun i hi => ?_⟩, h8, h9, by omega, by omega, (hc g ha).trans hg, (hc gq hb').trans hq, hn8⟩
  obtain ⟨v, ps, e, r, e2, gg⟩ := h7 i hi
  exact ⟨v, ps, e, mv (by omega) (by omega) r, e2, gd gg⟩
theorem Mel.below {W W' : World} {b0 g gq : Nat} {col : Nat → Nat} {vw : List It} {qs : List (List It)} (h : Mel W b0 g gq col vw qs) (hb : Below W.heap.size W W') : Mel W' b0 g gq col vw qs := h.step hb.size (fun k hk _ => hb.block k hk) (fun _ _ => rfl)
theorem Mel.recol {W : World} {b0 g gq : Nat} {col : Nat → Nat} {vw : List It} {qs : List (List It)} (h : Mel W b0 g gq col vw qs) (c : Nat) : Mel W b0 g gq (fun k => if k < W.heap.size then col k else c) vw qs := h.step (Nat.le_refl _) (fun _ _ _ => rfl) (fun k hk => if_pos hk)
/-- What a method of it leaves: blocks coloured below 9 stay; old blocks keep their colours. -/
def Lef (w w' : World) (col col' : Nat → Nat) : Prop := w.heap.size ≤ w'.heap.size ∧ (∀ k, k < w.heap.size → col' k = col k) ∧ ∀ k, k < w.heap.size → (col k < 9 ∨ 100 ≤ col k) → w'.heap[k]? = w.heap[k]?
theorem Lef.refl (w : World) (col : Nat → Nat) : Lef w w col col := ⟨Nat.le_refl _, fun _ _ => rfl, fun _ _ _ => rfl⟩
theorem Lef.trans {a b c : World} {x y z : Nat → Nat} (h : Lef a b x y) (k : Lef b c y z) : Lef a c x z := by
  refine ⟨Nat.le_trans h.1 k.1, fun i hi => (k.2.1 i (Nat.lt_of_lt_of_le hi h.1)).trans (h.2.1 i hi), fun i hi h9 => ?_⟩
  rw [k.2.2 i (Nat.lt_of_lt_of_le hi h.1) (by rw [h.2.1 i hi]; exact h9)]
  exact h.2.2 i hi h9
theorem Lef.below {w w' : World} (col : Nat → Nat) (h : Below w.heap.size w w') : Lef w w' col col := ⟨h.size, fun _ _ => rfl, fun k hk _ => h.block k hk⟩
theorem Lef.recol (w : World) (col : Nat → Nat) (c : Nat) : Lef w w col (fun k => if k < w.heap.size then col k else c) := ⟨Nat.le_refl _, fun _ hk => if_pos hk, fun _ _ _ => rfl⟩
theorem Mel.recol' {W : World} {b0 g gq : Nat} {col : Nat → Nat} {vw : List It} {qs : List (List It)} (h : Mel W b0 g gq col vw qs) (c : Nat) : ∃ col', (∀ k, W.heap.size ≤ k → col' k = c) ∧ Mel W b0 g gq col' vw qs ∧ Lef W W col col' :=
  ⟨_, fun k hk => if_neg (by omega), h.recol c, Lef.recol W col c⟩
/-- Queue i's row is another. -/
theorem Mel.turnQ {W W' : World} {b0 g gq i : Nat} {col : Nat → Nat} {vw : List It} {qs : List (List It)} (h : Mel W b0 g gq col vw qs) (hi : i < qs.length) {cs : Array Value} (hcs : W.heap[gq]? = some (.cells cs 43 (0, 0)))
    {v : Value} {ps : List (Value × It)} (hsz : W.heap.size ≤ W'.heap.size) (hb : ∀ k, k < W.heap.size → 9 ≤ col k → col k ≠ 11 + i → k ≠ gq → W'.heap[k]? = W.heap[k]?)
    (hq : W'.heap[gq]? = some (.cells (cs.setIfInBounds i v) 43 (0, 0))) (hr : Row W' 2 (fun k => b0 ≤ k ∧ col k = 11 + i) v ps.length (flat ps)) (hg : Good W' b0 col ps) : Mel W' b0 g gq col vw (qs.set i (ps.map Prod.snd)) := by
  obtain ⟨⟨vv, pv, h1, h2, h3, h4⟩, ⟨cs0, h5, h6, h7⟩, h8, h9, ha, hb', hgc, hqc, hn8⟩ := h
  have ecs : cs0 = cs := by
    rw [hcs] at h5
    injection h5 with h5
    injection h5 with h5
    exact h5.symm
  subst ecs
  have ngq : g ≠ gq := blk_ne h1 h5 (by decide)
  have mv : ∀ {size : Nat} {c : Nat} {v : Value} {n : Nat} {olds : List Value}, 0 < size → 9 ≤ c → c < 99 → c ≠ 11 + i → Row W size (fun k => b0 ≤ k ∧ col k = c) v n olds → Row W' size (fun k => b0 ≤ k ∧ col k = c) v n olds := by
    intro size c v n olds hs0 h9 h99 hne hr
    exact hr.step hs0 (fun k hlt hk => hb k hlt (by omega) (by omega) (by rintro rfl; omega))
  have gd : ∀ {ps : List (Value × It)}, Good W b0 col ps → Good W' b0 col ps := fun hg p hp => (hg p hp).step (fun k hk h9 => hb k hk (by omega) (by omega) (by rintro rfl; omega)) (fun _ _ => rfl)
  refine ⟨⟨vv, pv, by rw [List.length_set]; exact (hb g ha (by omega) (by omega) ngq).trans h1, mv (by omega) (by omega) (by omega) (by omega) h2, h3, gd h4⟩, ⟨_, hq, by simp [h6], fun m hm => ?_⟩, h8, h9, by omega, by omega, hgc, hqc, by rw [List.length_set]; exact hn8⟩
  have hm' : m < qs.length := by rw [List.length_set] at hm; exact hm
  by_cases hmi : m = i
  · subst hmi
    exact ⟨v, ps, by simp [h6, hm'], hr, by rw [List.getElem_set_self], hg⟩
  · obtain ⟨v2, ps2, e, r, e2, gg⟩ := h7 m hm'
    exact ⟨v2, ps2, by rw [Array.getElem?_setIfInBounds_ne (Ne.symm hmi)]; exact e, mv (by omega) (by omega) (by omega) (by omega) r, by rw [List.getElem_set_ne (Ne.symm hmi)]; exact e2, gd gg⟩

set_option maxHeartbeats 800000 in
theorem mreader_calls (g gq n : Nat) (i : Int) (vv : Value) (w : World) (hg : w.heap[g]? = some (.cells #[.slice (some ⟨gq, 0, none⟩) n n, vv] 41 (0, 0))) :
    Calls Try.prog 35 #[.pointer (some ⟨g, 0, none⟩), .int .i64 i] w fun e w' => e = .returned (.bool (decide (0 ≤ i ∧ i < n))) ∧ Drawn0 w w' := by
  have c0 : w.cell? ⟨g, 0, none⟩ = some (.slice (some ⟨gq, 0, none⟩) n n) := (blk_cell hg 0).trans rfl
  clear hg
  by_cases h0 : 0 ≤ i
  · have hd0 : decide (0 ≤ i) = true := decide_eq_true h0
    go_enter Try.func35, Try.ntmps35
    go_wp2
    go_ret
    exact ⟨by simp [h0], by repeat (first | exact Drawn0.refl _ | apply Drawn0.step)⟩
  · have hd0 : decide (0 ≤ i) = false := decide_eq_false h0
    go_enter Try.func35, Try.ntmps35
    go_wp2
    go_ret
    exact ⟨by simp [h0], by repeat (first | exact Drawn0.refl _ | apply Drawn0.step)⟩

instance hasQ_dec (qs : List (List It)) (i j : Int) : Decidable (hasQ qs i j) := by unfold hasQ; exact inferInstance

set_option maxHeartbeats 1600000 in
theorem mhas_calls (g gq : Nat) (i j : Int) (col : Nat → Nat) (vw : List It) (qs : List (List It)) (b0 : Nat) (w : World) (hR : Mel w b0 g gq col vw qs) :
    Calls Try.prog 36 #[.pointer (some ⟨g, 0, none⟩), .int .i64 i, .int .i64 j] w fun e w' => e = .returned (.bool (decide (hasQ qs i j))) ∧ Drawn0 w w' := by
  obtain ⟨vv, pv, h1, _⟩ := hR.blk
  have H1 := Aside0.mk h1
  have c0 : w.cell? ⟨g, 0, none⟩ = some (.slice (some ⟨gq, 0, none⟩) qs.length qs.length) := (blk_cell h1 0).trans rfl
  clear h1
  by_cases h0 : 0 ≤ i ∧ i < (qs.length : Int)
  · obtain ⟨m, rfl⟩ : ∃ m : Nat, i = m := ⟨i.toNat, by omega⟩
    have hm : m < qs.length := by omega
    obtain ⟨cs, h3, h4, h5⟩ := hR.qb
    obtain ⟨v, ps, e, r, e2, _⟩ := h5 m hm
    obtain ⟨A, c, rfl, hc⟩ := r.shape
    have c1 : w.cell? ⟨gq, m, none⟩ = some (.slice A ps.length c) := (blk_cell h3 m).trans e
    have hps : ps.length = qs[m].length := by rw [← e2]; simp
    have HD : Aside0 (decide ((0 : Int) ≤ (m : Int) ∧ (m : Int) < qs.length) = true) := ⟨decide_eq_true h0⟩
    have hm0 : (0 : Int) ≤ m := by omega
    have hm1 : (m : Int) < qs.length := by omega
    clear h3 h4 h5 e r e2 hR hc
    by_cases hj : 0 ≤ j
    · have hd0 : decide (0 ≤ j) = true := decide_eq_true hj
      go_enter Try.func36, Try.ntmps36
      go_wp2_with (first
        | ((with_reducible refine gate_dst (N := 9) rfl ?_); go_must (((try (refine gate_guard (by rfl) ?_; dsimp only)); refine goesL_ (some 9) rfl rfl Try.func35 (by kernel_rfl) rfl #[.pointer (some ⟨g, 0, none⟩), .int .i64 m] rfl ?hA ?_; (case hA => ((try simp only [List.map_toArray, List.map_cons, List.map_nil]); first | done | rfl)); refine (mreader_calls g gq _ m vv _ H1.out).mono ?_; rintro e w9 ⟨rfl, ⟨m9, rfl⟩⟩; refine ⟨_, rfl, ?_⟩; rw [HD.out]))))
      go_ret
      refine ⟨?_, by repeat (first | exact Drawn0.refl _ | apply Drawn0.step)⟩
      have hh : decide (hasQ qs m j) = decide (j < (qs[m].length : Int)) := by
        rw [decide_eq_decide]
        exact ⟨fun ⟨_, _, _, h⟩ => by simpa using h, fun h => ⟨by simpa using hm, hm0, hj, by simpa using h⟩⟩
      rw [hh]
      rfl
    · have hd0 : decide (0 ≤ j) = false := decide_eq_false hj
      go_enter Try.func36, Try.ntmps36
      go_wp2_with (first
        | ((with_reducible refine gate_dst (N := 9) rfl ?_); go_must (((try (refine gate_guard (by rfl) ?_; dsimp only)); refine goesL_ (some 9) rfl rfl Try.func35 (by kernel_rfl) rfl #[.pointer (some ⟨g, 0, none⟩), .int .i64 m] rfl ?hA ?_; (case hA => ((try simp only [List.map_toArray, List.map_cons, List.map_nil]); first | done | rfl)); refine (mreader_calls g gq _ m vv _ H1.out).mono ?_; rintro e w9 ⟨rfl, ⟨m9, rfl⟩⟩; refine ⟨_, rfl, ?_⟩; rw [HD.out]))))
      go_ret
      refine ⟨?_, by repeat (first | exact Drawn0.refl _ | apply Drawn0.step)⟩
      have hno : ¬ hasQ qs m j := fun ⟨_, _, h, _⟩ => by omega
      rw [decide_eq_false hno]
      rfl
  · have HD : Aside0 (decide ((0 : Int) ≤ i ∧ i < qs.length) = false) := ⟨decide_eq_false h0⟩
    have HN := Aside0.mk h0
    clear h0 hR
    go_enter Try.func36, Try.ntmps36
    go_wp2_with (first
      | ((with_reducible refine gate_dst (N := 9) rfl ?_); go_must (((try (refine gate_guard (by rfl) ?_; dsimp only)); refine goesL_ (some 9) rfl rfl Try.func35 (by kernel_rfl) rfl #[.pointer (some ⟨g, 0, none⟩), .int .i64 i] rfl ?hA ?_; (case hA => ((try simp only [List.map_toArray, List.map_cons, List.map_nil]); first | done | rfl)); refine (mreader_calls g gq _ i vv _ H1.out).mono ?_; rintro e w9 ⟨rfl, ⟨m9, rfl⟩⟩; refine ⟨_, rfl, ?_⟩; rw [HD.out]))))
    go_ret
    refine ⟨?_, by repeat (first | exact Drawn0.refl _ | apply Drawn0.step)⟩
    have hno : ¬ hasQ qs i j := by
      intro h
      obtain ⟨h1, h2, _⟩ := h
      exact HN.out ⟨h2, by omega⟩
    rw [decide_eq_false hno]
    rfl
end Go.Proofs.Yteeddalalfemmaa.K

namespace Go.Proofs.Yteeddalalfemmaa.K
open Go.RowKit Go.Proofs.YteeddalalfemmaaW.PrintWords Go.Proofs.YteeddalalfemmaaW.PrintLast Go.Proofs.YteeddalalfemmaaW.PrintMore
set_option linter.unusedVariables false
set_option linter.unusedSimpArgs false

/-- What a method of it did. -/
def Mid (w0 w w' : World) (g gq : Nat) (col : Nat → Nat) (vw : List It) (qs : List (List It)) : Prop := (∃ col', Mel w' w0.heap.size g gq col' vw qs ∧ Lef w w' col col') ∧ Below w0.heap.size w0 w'
theorem Mid.none {w0 w w' : World} {g gq : Nat} {col : Nat → Nat} {vw : List It} {qs : List (List It)} (hR : Mel w w0.heap.size g gq col vw qs) (hB : Below w0.heap.size w0 w) (hb : Below w.heap.size w w') : Mid w0 w w' g gq col vw qs :=
  ⟨⟨col, hR.below hb, Lef.below col hb⟩, below_step hB hb⟩
/-- The m-th queue at whatever item. -/
theorem Mel.queue {W : World} {b0 g gq : Nat} {col : Nat → Nat} {vw : List It} {qs : List (List It)} (h : Mel W b0 g gq col vw qs) (m : Nat) (hm : m < qs.length) (xs : List It) (hxs : qs[m] = xs) :
    ∃ cs v ps, W.heap[gq]? = some (.cells cs 43 (0, 0)) ∧ cs.size = qs.length ∧ cs[m]? = some v ∧ Row W 2 (fun k => b0 ≤ k ∧ col k = 11 + m) v ps.length (flat ps) ∧ ps.map Prod.snd = xs ∧ Good W b0 col ps := by
  obtain ⟨cs, h3, h4, h5⟩ := h.qb
  obtain ⟨v, ps, e, r, e2, gg⟩ := h5 m hm
  exact ⟨cs, v, ps, h3, h4, e, r, by rw [e2, hxs], gg⟩
/-- The row without its first item. -/
theorem Row.tail {W : World} {ok : Nat → Prop} {b off n cap : Nat} {p : Value × It} {ps : List (Value × It)} (h : Row W 2 ok (.slice (some ⟨b, off, none⟩) (n + 1) cap) (n + 1) (flat (p :: ps))) : Row W 2 ok (.slice (some (if cap = 1 then ⟨b, off, none⟩ else ⟨b, off + 2, none⟩)) n (cap - 1)) n (flat ps) := by
  rcases h with ⟨h, _⟩ | ⟨b', off', cap', hv, h2, h3, h4, h5, h6, h7, h8⟩
  · omega
  · injection hv with e1 e2 e3
    injection e1 with e1
    injection e1 with e1 e4
    subst e1 e3 e4
    have hfl : flat (p :: ps) = p.1 :: .bool p.2.f1 :: flat ps := rfl
    rw [hfl] at h6 h7
    simp only [List.length_cons] at h6 h7
    by_cases hc : cap = 1
    · subst hc
      have hn : n = 0 := by omega
      subst hn
      have : flat ps = [] := List.eq_nil_of_length_eq_zero (by omega)
      exact .inl ⟨rfl, this, _, rfl⟩
    · rw [if_neg hc]
      refine .inr ⟨b, off + 2, cap - 1, rfl, by omega, by omega, by omega, h5, by omega, fun j hj => ?_, fun j hj => ?_⟩
      · have := h7 (j + 2) (by omega)
        rw [Nat.add_assoc, Nat.add_comm 2 j]
        simpa using this
      · have := h8 (j + 2) (by omega)
        rw [Nat.add_assoc, Nat.add_comm 2 j]
        exact this

theorem box_item (w : World) (m j : Nat) (u : Value) (hu : (#[Value.slice none 0 0, .bool false] : Array Value)[j]? = some u) : ((w.drewN m).alloc (.cells #[.slice none 0 0, .bool false] 69)).cell? ⟨w.heap.size, j, none⟩ = some u :=
  (World.cell?_alloc_new (w.drewN m) _ _ j).trans hu
theorem box_item_frozen (w : World) (m j : Nat) : ((w.drewN m).alloc (.cells #[.slice none 0 0, .bool false] 69)).frozen? ⟨w.heap.size, j, none⟩ = false := World.frozen?_alloc_new (w.drewN m) _ _ j

set_option maxRecDepth 100000 in
set_option maxHeartbeats 4000000 in
theorem mnext_ok (g gq m : Nat) (col : Nat → Nat) (vw : List It) (qs : List (List It)) (x : It) (xs : List It) (w0 w : World) (hR : Mel w w0.heap.size g gq col vw qs) (hm : m < qs.length) (hxs : qs[m] = x :: xs) (hB : Below w0.heap.size w0 w) :
    Calls Try.prog 15 #[.pointer (some ⟨g, 0, none⟩), .int .i64 m] w fun e w' => (∃ v, e = .returned (.tuple #[v, .bool true]) ∧ Bs w' w0.heap.size col v x.f0) ∧
      Mel w' w0.heap.size g gq col vw (qs.set m xs) ∧ Lef w w' col col ∧ Below w0.heap.size w0 w' ∧ FrB w w' := by
  obtain ⟨vv, pv, h1, _⟩ := hR.blk
  obtain ⟨cs, v, ps, h3, h4, e, r, e2, gg⟩ := hR.queue m hm _ hxs
  match ps, e2 with
  | p :: ps, e2 =>
  simp only [List.map_cons, List.cons.injEq] at e2
  obtain ⟨ep, eps⟩ := e2
  obtain ⟨b, off, cap, rfl, hcap, hok, hat, hsp⟩ := r.at (by simp)
  have hgp : Bs w w0.heap.size col p.1 x.f0 := by rw [← ep]; exact gg p (by simp)
  obtain ⟨Ab, cb, hpv, hcb, _⟩ := Kd.R_reads hgp
  rw [hpv] at hgp
  have cc0 : w.cell? ⟨b, off, none⟩ = some (.slice Ab x.f0.length cb) := by
    have := hat 0 (by simp)
    rw [← hpv]
    simpa [flat] using this
  have cc1 : w.cell? ⟨b, off + 1, none⟩ = some (.bool x.f1) := by
    have := hat 1 (by simp only [List.length_cons]; omega)
    rw [← ep]
    simpa [flat] using this
  obtain ⟨n, hn⟩ : ∃ n, ps.length + 1 = n := ⟨_, rfl⟩
  have c0 : w.cell? ⟨g, 0, none⟩ = some (.slice (some ⟨gq, 0, none⟩) qs.length qs.length) := (blk_cell h1 0).trans rfl
  have c1 : w.cell? ⟨gq, m, none⟩ = some (.slice (some ⟨b, off, none⟩) n cap) := by rw [← hn]; exact (blk_cell h3 m).trans e
  have f1 := blk_frozen h3 m
  have HD : Aside0 (decide (hasQ qs (m : Int) 0) = true) := ⟨decide_eq_true ⟨by simpa using hm, by omega, by omega, by simp [hxs]⟩⟩
  have hm0 : (0 : Int) ≤ m := by omega
  have hm1 : (m : Int) < qs.length := by omega
  have hn0 : (1 : Int) ≤ n := by omega
  have hn1 : (0 : Int) < n := by omega
  have hn2 : ¬ n = 0 := by omega
  have hn3 : 1 ≤ n := by omega
  have hn4 : 0 < n := by omega
  have hcapN : n ≤ cap := by simp at hcap; omega
  have hcapI : (n : Int) ≤ cap := by omega
  have HN := Aside0.mk hn
  have HR := Aside0.mk hR
  have Hr := Aside0.mk r
  have HB := Aside0.mk hB
  have H1 := Aside0.mk h1
  have H3 := Aside0.mk h3
  have H4 := Aside0.mk h4
  have HG := Aside0.mk hgp
  have HGG := Aside0.mk gg
  have HM := Aside0.mk hm
  have HE := Aside0.mk eps
  clear hR r hB h1 h3 h4 hgp gg hm eps e hat hsp hok hxs hpv ep hcb hcap hn
  go_enter Try.func15, Try.ntmps15
  go_wp2_with (first
    | ((with_reducible refine gate_dst (N := 9) rfl ?_); go_must (((try (refine gate_guard (by rfl) ?_; dsimp only)); refine goesL_ (some 9) rfl rfl Try.func36 (by kernel_rfl) rfl #[.pointer (some ⟨g, 0, none⟩), .int .i64 m, .int .i64 0] rfl ?hA ?_; (case hA => ((try simp only [List.map_toArray, List.map_cons, List.map_nil]); first | done | rfl)); refine (mhas_calls g gq m 0 col vw qs _ _ HR.out).mono ?_; rintro e w9 ⟨rfl, ⟨m9, rfl⟩⟩; refine ⟨_, rfl, ?_⟩; rw [HD.out]; have x0 := box_item w m9 0 (.slice none 0 0) rfl; have x1 := box_item w m9 1 (.bool false) rfl; have y0 := box_item_frozen w m9 0; have y1 := box_item_frozen w m9 1))))
  go_wp2
  have hB4 : Below w.heap.size w ((((w.drewN m9).alloc (.cells #[.slice none 0 0, .bool false] 69)).setCell ⟨w.heap.size, 0, none⟩ (.slice Ab x.f0.length cb)).setCell ⟨w.heap.size, 1, none⟩ (.bool x.f1)) :=
    ((below_alloc (pw_below_drewN (Below.refl _ _) m9) _).setCell (p := ⟨w.heap.size, 0, none⟩) (Nat.le_refl _) _).setCell (p := ⟨w.heap.size, 1, none⟩) (Nat.le_refl _) _
  have hx4 : ((((w.drewN m9).alloc (.cells #[.slice none 0 0, .bool false] 69)).setCell ⟨w.heap.size, 0, none⟩ (.slice Ab x.f0.length cb)).setCell ⟨w.heap.size, 1, none⟩ (.bool x.f1)).heap[w.heap.size]? = some (.cells #[.slice Ab x.f0.length cb, .bool x.f1] 69 (0, 0)) :=
    blk_set (blk_set (show ((w.drewN m9).alloc (.cells #[.slice none 0 0, .bool false] 69)).heap[w.heap.size]? = some (.cells #[.slice none 0 0, .bool false] 69 (0, 0)) from blk_new (w.drewN m9) _) 0 _) 1 _
  have hlt4 : w.heap.size < ((((w.drewN m9).alloc (.cells #[.slice none 0 0, .bool false] 69)).setCell ⟨w.heap.size, 0, none⟩ (.slice Ab x.f0.length cb)).setCell ⟨w.heap.size, 1, none⟩ (.bool x.f1)).heap.size := blk_lt hx4
  generalize hW4 : ((((w.drewN m9).alloc (.cells #[.slice none 0 0, .bool false] 69)).setCell ⟨w.heap.size, 0, none⟩ (.slice Ab x.f0.length cb)).setCell ⟨w.heap.size, 1, none⟩ (.bool x.f1)) = W4 at hB4 hx4 hlt4 ⊢
  have HB4 := Aside0.mk hB4
  have HX4 := Aside0.mk hx4
  have h34 := blk_below H3.out hB4
  have H34 := Aside0.mk h34
  replace c0 := pw_cell_below hB4 c0
  replace c1 := pw_cell_below hB4 c1
  replace f1 := blk_frozen h34 m
  have x0' : W4.cell? ⟨w.heap.size, 0, none⟩ = some (.slice Ab x.f0.length cb) := (blk_cell hx4 0).trans rfl
  have ngx : gq ≠ w.heap.size := by have := blk_lt H3.out; omega
  have hxg : ¬ w.heap.size = gq := fun h => ngx h.symm
  clear x0 x1 y0 y1 hW4 hB4 hx4 h34 cc0 cc1 hlt4
  have fin : ∀ k, Bs ((W4.drewN k).setCell ⟨gq, m, none⟩ (.slice (some (if cap = 1 then ⟨b, off, none⟩ else ⟨b, off + 2, none⟩)) (n - 1) (cap - 1))) w0.heap.size col (.slice Ab x.f0.length cb) x.f0 ∧ Mel ((W4.drewN k).setCell ⟨gq, m, none⟩ (.slice (some (if cap = 1 then ⟨b, off, none⟩ else ⟨b, off + 2, none⟩)) (n - 1) (cap - 1))) w0.heap.size g gq col vw (qs.set m xs) ∧ Lef w ((W4.drewN k).setCell ⟨gq, m, none⟩ (.slice (some (if cap = 1 then ⟨b, off, none⟩ else ⟨b, off + 2, none⟩)) (n - 1) (cap - 1))) col col ∧
      Below w0.heap.size w0 ((W4.drewN k).setCell ⟨gq, m, none⟩ (.slice (some (if cap = 1 then ⟨b, off, none⟩ else ⟨b, off + 2, none⟩)) (n - 1) (cap - 1))) ∧ FrB w ((W4.drewN k).setCell ⟨gq, m, none⟩ (.slice (some (if cap = 1 then ⟨b, off, none⟩ else ⟨b, off + 2, none⟩)) (n - 1) (cap - 1))) := by
    intro k
    have hB5 : Below w.heap.size w (W4.drewN k) := pw_below_drewN HB4.out k
    have hM4 := HR.out.below hB5
    have h35 := blk_below H3.out hB5
    have hne : ∀ q, q ≠ gq → ((W4.drewN k).setCell ⟨gq, m, none⟩ (.slice (some (if cap = 1 then ⟨b, off, none⟩ else ⟨b, off + 2, none⟩)) (n - 1) (cap - 1))).heap[q]? = (W4.drewN k).heap[q]? := fun q hq => Below.heap_setCell _ _ _ _ hq
    have hcg := HR.out.ge
    have hr := Hr.out
    rw [List.length_cons, HN.out, show n = (n - 1) + 1 by omega] at hr
    have ht : Row (W4.drewN k) 2 (fun k => w0.heap.size ≤ k ∧ col k = 11 + m) (.slice (some (if cap = 1 then ⟨b, off, none⟩ else ⟨b, off + 2, none⟩)) (n - 1) (cap - 1)) (n - 1) (flat ps) := hr.tail.below (by omega) hB5
    have hps : n - 1 = ps.length := by have := HN.out; omega
    have hm4 := hM4.turnQ HM.out h35 (W' := (W4.drewN k).setCell ⟨gq, m, none⟩ (.slice (some (if cap = 1 then ⟨b, off, none⟩ else ⟨b, off + 2, none⟩)) (n - 1) (cap - 1))) (by simp [World.setCell]) (fun q _ _ _ hq => hne q hq) (blk_set h35 m _)
      (by rw [← hps]; exact ht.step (by omega) (fun q _ hq => hne q (by rintro rfl; have := hq.2; have := HM.out; omega)))
      (fun p2 hp2 => ((HGG.out p2 (by simp [hp2])).below hB5).step (fun q _ hq => hne q (by rintro rfl; omega)) (fun _ _ => rfl))
    rw [HE.out] at hm4
    refine ⟨(HG.out.below hB5).step (fun q _ hq => hne q (by rintro rfl; omega)) (fun _ _ => rfl), hm4, ⟨by have := hB5.size; simpa [World.setCell] using this, fun _ _ => rfl, fun q hq h9 => ?_⟩, (below_step HB.out hB5).setCell (by show w0.heap.size ≤ gq; omega) _, fun q cells f hq => ?_⟩
    · rw [hne q (by rintro rfl; omega)]
      exact hB5.block q hq
    · have hlt : q < w.heap.size := (Array.getElem?_eq_some_iff.1 hq).1
      rw [hne q (by rintro rfl; rw [H3.out] at hq; injection hq with hq; injection hq with _ hq; revert hq; decide), hB5.block q hlt]
      exact hq
  by_cases hc1 : cap = 1
  · have hn1' : n = 1 := by omega
    subst hc1 hn1'
    go_region
    go_wp2
    exact bodyPost_ret (v := .tuple #[.slice Ab x.f0.length cb, .bool true]) (by simp [results, Try.results15, go_sem]) rfl ⟨⟨_, rfl, (fin 1).1⟩, (fin 1).2⟩
  · have hc2 : ¬ 1 = cap := fun h => hc1 h.symm
    simp only [if_neg hc1] at fin
    replace fin := fin 1
    have F := Aside0.mk fin
    clear fin
    go_region
    go_wp2
    exact bodyPost_ret (v := .tuple #[.slice Ab x.f0.length cb, .bool true]) (by simp [results, Try.results15, go_sem]) rfl ⟨⟨_, rfl, F.out.1⟩, F.out.2⟩

set_option maxRecDepth 100000 in
set_option maxHeartbeats 2000000 in
theorem mnext_no (g gq : Nat) (i : Int) (col : Nat → Nat) (vw : List It) (qs : List (List It)) (b0 : Nat) (w : World) (hR : Mel w b0 g gq col vw qs) (hn : ¬ hasQ qs i 0) :
    Calls Try.prog 15 #[.pointer (some ⟨g, 0, none⟩), .int .i64 i] w fun e w' => e = .returned (.tuple #[.slice none 0 0, .bool false]) ∧ Below w.heap.size w w' := by
  have HR := Aside0.mk hR
  have HD : Aside0 (decide (hasQ qs i 0) = false) := ⟨decide_eq_false hn⟩
  clear hR hn
  go_enter Try.func15, Try.ntmps15
  go_wp2_with (first
    | ((with_reducible refine gate_dst (N := 9) rfl ?_); go_must (((try (refine gate_guard (by rfl) ?_; dsimp only)); refine goesL_ (some 9) rfl rfl Try.func36 (by kernel_rfl) rfl #[.pointer (some ⟨g, 0, none⟩), .int .i64 i, .int .i64 0] rfl ?hA ?_; (case hA => ((try simp only [List.map_toArray, List.map_cons, List.map_nil]); first | done | rfl)); refine (mhas_calls g gq i 0 col vw qs _ _ HR.out).mono ?_; rintro e w9 ⟨rfl, ⟨m9, rfl⟩⟩; refine ⟨_, rfl, ?_⟩; rw [HD.out]))))
  exact bodyPost_ret (v := .tuple #[.slice none 0 0, .bool false]) (by simp [results, Try.results15, go_sem]) rfl ⟨rfl, pw_below_drewN (Below.refl _ _) _⟩

set_option maxHeartbeats 2000000 in
theorem mnew_no (n : Int) (w : World) (h : n < 1 ∨ 8 < n) :
    Calls Try.prog 7 #[.int .i64 n] w fun e w' => e = .returned (.tuple #[.pointer none, .int .i64 1]) ∧ Below w.heap.size w w' := by
  by_cases h0 : n < 1
  · clear h
    go_enter Try.func7, Try.ntmps7
    go_wp2
    exact bodyPost_ret (v := .tuple #[.pointer none, .int .i64 1]) (by simp [results, Try.results7, go_sem]) rfl ⟨rfl, by first | exact Below.refl _ _ | exact pw_below_drewN (Below.refl _ _) _⟩
  · have h1 : 8 < n := by omega
    have hd0 : decide (n < 1) = false := decide_eq_false h0
    clear h
    go_enter Try.func7, Try.ntmps7
    go_wp2
    exact bodyPost_ret (v := .tuple #[.pointer none, .int .i64 1]) (by simp [results, Try.results7, go_sem]) rfl ⟨rfl, by first | exact Below.refl _ _ | exact pw_below_drewN (Below.refl _ _) _⟩
end Go.Proofs.Yteeddalalfemmaa.K

namespace Go.Proofs.Yteeddalalfemmaa.K
open Go.RowKit Go.Proofs.YteeddalalfemmaaW.PrintWords Go.Proofs.YteeddalalfemmaaW.PrintLast Go.Proofs.YteeddalalfemmaaW.PrintMore
set_option linter.unusedVariables false
set_option linter.unusedSimpArgs false

theorem infoL : (Try.prog.info? 43).map (fun i => (i.zero, i.size, i.bytes)) = some (some (.slice none 0 0), 1, 24) := by kernel_rfl
set_option maxRecDepth 100000 in
/-- 'make([]queue, n)'. -/
theorem make_lists {w : World} {ops : Array Oper} {rest : List Oper} {o : Oper} {a : Act} {Q : Exit → Act → World → Prop} (hg : o.guard = none) (l c : Operand) (hop : o.op = Op.makeSlice 39 l c)
    (n : Nat) (hl : a.eval l = .int .i64 n) (hc : a.eval c = .int .i64 n) (hn : n ≤ 1000)
    (hK : ∀ g w', g = w.heap.size → w'.heap[g]? = some (.cells (List.replicate n (.slice none 0 0)).toArray 43 (0, 0)) → Below w.heap.size w w' → wpList Try.prog ops Q rest (a.put o.dst (.slice (some ⟨g, 0, none⟩) n n)) w') :
    wpList Try.prog ops Q (o :: rest) a w := by
  obtain ⟨i, h2, h3, h4, h5⟩ := info_parts infoL
  refine wpList_plain hg fun K hK' => ?_
  have hr := run_make (P := Try.prog) w 39 43 i (.slice none 0 0) Try.underlying39 h2 h3 .i64 .i64 n n (by omega) (by omega) (by rw [h5]; omega) (by omega)
  unfold Oper.wp
  simp [execOp, hop, hl, hc, hr, Result.andThen]
  refine hK' _ _ (hK _ _ rfl ?_ ((Below.refl _ _).alloc (Nat.le_refl _) _))
  rw [heap_alloc_new, h4]
  congr 2
  apply Array.toList_inj.1
  rw [Nat.mul_one, show (Value.slice none 0 0).cells = #[.slice none 0 0] from rfl, toList_madeCells_one]

set_option maxHeartbeats 800000 in
theorem mnew_ok (n : Nat) (col : Nat → Nat) (w0 w : World) (hB : Below w0.heap.size w0 w) (h1 : 1 ≤ n) (h8 : n ≤ 8) :
    Calls Try.prog 7 #[.int .i64 n] w fun e w' => ∃ g gq, e = .returned (.tuple #[.pointer (some ⟨g, 0, none⟩), .int .i64 0]) ∧ Mel w' w0.heap.size g gq (fun k => if k < w.heap.size then col k else 99) [] (List.replicate n []) ∧ Below w0.heap.size w0 w' ∧ Below w.heap.size w w' := by
  have HB := Aside0.mk hB
  have HW := Aside0.mk (Below.refl w.heap.size w)
  have h1' : (1 : Int) ≤ n := by omega
  have h8' : (n : Int) ≤ 8 := by omega
  have hd1 : decide ((n : Int) < 1) = false := decide_eq_false (by omega)
  have hd8 : decide ((8 : Int) < n) = false := decide_eq_false (by omega)
  have H8 := Aside0.mk h8
  clear hB h1 h8
  go_enter Try.func7, Try.ntmps7
  go_wp2_with (first
    | ((with_reducible refine gate_dst (N := 11) rfl ?_); go_must ((refine make_lists rfl _ _ rfl n rfl rfl (by have := H8.out; omega) ?_; intro gq w11 hge hbk hb; have HGQ : Aside0 (w.heap.size ≤ gq) := ⟨by rw [hge]; exact HW.out.size⟩; have HK := Aside0.mk hbk; replace HW := Aside0.mk (below_step HW.out hb); clear hge hbk hb))))
  have hb : Below w.heap.size w (w11.alloc (.cells #[.slice (some ⟨gq, 0, none⟩) n n, .slice none 0 0] 41)) := below_alloc HW.out _
  refine bodyPost_ret (v := .tuple #[.pointer (some ⟨w11.heap.size, 0, none⟩), .int .i64 0]) (by simp [results, Try.results7, go_sem]) rfl ?_
  have hsz := HW.out.size
  have hgl := blk_lt HK.out
  have hbs := HB.out.size
  have hgq := HGQ.out
  refine ⟨_, gq, rfl, ⟨⟨.slice none 0 0, [], by simpa using blk_new w11 (.cells #[.slice (some ⟨gq, 0, none⟩) n n, .slice none 0 0] 41), Row.nil _ _ _ _, rfl, fun p hp => by simp at hp⟩, ⟨_, blk_alloc HK.out _, by simp, fun i hi => ⟨.slice none 0 0, [], by simp at hi; simp [hi], Row.nil _ _ _ _, by simp, fun p hp => by simp at hp⟩⟩, by omega, by omega, by simp, by simp; omega, if_neg (by omega), if_neg (by omega), by simpa using H8.out⟩, HB.out.trans (hb.mono HB.out.size), hb⟩
end Go.Proofs.Yteeddalalfemmaa.K

namespace Go.Proofs.Yteeddalalfemmaa.K
open Go.RowKit Go.Proofs.YteeddalalfemmaaW.PrintWords Go.Proofs.YteeddalalfemmaaW.PrintLast Go.Proofs.YteeddalalfemmaaW.PrintMore
set_option linter.unusedVariables false
set_option linter.unusedSimpArgs false

theorem infoIm : (Try.prog.info? 69).map (fun i => (i.zero, i.size, i.bytes)) = some (some (.agg #[.slice none 0 0, .bool false]), 2, 32) := by kernel_rfl
/-- The row's first items; the row without them. -/
theorem Row.take {W : World} {ok : Nat → Prop} {b off n cap : Nat} {ps : List (Value × It)} (h : Row W 2 ok (.slice (some ⟨b, off, none⟩) n cap) n (flat ps)) (hn : ps.length = n) (j : Nat) (hj : j ≤ n) (hc : 0 < n) : Row W 2 ok (.slice (some ⟨b, off, none⟩) j cap) j (flat (ps.take j)) := by
  rcases h with ⟨h, _⟩ | ⟨b', off', cap', hv, h2, h3, h4, h5, h6, h7, h8⟩
  · omega
  · injection hv with e1 e2 e3
    injection e1 with e1
    injection e1 with e1 e4
    subst e1 e3 e4
    have hl : (flat (ps.take j)).length = j * 2 := by rw [flat_length, List.length_take]; omega
    refine .inr ⟨b, off, cap, rfl, h2, by omega, h4, h5, hl, fun q hq => ?_, h8⟩
    rw [← flat_take, List.getElem?_take, if_pos (by omega)]
    exact h7 q (by omega)
theorem Row.drop {W : World} {ok : Nat → Prop} {b off n cap : Nat} {ps : List (Value × It)} (h : Row W 2 ok (.slice (some ⟨b, off, none⟩) n cap) n (flat ps)) (hn : ps.length = n) (j : Nat) (hj : j ≤ n) (hc : 0 < n) : Row W 2 ok (.slice (some (if cap = j then ⟨b, off, none⟩ else ⟨b, off + j * 2, none⟩)) (n - j) (cap - j)) (n - j) (flat (ps.drop j)) := by
  rcases h with ⟨h, _⟩ | ⟨b', off', cap', hv, h2, h3, h4, h5, h6, h7, h8⟩
  · omega
  · injection hv with e1 e2 e3
    injection e1 with e1
    injection e1 with e1 e4
    subst e1 e3 e4
    have hl : (flat (ps.drop j)).length = (n - j) * 2 := by rw [flat_length, List.length_drop]; omega
    by_cases hcj : cap = j
    · subst hcj
      have hn0 : n - cap = 0 := by omega
      rw [hn0] at hl ⊢
      have : flat (ps.drop cap) = [] := List.eq_nil_of_length_eq_zero (by omega)
      rw [Nat.sub_self]
      exact .inl ⟨rfl, this, _, rfl⟩
    · rw [if_neg hcj]
      refine .inr ⟨b, off + j * 2, cap - j, rfl, by omega, by omega, by omega, h5, hl, fun q hq => ?_, fun q hq => ?_⟩
      · rw [← flat_drop, List.getElem?_drop, Nat.add_assoc]
        exact h7 (j * 2 + q) (by omega)
      · rw [Nat.add_assoc]
        exact h8 (j * 2 + q) (by omega)
theorem Lv.new {w w' : World} (h : Lv w w' (fun _ => False)) : Below w.heap.size w w' := ⟨h.os, h.tape, h.output, h.size, fun k hk => h.block k hk (fun h => h)⟩
theorem Lv.newer {w0 w w' : World} {ok : Nat → Prop} (h : Lv w w' ok) (hb : Below w0.heap.size w0 w) (hk : ∀ k, ok k → w0.heap.size ≤ k) : Below w0.heap.size w0 w' := h.below hb hk

/-- What a method that lays a new row into queue m leaves. -/
theorem mid_row {w0 w w1 : World} {g gq m : Nat} {col cA : Nat → Nat} {vw : List It} {qs : List (List It)} {cs : Array Value} {v : Value} {ps : List (Value × It)} (hR : Mel w w0.heap.size g gq cA vw qs) (hL : Lef w w col cA) (hcol : ∀ k, w.heap.size ≤ k → cA k = 11 + m) (hm : m < qs.length)
    (h3 : w.heap[gq]? = some (.cells cs 43 (0, 0))) (hB : Below w0.heap.size w0 w) (hb : Below w.heap.size w w1) (ok : Nat → Prop) (hr : Row w1 2 ok v ps.length (flat ps)) (hok : ∀ k, ok k → w.heap.size ≤ k) (hg : Good w1 w0.heap.size cA ps) : Mid w0 w (w1.setCell ⟨gq, m, none⟩ v) g gq col vw (qs.set m (ps.map Prod.snd)) := by
  have hne : ∀ q, q ≠ gq → (w1.setCell ⟨gq, m, none⟩ v).heap[q]? = w1.heap[q]? := fun q hq => Below.heap_setCell _ _ _ _ hq
  have hgc := hR.ge
  have hs := hb.size
  have hs0 := hB.size
  have h35 := blk_below h3 hb
  have hm4 := (hR.below hb).turnQ (W' := w1.setCell ⟨gq, m, none⟩ v) hm h35 (by simp [World.setCell]) (fun q _ _ _ hq => hne q hq) (blk_set h35 m _)
    ((hr.step (by omega) (fun q _ hq => hne q (by rintro rfl; have := hok _ hq; omega))).mono (fun k hk => ⟨by have := hok k hk; omega, hcol k (hok k hk)⟩))
    (fun p hp => (hg p hp).step (fun q _ hq => hne q (by rintro rfl; omega)) (fun _ _ => rfl))
  refine ⟨⟨cA, hm4, Nat.le_trans hs (by simp [World.setCell]), hL.2.1, fun q hq h9 => ?_⟩, (below_step hB hb).setCell (by show w0.heap.size ≤ gq; omega) _⟩
  rw [hne q (by rintro rfl; have := hL.2.1 q hq; omega)]
  exact hb.block q hq

theorem row_first {w W w' : World} {size n : Nat} {v : Value} {l : List Value} (hb : Below w.heap.size w W) (h : Row w' size (fun j => False ∨ W.heap.size ≤ j) v (0 + n) ([] ++ l)) (hl : Lv W w' (fun _ => False)) : Row w' size (fun k => w.heap.size ≤ k) v n l ∧ Below w.heap.size w w' := by
  have h2 := h.mono (ok' := fun k => w.heap.size ≤ k) (fun k hk => by have := hb.size; rcases hk with hk | hk; exact hk.elim; omega)
  rw [Nat.zero_add] at h2
  exact ⟨h2, below_step hb hl.new⟩
theorem row_more {w W w' : World} {size n : Nat} {v : Value} {l : List Value} (hb : Below w.heap.size w W) (h : Row w' size (fun j => w.heap.size ≤ j ∨ W.heap.size ≤ j) v n l) (hl : Lv W w' (fun k => w.heap.size ≤ k)) : Row w' size (fun k => w.heap.size ≤ k) v n l ∧ Below w.heap.size w w' :=
  ⟨h.mono (fun k hk => by have := hb.size; omega), hl.below hb (fun _ h => h)⟩

def mdrop_ok.T3 : Bool × List (List Nat × List Nat) := (true, [([], []), ([0], [0]), ([1], [1]), ([2], [2]), ([], []), ([], []), ([], []), ([6], [6]), ([7], [7]), ([8], [8]), ([], []), ([9, 10], [9, 10]), ([11], [11]), ([], []), ([12, 13], [12, 13]), ([5, 14], [5, 14]), ([], []), ([16], [16]), ([17], [17]), ([18], [18]), ([], []), ([19, 20], [19, 20]), ([21], [21]), ([], []), ([23], [23]), ([22, 24], [22, 24]), ([15, 25, 15], [15, 25]), ([3, 4, 0, 1, 2, 3, 4, 5, 6, 7, 8, 9, 10, 11, 12, 13, 14, 15, 16, 17, 18, 19, 20, 21, 22, 23, 24, 25, 26], [3, 4]), ([27, 26, 26, 0, 1, 2, 3, 4, 5, 6, 7, 8, 9, 10, 11, 12, 13, 14, 15, 16, 17, 18, 19, 20, 21, 22, 23, 24, 25, 26], [26, 27])])
def mdrop_ok.B3 : List Nat := [0, 1, 3, 7, 0, 0, 0, 64, 192, 448, 0, 1984, 4032, 0, 16320, 32736, 0, 65536, 196608, 458752, 0, 2031616, 4128768, 0, 8388608, 33488896, 67108832, 134217727, 268435455]
theorem mdrop_ok.tab3 : rtab .any (opsOf Try.f18 3) = mdrop_ok.T3 := by kernel_rfl
theorem mdrop_ok.bits3 : waitsOk mdrop_ok.T3.2 mdrop_ok.B3 = true := by kernel_rfl
set_option maxRecDepth 100000 in
set_option maxHeartbeats 8000000 in
theorem mdrop_ok (g gq m j : Nat) (col : Nat → Nat) (vw : List It) (qs : List (List It)) (xs : List It) (w0 w : World) (hR : Mel w w0.heap.size g gq col vw qs) (hm : m < qs.length) (hxs : qs[m] = xs) (hj : j < xs.length) (hq9 : xs.length ≤ 90000) (hB : Below w0.heap.size w0 w) :
    Calls Try.prog 18 #[.pointer (some ⟨g, 0, none⟩), .int .i64 m, .int .i64 j] w fun e w' => e = .returned (.bool true) ∧ Mid w0 w w' g gq col vw (qs.set m (xs.eraseIdx j)) := by
  obtain ⟨cA, hcol, hR, hLA⟩ := hR.recol' (11 + m)
  obtain ⟨vv, pv, h1, _⟩ := hR.blk
  obtain ⟨cs, v, ps, h3, h4, e, r, e2, gg⟩ := hR.queue m hm _ hxs
  have hpl : ps.length = xs.length := by rw [← e2]; simp
  obtain ⟨b, off, cap, rfl, hcap, hok, hat, hsp⟩ := r.at (by omega)
  obtain ⟨n, hn⟩ : ∃ n, ps.length = n := ⟨_, rfl⟩
  rw [hn] at r e hcap
  have c0 : w.cell? ⟨g, 0, none⟩ = some (.slice (some ⟨gq, 0, none⟩) qs.length qs.length) := (blk_cell h1 0).trans rfl
  have c1 : w.cell? ⟨gq, m, none⟩ = some (.slice (some ⟨b, off, none⟩) n cap) := (blk_cell h3 m).trans e
  have f1 := blk_frozen h3 m
  have HD : Aside0 (decide (hasQ qs (m : Int) (j : Int)) = true) := ⟨decide_eq_true ⟨by simpa using hm, by omega, by omega, by simpa [hxs] using hj⟩⟩
  have hm0 : (0 : Int) ≤ m := by omega
  have hm1 : (m : Int) < qs.length := by omega
  have hj0 : (0 : Int) ≤ j := by omega
  have hjn : j < n := by omega
  have hj1 : (j : Int) ≤ n := by omega
  have hj2 : (j : Int) ≤ cap := by omega
  have hj3 : (j : Int) + 1 ≤ n := by omega
  have hj4 : j ≤ cap := by omega
  have hj5 : j + 1 ≤ n := by omega
  have hnc : (n : Int) ≤ cap := by omega
  have hn9 : n ≤ 90000 := by omega
  obtain ⟨k, hk⟩ : ∃ k, j + 1 = k := ⟨_, rfl⟩
  have hjk : (j : Int) + 1 = (k : Int) := by omega
  have hk0 : (0 : Int) ≤ k := by omega
  have hk1 : (k : Int) ≤ n := by omega
  have hk2 : (k : Int) ≤ cap := by omega
  have hk3 : k ≤ n := by omega
  have hk4 : k ≤ cap := by omega
  have hwk : IntKind.i64.wrap (k : Int) = k := by rw [i64_w]; unfold wrap64; omega
  have HDr := Aside0.mk (r.drop hn k hk3 (by omega))
  have HK := Aside0.mk hk
  have HR := Aside0.mk hR
  have Hr := Aside0.mk r
  have HB := Aside0.mk hB
  have H1 := Aside0.mk h1
  have H3 := Aside0.mk h3
  have HGG := Aside0.mk gg
  have HM := Aside0.mk hm
  have HE := Aside0.mk e2
  have HN := Aside0.mk hn
  have HC := Aside0.mk hcol
  have HLA := Aside0.mk hLA
  have HP := Aside0.mk hpl
  clear hj3 hj5 hk hq9 hR r hB h1 h3 h4 gg hm e2 e hat hsp hok hn hcol hLA hpl hxs hj
  go_enter Try.func18, Try.ntmps18
  go_wp2_with (first
    | ((with_reducible refine gate_dst (N := 10) rfl ?_); go_must (((try (refine gate_guard (by rfl) ?_; dsimp only)); refine goesL_ (some 10) rfl rfl Try.func36 (by kernel_rfl) rfl #[.pointer (some ⟨g, 0, none⟩), .int .i64 m, .int .i64 j] rfl ?hA ?_; (case hA => ((try simp only [List.map_toArray, List.map_cons, List.map_nil]); first | done | rfl)); refine (mhas_calls g gq m j cA vw qs _ _ HR.out).mono ?_; rintro e w9 ⟨rfl, ⟨m9, rfl⟩⟩; refine ⟨_, rfl, ?_⟩; rw [HD.out]; skip))))
  by_cases hck : cap = k
  · have hnk : n = k := by omega
    subst hck hnk
    simp only [if_pos, Nat.sub_self] at HDr
    refine start_ (n := 29) (S := fun w' => w'.cell? ⟨g, 0, none⟩ = some (.slice (some ⟨gq, 0, none⟩) qs.length qs.length) ∧ w'.cell? ⟨gq, m, none⟩ = some (.slice (some ⟨b, off, none⟩) n n)) (ds := [28]) #[false, false, false, false, false, false, false, false, false, false, false, false, false, false, false, false, false, false, false, false, false, false, false, false, false, false, false, false, false] (by kernel_rfl) rfl rfl ⟨c0, c1⟩ (fun hHeld => ?_)
    refine with_tabW mdrop_ok.tab3 mdrop_ok.bits3 (fun HT_ HW_ => ?_)
    refine pure_ (i := 0) (N := some 12) (v := ?_) (a' := ?_) #[true, false, false, false, false, false, false, false, false, false, false, false, false, false, false, false, false, false, false, false, false, false, false, false, false, false, false, false, false] rfl rfl (any_of HT_.out (by kernel_rfl)) (fun _ _ _ h => h) (Or.inl ⟨by rfl, ?_⟩) ?_ ?_
    rotate_left
    · intro w'
      go_simp
      with_reducible rfl
    rotate_left
    · simp only [Act.put, List.setIfInBounds_toArray, List.set_cons_zero, List.set_cons_succ, i64_w, i32_w]
      rfl
    refine pure_ (i := 1) (N := some 13) (v := ?_) (a' := ?_) #[true, true, false, false, false, false, false, false, false, false, false, false, false, false, false, false, false, false, false, false, false, false, false, false, false, false, false, false, false] rfl rfl (any_of HT_.out (by kernel_rfl)) (fun _ _ _ h => h) (Or.inl ⟨by rfl, ?_⟩) ?_ ?_
    rotate_left
    · intro w'
      go_simp
      with_reducible rfl
    rotate_left
    · simp only [Act.put, List.setIfInBounds_toArray, List.set_cons_zero, List.set_cons_succ, i64_w, i32_w]
      rfl
    refine pure_ (i := 2) (N := some 14) (v := ?_) (a' := ?_) #[true, true, true, false, false, false, false, false, false, false, false, false, false, false, false, false, false, false, false, false, false, false, false, false, false, false, false, false, false] rfl rfl (any_of HT_.out (by kernel_rfl)) (fun _ _ _ h => h) (Or.inl ⟨by rfl, ?_⟩) ?_ ?_
    rotate_left
    · intro w'
      go_simp
      with_reducible rfl
    rotate_left
    · simp only [Act.put, List.setIfInBounds_toArray, List.set_cons_zero, List.set_cons_succ, i64_w, i32_w]
      rfl
    refine pure_ (i := 4) (N := some 16) (v := ?_) (a' := ?_) #[true, true, true, false, true, false, false, false, false, false, false, false, false, false, false, false, false, false, false, false, false, false, false, false, false, false, false, false, false] rfl rfl (any_of HT_.out (by kernel_rfl)) (fun _ _ _ h => h) (Or.inl ⟨by rfl, ?_⟩) ?_ ?_
    rotate_left
    · intro w'
      go_simp
      with_reducible rfl
    rotate_left
    · simp only [Act.put, List.setIfInBounds_toArray, List.set_cons_zero, List.set_cons_succ, i64_w, i32_w]
      rfl
    refine pure_ (i := 6) (N := some 18) (v := ?_) (a' := ?_) #[true, true, true, false, true, false, true, false, false, false, false, false, false, false, false, false, false, false, false, false, false, false, false, false, false, false, false, false, false] rfl rfl (any_of HT_.out (by kernel_rfl)) (fun _ _ _ h => h) (Or.inl ⟨by rfl, ?_⟩) ?_ ?_
    rotate_left
    · intro w'
      go_simp
      with_reducible rfl
    rotate_left
    · simp only [Act.put, List.setIfInBounds_toArray, List.set_cons_zero, List.set_cons_succ, i64_w, i32_w]
      rfl
    refine pure_ (i := 7) (N := some 19) (v := ?_) (a' := ?_) #[true, true, true, false, true, false, true, true, false, false, false, false, false, false, false, false, false, false, false, false, false, false, false, false, false, false, false, false, false] rfl rfl (any_of HT_.out (by kernel_rfl)) (fun _ _ _ h => h) (Or.inl ⟨by rfl, ?_⟩) ?_ ?_
    rotate_left
    · intro w'
      go_simp
      with_reducible rfl
    rotate_left
    · simp only [Act.put, List.setIfInBounds_toArray, List.set_cons_zero, List.set_cons_succ, i64_w, i32_w]
      rfl
    refine pure_ (i := 8) (N := some 20) (v := ?_) (a' := ?_) #[true, true, true, false, true, false, true, true, true, false, false, false, false, false, false, false, false, false, false, false, false, false, false, false, false, false, false, false, false] rfl rfl (any_of HT_.out (by kernel_rfl)) (fun _ _ _ h => h) (Or.inl ⟨by rfl, ?_⟩) ?_ ?_
    rotate_left
    · intro w'
      go_simp
      with_reducible rfl
    rotate_left
    · simp only [Act.put, List.setIfInBounds_toArray, List.set_cons_zero, List.set_cons_succ, i64_w, i32_w]
      rfl
    refine pure_ (i := 10) (N := some 22) (v := ?_) (a' := ?_) #[true, true, true, false, true, false, true, true, true, false, true, false, false, false, false, false, false, false, false, false, false, false, false, false, false, false, false, false, false] rfl rfl (any_of HT_.out (by kernel_rfl)) (fun _ _ _ h => h) (Or.inl ⟨by rfl, ?_⟩) ?_ ?_
    rotate_left
    · intro w'
      go_simp
      with_reducible rfl
    rotate_left
    · simp only [Act.put, List.setIfInBounds_toArray, List.set_cons_zero, List.set_cons_succ, i64_w, i32_w]
      rfl
    refine pure_ (i := 13) (N := some 25) (v := ?_) (a' := ?_) #[true, true, true, false, true, false, true, true, true, false, true, false, false, true, false, false, false, false, false, false, false, false, false, false, false, false, false, false, false] rfl rfl (any_of HT_.out (by kernel_rfl)) (fun _ _ _ h => h) (Or.inl ⟨by rfl, ?_⟩) ?_ ?_
    rotate_left
    · intro w'
      go_simp
      with_reducible rfl
    rotate_left
    · simp only [Act.put, List.setIfInBounds_toArray, List.set_cons_zero, List.set_cons_succ, i64_w, i32_w]
      rfl
    refine pure_ (i := 16) (N := some 28) (v := ?_) (a' := ?_) #[true, true, true, false, true, false, true, true, true, false, true, false, false, true, false, false, true, false, false, false, false, false, false, false, false, false, false, false, false] rfl rfl (any_of HT_.out (by kernel_rfl)) (fun _ _ _ h => h) (Or.inl ⟨by rfl, ?_⟩) ?_ ?_
    rotate_left
    · intro w'
      go_simp
      with_reducible rfl
    rotate_left
    · simp only [Act.put, List.setIfInBounds_toArray, List.set_cons_zero, List.set_cons_succ, i64_w, i32_w]
      rfl
    refine pure_ (i := 17) (N := some 29) (v := ?_) (a' := ?_) #[true, true, true, false, true, false, true, true, true, false, true, false, false, true, false, false, true, true, false, false, false, false, false, false, false, false, false, false, false] rfl rfl (any_of HT_.out (by kernel_rfl)) (fun _ _ _ h => h) (Or.inl ⟨by rfl, ?_⟩) ?_ ?_
    rotate_left
    · intro w'
      go_simp
      with_reducible rfl
    rotate_left
    · simp only [Act.put, List.setIfInBounds_toArray, List.set_cons_zero, List.set_cons_succ, i64_w, i32_w]
      rfl
    refine pure_ (i := 18) (N := some 30) (v := ?_) (a' := ?_) #[true, true, true, false, true, false, true, true, true, false, true, false, false, true, false, false, true, true, true, false, false, false, false, false, false, false, false, false, false] rfl rfl (any_of HT_.out (by kernel_rfl)) (fun _ _ _ h => h) (Or.inl ⟨by rfl, ?_⟩) ?_ ?_
    rotate_left
    · intro w'
      go_simp
      with_reducible rfl
    rotate_left
    · simp only [Act.put, List.setIfInBounds_toArray, List.set_cons_zero, List.set_cons_succ, i64_w, i32_w]
      rfl
    refine pure_ (i := 20) (N := some 32) (v := ?_) (a' := ?_) #[true, true, true, false, true, false, true, true, true, false, true, false, false, true, false, false, true, true, true, false, true, false, false, false, false, false, false, false, false] rfl rfl (any_of HT_.out (by kernel_rfl)) (fun _ _ _ h => h) (Or.inl ⟨by rfl, ?_⟩) ?_ ?_
    rotate_left
    · intro w'
      go_simp
      with_reducible rfl
    rotate_left
    · simp only [Act.put, List.setIfInBounds_toArray, List.set_cons_zero, List.set_cons_succ, i64_w, i32_w]
      rfl
    refine pure_ (i := 23) (N := some 35) (v := ?_) (a' := ?_) #[true, true, true, false, true, false, true, true, true, false, true, false, false, true, false, false, true, true, true, false, true, false, false, true, false, false, false, false, false] rfl rfl (any_of HT_.out (by kernel_rfl)) (fun _ _ _ h => h) (Or.inl ⟨by rfl, ?_⟩) ?_ ?_
    rotate_left
    · intro w'
      go_simp
      with_reducible rfl
    rotate_left
    · simp only [Act.put, List.setIfInBounds_toArray, List.set_cons_zero, List.set_cons_succ, i64_w, i32_w]
      rfl
    refine pure_ (i := 24) (N := some 36) (v := ?_) (a' := ?_) #[true, true, true, false, true, false, true, true, true, false, true, false, false, true, false, false, true, true, true, false, true, false, false, true, true, false, false, false, false] rfl rfl (any_of HT_.out (by kernel_rfl)) (fun _ _ _ h => h) (Or.inl ⟨by rfl, ?_⟩) ?_ ?_
    rotate_left
    · intro w'
      go_simp
      with_reducible rfl
    rotate_left
    · simp only [Act.put, List.setIfInBounds_toArray, List.set_cons_zero, List.set_cons_succ, i64_w, i32_w]
      rfl
    refine take_ (i := 3) (N := some 15) (v := ?_) (a' := ?_) #[true, true, true, true, true, false, true, true, true, false, true, false, false, true, false, false, true, true, true, false, true, false, false, true, true, false, false, false, false] rfl rfl (take_ofW HT_.out HW_.out (by kernel_rfl)) (fun _ _ _ h => h) (Or.inl ⟨by rfl, ?_⟩) hHeld ?_ ?_
    rotate_left
    · rintro w' ⟨s0, s1⟩
      go_simp
      with_reducible rfl
    rotate_left
    · simp only [Act.put, List.setIfInBounds_toArray, List.set_cons_zero, List.set_cons_succ, i64_w, i32_w]
      rfl
    refine take_ (i := 9) (N := some 21) (v := ?_) (a' := ?_) #[true, true, true, true, true, false, true, true, true, true, true, false, false, true, false, false, true, true, true, false, true, false, false, true, true, false, false, false, false] rfl rfl (take_ofW HT_.out HW_.out (by kernel_rfl)) (fun _ _ _ h => h) (Or.inl ⟨by rfl, ?_⟩) hHeld ?_ ?_
    rotate_left
    · rintro w' ⟨s0, s1⟩
      go_simp
      with_reducible rfl
    rotate_left
    · simp only [Act.put, List.setIfInBounds_toArray, List.set_cons_zero, List.set_cons_succ, i64_w, i32_w]
      rfl
    refine pure_ (i := 11) (N := some 23) (v := ?_) (a' := ?_) #[true, true, true, true, true, false, true, true, true, true, true, true, false, true, false, false, true, true, true, false, true, false, false, true, true, false, false, false, false] rfl rfl (any_of HT_.out (by kernel_rfl)) (fun _ _ _ h => h) (Or.inl ⟨by rfl, ?_⟩) ?_ ?_
    rotate_left
    · intro w'
      go_simp
      with_reducible rfl
    rotate_left
    · simp only [Act.put, List.setIfInBounds_toArray, List.set_cons_zero, List.set_cons_succ, i64_w, i32_w]
      rfl
    refine take_ (i := 12) (N := some 24) (v := ?_) (a' := ?_) #[true, true, true, true, true, false, true, true, true, true, true, true, true, true, false, false, true, true, true, false, true, false, false, true, true, false, false, false, false] rfl rfl (take_ofW HT_.out HW_.out (by kernel_rfl)) (fun _ _ _ h => h) (Or.inl ⟨by rfl, ?_⟩) hHeld ?_ ?_
    rotate_left
    · rintro w' ⟨s0, s1⟩
      go_simp
      with_reducible rfl
    rotate_left
    · simp only [Act.put, List.setIfInBounds_toArray, List.set_cons_zero, List.set_cons_succ, i64_w, i32_w]
      rfl
    refine pure_ (i := 14) (N := some 26) (v := ?_) (a' := ?_) #[true, true, true, true, true, false, true, true, true, true, true, true, true, true, true, false, true, true, true, false, true, false, false, true, true, false, false, false, false] rfl rfl (any_of HT_.out (by kernel_rfl)) (fun _ _ _ h => h) (Or.inl ⟨by rfl, ?_⟩) ?_ ?_
    rotate_left
    · intro w'
      go_simp
      with_reducible rfl
    rotate_left
    · simp only [Act.put, List.setIfInBounds_toArray, List.set_cons_zero, List.set_cons_succ, i64_w, i32_w]
      rfl
    refine take_ (i := 19) (N := some 31) (v := ?_) (a' := ?_) #[true, true, true, true, true, false, true, true, true, true, true, true, true, true, true, false, true, true, true, true, true, false, false, true, true, false, false, false, false] rfl rfl (take_ofW HT_.out HW_.out (by kernel_rfl)) (fun _ _ _ h => h) (Or.inl ⟨by rfl, ?_⟩) hHeld ?_ ?_
    rotate_left
    · rintro w' ⟨s0, s1⟩
      go_simp
      with_reducible rfl
    rotate_left
    · simp only [Act.put, List.setIfInBounds_toArray, List.set_cons_zero, List.set_cons_succ, i64_w, i32_w]
      rfl
    refine pure_ (i := 21) (N := some 33) (v := ?_) (a' := ?_) #[true, true, true, true, true, false, true, true, true, true, true, true, true, true, true, false, true, true, true, true, true, true, false, true, true, false, false, false, false] rfl rfl (any_of HT_.out (by kernel_rfl)) (fun _ _ _ h => h) (Or.inl ⟨by rfl, ?_⟩) ?_ ?_
    rotate_left
    · intro w'
      go_simp
      with_reducible rfl
    rotate_left
    · simp only [Act.put, List.setIfInBounds_toArray, List.set_cons_zero, List.set_cons_succ, i64_w, i32_w]
      rfl
    refine take_ (i := 22) (N := some 34) (v := ?_) (a' := ?_) #[true, true, true, true, true, false, true, true, true, true, true, true, true, true, true, false, true, true, true, true, true, true, true, true, true, false, false, false, false] rfl rfl (take_ofW HT_.out HW_.out (by kernel_rfl)) (fun _ _ _ h => h) (Or.inl ⟨by rfl, ?_⟩) hHeld ?_ ?_
    rotate_left
    · rintro w' ⟨s0, s1⟩
      go_simp
      with_reducible rfl
    rotate_left
    · simp only [Act.put, List.setIfInBounds_toArray, List.set_cons_zero, List.set_cons_succ, i64_w, i32_w]
      rfl
    refine pure_ (i := 25) (N := some 37) (v := ?_) (a' := ?_) #[true, true, true, true, true, false, true, true, true, true, true, true, true, true, true, false, true, true, true, true, true, true, true, true, true, true, false, false, false] rfl rfl (any_of HT_.out (by kernel_rfl)) (fun _ _ _ h => h) (Or.inl ⟨by rfl, ?_⟩) ?_ ?_
    rotate_left
    · intro w'
      go_simp
      with_reducible rfl
    rotate_left
    · simp only [Act.put, List.setIfInBounds_toArray, List.set_cons_zero, List.set_cons_succ, i64_w, i32_w]
      rfl
    refine one_ (i := 5) (N := some 17) #[true, true, true, true, true, true, true, true, true, true, true, true, true, true, true, false, true, true, true, true, true, true, true, true, true, true, false, false, false] rfl rfl (one_of HT_.out (by kernel_rfl)) (by decide) (fun K hK => ?_)
    refine value_ (w1 := ?_) (v := ?_) (by rfl) rfl ?_ ?_
    rotate_left 2
    · go_simp
      constructor
      · rfl
      · rfl
    refine hK.out _ _ ⟨(pw_cell_below (by repeat (first | exact Below.refl _ _ | apply below_alloc | apply pw_below_drewN | apply below_drew1)) c0), (pw_cell_below (by repeat (first | exact Below.refl _ _ | apply below_alloc | apply pw_below_drewN | apply below_drew1)) c1)⟩ (fun hHeld => ?_)
    clear hK K
    refine norm_ (a' := ?_) ?_ ?_
    rotate_left
    · show Act.put _ (some 17) _ = _
      simp only [Act.put, List.setIfInBounds_toArray, List.set_cons_zero, List.set_cons_succ, i64_w, i32_w]
      rfl
    refine one_ (i := 15) (N := some 27) #[true, true, true, true, true, true, true, true, true, true, true, true, true, true, true, true, true, true, true, true, true, true, true, true, true, true, false, false, false] rfl rfl (one_of HT_.out (by kernel_rfl)) (by decide) (fun K hK => ?_)
    refine row_step (by rfl) (.tmp 17) (.tmp 26) 43 43 69 (.agg #[.slice none 0 0, .bool false]) 2 32 rfl Try.underlying43 infoIm rfl (by decide) (by decide) (.slice (some ⟨w.heap.size, 0, none⟩) 0 0) (.slice (some ⟨b, off, none⟩) j n) 0 j [] (flat (ps.take j)) (fun _ => False) rfl rfl (Row.nil _ _ _ _) ?_ ?_ ?_
    · exact Row.src ((Hr.out.take HN.out j (by omega) (by omega)).below (by decide) (by repeat (first | exact Below.refl _ _ | apply below_alloc | apply pw_below_drewN | apply below_drew1))) Try.underlying43 (Good.one (fun p hp => HGG.out p (List.mem_of_mem_take hp)))
    · omega
    intro v27 w27 hr27 hl27
    obtain ⟨hr27, hb27⟩ := row_first (w := w) (by repeat (first | exact Below.refl _ _ | apply below_alloc | apply pw_below_drewN | apply below_drew1)) hr27 hl27
    have d0 := pw_cell_below hb27 c0
    have d1 := pw_cell_below hb27 c1
    refine hK.out _ _ ⟨d0, d1⟩ (fun hHeld => ?_)
    clear hK K
    refine norm_ (a' := ?_) ?_ ?_
    rotate_left
    · show Act.put _ (some 27) _ = _
      simp only [Act.put, List.setIfInBounds_toArray, List.set_cons_zero, List.set_cons_succ, i64_w, i32_w]
      rfl
    refine one_ (i := 26) (N := some 38) #[true, true, true, true, true, true, true, true, true, true, true, true, true, true, true, true, true, true, true, true, true, true, true, true, true, true, true, false, false] rfl rfl (one_of HT_.out (by kernel_rfl)) (by decide) (fun K hK => ?_)
    refine row_step (by rfl) (.tmp 27) (.tmp 37) 43 43 69 (.agg #[.slice none 0 0, .bool false]) 2 32 rfl Try.underlying43 infoIm rfl (by decide) (by decide) v27 (.slice (some ⟨b, off, none⟩) 0 0) j 0 (flat (ps.take j)) (flat (ps.drop n)) (fun k => w.heap.size ≤ k) rfl rfl hr27 ?_ ?_ ?_
    · exact Row.src (HDr.out.below (by decide) hb27) Try.underlying43 (Good.one (fun p hp => HGG.out p (List.mem_of_mem_drop hp)))
    · omega
    intro v38 w38 hr38 hl38
    obtain ⟨hr38, hb38⟩ := row_more hb27 hr38 hl38
    obtain ⟨A38, c38, rfl, _⟩ := hr38.shape
    have e0 := pw_cell_below hb38 c0
    have e1 := pw_cell_below hb38 c1
    have f38 := blk_frozen (blk_below H3.out hb38) m
    refine hK.out _ _ ⟨e0, e1⟩ (fun hHeld => ?_)
    clear hK K
    refine norm_ (a' := ?_) ?_ ?_
    rotate_left
    · show Act.put _ (some 38) _ = _
      simp only [Act.put, List.setIfInBounds_toArray, List.set_cons_zero, List.set_cons_succ, i64_w, i32_w]
      rfl
    refine pure_ (i := 27) (N := some 39) (v := ?_) (a' := ?_) #[true, true, true, true, true, true, true, true, true, true, true, true, true, true, true, true, true, true, true, true, true, true, true, true, true, true, true, true, false] rfl rfl (any_of HT_.out (by kernel_rfl)) (fun _ _ _ h => h) (Or.inl ⟨by rfl, ?_⟩) ?_ ?_
    rotate_left
    · intro w'
      go_simp
      with_reducible rfl
    rotate_left
    · simp only [Act.put, List.setIfInBounds_toArray, List.set_cons_zero, List.set_cons_succ, i64_w, i32_w]
      rfl
    refine last_ (i := 28) (N := none) #[true, true, true, true, true, true, true, true, true, true, true, true, true, true, true, true, true, true, true, true, true, true, true, true, true, true, true, true, true] rfl rfl (one_of HT_.out (by kernel_rfl)) (by decide) (fun K hK => ?_)
    refine skip_ (w1 := ?_) (by rfl) rfl ?_ ?_
    rotate_left
    · go_simp
      rfl
    refine hK.out _ _ ?_
    clear hK K
    refine done_ (done_of HT_.out (by kernel_rfl)) ?_
    go_wp2
    go_ret
    refine ⟨rfl, ?_⟩
    have hlen : (ps.take j ++ ps.drop n).length = j := by
      have := HN.out
      simp
      omega
    have hr' : Row w38 2 (fun k => w.heap.size ≤ k) (.slice A38 (j) c38) (ps.take j ++ ps.drop n).length (flat (ps.take j ++ ps.drop n)) := by
      rw [hlen, flat_append]
      exact hr38
    have key := mid_row HR.out HLA.out HC.out HM.out H3.out HB.out hb38 _ hr' (fun _ h => h) (fun p hp => (HGG.out p (by
      rcases List.mem_append.1 hp with hp | hp
      · exact List.mem_of_mem_take hp
      · exact List.mem_of_mem_drop hp)).below hb38)
    rw [List.map_append, List.map_take, List.map_drop, HE.out] at key
    rw [List.eraseIdx_eq_take_drop_succ, HK.out]
    exact key
  · have hck' : ¬ k = cap := fun h => hck h.symm
    simp only [if_neg hck] at HDr
    refine start_ (n := 29) (S := fun w' => w'.cell? ⟨g, 0, none⟩ = some (.slice (some ⟨gq, 0, none⟩) qs.length qs.length) ∧ w'.cell? ⟨gq, m, none⟩ = some (.slice (some ⟨b, off, none⟩) n cap)) (ds := [28]) #[false, false, false, false, false, false, false, false, false, false, false, false, false, false, false, false, false, false, false, false, false, false, false, false, false, false, false, false, false] (by kernel_rfl) rfl rfl ⟨c0, c1⟩ (fun hHeld => ?_)
    refine with_tabW mdrop_ok.tab3 mdrop_ok.bits3 (fun HT_ HW_ => ?_)
    refine pure_ (i := 0) (N := some 12) (v := ?_) (a' := ?_) #[true, false, false, false, false, false, false, false, false, false, false, false, false, false, false, false, false, false, false, false, false, false, false, false, false, false, false, false, false] rfl rfl (any_of HT_.out (by kernel_rfl)) (fun _ _ _ h => h) (Or.inl ⟨by rfl, ?_⟩) ?_ ?_
    rotate_left
    · intro w'
      go_simp
      with_reducible rfl
    rotate_left
    · simp only [Act.put, List.setIfInBounds_toArray, List.set_cons_zero, List.set_cons_succ, i64_w, i32_w]
      rfl
    refine pure_ (i := 1) (N := some 13) (v := ?_) (a' := ?_) #[true, true, false, false, false, false, false, false, false, false, false, false, false, false, false, false, false, false, false, false, false, false, false, false, false, false, false, false, false] rfl rfl (any_of HT_.out (by kernel_rfl)) (fun _ _ _ h => h) (Or.inl ⟨by rfl, ?_⟩) ?_ ?_
    rotate_left
    · intro w'
      go_simp
      with_reducible rfl
    rotate_left
    · simp only [Act.put, List.setIfInBounds_toArray, List.set_cons_zero, List.set_cons_succ, i64_w, i32_w]
      rfl
    refine pure_ (i := 2) (N := some 14) (v := ?_) (a' := ?_) #[true, true, true, false, false, false, false, false, false, false, false, false, false, false, false, false, false, false, false, false, false, false, false, false, false, false, false, false, false] rfl rfl (any_of HT_.out (by kernel_rfl)) (fun _ _ _ h => h) (Or.inl ⟨by rfl, ?_⟩) ?_ ?_
    rotate_left
    · intro w'
      go_simp
      with_reducible rfl
    rotate_left
    · simp only [Act.put, List.setIfInBounds_toArray, List.set_cons_zero, List.set_cons_succ, i64_w, i32_w]
      rfl
    refine pure_ (i := 4) (N := some 16) (v := ?_) (a' := ?_) #[true, true, true, false, true, false, false, false, false, false, false, false, false, false, false, false, false, false, false, false, false, false, false, false, false, false, false, false, false] rfl rfl (any_of HT_.out (by kernel_rfl)) (fun _ _ _ h => h) (Or.inl ⟨by rfl, ?_⟩) ?_ ?_
    rotate_left
    · intro w'
      go_simp
      with_reducible rfl
    rotate_left
    · simp only [Act.put, List.setIfInBounds_toArray, List.set_cons_zero, List.set_cons_succ, i64_w, i32_w]
      rfl
    refine pure_ (i := 6) (N := some 18) (v := ?_) (a' := ?_) #[true, true, true, false, true, false, true, false, false, false, false, false, false, false, false, false, false, false, false, false, false, false, false, false, false, false, false, false, false] rfl rfl (any_of HT_.out (by kernel_rfl)) (fun _ _ _ h => h) (Or.inl ⟨by rfl, ?_⟩) ?_ ?_
    rotate_left
    · intro w'
      go_simp
      with_reducible rfl
    rotate_left
    · simp only [Act.put, List.setIfInBounds_toArray, List.set_cons_zero, List.set_cons_succ, i64_w, i32_w]
      rfl
    refine pure_ (i := 7) (N := some 19) (v := ?_) (a' := ?_) #[true, true, true, false, true, false, true, true, false, false, false, false, false, false, false, false, false, false, false, false, false, false, false, false, false, false, false, false, false] rfl rfl (any_of HT_.out (by kernel_rfl)) (fun _ _ _ h => h) (Or.inl ⟨by rfl, ?_⟩) ?_ ?_
    rotate_left
    · intro w'
      go_simp
      with_reducible rfl
    rotate_left
    · simp only [Act.put, List.setIfInBounds_toArray, List.set_cons_zero, List.set_cons_succ, i64_w, i32_w]
      rfl
    refine pure_ (i := 8) (N := some 20) (v := ?_) (a' := ?_) #[true, true, true, false, true, false, true, true, true, false, false, false, false, false, false, false, false, false, false, false, false, false, false, false, false, false, false, false, false] rfl rfl (any_of HT_.out (by kernel_rfl)) (fun _ _ _ h => h) (Or.inl ⟨by rfl, ?_⟩) ?_ ?_
    rotate_left
    · intro w'
      go_simp
      with_reducible rfl
    rotate_left
    · simp only [Act.put, List.setIfInBounds_toArray, List.set_cons_zero, List.set_cons_succ, i64_w, i32_w]
      rfl
    refine pure_ (i := 10) (N := some 22) (v := ?_) (a' := ?_) #[true, true, true, false, true, false, true, true, true, false, true, false, false, false, false, false, false, false, false, false, false, false, false, false, false, false, false, false, false] rfl rfl (any_of HT_.out (by kernel_rfl)) (fun _ _ _ h => h) (Or.inl ⟨by rfl, ?_⟩) ?_ ?_
    rotate_left
    · intro w'
      go_simp
      with_reducible rfl
    rotate_left
    · simp only [Act.put, List.setIfInBounds_toArray, List.set_cons_zero, List.set_cons_succ, i64_w, i32_w]
      rfl
    refine pure_ (i := 13) (N := some 25) (v := ?_) (a' := ?_) #[true, true, true, false, true, false, true, true, true, false, true, false, false, true, false, false, false, false, false, false, false, false, false, false, false, false, false, false, false] rfl rfl (any_of HT_.out (by kernel_rfl)) (fun _ _ _ h => h) (Or.inl ⟨by rfl, ?_⟩) ?_ ?_
    rotate_left
    · intro w'
      go_simp
      with_reducible rfl
    rotate_left
    · simp only [Act.put, List.setIfInBounds_toArray, List.set_cons_zero, List.set_cons_succ, i64_w, i32_w]
      rfl
    refine pure_ (i := 16) (N := some 28) (v := ?_) (a' := ?_) #[true, true, true, false, true, false, true, true, true, false, true, false, false, true, false, false, true, false, false, false, false, false, false, false, false, false, false, false, false] rfl rfl (any_of HT_.out (by kernel_rfl)) (fun _ _ _ h => h) (Or.inl ⟨by rfl, ?_⟩) ?_ ?_
    rotate_left
    · intro w'
      go_simp
      with_reducible rfl
    rotate_left
    · simp only [Act.put, List.setIfInBounds_toArray, List.set_cons_zero, List.set_cons_succ, i64_w, i32_w]
      rfl
    refine pure_ (i := 17) (N := some 29) (v := ?_) (a' := ?_) #[true, true, true, false, true, false, true, true, true, false, true, false, false, true, false, false, true, true, false, false, false, false, false, false, false, false, false, false, false] rfl rfl (any_of HT_.out (by kernel_rfl)) (fun _ _ _ h => h) (Or.inl ⟨by rfl, ?_⟩) ?_ ?_
    rotate_left
    · intro w'
      go_simp
      with_reducible rfl
    rotate_left
    · simp only [Act.put, List.setIfInBounds_toArray, List.set_cons_zero, List.set_cons_succ, i64_w, i32_w]
      rfl
    refine pure_ (i := 18) (N := some 30) (v := ?_) (a' := ?_) #[true, true, true, false, true, false, true, true, true, false, true, false, false, true, false, false, true, true, true, false, false, false, false, false, false, false, false, false, false] rfl rfl (any_of HT_.out (by kernel_rfl)) (fun _ _ _ h => h) (Or.inl ⟨by rfl, ?_⟩) ?_ ?_
    rotate_left
    · intro w'
      go_simp
      with_reducible rfl
    rotate_left
    · simp only [Act.put, List.setIfInBounds_toArray, List.set_cons_zero, List.set_cons_succ, i64_w, i32_w]
      rfl
    refine pure_ (i := 20) (N := some 32) (v := ?_) (a' := ?_) #[true, true, true, false, true, false, true, true, true, false, true, false, false, true, false, false, true, true, true, false, true, false, false, false, false, false, false, false, false] rfl rfl (any_of HT_.out (by kernel_rfl)) (fun _ _ _ h => h) (Or.inl ⟨by rfl, ?_⟩) ?_ ?_
    rotate_left
    · intro w'
      go_simp
      with_reducible rfl
    rotate_left
    · simp only [Act.put, List.setIfInBounds_toArray, List.set_cons_zero, List.set_cons_succ, i64_w, i32_w]
      rfl
    refine pure_ (i := 23) (N := some 35) (v := ?_) (a' := ?_) #[true, true, true, false, true, false, true, true, true, false, true, false, false, true, false, false, true, true, true, false, true, false, false, true, false, false, false, false, false] rfl rfl (any_of HT_.out (by kernel_rfl)) (fun _ _ _ h => h) (Or.inl ⟨by rfl, ?_⟩) ?_ ?_
    rotate_left
    · intro w'
      go_simp
      with_reducible rfl
    rotate_left
    · simp only [Act.put, List.setIfInBounds_toArray, List.set_cons_zero, List.set_cons_succ, i64_w, i32_w]
      rfl
    refine pure_ (i := 24) (N := some 36) (v := ?_) (a' := ?_) #[true, true, true, false, true, false, true, true, true, false, true, false, false, true, false, false, true, true, true, false, true, false, false, true, true, false, false, false, false] rfl rfl (any_of HT_.out (by kernel_rfl)) (fun _ _ _ h => h) (Or.inl ⟨by rfl, ?_⟩) ?_ ?_
    rotate_left
    · intro w'
      go_simp
      with_reducible rfl
    rotate_left
    · simp only [Act.put, List.setIfInBounds_toArray, List.set_cons_zero, List.set_cons_succ, i64_w, i32_w]
      rfl
    refine take_ (i := 3) (N := some 15) (v := ?_) (a' := ?_) #[true, true, true, true, true, false, true, true, true, false, true, false, false, true, false, false, true, true, true, false, true, false, false, true, true, false, false, false, false] rfl rfl (take_ofW HT_.out HW_.out (by kernel_rfl)) (fun _ _ _ h => h) (Or.inl ⟨by rfl, ?_⟩) hHeld ?_ ?_
    rotate_left
    · rintro w' ⟨s0, s1⟩
      go_simp
      with_reducible rfl
    rotate_left
    · simp only [Act.put, List.setIfInBounds_toArray, List.set_cons_zero, List.set_cons_succ, i64_w, i32_w]
      rfl
    refine take_ (i := 9) (N := some 21) (v := ?_) (a' := ?_) #[true, true, true, true, true, false, true, true, true, true, true, false, false, true, false, false, true, true, true, false, true, false, false, true, true, false, false, false, false] rfl rfl (take_ofW HT_.out HW_.out (by kernel_rfl)) (fun _ _ _ h => h) (Or.inl ⟨by rfl, ?_⟩) hHeld ?_ ?_
    rotate_left
    · rintro w' ⟨s0, s1⟩
      go_simp
      with_reducible rfl
    rotate_left
    · simp only [Act.put, List.setIfInBounds_toArray, List.set_cons_zero, List.set_cons_succ, i64_w, i32_w]
      rfl
    refine pure_ (i := 11) (N := some 23) (v := ?_) (a' := ?_) #[true, true, true, true, true, false, true, true, true, true, true, true, false, true, false, false, true, true, true, false, true, false, false, true, true, false, false, false, false] rfl rfl (any_of HT_.out (by kernel_rfl)) (fun _ _ _ h => h) (Or.inl ⟨by rfl, ?_⟩) ?_ ?_
    rotate_left
    · intro w'
      go_simp
      with_reducible rfl
    rotate_left
    · simp only [Act.put, List.setIfInBounds_toArray, List.set_cons_zero, List.set_cons_succ, i64_w, i32_w]
      rfl
    refine take_ (i := 12) (N := some 24) (v := ?_) (a' := ?_) #[true, true, true, true, true, false, true, true, true, true, true, true, true, true, false, false, true, true, true, false, true, false, false, true, true, false, false, false, false] rfl rfl (take_ofW HT_.out HW_.out (by kernel_rfl)) (fun _ _ _ h => h) (Or.inl ⟨by rfl, ?_⟩) hHeld ?_ ?_
    rotate_left
    · rintro w' ⟨s0, s1⟩
      go_simp
      with_reducible rfl
    rotate_left
    · simp only [Act.put, List.setIfInBounds_toArray, List.set_cons_zero, List.set_cons_succ, i64_w, i32_w]
      rfl
    refine pure_ (i := 14) (N := some 26) (v := ?_) (a' := ?_) #[true, true, true, true, true, false, true, true, true, true, true, true, true, true, true, false, true, true, true, false, true, false, false, true, true, false, false, false, false] rfl rfl (any_of HT_.out (by kernel_rfl)) (fun _ _ _ h => h) (Or.inl ⟨by rfl, ?_⟩) ?_ ?_
    rotate_left
    · intro w'
      go_simp
      with_reducible rfl
    rotate_left
    · simp only [Act.put, List.setIfInBounds_toArray, List.set_cons_zero, List.set_cons_succ, i64_w, i32_w]
      rfl
    refine take_ (i := 19) (N := some 31) (v := ?_) (a' := ?_) #[true, true, true, true, true, false, true, true, true, true, true, true, true, true, true, false, true, true, true, true, true, false, false, true, true, false, false, false, false] rfl rfl (take_ofW HT_.out HW_.out (by kernel_rfl)) (fun _ _ _ h => h) (Or.inl ⟨by rfl, ?_⟩) hHeld ?_ ?_
    rotate_left
    · rintro w' ⟨s0, s1⟩
      go_simp
      with_reducible rfl
    rotate_left
    · simp only [Act.put, List.setIfInBounds_toArray, List.set_cons_zero, List.set_cons_succ, i64_w, i32_w]
      rfl
    refine pure_ (i := 21) (N := some 33) (v := ?_) (a' := ?_) #[true, true, true, true, true, false, true, true, true, true, true, true, true, true, true, false, true, true, true, true, true, true, false, true, true, false, false, false, false] rfl rfl (any_of HT_.out (by kernel_rfl)) (fun _ _ _ h => h) (Or.inl ⟨by rfl, ?_⟩) ?_ ?_
    rotate_left
    · intro w'
      go_simp
      with_reducible rfl
    rotate_left
    · simp only [Act.put, List.setIfInBounds_toArray, List.set_cons_zero, List.set_cons_succ, i64_w, i32_w]
      rfl
    refine take_ (i := 22) (N := some 34) (v := ?_) (a' := ?_) #[true, true, true, true, true, false, true, true, true, true, true, true, true, true, true, false, true, true, true, true, true, true, true, true, true, false, false, false, false] rfl rfl (take_ofW HT_.out HW_.out (by kernel_rfl)) (fun _ _ _ h => h) (Or.inl ⟨by rfl, ?_⟩) hHeld ?_ ?_
    rotate_left
    · rintro w' ⟨s0, s1⟩
      go_simp
      with_reducible rfl
    rotate_left
    · simp only [Act.put, List.setIfInBounds_toArray, List.set_cons_zero, List.set_cons_succ, i64_w, i32_w]
      rfl
    refine pure_ (i := 25) (N := some 37) (v := ?_) (a' := ?_) #[true, true, true, true, true, false, true, true, true, true, true, true, true, true, true, false, true, true, true, true, true, true, true, true, true, true, false, false, false] rfl rfl (any_of HT_.out (by kernel_rfl)) (fun _ _ _ h => h) (Or.inl ⟨by rfl, ?_⟩) ?_ ?_
    rotate_left
    · intro w'
      go_simp
      with_reducible rfl
    rotate_left
    · simp only [Act.put, List.setIfInBounds_toArray, List.set_cons_zero, List.set_cons_succ, i64_w, i32_w]
      rfl
    refine one_ (i := 5) (N := some 17) #[true, true, true, true, true, true, true, true, true, true, true, true, true, true, true, false, true, true, true, true, true, true, true, true, true, true, false, false, false] rfl rfl (one_of HT_.out (by kernel_rfl)) (by decide) (fun K hK => ?_)
    refine value_ (w1 := ?_) (v := ?_) (by rfl) rfl ?_ ?_
    rotate_left 2
    · go_simp
      constructor
      · rfl
      · rfl
    refine hK.out _ _ ⟨(pw_cell_below (by repeat (first | exact Below.refl _ _ | apply below_alloc | apply pw_below_drewN | apply below_drew1)) c0), (pw_cell_below (by repeat (first | exact Below.refl _ _ | apply below_alloc | apply pw_below_drewN | apply below_drew1)) c1)⟩ (fun hHeld => ?_)
    clear hK K
    refine norm_ (a' := ?_) ?_ ?_
    rotate_left
    · show Act.put _ (some 17) _ = _
      simp only [Act.put, List.setIfInBounds_toArray, List.set_cons_zero, List.set_cons_succ, i64_w, i32_w]
      rfl
    refine one_ (i := 15) (N := some 27) #[true, true, true, true, true, true, true, true, true, true, true, true, true, true, true, true, true, true, true, true, true, true, true, true, true, true, false, false, false] rfl rfl (one_of HT_.out (by kernel_rfl)) (by decide) (fun K hK => ?_)
    refine row_step (by rfl) (.tmp 17) (.tmp 26) 43 43 69 (.agg #[.slice none 0 0, .bool false]) 2 32 rfl Try.underlying43 infoIm rfl (by decide) (by decide) (.slice (some ⟨w.heap.size, 0, none⟩) 0 0) (.slice (some ⟨b, off, none⟩) j cap) 0 j [] (flat (ps.take j)) (fun _ => False) rfl rfl (Row.nil _ _ _ _) ?_ ?_ ?_
    · exact Row.src ((Hr.out.take HN.out j (by omega) (by omega)).below (by decide) (by repeat (first | exact Below.refl _ _ | apply below_alloc | apply pw_below_drewN | apply below_drew1))) Try.underlying43 (Good.one (fun p hp => HGG.out p (List.mem_of_mem_take hp)))
    · omega
    intro v27 w27 hr27 hl27
    obtain ⟨hr27, hb27⟩ := row_first (w := w) (by repeat (first | exact Below.refl _ _ | apply below_alloc | apply pw_below_drewN | apply below_drew1)) hr27 hl27
    have d0 := pw_cell_below hb27 c0
    have d1 := pw_cell_below hb27 c1
    refine hK.out _ _ ⟨d0, d1⟩ (fun hHeld => ?_)
    clear hK K
    refine norm_ (a' := ?_) ?_ ?_
    rotate_left
    · show Act.put _ (some 27) _ = _
      simp only [Act.put, List.setIfInBounds_toArray, List.set_cons_zero, List.set_cons_succ, i64_w, i32_w]
      rfl
    refine one_ (i := 26) (N := some 38) #[true, true, true, true, true, true, true, true, true, true, true, true, true, true, true, true, true, true, true, true, true, true, true, true, true, true, true, false, false] rfl rfl (one_of HT_.out (by kernel_rfl)) (by decide) (fun K hK => ?_)
    refine row_step (by rfl) (.tmp 27) (.tmp 37) 43 43 69 (.agg #[.slice none 0 0, .bool false]) 2 32 rfl Try.underlying43 infoIm rfl (by decide) (by decide) v27 (.slice (some ⟨b, off + k * 2, none⟩) (n - k) (cap - k)) j (n - k) (flat (ps.take j)) (flat (ps.drop k)) (fun k => w.heap.size ≤ k) rfl rfl hr27 ?_ ?_ ?_
    · exact Row.src (HDr.out.below (by decide) hb27) Try.underlying43 (Good.one (fun p hp => HGG.out p (List.mem_of_mem_drop hp)))
    · omega
    intro v38 w38 hr38 hl38
    obtain ⟨hr38, hb38⟩ := row_more hb27 hr38 hl38
    obtain ⟨A38, c38, rfl, _⟩ := hr38.shape
    have e0 := pw_cell_below hb38 c0
    have e1 := pw_cell_below hb38 c1
    have f38 := blk_frozen (blk_below H3.out hb38) m
    refine hK.out _ _ ⟨e0, e1⟩ (fun hHeld => ?_)
    clear hK K
    refine norm_ (a' := ?_) ?_ ?_
    rotate_left
    · show Act.put _ (some 38) _ = _
      simp only [Act.put, List.setIfInBounds_toArray, List.set_cons_zero, List.set_cons_succ, i64_w, i32_w]
      rfl
    refine pure_ (i := 27) (N := some 39) (v := ?_) (a' := ?_) #[true, true, true, true, true, true, true, true, true, true, true, true, true, true, true, true, true, true, true, true, true, true, true, true, true, true, true, true, false] rfl rfl (any_of HT_.out (by kernel_rfl)) (fun _ _ _ h => h) (Or.inl ⟨by rfl, ?_⟩) ?_ ?_
    rotate_left
    · intro w'
      go_simp
      with_reducible rfl
    rotate_left
    · simp only [Act.put, List.setIfInBounds_toArray, List.set_cons_zero, List.set_cons_succ, i64_w, i32_w]
      rfl
    refine last_ (i := 28) (N := none) #[true, true, true, true, true, true, true, true, true, true, true, true, true, true, true, true, true, true, true, true, true, true, true, true, true, true, true, true, true] rfl rfl (one_of HT_.out (by kernel_rfl)) (by decide) (fun K hK => ?_)
    refine skip_ (w1 := ?_) (by rfl) rfl ?_ ?_
    rotate_left
    · go_simp
      rfl
    refine hK.out _ _ ?_
    clear hK K
    refine done_ (done_of HT_.out (by kernel_rfl)) ?_
    go_wp2
    go_ret
    refine ⟨rfl, ?_⟩
    have hlen : (ps.take j ++ ps.drop k).length = j + (n - k) := by
      have := HN.out
      simp
      omega
    have hr' : Row w38 2 (fun k => w.heap.size ≤ k) (.slice A38 (j + (n - k)) c38) (ps.take j ++ ps.drop k).length (flat (ps.take j ++ ps.drop k)) := by
      rw [hlen, flat_append]
      exact hr38
    have key := mid_row HR.out HLA.out HC.out HM.out H3.out HB.out hb38 _ hr' (fun _ h => h) (fun p hp => (HGG.out p (by
      rcases List.mem_append.1 hp with hp | hp
      · exact List.mem_of_mem_take hp
      · exact List.mem_of_mem_drop hp)).below hb38)
    rw [List.map_append, List.map_take, List.map_drop, HE.out] at key
    rw [List.eraseIdx_eq_take_drop_succ, HK.out]
    exact key
end Go.Proofs.Yteeddalalfemmaa.K

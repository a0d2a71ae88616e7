/- cachetteref04: rows of stamps told by their cells. -/
import Derived.Test.YtfingknhciogkaaSsP
import Derived.Deep.Upon
namespace Go.Proofs.Ytfingknhciogkaa.K
open Go.RowKit Go.Proofs.YtfingknhciogkaaW.PrintWords Go.Proofs.YtfingknhciogkaaW.PrintLast Go.Proofs.YtfingknhciogkaaW.PrintMore
set_option linter.unusedVariables false
set_option linter.unusedSimpArgs false

/-- A row told by its cells: n elements, the cells olds; it lies in a block that is ok; its spare is there. -/
def Row (W : World) (size : Nat) (ok : Nat → Prop) (v : Value) (n : Nat) (olds : List Value) : Prop :=
  (n = 0 ∧ olds = [] ∧ ∃ ao, v = .slice ao 0 0) ∨
  ∃ b off cap, v = .slice (some ⟨b, off, none⟩) n cap ∧ 0 < cap ∧ n ≤ cap ∧ cap ≤ maxLen ∧ ok b ∧ olds.length = n * size ∧
    (∀ j, j < olds.length → W.cell? ⟨b, off + j, none⟩ = olds[j]?) ∧ ∀ j, j < cap * size → (W.cell? ⟨b, off + j, none⟩).isSome = true ∧ W.frozen? ⟨b, off + j, none⟩ = false
/-- What an append to such a row leaves. -/
structure Lv (w w' : World) (ok : Nat → Prop) : Prop where
  os : w'.os = w.os
  tape : w'.tape = w.tape
  output : w'.output = w.output
  size : w.heap.size ≤ w'.heap.size
  block : ∀ k, k < w.heap.size → ¬ ok k → w'.heap[k]? = w.heap[k]?
theorem Lv.refl (w : World) (ok : Nat → Prop) : Lv w w ok := ⟨rfl, rfl, rfl, Nat.le_refl _, fun _ _ _ => rfl⟩
theorem Lv.trans {a b c : World} {ok : Nat → Prop} (h : Lv a b ok) (k : Lv b c ok) : Lv a c ok :=
  ⟨k.os.trans h.os, k.tape.trans h.tape, k.output.trans h.output, Nat.le_trans h.size k.size, fun i hi hn => (k.block i (Nat.lt_of_lt_of_le hi h.size) hn).trans (h.block i hi hn)⟩
theorem Lv.mono {a b : World} {ok ok' : Nat → Prop} (h : Lv a b ok) (hk : ∀ k, k < a.heap.size → ok k → ok' k) : Lv a b ok' := ⟨h.os, h.tape, h.output, h.size, fun i hi hn => h.block i hi (fun ho => hn (hk i hi ho))⟩
theorem Lv.ofBelow {a b : World} (ok : Nat → Prop) (h : Below a.heap.size a b) : Lv a b ok := ⟨h.os, h.tape, h.output, h.size, fun i hi _ => h.block i hi⟩
theorem Lv.below {w0 a b : World} {ok : Nat → Prop} (h : Lv a b ok) (hB : Below w0.heap.size w0 a) (hk : ∀ k, ok k → w0.heap.size ≤ k) : Below w0.heap.size w0 b :=
  ⟨h.os.trans hB.os, h.tape.trans hB.tape, h.output.trans hB.output, Nat.le_trans hB.size h.size, fun i hi => (h.block i (Nat.lt_of_lt_of_le hi hB.size) (fun ho => by have := hk i ho; omega)).trans (hB.block i hi)⟩
theorem Row.mono {W : World} {size : Nat} {ok ok' : Nat → Prop} {v : Value} {n : Nat} {olds : List Value} (h : Row W size ok v n olds) (hk : ∀ k, ok k → ok' k) : Row W size ok' v n olds :=
  h.imp id fun ⟨b, off, cap, h1, h2, h3, h4, h5, h6⟩ => ⟨b, off, cap, h1, h2, h3, h4, hk b h5, h6⟩
theorem Row.nil (W : World) (size : Nat) (ok : Nat → Prop) (ao : Option Addr) : Row W size ok (.slice ao 0 0) 0 [] := .inl ⟨rfl, rfl, ao, rfl⟩
theorem Row.lt {W : World} {size b off cap : Nat} (hs : 0 < size) (hc : 0 < cap) (h : ∀ j, j < cap * size → (W.cell? ⟨b, off + j, none⟩).isSome = true ∧ W.frozen? ⟨b, off + j, none⟩ = false) : b < W.heap.size := by
  have h1 := (h 0 (Nat.mul_pos hc hs)).1
  obtain ⟨u, hu⟩ := Option.isSome_iff_exists.1 h1
  exact World.block_lt_of_cell? _ _ hu
theorem Row.bound {W : World} {size : Nat} {ok : Nat → Prop} {v : Value} {n : Nat} {olds : List Value} (hs : 0 < size) (h : Row W size ok v n olds) : Row W size (fun k => ok k ∧ k < W.heap.size) v n olds :=
  h.imp id fun ⟨b, off, cap, h1, h2, h3, h4, h5, h6, h7, h8⟩ => ⟨b, off, cap, h1, h2, h3, h4, ⟨h5, Row.lt hs h2 h8⟩, h6, h7, h8⟩
theorem Row.step {W W' : World} {size : Nat} {ok : Nat → Prop} {v : Value} {n : Nat} {olds : List Value} (hs : 0 < size) (h : Row W size ok v n olds) (hb : ∀ k, k < W.heap.size → ok k → W'.heap[k]? = W.heap[k]?) : Row W' size ok v n olds :=
  h.imp id fun ⟨b, off, cap, h1, h2, h3, h4, h5, h6, h7, h8⟩ => by
    have e := hb b (Row.lt hs h2 h8) h5
    exact ⟨b, off, cap, h1, h2, h3, h4, h5, h6, fun j hj => (World.cell?_of_block (a := ⟨b, off + j, none⟩) e).trans (h7 j hj), fun j hj => ⟨by rw [World.cell?_of_block (a := ⟨b, off + j, none⟩) e]; exact (h8 j hj).1, (World.frozen?_of_block (a := ⟨b, off + j, none⟩) e).trans (h8 j hj).2⟩⟩
theorem Row.below {W W' : World} {size : Nat} {ok : Nat → Prop} {v : Value} {n : Nat} {olds : List Value} (hs : 0 < size) (h : Row W size ok v n olds) (hb : Below W.heap.size W W') : Row W' size ok v n olds := h.step hs (fun k hk _ => hb.block k hk)
theorem Row.shape {W : World} {size : Nat} {ok : Nat → Prop} {v : Value} {n : Nat} {olds : List Value} (h : Row W size ok v n olds) : ∃ A c, v = .slice A n c ∧ n ≤ c := by
  rcases h with ⟨rfl, rfl, ao, rfl⟩ | ⟨b, off, cap, rfl, _, h3, _⟩
  · exact ⟨_, _, rfl, Nat.le_refl _⟩
  · exact ⟨_, _, rfl, h3⟩
theorem Row.len {W : World} {size : Nat} {ok : Nat → Prop} {v : Value} {n : Nat} {olds : List Value} (h : Row W size ok v n olds) : olds.length = n * size := by
  rcases h with ⟨rfl, rfl, ao, rfl⟩ | ⟨b, off, cap, rfl, _, h3, _, _, h, _⟩
  · simp
  · exact h
/-- The row without its first elements; its first elements alone. -/
theorem Row.at {W : World} {size : Nat} {ok : Nat → Prop} {v : Value} {n : Nat} {olds : List Value} (h : Row W size ok v n olds) (hn : 0 < n) :
    ∃ b off cap, v = .slice (some ⟨b, off, none⟩) n cap ∧ n ≤ cap ∧ ok b ∧ (∀ j, j < n * size → W.cell? ⟨b, off + j, none⟩ = olds[j]?) ∧ ∀ j, j < cap * size → (W.cell? ⟨b, off + j, none⟩).isSome = true ∧ W.frozen? ⟨b, off + j, none⟩ = false := by
  rcases h with ⟨rfl, rfl, ao, rfl⟩ | ⟨b, off, cap, rfl, _, h3, _, h5, h6, h7, h8⟩
  · omega
  · exact ⟨b, off, cap, rfl, h3, h5, fun j hj => h7 j (by omega), h8⟩

section
variable {P : Program}
theorem Row.src {w : World} {size : Nat} {ok : Nat → Prop} {v : Value} {n : Nat} {olds : List Value} (h : Row w size ok v n olds) {tx e' : TypeId} (hk : P.underlying tx = some (.slice e')) (h1 : ∀ u ∈ olds, u.oneCell' = true) : Src P size tx v n olds w := by
  rcases h with ⟨rfl, rfl, ao, rfl⟩ | ⟨b, off, cap, rfl, _, h3, _, h5, h6, h7, h8⟩
  · cases ao with
    | none => exact Src.ofNil w hk 0
    | some a => exact Src.ofSlice w hk a 0 0 [] (by simp) (by intro j u hu; simp at hu) h1
  · exact Src.ofSlice w hk ⟨b, off, none⟩ n cap olds h6 (fun j u hu => by rw [Addr.add_lit]; exact (h7 j (List.getElem?_eq_some_iff.1 hu).1).trans hu) h1
theorem Lv.setCells (b : Nat) : ∀ (vs : List Value) (o : Nat) (w : World), Lv w (w.setCells b o vs) (fun k => k = b)
  | [], _, w => Lv.refl w _
  | v :: r, o, w => Lv.trans (b := w.setCell ⟨b, o, none⟩ v) ⟨rfl, rfl, rfl, by simp [World.setCell], fun k _ hk => Below.heap_setCell _ _ _ _ hk⟩ (Lv.setCells b r (o + 1) _)
theorem row_grow {w : World} {ok : Nat → Prop} {ao : Option Addr} {n cap : Nat} {olds : List Value} {size : Nat} (hs0 : 0 < size) (hol : olds.length = n * size)
    (t tx ty e : TypeId) (i : TypeInfo) (z : Value) (bytes : Nat) (ht : P.underlying t = some (.slice e)) (hi : P.info? e = some i) (hz : i.zero = some z) (hsz : i.size = size) (hby : i.bytes = bytes) (hzs : z.cells.size = size)
    (x : Value) (k : Nat) (news : List Value) (hs : Src P size tx x k news w) (hl : (n + k) * bytes ≤ 140737488355328) (hlen : n + k ≤ 140737488355328) (hg : cap < n + k)
    (hold : (Builtin.firstCells size n (.slice ao n cap)).run P w.drew = .ok olds.toArray w.drew) :
    ∃ v' w', (Builtin.append_ #[t, tx] ty #[.slice ao n cap, x]).run P w = .ok v' w' ∧ Row w' size (fun j => ok j ∨ w.heap.size ≤ j) v' (n + k) (olds ++ news) ∧ Lv w w' ok := by
  subst hsz hby
  have hNL : news.length = k * i.size := hs.newsLen
  have hL : (olds ++ news).length = (n + k) * i.size := by rw [List.length_append, hol, hNL, Nat.add_mul]
  have hge := grownCap_ge w (n + k) cap e
  have hcm := grownCap_le_maxLen w (n + k) cap e (by simp only [maxLen]; omega)
  refine ⟨_, _, run_append_grow_src (P := P) w t tx ty e i z ht hi hz ao n cap olds hold x k news hs hg (by omega) (growslice_fits hg hl), .inr ⟨w.heap.size, 0, _, rfl, by omega, by omega, hcm, .inr (Nat.le_refl _), hL, fun j hj => ?_, fun j hj => ⟨?_, ?_⟩⟩, ⟨rfl, rfl, rfl, by simp, fun q hq _ => Below.heap_alloc w.drew _ q hq⟩⟩
  · have e1 : (w.drew.alloc (.cells ((olds ++ news).toArray ++ Builtin.zeroCells z.cells (grownCap w (n + k) cap e - (n + k))) e)).cell? ⟨w.heap.size, j, none⟩ = _ := World.cell?_alloc_new w.drew _ _ j
    rw [Nat.zero_add, e1, Array.getElem?_append_left (by simpa using hj), List.getElem?_toArray]
  · have e1 : (w.drew.alloc (.cells ((olds ++ news).toArray ++ Builtin.zeroCells z.cells (grownCap w (n + k) cap e - (n + k))) e)).cell? ⟨w.heap.size, j, none⟩ = _ := World.cell?_alloc_new w.drew _ _ j
    rw [Nat.zero_add, e1]
    have hsz : ((olds ++ news).toArray ++ Builtin.zeroCells z.cells (grownCap w (n + k) cap e - (n + k))).size = grownCap w (n + k) cap e * i.size := by
      rw [Array.size_append, List.size_toArray, hL, size_zeroCells, hzs, ← Nat.add_mul]
      congr 1
      omega
    rw [Array.getElem?_eq_getElem (by rw [hsz]; exact hj)]
    rfl
  · rw [Nat.zero_add]
    exact World.frozen?_alloc_new w.drew _ _ j
/-- An append to such a row. -/
theorem row_append {w : World} {ok : Nat → Prop} {v : Value} {n : Nat} {olds : List Value} {size : Nat} (h : Row w size ok v n olds) (hs0 : 0 < size)
    (t tx ty e : TypeId) (z : Value) (bytes : Nat) (ht : P.underlying t = some (.slice e)) (hinfo : (P.info? e).map (fun i => (i.zero, i.size, i.bytes)) = some (some z, size, bytes)) (hzs : z.cells.size = size) (hb0 : 0 < bytes)
    (x : Value) (k : Nat) (news : List Value) (hs : Src P size tx x k news w) (hl : (n + k) * bytes ≤ 140737488355328) :
    ∃ v' w', (Builtin.append_ #[t, tx] ty #[v, x]).run P w = .ok v' w' ∧ Row w' size (fun j => ok j ∨ w.heap.size ≤ j) v' (n + k) (olds ++ news) ∧ Lv w w' ok := by
  obtain ⟨i, hi, hzz⟩ := Option.map_eq_some_iff.1 hinfo
  simp only [Prod.mk.injEq] at hzz
  obtain ⟨hz0, hz1, hz2⟩ := hzz
  have hlen : n + k ≤ 140737488355328 := Nat.le_trans (Nat.le_mul_of_pos_right _ hb0) hl
  have hNL : news.length = k * size := hs.newsLen
  rcases h with ⟨rfl, rfl, ao, rfl⟩ | ⟨b, off, cap, rfl, h2, h3, h4, h5, h6, h7, h8⟩
  · by_cases hk : k = 0
    · subst hk
      have : news = [] := List.eq_nil_of_length_eq_zero (by simpa using hNL)
      subst this hz1
      exact ⟨_, _, run_append_nothing (P := P) w t tx ty e i ht hi ao 0 0 (Nat.le_refl _) x hs, Row.nil _ _ _ _, Lv.refl _ _⟩
    · refine row_grow hs0 (by simp) t tx ty e i z bytes ht hi hz0 hz1 hz2 hzs x k news hs hl hlen (by omega) ?_
      cases ao with
      | none => exact run_firstCells_none w.drew size 0 0 0
      | some a' => exact run_firstCells_some w.drew size 0 a' 0 0 [] (by simp) (by intro _ _ h'; simp at h')
  · have hnk : (n + k) * size = n * size + k * size := Nat.add_mul _ _ _
    by_cases hfit : n + k ≤ cap
    · subst hz1
      have hcap : (n + k) * i.size ≤ cap * i.size := Nat.mul_le_mul_right _ hfit
      have hc1 : ∀ j, j < news.length → (w.cell? ⟨b, off + n * i.size + j, none⟩).isSome = true := fun j hj => by rw [Nat.add_assoc]; exact (h8 _ (by omega)).1
      refine ⟨_, _, run_append_room_src (P := P) w t tx ty e i ht hi b off n cap x k news hs hfit hc1 (fun j hj => by rw [Nat.add_assoc]; exact (h8 _ (by omega)).2), .inr ⟨b, off, cap, rfl, h2, hfit, h4, .inl h5, by rw [List.length_append, h6, hNL, hnk], fun j hj => ?_, fun j hj => ⟨?_, ?_⟩⟩, (Lv.setCells b news _ w).mono (fun k _ e => by rw [e]; exact h5)⟩
      · by_cases hjo : j < olds.length
        · rw [World.cell?_setCells_out b _ _ _ _ (fun _ _ => Or.inl (by show off + j < off + n * i.size; omega)), List.getElem?_append_left hjo]
          exact h7 j hjo
        · rw [List.length_append] at hj
          have ht' : j - olds.length < news.length := by omega
          have := World.cell?_setCells_in b news (off + n * i.size) w hc1 (j - olds.length) ht'
          rw [show off + n * i.size + (j - olds.length) = off + j by omega] at this
          rw [this, List.getElem?_append_right (by omega), List.getElem?_eq_getElem ht']
      · by_cases hin : n * i.size ≤ j ∧ j < n * i.size + news.length
        · have := World.cell?_setCells_in b news (off + n * i.size) w hc1 (j - n * i.size) (by omega)
          rw [show off + n * i.size + (j - n * i.size) = off + j by omega] at this
          rw [this]; rfl
        · rw [World.cell?_setCells_out b _ _ _ _ (fun _ _ => by show off + j < off + n * i.size ∨ off + n * i.size + news.length ≤ off + j; omega)]
          exact (h8 j hj).1
      · rw [World.frozen?_setCells]
        exact (h8 j hj).2
    · refine row_grow hs0 h6 t tx ty e i z bytes ht hi hz0 hz1 hz2 hzs x k news hs hl hlen (by omega) ?_
      exact run_firstCells_some w.drew size n ⟨b, off, none⟩ n cap olds h6 (fun j u hu => by rw [Addr.add_lit]; exact (h7 j (List.getElem?_eq_some_iff.1 hu).1).trans hu)
end
section
variable {P : Program} {ops : Array Oper} {o : Oper} {rest : List Oper} {a : Act} {Q : Exit → Act → World → Prop} {Kc : Act → World → Prop}
/-- .. in a region of open order. -/
theorem row_step {w : World} (hw : Region.wanted o (yielded ops a.tmps) = true) (s x : Operand) (t tx e : TypeId) (z : Value) (size bytes : Nat)
    (ho : o.op = .call { callee := .builtin .append, args := #[s, x], argTypes := #[t, tx] })
    (ht : P.underlying t = some (.slice e)) (hinfo : (P.info? e).map (fun i => (i.zero, i.size, i.bytes)) = some (some z, size, bytes)) (hzs : z.cells.size = size) (hs0 : 0 < size) (hb0 : 0 < bytes)
    (v xv : Value) (n k : Nat) (olds news : List Value) (ok : Nat → Prop) (hs : a.eval s = v) (hx : a.eval x = xv)
    (h : Row w size ok v n olds) (hsrc : Src P size tx xv k news w) (hl : (n + k) * bytes ≤ 140737488355328)
    (hK : ∀ v' w', Row w' size (fun j => ok j ∨ w.heap.size ≤ j) v' (n + k) (olds ++ news) → Lv w w' ok → Kc (a.put o.dst v') w') :
    if Region.wanted o (yielded ops a.tmps) = true then Oper.wp P o a w Kc Q else Kc (a.put o.dst undef) w := by
  rw [if_pos hw]
  obtain ⟨v', w', hr, h1, h2⟩ := row_append (P := P) h hs0 t tx o.type e z bytes ht hinfo hzs hb0 xv k news hsrc hl
  unfold Oper.wp execOp
  simp only [ho, resolve, invoke, builtin, Sem.run_bind, Sem.run_pure, Result.andThen_ok, List.map_toArray, List.map_cons, List.map_nil, hs, hx, hr]
  exact hK v' w' h1 h2
/-- .. in a region in the text's order, behind 'at_builtin'. -/
theorem row_plain {w : World} (hgd : o.guard = none) (s x : Operand) (t tx e : TypeId) (z : Value) (size bytes : Nat)
    (ho : o.op = .call { callee := .builtin .append, args := #[s, x], argTypes := #[t, tx] })
    (ht : P.underlying t = some (.slice e)) (hinfo : (P.info? e).map (fun i => (i.zero, i.size, i.bytes)) = some (some z, size, bytes)) (hzs : z.cells.size = size) (hs0 : 0 < size) (hb0 : 0 < bytes)
    (v xv : Value) (n k : Nat) (olds news : List Value) (ok : Nat → Prop) (hs : a.eval s = v) (hx : a.eval x = xv)
    (h : Row w size ok v n olds) (hsrc : Src P size tx xv k news w) (hl : (n + k) * bytes ≤ 140737488355328)
    (hK : ∀ v' w', Row w' size (fun j => ok j ∨ w.heap.size ≤ j) v' (n + k) (olds ++ news) → Lv w w' ok → wpList P ops Q rest (a.put o.dst v') w') :
    wpList P ops Q (o :: rest) a w := by
  refine wpList_plain hgd fun K hK' => ?_
  obtain ⟨v', w', hr, h1, h2⟩ := row_append (P := P) h hs0 t tx o.type e z bytes ht hinfo hzs hb0 xv k news hsrc hl
  unfold Oper.wp
  simp [execOp, ho, resolve, invoke, builtin, hs, hx, hr, Result.andThen]
  exact hK' _ _ (hK v' w' h1 h2)
end
theorem Lv.new {w w' : World} (h : Lv w w' (fun _ => False)) : Below w.heap.size w w' := ⟨h.os, h.tape, h.output, h.size, fun k hk => h.block k hk (fun h => h)⟩
theorem Lv.newer {w0 w w' : World} {ok : Nat → Prop} (h : Lv w w' ok) (hb : Below w0.heap.size w0 w) (hk : ∀ k, ok k → w0.heap.size ≤ k) : Below w0.heap.size w0 w' := h.below hb hk
theorem row_first {w W w' : World} {size n : Nat} {v : Value} {l : List Value} (hb : Below w.heap.size w W) (h : Row w' size (fun j => False ∨ W.heap.size ≤ j) v (0 + n) ([] ++ l)) (hl : Lv W w' (fun _ => False)) : Row w' size (fun k => w.heap.size ≤ k) v n l ∧ Below w.heap.size w w' := by
  have h2 := h.mono (ok' := fun k => w.heap.size ≤ k) (fun k hk => by have := hb.size; rcases hk with hk | hk; exact hk.elim; omega)
  rw [Nat.zero_add] at h2
  exact ⟨h2, below_step hb hl.new⟩
theorem row_more {w W w' : World} {size n : Nat} {v : Value} {l : List Value} (hb : Below w.heap.size w W) (h : Row w' size (fun j => w.heap.size ≤ j ∨ W.heap.size ≤ j) v n l) (hl : Lv W w' (fun k => w.heap.size ≤ k)) : Row w' size (fun k => w.heap.size ≤ k) v n l ∧ Below w.heap.size w w' :=
  ⟨h.mono (fun k hk => by have := hb.size; omega), hl.below hb (fun _ h => h)⟩
theorem Row.take {W : World} {ok : Nat → Prop} {b off n cap : Nat} {olds : List Value} (h : Row W 2 ok (.slice (some ⟨b, off, none⟩) n cap) n olds) (j : Nat) (hj : j ≤ n) (hc : 0 < n) : Row W 2 ok (.slice (some ⟨b, off, none⟩) j cap) j (olds.take (j * 2)) := by
  rcases h with ⟨h, _⟩ | ⟨b', off', cap', hv, h2, h3, h4, h5, h6, h7, h8⟩
  · omega
  · injection hv with e1 e2 e3
    injection e1 with e1
    injection e1 with e1 e4
    subst e1 e3 e4
    have hl : (olds.take (j * 2)).length = j * 2 := by rw [List.length_take]; omega
    refine .inr ⟨b, off, cap, rfl, h2, by omega, h4, h5, hl, fun q hq => ?_, h8⟩
    rw [List.getElem?_take, if_pos (by omega)]
    exact h7 q (by omega)
theorem Row.drop {W : World} {ok : Nat → Prop} {b off n cap : Nat} {olds : List Value} (h : Row W 2 ok (.slice (some ⟨b, off, none⟩) n cap) n olds) (j : Nat) (hj : j ≤ n) (hc : 0 < n) : Row W 2 ok (.slice (some (if cap = j then ⟨b, off, none⟩ else ⟨b, off + j * 2, none⟩)) (n - j) (cap - j)) (n - j) (olds.drop (j * 2)) := by
  rcases h with ⟨h, _⟩ | ⟨b', off', cap', hv, h2, h3, h4, h5, h6, h7, h8⟩
  · omega
  · injection hv with e1 e2 e3
    injection e1 with e1
    injection e1 with e1 e4
    subst e1 e3 e4
    have hl : (olds.drop (j * 2)).length = (n - j) * 2 := by rw [List.length_drop]; omega
    by_cases hcj : cap = j
    · subst hcj
      have hn0 : n - cap = 0 := by omega
      rw [hn0] at hl ⊢
      have : olds.drop (cap * 2) = [] := List.eq_nil_of_length_eq_zero (by omega)
      rw [this, Nat.sub_self]
      exact .inl ⟨rfl, rfl, _, rfl⟩
    · rw [if_neg hcj]
      refine .inr ⟨b, off + j * 2, cap - j, rfl, by omega, by omega, by omega, h5, hl, fun q hq => ?_, fun q hq => ?_⟩
      · rw [List.getElem?_drop, Nat.add_assoc]
        exact h7 (j * 2 + q) (by omega)
      · rw [Nat.add_assoc]
        exact h8 (j * 2 + q) (by omega)
theorem src_item {P : Program} {W : World} {tx e' t b : Nat} {x y : Value} (hk : P.underlying tx = some (.slice e')) (h : W.heap[b]? = some (.cells #[x, y] t (0, 0))) (hx : x.oneCell' = true) (hy : y.oneCell' = true) : Src P 2 tx (.slice (some ⟨b, 0, none⟩) 1 1) 1 [x, y] W :=
  Src.ofSlice W hk ⟨b, 0, none⟩ 1 1 [x, y] rfl (fun j u hu => by
    rw [Addr.add_lit, Nat.zero_add, blk_cell h j]
    simpa using hu) (fun u hu => by
    simp at hu
    rcases hu with rfl | rfl
    · exact hx
    · exact hy)
end Go.Proofs.Ytfingknhciogkaa.K

/- script's (*reader).whole. -/
import Derived.Test.YtoajcijjkkkaaaaGreatDoorScR
namespace Go.Proofs.YtoajcijjkkkaaaaGreatDoor.K
open Go.RowKit Go.Proofs.YtoajcijjkkkaaaaGreatDoorW.PrintWords Go.Proofs.YtoajcijjkkkaaaaGreatDoorW.PrintLast Go.Proofs.YtoajcijjkkkaaaaGreatDoorW.PrintMore
set_option linter.unusedVariables false
set_option linter.unusedSimpArgs false

theorem Rr.set_far {w0 w : World} {g : Nat} {l : Bs} (h : Rr w0 w g l) {p : Addr} (hg : g ≠ p.block) (hp : w0.heap.size ≤ p.block) (u : Value) : Rr w0 (w.setCell p u) g l := by
  obtain ⟨s, hk, hs, hg2, hb, hl⟩ := h
  exact ⟨s, (Below.heap_setCell _ _ _ _ hg).trans hk, hs, hg2, hb.setCell hp _, hl⟩
theorem Rr.lt {w0 w : World} {g : Nat} {l : Bs} (h : Rr w0 w g l) : g < w.heap.size := by
  obtain ⟨_, hk, _⟩ := h
  exact blk_lt hk
theorem Rr.len {w0 w : World} {g : Nat} {l : Bs} (h : Rr w0 w g l) : l.length ≤ 4294967280 := by
  obtain ⟨_, _, _, _, _, hl⟩ := h
  exact hl
theorem Rr.ge {w0 w : World} {g : Nat} {l : Bs} (h : Rr w0 w g l) : w0.heap.size ≤ g := by
  obtain ⟨_, _, _, hg, _⟩ := h
  exact hg
/-- The cells of a step; v: its digits' slice. -/
abbrev stpB (x : Stp) (v : Value) : Obj := .cells #[.int .i64 x.who, .int .i64 x.kind, .string ⟨x.p.toArray⟩, .string ⟨x.q.toArray⟩, .int .i64 x.n, .int .i64 x.m, v] 31 (0, 0)
abbrev stp0 : Stp := ⟨0, 0, [], [], 0, 0, []⟩
/-- What is so amid a reading of a step: its block b, the reader's g. -/
structure Mid (w0 w : World) (b g : Nat) (x : Stp) (v : Value) (l : Bs) (W : World) : Prop where
  blk : W.heap[b]? = some (stpB x v)
  own : OwnB W (b + 1) v x.keep
  rd : Rr w0 W g l
  keep : KeepBut w W g none
  base : w.heap.size = b
  gw : g < b
  low : w0.heap.size ≤ b
theorem Mid.call {w0 w W W1 : World} {b g : Nat} {x : Stp} {v : Value} {l r : Bs} (h : Mid w0 w b g x v l W) (hk : KeepBut W W1 g none) (hr : Rr w0 W1 g r) : Mid w0 w b g x v r W1 :=
  ⟨hk.blk h.blk (by have := h.gw; omega) (by simp), h.own.keep hk (by have := h.gw; omega), hr, keep2 h.keep hk, h.base, h.gw, h.low⟩
theorem Mid.on {w0 w W W1 : World} {b g : Nat} {x : Stp} {v : Value} {l : Bs} (h : Mid w0 w b g x v l W) (hb : Below W.heap.size W W1) : Mid w0 w b g x v l W1 :=
  h.call (KeepBut.of_below hb g none) (h.rd.on hb)
theorem Mid.bel {w0 w W : World} {b g : Nat} {x : Stp} {v : Value} {l : Bs} (h : Mid w0 w b g x v l W) : Below w0.heap.size w0 W := h.rd.below
theorem Mid.cells {w0 w W : World} {b g : Nat} {x : Stp} {v : Value} {l : Bs} (h : Mid w0 w b g x v l W) :
    W.cell? ⟨b, 0, none⟩ = some (.int .i64 x.who) ∧ W.cell? ⟨b, 1, none⟩ = some (.int .i64 x.kind) ∧ W.cell? ⟨b, 2, none⟩ = some (.string ⟨x.p.toArray⟩) ∧ W.cell? ⟨b, 3, none⟩ = some (.string ⟨x.q.toArray⟩) ∧ W.cell? ⟨b, 4, none⟩ = some (.int .i64 x.n) ∧ W.cell? ⟨b, 5, none⟩ = some (.int .i64 x.m) ∧ W.cell? ⟨b, 6, none⟩ = some v := cells7 h.blk
theorem Mid.froz {w0 w W : World} {b g : Nat} {x : Stp} {v : Value} {l : Bs} (h : Mid w0 w b g x v l W) (j : Nat) : W.frozen? ⟨b, j, none⟩ = false := blk_frozen h.blk j
/-- A store of a field. -/
theorem Mid.put {w0 w W : World} {b g : Nat} {x y : Stp} {v v' : Value} {l : Bs} (h : Mid w0 w b g x v l W) (j : Nat) (u : Value)
    (he : #[.int .i64 x.who, .int .i64 x.kind, .string ⟨x.p.toArray⟩, .string ⟨x.q.toArray⟩, .int .i64 x.n, .int .i64 x.m, v].setIfInBounds j u = #[.int .i64 y.who, .int .i64 y.kind, .string ⟨y.p.toArray⟩, .string ⟨y.q.toArray⟩, .int .i64 y.n, .int .i64 y.m, v'])
    (ho : OwnB W (b + 1) v' y.keep) : Mid w0 w b g y v' l (W.setCell ⟨b, j, none⟩ u) := by
  refine ⟨?_, Kd.R_mono (Kd.R_far (p := ⟨b, j, none⟩) (Kd.R_mono (Kd.R_bound ho) (fun k hk => hk.2.1)) (fun k hk => by show k ≠ b; omega) u) (fun _ _ => trivial), h.rd.set_far (by have := h.gw; simp; omega) h.low u, keep_far h.keep (by rw [h.base]; exact Nat.le_refl _) u, h.base, h.gw, h.low⟩
  have := blk_set h.blk j u
  rw [he] at this
  exact this

/-- All fields stored once more as they are. -/
theorem Mid.back {w0 w W : World} {b g : Nat} {x : Stp} {v : Value} {l : Bs} (h : Mid w0 w b g x v l W) :
    Mid w0 w b g x v l (((((((W.setCell ⟨b, 0, none⟩ (.int .i64 x.who)).setCell ⟨b, 1, none⟩ (.int .i64 x.kind)).setCell ⟨b, 2, none⟩ (.string ⟨x.p.toArray⟩)).setCell ⟨b, 3, none⟩ (.string ⟨x.q.toArray⟩)).setCell ⟨b, 4, none⟩ (.int .i64 x.n)).setCell ⟨b, 5, none⟩ (.int .i64 x.m)).setCell ⟨b, 6, none⟩ v) := by
  have h0 := h.put 0 (.int .i64 x.who) rfl h.own
  have h1 := h0.put 1 (.int .i64 x.kind) rfl h0.own
  have h2 := h1.put 2 (.string ⟨x.p.toArray⟩) rfl h1.own
  have h3 := h2.put 3 (.string ⟨x.q.toArray⟩) rfl h2.own
  have h4 := h3.put 4 (.int .i64 x.n) rfl h3.own
  have h5 := h4.put 5 (.int .i64 x.m) rfl h4.own
  exact h5.put 6 v rfl h5.own
set_option maxRecDepth 100000 in
set_option maxHeartbeats 4000000 in
theorem whole_num (w0 w : World) (g : Nat) (s : Bs) (hT : Tb w0) (h : Rr w0 w g s) (hn : rdNum s = none) :
    Calls Tryz.prog 33 #[.pointer (some ⟨g, 0, none⟩)] w (Wrong w0 w g) := by
  have hb1 : Below w.heap.size w (w.alloc (.cells #[.int .i64 0, .int .i64 0, .string ⟨#[]⟩, .string ⟨#[]⟩, .int .i64 0, .int .i64 0, .slice none 0 0] 31)) := below_alloc (Below.refl _ _) _
  have HN := number_calls w0 _ g s hT (h.on hb1)
  rw [hn] at HN
  have HK := Aside0.mk (KeepBut.of_below hb1 g none)
  clear hT h hn hb1
  go_enter Tryz.func33, Tryz.ntmps33
  go_wp2_with (go_at_call 53; (with_reducible refine HN.mono ?_); rintro e w1 ⟨rfl, hb, hk⟩)
  exact ⟨rfl, rfl, hb, keep2 HK.out hk⟩
theorem mid_new (w0 w : World) (g : Nat) (s : Bs) (h : Rr w0 w g s) : Mid w0 w w.heap.size g stp0 (.slice none 0 0) s (w.alloc (.cells #[.int .i64 0, .int .i64 0, .string ⟨#[]⟩, .string ⟨#[]⟩, .int .i64 0, .int .i64 0, .slice none 0 0] 31)) := by
  have hb1 : Below w.heap.size w (w.alloc (.cells #[.int .i64 0, .int .i64 0, .string ⟨#[]⟩, .string ⟨#[]⟩, .int .i64 0, .int .i64 0, .slice none 0 0] 31)) := below_alloc (Below.refl _ _) _
  exact ⟨blk_new _ _, Kd.R_nil _ _ _ _ _, h.on hb1, KeepBut.of_below hb1 g none, rfl, h.lt, Nat.le_trans h.ge (Nat.le_of_lt h.lt)⟩
def step0 (n : Int) : Stp := { stp0 with who := n }
def step1 (n : Int) (k : Int) : Stp := { step0 n with kind := k }

set_option maxRecDepth 100000 in
set_option maxHeartbeats 4000000 in
theorem whole_sp (w0 w : World) (g : Nat) (s s1 : Bs) (n : Int) (hT : Tb w0) (h : Rr w0 w g s) (hn : rdNum s = some (n, s1)) (hs : ∀ r, s1 ≠ 32 :: r) :
    Calls Tryz.prog 33 #[.pointer (some ⟨g, 0, none⟩)] w (Wrong w0 w g) := by
  have HM := mid_new w0 w g s h
  have HN := number_calls w0 _ g s hT HM.rd
  rw [hn] at HN
  have HM := Aside0.mk HM
  clear hT h hn
  go_enter Tryz.func33, Tryz.ntmps33
  go_upto_region 2 with (go_at_call 53; (with_reducible refine HN.mono ?_); rintro e w1 ⟨rfl, hr, hk⟩; have hm := HM.out.call hk hr; have f0 := hm.froz 0; obtain ⟨q0, q1, q2, q3, q4, q5, q6⟩ := hm.cells; replace HM := Aside0.mk hm; clear hr hk hm)
  have hm := HM.out.put (y := step0 n) (v' := .slice none 0 0) 0 (.int .i64 n) rfl (Kd.R_nil _ _ _ _ _)
  obtain ⟨W, hW⟩ : ∃ W, w1.setCell ⟨w.heap.size, 0, none⟩ (.int .i64 n) = W := ⟨_, rfl⟩
  rw [hW] at hm ⊢
  replace HM := Aside0.mk hm
  clear hm hW q0 q1 q2 q3 q4 q5 q6 f0
  cases s1 with
  | nil =>
    go_wp2_with (go_at_call 55; (with_reducible refine (byte_nil w0 W g HM.out.rd).mono ?_); rintro e w' ⟨rfl, hb, hk⟩)
    exact ⟨rfl, rfl, hb, keep2 HM.out.keep hk⟩
  | cons c r =>
    have e1 : ((c.toNat : Int) == 32) = false := ne_u8 (k := 32) (fun e => hs r (by rw [e]))
    clear hs
    go_wp2_with (first
      | (go_at_call 55; (with_reducible refine (byte_cons w0 W g c r HM.out.rd).mono ?_); rintro e w2 ⟨rfl, hr, hk⟩; replace HM := Aside0.mk (HM.out.call hk hr); clear hr hk)
      | (go_at_call 54; (with_reducible refine (must_false _ _).mono ?_); rintro e w' ⟨rfl, rfl⟩))
    exact ⟨rfl, rfl, HM.out.bel, HM.out.keep⟩
end Go.Proofs.YtoajcijjkkkaaaaGreatDoor.K

/- A slice of operations that came in. An operation and a stamp that came in by value, opened. -/
import Derived.Test.YtaiakklflmhpmaaOpen
import Derived.Test.YtaiakklflmhpmaaMF
import Derived.ChangeSlices
import Derived.ChangeArms
import Derived.Test.YtaiakklflmhpmaaKit
namespace Go.Proofs.Ytaiakklflmhpmaa.K
open Go.RowKit Go.Deep Go.ChangeShapes Go.WideShapes Go.ChangeAt Go.Proofs.YtaiakklflmhpmaaW.PrintWords Go.Proofs.YtaiakklflmhpmaaW.PrintLast Go.Proofs.YtaiakklflmhpmaaW.PrintMore
set_option linter.unusedVariables false

theorem open_two_wfq {H : Type} {enc : TypeId × Value → H} {P : Program} {w : World} {base : Nat} {spare : Nat → Bool} {held : Bool} {t : TypeId} {f0 f1 : Field} {l : List Value} {fuel : Nat} {x : DataW H × List MemPlace}
  (ht : P.underlying t = some (.struct #[f0, f1])) (h0 : P.underlying f0.type = some (.int .i64)) (h1 : P.underlying f1.type = some (.int .i64))
  (o0 : f0.offset = 0) (o1 : f1.offset = 1) (c0 : P.cellsOf f0.type = 1) (c1 : P.cellsOf f1.type = 1) (x0 x1 : Value) (hl : l = [x0, x1])
  (hf : DataW.trod enc P w base spare held fuel t l = some x) : ∃ a b, x0 = .int .i64 a ∧ x1 = .int .i64 b ∧ (Lit.int .i64 a).wf = true ∧ (Lit.int .i64 b).wf = true := by
 subst hl
 obtain ⟨y0, y1, m, _, _, hy0, hy1⟩ := trod_struct2 ht hf
 obtain ⟨a, e0, _, w0⟩ := DataW.trod_int h0 hy0
 obtain ⟨b, e1, _, w1⟩ := DataW.trod_int h1 hy1
 simp [o0, o1, c0, c1] at e0 e1
 exact ⟨a, b, e0, e1, w0, w1⟩
theorem open_opc {H : Type} {enc : TypeId × Value → H} {w : World} {base : Nat} {held : Bool} {fuel : Nat} {x0 x1 x2 x3 x4 x5 x6 x7 x8 x9 : Value} {y : DataW H × List MemPlace}
  (hf : DataW.trod enc Try.prog w base (fun _ => true) held fuel 31 [x0, x1, x2, x3, x4, x5, x6, x7, x8, x9] = some y) :
  ∃ p : QP, [x0, x1, x2, x3, x4, x5, x6, x7, x8, x9] = qC p ∧ Rd w p.b p.e.f6 ∧ (∀ x ∈ p.e.f6, 0 ≤ x ∧ x ≤ 255) := by
 obtain ⟨xs, n, _, _, _, hlen, hF⟩ := DataW.trod_struct Try.underlying31 hf
 have e1 : Try.prog.cellsOf 3 = 1 := by kernel_rfl
 have e2 : Try.prog.cellsOf 28 = 2 := by kernel_rfl
 have e3 : Try.prog.cellsOf 4 = 1 := by kernel_rfl
 have e4 : Try.prog.cellsOf 9 = 1 := by kernel_rfl
 have e5 : Try.prog.cellsOf 29 = 1 := by kernel_rfl
 have hl7 : xs.length = 7 := hlen
 have g : ∀ i, i < 7 → ∃ y, xs[i]? = some y := fun i hi => ⟨_, List.getElem?_eq_getElem (by omega)⟩
 obtain ⟨y0, g0⟩ := g 0 (by omega)
 obtain ⟨y1, g1⟩ := g 1 (by omega)
 obtain ⟨y2, g2⟩ := g 2 (by omega)
 obtain ⟨y3, g3⟩ := g 3 (by omega)
 obtain ⟨y4, g4⟩ := g 4 (by omega)
 obtain ⟨y5, g5⟩ := g 5 (by omega)
 obtain ⟨y6, g6⟩ := g 6 (by omega)
 have f0 : DataW.trod enc Try.prog w base (fun _ => true) held n 3 (([x0, x1, x2, x3, x4, x5, x6, x7, x8, x9].drop 0).take (Try.prog.cellsOf 3)) = xs[0]? := hF 0 _ rfl
 have f1 : DataW.trod enc Try.prog w base (fun _ => true) held n 28 (([x0, x1, x2, x3, x4, x5, x6, x7, x8, x9].drop 1).take (Try.prog.cellsOf 28)) = xs[1]? := hF 1 _ rfl
 have f2 : DataW.trod enc Try.prog w base (fun _ => true) held n 28 (([x0, x1, x2, x3, x4, x5, x6, x7, x8, x9].drop 3).take (Try.prog.cellsOf 28)) = xs[2]? := hF 2 _ rfl
 have f3 : DataW.trod enc Try.prog w base (fun _ => true) held n 28 (([x0, x1, x2, x3, x4, x5, x6, x7, x8, x9].drop 5).take (Try.prog.cellsOf 28)) = xs[3]? := hF 3 _ rfl
 have f4 : DataW.trod enc Try.prog w base (fun _ => true) held n 4 (([x0, x1, x2, x3, x4, x5, x6, x7, x8, x9].drop 7).take (Try.prog.cellsOf 4)) = xs[4]? := hF 4 _ rfl
 have f5 : DataW.trod enc Try.prog w base (fun _ => true) held n 9 (([x0, x1, x2, x3, x4, x5, x6, x7, x8, x9].drop 8).take (Try.prog.cellsOf 9)) = xs[5]? := hF 5 _ rfl
 have f6 : DataW.trod enc Try.prog w base (fun _ => true) held n 29 (([x0, x1, x2, x3, x4, x5, x6, x7, x8, x9].drop 9).take (Try.prog.cellsOf 29)) = xs[6]? := hF 6 _ rfl
 rw [g0] at f0
 rw [g1] at f1
 rw [g2] at f2
 rw [g3] at f3
 rw [g4] at f4
 rw [g5] at f5
 rw [g6] at f6
 simp only [e1, e2, e3, e4, e5, List.drop_zero, List.drop_succ_cons, List.take_succ_cons, List.take_zero] at f0 f1 f2 f3 f4 f5 f6
 obtain ⟨k, a0, _, _⟩ := DataW.trod_int Try.underlying3 f0
 obtain ⟨t, a, rfl, rfl, _, _⟩ := open_two_wfq Try.underlying28 Try.underlying2 Try.underlying3 rfl rfl (by kernel_rfl) (by kernel_rfl) x1 x2 rfl f1
 obtain ⟨u, b, rfl, rfl, _, _⟩ := open_two_wfq Try.underlying28 Try.underlying2 Try.underlying3 rfl rfl (by kernel_rfl) (by kernel_rfl) x3 x4 rfl f2
 obtain ⟨p1, c, rfl, rfl, _, _⟩ := open_two_wfq Try.underlying28 Try.underlying2 Try.underlying3 rfl rfl (by kernel_rfl) (by kernel_rfl) x5 x6 rfl f3
 obtain ⟨d1, a4, _⟩ := DataW.trod_bool Try.underlying4 f4
 obtain ⟨s, a5, _, _⟩ := DataW.trod_string Try.underlying9 f5
 simp only [List.cons.injEq, and_true] at a0 a4 a5
 subst a0 a4 a5
 have hrow : ∃ A n0 cap, x9 = .slice A n0 cap ∧ ∃ l, Rd w (.slice A n0 cap) l ∧ ∀ x ∈ l, 0 ≤ x ∧ x ≤ 255 := by
  rcases open_ints Try.underlying29 Try.underlying5 (by kernel_rfl) f6 with ⟨hcs, _⟩ | ⟨x, l, c, zs, hcs, _, hl, hm, hz, _, hcell, hwz⟩
  ·simp only [List.cons.injEq, and_true] at hcs
   subst hcs
   exact ⟨none, 0, 0, rfl, rd_of_row (.inl ⟨rfl, rfl, rfl, rfl⟩)⟩
  ·simp only [List.cons.injEq, and_true] at hcs
   subst hcs
   exact ⟨_, _, _, rfl, rd_of_row (.inr ⟨_, rfl, hl, hm, by simpa using hz, hcell, hwz⟩)⟩
 obtain ⟨A, n0, cap, rfl, l, hr, hb⟩ := hrow
 have hl : n0 = l.length := by
  obtain ⟨A', c', h, _⟩ := hr
  injection h
 subst hl
 exact ⟨⟨⟨k, ⟨t, a⟩, ⟨u, b⟩, ⟨p1, c⟩, d1, s, l⟩, A, cap⟩, rfl, hr, hb⟩
def QRd (W : World) (v : Value) (l : List Oe) : Prop := ∃ A c, v = .slice A l.length c ∧ l.length ≤ c ∧ Kd.C X.k31 W A l.length l
theorem open_ops {H : Type} {enc : TypeId × Value → H} {w : World} {base : Nat} {held : Bool} {d : DataW H} {p : List MemPlace} {a0 : Option Addr} {len0 cap0 : Nat} (h : DataW.Trod enc Try.prog w base (fun _ => true) held 22 (.slice a0 len0 cap0) d p) :
  ∃ l : List Oe, QRd w (.slice a0 len0 cap0) l ∧ ∀ e ∈ l, ∀ x ∈ e.f6, 0 ≤ x ∧ x ≤ 255 := by
 obtain ⟨fuel, hf⟩ := h
 rcases open_slice Try.underlying22 hf with ⟨hcs, _⟩ | ⟨a, len, cap, m, n, D, Pl, hcs, hb, hl, hm, hmm, hx, hi⟩
 ·simp [Value.cells] at hcs
  obtain ⟨rfl, rfl, rfl⟩ := hcs
  exact ⟨[], ⟨none, 0, rfl, Nat.le_refl _, Kd.C_nil _ _⟩, fun e he => by simp at he⟩
 ·simp [Value.cells] at hcs
  obtain ⟨rfl, rfl, rfl⟩ := hcs
  have hC : Try.prog.cellsOf 31 = 10 := by kernel_rfl
  have H1 : ∀ i, ∃ q : QP, i < len0 → (∀ j u, (qC q)[j]? = some u → w.cell? (a.add (i * 10 + j)) = some u) ∧ Rd w q.b q.e.f6 ∧ ∀ x ∈ q.e.f6, 0 ≤ x ∧ x ≤ 255 := by
   intro i
   by_cases him : i < len0
   ·have hm' : i < m := by rw [hmm]; split <;> omega
    obtain ⟨cs', hc, ht'⟩ := hi i hm'
    rw [hC] at hc
    obtain ⟨_, hcl, hat⟩ := World.cells?_some hc
    match cs', hcl with
    | [x0, x1, x2, x3, x4, x5, x6, x7, x8, x9], _ =>
     obtain ⟨q, hq, hr, hb⟩ := open_opc ht'
     refine ⟨q, fun _ => ⟨fun j u hu => ?_, hr, hb⟩⟩
     rw [← hq] at hu
     have hj : j < 10 := (List.getElem?_eq_some_iff.1 hu).1
     rw [← Go.Deep.add_add, hat j hj]
     exact hu
   ·exact ⟨⟨⟨0, ⟨0, 0⟩, ⟨0, 0⟩, ⟨0, 0⟩, false, ⟨#[]⟩, []⟩, none, 0⟩, fun h => absurd h him⟩
  obtain ⟨f, hf⟩ := Classical.axiomOfChoice H1
  refine ⟨(List.range len0).map (fun i => (f i).e), ⟨some a, cap0, by simp, by simpa using hl, ⟨rfl, ?_, fun hp => ?_⟩⟩, fun e he => ?_⟩
  ·simp only [List.length_map, List.length_range]
   exact Nat.le_trans hl hm
  ·refine ⟨a, rfl, fun j q hj => ?_⟩
   have hjl : j < len0 := by
    have := (List.getElem?_eq_some_iff.1 hj).1
    simpa using this
   rw [List.getElem?_map, List.getElem?_range hjl] at hj
   simp at hj
   subst hj
   obtain ⟨h1, h2, _⟩ := hf j hjl
   obtain ⟨A, c, hv, hc, hCC⟩ := h2
   injection hv with e1 e2 e3
   refine ⟨qC (f j), rfl, ?_, fun i u hu => h1 i u hu⟩
   exact X.k31_mk w (f j).e (by rw [e3]; exact hc) (by rw [e1]; exact hCC)
  ·obtain ⟨i, hi', rfl⟩ := List.mem_map.1 he
   exact (hf i (List.mem_range.1 hi')).2.2
end Go.Proofs.Ytaiakklflmhpmaa.K

namespace Go.Proofs.Ytaiakklflmhpmaa.K
open Go.ChangeShapes Go.WideShapes Go.ChangeAt Go.RowKit Go.Deep Go.Proofs.YtaiakklflmhpmaaW.PrintWords Go.Proofs.YtaiakklflmhpmaaW.PrintLast Go.Proofs.YtaiakklflmhpmaaW.PrintMore
set_option linter.unusedVariables false

theorem open_two_wf {H : Type} {enc : TypeId × Value → H} {P : Program} {w : World} {base : Nat} {spare : Nat → Bool} {held : Bool} {t : TypeId} {f0 f1 : Field} {l : List Value} {fuel : Nat} {x : DataW H × List MemPlace}
  (ht : P.underlying t = some (.struct #[f0, f1])) (h0 : P.underlying f0.type = some (.int .i64)) (h1 : P.underlying f1.type = some (.int .i64))
  (o0 : f0.offset = 0) (o1 : f1.offset = 1) (c0 : P.cellsOf f0.type = 1) (c1 : P.cellsOf f1.type = 1) (x0 x1 : Value) (hl : l = [x0, x1])
  (hf : DataW.trod enc P w base spare held fuel t l = some x) : ∃ a b, x0 = .int .i64 a ∧ x1 = .int .i64 b ∧ (Lit.int .i64 a).wf = true ∧ (Lit.int .i64 b).wf = true := by
 subst hl
 obtain ⟨y0, y1, m, _, _, hy0, hy1⟩ := trod_struct2 ht hf
 obtain ⟨a, e0, _, w0⟩ := DataW.trod_int h0 hy0
 obtain ⟨b, e1, _, w1⟩ := DataW.trod_int h1 hy1
 simp [o0, o1, c0, c1] at e0 e1
 exact ⟨a, b, e0, e1, w0, w1⟩
theorem open_op {H : Type} {enc : TypeId × Value → H} {w : World} {base b0 : Nat} {held : Bool} {r : Reach} {v : Value} {d : DataW H} {p : List MemPlace}
  (hv : Value.okWide Try.prog w r b0 31 v) (hd : DataW.Trod enc Try.prog w base (fun _ => true) held 31 v d p) :
  ∃ (k t a u b p1 c : Int) (d1 : Bool) (s : ByteArray) (dv : Value) (l : List Int), v = .agg #[.int .i64 k, .int .i64 t, .int .i64 a, .int .i64 u, .int .i64 b, .int .i64 p1, .int .i64 c, .bool d1, .string s, dv] ∧ Rd w dv l ∧ (∀ x ∈ l, 0 ≤ x ∧ x ≤ 255) := by
 obtain ⟨cs, rfl, hsz⟩ := okWide_struct Try.underlying31 hv
 have hc : Try.prog.cellsOf 31 = 10 := by kernel_rfl
 rw [hc] at hsz
 obtain ⟨l⟩ := cs
 match l, hsz with
 | [x0, x1, x2, x3, x4, x5, x6, x7, x8, x9], _ =>
  obtain ⟨fuel, hf⟩ := hd
  obtain ⟨xs, n, _, _, _, hlen, hF⟩ := DataW.trod_struct Try.underlying31 hf
  have e1 : Try.prog.cellsOf 3 = 1 := by kernel_rfl
  have e2 : Try.prog.cellsOf 28 = 2 := by kernel_rfl
  have e3 : Try.prog.cellsOf 4 = 1 := by kernel_rfl
  have e4 : Try.prog.cellsOf 9 = 1 := by kernel_rfl
  have e5 : Try.prog.cellsOf 29 = 1 := by kernel_rfl
  have hl7 : xs.length = 7 := hlen
  have g : ∀ i, i < 7 → ∃ y, xs[i]? = some y := fun i hi => ⟨_, List.getElem?_eq_getElem (by omega)⟩
  obtain ⟨y0, g0⟩ := g 0 (by omega)
  obtain ⟨y1, g1⟩ := g 1 (by omega)
  obtain ⟨y2, g2⟩ := g 2 (by omega)
  obtain ⟨y3, g3⟩ := g 3 (by omega)
  obtain ⟨y4, g4⟩ := g 4 (by omega)
  obtain ⟨y5, g5⟩ := g 5 (by omega)
  obtain ⟨y6, g6⟩ := g 6 (by omega)
  have f0 : DataW.trod enc Try.prog w base (fun _ => true) held n 3 (([x0, x1, x2, x3, x4, x5, x6, x7, x8, x9].drop 0).take (Try.prog.cellsOf 3)) = xs[0]? := hF 0 _ rfl
  have f1 : DataW.trod enc Try.prog w base (fun _ => true) held n 28 (([x0, x1, x2, x3, x4, x5, x6, x7, x8, x9].drop 1).take (Try.prog.cellsOf 28)) = xs[1]? := hF 1 _ rfl
  have f2 : DataW.trod enc Try.prog w base (fun _ => true) held n 28 (([x0, x1, x2, x3, x4, x5, x6, x7, x8, x9].drop 3).take (Try.prog.cellsOf 28)) = xs[2]? := hF 2 _ rfl
  have f3 : DataW.trod enc Try.prog w base (fun _ => true) held n 28 (([x0, x1, x2, x3, x4, x5, x6, x7, x8, x9].drop 5).take (Try.prog.cellsOf 28)) = xs[3]? := hF 3 _ rfl
  have f4 : DataW.trod enc Try.prog w base (fun _ => true) held n 4 (([x0, x1, x2, x3, x4, x5, x6, x7, x8, x9].drop 7).take (Try.prog.cellsOf 4)) = xs[4]? := hF 4 _ rfl
  have f5 : DataW.trod enc Try.prog w base (fun _ => true) held n 9 (([x0, x1, x2, x3, x4, x5, x6, x7, x8, x9].drop 8).take (Try.prog.cellsOf 9)) = xs[5]? := hF 5 _ rfl
  have f6 : DataW.trod enc Try.prog w base (fun _ => true) held n 29 (([x0, x1, x2, x3, x4, x5, x6, x7, x8, x9].drop 9).take (Try.prog.cellsOf 29)) = xs[6]? := hF 6 _ rfl
  rw [g0] at f0
  rw [g1] at f1
  rw [g2] at f2
  rw [g3] at f3
  rw [g4] at f4
  rw [g5] at f5
  rw [g6] at f6
  simp only [e1, e2, e3, e4, e5, List.drop_zero, List.drop_succ_cons, List.take_succ_cons, List.take_zero] at f0 f1 f2 f3 f4 f5 f6
  obtain ⟨k, a0, _, _⟩ := DataW.trod_int Try.underlying3 f0
  obtain ⟨t, a, rfl, rfl, _, _⟩ := open_two_wf Try.underlying28 Try.underlying2 Try.underlying3 rfl rfl (by kernel_rfl) (by kernel_rfl) x1 x2 rfl f1
  obtain ⟨u, b, rfl, rfl, _, _⟩ := open_two_wf Try.underlying28 Try.underlying2 Try.underlying3 rfl rfl (by kernel_rfl) (by kernel_rfl) x3 x4 rfl f2
  obtain ⟨p1, c, rfl, rfl, _, _⟩ := open_two_wf Try.underlying28 Try.underlying2 Try.underlying3 rfl rfl (by kernel_rfl) (by kernel_rfl) x5 x6 rfl f3
  obtain ⟨d1, a4, _⟩ := DataW.trod_bool Try.underlying4 f4
  obtain ⟨s, a5, _, _⟩ := DataW.trod_string Try.underlying9 f5
  simp only [List.cons.injEq, and_true] at a0 a4 a5
  subst a0 a4 a5
  have hrow : ∃ A n0 cap, x9 = .slice A n0 cap ∧ ∃ l, Rd w (.slice A n0 cap) l ∧ ∀ x ∈ l, 0 ≤ x ∧ x ≤ 255 := by
   rcases open_ints Try.underlying29 Try.underlying5 (by kernel_rfl) f6 with ⟨hcs, _⟩ | ⟨x, l, c, zs, hcs, _, hl, hm, hz, _, hcell, hwz⟩
   ·simp only [List.cons.injEq, and_true] at hcs
    subst hcs
    exact ⟨none, 0, 0, rfl, rd_of_row (.inl ⟨rfl, rfl, rfl, rfl⟩)⟩
   ·simp only [List.cons.injEq, and_true] at hcs
    subst hcs
    exact ⟨_, _, _, rfl, rd_of_row (.inr ⟨_, rfl, hl, hm, by simpa using hz, hcell, hwz⟩)⟩
  obtain ⟨A, n0, cap, rfl, l, hr, hb⟩ := hrow
  exact ⟨k, t, a, u, b, p1, c, d1, s, _, l, rfl, hr, hb⟩
end Go.Proofs.Ytaiakklflmhpmaa.K

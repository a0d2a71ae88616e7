/- An operation and a stamp that came in by value, opened. -/
import Derived.Test.YtginodjiaohcmaaOpen
import Derived.Test.YtginodjiaohcmaaKit
import Derived.ChangeSlices
import Derived.ChangeArms
namespace Go.Proofs.Ytginodjiaohcmaa.K
open Go.ChangeShapes Go.WideShapes Go.ChangeAt Go.RowKit Go.Deep Go.Proofs.YtginodjiaohcmaaW.PrintWords Go.Proofs.YtginodjiaohcmaaW.PrintLast Go.Proofs.YtginodjiaohcmaaW.PrintMore
set_option linter.unusedVariables false

theorem open_two_wf {H : Type} {enc : TypeId × Value → H} {P : Program} {w : World} {base : Nat} {spare : Nat → Bool} {held : Bool} {t : TypeId} {f0 f1 : Field} {l : List Value} {fuel : Nat} {x : DataW H × List MemPlace}
    (ht : P.underlying t = some (.struct #[f0, f1])) (h0 : P.underlying f0.type = some (.int .i64)) (h1 : P.underlying f1.type = some (.int .i64))
    (o0 : f0.offset = 0) (o1 : f1.offset = 1) (c0 : P.cellsOf f0.type = 1) (c1 : P.cellsOf f1.type = 1) (x0 x1 : Value) (hl : l = [x0, x1])
    (hf : DataW.trod enc P w base spare held fuel t l = some x) : ∃ a b, x0 = .int .i64 a ∧ x1 = .int .i64 b ∧ (Lit.int .i64 a).wf = true ∧ (Lit.int .i64 b).wf = true := by
  subst hl
  obtain ⟨y0, y1, m, _, _, hy0, hy1⟩ := trod_struct2 ht hf
  obtain ⟨a, e0, _, w0⟩ := DataW.trod_int h0 hy0
  obtain ⟨b, e1, _, w1⟩ := DataW.trod_int h1 hy1
  simp [o0, o1, c0, c1] at e0 e1
  exact ⟨a, b, e0, e1, w0, w1⟩
theorem open_stamp {H : Type} {enc : TypeId × Value → H} {w : World} {base b0 : Nat} {spare : Nat → Bool} {held : Bool} {r : Reach} {v : Value} {d : DataW H} {p : List MemPlace}
    (hv : Value.okWide Try.prog w r b0 23 v) (hd : DataW.Trod enc Try.prog w base spare held 23 v d p) : ∃ a b, v = .agg #[.int .i64 a, .int .i64 b] ∧ (Lit.int .i64 a).wf = true ∧ (Lit.int .i64 b).wf = true := by
  obtain ⟨cs, rfl, hsz⟩ := okWide_struct Try.underlying23 hv
  have hc : Try.prog.cellsOf 23 = 2 := by kernel_rfl
  rw [hc] at hsz
  obtain ⟨l⟩ := cs
  match l, hsz with
  | [x0, x1], _ =>
    obtain ⟨fuel, hf⟩ := hd
    obtain ⟨a, b, rfl, rfl, h0, h1⟩ := open_two_wf Try.underlying23 Try.underlying2 Try.underlying3 rfl rfl (by kernel_rfl) (by kernel_rfl) x0 x1 rfl hf
    exact ⟨a, b, rfl, h0, h1⟩
theorem open_op {H : Type} {enc : TypeId × Value → H} {w : World} {base b0 : Nat} {held : Bool} {r : Reach} {v : Value} {d : DataW H} {p : List MemPlace}
    (hv : Value.okWide Try.prog w r b0 26 v) (hd : DataW.Trod enc Try.prog w base (fun _ => true) held 26 v d p) :
    ∃ (k t a u b p1 c : Int) (d1 : Bool) (s : ByteArray) (dv : Value) (l : List Int), v = .agg #[.int .i64 k, .int .i64 t, .int .i64 a, .int .i64 u, .int .i64 b, .int .i64 p1, .int .i64 c, .bool d1, .string s, dv] ∧ Rd w dv l ∧ (∀ x ∈ l, 0 ≤ x ∧ x ≤ 255) := by
  obtain ⟨cs, rfl, hsz⟩ := okWide_struct Try.underlying26 hv
  have hc : Try.prog.cellsOf 26 = 10 := by kernel_rfl
  rw [hc] at hsz
  obtain ⟨l⟩ := cs
  match l, hsz with
  | [x0, x1, x2, x3, x4, x5, x6, x7, x8, x9], _ =>
    obtain ⟨fuel, hf⟩ := hd
    obtain ⟨xs, n, _, _, _, hlen, hF⟩ := DataW.trod_struct Try.underlying26 hf
    have e1 : Try.prog.cellsOf 3 = 1 := by kernel_rfl
    have e2 : Try.prog.cellsOf 23 = 2 := by kernel_rfl
    have e3 : Try.prog.cellsOf 4 = 1 := by kernel_rfl
    have e4 : Try.prog.cellsOf 9 = 1 := by kernel_rfl
    have e5 : Try.prog.cellsOf 24 = 1 := by kernel_rfl
    have hl7 : xs.length = 7 := hlen
    have g : ∀ i, i < 7 → ∃ y, xs[i]? = some y := fun i hi => ⟨_, List.getElem?_eq_getElem (by omega)⟩
    obtain ⟨y0, g0⟩ := g 0 (by omega)
    obtain ⟨y1, g1⟩ := g 1 (by omega)
    obtain ⟨y2, g2⟩ := g 2 (by omega)
    obtain ⟨y3, g3⟩ := g 3 (by omega)
    obtain ⟨y4, g4⟩ := g 4 (by omega)
    obtain ⟨y5, g5⟩ := g 5 (by omega)
    obtain ⟨y6, g6⟩ := g 6 (by omega)
    have f0 : DataW.trod enc Try.prog w base (fun _ => true) held n 3 (([x0, x1, x2, x3, x4, x5, x6, x7, x8, x9].drop 0).take (Try.prog.cellsOf 3)) = xs[0]? := hF 0 _ rfl
    have f1 : DataW.trod enc Try.prog w base (fun _ => true) held n 23 (([x0, x1, x2, x3, x4, x5, x6, x7, x8, x9].drop 1).take (Try.prog.cellsOf 23)) = xs[1]? := hF 1 _ rfl
    have f2 : DataW.trod enc Try.prog w base (fun _ => true) held n 23 (([x0, x1, x2, x3, x4, x5, x6, x7, x8, x9].drop 3).take (Try.prog.cellsOf 23)) = xs[2]? := hF 2 _ rfl
    have f3 : DataW.trod enc Try.prog w base (fun _ => true) held n 23 (([x0, x1, x2, x3, x4, x5, x6, x7, x8, x9].drop 5).take (Try.prog.cellsOf 23)) = xs[3]? := hF 3 _ rfl
    have f4 : DataW.trod enc Try.prog w base (fun _ => true) held n 4 (([x0, x1, x2, x3, x4, x5, x6, x7, x8, x9].drop 7).take (Try.prog.cellsOf 4)) = xs[4]? := hF 4 _ rfl
    have f5 : DataW.trod enc Try.prog w base (fun _ => true) held n 9 (([x0, x1, x2, x3, x4, x5, x6, x7, x8, x9].drop 8).take (Try.prog.cellsOf 9)) = xs[5]? := hF 5 _ rfl
    have f6 : DataW.trod enc Try.prog w base (fun _ => true) held n 24 (([x0, x1, x2, x3, x4, x5, x6, x7, x8, x9].drop 9).take (Try.prog.cellsOf 24)) = xs[6]? := hF 6 _ rfl
    rw [g0] at f0
    rw [g1] at f1
    rw [g2] at f2
    rw [g3] at f3
    rw [g4] at f4
    rw [g5] at f5
    rw [g6] at f6
    simp only [e1, e2, e3, e4, e5, List.drop_zero, List.drop_succ_cons, List.take_succ_cons, List.take_zero] at f0 f1 f2 f3 f4 f5 f6
    obtain ⟨k, a0, _, _⟩ := DataW.trod_int Try.underlying3 f0
    obtain ⟨t, a, rfl, rfl, _, _⟩ := open_two_wf Try.underlying23 Try.underlying2 Try.underlying3 rfl rfl (by kernel_rfl) (by kernel_rfl) x1 x2 rfl f1
    obtain ⟨u, b, rfl, rfl, _, _⟩ := open_two_wf Try.underlying23 Try.underlying2 Try.underlying3 rfl rfl (by kernel_rfl) (by kernel_rfl) x3 x4 rfl f2
    obtain ⟨p1, c, rfl, rfl, _, _⟩ := open_two_wf Try.underlying23 Try.underlying2 Try.underlying3 rfl rfl (by kernel_rfl) (by kernel_rfl) x5 x6 rfl f3
    obtain ⟨d1, a4, _⟩ := DataW.trod_bool Try.underlying4 f4
    obtain ⟨s, a5, _, _⟩ := DataW.trod_string Try.underlying9 f5
    simp only [List.cons.injEq, and_true] at a0 a4 a5
    subst a0 a4 a5
    have hrow : ∃ A n0 cap, x9 = .slice A n0 cap ∧ ∃ l, Rd w (.slice A n0 cap) l ∧ ∀ x ∈ l, 0 ≤ x ∧ x ≤ 255 := by
      rcases open_ints Try.underlying24 Try.underlying5 (by kernel_rfl) f6 with ⟨hcs, _⟩ | ⟨x, l, c, zs, hcs, _, hl, hm, hz, _, hcell, hwz⟩
      · simp only [List.cons.injEq, and_true] at hcs
        subst hcs
        exact ⟨none, 0, 0, rfl, rd_of_row (.inl ⟨rfl, rfl, rfl, rfl⟩)⟩
      · simp only [List.cons.injEq, and_true] at hcs
        subst hcs
        exact ⟨_, _, _, rfl, rd_of_row (.inr ⟨_, rfl, hl, hm, by simpa using hz, hcell, hwz⟩)⟩
    obtain ⟨A, n0, cap, rfl, l, hr, hb⟩ := hrow
    exact ⟨k, t, a, u, b, p1, c, d1, s, _, l, rfl, hr, hb⟩
end Go.Proofs.Ytginodjiaohcmaa.K

/- Steps that came in. -/
import Derived.Test.YtoajcijjkkkaaaaGreatDoorOpen
import Derived.Test.YtoajcijjkkkaaaaGreatDoorSgC
import Derived.ChangeSlices
import Derived.ChangeArms
namespace Go.Proofs.YtoajcijjkkkaaaaGreatDoor.K
open Go.RowKit Go.Deep Go.ChangeShapes Go.WideShapes Go.ChangeAt Go.Proofs.YtoajcijjkkkaaaaGreatDoorW.PrintWords Go.Proofs.YtoajcijjkkkaaaaGreatDoorW.PrintLast Go.Proofs.YtoajcijjkkkaaaaGreatDoorW.PrintMore
set_option linter.unusedVariables false

theorem open_bools {H : Type} {enc : TypeId × Value → H} {w : World} {base : Nat} {held : Bool} {fuel : Nat} {x : Value} {y : DataW H × List MemPlace}
    (hf : DataW.trod enc Tryz.prog w base (fun _ => true) held fuel 22 [x] = some y) : ∃ (A : Option Addr) (l : List Bool) (c : Nat), x = .slice A l.length c ∧ l.length ≤ c ∧ Kd.bool.C w A l.length l := by
  rcases open_slice Tryz.underlying22 hf with ⟨hcs, _⟩ | ⟨a, len, cap, m, n, D, Pl, hcs, hb, hl, hm, hmm, hx, hi⟩
  · simp only [List.cons.injEq, and_true] at hcs
    subst hcs
    exact ⟨none, [], 0, rfl, Nat.le_refl _, C_none⟩
  · simp only [List.cons.injEq, and_true] at hcs
    subst hcs
    have hC : Tryz.prog.cellsOf 4 = 1 := by kernel_rfl
    have H1 : ∀ i, ∃ b : Bool, i < len → w.cell? (a.add i) = some (.bool b) := by
      intro i
      by_cases him : i < len
      · have hm' : i < m := by rw [hmm]; split <;> omega
        obtain ⟨cs', hc, ht'⟩ := hi i hm'
        rw [hC] at hc
        obtain ⟨_, hcl, hat⟩ := World.cells?_some hc
        match cs', hcl with
        | [x0], _ =>
          obtain ⟨d1, a4, _⟩ := DataW.trod_bool Tryz.underlying4 ht'
          simp only [List.cons.injEq, and_true] at a4
          subst a4
          refine ⟨d1, fun _ => ?_⟩
          have h := hat 0 (by omega)
          rw [Nat.mul_one] at h
          simpa [Addr.add] using h
      · exact ⟨false, fun h => absurd h him⟩
    obtain ⟨f, hf⟩ := Classical.axiomOfChoice H1
    have hlen : ((List.range len).map f).length = len := by simp
    refine ⟨some a, (List.range len).map f, cap, by rw [hlen], by rw [hlen]; exact hl, ⟨rfl, by rw [hlen]; exact Nat.le_trans hl (Nat.le_trans hm (by decide)), fun hp => ⟨a, rfl, fun j q hj => ?_⟩⟩⟩
    have hjl : j < len := by
      have := (List.getElem?_eq_some_iff.1 hj).1
      simpa using this
    rw [List.getElem?_map, List.getElem?_range hjl] at hj
    simp at hj
    subst hj
    refine ⟨[.bool (f j)], rfl, rfl, fun i u hu => ?_⟩
    have hi0 : i = 0 := by have := (List.getElem?_eq_some_iff.1 hu).1; simp at this; exact this
    subst hi0
    simp at hu
    subst hu
    have e : j * Kd.bool.sz + 0 = j := by show j * 1 + 0 = j; omega
    rw [e]
    exact hf j hjl
theorem open_stepc {H : Type} {enc : TypeId × Value → H} {w : World} {base : Nat} {held : Bool} {fuel : Nat} {x0 x1 x2 x3 x4 x5 x6 : Value} {y : DataW H × List MemPlace}
    (hf : DataW.trod enc Tryz.prog w base (fun _ => true) held fuel 24 [x0, x1, x2, x3, x4, x5, x6] = some y) : ∃ r : SR, [x0, x1, x2, x3, x4, x5, x6] = rawC r ∧ SlR w r := by
  obtain ⟨xs, n, _, _, _, hlen, hF⟩ := DataW.trod_struct Tryz.underlying24 hf
  have e1 : Tryz.prog.cellsOf 3 = 1 := by kernel_rfl
  have e4 : Tryz.prog.cellsOf 9 = 1 := by kernel_rfl
  have e5 : Tryz.prog.cellsOf 22 = 1 := by kernel_rfl
  have hl7 : xs.length = 7 := hlen
  have g : ∀ i, i < 7 → ∃ y, xs[i]? = some y := fun i hi => ⟨_, List.getElem?_eq_getElem (by omega)⟩
  obtain ⟨y0, g0⟩ := g 0 (by omega)
  obtain ⟨y1, g1⟩ := g 1 (by omega)
  obtain ⟨y2, g2⟩ := g 2 (by omega)
  obtain ⟨y3, g3⟩ := g 3 (by omega)
  obtain ⟨y4, g4⟩ := g 4 (by omega)
  obtain ⟨y5, g5⟩ := g 5 (by omega)
  obtain ⟨y6, g6⟩ := g 6 (by omega)
  have f0 : DataW.trod enc Tryz.prog w base (fun _ => true) held n 3 (([x0, x1, x2, x3, x4, x5, x6].drop 0).take (Tryz.prog.cellsOf 3)) = xs[0]? := hF 0 _ rfl
  have f1 : DataW.trod enc Tryz.prog w base (fun _ => true) held n 3 (([x0, x1, x2, x3, x4, x5, x6].drop 1).take (Tryz.prog.cellsOf 3)) = xs[1]? := hF 1 _ rfl
  have f2 : DataW.trod enc Tryz.prog w base (fun _ => true) held n 9 (([x0, x1, x2, x3, x4, x5, x6].drop 2).take (Tryz.prog.cellsOf 9)) = xs[2]? := hF 2 _ rfl
  have f3 : DataW.trod enc Tryz.prog w base (fun _ => true) held n 9 (([x0, x1, x2, x3, x4, x5, x6].drop 3).take (Tryz.prog.cellsOf 9)) = xs[3]? := hF 3 _ rfl
  have f4 : DataW.trod enc Tryz.prog w base (fun _ => true) held n 3 (([x0, x1, x2, x3, x4, x5, x6].drop 4).take (Tryz.prog.cellsOf 3)) = xs[4]? := hF 4 _ rfl
  have f5 : DataW.trod enc Tryz.prog w base (fun _ => true) held n 3 (([x0, x1, x2, x3, x4, x5, x6].drop 5).take (Tryz.prog.cellsOf 3)) = xs[5]? := hF 5 _ rfl
  have f6 : DataW.trod enc Tryz.prog w base (fun _ => true) held n 22 (([x0, x1, x2, x3, x4, x5, x6].drop 6).take (Tryz.prog.cellsOf 22)) = xs[6]? := hF 6 _ rfl
  rw [g0] at f0
  rw [g1] at f1
  rw [g2] at f2
  rw [g3] at f3
  rw [g4] at f4
  rw [g5] at f5
  rw [g6] at f6
  simp only [e1, e4, e5, List.drop_zero, List.drop_succ_cons, List.take_succ_cons, List.take_zero] at f0 f1 f2 f3 f4 f5 f6
  obtain ⟨z0, a0, _, _⟩ := DataW.trod_int Tryz.underlying3 f0
  obtain ⟨z1, a1, _, _⟩ := DataW.trod_int Tryz.underlying3 f1
  obtain ⟨s2, a2, _, _⟩ := DataW.trod_string Tryz.underlying9 f2
  obtain ⟨s3, a3, _, _⟩ := DataW.trod_string Tryz.underlying9 f3
  obtain ⟨z4, a4, _, _⟩ := DataW.trod_int Tryz.underlying3 f4
  obtain ⟨z5, a5, _, _⟩ := DataW.trod_int Tryz.underlying3 f5
  simp only [List.cons.injEq, and_true] at a0 a1 a2 a3 a4 a5
  subst a0 a1 a2 a3 a4 a5
  obtain ⟨A, l, c, rfl, hl, hC⟩ := open_bools f6
  exact ⟨⟨⟨z0, z1, s2, s3, z4, z5, l⟩, A, c⟩, rfl, hC, hl⟩
theorem open_steps {H : Type} {enc : TypeId × Value → H} {w : World} {base : Nat} {held : Bool} {d : DataW H} {p : List MemPlace} {a0 : Option Addr} {len0 cap0 : Nat} (h : DataW.Trod enc Tryz.prog w base (fun _ => true) held 26 (.slice a0 len0 cap0) d p) :
    ∃ l : List SS, len0 = l.length ∧ Kd.C kS w a0 l.length l := by
  obtain ⟨fuel, hf⟩ := h
  rcases open_slice Tryz.underlying26 hf with ⟨hcs, _⟩ | ⟨a, len, cap, m, n, D, Pl, hcs, hb, hl, hm, hmm, hx, hi⟩
  · simp [Value.cells] at hcs
    obtain ⟨rfl, rfl, rfl⟩ := hcs
    exact ⟨[], rfl, ⟨rfl, by decide, fun h => absurd h (by decide)⟩⟩
  · simp [Value.cells] at hcs
    obtain ⟨rfl, rfl, rfl⟩ := hcs
    have hC : Tryz.prog.cellsOf 24 = 7 := by kernel_rfl
    have H1 : ∀ i, ∃ q : SR, i < len0 → (∀ j u, (rawC q)[j]? = some u → w.cell? (a.add (i * 7 + j)) = some u) ∧ SlR w q := by
      intro i
      by_cases him : i < len0
      · have hm' : i < m := by rw [hmm]; split <;> omega
        obtain ⟨cs', hc, ht'⟩ := hi i hm'
        rw [hC] at hc
        obtain ⟨_, hcl, hat⟩ := World.cells?_some hc
        match cs', hcl with
        | [x0, x1, x2, x3, x4, x5, x6], _ =>
          obtain ⟨q, hq, hr⟩ := open_stepc ht'
          refine ⟨q, fun _ => ⟨fun j u hu => ?_, hr⟩⟩
          rw [← hq] at hu
          have hj : j < 7 := (List.getElem?_eq_some_iff.1 hu).1
          rw [← Go.Deep.add_add, hat j hj]
          exact hu
      · exact ⟨⟨zS, none, 0⟩, fun h => absurd h him⟩
    obtain ⟨f, hf⟩ := Classical.axiomOfChoice H1
    have hlen : ((List.range len0).map (fun i => (f i).s)).length = len0 := by simp
    refine ⟨(List.range len0).map (fun i => (f i).s), hlen.symm, ⟨rfl, by rw [hlen]; exact Nat.le_trans hl (Nat.le_trans hm (by decide)), fun hp => ⟨a, rfl, fun j q hj => ?_⟩⟩⟩
    have hjl : j < len0 := by
      have := (List.getElem?_eq_some_iff.1 hj).1
      simpa using this
    rw [List.getElem?_map, List.getElem?_range hjl] at hj
    simp at hj
    subst hj
    obtain ⟨h1, h2, h3⟩ := hf j hjl
    exact ⟨rawC (f j), rfl, kS_mk w (f j).s h3 h2, fun i u hu => h1 i u hu⟩
end Go.Proofs.YtoajcijjkkkaaaaGreatDoor.K

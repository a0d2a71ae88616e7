/- A slice of stamps that came in. -/
import Derived.Test.YtfingknhciogkaaSsJ
import Derived.Test.YtfingknhciogkaaOpen
namespace Go.Proofs.Ytfingknhciogkaa.K
open Go.RowKit Go.Deep Go.ChangeShapes Go.WideShapes Go.Proofs.YtfingknhciogkaaW.PrintWords
set_option linter.unusedVariables false

section
variable {H : Type} {enc : TypeId × Value → H} {w : World} {base : Nat} {spare : Nat → Bool} {held : Bool}
theorem open_numS {k : IntKind} {t : TypeId} (hu : Try.prog.underlying t = some (.int k)) {v : Value} {y : DataW H × List MemPlace} {n : Nat} (h : DataW.trod enc Try.prog w base spare held n t [v] = some y) : ∃ a, v = .int k a := by
  obtain ⟨a, e, _⟩ := DataW.trod_int hu h
  simp at e
  exact ⟨a, e⟩
theorem open_sts {d : DataW H} {p : List MemPlace} {a0 : Option Addr} {len0 cap0 : Nat} (h : DataW.Trod enc Try.prog w base spare held 24 (.slice a0 len0 cap0) d p) :
    ∃ x : List St, SRd w (.slice a0 len0 cap0) x := by
  obtain ⟨hlc, hcm, ho⟩ := open_rows Try.underlying24 Try.underlying23 (by kernel_rfl) (by kernel_rfl) (cs := []) h
  have H1 : ∀ i, ∃ q : St, i < len0 → ∃ a, a0 = some a ∧ w.cell? (a.add (i * 2 + 0)) = some (.int .i64 q.f0) ∧ w.cell? (a.add (i * 2 + 1)) = some (.int .i64 q.f1) := by
    intro i
    by_cases hi : i < len0
    · obtain ⟨a, ha, hf⟩ := ho i hi
      obtain ⟨v0, y0, n0, c0, t0⟩ := hf 0 _ rfl
      obtain ⟨v1, y1, n1, c1, t1⟩ := hf 1 _ rfl
      obtain ⟨z0, rfl⟩ := open_numS Try.underlying2 t0
      obtain ⟨z1, rfl⟩ := open_numS Try.underlying3 t1
      exact ⟨⟨z0, z1⟩, fun _ => ⟨a, ha, c0, c1⟩⟩
    · exact ⟨⟨0, 0⟩, fun h => absurd h hi⟩
  obtain ⟨f, hf⟩ := Classical.axiomOfChoice H1
  refine ⟨(List.range len0).map f, a0, cap0, by simp, by simpa using hlc, ⟨rfl, ?_, fun hp => ?_⟩⟩
  · simp only [List.length_map, List.length_range]
    exact Nat.le_trans hlc hcm
  · simp only [List.length_map, List.length_range] at hp
    obtain ⟨a, ha, _⟩ := hf 0 hp
    refine ⟨a, ha, fun j q hj => ?_⟩
    have hjl : j < len0 := by
      have := (List.getElem?_eq_some_iff.1 hj).1
      simpa using this
    rw [List.getElem?_map, List.getElem?_range hjl] at hj
    simp at hj
    subst hj
    obtain ⟨a', ha', c0, c1⟩ := hf j hjl
    rw [ha] at ha'
    injection ha' with ha'
    subst ha'
    refine ⟨[.int .i64 (f j).f0, .int .i64 (f j).f1], rfl, X.k23_mk w (f j), fun i u hu => ?_⟩
    match i, hu with
    | 0, hu =>
      simp at hu
      subst hu
      exact c0
    | 1, hu =>
      simp at hu
      subst hu
      exact c1
end
end Go.Proofs.Ytfingknhciogkaa.K

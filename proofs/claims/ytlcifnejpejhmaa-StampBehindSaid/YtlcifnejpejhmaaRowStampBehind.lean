/- The law StampBehind returns true for every int and every slice of stamps, and leaves its arguments as they were; no condition. -/
import Derived.Test.YtlcifnejpejhmaaOpen
import Derived.Test.YtlcifnejpejhmaaBehind
namespace Go.Proofs.Ytlcifnejpejhmaa.stampBehind
open Go.ChangeShapes Go.WideShapes Go.ChangeAt Go.RowKit Go.Deep
open Go.ChangeMaps (open_string shut_string)
set_option linter.unusedVariables false

def IsRow (k : IntKind) (w : World) (a : Option Addr) (len cap : Nat) (zs : List Int) : Prop :=
  (a = none ∧ len = 0 ∧ cap = 0 ∧ zs = []) ∨
  ∃ x, a = some x ∧ len ≤ cap ∧ cap ≤ maxLen ∧ zs.length = cap ∧ (∀ i, i < zs.length → w.cell? (x.add i) = some (.int k (zs.getD i 0))) ∧ ∀ n ∈ zs, (Lit.int k n).wf = true

set_option maxRecDepth 100000 in
theorem lifted (os : Os) (started : os.Started) (H : Type) (enc : TypeId × Value → H) :
    ReturnsInHanded {} Try.checked os 5 .any (Rows.stampBehindSpec.pre6 enc Try.prog Try.f5 Rows.stampBehindRow.domain false) (Rows.stampBehindSpec.post enc Try.prog Try.f5 false true false false) := by
  refine returnsInHanded_of_change (C := Try.checked) K.own started (by kernel_rfl) Try.func5
    (ChangeSpec.witness6 (enc := enc) (C := Try.checked) false ⟨#[], #[.int .i64 0, .slice none 0 0], []⟩ 8 (by kernel_rfl) (by kernel_rfl) (by kernel_rfl) (by kernel_rfl)) ?_
  intro W base args ds gs before hval0 hW hcnd _
  have hval : ∀ (j : Nat) t v, Try.f5.params[j]? = some t → args[j]? = some v → Value.okWide Try.prog W .any base t v := hval0
  have hW' := hW
  obtain ⟨p, q, hA0, hV, rfl, hfz, hnd⟩ := hW
  have hA : DataW.TrodAll enc Try.prog W 0 (fun _ => true) true Try.f5.params.toList args.toList ds p := hA0
  rw [Try.params5] at hA hval
  obtain ⟨v0, vs0, d0, ds0, p0, q0, hargs, rfl, rfl, h0, r0⟩ := trodAll_cons hA
  obtain ⟨v1, vs1, d1, ds1, p1, q1, rfl, rfl, rfl, h1, r1⟩ := trodAll_cons r0
  obtain ⟨rfl, rfl, rfl⟩ := trodAll_nil r1
  obtain rfl : args = #[v0, v1] := by cases args; simp_all
  obtain ⟨rfl, rfl⟩ := trodVars_none hV
  obtain ⟨a0, rfl, rfl, rfl, w0⟩ := open_int Try.underlying3 (hval 0 3 v0 rfl rfl) h0
  obtain ⟨a1, len1, cap1, rfl⟩ := okWide_slice Try.underlying27 (hval 1 27 v1 rfl rfl)
  have k1 := h1
  have lt1 : ∀ x ∈ p1, x.block < W.heap.size := by obtain ⟨m, hm⟩ := k1; exact DataW.trod_lt m _ _ _ hm
  have ho1 := K.open_rows Try.underlying27 Try.underlying23 (by kernel_rfl) (by kernel_rfl) (cs := []) h1
  have hs : K.Sts W a1 len1 := by
    obtain ⟨_, _, ho⟩ := ho1
    intro i hi
    obtain ⟨a, ha, hf⟩ := ho i hi
    obtain ⟨u0, y0, n0, hc0, ht0⟩ := hf 0 _ rfl
    obtain ⟨u1, y1, n1, hc1, ht1⟩ := hf 1 _ rfl
    obtain ⟨t, e0, _, _⟩ := DataW.trod_int Try.underlying2 ht0
    obtain ⟨s, e1, _, _⟩ := DataW.trod_int Try.underlying3 ht1
    simp at e0 e1
    subst e0 e1
    exact ⟨a, t, s, ha, hc0, by rw [← Go.Proofs.YtlcifnejpejhmaaW.PrintWords.add_field _ _ 1 (by omega)]; exact hc1⟩
  have hwalk := K.behind_walk a0 a1 len1 cap1 W hs
  clear hA0 hval0
  refine hwalk.mono fun e W' ⟨he, bel⟩ => ?_
  subst he
  exact ⟨_, rfl, _, _, _, [], _, [], hW', trodAll_mk1 (shut_bool Try.underlying4 _), (trodAll_cons_mk (shut_int Try.underlying3 w0) (trodAll_cons_mk (Below.trod K.laidOut (by kernel_rfl) (of_decide_eq_true (by kernel_rfl)) k1 bel lt1) trodAll_mk0)), rfl, bel.frame _, fun h => by cases h⟩

theorem over : Rows.stampBehindRow.holds Try.pinned (OpenSpec.ofChange Rows.stampBehindSpec) :=
  OpenClaim.holds_of_wide 5 Try.f5 rfl rfl rfl rfl rfl rfl rfl ⟨rfl, rfl, rfl, rfl, rfl⟩ rfl rfl rfl rfl rfl (by kernel_rfl) Try.func5 (by kernel_rfl)
    (of_decide_eq_true (by kernel_rfl)) (by unfold Func.isWrapper; first | (rw [if_pos (by decide +kernel)]; kernel_rfl) | (rw [if_neg (by decide +kernel)]; exact ⟨rfl, rfl⟩))
    (fun os started H enc _ => lifted os started H enc)

theorem proved : Rows.StampBehindSaid := over
#print axioms proved
end Go.Proofs.Ytlcifnejpejhmaa.stampBehind
namespace Go.Proofs.Ytlcifnejpejhmaa
theorem stampBehind_holds : Rows.StampBehindSaid := stampBehind.proved
end Go.Proofs.Ytlcifnejpejhmaa

/- slices.AppendSeq, slices.Collect of an iterator over stamps. -/
import Derived.Test.YtfingknhciogkaaSsB
import Derived.RangeFuncBox
namespace Go.Proofs.Ytfingknhciogkaa.K
open Go.RowKit Go.Sort Go.Shelf Go.Proofs.YtfingknhciogkaaW.PrintWords Go.Proofs.YtfingknhciogkaaW.PrintLast Go.Proofs.YtfingknhciogkaaW.PrintMore
set_option linter.unusedVariables false
set_option linter.unusedSimpArgs false
attribute [local go_sem] Oper.semAt_some

def flatS (s : List St) : List Value := s.flatMap (fun x => [.int .i64 x.f0, .int .i64 x.f1])
theorem flatS_snoc (s : List St) (x : St) : flatS (s ++ [x]) = flatS s ++ [.int .i64 x.f0, .int .i64 x.f1] := by simp [flatS]
theorem infoS : ∃ i, Try.prog.info? 23 = some i ∧ i.zero = some (.agg #[.int .i64 0, .int .i64 0]) ∧ i.size = 2 ∧ i.bytes = 16 := by
  have h : (Try.prog.info? 23).map (fun i => (i.zero, i.size, i.bytes)) = some (some (.agg #[.int .i64 0, .int .i64 0]), 2, 16) := by kernel_rfl
  cases hi : Try.prog.info? 23 with
  | none => rw [hi] at h; cases h
  | some i =>
    rw [hi] at h
    injection h with h
    injection h with h1 h
    injection h with h2 h3
    exact ⟨i, rfl, h1, h2, h3⟩

theorem two_cells (W : World) (x : St) : ∀ (j : Nat) (u : Value), [Value.int .i64 x.f0, .int .i64 x.f1][j]? = some u → (W.alloc (.cells #[.int .i64 x.f0, .int .i64 x.f1] 23)).cell? ((⟨W.heap.size, 0, none⟩ : Addr).add j) = some u := by
  intro j u hu
  rw [Addr.add_lit, Nat.zero_add, World.cell?_alloc_new]
  match j, hu with
  | 0, hu => exact hu
  | 1, hu => exact hu

set_option maxRecDepth 100000 in
set_option maxHeartbeats 4000000 in
theorem appendSeq_in (Bs : Nat) (v0 : Value) (zs : List St) (hlen : zs.length ≤ 100000) (w : World) (hBs : Bs < w.heap.size) (hc0 : w.cell? ⟨Bs, 0, none⟩ = some v0) (hI0 : Sts2 w.heap.size w v0 zs) :
    CallsIn Fence.wide 5 Try.prog 45 #[.slice none 0 0, .func (.func 40) #[] #[.pointer (some ⟨Bs, 0, none⟩)]] w fun e W' =>
      ∃ v, e = .returned v ∧ W'.ownsRow w.heap.size 23 2 v zs.length (flatS zs) ∧ Below w.heap.size w W' := by
  obtain ⟨i0, hi, hz0, hz1, hz2⟩ := infoS
  have hne : (24 : Nat) ≠ 23 := by decide
  refine callsIn_of_wp_marks Try.func45 rfl trivial ?_ rfl
  simp only [Try.ntmps45, List.size_toArray, List.length_cons, List.length_nil, Nat.reduceAdd, Nat.reduceSub, Array.replicate_succ, Array.replicate_zero, List.push_toArray, List.append_toArray, List.nil_append, List.cons_append]
  gi_wp2
  have bN := Boxed.new w 24 (.slice none 0 0)
  have hB0 : Below w.heap.size w (w.alloc (.cells #[.slice none 0 0] 24)) := below_alloc (Below.refl _ _) _
  have hs0 : w.heap.size ≤ (w.alloc (.cells #[.slice none 0 0] 24)).heap.size := hB0.size
  refine wpIn_rangeFunc_ownH rfl (by decide) (gf := 40) (lb := #[.pointer (some ⟨Bs, 0, none⟩)]) rfl trivial (enters_of Try.func40 (by kernel_rfl) rfl)
    (values_stops 4 (by decide) Bs w.heap.size v0 zs hlen _ (by simp; omega) hs0 ((hB0.cell (p := ⟨Bs, 0, none⟩) hBs).trans hc0) (hI0.below hB0)) belowK_t (belowK_b hs0) (Below.refl _ _) (fun _ => rfl)
    (fun pre W => (∃ v, Boxed W w.heap.size 24 v ∧ W.ownsRow w.heap.size 23 2 v pre.length (flatS pre) ∧ True) ∧ Below w.heap.size w W)
    (fun _ _ _ => False)
    (OwnFrom.and (Own.from (holdsRow_own w.heap.size w.heap.size 24 23 2 List.length flatS (fun _ _ => True)) _) (ownFrom_below (Nat.le_refl _) hs0))
    (fun _ _ _ _ _ hs _ _ => hs)
    ⟨⟨_, bN, ⟨rfl, .inl ⟨rfl, rfl⟩⟩, trivial⟩, hB0⟩
    (fun x a' W => ∃ g, a' = { tmps := #[.slice none 0 0, .func (.func 40) #[] #[.pointer (some ⟨Bs, 0, none⟩)], .pointer (some ⟨w.heap.size, 0, none⟩), undef, .slice none 0 0, .pointer (some ⟨g, 0, none⟩), .func (.func 40) #[] #[.pointer (some ⟨Bs, 0, none⟩)], stV x, undef, undef, undef, undef, undef], defers := [] } ∧ W.cell? ⟨g, 0, none⟩ = some (.int .i64 x.f0) ∧ W.cell? ⟨g, 1, none⟩ = some (.int .i64 x.f1))
    (fun x a' => Own.from (fun _ A B row hs hg hr => by
      obtain ⟨g, e, c0, c1⟩ := hs
      exact ⟨g, e, cell_kept c0 hg hr, cell_kept c1 hg hr⟩) _) ?assign ?body ?done ?stop
  case assign =>
    rintro l pre x W K ⟨⟨v, hv, hr, _⟩, hB⟩ hK
    gi_wp2
    have hb1 := below_alloc' (n₀ := w.heap.size) (W := w) hB.size (Nat.le_refl _) (.cells #[.int .i64 x.f0, .int .i64 x.f1] 23)
    exact hK _ _ ((KeepsOthers.alloc _ _).from _) hb1 ⟨⟨v, hv.alloc _, hr.alloc _, trivial⟩, hB.trans hb1⟩ ⟨_, rfl, (World.cell?_alloc_new W _ _ 0).trans rfl, (World.cell?_alloc_new W _ _ 1).trans rfl⟩
  case body =>
    rintro l pre x a' W hl hlr ⟨⟨v, hv, hrow, _⟩, hB⟩ ⟨g, rfl, c0, c1⟩ hpre
    have hW := hB.size
    have hcv := hv.cell
    have HRow := Aside0.mk hrow
    have HV := Aside0.mk hv
    have HBB := Aside0.mk hB
    clear hrow hv hB
    gi_wp2_with (first
      | (gi_at_builtin; refine wpListIn_append_own _ rfl _ _ 24 rfl w.heap.size 23 i0 (.agg #[.int .i64 0, .int .i64 0]) 2 16 Try.underlying24 hi hz0 hz1 hz2 rfl (by decide) v pre.length (flatS pre) rfl (HRow.out.alloc _) ⟨W.heap.size, 0, none⟩ 1 1 [.int .i64 x.f0, .int .i64 x.f1] rfl rfl (two_cells W x) (by simp [Value.oneCell']) (by simp only [maxLen]; omega) (by omega) (by simp; omega) ?_; intro v' w3 hown' hg3 hnil3; obtain ⟨g', cap', rfl⟩ := ownsRow_succ hown'; have hap := Boxed.appended HV.out hne HRow.out hW (Nat.le_refl _) hown' hg3; have hc3 := hap.1.cell; have hf3 := hap.1.frozen; have HAP := Aside0.mk hap; clear hap hown' hg3 hnil3 hcv c0 c1; go_frame))
    obtain ⟨_, h2, h3, h4, h5⟩ := HAP.out
    refine ⟨h4.from _, h5, ⟨_, h2, ?_, trivial⟩, HBB.out.trans h5⟩
    rw [flatS_snoc, List.length_append]
    exact h3
  case done =>
    rintro D ys W hD rfl ⟨⟨v, hv, hrow, _⟩, hB⟩ hK
    have hcv := hv.cell
    gi_wp2
    refine ⟨by simp, .inl ⟨_, _, rfl, run_takeDeferred hK, ?_⟩⟩
    exact ⟨_, results_tmp rfl _ _ _, v, rfl, ownsRow_putObj hrow _ hK rfl, hB.trans (belowK_b (w := w) (Nat.le_refl _) W D _ _ (Nat.le_trans hs0 hD) hK rfl rfl)⟩
  case stop =>
    rintro D c pre W _ _ h _
    exact h.elim
end Go.Proofs.Ytfingknhciogkaa.K

/- cachettelaw08.one, alive. The law BufferRuns. A slice of entries that came in. -/
import Derived.Test.YtekhpogigndlkaaMF
import Derived.Test.YtekhpogigndlkaaOpen
import Derived.ChangeSlices
import Derived.ChangeArms
namespace Go.Proofs.Ytekhpogigndlkaa.K
open Go.RowKit Go.Proofs.YtekhpogigndlkaaW.PrintWords Go.Proofs.YtekhpogigndlkaaW.PrintLast Go.Proofs.YtekhpogigndlkaaW.PrintMore
set_option linter.unusedVariables false
set_option linter.unusedSimpArgs false

def oneE (x i : Int) : En := ⟨x, i, 1, ⟨1, x⟩, 0, [], 0⟩
def oneP (x i : Int) : EP := ⟨oneE x i, none, 0⟩
theorem oneP_rd (x i : Int) (w : World) : Rd w (oneP x i).b (oneP x i).e.f5 := ⟨none, 0, rfl, Nat.le_refl _, Kd.C_nil _ _⟩
set_option maxRecDepth 100000 in
set_option maxHeartbeats 4000000 in
theorem one_calls (x i : Int) (w : World) (hi : 0 < i) :
    Calls Try.prog 24 #[.int .i64 x, .int .i64 i] w fun e w' => e = .returned (enV (oneP x i)) ∧ Below w.heap.size w w' := by
  go_enter Try.func24, Try.ntmps24
  go_wp2
  refine gen_bp (fun W7 hW7 => ?_)
  have h7 : W7.heap[w.heap.size]? = some (.cells #[.int .i64 x, .int .i64 i, .int .u64 1, .int .i64 1, .int .i64 x, .int .i64 0, .slice none 0 0, .int .u64 0] 33 (0, 0)) := by
    rw [hW7]
    exact (heap_alloc_old _ _ (by simp)).trans (heap_alloc_new _ _)
  have hB : Below w.heap.size w W7 := by rw [hW7]; with_reducible exact below_alloc (below_alloc (Below.refl _ _) _) _
  refine bodyPost_ret (results_single (r := .cell 4 33) rfl (.cell w.heap.size 33 _ (0, 0) _ rfl h7 Try.underlying33 rfl (by kernel_rfl) .nil)) rfl ?_
  exact ⟨rfl, hB⟩
theorem alive_k : holdK 3 [] (oneE 1 3) = 0 ∧ holdK 3 [oneE 1 3] (oneE 1 1) = 0 ∧ holdK 3 [oneE 1 3, oneE 1 1] (oneE 1 2) = 0 := by decide
theorem alive_l : holdL 3 [] (oneE 1 3) = [oneE 1 3] ∧ holdL 3 [oneE 1 3] (oneE 1 1) = [oneE 1 3, oneE 1 1] ∧ holdL 3 [oneE 1 3, oneE 1 1] (oneE 1 2) = [oneE 1 3, oneE 1 1, oneE 1 2] := by
  obtain ⟨h1, h2, h3⟩ := alive_k
  refine ⟨?_, ?_, ?_⟩
  · rw [holdL, if_pos h1]; rfl
  · rw [holdL, if_pos h2]; rfl
  · rw [holdL, if_pos h3]; rfl
theorem alive_run {os : List EP} {M : List En} (hp : (os.map (·.e) ++ M).Perm [oneE 1 3, oneE 1 1, oneE 1 2]) (hk : ∀ (i : Nat) (o : EP), os[i]? = some o → keyE o.e = (1, 1 + (i : Int))) (hM : ∀ q ∈ M, keyE q ≠ (1, 1 + (os.length : Int))) :
    os.length = 3 ∧ M = [] := by
  have hl := hp.length_eq
  simp only [List.length_append, List.length_map, List.length_cons, List.length_nil] at hl
  have key : ∀ i : Int, (i = 1 ∨ i = 2 ∨ i = 3) → (∃ q ∈ M, keyE q = (1, i)) ∨ ∃ (j : Nat), j < os.length ∧ 1 + (j : Int) = i := by
    intro i hi
    have hm : oneE 1 i ∈ [oneE 1 3, oneE 1 1, oneE 1 2] := by rcases hi with rfl | rfl | rfl <;> simp
    rcases List.mem_append.1 (hp.mem_iff.2 hm) with h | h
    · right
      obtain ⟨o, ho, he⟩ := List.mem_map.1 h
      obtain ⟨j, hj, rfl⟩ := List.mem_iff_getElem.1 ho
      refine ⟨j, hj, ?_⟩
      have h1 := hk j _ (List.getElem?_eq_getElem hj)
      have he : os[j].e = oneE 1 i := he
      rw [he] at h1
      simp only [keyE, oneE, Prod.mk.injEq] at h1
      omega
    · exact .inl ⟨_, h, rfl⟩
  have h3 : os.length = 3 := by
    by_cases h : os.length < 3
    · exfalso
      rcases key (1 + (os.length : Int)) (by omega) with ⟨q, hq, he⟩ | ⟨j, hj, he⟩
      · exact hM q hq he
      · omega
    · omega
  exact ⟨h3, List.eq_nil_of_length_eq_zero (by omega)⟩
set_option maxRecDepth 100000 in
set_option maxHeartbeats 8000000 in
theorem alive_calls (w : World) :
    Calls Try.prog 7 #[] w fun e w' => e = .returned (.bool true) ∧ Below w.heap.size w w' := by
  obtain ⟨k1, k2, k3⟩ := alive_k
  obtain ⟨l1, l2, l3⟩ := alive_l
  have K1 := Aside0.mk k1
  have K2 := Aside0.mk k2
  have K3 := Aside0.mk k3
  have L1 := Aside0.mk l1
  have L2 := Aside0.mk l2
  have L3 := Aside0.mk l3
  clear k1 k2 k3 l1 l2 l3
  go_enter Try.func7, Try.ntmps7
  go_upto_region 4 with (first
    | (go_at_call 8; go_must (refine (bnew w.heap.size 3 _ (by decide) (by decide) (Nat.le_refl _)).mono ?_; rintro e w1 ⟨g, rfl, h1, -, h2⟩; have HB1 := Aside0.mk h1; have HW1 := Aside0.mk h2; clear h1 h2))
    | (go_at_call 24; go_must (refine (one_calls _ _ _ (by decide)).mono ?_; first
        | (rintro e w6 ⟨rfl, hb⟩; have HB6 := Aside0.mk (HB5.out.below hb); have HW6 := Aside0.mk (HW5.out.trans (hb.mono HW5.out.size)); clear hb)
        | (rintro e w4 ⟨rfl, hb⟩; have HB4 := Aside0.mk (HB3.out.below hb); have HW4 := Aside0.mk (HW3.out.trans (hb.mono HW3.out.size)); clear hb)
        | (rintro e w2 ⟨rfl, hb⟩; have HB2 := Aside0.mk (HB1.out.below hb); have HW2 := Aside0.mk (HW1.out.trans (hb.mono HW1.out.size)); clear hb)))
    | (go_at_call 9; go_must (first
        | (refine (bhold w.heap.size g 3 _ _ (oneP 1 2) _ HB6.out (oneP_rd _ _ _) (by decide)).mono ?_; rw [show holdK 3 _ (oneP 1 2).e = 0 from K3.out]; rintro e w7 ⟨rfl, v7, h1, h2, -⟩; rw [show holdL 3 _ (oneP 1 2).e = _ from L3.out] at h1; have HB7 := Aside0.mk h1; have HW7 := Aside0.mk (HB6.out.step h2 HW6.out); clear h1 h2)
        | (refine (bhold w.heap.size g 3 _ _ (oneP 1 1) _ HB4.out (oneP_rd _ _ _) (by decide)).mono ?_; rw [show holdK 3 _ (oneP 1 1).e = 0 from K2.out]; rintro e w5 ⟨rfl, v5, h1, h2, -⟩; rw [show holdL 3 _ (oneP 1 1).e = _ from L2.out] at h1; have HB5 := Aside0.mk h1; have HW5 := Aside0.mk (HB4.out.step h2 HW4.out); clear h1 h2)
        | (refine (bhold w.heap.size g 3 _ _ (oneP 1 3) _ HB2.out (oneP_rd _ _ _) (by decide)).mono ?_; rw [show holdK 3 _ (oneP 1 3).e = 0 from K1.out]; rintro e w3 ⟨rfl, v3, h1, h2, -⟩; rw [show holdL 3 _ (oneP 1 3).e = _ from L1.out] at h1; have HB3 := Aside0.mk h1; have HW3 := Aside0.mk (HB2.out.step h2 HW2.out); clear h1 h2)))
    | (go_at_call 11; go_must (refine (brun w.heap.size g 3 _ _ 1 1 _ HB7.out).mono ?_; rintro e w8 ⟨os, M, A, c, v8, rfl, h1, h2, h3, h4, h5, h6, -, -⟩; have HB8 := Aside0.mk h1; have HR8 := Aside0.mk h2; have HAR := Aside0.mk (alive_run h3 h4 h5); have HKY := Aside0.mk h4; have HW8 := Aside0.mk (HB7.out.step h6 HW7.out); clear h1 h2 h3 h4 h5 h6)))
  obtain ⟨hl3, rfl⟩ := HAR.out
  obtain ⟨o0, ho0⟩ : ∃ o, os[0]? = some o := ⟨_, List.getElem?_eq_getElem (by omega)⟩
  obtain ⟨o2, ho2⟩ : ∃ o, os[2]? = some o := ⟨_, List.getElem?_eq_getElem (by omega)⟩
  have e0 : o0.e.f1 = 1 := by
    have := HKY.out 0 o0 ho0
    simp only [keyE, Prod.mk.injEq] at this
    omega
  have e2 : o2.e.f1 = 3 := by
    have := HKY.out 2 o2 ho2
    simp only [keyE, Prod.mk.injEq] at this
    omega
  obtain ⟨gr, rfl, -, c1, -⟩ := HR8.out.at rfl ho0
  obtain ⟨gr', hgr, -, c2, -⟩ := HR8.out.at rfl ho2
  injection hgr with hgr
  injection hgr with hgr
  subst hgr
  rw [e0] at c1
  rw [e2] at c2
  simp only [Nat.zero_mul, Nat.zero_add, Nat.reduceMul, Nat.reduceAdd] at c1 c2
  rw [hl3]
  clear HKY HR8 HAR e0 e2 ho0 ho2 hl3
  go_wp2_with (first
    | (go_at_call 13; go_must (refine (blen w.heap.size g 3 _ _ _ HB8.out).mono ?_; rintro e w9 ⟨rfl, hb⟩; have HW9 := Aside0.mk (HW8.out.trans (hb.mono HW8.out.size)); clear hb)))
  go_ret
  exact ⟨rfl, HW9.out⟩
end Go.Proofs.Ytekhpogigndlkaa.K

namespace Go.Proofs.Ytekhpogigndlkaa.K
open Go.RowKit Go.Proofs.YtekhpogigndlkaaW.PrintWords Go.Proofs.YtekhpogigndlkaaW.PrintLast Go.Proofs.YtekhpogigndlkaaW.PrintMore
set_option linter.unusedVariables false
set_option linter.unusedSimpArgs false

/-- A slice of entries. -/
def ERd (W : World) (v : Value) (l : List En) : Prop := ∃ A c, v = .slice A l.length c ∧ l.length ≤ c ∧ Kd.C X.k33 W A l.length l
end Go.Proofs.Ytekhpogigndlkaa.K

namespace Go.Proofs.Ytekhpogigndlkaa.K
open Go.RowKit Go.Deep Go.ChangeShapes Go.WideShapes Go.ChangeAt Go.Proofs.YtekhpogigndlkaaW.PrintWords Go.Proofs.YtekhpogigndlkaaW.PrintLast Go.Proofs.YtekhpogigndlkaaW.PrintMore
set_option linter.unusedVariables false

theorem open_two_wf {H : Type} {enc : TypeId × Value → H} {P : Program} {w : World} {base : Nat} {spare : Nat → Bool} {held : Bool} {t : TypeId} {f0 f1 : Field} {l : List Value} {fuel : Nat} {x : DataW H × List MemPlace}
    (ht : P.underlying t = some (.struct #[f0, f1])) (h0 : P.underlying f0.type = some (.int .i64)) (h1 : P.underlying f1.type = some (.int .i64))
    (o0 : f0.offset = 0) (o1 : f1.offset = 1) (c0 : P.cellsOf f0.type = 1) (c1 : P.cellsOf f1.type = 1) (x0 x1 : Value) (hl : l = [x0, x1])
    (hf : DataW.trod enc P w base spare held fuel t l = some x) : ∃ a b, x0 = .int .i64 a ∧ x1 = .int .i64 b ∧ (Lit.int .i64 a).wf = true ∧ (Lit.int .i64 b).wf = true := by
  subst hl
  obtain ⟨y0, y1, m, _, _, hy0, hy1⟩ := trod_struct2 ht hf
  obtain ⟨a, e0, _, w0⟩ := DataW.trod_int h0 hy0
  obtain ⟨b, e1, _, w1⟩ := DataW.trod_int h1 hy1
  simp [o0, o1, c0, c1] at e0 e1
  exact ⟨a, b, e0, e1, w0, w1⟩
theorem open_en {H : Type} {enc : TypeId × Value → H} {w : World} {base : Nat} {held : Bool} {fuel : Nat} {x0 x1 x2 x3 x4 x5 x6 x7 : Value} {y : DataW H × List MemPlace}
    (hf : DataW.trod enc Try.prog w base (fun _ => true) held fuel 33 [x0, x1, x2, x3, x4, x5, x6, x7] = some y) :
    ∃ p : EP, [x0, x1, x2, x3, x4, x5, x6, x7] = enC p ∧ Rd w p.b p.e.f5 ∧ (∀ x ∈ p.e.f5, 0 ≤ x ∧ x ≤ 255) := by
  obtain ⟨xs, n, _, _, _, hlen, hF⟩ := DataW.trod_struct Try.underlying33 hf
  have e1 : Try.prog.cellsOf 3 = 1 := by kernel_rfl
  have e2 : Try.prog.cellsOf 30 = 2 := by kernel_rfl
  have e3 : Try.prog.cellsOf 28 = 1 := by kernel_rfl
  have e5 : Try.prog.cellsOf 31 = 1 := by kernel_rfl
  have hl7 : xs.length = 7 := hlen
  have g : ∀ i, i < 7 → ∃ y, xs[i]? = some y := fun i hi => ⟨_, List.getElem?_eq_getElem (by omega)⟩
  obtain ⟨y0, g0⟩ := g 0 (by omega)
  obtain ⟨y1, g1⟩ := g 1 (by omega)
  obtain ⟨y2, g2⟩ := g 2 (by omega)
  obtain ⟨y3, g3⟩ := g 3 (by omega)
  obtain ⟨y4, g4⟩ := g 4 (by omega)
  obtain ⟨y5, g5⟩ := g 5 (by omega)
  obtain ⟨y6, g6⟩ := g 6 (by omega)
  have f0 : DataW.trod enc Try.prog w base (fun _ => true) held n 3 (([x0, x1, x2, x3, x4, x5, x6, x7].drop 0).take (Try.prog.cellsOf 3)) = xs[0]? := hF 0 _ rfl
  have f1 : DataW.trod enc Try.prog w base (fun _ => true) held n 3 (([x0, x1, x2, x3, x4, x5, x6, x7].drop 1).take (Try.prog.cellsOf 3)) = xs[1]? := hF 1 _ rfl
  have f2 : DataW.trod enc Try.prog w base (fun _ => true) held n 28 (([x0, x1, x2, x3, x4, x5, x6, x7].drop 2).take (Try.prog.cellsOf 28)) = xs[2]? := hF 2 _ rfl
  have f3 : DataW.trod enc Try.prog w base (fun _ => true) held n 30 (([x0, x1, x2, x3, x4, x5, x6, x7].drop 3).take (Try.prog.cellsOf 30)) = xs[3]? := hF 3 _ rfl
  have f4 : DataW.trod enc Try.prog w base (fun _ => true) held n 3 (([x0, x1, x2, x3, x4, x5, x6, x7].drop 5).take (Try.prog.cellsOf 3)) = xs[4]? := hF 4 _ rfl
  have f5 : DataW.trod enc Try.prog w base (fun _ => true) held n 31 (([x0, x1, x2, x3, x4, x5, x6, x7].drop 6).take (Try.prog.cellsOf 31)) = xs[5]? := hF 5 _ rfl
  have f6 : DataW.trod enc Try.prog w base (fun _ => true) held n 28 (([x0, x1, x2, x3, x4, x5, x6, x7].drop 7).take (Try.prog.cellsOf 28)) = xs[6]? := hF 6 _ rfl
  rw [g0] at f0
  rw [g1] at f1
  rw [g2] at f2
  rw [g3] at f3
  rw [g4] at f4
  rw [g5] at f5
  rw [g6] at f6
  simp only [e1, e2, e3, e5, List.drop_zero, List.drop_succ_cons, List.take_succ_cons, List.take_zero] at f0 f1 f2 f3 f4 f5 f6
  obtain ⟨a0, b0, _, _⟩ := DataW.trod_int Try.underlying3 f0
  obtain ⟨a1, b1, _, _⟩ := DataW.trod_int Try.underlying3 f1
  obtain ⟨a2, b2, _, _⟩ := DataW.trod_int Try.underlying28 f2
  obtain ⟨t, a, rfl, rfl, _, _⟩ := open_two_wf Try.underlying30 Try.underlying2 Try.underlying3 rfl rfl (by kernel_rfl) (by kernel_rfl) x3 x4 rfl f3
  obtain ⟨a5, b5, _, _⟩ := DataW.trod_int Try.underlying3 f4
  obtain ⟨a7, b7, _, _⟩ := DataW.trod_int Try.underlying28 f6
  simp only [List.cons.injEq, and_true] at b0 b1 b2 b5 b7
  subst b0 b1 b2 b5 b7
  have hrow : ∃ A n0 cap, x6 = .slice A n0 cap ∧ ∃ l, Rd w (.slice A n0 cap) l ∧ ∀ x ∈ l, 0 ≤ x ∧ x ≤ 255 := by
    rcases open_ints Try.underlying31 Try.underlying5 (by kernel_rfl) f5 with ⟨hcs, _⟩ | ⟨x, l, c, zs, hcs, _, hl, hm, hz, _, hcell, hwz⟩
    · simp only [List.cons.injEq, and_true] at hcs
      subst hcs
      exact ⟨none, 0, 0, rfl, rd_of_row (.inl ⟨rfl, rfl, rfl, rfl⟩)⟩
    · simp only [List.cons.injEq, and_true] at hcs
      subst hcs
      exact ⟨_, _, _, rfl, rd_of_row (.inr ⟨_, rfl, hl, hm, by simpa using hz, hcell, hwz⟩)⟩
  obtain ⟨A, n0, cap, rfl, l, hr, hb⟩ := hrow
  have hl : n0 = l.length := by
    obtain ⟨A', c', h, _⟩ := hr
    injection h
  subst hl
  exact ⟨⟨⟨a0, a1, a2, ⟨t, a⟩, a5, l, a7⟩, A, cap⟩, rfl, hr, hb⟩
end Go.Proofs.Ytekhpogigndlkaa.K

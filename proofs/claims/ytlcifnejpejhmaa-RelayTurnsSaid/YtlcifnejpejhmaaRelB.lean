/- relay: slices.Delete of one item; queue.cut, queue.has; of, Waits. -/
import Derived.Test.YtlcifnejpejhmaaRelA
namespace Go.Proofs.Ytlcifnejpejhmaa.K
open Go.RowKit Go.Proofs.YtlcifnejpejhmaaW.PrintWords Go.Proofs.YtlcifnejpejhmaaW.PrintLast Go.Proofs.YtlcifnejpejhmaaW.PrintMore
set_option linter.unusedVariables false
set_option linter.unusedSimpArgs false

theorem infoItS : (Try.prog.info? 107).map (·.size) = some 2 := by kernel_rfl
/-- A store behind the row's end. -/
theorem qr_tail {W : World} {base : Nat} {ok : Nat → Prop} {g n c : Nat} {xs : List It} (h : QR W base ok (.slice (some ⟨g, 0, none⟩) n c) xs) (j : Nat) (hj : n * 2 ≤ j) (u : Value) : QR (W.setCell ⟨g, j, none⟩ u) base ok (.slice (some ⟨g, 0, none⟩) n c) xs := by
  obtain ⟨h0, inner, ⟨hl, ho⟩, hr⟩ := h
  have hn : n = xs.length := by
    rcases ho with ⟨e, _⟩ | ⟨g', cap, cur, he, _⟩
    · cases e
    · injection he
  rcases ho with ⟨e, _⟩ | ⟨g', cap, cur, he, hb, hh, hle, hcm, hcs, ht⟩
  · cases e
  · injection he with he1 he2 he3
    injection he1 with he1
    injection he1 with he1
    subst he1 he3
    refine ⟨h0, inner, ⟨hl, .inr ⟨g, c, cur.setIfInBounds j u, rfl |>.trans (by rw [hn]), hb, blk_set hh j u, hle, hcm, by simpa using hcs, ?_⟩⟩, ?_⟩
    · rw [← ht]
      simp only [Array.toList_setIfInBounds]
      rw [show IK.sz = 2 from rfl]
      rw [List.take_set_of_le (by omega)]
    · exact hr.imp_ (fun p q hp => Kd.M_far hp (fun k hk => by
        intro e
        exact hk.2 (by rw [e]; rfl)) u)
/-- Cells up to the row's room. -/
theorem qr_cells {W : World} {base : Nat} {ok : Nat → Prop} {g n c : Nat} {xs : List It} (h : QR W base ok (.slice (some ⟨g, 0, none⟩) n c) xs) (j : Nat) (hj : j < c * 2) : ∃ u, W.cell? ⟨g, j, none⟩ = some u ∧ W.frozen? ⟨g, j, none⟩ = false := by
  obtain ⟨h0, inner, ⟨hl, ho⟩, hr⟩ := h
  rcases ho with ⟨e, _⟩ | ⟨g', cap, cur, he, hb, hh, hle, hcm, hcs, ht⟩
  · cases e
  · injection he with he1 he2 he3
    injection he1 with he1
    injection he1 with he1
    subst he1 he3
    have hs : IK.sz = 2 := rfl
    rw [hs] at hcs
    exact ⟨_, (blk_cell hh j).trans (Array.getElem?_eq_getElem (by omega)), blk_frozen hh j⟩

/-- clear of one item. -/
theorem run_clear_item (W : World) (g o c : Nat) (u0 u1 : Value) (h0 : W.cell? ⟨g, o, none⟩ = some u0) (f0 : W.frozen? ⟨g, o, none⟩ = false) (h1 : W.cell? ⟨g, o + 1, none⟩ = some u1) (f1 : W.frozen? ⟨g, o + 1, none⟩ = false) :
    (Builtin.clear_ #[95] 0 #[.slice (some ⟨g, o, none⟩) 1 c]).run Try.prog W = .ok (.tuple #[]) ((W.setCell ⟨g, o, none⟩ (.slice none 0 0)).setCell ⟨g, o + 1, none⟩ (.bool false)) := by
  obtain ⟨i0, hi, hz⟩ := Option.map_eq_some_iff.1 infoIt
  simp only [Prod.mk.injEq] at hz
  have hv : ∀ w, (zeroValue 107).run Try.prog w = .ok (.agg #[.slice none 0 0, .bool false]) w := by
    intro w
    simp [zeroValue, typeInfo, hi, hz.1]
  have hzc : (Builtin.zeroCells (Value.agg #[.slice none 0 0, .bool false]).cells 1).toList = [.slice none 0 0, .bool false] := by simp [Builtin.zeroCells, Value.cells, List.range_succ]
  have hst := run_storeCells_cells (P := Try.prog) g o [Value.slice none 0 0, .bool false] 0 W (by
    intro j hj
    match j, hj with
    | 0, _ => simp [h0]
    | 1, _ => simp [h1]) (by
    intro j hj
    match j, hj with
    | 0, _ => simpa using f0
    | 1, _ => simpa using f1) (by simp [Value.oneCell'])
  simp only [Nat.add_zero] at hst
  simp [Builtin.clear_, run_underlying Try.underlying95, hv, hzc, hst, World.setCells]

theorem grown_set {W W1 : World} {b : Nat} (h : W.grownBy W1 (some b)) (j : Nat) (v : Value) : W.grownBy (W1.setCell ⟨b, j, none⟩ v) (some b) := by
  have hb := (Below.refl 0 W1).setCell (p := ⟨b, j, none⟩) (Nat.zero_le _) v
  refine ⟨hb.os.trans h.os, hb.tape.trans h.tape, hb.output.trans h.output, Nat.le_trans h.size ((KeepBut.refl W1 b none).set_ j v).1, fun k hk hne => ?_⟩
  rw [Below.heap_setCell _ _ _ _ (fun e => hne (by rw [e]))]
  exact h.block k hk hne
theorem grown_drew {W W1 : World} {b : Option Nat} (h : W.drew.grownBy W1 b) : W.grownBy W1 b := ⟨h.os, h.tape, h.output, h.size, h.block⟩

set_option maxRecDepth 100000 in
set_option maxHeartbeats 4000000 in
theorem qdel_calls (i : Nat) (v : Value) (xs : List It) (ok : Nat → Prop) (w0 w : World) (hR : QR w w0.heap.size ok v xs) (hi : i < xs.length) (hB : Below w0.heap.size w0 w) (hx : xs.length ≤ 100000) :
    Calls Try.prog 91 #[v, .int .i64 i, .int .i64 ((i : Int) + 1)] w fun e w' => ∃ v', e = .returned v' ∧ QR w' w0.heap.size ok v' (xs.eraseIdx i) ∧ Below w0.heap.size w0 w' ∧ w.grownBy w' v.ownBlock := by
  obtain ⟨g, cap, rfl, hg0, hg1, cells, hcells⟩ := Kd.R_form hR (by omega)
  obtain ⟨n, hn⟩ : ∃ n, xs.length = n := ⟨_, rfl⟩
  rw [hn] at hR hi hx ⊢
  have HR := Aside0.mk hR
  have HB := Aside0.mk hB
  have hcap : n ≤ cap := by
    obtain ⟨A, c, e, h1, _⟩ := Kd.R_reads hR
    injection e with _ e1 e2
    omega
  have hcm : (cap : Int) ≤ 9223372036854775807 := by
    obtain ⟨h0, inner, ⟨hl, ho⟩, hr⟩ := hR
    rcases ho with ⟨e, _⟩ | ⟨g', cap', cur, he, hb, hh, hle, hcm, hcs, ht⟩
    · cases e
    · injection he with he1 he2 he3
      subst he3
      simp [maxLen] at hcm
      omega
  have HG := Aside0.mk hg0
  clear hR hB hcells hg0 hg1
  have HN := Aside0.mk hn
  obtain ⟨k, hk⟩ : ∃ k : Nat, k = i + 1 := ⟨_, rfl⟩
  have hk1 : (i : Int) + 1 = k := by omega
  rw [hk1]
  have HK := Aside0.mk hk
  have hki : (i : Int) ≤ k := by omega
  have hkn : (k : Int) ≤ n := by omega
  have hin : (i : Int) ≤ n := by omega
  have hnc : (n : Int) ≤ cap := by omega
  have hic : (i : Int) ≤ cap := by omega
  have hik : ((i : Int) == k) = false := by simp; omega
  have hi0 : (0 : Int) ≤ i := by omega
  clear hn hk hk1 hx hcap
  obtain ⟨m1, hm1⟩ : ∃ m1, n - 1 = m1 := ⟨_, rfl⟩
  have HM1 := Aside0.mk hm1
  have hm1n : (m1 : Int) ≤ n := by omega
  have hm1c : (m1 : Int) ≤ cap := by omega
  have hm2 : n - m1 = 1 := by omega
  have hm3 : m1 + 1 ≤ cap := by omega
  clear hm1
  by_cases hc : k = cap
  · subst hc
    go_enter Try.func91, Try.ntmps91
    go_wp2
    go_region_held3 (fun w' => True) (first | trivial)
      (first
        | (refine Kd.R_delete_step IK (w0 := w0) w0.heap.size rfl (.tmp 22) (.tmp 25) 95 107 rfl Try.underlying95 infoItS (g := g) (n := n) (c := k) (k := i) rfl rfl ?hA ?hm (by exact Kd.R_drew HR.out) hi (below_drew1 HB.out) (by exact HB.out.size) ?_;
           (case hA => (rw [← HK.out]; simp)); (case hm => (have := HK.out; omega));
           intro w26 ho hb hg; rw [HM1.out] at ho ⊢; obtain ⟨u0, hu0, hf0⟩ := qr_cells ho (m1 * 2) (by omega); obtain ⟨u1, hu1, hf1⟩ := qr_cells ho (m1 * 2 + 1) (by omega); have hclr := run_clear_item w26 g (m1 * 2) (k - m1) u0 u1 hu0 hf0 hu1 hf1; have HR26 := Aside0.mk ho; have HB26 := Aside0.mk hb; have HG26 := Aside0.mk hg; clear ho hb hg))
    go_wp2
    go_ret
    refine ⟨_, rfl, qr_tail (qr_tail HR26.out (m1 * 2) (Nat.le_refl _) _) (m1 * 2 + 1) (by omega) _, (HB26.out.setCell (p := ⟨g, m1 * 2, none⟩) HG.out _).setCell (p := ⟨g, m1 * 2 + 1, none⟩) HG.out _, grown_set (grown_set (grown_drew HG26.out) _ _) _ _⟩
  · have hck : (k : Int) < cap := by omega
    have hck2 : ¬ cap = k := fun e => hc e.symm
    clear hc
    go_enter Try.func91, Try.ntmps91
    go_wp2
    go_region_held3 (fun w' => True) (first | trivial)
      (first
        | (refine Kd.R_delete_step IK (w0 := w0) w0.heap.size rfl (.tmp 22) (.tmp 25) 95 107 rfl Try.underlying95 infoItS (g := g) (n := n) (c := cap) (k := i) rfl rfl ?hA ?hm (by exact Kd.R_drew HR.out) hi (below_drew1 HB.out) (by exact HB.out.size) ?_;
           (case hA => (rw [← HK.out, if_neg hck2, show IK.sz = 2 from rfl]; have hk0 : ¬ k * 2 = 0 := (by have := HK.out; omega); simp only [Option.map_some, Addr.add, hk0, if_false, Nat.zero_add])); (case hm => (have := HK.out; omega));
           intro w26 ho hb hg; rw [HM1.out] at ho ⊢; obtain ⟨u0, hu0, hf0⟩ := qr_cells ho (m1 * 2) (by omega); obtain ⟨u1, hu1, hf1⟩ := qr_cells ho (m1 * 2 + 1) (by omega); have hclr := run_clear_item w26 g (m1 * 2) (cap - m1) u0 u1 hu0 hf0 hu1 hf1; have HR26 := Aside0.mk ho; have HB26 := Aside0.mk hb; have HG26 := Aside0.mk hg; clear ho hb hg))
    go_wp2
    go_ret
    refine ⟨_, rfl, qr_tail (qr_tail HR26.out (m1 * 2) (Nat.le_refl _) _) (m1 * 2 + 1) (by omega) _, (HB26.out.setCell (p := ⟨g, m1 * 2, none⟩) HG.out _).setCell (p := ⟨g, m1 * 2 + 1, none⟩) HG.out _, grown_set (grown_set (grown_drew HG26.out) _ _) _ _⟩
end Go.Proofs.Ytlcifnejpejhmaa.K

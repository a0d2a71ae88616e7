/- slices.Clone of bytes and of a pile; own. is, slices.IndexFunc, find. New, Len, First, Take. First, Take. Take. -/
import Derived.Test.YtekhpogigndlkaaMC
namespace Go.Proofs.Ytekhpogigndlkaa.K
open Go.RowKit Go.Proofs.YtekhpogigndlkaaW.PrintWords Go.Proofs.YtekhpogigndlkaaW.PrintLast Go.Proofs.YtekhpogigndlkaaW.PrintMore
set_option linter.unusedVariables false
set_option linter.unusedSimpArgs false

set_option maxHeartbeats 400000 in
theorem clone_calls (v0 : Value) (l0 : List Int) (w : World) (hr0 : Rd w v0 l0) (hl : l0.length ≤ 140737488355328) :
    Calls Try.prog 47 #[v0] w fun e w' => ∃ v, e = .returned v ∧ Own w' w.heap.size v l0 ∧ Below w.heap.size w w' := by
  have HR := Aside0.mk hr0
  obtain ⟨A0, c0, rfl, hc0, hC0⟩ := hr0
  have HC := Aside0.mk hC0
  have HL := Aside0.mk hl
  have HB := Aside0.mk (Below.refl w.heap.size w)
  clear hl hC0 hc0
  have hn := Lib.run_eql_slice_nil (P := Try.prog)
  by_cases hA : A0.isNone = true
  · go_enter Try.func47, Try.ntmps47
    go_wp2
    go_ret
    obtain rfl := nil_of HC.out hA
    exact ⟨_, rfl, Kd.R_nil _ _ _ _ _, Below.refl _ _⟩
  · have hA : A0.isNone = false := by cases A0 <;> simp_all
    go_enter Try.func47, Try.ntmps47
    go_wp2_with (first
      | ((with_reducible refine gate_dst (N := 5) rfl ?_); go_must (((try (refine gate_guard (by rfl) ?_; dsimp only)); refine lit_bytes (w0 := w) (w).heap.size 5 ?hg ?hd ([]) ?hr ?hm HB.out HB.out.size ?_; (case hd => rfl); (case hg => rfl); (case hr => first | (go_simp; done) | (go_simp; rfl)); (case hm => simp); intro vHO1 wHO1 ho hb hbw; have HO1 := Aside0.mk ho; clear HB; have HB := Aside0.mk hb; clear ho hb hbw)))
      | ((with_reducible refine gate_builtin (b := .append) (xs := #[.tmp 5, .tmp 6]) rfl ?_); at_builtin; go_must (((try (refine gate_guard (by rfl) ?_; dsimp only)); refine app_bytes (w0 := w) (w).heap.size rfl (.tmp 5) (.tmp 6) 31 rfl Try.underlying31 info5 _ _ ([]) (l0) rfl rfl HO1.out ?aR HB.out HB.out.size ?aL ?_; (case aR => exact HR.out.below HB.out); (case aL => (have := HL.out; simp; omega)); intro vHO2 wHO2 ho hb hg; have HO2 := Aside0.mk ho; clear HB; have HB := Aside0.mk hb; clear ho hb hg))))
    go_ret
    exact ⟨_, rfl, HO2.out, HB.out⟩

section
variable {P : Program} {ops : Array Oper} {rest : List Oper} {o : Oper} {a : Act} {Q : Exit → Act → World → Prop} {W : World}
theorem flE_one (ps : List EP) : ∀ u ∈ flE ps, u.oneCell' = true := by
  intro u hu
  obtain ⟨p, _, hu⟩ := List.mem_flatMap.1 hu
  exact enC_one p u hu
/-- append of entries onto a row of the call's own. -/
theorem app_pile (base : Nat) (hgd : o.guard = none) (s x : Operand) (t : TypeId)
    (ho : o.op = .call { callee := .builtin .append, args := #[s, x], argTypes := #[t, t] }) (ht : Try.prog.underlying t = some (.slice 33))
    (v : Value) (n : Nat) (ps qs : List EP) (hs : a.eval s = v) (HO : PlR W base v ps) (hn : ps.length = n) (ad : Addr) (m c : Nat) (hx : a.eval x = .slice (some ad) m c) (hm : qs.length = m)
    (hnews : ∀ j u, (flE qs)[j]? = some u → W.cell? (ad.add j) = some u) (hb : ∀ p ∈ qs, Own W base p.b p.e.f5) (hbase : base ≤ W.heap.size) (hl : n + m ≤ 1000000)
    (h : ∀ v1 w1, PlR w1 base v1 (ps ++ qs) → Fr W w1 (fun k => v.ownBlock = some k) → (v1.ownBlock = v.ownBlock ∨ v1.ownBlock = some W.heap.size) → wpList Try.prog ops Q rest (a.put o.dst v1) w1) :
    wpList Try.prog ops Q (o :: rest) a W := by
  obtain ⟨i, hi, hzz⟩ := Option.map_eq_some_iff.1 infoEn
  simp only [Prod.mk.injEq] at hzz
  obtain ⟨hz, hs8, hs80⟩ := hzz
  subst hn hm
  refine wpList_append_own_at W hgd s x t ho base 33 i _ 8 80 ht hi hz hs8 hs80 rfl (by decide) v ps.length (flE ps) hs HO.row ad qs.length c (flE qs) hx (flE_length qs) hnews (flE_one qs) (by simp only [maxLen]; omega) (by omega) hbase (fun v' w' h1 h2 _ h4 => ?_)
  have hf := grown_fr h2
  refine h v' w' ⟨by rw [List.length_append, flE_append]; exact h1, fun p hp => ?_⟩ hf h4
  have hO : Own W base p.b p.e.f5 := by
    rcases List.mem_append.1 hp with hp | hp
    · exact HO.bod p hp
    · exact hb p hp
  refine hO.fr hf (fun k hk e => ?_)
  obtain ⟨cs, hc⟩ := HO.typed k e
  exact Own.typed hO hc (by decide) k hk rfl
end
set_option maxHeartbeats 400000 in
theorem pclone_calls (base n : Nat) (A : Option Addr) (c : Nat) (ps : List EP) (w : World) (h : PlR w base (.slice A n c) ps) (hn : ps.length = n) (hl : n ≤ 100000) (hbw : base ≤ w.heap.size) :
    Calls Try.prog 31 #[.slice A n c] w fun e w' => ∃ A' c', e = .returned (.slice A' n c') ∧ PlR w' base (.slice A' n c') ps ∧ (∀ k, (Value.slice A' n c').ownBlock = some k → w.heap.size ≤ k) ∧ Below w.heap.size w w' := by
  have HH := Aside0.mk h
  have HL := Aside0.mk hl
  have HN := Aside0.mk hn
  have HBW := Aside0.mk hbw
  have hnl := Lib.run_eql_slice_nil (P := Try.prog)
  rcases h.slice with ⟨h1, h2⟩ | ⟨g, cap, cur, h1, hbg, hcur, hnc, hcm, hsz, htk⟩
  · injection h1 with h1 h3 h4
    subst h1 h3 h4
    clear h hl hn hbw
    go_enter Try.func31, Try.ntmps31
    go_wp2
    go_ret
    exact ⟨none, 0, rfl, HH.out, fun k hk => by simp [Value.ownBlock] at hk, Below.refl _ _⟩
  · injection h1 with h1 h3 h4
    subst h1 h4
    have hnews : ∀ j u, (flE ps)[j]? = some u → w.cell? ((⟨g, 0, none⟩ : Addr).add j) = some u := HH.out.row.cells (g := g) rfl
    have HNW := Aside0.mk hnews
    clear h hl hn hbw hcur htk hsz hcm hnews hnc h3
    go_enter Try.func31, Try.ntmps31
    go_wp2_with (first
      | ((with_reducible refine gate_builtin (b := .append) (xs := #[.tmp 5, .tmp 6]) rfl ?_); at_builtin; go_must (refine app_pile base rfl (.tmp 5) (.tmp 6) 57 rfl Try.underlying57 (.slice (some ⟨w.heap.size, 0, none⟩) 0 0) 0 [] ps rfl ?ho0 rfl ⟨g, 0, none⟩ n c rfl HN.out ?hnw ?hbd ?hbs ?hlt ?_; (case ho0 => exact ⟨⟨rfl, .inr ⟨w.heap.size, 0, #[], rfl, HBW.out, heap_alloc_new _ _, Nat.le_refl _, by decide, rfl, rfl⟩⟩, fun p hp => by simp at hp⟩); (case hnw => exact fun j u hu => pw_cell_below (below_alloc (Below.refl _ _) _) (HNW.out j u hu)); (case hbd => exact (HH.out.below (below_alloc (Below.refl _ _) _)).bod); (case hbs => (have := HBW.out; simp; omega)); (case hlt => (have := HL.out; omega)); intro v7 w7 hp hf hat; rw [List.nil_append] at hp; obtain ⟨A7, c7, rfl, hc7, hC7⟩ := hp.reads; rw [HN.out] at hp hat; rw [HN.out]; have HP7 := Aside0.mk hp; have HF7 := Aside0.mk hf; have HAT := Aside0.mk hat; clear hp hf hat hC7 hc7)))
    go_ret
    refine ⟨A7, c7, rfl, HP7.out, fun k hk => ?_, ?_⟩
    · rcases HAT.out with h | h
      · rw [hk] at h
        injection h with h
        rw [h]
        exact Nat.le_refl _
      · rw [hk] at h
        injection h with h
        rw [h]
        simp
    · exact HF7.out.below (below_alloc (Below.refl _ _) _) (fun k hk => Nat.le_of_eq (Option.some.inj (show some w.heap.size = some k from hk)))
theorem cells8z {W : World} {g t : Nat} {u0 u1 u2 u3 u4 u5 u6 u7 : Value} (h : W.heap[g]? = some (.cells #[u0, u1, u2, u3, u4, u5, u6, u7] t (0, 0))) :
    W.cell? ⟨g, 0, none⟩ = some u0 ∧ W.cell? ⟨g, 1, none⟩ = some u1 ∧ W.cell? ⟨g, 2, none⟩ = some u2 ∧ W.cell? ⟨g, 3, none⟩ = some u3 ∧ W.cell? ⟨g, 4, none⟩ = some u4 ∧ W.cell? ⟨g, 5, none⟩ = some u5 ∧ W.cell? ⟨g, 6, none⟩ = some u6 ∧ W.cell? ⟨g, 7, none⟩ = some u7 ∧ (W.frozen? ⟨g, 0, none⟩ = false ∧ W.frozen? ⟨g, 1, none⟩ = false ∧ W.frozen? ⟨g, 2, none⟩ = false ∧ W.frozen? ⟨g, 3, none⟩ = false ∧ W.frozen? ⟨g, 4, none⟩ = false ∧ W.frozen? ⟨g, 5, none⟩ = false ∧ W.frozen? ⟨g, 6, none⟩ = false ∧ W.frozen? ⟨g, 7, none⟩ = false) :=
  ⟨blk_cell h 0, blk_cell h 1, blk_cell h 2, blk_cell h 3, blk_cell h 4, blk_cell h 5, blk_cell h 6, blk_cell h 7, blk_frozen h 0, blk_frozen h 1, blk_frozen h 2, blk_frozen h 3, blk_frozen h 4, blk_frozen h 5, blk_frozen h 6, blk_frozen h 7⟩
theorem setA8 (u0 u1 u2 u3 u4 u5 u6 u7 v0 v1 v2 v3 v4 v5 v6 v7 : Value) : setA #[u0, u1, u2, u3, u4, u5, u6, u7] 0 [v0, v1, v2, v3, v4, v5, v6, v7] = #[v0, v1, v2, v3, v4, v5, v6, v7] := by simp [setA]
theorem heap_set8z {W : World} {g t : Nat} {u0 u1 u2 u3 u4 u5 u6 u7 : Value} (h : W.heap[g]? = some (.cells #[u0, u1, u2, u3, u4, u5, u6, u7] t (0, 0))) (p : EP) :
    ((((((((W.setCell ⟨g, 0, none⟩ (.int .i64 p.e.f0)).setCell ⟨g, 1, none⟩ (.int .i64 p.e.f1)).setCell ⟨g, 2, none⟩ (.int .u64 p.e.f2)).setCell ⟨g, 3, none⟩ (.int .i64 p.e.f3.f0)).setCell ⟨g, 4, none⟩ (.int .i64 p.e.f3.f1)).setCell ⟨g, 5, none⟩ (.int .i64 p.e.f4)).setCell ⟨g, 6, none⟩ (.slice p.A p.e.f5.length p.c)).setCell ⟨g, 7, none⟩ (.int .u64 p.e.f6)).heap[g]? = some (.cells (enC p).toArray t (0, 0)) := by
  have h8 := heap_set8 h 0 p
  rw [show setA #[u0, u1, u2, u3, u4, u5, u6, u7] 0 (enC p) = (enC p).toArray from setA8 ..] at h8
  exact h8
theorem Own.slice {W : World} {base : Nat} {v : Value} {l : List Int} (h : Own W base v l) : ∃ A c, v = .slice A l.length c := by
  obtain ⟨A, c, h, _⟩ := Kd.R_reads h
  exact ⟨A, c, h⟩
/-- An entry with bytes of its own. -/
def OwnQ (w : World) (p : EP) (e : Ending) (W : World) : Prop := ∃ q : EP, e = .returned (enV q) ∧ q.e = p.e ∧ Own W w.heap.size q.b q.e.f5 ∧ Below w.heap.size w W
set_option maxHeartbeats 4000000 in
theorem own_calls (p : EP) (w : World) (hr : Rd w p.b p.e.f5) (hl : p.e.f5.length ≤ 140737488355328) :
    Calls Try.prog 30 #[enV p] w fun e w' => OwnQ w p e w' := by
  have HR := Aside0.mk hr
  have HL := Aside0.mk hl
  clear hr hl
  simp only [enV]
  go_enter Try.func30, Try.ntmps30
  go_upto_region 1 with fail
  refine gen_world (fun W2 hW2 => ?_)
  have hB2 : Below w.heap.size w W2 := by rw [hW2]; exact below_alloc (below_alloc (Below.refl _ _) _) _
  have hx2 : W2.heap[w.heap.size]? = some (.cells (enC p).toArray 33 (0, 0)) := by rw [hW2]; exact (heap_alloc_old _ _ (by simp)).trans (heap_alloc_new _ _)
  have hy2 : W2.heap[w.heap.size + 1]? = some (.cells #[.int .i64 0, .int .i64 0, .int .u64 0, .int .i64 0, .int .i64 0, .int .i64 0, .slice none 0 0, .int .u64 0] 33 (0, 0)) := by rw [hW2]; exact (congrArg _ (by simp)).trans (heap_alloc_new _ _)
  obtain ⟨g1, hg1⟩ : ∃ g, g = w.heap.size := ⟨_, rfl⟩
  obtain ⟨g2, hg2⟩ : ∃ g, g = w.heap.size + 1 := ⟨_, rfl⟩
  rw [← hg2] at hy2 ⊢
  rw [← hg1] at hx2 ⊢
  have hne : g1 ≠ g2 := by omega
  have hne' : g2 ≠ g1 := by omega
  have HG : Aside0 (w.heap.size ≤ g1 ∧ w.heap.size ≤ g2) := ⟨by omega⟩
  obtain ⟨x0, x1, x2, x3, x4, x5, x6, x7, z0, z1, z2, z3, z4, z5, z6, z7⟩ := cells8z hx2
  have HX2 := Aside0.mk hx2
  have HY2 := Aside0.mk hy2
  have HB2 := Aside0.mk hB2
  clear hW2 hB2 hx2 hy2 hg1 hg2
  go_upto_region 2 with (first
    | (go_at_call 47; go_must ((refine (clone_calls _ p.e.f5 _ (HR.out.below HB2.out) HL.out).mono ?_; rintro e w5 ⟨v5, rfl, ho, hb⟩; obtain ⟨A5, c5, rfl⟩ := ho.slice; obtain ⟨x0, x1, x2, x3, x4, x5, x6, x7, z0, z1, z2, z3, z4, z5, z6, z7⟩ := cells8z (blk_below HX2.out hb); have HX5 := Aside0.mk (blk_below HX2.out hb); have HY5 := Aside0.mk (blk_below HY2.out hb); have HO5 := Aside0.mk (Kd.R_lower ho HB2.out.size); have HB5 : Aside0 (Below w.heap.size w w5) := ⟨HB2.out.trans (hb.mono HB2.out.size)⟩; clear ho hb))))
  refine gen_world (fun W6 hW6 => ?_)
  have hx6 : W6.heap[g1]? = some (.cells (enC (⟨p.e, A5, c5⟩ : EP)).toArray 33 (0, 0)) := by
    rw [hW6]
    have := blk_set HX5.out 6 (.slice A5 p.e.f5.length c5)
    simpa [enC] using this
  have hy6 : W6.heap[g2]? = some (.cells #[.int .i64 0, .int .i64 0, .int .u64 0, .int .i64 0, .int .i64 0, .int .i64 0, .slice none 0 0, .int .u64 0] 33 (0, 0)) := by rw [hW6, Below.heap_setCell _ _ _ _ hne']; exact HY5.out
  have HB6 : Aside0 (Below w.heap.size w W6) := ⟨by rw [hW6]; exact HB5.out.setCell HG.out.1 _⟩
  have HO6 : Aside0 (Own W6 w.heap.size (.slice A5 p.e.f5.length c5) p.e.f5) := ⟨by
    rw [hW6]
    refine Own.fr (S := fun k => k = g1) HO5.out (Fr.set (Fr.refl _ (fun k => k = g1)) (.inl rfl) _ _) (fun k hk e => ?_)
    exact Own.typed HO5.out HX5.out (by decide) k hk e⟩
  obtain ⟨x0, x1, x2, x3, x4, x5, x6, x7, z0, z1, z2, z3, z4, z5, z6, z7⟩ := cells8z hx6
  obtain ⟨y0, y1, y2, y3, y4, y5, y6, y7, u0, u1, u2, u3, u4, u5, u6, u7⟩ := cells8z hy6
  have HY6 := Aside0.mk hy6
  clear hW6 hx6 hy6
  go_wp2
  refine gen_bp (fun W7 hW7 => ?_)
  have hy7 : W7.heap[g2]? = some (.cells #[.int .i64 p.e.f0, .int .i64 p.e.f1, .int .u64 p.e.f2, .int .i64 p.e.f3.f0, .int .i64 p.e.f3.f1, .int .i64 p.e.f4, .slice A5 p.e.f5.length c5, .int .u64 p.e.f6] 33 (0, 0)) := by
    rw [hW7]
    exact heap_set8z HY6.out ⟨p.e, A5, c5⟩
  have hf7 : Fr W6 W7 (fun k => k = g2) := by rw [hW7]; repeat (with_reducible first | exact Fr.refl _ _ | refine Fr.setg ?_ _ _)
  have HY7 := Aside0.mk hy7
  have HB7 : Aside0 (Below w.heap.size w W7) := ⟨hf7.below HB6.out (fun k hk => by rw [hk]; exact HG.out.2)⟩
  have HO7 : Aside0 (Own W7 w.heap.size (.slice A5 p.e.f5.length c5) p.e.f5) := ⟨Own.fr HO6.out hf7 (fun k hk e => Own.typed HO6.out HY6.out (by decide) k hk e)⟩
  clear hW7 hy7 hf7
  refine bodyPost_ret (results_single (r := .cell 2 33) rfl (.cell g2 33 _ (0, 0) _ rfl HY7.out Try.underlying33 rfl (by kernel_rfl) .nil)) rfl ?_
  exact ⟨⟨p.e, A5, c5⟩, rfl, rfl, HO7.out, HB7.out⟩
end Go.Proofs.Ytekhpogigndlkaa.K

namespace Go.Proofs.Ytekhpogigndlkaa.K
open Go.RowKit Go.Proofs.YtekhpogigndlkaaW.PrintWords Go.Proofs.YtekhpogigndlkaaW.PrintLast Go.Proofs.YtekhpogigndlkaaW.PrintMore
set_option linter.unusedVariables false
set_option linter.unusedSimpArgs false

theorem is_calls (x y : Int) (p : EP) (w : World) (hr : Rd w p.b p.e.f5) :
    Calls Try.prog 44 #[.agg #[.int .i64 x, .int .i64 y], enV p] w fun e w' => e = .returned (.bool (decide (keyE p.e = (x, y)))) ∧ Below w.heap.size w w' := by
  obtain ⟨A, c, hv, hc, hC⟩ := hr
  injection hv with h1 h2 h3
  subst h1 h3
  have hf : X.buffer_place_is.f x y p.e.f0 p.e.f1 p.e.f2 p.e.f3.f0 p.e.f3.f1 p.e.f4 p.e.f5 p.e.f6 = some (decide (keyE p.e = (x, y))) := by
    unfold X.buffer_place_is.f X.buffer_at.f keyE
    simp only [Option.bind_some, Option.some.injEq]
    rw [Bool.eq_iff_iff]
    simp
  exact X.buffer_place_is.calls x y p.e.f0 p.e.f1 p.e.f2 p.e.f3.f0 p.e.f3.f1 p.e.f4 p.A p.c p.e.f5 p.e.f6 _ w hC hc hf
theorem at_calls (p : EP) (w : World) (hr : Rd w p.b p.e.f5) :
    Calls Try.prog 27 #[enV p] w fun e w' => e = .returned (.agg #[.int .i64 p.e.f0, .int .i64 p.e.f1]) ∧ Below w.heap.size w w' := by
  obtain ⟨A, c, hv, hc, hC⟩ := hr
  injection hv with h1 h2 h3
  subst h1 h3
  exact X.buffer_at.calls p.e.f0 p.e.f1 p.e.f2 p.e.f3.f0 p.e.f3.f1 p.e.f4 p.A p.c p.e.f5 p.e.f6 _ _ w hC hc rfl
/-- Where an entry of a key stands. -/
def FndP (ps : List EP) (k : Ky) (r : Int) : Prop := (r = -1 ∧ ∀ p ∈ ps, keyE p.e ≠ k) ∨ ∃ (i : Nat) (p : EP), r = i ∧ ps[i]? = some p ∧ keyE p.e = k
theorem PlR.rd {w : World} {base : Nat} {v : Value} {ps : List EP} (h : PlR w base v ps) {i : Nat} {p : EP} (hp : ps[i]? = some p) : Rd w p.b p.e.f5 := Own.rd (h.bod p (List.mem_of_getElem? hp))
theorem PlR.at {w : World} {base n : Nat} {A : Option Addr} {c : Nat} {ps : List EP} (h : PlR w base (.slice A n c) ps) (hn : ps.length = n) {i : Nat} {p : EP} (hp : ps[i]? = some p) :
    ∃ gr, A = some ⟨gr, 0, none⟩ ∧ w.cell? ⟨gr, i * 8, none⟩ = some (.int .i64 p.e.f0) ∧ w.cell? ⟨gr, i * 8 + 1, none⟩ = some (.int .i64 p.e.f1) ∧ w.cell? ⟨gr, i * 8 + 2, none⟩ = some (.int .u64 p.e.f2) ∧ w.cell? ⟨gr, i * 8 + 3, none⟩ = some (.int .i64 p.e.f3.f0) ∧ w.cell? ⟨gr, i * 8 + 4, none⟩ = some (.int .i64 p.e.f3.f1) ∧ w.cell? ⟨gr, i * 8 + 5, none⟩ = some (.int .i64 p.e.f4) ∧ w.cell? ⟨gr, i * 8 + 6, none⟩ = some (.slice p.A p.e.f5.length p.c) ∧ w.cell? ⟨gr, i * 8 + 7, none⟩ = some (.int .u64 p.e.f6) := by
  rcases h.slice with ⟨h1, h2⟩ | ⟨g, cap, cur, h1, hbg, hcur, hnc, hcm, hsz, htk⟩
  · subst h2
    simp at hp
  · injection h1 with h1 _ _
    exact ⟨g, h1, cells_at hcur htk hp⟩
set_option maxRecDepth 100000 in
set_option maxHeartbeats 4000000 in
theorem indexf_calls (base n : Nat) (A : Option Addr) (c : Nat) (ps : List EP) (x y : Int) (w : World) (h : PlR w base (.slice A n c) ps) (hn : ps.length = n) (hl : n ≤ 100000) :
    Calls Try.prog 43 #[.slice A n c, .func (.func 44) #[.agg #[.int .i64 x, .int .i64 y]] #[]] w fun e w' => ∃ r : Int, e = .returned (.int .i64 r) ∧ FndP ps (x, y) r ∧ Below w.heap.size w w' := by
  have HH := Aside0.mk h
  have HN := Aside0.mk hn
  have HL := Aside0.mk hl
  clear h hn hl
  go_enter Try.func43, Try.ntmps43
  go_wp2
  go_loopg [8] n (fun g v8 wr => ∃ (j : Nat), g = n - j ∧ v8 = .int .i64 j ∧ j ≤ n ∧ Aside0 (∀ (i : Nat) (p : EP), i < j → ps[i]? = some p → keyE p.e ≠ (x, y)) ∧ Aside0 (Below w.heap.size w wr))
  case atStart => exact ⟨0, rfl, rfl, Nat.zero_le _, ⟨fun i p hi => absurd hi (Nat.not_lt_zero i)⟩, ⟨Below.refl _ _⟩⟩
  case round =>
    obtain ⟨j, hg, rfl, hj, HS, HB⟩ := hrel
    have HG := Aside0.mk hg
    clear hg
    by_cases hjn : j = n
    · subst hjn
      have hlt : ¬ (j : Int) < (j : Int) := by omega
      have HF : Aside0 (FndP ps (x, y) (-1)) := ⟨.inl ⟨rfl, fun p hp => by
        obtain ⟨i, hi, he⟩ := List.mem_iff_getElem.1 hp
        exact HS.out i p (by have := HN.out; omega) (by rw [List.getElem?_eq_getElem hi, he])⟩⟩
      go_wp2
      go_ret
      exact ⟨_, rfl, HF.out, HB.out⟩
    · obtain ⟨p, hp⟩ : ∃ p, ps[j]? = some p := ⟨_, List.getElem?_eq_getElem (by have := HN.out; omega)⟩
      have HPB := HH.out.below HB.out
      obtain ⟨gr, rfl, c0, c1, c2, c3, c4, c5, c6, c7⟩ := HPB.at HN.out hp
      have HR : Aside0 (Rd wr p.b p.e.f5) := ⟨HPB.rd hp⟩
      have HJ : Aside0 (j < n ∧ n ≤ 100000) := ⟨by omega, HL.out⟩
      have hk : (-1000000 : Int) ≤ (j : Int) + 1 ∧ (j : Int) + 1 ≤ 1000000 := by have := HJ.out; omega
      have hlt : (j : Int) < n := by omega
      have h0 : (0 : Int) ≤ j := by omega
      have HP := Aside0.mk hp
      have hw1 := iw (x := (j : Int) + 1) rfl hk
      have hw2 := w64 (x := (j : Int) + 1) rfl hk
      clear hk hp HPB hj hjn
      by_cases hkk : keyE p.e = (x, y)
      · have HD : Aside0 (decide (keyE p.e = (x, y)) = true) := ⟨decide_eq_true hkk⟩
        have HF : Aside0 (FndP ps (x, y) j) := ⟨.inr ⟨j, p, rfl, HP.out, hkk⟩⟩
        clear hkk
        go_wp2_with (first
          | (go_at_call 44; go_must (refine (is_calls x y p _ HR.out).mono ?_; rw [HD.out]; rintro e w16 ⟨rfl, hb⟩; have HB16 := Aside0.mk (HB.out.trans (hb.mono HB.out.size)); clear hb)))
        go_ret
        exact ⟨_, rfl, HF.out, HB16.out⟩
      · have HD : Aside0 (decide (keyE p.e = (x, y)) = false) := ⟨decide_eq_false hkk⟩
        have HK := Aside0.mk hkk
        clear hkk
        go_wp2_with (first
          | (go_at_call 44; go_must (refine (is_calls x y p _ HR.out).mono ?_; rw [HD.out]; rintro e w16 ⟨rfl, hb⟩; have HB16 := Aside0.mk (HB.out.trans (hb.mono HB.out.size)); clear hb)))
        clear hw1 hw2
        go_roundg (n - (j + 1))
        case measure => rw [HG.out]; have := HJ.out; omega
        case rel => exact ⟨j + 1, rfl, by simp, by have := HJ.out; omega, ⟨fun i q hi hq => by
          by_cases e : i = j
          · subst e
            rw [HP.out] at hq
            injection hq with hq
            rw [← hq]
            exact HK.out
          · exact HS.out i q (by omega) hq⟩, HB16⟩
/-- A buffer's block. -/
abbrev BufW (W : World) (base g : Nat) (most : Int) (v : Value) (ps : List EP) : Prop := Pile W base g 1 #[.int .i64 most, .slice none 0 0] 59 v ps
theorem BufW.hd' {W : World} {base g : Nat} {most : Int} {v : Value} {ps : List EP} (h : BufW W base g most v ps) : W.heap[g]? = some (.cells #[.int .i64 most, v] 59 (0, 0)) := h.hd
set_option maxRecDepth 100000 in
set_option maxHeartbeats 4000000 in
theorem find_calls (base g n : Nat) (most : Int) (A : Option Addr) (c : Nat) (ps : List EP) (x y : Int) (w : World) (h : BufW w base g most (.slice A n c) ps) (hn : ps.length = n) (hl : n ≤ 100000) :
    Calls Try.prog 26 #[.pointer (some ⟨g, 0, none⟩), .agg #[.int .i64 x, .int .i64 y]] w fun e w' => ∃ r : Int, e = .returned (.int .i64 r) ∧ FndP ps (x, y) r ∧ Below w.heap.size w w' := by
  have hmf : ∀ (fn : Fn) (first cap : Array Value) (w : World), (Instr.makeFunc fn first cap).run Try.prog w = .ok (.func fn first cap) w := fun _ _ _ _ => rfl
  have HH := Aside0.mk h
  have HN := Aside0.mk hn
  have HL := Aside0.mk hl
  have hc := h.cell
  clear h hn hl
  go_enter Try.func26, Try.ntmps26
  go_upto_region 1 with fail
  refine gen_world (fun W2 hW2 => ?_)
  have hB2 : Below w.heap.size w W2 := by rw [hW2]; exact below_alloc (Below.refl _ _) _
  have hx2 : W2.heap[w.heap.size]? = some (.cells #[.int .i64 x, .int .i64 y] 63 (0, 0)) := by rw [hW2]; exact heap_alloc_new _ _
  have c2 := pw_cell_below hB2 hc
  obtain ⟨g1, hg1⟩ : ∃ g, g = w.heap.size := ⟨_, rfl⟩
  rw [← hg1] at hx2 ⊢
  have x0 : W2.cell? ⟨g1, 0, none⟩ = some (.int .i64 x) := blk_cell hx2 0
  have x1 : W2.cell? ⟨g1, 1, none⟩ = some (.int .i64 y) := blk_cell hx2 1
  have HB2 := Aside0.mk hB2
  clear hW2 hB2 hx2 hg1 hc
  go_region_held3 (fun w' => w'.cell? ⟨g, 1, none⟩ = some (.slice A n c) ∧ w'.cell? ⟨g1, 0, none⟩ = some (.int .i64 x) ∧ w'.cell? ⟨g1, 1, none⟩ = some (.int .i64 y))
    (first | exact ⟨c2, x0, x1⟩ | (go_split_ands; exact ⟨pw_cell_below hb (by assumption), pw_cell_below hb (by assumption), pw_cell_below hb (by assumption)⟩))
    (first
      | (go_at_call 43; (with_reducible refine (indexf_calls base n A c ps x y _ (HH.out.below (by with_reducible repeat (first | exact HB2.out | apply below_drew1))).row HN.out HL.out).mono ?_); rintro e w11 ⟨r, rfl, hr, hb⟩; have HR := Aside0.mk hr; clear hr))
  all_goals
    go_wp2
    go_ret
    exact ⟨_, rfl, HR.out, below_step (by with_reducible repeat (first | exact HB2.out | apply below_drew1 | apply pw_below_drewN)) hb⟩
end Go.Proofs.Ytekhpogigndlkaa.K

namespace Go.Proofs.Ytekhpogigndlkaa.K
open Go.RowKit Go.Proofs.YtekhpogigndlkaaW.PrintWords Go.Proofs.YtekhpogigndlkaaW.PrintLast Go.Proofs.YtekhpogigndlkaaW.PrintMore
set_option linter.unusedVariables false
set_option linter.unusedSimpArgs false

theorem new_ok (base : Nat) (most : Int) (w : World) (h1 : 1 ≤ most) (h2 : most ≤ 16) (hb : base ≤ w.heap.size) :
    Calls Try.prog 8 #[.int .i64 most] w fun e w' => ∃ g, e = .returned (.tuple #[.pointer (some ⟨g, 0, none⟩), .int .i64 0]) ∧ BufW w' base g most (.slice none 0 0) [] ∧ w.heap.size ≤ g ∧ Below w.heap.size w w' := by
  have a1 : ¬ most < 1 := by omega
  have a2 : ¬ 16 < most := by omega
  have HB := Aside0.mk hb
  clear hb h1 h2
  go_enter Try.func8, Try.ntmps8
  go_wp2
  go_ret2
  exact ⟨w.heap.size, rfl, ⟨heap_alloc_new _ _, by simp, by decide, PlR.nil _ _, HB.out⟩, Nat.le_refl _, below_alloc (Below.refl _ _) _⟩
theorem new_bad (most : Int) (w : World) (h : most < 1 ∨ 16 < most) :
    Calls Try.prog 8 #[.int .i64 most] w fun e w' => e = .returned (.tuple #[.pointer none, .int .i64 1]) ∧ Below w.heap.size w w' := by
  by_cases a1 : most < 1
  · go_enter Try.func8, Try.ntmps8
    go_wp2
    go_ret2
    exact ⟨rfl, Below.refl _ _⟩
  · have a2 : 16 < most := by omega
    go_enter Try.func8, Try.ntmps8
    go_wp2
    go_ret2
    exact ⟨rfl, Below.refl _ _⟩
theorem blen_calls (base g n : Nat) (most : Int) (A : Option Addr) (c : Nat) (ps : List EP) (w : World) (h : BufW w base g most (.slice A n c) ps) :
    Calls Try.prog 13 #[.pointer (some ⟨g, 0, none⟩)] w fun e w' => e = .returned (.int .i64 n) ∧ Below w.heap.size w w' := by
  have hc := h.cell
  clear h
  go_enter Try.func13, Try.ntmps13
  go_wp2
  go_ret
  exact ⟨rfl, Below.refl _ _⟩
end Go.Proofs.Ytekhpogigndlkaa.K

namespace Go.Proofs.Ytekhpogigndlkaa.K
open Go.RowKit Go.Proofs.YtekhpogigndlkaaW.PrintWords Go.Proofs.YtekhpogigndlkaaW.PrintLast Go.Proofs.YtekhpogigndlkaaW.PrintMore
set_option linter.unusedVariables false
set_option linter.unusedSimpArgs false

/-- No entry. -/
def zEn : En := ⟨0, 0, 0, ⟨0, 0⟩, 0, [], 0⟩
def zEP : EP := ⟨zEn, none, 0⟩
abbrev zCells : Array Value := #[.int .i64 0, .int .i64 0, .int .u64 0, .int .i64 0, .int .i64 0, .int .i64 0, .slice none 0 0, .int .u64 0]
theorem heap_setv {W : World} {g t : Nat} {u0 u1 u2 u3 u4 u5 u6 u7 : Value} (h : W.heap[g]? = some (.cells #[u0, u1, u2, u3, u4, u5, u6, u7] t (0, 0))) (v0 v1 v2 v3 v4 v5 v6 v7 : Value) :
    ((((((((W.setCell ⟨g, 0, none⟩ v0).setCell ⟨g, 1, none⟩ v1).setCell ⟨g, 2, none⟩ v2).setCell ⟨g, 3, none⟩ v3).setCell ⟨g, 4, none⟩ v4).setCell ⟨g, 5, none⟩ v5).setCell ⟨g, 6, none⟩ v6).setCell ⟨g, 7, none⟩ v7).heap[g]? = some (.cells #[v0, v1, v2, v3, v4, v5, v6, v7] t (0, 0)) := by
  have h8 := blk_set (blk_set (blk_set (blk_set (blk_set (blk_set (blk_set (blk_set h 0 v0) 1 v1) 2 v2) 3 v3) 4 v4) 5 v5) 6 v6) 7 v7
  rw [show ((((((((#[u0, u1, u2, u3, u4, u5, u6, u7].setIfInBounds 0 v0).setIfInBounds 1 v1).setIfInBounds 2 v2).setIfInBounds 3 v3).setIfInBounds 4 v4).setIfInBounds 5 v5).setIfInBounds 6 v6).setIfInBounds 7 v7) = #[v0, v1, v2, v3, v4, v5, v6, v7] by simp] at h8
  exact h8
/-- An entry of eight cells as a result. -/
def EntR (w : World) (base : Nat) (p : EP) (b : Bool) (e : Ending) (W : World) : Prop := ∃ q : EP, e = .returned (.tuple #[enV q, .bool b]) ∧ q.e = p.e ∧ Own W base q.b q.e.f5 ∧ Below w.heap.size w W
theorem Own.nil' (W : World) (base : Nat) : Own W base (.slice none 0 0) [] := Kd.R_nil _ _ _ _ _
theorem frag_below {w : World} {o : Obj} : Below w.heap.size w (w.alloc o) := below_alloc (Below.refl _ _) _
set_option maxRecDepth 100000 in
set_option maxHeartbeats 4000000 in
theorem first_none (base g c : Nat) (most : Int) (A : Option Addr) (ps : List EP) (w : World) (h : BufW w base g most (.slice A 0 c) ps) :
    Calls Try.prog 14 #[.pointer (some ⟨g, 0, none⟩)] w fun e w' => e = .returned (.tuple #[enV zEP, .bool false]) ∧ Below w.heap.size w w' := by
  have hc := h.cell
  have hc1 : (w.alloc (.cells zCells 33)).cell? ⟨g, 1, none⟩ = some (.slice A 0 c) := pw_cell_below (below_alloc (Below.refl _ _) _) hc
  clear h
  go_enter Try.func14, Try.ntmps14
  go_wp2
  refine gen_bp (fun W7 hW7 => ?_)
  have hy7 : W7.heap[w.heap.size]? = some (.cells zCells 33 (0, 0)) := by
    rw [hW7]
    with_reducible exact heap_alloc_new _ _
  have hB : Below w.heap.size w W7 := by rw [hW7]; with_reducible exact below_alloc (Below.refl _ _) _
  refine bodyPost_ret (results_ct rfl _ W7 w.heap.size 33 _ (0, 0) _ rfl hy7 Try.underlying33 rfl (by kernel_rfl)) rfl ?_
  exact ⟨rfl, hB⟩
set_option maxRecDepth 100000 in
set_option maxHeartbeats 8000000 in
theorem first_some (base g n c : Nat) (most : Int) (A : Option Addr) (ps : List EP) (p : EP) (w : World) (h : BufW w base g most (.slice A n c) ps) (hn : ps.length = n) (hp : ps[0]? = some p) (hl : p.e.f5.length ≤ 140737488355328) (hbw : base ≤ w.heap.size) :
    Calls Try.prog 14 #[.pointer (some ⟨g, 0, none⟩)] w fun e w' => EntR w base p true e w' := by
  have HH := Aside0.mk h
  have HN := Aside0.mk hn
  have HP := Aside0.mk hp
  have HL := Aside0.mk hl
  have HBW := Aside0.mk hbw
  have hn0 : ¬ n = 0 := by
    rintro rfl
    have := List.eq_nil_of_length_eq_zero hn
    rw [this] at hp
    simp at hp
  have hn1 : (0 : Int) < n := by omega
  have hn2 : ((n : Int) == 0) = false := by simp; omega
  have hn3 : ¬ (n : Int) = 0 := by omega
  have hc := h.cell
  have hc1 : (w.alloc (.cells zCells 33)).cell? ⟨g, 1, none⟩ = some (.slice A n c) := pw_cell_below (below_alloc (Below.refl _ _) _) hc
  clear h hn hp hl hbw
  go_enter Try.func14, Try.ntmps14
  go_upto_region 3 with fail
  refine gen_world (fun W2 hW2 => ?_)
  have hB2 : Below w.heap.size w W2 := by rw [hW2]; exact frag_below
  have hy2 : W2.heap[w.heap.size]? = some (.cells zCells 33 (0, 0)) := by rw [hW2]; exact heap_alloc_new _ _
  obtain ⟨g6, hg6⟩ : ∃ g, g = w.heap.size := ⟨_, rfl⟩
  have HG : Aside0 (w.heap.size ≤ g6) := ⟨by omega⟩
  rw [← hg6] at hy2 ⊢
  have c2 := pw_cell_below hB2 hc
  obtain ⟨gr, rfl, x0, x1, x2, x3, x4, x5, x6, x7⟩ := (HH.out.below hB2).row.at HN.out HP.out
  have HR : Aside0 (Rd W2 p.b p.e.f5) := ⟨(HH.out.below hB2).row.rd HP.out⟩
  have HY2 := Aside0.mk hy2
  have HB2 := Aside0.mk hB2
  have hta : ∀ q : EP, enV q = .agg #[.int .i64 q.e.f0, .int .i64 q.e.f1, .int .u64 q.e.f2, .int .i64 q.e.f3.f0, .int .i64 q.e.f3.f1, .int .i64 q.e.f4, .slice q.A q.e.f5.length q.c, .int .u64 q.e.f6] := fun _ => rfl
  simp only [Nat.zero_mul, Nat.zero_add] at x0 x1 x2 x3 x4 x5 x6 x7
  clear hW2 hB2 hy2 hg6 hc hc1
  go_wp2_with (first
    | (go_at_call 30; go_must (refine (own_calls p _ HR.out HL.out).mono ?_; rintro e w21 ⟨q, rfl, hq, ho, hb⟩; rw [hta]; obtain ⟨y0, y1, y2, y3, y4, y5, y6, y7, u0, u1, u2, u3, u4, u5, u6, u7⟩ := cells8z (blk_below HY2.out hb); have HY := Aside0.mk (blk_below HY2.out hb); have HQ := Aside0.mk hq; have HB21 : Aside0 (Below w.heap.size w w21) := ⟨HB2.out.trans (hb.mono HB2.out.size)⟩; have HO := Aside0.mk (Kd.R_lower ho (Nat.le_trans HBW.out HB2.out.size)); clear hq ho hb)))
  refine gen_bp (fun W7 hW7 => ?_)
  have hy7 : W7.heap[g6]? = some (.cells (enC q).toArray 33 (0, 0)) := by
    rw [hW7]
    exact heap_set8z HY.out q
  have hf7 : Fr w21 W7 (fun k => k = g6) := by rw [hW7]; repeat (with_reducible first | exact Fr.refl _ _ | refine Fr.setg ?_ _ _)
  have HB7 : Below w.heap.size w W7 := hf7.below HB21.out (fun k hk => by rw [hk]; exact HG.out)
  have HO7 : Own W7 base q.b q.e.f5 := Own.fr HO.out hf7 (fun k hk e => Own.typed HO.out HY.out (by decide) k hk e)
  refine bodyPost_ret (results_ct rfl _ W7 g6 33 _ (0, 0) _ rfl hy7 Try.underlying33 rfl (by kernel_rfl)) rfl ?_
  exact ⟨q, rfl, HQ.out, HO7, HB7⟩
end Go.Proofs.Ytekhpogigndlkaa.K

namespace Go.Proofs.Ytekhpogigndlkaa.K
open Go.RowKit Go.Proofs.YtekhpogigndlkaaW.PrintWords Go.Proofs.YtekhpogigndlkaaW.PrintLast Go.Proofs.YtekhpogigndlkaaW.PrintMore
set_option linter.unusedVariables false
set_option linter.unusedSimpArgs false

theorem fnd_no {ps : List EP} {k : Ky} {r : Int} (h : FndP ps k r) (hno : ∀ p ∈ ps, keyE p.e ≠ k) : r = -1 := by
  rcases h with ⟨h, _⟩ | ⟨i, p, _, hp, hk⟩
  · exact h
  · exact absurd hk (hno p (List.mem_of_getElem? hp))
theorem fnd_yes {ps : List EP} {k : Ky} {r : Int} (h : FndP ps k r) (hy : ∃ p ∈ ps, keyE p.e = k) : ∃ (i : Nat) (p : EP), r = i ∧ ps[i]? = some p ∧ keyE p.e = k := by
  rcases h with ⟨_, h⟩ | h
  · obtain ⟨p, hp, hk⟩ := hy
    exact absurd hk (h p hp)
  · exact h
set_option maxRecDepth 100000 in
set_option maxHeartbeats 4000000 in
theorem take_none (base g n c : Nat) (most : Int) (A : Option Addr) (ps : List EP) (x y : Int) (w : World) (h : BufW w base g most (.slice A n c) ps) (hn : ps.length = n) (hl : n ≤ 100000) (hno : ∀ p ∈ ps, keyE p.e ≠ (x, y)) :
    Calls Try.prog 15 #[.pointer (some ⟨g, 0, none⟩), .int .i64 x, .int .i64 y] w fun e w' => e = .returned (.tuple #[enV zEP, .bool false]) ∧ Below w.heap.size w w' := by
  have HH := Aside0.mk (h.below (frag_below (o := .cells zCells 33)))
  have HN := Aside0.mk hn
  have HL := Aside0.mk hl
  have HNO := Aside0.mk hno
  have HY := Aside0.mk (blk_new w (.cells zCells 33 (0, 0)))
  have HG : Aside0 (w.heap.size ≤ w.heap.size) := ⟨Nat.le_refl _⟩
  clear h hn hl hno
  go_enter Try.func15, Try.ntmps15
  go_wp2_with (first
    | (go_at_call 26; go_must (refine (find_calls base g n most A c ps x y _ (by exact HH.out) HN.out HL.out).mono ?_; rintro e w16 ⟨r, rfl, hr, hb⟩; obtain rfl := fnd_no hr HNO.out; have hy := blk_below HY.out hb; obtain ⟨y0, y1, y2, y3, y4, y5, y6, y7, u0, u1, u2, u3, u4, u5, u6, u7⟩ := cells8z hy; have HY16 := Aside0.mk hy; have HB16 : Aside0 (Below w.heap.size w w16) := ⟨below_step (below_alloc (Below.refl _ _) _) hb⟩; clear hr hb hy)))
  refine gen_bp (fun W7 hW7 => ?_)
  have hy7 : W7.heap[w.heap.size]? = some (.cells zCells 33 (0, 0)) := by
    rw [hW7]
    with_reducible exact heap_setv HY16.out _ _ _ _ _ _ _ _
  have hf7 : Fr w16 W7 (fun k => k = w.heap.size) := by rw [hW7]; repeat (with_reducible first | exact Fr.refl _ _ | refine Fr.setg ?_ _ _)
  have HB7 : Below w.heap.size w W7 := hf7.below HB16.out (fun k hk => by rw [hk]; exact HG.out)
  refine bodyPost_ret (results_ct rfl _ W7 w.heap.size 33 _ (0, 0) _ rfl hy7 Try.underlying33 rfl (by kernel_rfl)) rfl ?_
  exact ⟨rfl, HB7⟩
theorem Pile.fr6 {w W : World} {base pb po t g6 : Nat} {cs : Array Value} {v : Value} {ps : List EP} {c6 : Array Value} (h : Pile w base pb po cs t v ps) (hf : Fr w W (fun k => k = g6)) (h1 : pb ≠ g6) (h2 : v.ownBlock ≠ some g6) (h6 : w.heap[g6]? = some (.cells c6 33 (0, 0))) : Pile W base pb po cs t v ps :=
  ⟨hf.blk h.hd h1, h.lt, h.ht, h.row.fr hf (fun k hk e => by rw [e] at hk; exact h2 hk) (fun p hp k hk e => Own.typed (h.row.bod p hp) h6 (by decide) k hk e), h.bs⟩
/-- What Take takes. -/
def TakeP (w : World) (base g : Nat) (most : Int) (gr cap m : Nat) (ps : List EP) (k : Ky) (e : Ending) (W : World) : Prop :=
  ∃ p qs, e = .returned (.tuple #[enV p, .bool true]) ∧ keyE p.e = k ∧ BufW W base g most (.slice (some ⟨gr, 0, none⟩) m cap) qs ∧ (p :: qs).Perm ps ∧ HeapF (ky qs) m 0 ∧ Own W base p.b p.e.f5 ∧ Fr w W (SP g (.slice (some ⟨gr, 0, none⟩) (m + 1) cap))
set_option maxRecDepth 100000 in
set_option maxHeartbeats 8000000 in
theorem take_some (base g m gr cap : Nat) (most : Int) (ps : List EP) (x y : Int) (w : World) (h : BufW w base g most (.slice (some ⟨gr, 0, none⟩) (m + 1) cap) ps) (hn : ps.length = m + 1) (hl : m + 1 ≤ 100000) (hyes : ∃ p ∈ ps, keyE p.e = (x, y)) (hH : HeapF (ky ps) (m + 1) 0) :
    Calls Try.prog 15 #[.pointer (some ⟨g, 0, none⟩), .int .i64 x, .int .i64 y] w fun e w' => TakeP w base g most gr cap m ps (x, y) e w' := by
  have HH := Aside0.mk (h.below (frag_below (o := .cells zCells 33)))
  have HN := Aside0.mk hn
  have HL := Aside0.mk hl
  have HNO := Aside0.mk hyes
  have HHF := Aside0.mk hH
  have HY := Aside0.mk (blk_new w (.cells zCells 33 (0, 0)))
  obtain ⟨g6, hg6⟩ : ∃ g, g = w.heap.size := ⟨_, rfl⟩
  have HG : Aside0 (w.heap.size ≤ g6 ∧ g ≠ g6 ∧ gr ≠ g6 ∧ base ≤ g6) := ⟨by
    have h1 : g < w.heap.size := blk_lt h.hd
    have h2 : gr < w.heap.size := own_lt h.row.row gr rfl
    have h3 := h.bs
    omega⟩
  have HBD : Aside0 (∀ p ∈ ps, Own w base p.b p.e.f5) := ⟨h.row.bod⟩
  have HH0 := Aside0.mk h
  clear h hn hl hyes hH
  go_enter Try.func15, Try.ntmps15
  go_upto_region 6 with (first
    | (go_at_call 26; go_must (refine (find_calls base g (m + 1) most _ cap ps x y _ (by exact HH.out) HN.out HL.out).mono ?_; rintro e w16 ⟨r, rfl, hr, hb⟩; obtain ⟨i, p, rfl, hp, hk⟩ := fnd_yes hr HNO.out; have hi0 : ¬ (i : Int) < 0 := (by omega); have HP := Aside0.mk hp; have HK := Aside0.mk hk; have HY16 := Aside0.mk (blk_below HY.out hb); have HH16 := Aside0.mk (HH.out.below hb); have HB16 : Aside0 (Below w.heap.size w w16) := ⟨below_step (below_alloc (Below.refl _ _) _) hb⟩; clear hr hb hp hk)))
  rw [← hg6] at HY16 ⊢
  have hta := fun w => as_enOk (enV p) w 20
  simp only [enV] at hta
  have HIM : Aside0 (i ≤ m) := ⟨by have h1 := (List.getElem?_eq_some_iff.1 HP.out).1; have h2 := HN.out; omega⟩
  clear HY hg6
  go_wp2_with (first
    | (go_at_call 33; go_must (refine (hremove_calls base g 1 59 gr cap m i #[.int .i64 most, .slice none 0 0] ps p _ HH16.out HN.out HL.out HHF.out HIM.out HP.out).mono ?_; rintro e w26 ⟨qs, rfl, hP, hpm, hh, hf⟩; simp only [enV]; have hy := hf.blk HY16.out (fun e => by have := HG.out; rcases e with e | e; exact this.2.1 e.symm; exact this.2.2.1 (Option.some.inj e)); obtain ⟨y0, y1, y2, y3, y4, y5, y6, y7, u0, u1, u2, u3, u4, u5, u6, u7⟩ := cells8z hy; have HY26 := Aside0.mk hy; have HP26 := Aside0.mk hP; have HPM := Aside0.mk hpm; have HHH := Aside0.mk hh; have HF26 := Aside0.mk hf; clear hy hP hpm hh hf)))
  refine gen_bp (fun W7 hW7 => ?_)
  have h7 : W7.heap[g6]? = some (.cells #[.int .i64 p.e.f0, .int .i64 p.e.f1, .int .u64 p.e.f2, .int .i64 p.e.f3.f0, .int .i64 p.e.f3.f1, .int .i64 p.e.f4, .slice p.A p.e.f5.length p.c, .int .u64 p.e.f6] 33 (0, 0)) := by
    rw [hW7]
    with_reducible exact heap_setv (heap_setv HY26.out _ _ _ _ _ _ _ _) _ _ _ _ _ _ _ _
  have hf7 : Fr w26 W7 (fun k => k = g6) := by rw [hW7]; repeat (with_reducible first | exact Fr.refl _ _ | refine Fr.setg ?_ _ _)
  have hmem : p ∈ ps := List.mem_of_getElem? HP.out
  have ho16 : Own w16 base p.b p.e.f5 := HH16.out.row.bod p hmem
  have ho26 : Own w26 base p.b p.e.f5 := Own.farP ho16 HF26.out HH16.out.row HH16.out.hd HH16.out.ht.1
  have ho7 : Own W7 base p.b p.e.f5 := Own.fr ho26 hf7 (fun k hk e => Own.typed ho26 HY26.out (by decide) k hk e)
  have hP7 : BufW W7 base g most (.slice (some ⟨gr, 0, none⟩) m cap) qs := HP26.out.fr6 hf7 HG.out.2.1 (fun e => HG.out.2.2.1 (Option.some.inj e)) HY26.out
  have hF7 : Fr w W7 (SP g (.slice (some ⟨gr, 0, none⟩) (m + 1) cap)) := ((Fr.ofBelow (SP g (.slice (some ⟨gr, 0, none⟩) (m + 1) cap)) HB16.out).trans HF26.out (fun _ _ h => h)).trans hf7 (fun q hq e => by have := HG.out.1; omega)
  refine bodyPost_ret (results_ct rfl _ W7 g6 33 _ (0, 0) _ rfl h7 Try.underlying33 rfl (by kernel_rfl)) rfl ?_
  exact ⟨p, qs, rfl, HK.out, hP7, HPM.out, HHH.out, ho7, hF7⟩
end Go.Proofs.Ytekhpogigndlkaa.K

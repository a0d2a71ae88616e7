/- cachettelaw04.StampForms: the walk. -/
import Derived.Test.YtlcifnejpejhmaaStForms
namespace Go.Proofs.Ytlcifnejpejhmaa.K
open Go.RowKit Go.Proofs.YtlcifnejpejhmaaW.PrintWords Go.Proofs.YtlcifnejpejhmaaW.PrintLast Go.Proofs.YtlcifnejpejhmaaW.PrintMore
set_option linter.unusedVariables false
set_option linter.unusedSimpArgs false

open Go.ChangeShapes Go.WideShapes Go.ChangeAt Go.Deep in
/-- A struct of two whole numbers that came in by value, and their bounds. -/
theorem open_two_wf {H : Type} {enc : TypeId × Value → H} {P : Program} {w : World} {base b0 : Nat} {spare : Nat → Bool} {held : Bool} {r : Reach} {t : TypeId} {f0 f1 : Field} {v : Value} {d : DataW H} {p : List MemPlace}
    (ht : P.underlying t = some (.struct #[f0, f1])) (hc : P.cellsOf t = 2) (h0 : P.underlying f0.type = some (.int .i64)) (h1 : P.underlying f1.type = some (.int .i64))
    (o0 : f0.offset = 0) (o1 : f1.offset = 1) (c0 : P.cellsOf f0.type = 1) (c1 : P.cellsOf f1.type = 1)
    (hv : Value.okWide P w r b0 t v) (hd : DataW.Trod enc P w base spare held t v d p) : ∃ a b, v = .agg #[.int .i64 a, .int .i64 b] ∧ (Lit.int .i64 a).wf = true ∧ (Lit.int .i64 b).wf = true := by
  obtain ⟨cs, rfl, hsz⟩ := okWide_struct ht hv
  rw [hc] at hsz
  obtain ⟨l⟩ := cs
  match l, hsz with
  | [x0, x1], _ =>
    obtain ⟨fuel, hf⟩ := hd
    obtain ⟨y0, y1, m, _, _, hy0, hy1⟩ := trod_struct2 ht hf
    obtain ⟨a, e0, _, w0⟩ := DataW.trod_int h0 hy0
    obtain ⟨b, e1, _, w1⟩ := DataW.trod_int h1 hy1
    simp [Value.cells, o0, o1, c0, c1] at e0 e1
    subst e0 e1
    exact ⟨a, b, rfl, w0, w1⟩
attribute [local go_sem high] X.eqA23
set_option maxRecDepth 100000 in
set_option maxHeartbeats 8000000 in
theorem stforms_walk (t a : Int) (v1 : Value) (l1 : List Int) (w : World) (hr1 : Rd w v1 l1) (hb1 : ∀ x ∈ l1, 0 ≤ x ∧ x ≤ 255)
    (h1 : -9223372036854775808 ≤ t) (h2 : t ≤ 9223372036854775807) (h3 : a ≤ 9223372036854775807) :
    Calls Try.prog 9 #[.agg #[.int .i64 t, .int .i64 a], v1] w fun e w' => e = .returned (.bool true) ∧ Below w.heap.size w w' := by
  have HR1 := Aside0.mk hr1
  have HB1 := Aside0.mk hb1
  have H1 := Aside0.mk h1
  have H2 := Aside0.mk h2
  have H3 := Aside0.mk h3
  obtain ⟨A1, c1, rfl, hc1, hC1⟩ := hr1
  have HB := Aside0.mk (Below.refl w.heap.size w)
  clear hC1 hc1 hb1 h1 h2 h3
  by_cases h0 : l1.length > 300
  · go_enter Try.func9, Try.ntmps9
    go_wp2_with (first
      | ((with_reducible refine gate_dst (N := 12) rfl ?_); go_must (((try (refine gate_guard (by rfl) ?_; dsimp only)); refine goesL_ (some 12) rfl rfl Try.func15 (by kernel_rfl) rfl #[] rfl ?hA ?_; (case hA => ((try simp only [List.map_toArray, List.map_cons, List.map_nil]); first | done | rfl)); refine (alive04_calls _).mono ?_; rintro e w12 ⟨rfl, hb⟩; refine ⟨_, rfl, ?_⟩; replace HB := Aside0.mk (below_step (by repeat (first | (with_reducible first | exact HB.out | apply below_alloc | apply pw_below_drewN | apply below_drew1) | exact HB.out)) hb); clear hb))))
    go_ret
    exact ⟨rfl, HB.out⟩
  · have HBL : Aside0 (BL l1) := ⟨HB1.out, by omega⟩
    obtain ⟨z, hz⟩ : ∃ n, (getS l1 0).1 = n := ⟨_, rfl⟩
    obtain ⟨c, hc⟩ : ∃ n, (getS l1 0).2.1 = n := ⟨_, rfl⟩
    obtain ⟨l2, hl2⟩ : ∃ n, (getS l1 0).2.2.1 = n := ⟨_, rfl⟩
    obtain ⟨k2, hk2⟩ : ∃ n, (getS l1 0).2.2.2 = n := ⟨_, rfl⟩
    obtain ⟨d, hd⟩ : ∃ n, doneR l2 k2 = n := ⟨_, rfl⟩
    have HZ := Aside0.mk hz
    have HC := Aside0.mk hc
    have HL2 := Aside0.mk hl2
    have HK2 := Aside0.mk hk2
    have HD := Aside0.mk hd
    clear hz hc hl2 hk2 hd
    have hbx : (w.alloc (.cells #[.int .i64 t, .int .i64 a] 23)).heap[w.heap.size]? = some (.cells #[.int .i64 t, .int .i64 a] 23 (0, 0)) := blk_new w _
    have HX := Aside0.mk hbx
    clear hbx
    go_enter Try.func9, Try.ntmps9
    go_wp2_with (first
      | ((with_reducible refine gate_dst (N := 14) rfl ?_); go_must (((try (refine gate_guard (by rfl) ?_; dsimp only)); refine goesL_ (some 14) rfl rfl Try.func38 (by kernel_rfl) rfl #[.slice A1 l1.length c1] rfl ?hA ?_; (case hA => ((try simp only [List.map_toArray, List.map_cons, List.map_nil]); first | done | rfl)); refine (read_calls _ l1 w _ HR1.out HBL.out (by repeat (first | (with_reducible first | exact HB.out | apply below_alloc | apply pw_below_drewN | apply below_drew1) | exact HB.out))).mono ?_; rintro e w14 ⟨g, rfl, hr, hgl, hb⟩; refine ⟨_, rfl, ?_⟩; have HRg := Aside0.mk hr; replace HX := Aside0.mk (blk_below HX.out hb); have hgx : g ≠ w.heap.size := (by simp at hgl; omega); replace HB := Aside0.mk (below_step (by repeat (first | (with_reducible first | exact HB.out | apply below_alloc | apply pw_below_drewN | apply below_drew1) | exact HB.out)) hb); have HM : Aside0 (Rdr 75 w (w14.alloc (.cells #[.slice A1 l1.length c1, .int .i64 0] 75)) w14.heap.size l1 0) := ⟨_, blk_new w14 _, HB.out.size, HR1.out, HBL.out⟩; have hgm : w14.heap.size ≠ g := (by have := hr.lt; omega); have hmx : w14.heap.size ≠ w.heap.size := (by have := blk_lt HX.out; omega); clear hr hgl hb)))
      | ((with_reducible refine gate_dst (N := 19) rfl ?_); go_must (((try (refine gate_guard (by rfl) ?_; dsimp only)); refine goesL_ (some 19) rfl rfl Try.func39 (by kernel_rfl) rfl #[.pointer (some ⟨g, 0, none⟩)] rfl ?hA ?_; (case hA => ((try simp only [List.map_toArray, List.map_cons, List.map_nil]); first | done | rfl)); refine (sget_calls g l1 0 w _ (by exact HRg.out.below (below_alloc (Below.refl _ _) _)) (by repeat (first | (with_reducible first | exact HB.out | apply below_alloc | apply pw_below_drewN | apply below_drew1) | exact HB.out))).mono ?_; rintro e w19 ⟨rfl, hr, hs⟩; refine ⟨_, rfl, ?_⟩; rw [HZ.out, HC.out]; rw [HL2.out, HK2.out] at hr; replace HRg := Aside0.mk hr; replace HM := Aside0.mk (HM.out.keep hs.keep hgm); replace HX := Aside0.mk (hs.keep.blk (blk_alloc HX.out _) (Ne.symm hgx) (by simp)); replace HB := Aside0.mk hs.below; clear hr hs)))
      | ((with_reducible refine gate_dst (N := 21) rfl ?_); go_must (((try (refine gate_guard (by rfl) ?_; dsimp only)); refine goesL_ (some 21) rfl rfl Try.func40 (by kernel_rfl) rfl #[.pointer (some ⟨w14.heap.size, 0, none⟩)] rfl ?hA ?_; (case hA => ((try simp only [List.map_toArray, List.map_cons, List.map_nil]); first | done | rfl)); refine (fget_calls w14.heap.size l1 0 w _ HM.out HB.out).mono ?_; rintro e w21 ⟨rfl, hr, hs⟩; refine ⟨_, rfl, ?_⟩; rw [HZ.out, HC.out]; rw [HL2.out, HK2.out] at hr; replace HM := Aside0.mk hr; replace HRg := Aside0.mk (HRg.out.keep hs.keep (Ne.symm hgm)); replace HX := Aside0.mk (hs.keep.blk HX.out (Ne.symm hmx) (by simp)); replace HB := Aside0.mk hs.below; clear hr hs))))
    have HXX := Aside0.mk (blk_alloc (blk_alloc HX.out (.cells #[.int .i64 z, .int .i64 c] 23)) (.cells #[.int .i64 z, .int .i64 c] 23))
    have HY := Aside0.mk (blk_alloc (blk_new w21 (.cells #[.int .i64 z, .int .i64 c] 23)) (.cells #[.int .i64 z, .int .i64 c] 23))
    have HU : Aside0 (((w21.alloc (.cells #[.int .i64 z, .int .i64 c] 23)).alloc (.cells #[.int .i64 z, .int .i64 c] 23)).heap[w21.heap.size + 1]? = some (.cells #[.int .i64 z, .int .i64 c] 23 (0, 0))) := ⟨by simpa using blk_new (w21.alloc (.cells #[.int .i64 z, .int .i64 c] 23)) (.cells #[.int .i64 z, .int .i64 c] 23)⟩
    replace HM := Aside0.mk ((HM.out.below (below_alloc (Below.refl _ _) (.cells #[.int .i64 z, .int .i64 c] 23))).below (below_alloc (Below.refl _ _) (.cells #[.int .i64 z, .int .i64 c] 23)))
    replace HRg := Aside0.mk ((HRg.out.below (below_alloc (Below.refl _ _) (.cells #[.int .i64 z, .int .i64 c] 23))).below (below_alloc (Below.refl _ _) (.cells #[.int .i64 z, .int .i64 c] 23)))
    replace HB := Aside0.mk (below_alloc (below_alloc HB.out (.cells #[.int .i64 z, .int .i64 c] 23)) (.cells #[.int .i64 z, .int .i64 c] 23))
    generalize ((w21.alloc (.cells #[.int .i64 z, .int .i64 c] 23)).alloc (.cells #[.int .i64 z, .int .i64 c] 23)) = W0 at HXX HY HU HM HRg HB ⊢
    have x0 : W0.cell? ⟨w.heap.size, 0, none⟩ = some (.int .i64 t) := (blk_cell HXX.out 0).trans rfl
    have x1 : W0.cell? ⟨w.heap.size, 1, none⟩ = some (.int .i64 a) := (blk_cell HXX.out 1).trans rfl
    have y0 : W0.cell? ⟨w21.heap.size, 0, none⟩ = some (.int .i64 z) := (blk_cell HY.out 0).trans rfl
    have y1 : W0.cell? ⟨w21.heap.size, 1, none⟩ = some (.int .i64 c) := (blk_cell HY.out 1).trans rfl
    have u0 : W0.cell? ⟨w21.heap.size + 1, 0, none⟩ = some (.int .i64 z) := (blk_cell HU.out 0).trans rfl
    have u1 : W0.cell? ⟨w21.heap.size + 1, 1, none⟩ = some (.int .i64 c) := (blk_cell HU.out 1).trans rfl
    clear HXX HY HU HX
    go_region_held3 (fun w' => w'.cell? ⟨w.heap.size, 0, none⟩ = some (.int .i64 t) ∧ w'.cell? ⟨w.heap.size, 1, none⟩ = some (.int .i64 a) ∧ w'.cell? ⟨w21.heap.size, 0, none⟩ = some (.int .i64 z) ∧ w'.cell? ⟨w21.heap.size, 1, none⟩ = some (.int .i64 c) ∧ w'.cell? ⟨w21.heap.size + 1, 0, none⟩ = some (.int .i64 z) ∧ w'.cell? ⟨w21.heap.size + 1, 1, none⟩ = some (.int .i64 c))
      (first | exact ⟨x0, x1, y0, y1, u0, u1⟩ | (go_split_ands; exact ⟨pw_cell_below hb (by assumption), pw_cell_below hb (by assumption), pw_cell_below hb (by assumption), pw_cell_below hb (by assumption), pw_cell_below hb (by assumption), pw_cell_below hb (by assumption)⟩))
      (first
        | (go_at_call 41; refine (sput_calls _ [] t a _ (by exact Rd.nil _) H1.out H2.out H3.out (by simp)).mono ?_; rintro e w23 ⟨v23, rfl, ho, hb⟩; (try replace HP := Aside0.mk (Rd.below HP.out hb)); (try replace HQ := Aside0.mk (Rd.below HQ.out hb)); replace HRg := Aside0.mk (Rdr.below (by exact HRg.out) hb); replace HM := Aside0.mk (Rdr.below (by exact HM.out) hb); replace HB := Aside0.mk (below_step (by repeat (first | (with_reducible first | exact HB.out | apply below_alloc | apply pw_below_drewN | apply below_drew1) | exact HB.out)) hb); have HP : Aside0 (Rd w23 v23 (putS t a)) := ⟨ho.rd⟩; clear ho)
        | (go_at_call 42; refine (fput_calls t a _ H1.out H2.out H3.out).mono ?_; rintro e w25 ⟨v25, rfl, ho, hb⟩; (try replace HP := Aside0.mk (Rd.below HP.out hb)); (try replace HQ := Aside0.mk (Rd.below HQ.out hb)); replace HRg := Aside0.mk (Rdr.below (by exact HRg.out) hb); replace HM := Aside0.mk (Rdr.below (by exact HM.out) hb); replace HB := Aside0.mk (below_step (by repeat (first | (with_reducible first | exact HB.out | apply below_alloc | apply pw_below_drewN | apply below_drew1) | exact HB.out)) hb); have HQ := Aside0.mk ho.rd; clear ho)
        | (go_at_call 25; refine (same_true _ _ (putS t a) _ HP.out HQ.out).mono ?_; rintro e w26 ⟨rfl, hb⟩; (try replace HP := Aside0.mk (Rd.below HP.out hb)); (try replace HQ := Aside0.mk (Rd.below HQ.out hb)); replace HRg := Aside0.mk (Rdr.below (by exact HRg.out) hb); replace HM := Aside0.mk (Rdr.below (by exact HM.out) hb); replace HB := Aside0.mk (below_step (by repeat (first | (with_reducible first | exact HB.out | apply below_alloc | apply pw_below_drewN | apply below_drew1) | exact HB.out)) hb))
        | (go_at_call 43; refine (done_calls g l2 k2 w _ (by exact HRg.out)).mono ?_; rw [HD.out]; rintro e w34 ⟨rfl, hd⟩; have hb := hd.below; (try replace HP := Aside0.mk (Rd.below HP.out hb)); (try replace HQ := Aside0.mk (Rd.below HQ.out hb)); replace HRg := Aside0.mk (Rdr.below (by exact HRg.out) hb); replace HM := Aside0.mk (Rdr.below (by exact HM.out) hb); replace HB := Aside0.mk (below_step (by repeat (first | (with_reducible first | exact HB.out | apply below_alloc | apply pw_below_drewN | apply below_drew1) | exact HB.out)) hb); clear hd)
        | (go_at_call 44; refine (fdone_calls _ l2 k2 w _ (by exact HM.out)).mono ?_; rw [HD.out]; rintro e w36 ⟨rfl, hd⟩; have hb := hd.below; (try replace HP := Aside0.mk (Rd.below HP.out hb)); (try replace HQ := Aside0.mk (Rd.below HQ.out hb)); replace HRg := Aside0.mk (Rdr.below (by exact HRg.out) hb); replace HM := Aside0.mk (Rdr.below (by exact HM.out) hb); replace HB := Aside0.mk (below_step (by repeat (first | (with_reducible first | exact HB.out | apply below_alloc | apply pw_below_drewN | apply below_drew1) | exact HB.out)) hb); clear hd)
        | (go_at_call 15; refine (alive04_calls _).mono ?_; rintro e w40 ⟨rfl, hb⟩; (try replace HP := Aside0.mk (Rd.below HP.out hb)); (try replace HQ := Aside0.mk (Rd.below HQ.out hb)); replace HRg := Aside0.mk (Rdr.below (by exact HRg.out) hb); replace HM := Aside0.mk (Rdr.below (by exact HM.out) hb); replace HB := Aside0.mk (below_step (by repeat (first | (with_reducible first | exact HB.out | apply below_alloc | apply pw_below_drewN | apply below_drew1) | exact HB.out)) hb)))
    all_goals
      go_wp2
      go_ret
      exact ⟨rfl, HB.out⟩
end Go.Proofs.Ytlcifnejpejhmaa.K

/- (*buffer.Buffer).Hold. (*buffer.Buffer).Hold, where it holds, and where there's no room. -/
import Derived.Test.YtekhpogigndlkaaMD
import Derived.Deep.QuietTactic
import Derived.BigQuiet
namespace Go.Proofs.Ytekhpogigndlkaa.K
open Go.RowKit Go.Proofs.YtekhpogigndlkaaW.PrintWords Go.Proofs.YtekhpogigndlkaaW.PrintLast Go.Proofs.YtekhpogigndlkaaW.PrintMore
set_option linter.unusedVariables false
set_option linter.unusedSimpArgs false

/-- Which entries are right. -/
def rightE (e : En) : Bool := decide (0 ≤ e.f0 ∧ e.f0 < 8 ∧ 0 ≤ e.f1 ∧ e.f1 < 200 ∧ (e.f2 = 0 ↔ e.f1 = 0) ∧ (1 ≤ e.f3.f0 ∧ e.f3.f0 ≤ 1099511627776 ∧ 0 ≤ e.f3.f1 ∧ e.f3.f1 < 8) ∧ e.f3.f1 = e.f0 ∧ -1 ≤ e.f4 ∧ e.f4 < 20 ∧ e.f5.length ≤ 1100)
theorem within_f (a b c : Int) : X.entry_within.f a b c = some (decide (b ≤ a ∧ a < c)) := by
  unfold X.entry_within.f
  by_cases h : a ≥ b
  · rw [if_pos h]; simp; omega
  · rw [if_neg h]; simp; omega
theorem sright_f (a b : Int) : X.stamp_Right.f a b = some (decide (1 ≤ a ∧ a ≤ 1099511627776 ∧ 0 ≤ b ∧ b < 8)) := by
  unfold X.stamp_Right.f X.stamp_member.f
  repeat' split
  all_goals ((try simp only [Option.bind_some]); congr 1; rw [Bool.eq_iff_iff]; simp only [decide_eq_true_eq, Bool.false_eq_true, false_iff]; omega)
theorem eright_f (e : En) : X.entry_Right.f 1 e.f0 e.f1 e.f2 e.f3.f0 e.f3.f1 e.f4 e.f5 e.f6 = some (rightE e) := by
  unfold X.entry_Right.f
  simp only [within_f, Option.bind_some, X.entry_Right.j0, sright_f, rightE]
  have hb : ((e.f2 == 0) == (e.f1 == 0)) = decide (e.f2 = 0 ↔ e.f1 = 0) := by
    show (decide (e.f2 = 0) == decide (e.f1 = 0)) = _
    by_cases h1 : e.f2 = 0 <;> by_cases h2 : e.f1 = 0 <;> simp [h1, h2]
  rw [hb]
  by_cases h1 : 0 ≤ e.f0 ∧ e.f0 < 8
  · by_cases h2 : 0 ≤ e.f1 ∧ e.f1 < 200
    · by_cases h3 : -1 ≤ e.f4 ∧ e.f4 < 20
      · by_cases h4 : 1 ≤ e.f3.f0 ∧ e.f3.f0 ≤ 1099511627776 ∧ 0 ≤ e.f3.f1 ∧ e.f3.f1 < 8
        · by_cases h5 : e.f3.f1 = e.f0
          · by_cases h6 : (e.f5.length : Int) > 1100
            · have h7 : ¬ e.f5.length ≤ 1100 := by omega
              simp [h1, h2, h3, h4, h5, h6, h7]
            · have h7 : e.f5.length ≤ 1100 := by omega
              simp [h1, h2, h3, h4, h6, h7, ← h5]
          · simp [h1, h2, h3, h4, h5]
        · have h4' : ¬ (1 ≤ e.f3.f0 ∧ e.f3.f0 ≤ 1099511627776 ∧ 0 ≤ e.f3.f1 ∧ e.f3.f1 < 8) := h4
          simp only [h1, h2, h3, h4', decide_true, decide_false, if_true]
          simp
      · simp [h1, h2, h3]
        intros
        omega
    · simp [h1, h2]
      intros
      omega
  · simp [h1]
    intros
    omega
theorem eright_calls (p : EP) (w : World) (hr : Rd w p.b p.e.f5) :
    Calls Try.prog 25 #[enV p] w fun e w' => e = .returned (.bool (rightE p.e)) ∧ Below w.heap.size w w' := by
  obtain ⟨A, c, hv, hc, hC⟩ := hr
  injection hv with h1 h2 h3
  subst h1 h3
  exact X.entry_Right.calls 1 p.e.f0 p.e.f1 p.e.f2 p.e.f3.f0 p.e.f3.f1 p.e.f4 p.A p.c p.e.f5 p.e.f6 _ w hC hc (eright_f p.e)
/-- Are two entries the same? -/
def sameE (a b : En) : Bool := (X.entry_Same.f a.f0 a.f1 a.f2 a.f3.f0 a.f3.f1 a.f4 a.f5 a.f6 b.f0 b.f1 b.f2 b.f3.f0 b.f3.f1 b.f4 b.f5 b.f6).getD false
theorem esame_f (a b : En) : X.entry_Same.f a.f0 a.f1 a.f2 a.f3.f0 a.f3.f1 a.f4 a.f5 a.f6 b.f0 b.f1 b.f2 b.f3.f0 b.f3.f1 b.f4 b.f5 b.f6 = some (sameE a b) := by
  have h : ∃ r, X.entry_Same.f a.f0 a.f1 a.f2 a.f3.f0 a.f3.f1 a.f4 a.f5 a.f6 b.f0 b.f1 b.f2 b.f3.f0 b.f3.f1 b.f4 b.f5 b.f6 = some r := by
    unfold X.entry_Same.f X.bytes_Equal.f
    simp only [Option.bind_some]
    repeat' split
    all_goals exact ⟨_, rfl⟩
  obtain ⟨r, hr⟩ := h
  rw [sameE, hr]
  rfl
theorem esame_calls (p q : EP) (w : World) (hp : Rd w p.b p.e.f5) (hq : Rd w q.b q.e.f5) :
    Calls Try.prog 28 #[.agg #[.int .i64 p.e.f0, .int .i64 p.e.f1, .int .u64 p.e.f2, .int .i64 p.e.f3.f0, .int .i64 p.e.f3.f1, .int .i64 p.e.f4, .slice p.A p.e.f5.length p.c, .int .u64 p.e.f6], .agg #[.int .i64 q.e.f0, .int .i64 q.e.f1, .int .u64 q.e.f2, .int .i64 q.e.f3.f0, .int .i64 q.e.f3.f1, .int .i64 q.e.f4, .slice q.A q.e.f5.length q.c, .int .u64 q.e.f6]] w fun e w' => e = .returned (.bool (sameE p.e q.e)) ∧ Below w.heap.size w w' := by
  obtain ⟨A, c, hv, hc, hC⟩ := hp
  injection hv with h1 h2 h3
  subst h1 h3
  obtain ⟨A, c, hv, hc', hC'⟩ := hq
  injection hv with h1 h2 h3
  subst h1 h3
  exact X.entry_Same.calls p.e.f0 p.e.f1 p.e.f2 p.e.f3.f0 p.e.f3.f1 p.e.f4 p.A p.c p.e.f5 p.e.f6 q.e.f0 q.e.f1 q.e.f2 q.e.f3.f0 q.e.f3.f1 q.e.f4 q.A q.c q.e.f5 q.e.f6 _ w hC hc hC' hc' (esame_f p.e q.e)
set_option maxRecDepth 100000 in
set_option maxHeartbeats 4000000 in
theorem hold_bad (base g n : Nat) (most : Int) (A : Option Addr) (c : Nat) (ps : List EP) (p : EP) (w : World) (h : BufW w base g most (.slice A n c) ps) (hn : ps.length = n) (hl : n ≤ 100000) (hr : Rd w p.b p.e.f5) (hright : rightE p.e = false) :
    Calls Try.prog 9 #[.pointer (some ⟨g, 0, none⟩), enV p] w fun e w' => e = .returned (.int .i64 1) ∧ Below w.heap.size w w' := by
  have HH := Aside0.mk h
  have HN := Aside0.mk hn
  have HL := Aside0.mk hl
  have HR0 := Aside0.mk hr
  have HRT : Aside0 (rightE p.e = false) := ⟨hright⟩
  clear h hn hl hr hright
  simp only [enV]
  go_enter Try.func9, Try.ntmps9
  go_upto_region 3 with fail
  refine gen_world (fun W2 hW2 => ?_)
  have hB2 : Below w.heap.size w W2 := by rw [hW2]; with_reducible exact below_alloc (Below.refl _ _) _
  have hx2 : W2.heap[w.heap.size]? = some (.cells #[.int .i64 p.e.f0, .int .i64 p.e.f1, .int .u64 p.e.f2, .int .i64 p.e.f3.f0, .int .i64 p.e.f3.f1, .int .i64 p.e.f4, .slice p.A p.e.f5.length p.c, .int .u64 p.e.f6] 33 (0, 0)) := by rw [hW2]; with_reducible exact heap_alloc_new _ _
  obtain ⟨g3, hg3⟩ : ∃ g, g = w.heap.size := ⟨_, rfl⟩
  rw [← hg3] at hx2 ⊢
  have HG : Aside0 (w.heap.size ≤ g3) := ⟨by omega⟩
  obtain ⟨x0, x1, x2, x3, x4, x5, x6, x7, -⟩ := cells8z hx2
  have HX2 := Aside0.mk hx2
  have HB2 := Aside0.mk hB2
  clear hW2 hB2 hx2 hg3
  go_wp2_with (first
    | (go_at_call 25; go_must (refine (eright_calls p _ (HR0.out.below HB2.out)).mono ?_; rw [HRT.out]; rintro e w9 ⟨rfl, hb⟩; have HX9 := Aside0.mk (blk_below HX2.out hb); obtain ⟨x0, x1, x2, x3, x4, x5, x6, x7, -⟩ := cells8z HX9.out; have HB9 : Aside0 (Below w.heap.size w w9) := ⟨HB2.out.trans (hb.mono HB2.out.size)⟩; clear hb)))
  go_ret
  exact ⟨rfl, HB9.out⟩
set_option maxRecDepth 100000 in
set_option maxHeartbeats 8000000 in
theorem hold_found (base g n : Nat) (most : Int) (A : Option Addr) (c : Nat) (ps : List EP) (p : EP) (w : World) (h : BufW w base g most (.slice A n c) ps) (hn : ps.length = n) (hl : n ≤ 100000) (hr : Rd w p.b p.e.f5) (hright : rightE p.e = true) (hyes : ∃ q ∈ ps, keyE q.e = keyE p.e) :
    Calls Try.prog 9 #[.pointer (some ⟨g, 0, none⟩), enV p] w fun e w' => (∃ q ∈ ps, keyE q.e = keyE p.e ∧ e = .returned (.int .i64 (if sameE q.e p.e = true then 8 else 9))) ∧ Below w.heap.size w w' := by
  have HH := Aside0.mk h
  have HN := Aside0.mk hn
  have HL := Aside0.mk hl
  have HR0 := Aside0.mk hr
  have HRT : Aside0 (rightE p.e = true) := ⟨hright⟩
  have HYES := Aside0.mk hyes
  clear h hn hl hr hright hyes
  simp only [enV]
  go_enter Try.func9, Try.ntmps9
  go_upto_region 3 with fail
  refine gen_world (fun W2 hW2 => ?_)
  have hB2 : Below w.heap.size w W2 := by rw [hW2]; with_reducible exact below_alloc (Below.refl _ _) _
  have hx2 : W2.heap[w.heap.size]? = some (.cells #[.int .i64 p.e.f0, .int .i64 p.e.f1, .int .u64 p.e.f2, .int .i64 p.e.f3.f0, .int .i64 p.e.f3.f1, .int .i64 p.e.f4, .slice p.A p.e.f5.length p.c, .int .u64 p.e.f6] 33 (0, 0)) := by rw [hW2]; with_reducible exact heap_alloc_new _ _
  obtain ⟨g3, hg3⟩ : ∃ g, g = w.heap.size := ⟨_, rfl⟩
  rw [← hg3] at hx2 ⊢
  have HG : Aside0 (w.heap.size ≤ g3) := ⟨by omega⟩
  obtain ⟨x0, x1, x2, x3, x4, x5, x6, x7, -⟩ := cells8z hx2
  have HX2 := Aside0.mk hx2
  have HB2 := Aside0.mk hB2
  clear hW2 hB2 hx2 hg3
  go_upto_region 6 with (first
    | (go_at_call 25; go_must (refine (eright_calls p _ (HR0.out.below HB2.out)).mono ?_; rw [HRT.out]; rintro e w9 ⟨rfl, hb⟩; have HX9 := Aside0.mk (blk_below HX2.out hb); obtain ⟨x0, x1, x2, x3, x4, x5, x6, x7, -⟩ := cells8z HX9.out; have HB9 : Aside0 (Below w.heap.size w w9) := ⟨HB2.out.trans (hb.mono HB2.out.size)⟩; clear hb))
    | (go_at_call 27; go_must (refine (at_calls p _ (HR0.out.below HB9.out)).mono ?_; rintro e w13 ⟨rfl, hb⟩; have HX13 := Aside0.mk (blk_below HX9.out hb); have HB13 : Aside0 (Below w.heap.size w w13) := ⟨HB9.out.trans (hb.mono HB9.out.size)⟩; clear hb))
    | (go_at_call 26; go_must (refine (find_calls base g n most A c ps p.e.f0 p.e.f1 _ (HH.out.below HB13.out) HN.out HL.out).mono ?_; rintro e w14 ⟨r, rfl, hr, hb⟩; obtain ⟨i, q, rfl, hp, hk⟩ := fnd_yes hr HYES.out; have HP := Aside0.mk hp; have HK := Aside0.mk hk; clear hp hk; have HX14 := Aside0.mk (blk_below HX13.out hb); obtain ⟨x0, x1, x2, x3, x4, x5, x6, x7, -⟩ := cells8z HX14.out; have HB14 : Aside0 (Below w.heap.size w w14) := ⟨HB13.out.trans (hb.mono HB13.out.size)⟩; clear hr hb)))
  have HP14 := Aside0.mk (HH.out.below HB14.out)
  obtain ⟨gr, rfl, y0, y1, y2, y3, y4, y5, y6, y7⟩ := HP14.out.row.at HN.out HP.out
  have c14 := HP14.out.cell
  have hi0 : (0 : Int) ≤ i := by omega
  have hin : (i : Int) < n := by have h1 := (List.getElem?_eq_some_iff.1 HP.out).1; have h2 := HN.out; omega
  have hd : decide ((0 : Int) ≤ i) = true := decide_eq_true hi0
  have HMEM : Aside0 (q ∈ ps) := ⟨List.mem_of_getElem? HP.out⟩
  go_region_held3 (fun w' => w'.cell? ⟨g, 1, none⟩ = some (.slice (some ⟨gr, 0, none⟩) n c) ∧ (w'.cell? ⟨gr, i * 8, none⟩ = some (.int .i64 q.e.f0) ∧ w'.cell? ⟨gr, i * 8 + 1, none⟩ = some (.int .i64 q.e.f1) ∧ w'.cell? ⟨gr, i * 8 + 2, none⟩ = some (.int .u64 q.e.f2) ∧ w'.cell? ⟨gr, i * 8 + 3, none⟩ = some (.int .i64 q.e.f3.f0) ∧ w'.cell? ⟨gr, i * 8 + 4, none⟩ = some (.int .i64 q.e.f3.f1) ∧ w'.cell? ⟨gr, i * 8 + 5, none⟩ = some (.int .i64 q.e.f4) ∧ w'.cell? ⟨gr, i * 8 + 6, none⟩ = some (.slice q.A q.e.f5.length q.c) ∧ w'.cell? ⟨gr, i * 8 + 7, none⟩ = some (.int .u64 q.e.f6)) ∧ w'.cell? ⟨g3, 0, none⟩ = some (.int .i64 p.e.f0) ∧ w'.cell? ⟨g3, 1, none⟩ = some (.int .i64 p.e.f1) ∧ w'.cell? ⟨g3, 2, none⟩ = some (.int .u64 p.e.f2) ∧ w'.cell? ⟨g3, 3, none⟩ = some (.int .i64 p.e.f3.f0) ∧ w'.cell? ⟨g3, 4, none⟩ = some (.int .i64 p.e.f3.f1) ∧ w'.cell? ⟨g3, 5, none⟩ = some (.int .i64 p.e.f4) ∧ w'.cell? ⟨g3, 6, none⟩ = some (.slice p.A p.e.f5.length p.c) ∧ w'.cell? ⟨g3, 7, none⟩ = some (.int .u64 p.e.f6))
    (first | exact ⟨c14, ⟨y0, y1, y2, y3, y4, y5, y6, y7⟩, x0, x1, x2, x3, x4, x5, x6, x7⟩ | (go_split_ands; exact ⟨pw_cell_below hb (by assumption), ⟨pw_cell_below hb (by assumption), pw_cell_below hb (by assumption), pw_cell_below hb (by assumption), pw_cell_below hb (by assumption), pw_cell_below hb (by assumption), pw_cell_below hb (by assumption), pw_cell_below hb (by assumption), pw_cell_below hb (by assumption)⟩, pw_cell_below hb (by assumption), pw_cell_below hb (by assumption), pw_cell_below hb (by assumption), pw_cell_below hb (by assumption), pw_cell_below hb (by assumption), pw_cell_below hb (by assumption), pw_cell_below hb (by assumption), pw_cell_below hb (by assumption)⟩))
    (first
      | (go_at_call 28; (with_reducible refine (esame_calls q p _ ?h1 ?h2).mono ?_); (case h1 => exact HP14.out.row.rd HP.out); (case h2 => first | exact HR0.out.below HB14.out | exact HR0.out.below (below_drew1 HB14.out)); rintro e w27 ⟨rfl, hb⟩))
  all_goals
    have HB27 : Aside0 (Below w.heap.size w w27) := ⟨below_step (by with_reducible repeat (first | exact HB14.out | apply below_drew1 | apply pw_below_drewN)) hb⟩
    clear hb
    cases hs : sameE q.e p.e
    · go_wp2
      go_ret
      exact ⟨⟨q, HMEM.out, HK.out, by rw [hs]; rfl⟩, HB27.out⟩
    · go_wp2
      go_ret
      exact ⟨⟨q, HMEM.out, HK.out, by rw [hs]; rfl⟩, HB27.out⟩
end Go.Proofs.Ytekhpogigndlkaa.K

namespace Go.Proofs.Ytekhpogigndlkaa.K
open Go.RowKit Go.Proofs.YtekhpogigndlkaaW.PrintWords Go.Proofs.YtekhpogigndlkaaW.PrintLast Go.Proofs.YtekhpogigndlkaaW.PrintMore
set_option linter.unusedVariables false
set_option linter.unusedSimpArgs false

set_option maxRecDepth 100000 in
set_option maxHeartbeats 8000000 in
theorem hold_full (base g n : Nat) (most : Int) (A : Option Addr) (c : Nat) (ps : List EP) (p : EP) (w : World) (h : BufW w base g most (.slice A n c) ps) (hn : ps.length = n) (hl : n ≤ 100000) (hr : Rd w p.b p.e.f5) (hright : rightE p.e = true) (hno : ∀ q ∈ ps, keyE q.e ≠ keyE p.e) (hfull : most ≤ n) :
    Calls Try.prog 9 #[.pointer (some ⟨g, 0, none⟩), enV p] w fun e w' => e = .returned (.int .i64 3) ∧ Below w.heap.size w w' := by
  have HH := Aside0.mk h
  have HN := Aside0.mk hn
  have HL := Aside0.mk hl
  have HR0 := Aside0.mk hr
  have HRT : Aside0 (rightE p.e = true) := ⟨hright⟩
  have HNO := Aside0.mk hno
  clear h hn hl hr hright hno
  simp only [enV]
  go_enter Try.func9, Try.ntmps9
  go_upto_region 3 with fail
  refine gen_world (fun W2 hW2 => ?_)
  have hB2 : Below w.heap.size w W2 := by rw [hW2]; with_reducible exact below_alloc (Below.refl _ _) _
  have hx2 : W2.heap[w.heap.size]? = some (.cells #[.int .i64 p.e.f0, .int .i64 p.e.f1, .int .u64 p.e.f2, .int .i64 p.e.f3.f0, .int .i64 p.e.f3.f1, .int .i64 p.e.f4, .slice p.A p.e.f5.length p.c, .int .u64 p.e.f6] 33 (0, 0)) := by rw [hW2]; with_reducible exact heap_alloc_new _ _
  obtain ⟨g3, hg3⟩ : ∃ g, g = w.heap.size := ⟨_, rfl⟩
  rw [← hg3] at hx2 ⊢
  have HG : Aside0 (w.heap.size ≤ g3) := ⟨by omega⟩
  obtain ⟨x0, x1, x2, x3, x4, x5, x6, x7, -⟩ := cells8z hx2
  have HX2 := Aside0.mk hx2
  have HB2 := Aside0.mk hB2
  clear hW2 hB2 hx2 hg3
  go_upto_region 6 with (first
    | (go_at_call 25; go_must (refine (eright_calls p _ (HR0.out.below HB2.out)).mono ?_; rw [HRT.out]; rintro e w9 ⟨rfl, hb⟩; have HX9 := Aside0.mk (blk_below HX2.out hb); obtain ⟨x0, x1, x2, x3, x4, x5, x6, x7, -⟩ := cells8z HX9.out; have HB9 : Aside0 (Below w.heap.size w w9) := ⟨HB2.out.trans (hb.mono HB2.out.size)⟩; clear hb))
    | (go_at_call 27; go_must (refine (at_calls p _ (HR0.out.below HB9.out)).mono ?_; rintro e w13 ⟨rfl, hb⟩; have HX13 := Aside0.mk (blk_below HX9.out hb); have HB13 : Aside0 (Below w.heap.size w w13) := ⟨HB9.out.trans (hb.mono HB9.out.size)⟩; clear hb))
    | (go_at_call 26; go_must (refine (find_calls base g n most A c ps p.e.f0 p.e.f1 _ (HH.out.below HB13.out) HN.out HL.out).mono ?_; rintro e w14 ⟨r, rfl, hr, hb⟩; obtain rfl := fnd_no hr HNO.out; have HX14 := Aside0.mk (blk_below HX13.out hb); obtain ⟨x0, x1, x2, x3, x4, x5, x6, x7, -⟩ := cells8z HX14.out; have HB14 : Aside0 (Below w.heap.size w w14) := ⟨HB13.out.trans (hb.mono HB13.out.size)⟩; clear hr hb)))
  have HP14 := Aside0.mk (HH.out.below HB14.out)
  have c14 := HP14.out.cell
  have m14 : w14.cell? ⟨g, 0, none⟩ = some (.int .i64 most) := blk_cell (BufW.hd' HP14.out) 0
  go_quiet (fail)
  go_upto_region 10 with fail
  go_quiet (fail)
  all_goals
    go_wp2
    go_ret
    exact ⟨rfl, by with_reducible repeat (first | exact HB14.out | apply pw_below_drewN)⟩
/-- What Hold leaves of what it holds. -/
def HoldP (w : World) (base g n : Nat) (most : Int) (v : Value) (ps : List EP) (p : EP) (W : World) : Prop :=
  ∃ gr cap qs q, BufW W base g most (.slice (some ⟨gr, 0, none⟩) (n + 1) cap) qs ∧ q.e = p.e ∧ qs.Perm (ps ++ [q]) ∧ HeapF (ky qs) (n + 1) 0 ∧ Fr w W (SP g v) ∧ (v.ownBlock = some gr ∨ w.heap.size ≤ gr)
set_option maxRecDepth 100000 in
set_option maxHeartbeats 8000000 in
theorem hold_ok (base g n : Nat) (most : Int) (A : Option Addr) (c : Nat) (ps : List EP) (p : EP) (w : World) (h : BufW w base g most (.slice A n c) ps) (hn : ps.length = n) (hl : n ≤ 100000) (hr : Rd w p.b p.e.f5) (hright : rightE p.e = true) (hno : ∀ q ∈ ps, keyE q.e ≠ keyE p.e) (hfull : ¬ most ≤ n) (hH : HeapF (ky ps) n 0) (hn1 : n + 1 ≤ 100000) (hbl : p.e.f5.length ≤ 140737488355328) :
    Calls Try.prog 9 #[.pointer (some ⟨g, 0, none⟩), enV p] w fun e w' => e = .returned (.int .i64 0) ∧ HoldP w base g n most (.slice A n c) ps p w' := by
  have HH := Aside0.mk h
  have HN := Aside0.mk hn
  have HL := Aside0.mk hl
  have HR0 := Aside0.mk hr
  have HRT : Aside0 (rightE p.e = true) := ⟨hright⟩
  have HNO := Aside0.mk hno
  have HHF := Aside0.mk hH
  have HN1 := Aside0.mk hn1
  have HBL := Aside0.mk hbl
  have HBS : Aside0 (base ≤ w.heap.size ∧ g < w.heap.size) := ⟨Nat.le_of_lt (Nat.lt_of_le_of_lt h.bs (blk_lt h.hd)), blk_lt h.hd⟩
  have HOW : Aside0 (∀ k, (Value.slice A n c).ownBlock = some k → k < w.heap.size) := ⟨fun k hk => own_lt h.row.row k hk⟩
  clear h hn hl hr hright hno hH hn1 hbl
  simp only [enV]
  go_enter Try.func9, Try.ntmps9
  go_upto_region 3 with fail
  refine gen_world (fun W2 hW2 => ?_)
  have hB2 : Below w.heap.size w W2 := by rw [hW2]; with_reducible exact below_alloc (Below.refl _ _) _
  have hx2 : W2.heap[w.heap.size]? = some (.cells #[.int .i64 p.e.f0, .int .i64 p.e.f1, .int .u64 p.e.f2, .int .i64 p.e.f3.f0, .int .i64 p.e.f3.f1, .int .i64 p.e.f4, .slice p.A p.e.f5.length p.c, .int .u64 p.e.f6] 33 (0, 0)) := by rw [hW2]; with_reducible exact heap_alloc_new _ _
  obtain ⟨g3, hg3⟩ : ∃ g, g = w.heap.size := ⟨_, rfl⟩
  rw [← hg3] at hx2 ⊢
  have HG : Aside0 (w.heap.size ≤ g3) := ⟨by omega⟩
  obtain ⟨x0, x1, x2, x3, x4, x5, x6, x7, -⟩ := cells8z hx2
  have HX2 := Aside0.mk hx2
  have HB2 := Aside0.mk hB2
  clear hW2 hB2 hx2 hg3
  go_upto_region 6 with (first
    | (go_at_call 25; go_must (refine (eright_calls p _ (HR0.out.below HB2.out)).mono ?_; rw [HRT.out]; rintro e w9 ⟨rfl, hb⟩; have HX9 := Aside0.mk (blk_below HX2.out hb); obtain ⟨x0, x1, x2, x3, x4, x5, x6, x7, -⟩ := cells8z HX9.out; have HB9 : Aside0 (Below w.heap.size w w9) := ⟨HB2.out.trans (hb.mono HB2.out.size)⟩; clear hb))
    | (go_at_call 27; go_must (refine (at_calls p _ (HR0.out.below HB9.out)).mono ?_; rintro e w13 ⟨rfl, hb⟩; have HX13 := Aside0.mk (blk_below HX9.out hb); have HB13 : Aside0 (Below w.heap.size w w13) := ⟨HB9.out.trans (hb.mono HB9.out.size)⟩; clear hb))
    | (go_at_call 26; go_must (refine (find_calls base g n most A c ps p.e.f0 p.e.f1 _ (HH.out.below HB13.out) HN.out HL.out).mono ?_; rintro e w14 ⟨r, rfl, hr, hb⟩; obtain rfl := fnd_no hr HNO.out; have HX14 := Aside0.mk (blk_below HX13.out hb); obtain ⟨x0, x1, x2, x3, x4, x5, x6, x7, -⟩ := cells8z HX14.out; have HB14 : Aside0 (Below w.heap.size w w14) := ⟨HB13.out.trans (hb.mono HB13.out.size)⟩; clear hr hb)))
  have HP14 := Aside0.mk (HH.out.below HB14.out)
  have c14 := HP14.out.cell
  have m14 : w14.cell? ⟨g, 0, none⟩ = some (.int .i64 most) := blk_cell (BufW.hd' HP14.out) 0
  go_quiet (fail)
  go_upto_region 10 with fail
  go_quiet (fail)
  all_goals
    go_upto_region 12 with fail
    refine gen_world (fun W5 hW5 => ?_)
    have hB5 : Below w14.heap.size w14 W5 := by rw [hW5]; with_reducible repeat (first | exact Below.refl _ _ | apply pw_below_drewN)
    obtain ⟨x0, x1, x2, x3, x4, x5, x6, x7, -⟩ := cells8z (blk_below HX14.out hB5)
    have HX5 := Aside0.mk (blk_below HX14.out hB5)
    have HB5 : Aside0 (Below w.heap.size w W5) := ⟨HB14.out.trans (hB5.mono HB14.out.size)⟩
    clear hW5 hB5 c14 m14
    go_region_held3 (fun w' => w'.cell? ⟨g3, 0, none⟩ = some (.int .i64 p.e.f0) ∧ w'.cell? ⟨g3, 1, none⟩ = some (.int .i64 p.e.f1) ∧ w'.cell? ⟨g3, 2, none⟩ = some (.int .u64 p.e.f2) ∧ w'.cell? ⟨g3, 3, none⟩ = some (.int .i64 p.e.f3.f0) ∧ w'.cell? ⟨g3, 4, none⟩ = some (.int .i64 p.e.f3.f1) ∧ w'.cell? ⟨g3, 5, none⟩ = some (.int .i64 p.e.f4) ∧ w'.cell? ⟨g3, 6, none⟩ = some (.slice p.A p.e.f5.length p.c) ∧ w'.cell? ⟨g3, 7, none⟩ = some (.int .u64 p.e.f6))
      (first | exact ⟨x0, x1, x2, x3, x4, x5, x6, x7⟩ | (go_split_ands; exact ⟨pw_cell_below hb (by assumption), pw_cell_below hb (by assumption), pw_cell_below hb (by assumption), pw_cell_below hb (by assumption), pw_cell_below hb (by assumption), pw_cell_below hb (by assumption), pw_cell_below hb (by assumption), pw_cell_below hb (by assumption)⟩) | (go_split_ands; exact ⟨hF.cell (by assumption) hgs, hF.cell (by assumption) hgs, hF.cell (by assumption) hgs, hF.cell (by assumption) hgs, hF.cell (by assumption) hgs, hF.cell (by assumption) hgs, hF.cell (by assumption) hgs, hF.cell (by assumption) hgs⟩))
      (first
        | (go_at_call 30; (refine (own_calls p _ ?h1 HBL.out).mono ?_); (case h1 => first | exact HR0.out.below HB5.out | exact HR0.out.below (below_drew1 HB5.out)); rintro e w48 ⟨q, rfl, hq, ho, hb⟩; have HQ := Aside0.mk hq; have HB48 : Aside0 (Below w.heap.size w w48) := ⟨below_step (by with_reducible repeat (first | exact HB5.out | apply below_drew1 | apply pw_below_drewN)) hb⟩; have HO48 := Aside0.mk (Kd.R_lower ho (Nat.le_trans HBS.out.1 HB5.out.size)); clear hq ho)
        | (go_at_call 29; (refine (hpush_calls base g 1 59 n A c #[.int .i64 most, .slice none 0 0] ps q _ (HH.out.below HB48.out) HN.out HO48.out HN1.out (Nat.le_trans HBS.out.1 HB48.out.size) HHF.out).mono ?_); rintro e w50 ⟨rfl, gr, cap, qs, hP, hpm, hh, hF, hA⟩; have hgs : ¬ (SP g (.slice A n c)) g3 := (fun e => by have h1 := HG.out; have h2 := HBS.out.2; rcases e with e | e; omega; have h3 := HOW.out g3 e; omega)))
  all_goals
    have HOLD : Aside0 (HoldP w base g n most (.slice A n c) ps p w50) := ⟨gr, cap, qs, q, hP, HQ.out, hpm, hh, (Fr.ofBelow _ HB48.out).trans hF (fun _ _ h => h), hA.imp id (fun h => Nat.le_trans HB48.out.size h)⟩
    clear hP hpm hh hF hA
    go_wp2
    go_ret
    exact ⟨rfl, HOLD.out⟩
end Go.Proofs.Ytekhpogigndlkaa.K

/- cachetteref01.Same. relay: bytes.Clone, and what is put into a queue. relay: slices.Delete of one item; queue.cut, queue.has; of, Waits. relay: queue.cut, queue.has; what a relay holds. relay: New, of, Waits, Put, Next, View. relay: Put. relay: Next. relay: View. relay: cachetteref10.Lists of the same lists, cachettelaw22.alive. relay: what a reader that is none, and an index that is none, are told (for RelayPlays). relay: an item's flag, and its bytes, turned in its queue. relay: items that change places in their queue; what a method did; the closures of Drop, Again, Swap, Turn. -/
import Derived.Test.YteeddalalfemmaaKit
import Derived.Test.YteeddalalfemmaaBits
import Derived.Test.YteeddalalfemmaaY0
import Derived.Deep.RegionLaw
import Derived.Test.YteeddalalfemmaaX
import Derived.Lib.SlBytesConst
import Derived.BigRegion
namespace Go.Proofs.Yteeddalalfemmaa.K
open Go.RowKit Go.Proofs.YteeddalalfemmaaW.PrintWords Go.Proofs.YteeddalalfemmaaW.PrintLast Go.Proofs.YteeddalalfemmaaW.PrintMore
set_option linter.unusedVariables false
set_option linter.unusedSimpArgs false

set_option maxHeartbeats 400000 in
theorem same_calls (v0 v1 : Value) (l0 l1 : List Int) (w : World) (hr0 : Rd w v0 l0) (hr1 : Rd w v1 l1) :
    Calls Try.prog 16 #[v0, v1] w fun e w' => e = .returned (.bool (decide (l0 = l1))) ∧ Drawn0 w w' := by
  obtain ⟨A0, c0, rfl, hc0, hC0⟩ := hr0
  obtain ⟨A1, c1, rfl, hc1, hC1⟩ := hr1
  have HC0 := Aside0.mk hC0
  have HC1 := Aside0.mk hC1
  have hm0 := hC0.2.1
  clear hc0 hc1 hC0 hC1
  by_cases hl : l0.length = l1.length
  · have hlb : (l0.length == l1.length) = true := by simpa using hl
    have hlb' : ((l0.length : Int) != (l1.length : Int)) = false := by simp [hl]
    have HL := Aside0.mk hl
    clear hl
    go_enter Try.func16, Try.ntmps16
    go_wp2
    go_loopw [5] (fun v5 wr => ∃ i : Nat, v5 = .int .i64 i ∧ i ≤ l0.length ∧ Aside0 (l0.take i = l1.take i) ∧ Drawn0 w wr) (fun v5 _ => l0.length - (intOf v5).toNat)
    case atStart => exact ⟨0, rfl, by omega, ⟨by simp⟩, by repeat (first | exact Drawn0.refl _ | apply Drawn0.step)⟩
    case round =>
      obtain ⟨i, rfl, hi, HE, ⟨m1, rfl⟩⟩ := hrel
      by_cases hlt : i < l0.length
      · have hlt1 : i < l1.length := by rw [← HL.out]; exact hlt
        obtain ⟨ad, rfl, hx⟩ := Kd.at_int HC0.out i (by omega) (by omega)
        obtain ⟨bd, rfl, hy⟩ := Kd.at_int HC1.out i (by omega) (by omega)
        rw [Int.toNat_natCast] at hx hy
        have HT0 := Aside0.mk (take_rd hlt)
        have HT1 := Aside0.mk (take_rd hlt1)
        obtain ⟨x, hxx⟩ : ∃ x, x = rd l0 i := ⟨_, rfl⟩
        obtain ⟨y, hyy⟩ : ∃ y, y = rd l1 i := ⟨_, rfl⟩
        rw [← hxx] at hx HT0
        rw [← hyy] at hy HT1
        clear hxx hyy
        by_cases hxy : x = y
        · subst hxy
          go_wp2
          repeat (go_quiet (fail); try go_wp2)
          go_roundw
          case rel => exact ⟨i + 1, by go_num, by omega, ⟨by rw [HT0.out, HT1.out, HE.out]⟩, by repeat (first | exact Drawn0.refl _ | apply Drawn0.step)⟩
          case measure => simp [intOf]; omega
        · have hb1 : (x != y) = true := by simpa using hxy
          have hb2 : (x == y) = false := by simpa using hxy
          have HXY := Aside0.mk hxy
          clear hxy
          go_wp2
          repeat (go_quiet (fail); try go_wp2)
          go_ret
          refine ⟨?_, by repeat (first | exact Drawn0.refl _ | apply Drawn0.step)⟩
          have hne : l0 ≠ l1 := by
            rintro rfl
            have h1 := HT0.out
            rw [HT1.out] at h1
            simp at h1
            exact HXY.out h1.symm
          simp [hne]
      · go_wp2
        go_ret
        refine ⟨?_, by repeat (first | exact Drawn0.refl _ | apply Drawn0.step)⟩
        have he : l0 = l1 := by
          have h1 := HE.out
          have h2 := HL.out
          rwa [List.take_of_length_le (by omega), List.take_of_length_le (by omega)] at h1
        simp [he]
  · have hlb' : ((l0.length : Int) != (l1.length : Int)) = true := by simp; omega
    have hlb : (l0.length == l1.length) = false := by simpa using hl
    have HL := Aside0.mk hl
    clear hl
    go_enter Try.func16, Try.ntmps16
    go_wp2
    go_ret
    refine ⟨?_, Drawn0.refl _⟩
    have hne : l0 ≠ l1 := by
      rintro rfl
      exact HL.out rfl
    simp [hne]
theorem same_true (v0 v1 : Value) (l : List Int) (w : World) (hr0 : Rd w v0 l) (hr1 : Rd w v1 l) :
    Calls Try.prog 16 #[v0, v1] w fun e w' => e = .returned (.bool true) ∧ Below w.heap.size w w' :=
  (same_calls v0 v1 l l w hr0 hr1).mono fun _ _ ⟨he, hd⟩ => ⟨by rw [he]; simp, hd.below⟩
end Go.Proofs.Yteeddalalfemmaa.K

namespace Go.Proofs.Yteeddalalfemmaa.K
open Go.RowKit Go.Proofs.YteeddalalfemmaaW.PrintWords Go.Proofs.YteeddalalfemmaaW.PrintLast Go.Proofs.YteeddalalfemmaaW.PrintMore
set_option linter.unusedVariables false
set_option linter.unusedSimpArgs false

abbrev It := Y.S59
abbrev IK := Y.k59
/-- A row of items of the call's own. -/
abbrev QR (W : World) (base : Nat) (ok : Nat → Prop) (v : Value) (xs : List It) : Prop := Kd.S IK 59 W base ok v xs
/-- What a queue's method leaves: all but the blocks of its colour, and its own; and all bytes. -/
def Fr (w w' : World) (col : Nat → Nat) (c p : Nat) : Prop :=
  w.heap.size ≤ w'.heap.size ∧ (∀ k, k < w.heap.size → col k ≠ c → k ≠ p → w'.heap[k]? = w.heap[k]?) ∧ (∀ (k : Nat) (cells : Array Value) (t : Nat) (f : Nat × Nat), w.heap[k]? = some (Obj.cells cells t f) → t ≠ 59 → k ≠ p → w'.heap[k]? = some (Obj.cells cells t f))
theorem infoIt : (Try.prog.info? 59).map (fun i => (i.zero, i.size, i.bytes)) = some (some (.agg #[.slice none 0 0, .bool false]), 2, 32) := by kernel_rfl
theorem own_bytes {w : World} {b : Nat} {v : Value} {l : List Int} (h : Own w b v l) {ok : Nat → Prop} (hok : ∀ k, b ≤ k → k < w.heap.size → ok k) : Kd.R (Kd.int .u8) 5 w b ok v l :=
  Kd.R_mono (Kd.R_bound h) (fun k hk => hok k hk.2.1 hk.2.2.1)

theorem qr_away {W : World} {base : Nat} {ok : Nat → Prop} {v : Value} {xs : List It} (h : QR W base ok v xs) {k : Nat} {cells : Array Value} {t : Nat} {f : Nat × Nat} (hb : W.heap[k]? = some (.cells cells t f)) (ht : t ≠ 59) : some k ≠ v.ownBlock := by
  intro e
  obtain ⟨inner, ho⟩ := Kd.S_own h
  obtain ⟨c2, h2⟩ := own_typed ho k e.symm
  rw [h2] at hb
  injection hb with hb
  injection hb with _ hb
  exact ht hb.symm
theorem qs_ok {W : World} {base : Nat} {ok : Nat → Prop} {v : Value} {xs : List It} (h : QR W base ok v xs) : ∀ k, v.ownBlock = some k → ok k := by
  obtain ⟨f, h⟩ := h
  exact h.1
theorem qr_types {T : Nat} (h1 : T ≠ 59) (h2 : T ≠ 5) : ∀ q, q ∈ 59 :: IK.E → q ≠ T := by
  intro q hq
  have hE : IK.E = [5] := rfl
  rw [hE] at hq
  simp at hq
  rcases hq with rfl | rfl
  · exact fun h => h1 h.symm
  · exact fun h => h2 h.symm

set_option maxRecDepth 100000 in
set_option maxHeartbeats 1000000 in
theorem bclone_calls (v : Value) (l : List Int) (w : World) (hr : Rd w v l) (hl : l.length ≤ 100000) :
    Calls Try.prog 29 #[v] w fun e w' => ∃ v', e = .returned v' ∧ Own w' w.heap.size v' l ∧ Below w.heap.size w w' := by
  have HR := Aside0.mk hr
  have HL := Aside0.mk hl
  obtain ⟨A0, c0, rfl, hc0, hC0⟩ := hr
  have HC := Aside0.mk hC0
  have HB := Aside0.mk (Below.refl w.heap.size w)
  clear hl hC0 hc0
  have hn := Lib.run_eql_slice_nil (P := Try.prog)
  by_cases hA : A0.isNone = true
  · go_enter Try.func29, Try.ntmps29
    go_wp2
    go_ret
    obtain rfl := nil_of HC.out hA
    exact ⟨_, rfl, Kd.R_nil _ _ _ _ _, Below.refl _ _⟩
  · have hA : A0.isNone = false := by cases A0 <;> simp_all
    go_enter Try.func29, Try.ntmps29
    go_wp2_with (first
      | ((with_reducible refine gate_dst (N := 5) rfl ?_); go_must (((try (refine gate_guard (by rfl) ?_; dsimp only)); refine lit_bytes (w0 := w) (w).heap.size 5 ?hg ?hd ([]) ?hr ?hm HB.out HB.out.size ?_; (case hd => rfl); (case hg => rfl); (case hr => first | (go_simp; done) | (go_simp; rfl)); (case hm => simp); intro vHO5 wHO5 ho hb hbw; have HO5 := Aside0.mk ho; clear HB; have HB := Aside0.mk hb; clear ho hb hbw)))
      | ((with_reducible refine gate_builtin (b := .append) (xs := #[.tmp 5, .tmp 6]) rfl ?_); at_builtin; go_must (((try (refine gate_guard (by rfl) ?_; dsimp only)); refine app_bytes (w0 := w) (w).heap.size rfl (.tmp 5) (.tmp 6) 33 rfl Try.underlying33 info5 _ _ ([]) (l) rfl rfl HO5.out ?aR HB.out HB.out.size ?aL ?_; (case aR => exact HR.out.below HB.out); (case aL => (have := HL.out; simp; omega)); intro vHO7 wHO7 ho hb hg; have HO7 := Aside0.mk ho; clear HB; have HB := Aside0.mk hb; clear ho hb hg))))
    go_ret
    exact ⟨_, rfl, HO7.out, HB.out⟩

set_option maxRecDepth 100000 in
set_option maxHeartbeats 4000000 in
theorem qput_calls (p j T c : Nat) (col : Nat → Nat) (cs : Array Value) (v vb : Value) (l : List Int) (xs : List It) (w0 w : World)
    (hp : w.heap[p]? = some (.cells cs T (0, 0))) (hj : cs[j]? = some v) (hT : T ≠ 59 ∧ T ≠ 5) (hR : QR w w0.heap.size (fun k => col k = c) v xs) (hb : Rd w vb l)
    (hcol : ∀ k, w.heap.size ≤ k → col k = c) (hB : Below w0.heap.size w0 w) (h0 : w0.heap.size ≤ p) (hx : xs.length ≤ 100000) (hl : l.length ≤ 100000) :
    Calls Try.prog 31 #[.pointer (some ⟨p, j, none⟩), vb] w fun e w' => e = .returned (.tuple #[]) ∧
      (∃ v', w'.heap[p]? = some (.cells (cs.setIfInBounds j v') T (0, 0)) ∧ QR w' w0.heap.size (fun k => col k = c) v' (xs ++ [⟨l, false⟩])) ∧ Below w0.heap.size w0 w' ∧ Fr w w' col c p := by
  have c0 : w.cell? ⟨p, j, none⟩ = some v := (blk_cell hp j).trans hj
  have f0 := blk_frozen hp j
  have HP := Aside0.mk hp
  have HJ := Aside0.mk hj
  have HT := Aside0.mk hT
  have HR := Aside0.mk hR
  have HRb := Aside0.mk hb
  have HCol := Aside0.mk hcol
  have HB := Aside0.mk hB
  have H0 := Aside0.mk h0
  have HX := Aside0.mk hx
  have HL := Aside0.mk hl
  have HW := Aside0.mk (Below.refl w.heap.size w)
  clear hp hj hT hR hb hcol hB h0 hx hl
  go_enter Try.func31, Try.ntmps31
  go_wp2
  go_region_law (first
    | (refine Kd.S_append_step IK (w0 := w0) w0.heap.size rfl (.tmp 8) (.tmp 12) 49 59 (.agg #[.slice none 0 0, .bool false]) 32 rfl Try.underlying49 infoIt rfl (by decide) (by decide) v xs ⟨l, false⟩ [.slice A10 l.length c10, .bool false] (fun k => col k = c) (fun k => col k = c ∧ w.heap.size ≤ k) rfl rfl ?hM ?hokp ?hfresh HRA.out HB10.out HB10.out.size ?hl ?_;
       (case hM => exact Y.k59_mkM _ _ _ (⟨l, false⟩ : It) (Kd.R_lower (Kd.R_mono (Kd.R_bound HO.out) (fun k hk => ⟨HCol.out k hk.2.1, hk.2.1⟩)) HB.out.size));
       (case hokp => exact fun k hk => ⟨hk.1, fun e => by have := Kd.S_lt HR.out k e.symm; omega⟩);
       (case hfresh => exact fun k hk => HCol.out k (Nat.le_trans HW10.out.size hk));
       (case hl => (have := HX.out; omega));
       intro v13 w13 ho hb hg hat; obtain ⟨A13, d13, rfl, hd13, hC13⟩ := Kd.S_reads ho; clear hC13; rw [show (xs ++ [(⟨l, false⟩ : It)]).length = xs.length + 1 by simp] at ho hd13 ⊢; have hp13 : w13.heap[p]? = some (.cells cs T (0, 0)) := (hg.block p (blk_lt HP10.out) (qr_away HR10.out HP10.out HT.out.1)).trans HP10.out; have c13 := (blk_cell hp13 j).trans HJ.out; have f13 := blk_frozen hp13 j; have HP13 := Aside0.mk hp13; have HR13 := Aside0.mk ho; have HB13 := Aside0.mk hb; have HG13 := Aside0.mk hg; clear ho hb hg hat hp13)
    | (go_simp; go_at_call 29; refine (bclone_calls _ l _ (by exact HRb.out) HL.out).mono ?_; rintro e w10 ⟨v10, rfl, ho, hb⟩; have HO := Aside0.mk ho; obtain ⟨A10, c10, rfl, hc10, hC10⟩ := ho.rd; clear hC10; have HW10 : Aside0 (Below w.heap.size w w10) := ⟨by first | exact below_step (below_drew1 (Below.refl w.heap.size w)) hb | exact hb⟩; have HR10 := Aside0.mk (Kd.S_below HR.out HW10.out); have HRA : Aside0 (QR w10 w0.heap.size (fun k => col k = c ∧ ¬ (col k = c ∧ w.heap.size ≤ k)) v xs) := ⟨Kd.S_mono (Kd.S_old HR.out HW10.out) (fun k hk => ⟨hk.1, fun h => by have := h.2; have := hk.2; omega⟩)⟩; have HP10 := Aside0.mk (blk_below HP.out HW10.out); have HB10 : Aside0 (Below w0.heap.size w0 w10) := ⟨HB.out.trans (HW10.out.mono HB.out.size)⟩; have c0 : w10.cell? ⟨p, j, none⟩ = some v := (blk_cell HP10.out j).trans HJ.out; have c0a : (w10.alloc (.cells #[.slice A10 l.length c10, .bool false] 59)).cell? ⟨p, j, none⟩ = some v := pw_cell_below (below_alloc (Below.refl _ _) _) c0; clear ho hb))
  all_goals
    go_wp2
    go_end0
    refine ⟨rfl, ⟨_, blk_set HP13.out j _, Kd.S_set HR13.out HP13.out (qr_types HT.out.1 HT.out.2) j _⟩, HB13.out.setCell H0.out _, ?_, ?_, ?_⟩
    · have h1 := HW10.out.size
      have h2 := HG13.out.size
      exact Nat.le_trans h1 (Nat.le_trans h2 ((KeepBut.refl w13 p none).set_ j _).1)
    · intro k hk hc hkp
      rw [Below.heap_setCell _ _ _ _ hkp, HG13.out.block k (Nat.lt_of_lt_of_le hk HW10.out.size) (fun e => hc (qs_ok HR.out k e.symm)), HW10.out.block k hk]
    · intro k cells t f hk ht hkp
      have hlt : k < w.heap.size := (Array.getElem?_eq_some_iff.1 hk).1
      rw [Below.heap_setCell _ _ _ _ hkp, HG13.out.block k (Nat.lt_of_lt_of_le hlt HW10.out.size) (qr_away HR.out hk ht), HW10.out.block k hlt, hk]
end Go.Proofs.Yteeddalalfemmaa.K

namespace Go.Proofs.Yteeddalalfemmaa.K
open Go.RowKit Go.Proofs.YteeddalalfemmaaW.PrintWords Go.Proofs.YteeddalalfemmaaW.PrintLast Go.Proofs.YteeddalalfemmaaW.PrintMore
set_option linter.unusedVariables false
set_option linter.unusedSimpArgs false

theorem infoItS : (Try.prog.info? 59).map (·.size) = some 2 := by kernel_rfl
/-- A store behind the row's end. -/
theorem r_tail {α : Type} {d : Kd α} {e : Nat} {W : World} {base : Nat} {ok : Nat → Prop} {g n c : Nat} {xs : List α} (hs : d.sz = 2) (h : Kd.R d e W base ok (.slice (some ⟨g, 0, none⟩) n c) xs) (j : Nat) (hj : n * 2 ≤ j) (u : Value) : Kd.R d e (W.setCell ⟨g, j, none⟩ u) base ok (.slice (some ⟨g, 0, none⟩) n c) xs := by
  obtain ⟨h0, inner, ⟨hl, ho⟩, hr⟩ := h
  have hn : n = xs.length := by
    rcases ho with ⟨e, _⟩ | ⟨g', cap, cur, he, _⟩
    · cases e
    · injection he
  rcases ho with ⟨e, _⟩ | ⟨g', cap, cur, he, hb, hh, hle, hcm, hcs, ht⟩
  · cases e
  · injection he with he1 he2 he3
    injection he1 with he1
    injection he1 with he1
    subst he1 he3
    refine ⟨h0, inner, ⟨hl, .inr ⟨g, c, cur.setIfInBounds j u, by rw [hn], hb, blk_set hh j u, hle, hcm, by simpa using hcs, ?_⟩⟩, ?_⟩
    · rw [← ht]
      simp only [Array.toList_setIfInBounds]
      rw [hs]
      rw [List.take_set_of_le (by omega)]
    · exact hr.imp_ (fun p q hp => Kd.M_far hp (fun k hk => by
        intro e
        exact hk.2 (by rw [e]; rfl)) u)
theorem qr_tail {W : World} {base : Nat} {ok : Nat → Prop} {g n c : Nat} {xs : List It} (h : QR W base ok (.slice (some ⟨g, 0, none⟩) n c) xs) (j : Nat) (hj : n * 2 ≤ j) (u : Value) : QR (W.setCell ⟨g, j, none⟩ u) base ok (.slice (some ⟨g, 0, none⟩) n c) xs := by
  obtain ⟨f, h⟩ := h
  exact ⟨f, r_tail (by rfl) h j hj u⟩
/-- Cells up to the row's room. -/
theorem qr_cells {W : World} {base : Nat} {ok : Nat → Prop} {g n c : Nat} {xs : List It} (h : QR W base ok (.slice (some ⟨g, 0, none⟩) n c) xs) (j : Nat) (hj : j < c * 2) : ∃ u, W.cell? ⟨g, j, none⟩ = some u ∧ W.frozen? ⟨g, j, none⟩ = false := by
  obtain ⟨h0, inner, ⟨hl, ho⟩, hr⟩ := Kd.S_R h
  rcases ho with ⟨e, _⟩ | ⟨g', cap, cur, he, hb, hh, hle, hcm, hcs, ht⟩
  · cases e
  · injection he with he1 he2 he3
    injection he1 with he1
    injection he1 with he1
    subst he1 he3
    have hs : IK.sz = 2 := rfl
    rw [hs] at hcs
    exact ⟨_, (blk_cell hh j).trans (Array.getElem?_eq_getElem (by omega)), blk_frozen hh j⟩

/-- clear of one item. -/
theorem run_clear_item (W : World) (g o c : Nat) (u0 u1 : Value) (h0 : W.cell? ⟨g, o, none⟩ = some u0) (f0 : W.frozen? ⟨g, o, none⟩ = false) (h1 : W.cell? ⟨g, o + 1, none⟩ = some u1) (f1 : W.frozen? ⟨g, o + 1, none⟩ = false) :
    (Builtin.clear_ #[49] 0 #[.slice (some ⟨g, o, none⟩) 1 c]).run Try.prog W = .ok (.tuple #[]) ((W.setCell ⟨g, o, none⟩ (.slice none 0 0)).setCell ⟨g, o + 1, none⟩ (.bool false)) := by
  obtain ⟨i0, hi, hz⟩ := Option.map_eq_some_iff.1 infoIt
  simp only [Prod.mk.injEq] at hz
  have hv : ∀ w, (zeroValue 59).run Try.prog w = .ok (.agg #[.slice none 0 0, .bool false]) w := by
    intro w
    simp [zeroValue, typeInfo, hi, hz.1]
  have hzc : (Builtin.zeroCells (Value.agg #[.slice none 0 0, .bool false]).cells 1).toList = [.slice none 0 0, .bool false] := by simp [Builtin.zeroCells, Value.cells, List.range_succ]
  have hst := run_storeCells_cells (P := Try.prog) g o [Value.slice none 0 0, .bool false] 0 W (by
    intro j hj
    match j, hj with
    | 0, _ => simp [h0]
    | 1, _ => simp [h1]) (by
    intro j hj
    match j, hj with
    | 0, _ => simpa using f0
    | 1, _ => simpa using f1) (by simp [Value.oneCell'])
  simp only [Nat.add_zero] at hst
  simp [Builtin.clear_, run_underlying Try.underlying49, hv, hzc, hst, World.setCells]

theorem grown_set {W W1 : World} {b : Nat} (h : W.grownBy W1 (some b)) (j : Nat) (v : Value) : W.grownBy (W1.setCell ⟨b, j, none⟩ v) (some b) := by
  have hb := (Below.refl 0 W1).setCell (p := ⟨b, j, none⟩) (Nat.zero_le _) v
  refine ⟨hb.os.trans h.os, hb.tape.trans h.tape, hb.output.trans h.output, Nat.le_trans h.size ((KeepBut.refl W1 b none).set_ j v).1, fun k hk hne => ?_⟩
  rw [Below.heap_setCell _ _ _ _ (fun e => hne (by rw [e]))]
  exact h.block k hk hne
theorem grown_drew {W W1 : World} {b : Option Nat} (h : W.drew.grownBy W1 b) : W.grownBy W1 b := ⟨h.os, h.tape, h.output, h.size, h.block⟩

set_option maxRecDepth 100000 in
set_option maxHeartbeats 4000000 in
theorem qdel_calls (i : Nat) (v : Value) (xs : List It) (ok : Nat → Prop) (w0 w : World) (hR : QR w w0.heap.size ok v xs) (hi : i < xs.length) (hB : Below w0.heap.size w0 w) (hx : xs.length ≤ 100000) :
    Calls Try.prog 42 #[v, .int .i64 i, .int .i64 ((i : Int) + 1)] w fun e w' => ∃ v', e = .returned v' ∧ QR w' w0.heap.size ok v' (xs.eraseIdx i) ∧ Below w0.heap.size w0 w' ∧ w.grownBy w' v.ownBlock := by
  obtain ⟨g, cap, rfl, hg0, hg1, cells, hcells⟩ := Kd.S_form hR (by omega)
  obtain ⟨n, hn⟩ : ∃ n, xs.length = n := ⟨_, rfl⟩
  rw [hn] at hR hi hx ⊢
  have HR := Aside0.mk hR
  have HB := Aside0.mk hB
  have hcap : n ≤ cap := by
    obtain ⟨A, c, e, h1, _⟩ := Kd.S_reads hR
    injection e with _ e1 e2
    omega
  have hcm : (cap : Int) ≤ 9223372036854775807 := by
    obtain ⟨h0, inner, ⟨hl, ho⟩, hr⟩ := Kd.S_R hR
    rcases ho with ⟨e, _⟩ | ⟨g', cap', cur, he, hb, hh, hle, hcm, hcs, ht⟩
    · cases e
    · injection he with he1 he2 he3
      subst he3
      simp [maxLen] at hcm
      omega
  have HG := Aside0.mk hg0
  clear hR hB hcells hg0 hg1
  have HN := Aside0.mk hn
  obtain ⟨k, hk⟩ : ∃ k : Nat, k = i + 1 := ⟨_, rfl⟩
  have hk1 : (i : Int) + 1 = k := by omega
  rw [hk1]
  have HK := Aside0.mk hk
  have hki : (i : Int) ≤ k := by omega
  have hkn : (k : Int) ≤ n := by omega
  have hin : (i : Int) ≤ n := by omega
  have hnc : (n : Int) ≤ cap := by omega
  have hic : (i : Int) ≤ cap := by omega
  have hik : ((i : Int) == k) = false := by simp; omega
  have hi0 : (0 : Int) ≤ i := by omega
  clear hn hk hk1 hx hcap
  obtain ⟨m1, hm1⟩ : ∃ m1, n - 1 = m1 := ⟨_, rfl⟩
  have HM1 := Aside0.mk hm1
  have hm1n : (m1 : Int) ≤ n := by omega
  have hm1c : (m1 : Int) ≤ cap := by omega
  have hm2 : n - m1 = 1 := by omega
  have hm3 : m1 + 1 ≤ cap := by omega
  clear hm1
  by_cases hc : k = cap
  · subst hc
    go_enter Try.func42, Try.ntmps42
    go_wp2
    go_region_held3 (fun w' => True) (first | trivial)
      (first
        | (refine Kd.S_delete_step IK (w0 := w0) w0.heap.size rfl (.tmp 22) (.tmp 25) 49 59 rfl Try.underlying49 infoItS (g := g) (n := n) (c := k) (k := i) rfl rfl ?hA ?hm (by exact Kd.S_drew HR.out) hi (below_drew1 HB.out) (by exact HB.out.size) ?_;
           (case hA => (rw [← HK.out]; simp)); (case hm => (have := HK.out; omega));
           intro w26 ho hb hg; rw [HM1.out] at ho ⊢; obtain ⟨u0, hu0, hf0⟩ := qr_cells ho (m1 * 2) (by omega); obtain ⟨u1, hu1, hf1⟩ := qr_cells ho (m1 * 2 + 1) (by omega); have hclr := run_clear_item w26 g (m1 * 2) (k - m1) u0 u1 hu0 hf0 hu1 hf1; have HR26 := Aside0.mk ho; have HB26 := Aside0.mk hb; have HG26 := Aside0.mk hg; clear ho hb hg))
    go_wp2
    go_ret
    refine ⟨_, rfl, qr_tail (qr_tail HR26.out (m1 * 2) (Nat.le_refl _) _) (m1 * 2 + 1) (by omega) _, (HB26.out.setCell (p := ⟨g, m1 * 2, none⟩) HG.out _).setCell (p := ⟨g, m1 * 2 + 1, none⟩) HG.out _, grown_set (grown_set (grown_drew HG26.out) _ _) _ _⟩
  · have hck : (k : Int) < cap := by omega
    have hck2 : ¬ cap = k := fun e => hc e.symm
    clear hc
    go_enter Try.func42, Try.ntmps42
    go_wp2
    go_region_held3 (fun w' => True) (first | trivial)
      (first
        | (refine Kd.S_delete_step IK (w0 := w0) w0.heap.size rfl (.tmp 22) (.tmp 25) 49 59 rfl Try.underlying49 infoItS (g := g) (n := n) (c := cap) (k := i) rfl rfl ?hA ?hm (by exact Kd.S_drew HR.out) hi (below_drew1 HB.out) (by exact HB.out.size) ?_;
           (case hA => (rw [← HK.out, if_neg hck2, show IK.sz = 2 from rfl]; have hk0 : ¬ k * 2 = 0 := (by have := HK.out; omega); simp only [Option.map_some, Addr.add, hk0, if_false, Nat.zero_add])); (case hm => (have := HK.out; omega));
           intro w26 ho hb hg; rw [HM1.out] at ho ⊢; obtain ⟨u0, hu0, hf0⟩ := qr_cells ho (m1 * 2) (by omega); obtain ⟨u1, hu1, hf1⟩ := qr_cells ho (m1 * 2 + 1) (by omega); have hclr := run_clear_item w26 g (m1 * 2) (cap - m1) u0 u1 hu0 hf0 hu1 hf1; have HR26 := Aside0.mk ho; have HB26 := Aside0.mk hb; have HG26 := Aside0.mk hg; clear ho hb hg))
    go_wp2
    go_ret
    refine ⟨_, rfl, qr_tail (qr_tail HR26.out (m1 * 2) (Nat.le_refl _) _) (m1 * 2 + 1) (by omega) _, (HB26.out.setCell (p := ⟨g, m1 * 2, none⟩) HG.out _).setCell (p := ⟨g, m1 * 2 + 1, none⟩) HG.out _, grown_set (grown_set (grown_drew HG26.out) _ _) _ _⟩
end Go.Proofs.Yteeddalalfemmaa.K

namespace Go.Proofs.Yteeddalalfemmaa.K
open Go.RowKit Go.Proofs.YteeddalalfemmaaW.PrintWords Go.Proofs.YteeddalalfemmaaW.PrintLast Go.Proofs.YteeddalalfemmaaW.PrintMore
set_option linter.unusedVariables false
set_option linter.unusedSimpArgs false

/-- All bytes stay. -/
def FrB (w w' : World) : Prop := ∀ (k : Nat) (cells : Array Value) (f : Nat × Nat), w.heap[k]? = some (Obj.cells cells 5 f) → w'.heap[k]? = some (Obj.cells cells 5 f)
theorem own_frame {W W' : World} {base : Nat} {ok : Nat → Prop} {v : Value} {l : List Int} (h : Kd.R (Kd.int .u8) 5 W base ok v l) (hf : FrB W W') : Kd.R (Kd.int .u8) 5 W' base ok v l := by
  refine Kd.R_mono (Kd.R_move (Kd.R_bound h) (fun k hk => ?_)) (fun _ hk => hk.1)
  obtain ⟨_, _, _, q, hq, cells, hc⟩ := hk
  have hq5 : q = 5 := by simpa [Kd.int, Kd.scalar] using hq
  subst hq5
  rw [hf k cells (0, 0) hc, hc]
theorem FrB.trans {a b c : World} (h : FrB a b) (k : FrB b c) : FrB a c := fun i cells f hi => k i cells f (h i cells f hi)
theorem FrB.below {a b : World} (h : Below a.heap.size a b) : FrB a b := fun i cells f hi => (h.block i (Array.getElem?_eq_some_iff.1 hi).1).trans hi
theorem add0 (g j : Nat) : (⟨g, 0, none⟩ : Addr).add j = ⟨g, j, none⟩ := by simp [Addr.add]; omega
theorem qr_item {W : World} {base : Nat} {ok : Nat → Prop} {v : Value} {xs : List It} (h : QR W base ok v xs) (i : Nat) (hi : i < xs.length) :
    ∃ g cap vb, v = .slice (some ⟨g, 0, none⟩) xs.length cap ∧ xs.length ≤ cap ∧ W.cell? ⟨g, i * 2, none⟩ = some vb ∧ W.cell? ⟨g, i * 2 + 1, none⟩ = some (.bool xs[i].f1) ∧ Kd.R (Kd.int .u8) 5 W base (fun k => ok k ∧ some k ≠ v.ownBlock) vb xs[i].f0 := by
  obtain ⟨g, cap, rfl, _⟩ := Kd.S_form h (by omega)
  have hcap := (Kd.S_reads' h).2.1
  obtain ⟨c, hcl, hM, hc⟩ := Kd.R_get (Kd.S_R h) Y.z59 (i : Int) (by omega) (by omega)
  rw [Int.toNat_natCast] at hM hc
  have hx : xs.getD i Y.z59 = xs[i] := by rw [List.getD_eq_getElem?_getD, List.getElem?_eq_getElem hi]; rfl
  rw [hx] at hM
  obtain ⟨vb, rfl, hb⟩ := Y.k59_openM hM
  have e0 := hc 0 vb rfl
  have e1 := hc 1 (.bool xs[i].f1) rfl
  rw [show IK.sz = 2 from rfl] at e0 e1
  rw [add0] at e0 e1
  exact ⟨g, cap, vb, rfl, hcap, e0, e1, hb⟩
theorem fr_set {w w1 : World} {col : Nat → Nat} {c p base : Nat} {v : Value} {xs : List It} (hR : QR w base (fun k => col k = c) v xs) (hg : w.grownBy w1 v.ownBlock) (j : Nat) (u : Value) : Fr w (w1.setCell ⟨p, j, none⟩ u) col c p := by
  refine ⟨Nat.le_trans hg.size ((KeepBut.refl w1 p none).set_ j _).1, ?_, ?_⟩
  · intro k hk hc hkp
    rw [Below.heap_setCell _ _ _ _ hkp]
    exact hg.block k hk (fun e => hc (qs_ok hR k e.symm))
  · intro k cells t f hk ht hkp
    have hlt : k < w.heap.size := (Array.getElem?_eq_some_iff.1 hk).1
    rw [Below.heap_setCell _ _ _ _ hkp, hg.block k hlt (qr_away hR hk ht), hk]
/-- Bytes stay where a method on no bytes' block has been. -/
theorem Fr.bytes {w w' : World} {col : Nat → Nat} {c p T : Nat} {cs : Array Value} (h : Fr w w' col c p) (hp : w.heap[p]? = some (.cells cs T (0, 0))) (hT : T ≠ 5) : FrB w w' := by
  intro k cells f hk
  refine h.2.2 k cells _ f hk (by decide) ?_
  rintro rfl
  rw [hp] at hk
  injection hk with hk
  injection hk with _ hk
  exact hT hk

set_option maxRecDepth 100000 in
set_option maxHeartbeats 4000000 in
theorem qcut_calls (p j T c : Nat) (col : Nat → Nat) (cs : Array Value) (v : Value) (i : Nat) (xs : List It) (w0 w : World)
    (hp : w.heap[p]? = some (.cells cs T (0, 0))) (hj : cs[j]? = some v) (hT : T ≠ 59 ∧ T ≠ 5) (hR : QR w w0.heap.size (fun k => col k = c) v xs) (hi : i < xs.length)
    (hB : Below w0.heap.size w0 w) (h0 : w0.heap.size ≤ p) (hx : xs.length ≤ 100000) :
    Calls Try.prog 34 #[.pointer (some ⟨p, j, none⟩), .int .i64 i] w fun e w' =>
      ∃ vb v', e = .returned vb ∧ Kd.R (Kd.int .u8) 5 w' w0.heap.size (fun _ => True) vb xs[i].f0 ∧ w'.heap[p]? = some (.cells (cs.setIfInBounds j v') T (0, 0)) ∧ QR w' w0.heap.size (fun k => col k = c) v' (xs.eraseIdx i) ∧ Below w0.heap.size w0 w' ∧ Fr w w' col c p := by
  have c0 : w.cell? ⟨p, j, none⟩ = some v := (blk_cell hp j).trans hj
  have f0 := blk_frozen hp j
  obtain ⟨g, cap, vb, rfl, hcap, hv0, hv1, hb⟩ := qr_item hR i hi
  clear hv1
  generalize xs[i] = x at hb ⊢
  have HP := Aside0.mk hp
  have HJ := Aside0.mk hj
  have HT := Aside0.mk hT
  have HR := Aside0.mk hR
  have HB := Aside0.mk hB
  have H0 := Aside0.mk h0
  have HX := Aside0.mk hx
  have HI := Aside0.mk hi
  have Hb := Aside0.mk hb
  obtain ⟨n, hn⟩ : ∃ n, xs.length = n := ⟨_, rfl⟩
  have HN := Aside0.mk hn
  have hin : (i : Int) < n := by omega
  have hn9 : (n : Int) ≤ 100000 := by omega
  have hi0 : (0 : Int) ≤ i := by omega
  have hnc : n ≤ cap := by omega
  rw [hn] at hcap HR c0 HJ
  clear hp hj hT hR hi hB h0 hx hb hn hcap
  go_enter Try.func34, Try.ntmps34
  go_wp2_with (first
    | ((with_reducible refine gate_dst (N := 22) rfl ?_); go_must (((try (refine gate_guard (by rfl) ?_; dsimp only)); refine goesL_ (some 22) rfl rfl Try.func42 (by kernel_rfl) rfl #[.slice (some ⟨g, 0, none⟩) n cap, .int .i64 i, .int .i64 ((i : Int) + 1)] rfl ?hA ?_; (case hA => ((try simp only [List.map_toArray, List.map_cons, List.map_nil]); first | done | rfl)); refine (qdel_calls i _ xs _ w0 _ HR.out (by have := HI.out; exact this) HB.out HX.out).mono ?_; rintro e w22 ⟨v22, rfl, ho, hb2, hg⟩; refine ⟨_, rfl, ?_⟩; obtain ⟨A22, d22, rfl, hd22, hC22⟩ := Kd.S_reads ho; clear hC22; have hp22 : w22.heap[p]? = some (.cells cs T (0, 0)) := (hg.block p (blk_lt HP.out) (qr_away HR.out HP.out HT.out.1)).trans HP.out; have c22 := (blk_cell hp22 j).trans HJ.out; have f22 := blk_frozen hp22 j; have HP22 := Aside0.mk hp22; have HR22 := Aside0.mk ho; have HB22 := Aside0.mk hb2; have HG22 := Aside0.mk hg; clear ho hb2 hg hp22))))
  go_ret
  have hF : Fr w (w22.setCell ⟨p, j, none⟩ (.slice A22 (xs.eraseIdx i).length d22)) col c p := fr_set HR.out HG22.out j _
  exact ⟨vb, _, rfl, own_frame (Kd.R_mono Hb.out (fun _ _ => trivial)) (hF.bytes HP.out HT.out.2), blk_set HP22.out j _, Kd.S_set HR22.out HP22.out (qr_types HT.out.1 HT.out.2) j _, HB22.out.setCell H0.out _, hF⟩

set_option maxHeartbeats 800000 in
theorem qhas_calls (p j n c : Nat) (A : Option Addr) (i : Int) (w : World) (hc : w.cell? ⟨p, j, none⟩ = some (.slice A n c)) :
    Calls Try.prog 40 #[.pointer (some ⟨p, j, none⟩), .int .i64 i] w fun e w' => e = .returned (.bool (decide (0 ≤ i ∧ i < n))) ∧ Drawn0 w w' := by
  by_cases h0 : 0 ≤ i
  · by_cases h1 : i < n
    · have hd : decide (0 ≤ i ∧ i < n) = true := decide_eq_true ⟨h0, h1⟩
      rw [hd]
      clear hd
      go_enter Try.func40, Try.ntmps40
      go_wp2
      go_ret
      exact ⟨rfl, by repeat (first | exact Drawn0.refl _ | apply Drawn0.step)⟩
    · have hd : decide (0 ≤ i ∧ i < n) = false := decide_eq_false (fun h => h1 h.2)
      have hd2 : decide (i < (n : Int)) = false := decide_eq_false h1
      rw [hd]
      clear hd
      go_enter Try.func40, Try.ntmps40
      go_wp2
      go_ret
      exact ⟨rfl, by repeat (first | exact Drawn0.refl _ | apply Drawn0.step)⟩
  · have hd : decide (0 ≤ i ∧ i < n) = false := decide_eq_false (fun h => h0 h.1)
    have hd2 : decide (0 ≤ i) = false := decide_eq_false h0
    rw [hd]
    clear hd
    go_enter Try.func40, Try.ntmps40
    go_wp2
    go_ret
    exact ⟨rfl, by repeat (first | exact Drawn0.refl _ | apply Drawn0.step)⟩

/-- A relay at block g of W, its queues at gq: what it saw, and what waits for each. -/
structure Rel (W : World) (b0 g gq : Nat) (col : Nat → Nat) (vw : List It) (qs : List (List It)) : Prop where
  blk : ∃ vv, W.heap[g]? = some (.cells #[.slice (some ⟨gq, 0, none⟩) qs.length qs.length, vv] 53 (0, 0)) ∧ QR W b0 (fun k => col k = 0) vv vw
  qb : ∃ cs : Array Value, W.heap[gq]? = some (.cells cs 51 (0, 0)) ∧ cs.size = qs.length ∧ ∀ i (h : i < qs.length), ∃ v, cs[i]? = some v ∧ QR W b0 (fun k => col k = i + 1) v qs[i]
  ge : b0 ≤ g ∧ b0 ≤ gq
theorem Rel.below {W W' : World} {b0 g gq : Nat} {col : Nat → Nat} {vw : List It} {qs : List (List It)} (h : Rel W b0 g gq col vw qs) (hb : Below W.heap.size W W') : Rel W' b0 g gq col vw qs := by
  obtain ⟨⟨vv, h1, h2⟩, ⟨cs, h3, h4, h5⟩, h6⟩ := h
  refine ⟨⟨vv, blk_below h1 hb, Kd.S_below h2 hb⟩, ⟨cs, blk_below h3 hb, h4, fun i hi => ?_⟩, h6⟩
  obtain ⟨v, e, r⟩ := h5 i hi
  exact ⟨v, e, Kd.S_below r hb⟩
/-- New blocks are coloured as one wishes. -/
theorem Rel.recol {W : World} {b0 g gq : Nat} {col : Nat → Nat} {vw : List It} {qs : List (List It)} (h : Rel W b0 g gq col vw qs) (c : Nat) : Rel W b0 g gq (fun k => if k < W.heap.size then col k else c) vw qs := by
  obtain ⟨⟨vv, h1, h2⟩, ⟨cs, h3, h4, h5⟩, h6⟩ := h
  refine ⟨⟨vv, h1, Kd.S_mono (Kd.S_bound h2) (fun k hk => by rw [if_pos hk.2.2.1]; exact hk.1)⟩, ⟨cs, h3, h4, fun i hi => ?_⟩, h6⟩
  obtain ⟨v, e, r⟩ := h5 i hi
  exact ⟨v, e, Kd.S_mono (Kd.S_bound r) (fun k hk => by rw [if_pos hk.2.2.1]; exact hk.1)⟩
/-- A store into a block that is none of its. -/
theorem Rel.far {W : World} {b0 g gq : Nat} {col : Nat → Nat} {vw : List It} {qs : List (List It)} (h : Rel W b0 g gq col vw qs) {k t : Nat} {cells : Array Value} (hk : W.heap[k]? = some (.cells cells t (0, 0)))
    (ht : t ≠ 59 ∧ t ≠ 5 ∧ t ≠ 53 ∧ t ≠ 51) (j : Nat) (u : Value) : Rel (W.setCell ⟨k, j, none⟩ u) b0 g gq col vw qs := by
  obtain ⟨⟨vv, h1, h2⟩, ⟨cs, h3, h4, h5⟩, h6⟩ := h
  refine ⟨⟨vv, blk_far h1 (blk_ne h1 hk (Ne.symm ht.2.2.1)) u, Kd.S_set h2 hk (qr_types ht.1 ht.2.1) j u⟩, ⟨cs, blk_far h3 (blk_ne h3 hk (Ne.symm ht.2.2.2)) u, h4, fun i hi => ?_⟩, h6⟩
  obtain ⟨v, e, r⟩ := h5 i hi
  exact ⟨v, e, Kd.S_set r hk (qr_types ht.1 ht.2.1) j u⟩
theorem qr_fr {W W' : World} {b0 c c' p T : Nat} {col : Nat → Nat} {cs : Array Value} {v : Value} {xs : List It} (h : QR W b0 (fun k => col k = c') v xs) (hp : W.heap[p]? = some (.cells cs T (0, 0))) (hT : T ≠ 59 ∧ T ≠ 5) (hF : Fr W W' col c p) (hc : c' ≠ c) : QR W' b0 (fun k => col k = c') v xs :=
  Kd.S_mono (Kd.S_step (Kd.S_types h hp (qr_types hT.1 hT.2)) (fun k hk hlt => hF.2.1 k hlt (by rw [hk.1]; exact hc) hk.2)) (fun _ hk => hk.1)
/-- A method on the i-th queue. -/
theorem Rel.turnQ {W W' : World} {b0 g gq : Nat} {col : Nat → Nat} {vw : List It} {qs : List (List It)} (h : Rel W b0 g gq col vw qs) {i : Nat} (hi : i < qs.length) {cs : Array Value} (hcs : W.heap[gq]? = some (.cells cs 51 (0, 0)))
    {v' : Value} {xs' : List It} (hq : W'.heap[gq]? = some (.cells (cs.setIfInBounds i v') 51 (0, 0))) (hr : QR W' b0 (fun k => col k = i + 1) v' xs') (hF : Fr W W' col (i + 1) gq) : Rel W' b0 g gq col vw (qs.set i xs') := by
  obtain ⟨⟨vv, h1, h2⟩, ⟨cs0, h3, h4, h5⟩, h6⟩ := h
  have ecs : cs0 = cs := by
    rw [hcs] at h3
    injection h3 with h3
    injection h3 with h3
    exact h3.symm
  subst ecs
  have hT : (51 : Nat) ≠ 59 ∧ (51 : Nat) ≠ 5 := by decide
  refine ⟨⟨vv, ?_, qr_fr h2 h3 hT hF (by omega)⟩, ⟨_, hq, by simp [h4], fun m hm => ?_⟩, h6⟩
  · rw [List.length_set]
    exact hF.2.2 g _ _ _ h1 (by decide) (blk_ne h1 h3 (by decide))
  · rw [List.length_set] at hm
    by_cases hmi : m = i
    · subst hmi
      exact ⟨v', by rw [Array.getElem?_setIfInBounds_self_of_lt (by omega)], by rw [List.getElem_set_self]; exact hr⟩
    · obtain ⟨v, e, r⟩ := h5 m hm
      refine ⟨v, ?_, ?_⟩
      · rw [Array.getElem?_setIfInBounds_ne (Ne.symm hmi)]
        exact e
      · rw [List.getElem_set_ne (Ne.symm hmi)]
        exact qr_fr r h3 hT hF (by omega)
/-- A method on what it saw. -/
theorem Rel.turnV {W W' : World} {b0 g gq : Nat} {col : Nat → Nat} {vw : List It} {qs : List (List It)} (h : Rel W b0 g gq col vw qs) {cs : Array Value} (hcs : W.heap[g]? = some (.cells cs 53 (0, 0)))
    {v' : Value} {xs' : List It} (hq : W'.heap[g]? = some (.cells (cs.setIfInBounds 1 v') 53 (0, 0))) (hr : QR W' b0 (fun k => col k = 0) v' xs') (hF : Fr W W' col 0 g) : Rel W' b0 g gq col xs' qs := by
  obtain ⟨⟨vv, h1, h2⟩, ⟨cs0, h3, h4, h5⟩, h6⟩ := h
  have hT : (53 : Nat) ≠ 59 ∧ (53 : Nat) ≠ 5 := by decide
  rw [h1] at hcs
  injection hcs with hcs
  injection hcs with hcs
  subst hcs
  refine ⟨⟨v', hq, hr⟩, ⟨cs0, hF.2.2 gq _ _ _ h3 (by decide) (Ne.symm (blk_ne h1 h3 (by decide))), h4, fun m hm => ?_⟩, h6⟩
  obtain ⟨v, e, r⟩ := h5 m hm
  exact ⟨v, e, qr_fr r h1 hT hF (by omega)⟩
/-- What a relay's method leaves: blocks coloured 9 and up are another's; old blocks keep their colours. -/
def Left (w w' : World) (col col' : Nat → Nat) : Prop := w.heap.size ≤ w'.heap.size ∧ (∀ k, k < w.heap.size → col' k = col k) ∧ ∀ k, k < w.heap.size → 9 ≤ col k → w'.heap[k]? = w.heap[k]?
theorem Left.refl (w : World) (col : Nat → Nat) : Left w w col col := ⟨Nat.le_refl _, fun _ _ => rfl, fun _ _ _ => rfl⟩
theorem Left.trans {a b c : World} {x y z : Nat → Nat} (h : Left a b x y) (k : Left b c y z) : Left a c x z := by
  refine ⟨Nat.le_trans h.1 k.1, fun i hi => (k.2.1 i (Nat.lt_of_lt_of_le hi h.1)).trans (h.2.1 i hi), fun i hi h9 => ?_⟩
  rw [k.2.2 i (Nat.lt_of_lt_of_le hi h.1) (by rw [h.2.1 i hi]; exact h9)]
  exact h.2.2 i hi h9
theorem Left.below {w w' : World} (col : Nat → Nat) (h : Below w.heap.size w w') : Left w w' col col := ⟨h.size, fun _ _ => rfl, fun k hk _ => h.block k hk⟩
theorem Left.recol (w : World) (col : Nat → Nat) (c : Nat) : Left w w col (fun k => if k < w.heap.size then col k else c) := ⟨Nat.le_refl _, fun _ hk => if_pos hk, fun _ _ _ => rfl⟩
theorem Fr.left {w w' : World} {col : Nat → Nat} {c p : Nat} (h : Fr w w' col c p) (hc : c < 9) (hp : col p < 9) : Left w w' col col :=
  ⟨h.1, fun _ _ => rfl, fun k hk h9 => h.2.1 k hk (by omega) (by rintro rfl; omega)⟩
theorem Left.lo {w w' : World} {x y : Nat → Nat} (h : Left w w' x y) {k : Nat} (hk : k < w.heap.size) (h9 : x k < 9) : y k < 9 := by rw [h.2.1 k hk]; exact h9
theorem Rel.lt {W : World} {b0 g gq : Nat} {col : Nat → Nat} {vw : List It} {qs : List (List It)} (h : Rel W b0 g gq col vw qs) : g < W.heap.size ∧ gq < W.heap.size := by
  obtain ⟨⟨vv, h1, h2⟩, ⟨cs, h3, h4, h5⟩, h6⟩ := h
  exact ⟨blk_lt h1, blk_lt h3⟩
theorem Left.set {w w1 : World} {x y : Nat → Nat} (h : Left w w1 x y) {k : Nat} (hk : w.heap.size ≤ k ∨ x k < 9) (j : Nat) (u : Value) : Left w (w1.setCell ⟨k, j, none⟩ u) x y := by
  refine ⟨Nat.le_trans h.1 ((KeepBut.refl w1 k none).set_ j _).1, h.2.1, fun i hi h9 => ?_⟩
  rw [Below.heap_setCell _ _ _ _ (by rintro rfl; omega)]
  exact h.2.2 i hi h9
end Go.Proofs.Yteeddalalfemmaa.K

namespace Go.Proofs.Yteeddalalfemmaa.K
open Go.RowKit Go.Proofs.YteeddalalfemmaaW.PrintWords Go.Proofs.YteeddalalfemmaaW.PrintLast Go.Proofs.YteeddalalfemmaaW.PrintMore
set_option linter.unusedVariables false
set_option linter.unusedSimpArgs false

theorem infoQ : (Try.prog.info? 51).map (fun i => (i.zero, i.size, i.bytes)) = some (some (.agg #[.slice none 0 0]), 1, 24) := by kernel_rfl
set_option maxRecDepth 100000 in
/-- 'make([]queue, n)'. -/
theorem make_queues {w : World} {ops : Array Oper} {rest : List Oper} {o : Oper} {a : Act} {Q : Exit → Act → World → Prop} (hg : o.guard = none) (l c : Operand) (hop : o.op = Op.makeSlice 48 l c)
    (n : Nat) (hl : a.eval l = .int .i64 n) (hc : a.eval c = .int .i64 n) (hn : n ≤ 1000)
    (hK : ∀ g w', g = w.heap.size → w'.heap[g]? = some (.cells (List.replicate n (.slice none 0 0)).toArray 51 (0, 0)) → Below w.heap.size w w' → wpList Try.prog ops Q rest (a.put o.dst (.slice (some ⟨g, 0, none⟩) n n)) w') :
    wpList Try.prog ops Q (o :: rest) a w := by
  obtain ⟨i, h2, h3, h4, h5⟩ := info_parts infoQ
  refine wpList_plain hg fun K hK' => ?_
  have hr := run_make (P := Try.prog) w 48 51 i (.agg #[.slice none 0 0]) Try.underlying48 h2 h3 .i64 .i64 n n (by omega) (by omega) (by rw [h5]; omega) (by omega)
  unfold Oper.wp
  simp [execOp, hop, hl, hc, hr, Result.andThen]
  refine hK' _ _ (hK _ _ rfl ?_ ((Below.refl _ _).alloc (Nat.le_refl _) _))
  rw [heap_alloc_new, h4]
  congr 2
  apply Array.toList_inj.1
  rw [Nat.mul_one, show (Value.agg #[.slice none 0 0]).cells = #[.slice none 0 0] from rfl, toList_madeCells_one]

set_option maxHeartbeats 800000 in
theorem rnew_ok (n : Nat) (w0 w : World) (hB : Below w0.heap.size w0 w) (h1 : 1 ≤ n) (h8 : n ≤ 8) :
    Calls Try.prog 6 #[.int .i64 n] w fun e w' => ∃ g gq, e = .returned (.tuple #[.pointer (some ⟨g, 0, none⟩), .int .i64 0]) ∧ Rel w' w0.heap.size g gq (fun _ => 0) [] (List.replicate n []) ∧ Below w0.heap.size w0 w' ∧ Below w.heap.size w w' := by
  have HB := Aside0.mk hB
  have HW := Aside0.mk (Below.refl w.heap.size w)
  have h1' : (1 : Int) ≤ n := by omega
  have h8' : (n : Int) ≤ 8 := by omega
  have hd1 : decide ((n : Int) < 1) = false := decide_eq_false (by omega)
  have hd8 : decide ((8 : Int) < n) = false := decide_eq_false (by omega)
  have H8 := Aside0.mk h8
  clear hB h1 h8
  go_enter Try.func6, Try.ntmps6
  go_wp2_with (first
    | ((with_reducible refine gate_dst (N := 11) rfl ?_); go_must ((refine make_queues rfl _ _ rfl n rfl rfl (by have := H8.out; omega) ?_; intro gq w11 hge hbk hb; have HGQ : Aside0 (w.heap.size ≤ gq) := ⟨by rw [hge]; exact HW.out.size⟩; have HK := Aside0.mk hbk; replace HW := Aside0.mk (below_step HW.out hb); clear hge hbk hb))))
  have hb : Below w.heap.size w (w11.alloc (.cells #[.slice (some ⟨gq, 0, none⟩) n n, .slice none 0 0] 53)) := below_alloc HW.out _
  refine bodyPost_ret (v := .tuple #[.pointer (some ⟨w11.heap.size, 0, none⟩), .int .i64 0]) (by simp [results, Try.results6, go_sem]) rfl ?_
  refine ⟨_, gq, rfl, ⟨⟨_, by simpa using blk_new w11 (.cells #[.slice (some ⟨gq, 0, none⟩) n n, .slice none 0 0] 53), Kd.S_nil _ _ _ _ _⟩, ⟨_, blk_alloc HK.out _, by simp, fun i hi => ⟨.slice none 0 0, by simp at hi; simp [hi], ?_⟩⟩, Nat.le_trans HB.out.size (Nat.le_trans HW.out.size (Nat.le_refl _)), Nat.le_trans HB.out.size HGQ.out⟩, HB.out.trans (hb.mono HB.out.size), hb⟩
  simp only [List.getElem_replicate]
  exact Kd.S_nil _ _ _ _ _

set_option maxHeartbeats 800000 in
theorem of_in (g gq n i : Nat) (vv : Value) (w : World) (hg : w.heap[g]? = some (.cells #[.slice (some ⟨gq, 0, none⟩) n n, vv] 53 (0, 0))) (hi : i < n) :
    Calls Try.prog 30 #[.pointer (some ⟨g, 0, none⟩), .int .i64 i] w fun e w' => e = .returned (.pointer (some ⟨gq, i, none⟩)) ∧ Drawn0 w w' := by
  have c0 : w.cell? ⟨g, 0, none⟩ = some (.slice (some ⟨gq, 0, none⟩) n n) := (blk_cell hg 0).trans rfl
  have h0 : (0 : Int) ≤ i := by omega
  have h1 : (i : Int) < n := by omega
  have hd0 : decide ((i : Int) < 0) = false := decide_eq_false (by omega)
  have hd1 : decide ((n : Int) ≤ i) = false := decide_eq_false (by omega)
  clear hg
  go_enter Try.func30, Try.ntmps30
  go_wp2
  go_ret
  exact ⟨rfl, by repeat (first | exact Drawn0.refl _ | apply Drawn0.step)⟩

set_option maxHeartbeats 800000 in
theorem waits_in (g gq i : Nat) (col : Nat → Nat) (b0 : Nat) (vw : List It) (qs : List (List It)) (w : World) (hR : Rel w b0 g gq col vw qs) (hi : i < qs.length) :
    Calls Try.prog 11 #[.pointer (some ⟨g, 0, none⟩), .int .i64 i] w fun e w' => e = .returned (.int .i64 qs[i].length) ∧ Drawn0 w w' := by
  obtain ⟨⟨vv, h1, h2⟩, ⟨cs, h3, h4, h5⟩, h6⟩ := hR
  obtain ⟨v, hv, hr⟩ := h5 i hi
  obtain ⟨A, c, rfl, hc, hC⟩ := Kd.S_reads hr
  have c0 : w.cell? ⟨gq, i, none⟩ = some (.slice A qs[i].length c) := (blk_cell h3 i).trans hv
  have H1 := Aside0.mk h1
  clear h1 h2 h3 h5 h6 hr hC hv
  generalize qs[i].length = m at c0 hc ⊢
  go_enter Try.func11, Try.ntmps11
  go_wp2_with (first
    | ((with_reducible refine gate_dst (N := 8) rfl ?_); go_must (((try (refine gate_guard (by rfl) ?_; dsimp only)); refine goesL_ (some 8) rfl rfl Try.func30 (by kernel_rfl) rfl #[.pointer (some ⟨g, 0, none⟩), .int .i64 i] rfl ?hA ?_; (case hA => ((try simp only [List.map_toArray, List.map_cons, List.map_nil]); first | done | rfl)); refine (of_in g gq _ i vv _ H1.out hi).mono ?_; rintro e w8 ⟨rfl, ⟨m8, rfl⟩⟩; refine ⟨_, rfl, ?_⟩; skip))))
  go_ret
  exact ⟨rfl, by repeat (first | exact Drawn0.refl _ | apply Drawn0.step)⟩
end Go.Proofs.Yteeddalalfemmaa.K

namespace Go.Proofs.Yteeddalalfemmaa.K
open Go.RowKit Go.Proofs.YteeddalalfemmaaW.PrintWords Go.Proofs.YteeddalalfemmaaW.PrintLast Go.Proofs.YteeddalalfemmaaW.PrintMore
set_option linter.unusedVariables false
set_option linter.unusedSimpArgs false

/-- Put to all but the i-th that stand ahead of j. -/
def putTo (j i : Nat) (x : It) (qs : List (List It)) : List (List It) := qs.mapIdx (fun m q => if m < j ∧ m ≠ i then q ++ [x] else q)
theorem putTo_len (j i : Nat) (x : It) (qs : List (List It)) : (putTo j i x qs).length = qs.length := by simp [putTo]
theorem putTo_get (j i : Nat) (x : It) (qs : List (List It)) (m : Nat) (h : m < (putTo j i x qs).length) (h' : m < qs.length) : (putTo j i x qs)[m] = if m < j ∧ m ≠ i then qs[m] ++ [x] else qs[m] := by simp [putTo]
theorem putTo_zero (i : Nat) (x : It) (qs : List (List It)) : putTo 0 i x qs = qs := by
  apply List.ext_getElem (putTo_len _ _ _ _)
  intro m h1 h2
  rw [putTo_get _ _ _ _ _ h1 h2, if_neg (by omega)]
theorem putTo_self (i : Nat) (x : It) (qs : List (List It)) : putTo (i + 1) i x qs = putTo i i x qs := by
  apply List.ext_getElem (by rw [putTo_len, putTo_len])
  intro m h1 h2
  have h3 : m < qs.length := by rwa [putTo_len] at h1
  rw [putTo_get _ _ _ _ _ h1 h3, putTo_get _ _ _ _ _ h2 h3]
  congr 1
  apply propext
  omega
theorem putTo_step {j i : Nat} {x : It} {qs : List (List It)} (hj : j < (putTo j i x qs).length) (hji : j ≠ i) : (putTo j i x qs).set j ((putTo j i x qs)[j] ++ [x]) = putTo (j + 1) i x qs := by
  apply List.ext_getElem (by rw [List.length_set, putTo_len, putTo_len])
  intro m h1 h2
  have h3 : m < qs.length := by rwa [putTo_len] at h2
  rw [putTo_get _ _ _ _ _ h2 h3]
  by_cases hm : m = j
  · subst hm
    rw [List.getElem_set_self, putTo_get _ _ _ _ _ hj h3, if_neg (by omega), if_pos ⟨by omega, hji⟩]
  · rw [List.getElem_set_ne (Ne.symm hm), putTo_get _ _ _ _ _ (by rw [putTo_len]; exact h3) h3]
    congr 1
    apply propext
    omega

theorem Rel.recol' {W : World} {b0 g gq : Nat} {col : Nat → Nat} {vw : List It} {qs : List (List It)} (h : Rel W b0 g gq col vw qs) (c : Nat) : ∃ col', (∀ k, W.heap.size ≤ k → col' k = c) ∧ Rel W b0 g gq col' vw qs ∧ Left W W col col' :=
  ⟨_, fun k hk => if_neg (by omega), h.recol c, Left.recol W col c⟩
theorem Rel.drewN {W : World} {b0 g gq : Nat} {col : Nat → Nat} {vw : List It} {qs : List (List It)} (h : Rel W b0 g gq col vw qs) (m : Nat) : Rel (W.drewN m) b0 g gq col vw qs := h.below (pw_below_drewN (Below.refl _ _) m)

set_option maxRecDepth 100000 in
set_option maxHeartbeats 8000000 in
theorem rput_ok (g gq i : Nat) (col : Nat → Nat) (vw : List It) (qs : List (List It)) (vb : Value) (l : List Int) (w0 w : World) (hR : Rel w w0.heap.size g gq col vw qs) (hi : i < qs.length) (hn : qs.length ≤ 8)
    (hb : ∀ W, Below w0.heap.size w0 W → FrB w W → Rd W vb l) (hl : l.length ≤ 4000) (hv : vw.length < 5000) (hq : ∀ q ∈ qs, q.length ≤ 90000) (hlo : col g < 9 ∧ col gq < 9) (hB : Below w0.heap.size w0 w) :
    Calls Try.prog 12 #[.pointer (some ⟨g, 0, none⟩), .int .i64 i, vb] w fun e w' => e = .returned (.int .i64 0) ∧
      (∃ col', Rel w' w0.heap.size g gq col' (vw ++ [⟨l, false⟩]) (putTo qs.length i ⟨l, false⟩ qs) ∧ Left w w' col col') ∧ Below w0.heap.size w0 w' ∧ FrB w w' := by
  obtain ⟨cA, hcol, hR, hLA⟩ := hR.recol' 0
  have hltA := hR.lt
  have HLO := Aside0.mk hlo
  have HLT := Aside0.mk hltA
  have HLA := Aside0.mk hLA
  clear hlo hltA hLA
  have HCol := Aside0.mk hcol
  have HR := Aside0.mk hR
  obtain ⟨⟨vv, h1, h2⟩, hqb, hge⟩ := hR
  obtain ⟨Av, cv, rfl, hcv, hCv⟩ := Kd.S_reads h2
  obtain ⟨A2, c2, rfl, hc2, hC2⟩ := hb w hB (fun _ _ _ h => h)
  have Hb := Aside0.mk hb
  have HB := Aside0.mk hB
  have HQ := Aside0.mk hq
  have H1 := Aside0.mk h1
  have H2 := Aside0.mk h2
  have HL := Aside0.mk hl
  have HV := Aside0.mk hv
  obtain ⟨n, hnn⟩ : ∃ n, qs.length = n := ⟨_, rfl⟩
  obtain ⟨nv, hnv⟩ : ∃ n, vw.length = n := ⟨_, rfl⟩
  have HNN := Aside0.mk hnn
  have HNV := Aside0.mk hnv
  rw [hnn] at hi hn H1 ⊢
  rw [hnv] at hv H1 hcv H2
  have k1 : w.cell? ⟨g, 1, none⟩ = some (.slice Av nv cv) := (blk_cell H1.out 1).trans rfl
  have hi1 : (i : Int) < n := by omega
  have hl1 : decide ((4000 : Int) < l.length) = false := decide_eq_false (by omega)
  have hv1 : decide ((5000 : Int) ≤ nv) = false := decide_eq_false (by omega)
  have HF := Aside0.mk (show FrB w w from fun _ _ _ h => h)
  clear hb hB hq h1 h2 hqb hge hl hCv hC2 hnn hnv hcol
  go_enter Try.func12, Try.ntmps12
  go_wp2_with (first
    | ((with_reducible refine gate_dst (N := 14) rfl ?_); go_must (((try (refine gate_guard (by rfl) ?_; dsimp only)); refine goesL_ (some 14) rfl rfl Try.func30 (by kernel_rfl) rfl #[.pointer (some ⟨g, 0, none⟩), .int .i64 i] rfl ?hA ?_; (case hA => ((try simp only [List.map_toArray, List.map_cons, List.map_nil]); first | done | rfl)); refine (of_in g gq n i _ _ H1.out hi).mono ?_; rintro e w14 ⟨rfl, ⟨m14, rfl⟩⟩; refine ⟨_, rfl, ?_⟩; skip)))
    | (go_at_call 31; go_must ((refine (qput_calls g 1 53 0 cA _ _ (.slice A2 l.length c2) l vw w0 (w.drewN m14) (by exact H1.out) rfl (by decide) (by exact Kd.S_drewN H2.out m14) (Hb.out (w.drewN m14) (pw_below_drewN HB.out m14) (fun _ _ _ h => h)) (fun k hk => HCol.out k hk) (pw_below_drewN HB.out m14) HR.out.ge.1 (by have := HV.out; omega) (by have := HL.out; omega)).mono ?_; rintro e w33 ⟨rfl, ⟨v33, hb33, hr33⟩, hB33, hF33⟩; have hR33 := (HR.out.drewN m14).turnV (by exact H1.out) hb33 hr33 hF33; have HL33 : Aside0 (Left w w33 col cA) := ⟨(HLA.out.trans (Left.below cA (pw_below_drewN (Below.refl _ _) m14))).trans (hF33.left (by decide) (HLA.out.lo HLT.out.1 HLO.out.1))⟩; have k33 : w33.cell? ⟨g, 0, none⟩ = some (.slice (some ⟨gq, 0, none⟩) n n) := (blk_cell hb33 0).trans rfl; have HR33 := Aside0.mk hR33; have HF33 : Aside0 (FrB w w33) := ⟨hF33.bytes (by exact H1.out) (by decide)⟩; have HB33 := Aside0.mk hB33; clear hb33 hr33 hB33 hF33 hR33))))
  clear HF HB
  have HF := HF33
  have HB := HB33
  go_loopg [39] n (fun g39 v39 wr => ∃ (j : Nat) (cJ : Nat → Nat), g39 = n - j ∧ v39 = .int .i64 j ∧ j ≤ n ∧ Aside0 (Rel wr w0.heap.size g gq cJ (vw ++ [⟨l, false⟩]) (putTo j i ⟨l, false⟩ qs)) ∧ Aside0 (Below w0.heap.size w0 wr) ∧ Aside0 (FrB w wr) ∧ Aside0 (Left w wr col cJ))
  case atStart => exact ⟨0, cA, by simp, rfl, Nat.zero_le _, ⟨by rw [putTo_zero]; exact HR33.out⟩, HB33, HF33, HL33⟩
  case round =>
    clear HF HB HF33 HB33 HR33 HL33 k33
    obtain ⟨j, colj, rfl, rfl, hj, HRj, HB, HF, HLj⟩ := hrel
    obtain ⟨v1, g1, _⟩ := HRj.out.blk
    rw [putTo_len, HNN.out] at g1
    have k0 : wr.cell? ⟨g, 0, none⟩ = some (.slice (some ⟨gq, 0, none⟩) n n) := (blk_cell g1 0).trans rfl
    clear g1
    by_cases hjn : j < n
    · have hjn2 : (j : Int) < n := by omega
      have hj0 : (0 : Int) ≤ j := by omega
      by_cases hji : j = i
      · subst hji
        go_wp2
        go_roundg (n - (j + 1))
        case measure => omega
        case rel => exact ⟨j + 1, colj, rfl, by go_num, by omega, ⟨by rw [putTo_self]; exact HRj.out⟩, HB, HF, HLj⟩
      · have hne : ((j : Int) == i) = false := by simp; omega
        have hne2 : ¬ (j : Int) = i := by omega
        obtain ⟨col', hcol', hR', hL'⟩ := HRj.out.recol' (j + 1)
        have HL' := Aside0.mk (HLj.out.trans hL')
        clear hL'
        have hjl : j < (putTo j i ⟨l, false⟩ qs).length := by rw [putTo_len, HNN.out]; exact hjn
        obtain ⟨cs, h3, h4, h5⟩ := hR'.qb
        obtain ⟨v, e, r⟩ := h5 j hjl
        have hlen : (putTo j i ⟨l, false⟩ qs)[j].length ≤ 100000 := by
          have h7 : j < qs.length := by rw [HNN.out]; exact hjn
          rw [putTo_get _ _ _ _ _ hjl h7, if_neg (by omega)]
          have := HQ.out _ (List.getElem_mem h7)
          omega
        have HRR := Aside0.mk hR'
        have HCj := Aside0.mk hcol'
        have H3 := Aside0.mk h3
        have HE := Aside0.mk e
        have Hr := Aside0.mk r
        have HLen := Aside0.mk hlen
        have HJL := Aside0.mk hjl
        clear hcol' hR' h3 h4 h5 e r hlen
        go_wp2_with (first
          | (go_at_call 31; go_must ((refine (qput_calls gq j 51 (j + 1) col' cs v (.slice A2 l.length c2) l _ w0 wr H3.out HE.out (by decide) Hr.out (Hb.out wr HB.out HF.out) HCj.out HB.out HRR.out.ge.2 HLen.out (by have := HL.out; omega)).mono ?_; rintro e w52 ⟨rfl, ⟨v52, hb52, hr52⟩, hB52, hF52⟩; have HR52 := Aside0.mk (HRR.out.turnQ HJL.out H3.out hb52 hr52 hF52); have HL52 : Aside0 (Left w w52 col col') := ⟨HL'.out.trans (hF52.left (by omega) (HL'.out.lo HLT.out.2 HLO.out.2))⟩; have HF52 : Aside0 (FrB w w52) := ⟨HF.out.trans (hF52.bytes H3.out (by decide))⟩; have HB52 := Aside0.mk hB52; clear hb52 hr52 hB52 hF52))))
        go_roundg (n - (j + 1))
        case measure => omega
        case rel => exact ⟨j + 1, col', rfl, by go_num, by omega, ⟨by have := HR52.out; rw [putTo_step hjl hji] at this; exact this⟩, HB52, HF52, HL52⟩
    · obtain rfl : j = n := by omega
      go_wp2
      go_ret
      exact ⟨rfl, ⟨colj, HRj.out, HLj.out⟩, HB.out, HF.out⟩
end Go.Proofs.Yteeddalalfemmaa.K

namespace Go.Proofs.Yteeddalalfemmaa.K
open Go.RowKit Go.Proofs.YteeddalalfemmaaW.PrintWords Go.Proofs.YteeddalalfemmaaW.PrintLast Go.Proofs.YteeddalalfemmaaW.PrintMore
set_option linter.unusedVariables false
set_option linter.unusedSimpArgs false

theorem FrB.set {w w1 : World} (h : FrB w w1) {k T : Nat} {cs : Array Value} (hk : w1.heap[k]? = some (.cells cs T (0, 0))) (hT : T ≠ 5) (j : Nat) (u : Value) : FrB w (w1.setCell ⟨k, j, none⟩ u) := by
  intro m cells f hm
  have h1 := h m cells f hm
  have hmk : m ≠ k := by
    rintro rfl
    rw [hk] at h1
    injection h1 with h1
    injection h1 with _ h1
    exact hT h1
  rw [Below.heap_setCell _ _ _ _ hmk]
  exact h1

set_option maxRecDepth 100000 in
set_option maxHeartbeats 4000000 in
theorem next1_calls (g gq i bx : Nat) (col : Nat → Nat) (vw : List It) (qs : List (List It)) (u : Value) (w0 w : World) (hR : Rel w w0.heap.size g gq col vw qs) (hi : i < qs.length) (hne : 0 < qs[i].length) (hq : qs[i].length ≤ 100000) (hlo : col gq < 9) (hi8 : i < 8)
    (hbx : w.heap[bx]? = some (.cells #[u] 33 (0, 0))) (hbg : w0.heap.size ≤ bx) (hcx : col bx < 9) (hB : Below w0.heap.size w0 w) :
    Calls Try.prog 33 #[.pointer (some ⟨gq, i, none⟩), .pointer (some ⟨bx, 0, none⟩)] w fun e w' => e = .returned (.bool true) ∧
      ∃ vb, Kd.R (Kd.int .u8) 5 w' w0.heap.size (fun _ => True) vb qs[i][0].f0 ∧ w'.heap[bx]? = some (.cells #[vb] 33 (0, 0)) ∧ (Rel w' w0.heap.size g gq col vw (qs.set i (qs[i].eraseIdx 0)) ∧ Left w w' col col) ∧ Below w0.heap.size w0 w' ∧ FrB w w' := by
  obtain ⟨cs, h3, h4, h5⟩ := hR.qb
  obtain ⟨v, e, r⟩ := h5 i hi
  have HR := Aside0.mk hR
  have HI := Aside0.mk hi
  have HNE := Aside0.mk hne
  have HQ := Aside0.mk hq
  have HBX := Aside0.mk hbx
  have HBG := Aside0.mk hbg
  have HB := Aside0.mk hB
  have H3 := Aside0.mk h3
  have HE := Aside0.mk e
  have Hr := Aside0.mk r
  have hgb : bx ≠ gq := blk_ne hbx h3 (by decide)
  have HLO := Aside0.mk hlo
  have HCX := Aside0.mk hcx
  clear h3 h4 h5 e r hbg hB
  go_enter Try.func33, Try.ntmps33
  go_wp2_with (first
    | (go_at_call 34; go_must ((refine (qcut_calls gq i 51 (i + 1) col cs v 0 qs[i] w0 w H3.out HE.out (by decide) Hr.out HNE.out HB.out HR.out.ge.2 HQ.out).mono ?_; rintro e w5 ⟨vb, v', rfl, ho, hb5, hr5, hB5, hF5⟩; obtain ⟨Ab, cb, rfl, hcb, hCb⟩ := Kd.R_reads ho; clear hcb hCb; have HO := Aside0.mk ho; have HR5 := Aside0.mk (HR.out.turnQ HI.out H3.out hb5 hr5 hF5); have HF5 : Aside0 (FrB w w5) := ⟨hF5.bytes H3.out (by decide)⟩; have HL5 : Aside0 (Left w w5 col col) := ⟨hF5.left (by omega) HLO.out⟩; have hx5 := hF5.2.2 bx _ _ _ HBX.out (by decide) hgb; have f5 := blk_frozen hx5 0; have c5 := (blk_cell hx5 0).trans rfl; have HX5 := Aside0.mk hx5; have HB5 := Aside0.mk hB5; clear ho hb5 hr5 hB5 hF5 hx5))))
  go_ret
  refine ⟨rfl, _, Kd.R_set HO.out HX5.out (by decide) 0 _, by simpa using blk_set HX5.out 0 (.slice Ab qs[i][0].f0.length cb), ⟨HR5.out.far HX5.out (by decide) 0 _, HL5.out.set (.inr HCX.out) 0 _⟩, HB5.out.setCell HBG.out _, ?_⟩
  intro k cells f hk
  have hkb : k ≠ bx := by
    rintro rfl
    rw [HBX.out] at hk
    injection hk with hk
    injection hk with _ hk
    exact absurd hk (by decide)
  rw [Below.heap_setCell _ _ _ _ hkb]
  exact HF5.out k cells f hk

set_option maxRecDepth 100000 in
set_option maxHeartbeats 4000000 in
theorem rdo_next (g gq i bx : Nat) (col : Nat → Nat) (vw : List It) (qs : List (List It)) (u : Value) (w0 w : World) (hR : Rel w w0.heap.size g gq col vw qs) (hi : i < qs.length) (hne : 0 < qs[i].length) (hq : qs[i].length ≤ 100000) (hlo : col gq < 9) (hi8 : i < 8)
    (hbx : w.heap[bx]? = some (.cells #[u] 33 (0, 0))) (hbg : w0.heap.size ≤ bx) (hcx : col bx < 9) (hB : Below w0.heap.size w0 w) :
    Calls Try.prog 32 #[.pointer (some ⟨g, 0, none⟩), .int .i64 i, .int .i64 0, .func (.func 33) #[] #[.pointer (some ⟨bx, 0, none⟩)]] w fun e w' => e = .returned (.bool true) ∧
      ∃ vb, Kd.R (Kd.int .u8) 5 w' w0.heap.size (fun _ => True) vb qs[i][0].f0 ∧ w'.heap[bx]? = some (.cells #[vb] 33 (0, 0)) ∧ (Rel w' w0.heap.size g gq col vw (qs.set i (qs[i].eraseIdx 0)) ∧ Left w w' col col) ∧ Below w0.heap.size w0 w' ∧ FrB w w' := by
  obtain ⟨vv, h1, _⟩ := hR.blk
  obtain ⟨cs, h3, h4, h5⟩ := hR.qb
  obtain ⟨v, e, r⟩ := h5 i hi
  obtain ⟨A, c, rfl, hc, hC⟩ := Kd.S_reads r
  have c0 : w.cell? ⟨gq, i, none⟩ = some (.slice A qs[i].length c) := (blk_cell h3 i).trans e
  have C0 := Aside0.mk c0
  have HR := Aside0.mk hR
  have HI := Aside0.mk hi
  have HNE := Aside0.mk hne
  have HQ := Aside0.mk hq
  have HBX := Aside0.mk hbx
  have HBG := Aside0.mk hbg
  have HB := Aside0.mk hB
  have H1 := Aside0.mk h1
  have HLO := Aside0.mk hlo
  have HCX := Aside0.mk hcx
  have HD : Aside0 (decide ((0 : Int) ≤ 0 ∧ (0 : Int) < qs[i].length) = true) := ⟨decide_eq_true ⟨by omega, by omega⟩⟩
  clear h1 h3 h4 h5 e r hbg hB hC c0 hbx hR hc
  go_enter Try.func32, Try.ntmps32
  go_wp2_with (first
    | ((with_reducible refine gate_dst (N := 12) rfl ?_); go_must (((try (refine gate_guard (by rfl) ?_; dsimp only)); refine goesL_ (some 12) rfl rfl Try.func30 (by kernel_rfl) rfl #[.pointer (some ⟨g, 0, none⟩), .int .i64 i] rfl ?hA ?_; (case hA => ((try simp only [List.map_toArray, List.map_cons, List.map_nil]); first | done | rfl)); refine (of_in g gq _ i vv _ H1.out HI.out).mono ?_; rintro e w12 ⟨rfl, ⟨m12, rfl⟩⟩; refine ⟨_, rfl, ?_⟩; skip)))
    | ((with_reducible refine gate_dst (N := 18) rfl ?_); go_must (((try (refine gate_guard (by rfl) ?_; dsimp only)); refine goesL_ (some 18) rfl rfl Try.func40 (by kernel_rfl) rfl #[.pointer (some ⟨gq, i, none⟩), .int .i64 0] rfl ?hA ?_; (case hA => ((try simp only [List.map_toArray, List.map_cons, List.map_nil]); first | done | rfl)); refine (qhas_calls gq i _ c A 0 (w.drewN m12) (by exact C0.out)).mono ?_; rintro e w18 ⟨rfl, ⟨m18, rfl⟩⟩; refine ⟨_, rfl, ?_⟩; rw [HD.out])))
    | (go_at_call 33; go_must ((refine (next1_calls g gq i bx col vw qs u w0 (w.drewN (m12 + m18)) (HR.out.drewN (m12 + m18)) HI.out HNE.out HQ.out HLO.out hi8 (by exact HBX.out) HBG.out HCX.out (pw_below_drewN HB.out (m12 + m18))).mono ?_; rintro e w23 ⟨rfl, vb, h1, h2, h3, h4, h5⟩; have K1 := Aside0.mk h1; have K2 := Aside0.mk h2; have K3 := Aside0.mk h3; have K4 := Aside0.mk h4; have K5 : Aside0 (FrB w w23) := ⟨h5⟩; clear h1 h2 h3 h4 h5))))
  go_ret
  exact ⟨rfl, vb, K1.out, K2.out, K3.out, K4.out, K5.out⟩

set_option maxRecDepth 100000 in
set_option maxHeartbeats 4000000 in
theorem rdo_next_none (g gq i : Nat) (bx : Nat) (col : Nat → Nat) (vw : List It) (qs : List (List It)) (b0 : Nat) (w : World) (hR : Rel w b0 g gq col vw qs) (hi : i < qs.length) (hne : qs[i].length = 0) :
    Calls Try.prog 32 #[.pointer (some ⟨g, 0, none⟩), .int .i64 i, .int .i64 0, .func (.func 33) #[] #[.pointer (some ⟨bx, 0, none⟩)]] w fun e w' => e = .returned (.bool false) ∧ Drawn0 w w' := by
  obtain ⟨vv, h1, _⟩ := hR.blk
  obtain ⟨cs, h3, h4, h5⟩ := hR.qb
  obtain ⟨v, e, r⟩ := h5 i hi
  obtain ⟨A, c, rfl, hc, hC⟩ := Kd.S_reads r
  have c0 : w.cell? ⟨gq, i, none⟩ = some (.slice A qs[i].length c) := (blk_cell h3 i).trans e
  have C0 := Aside0.mk c0
  have HI := Aside0.mk hi
  have H1 := Aside0.mk h1
  have HD : Aside0 (decide ((0 : Int) ≤ 0 ∧ (0 : Int) < qs[i].length) = false) := ⟨decide_eq_false (by omega)⟩
  clear h1 h3 h4 h5 e r hC c0 hR hc
  go_enter Try.func32, Try.ntmps32
  go_wp2_with (first
    | ((with_reducible refine gate_dst (N := 12) rfl ?_); go_must (((try (refine gate_guard (by rfl) ?_; dsimp only)); refine goesL_ (some 12) rfl rfl Try.func30 (by kernel_rfl) rfl #[.pointer (some ⟨g, 0, none⟩), .int .i64 i] rfl ?hA ?_; (case hA => ((try simp only [List.map_toArray, List.map_cons, List.map_nil]); first | done | rfl)); refine (of_in g gq _ i vv _ H1.out HI.out).mono ?_; rintro e w12 ⟨rfl, ⟨m12, rfl⟩⟩; refine ⟨_, rfl, ?_⟩; skip)))
    | ((with_reducible refine gate_dst (N := 18) rfl ?_); go_must (((try (refine gate_guard (by rfl) ?_; dsimp only)); refine goesL_ (some 18) rfl rfl Try.func40 (by kernel_rfl) rfl #[.pointer (some ⟨gq, i, none⟩), .int .i64 0] rfl ?hA ?_; (case hA => ((try simp only [List.map_toArray, List.map_cons, List.map_nil]); first | done | rfl)); refine (qhas_calls gq i _ c A 0 (w.drewN m12) (by exact C0.out)).mono ?_; rintro e w18 ⟨rfl, ⟨m18, rfl⟩⟩; refine ⟨_, rfl, ?_⟩; rw [HD.out]))))
  go_ret
  exact ⟨rfl, by repeat (first | exact Drawn0.refl _ | apply Drawn0.step)⟩

set_option maxRecDepth 100000 in
set_option maxHeartbeats 4000000 in
theorem rnext_ok (g gq i : Nat) (col : Nat → Nat) (vw : List It) (qs : List (List It)) (w0 w : World) (hR : Rel w w0.heap.size g gq col vw qs) (hi : i < qs.length) (hne : 0 < qs[i].length) (hq : qs[i].length ≤ 100000) (hlo : col gq < 9) (hi8 : i < 8) (hB : Below w0.heap.size w0 w) :
    Calls Try.prog 13 #[.pointer (some ⟨g, 0, none⟩), .int .i64 i] w fun e w' => ∃ vb, e = .returned (.tuple #[vb, .bool true]) ∧
      Kd.R (Kd.int .u8) 5 w' w0.heap.size (fun _ => True) vb qs[i][0].f0 ∧ (∃ col', Rel w' w0.heap.size g gq col' vw (qs.set i (qs[i].eraseIdx 0)) ∧ Left w w' col col') ∧ Below w0.heap.size w0 w' ∧ FrB w w' := by
  have hltA := hR.lt
  obtain ⟨cA, hcol, hR, hLA⟩ := hR.recol' 0
  have HLO := Aside0.mk (hLA.lo hltA.2 hlo)
  have HLA := Aside0.mk hLA
  have HCA := Aside0.mk (show cA w.heap.size < 9 by rw [hcol _ (Nat.le_refl _)]; decide)
  clear hlo hltA hLA hcol
  have HR := Aside0.mk hR
  have HI := Aside0.mk hi
  have HNE := Aside0.mk hne
  have HQ := Aside0.mk hq
  have HB := Aside0.mk hB
  have hmf : ∀ (fn : Fn) (first cap : Array Value) (w : World), (Instr.makeFunc fn first cap).run Try.prog w = .ok (.func fn first cap) w := fun _ _ _ _ => rfl
  clear hR hB
  go_enter Try.func13, Try.ntmps13
  go_wp2_with (first
    | (go_at_call 32; go_must ((refine (rdo_next g gq i w.heap.size cA vw qs (.slice none 0 0) w0 (w.alloc (.cells #[.slice none 0 0] 33)) (HR.out.below (below_alloc (Below.refl _ _) _)) HI.out HNE.out HQ.out HLO.out hi8 (blk_new w _) HB.out.size HCA.out (below_alloc HB.out _)).mono ?_; rintro e w9 ⟨rfl, vb, h1, h2, h3, h4, h5⟩; obtain ⟨Ab, cb, rfl, hcb, hCb⟩ := Kd.R_reads h1; clear hcb hCb; have c9 := (blk_cell h2 0).trans rfl; have f9 := blk_frozen h2 0; have K1 := Aside0.mk h1; have K2 := Aside0.mk h2; have K3 := Aside0.mk h3; have K4 := Aside0.mk h4; have K5 := Aside0.mk h5; clear h1 h2 h3 h4 h5))))
  have HX : ((w9.setCell ⟨w.heap.size, 0, none⟩ (.slice Ab qs[i][0].f0.length cb))).heap[w.heap.size]? = some (.cells #[.slice Ab qs[i][0].f0.length cb] 33 (0, 0)) := by simpa using blk_set K2.out 0 (.slice Ab qs[i][0].f0.length cb)
  have q0 := (blk_cell HX 0).trans rfl
  obtain ⟨hR', hL'⟩ := K3.out
  exact bodyPost_ret (v := .tuple #[.slice Ab qs[i][0].f0.length cb, .bool true]) (by simp [results, Try.results13, go_sem, q0]) rfl ⟨_, rfl, Kd.R_set K1.out K2.out (by decide) 0 _, ⟨cA, hR'.far K2.out (by decide) 0 _, ((HLA.out.trans (Left.below cA (below_alloc (Below.refl _ _) _))).trans hL').set (.inl (Nat.le_refl _)) 0 _⟩, K4.out.setCell HB.out.size _, ((FrB.below (below_alloc (Below.refl _ _) _)).trans K5.out).set K2.out (by decide) 0 _⟩

set_option maxRecDepth 100000 in
set_option maxHeartbeats 4000000 in
theorem rnext_none (g gq i : Nat) (col : Nat → Nat) (vw : List It) (qs : List (List It)) (b0 : Nat) (w : World) (hR : Rel w b0 g gq col vw qs) (hi : i < qs.length) (hne : qs[i].length = 0) :
    Calls Try.prog 13 #[.pointer (some ⟨g, 0, none⟩), .int .i64 i] w fun e w' => e = .returned (.tuple #[.slice none 0 0, .bool false]) ∧ Below w.heap.size w w' := by
  have HR := Aside0.mk hR
  have HI := Aside0.mk hi
  have HNE := Aside0.mk hne
  have hmf : ∀ (fn : Fn) (first cap : Array Value) (w : World), (Instr.makeFunc fn first cap).run Try.prog w = .ok (.func fn first cap) w := fun _ _ _ _ => rfl
  have HX := Aside0.mk (blk_new w (.cells #[.slice none 0 0] 33 (0, 0)))
  clear hR
  go_enter Try.func13, Try.ntmps13
  go_wp2_with (first
    | (go_at_call 32; go_must ((refine (rdo_next_none g gq i w.heap.size col vw qs b0 (w.alloc (.cells #[.slice none 0 0] 33)) (HR.out.below (below_alloc (Below.refl _ _) _)) HI.out HNE.out).mono ?_; rintro e w9 ⟨rfl, ⟨m9, rfl⟩⟩; skip))))
  have HY : (((w.alloc (.cells #[.slice none 0 0] 33)).drewN m9).setCell ⟨w.heap.size, 0, none⟩ (.slice none 0 0)).heap[w.heap.size]? = some (.cells #[.slice none 0 0] 33 (0, 0)) := by simpa using blk_set (blk_drewN HX.out m9) 0 (.slice none 0 0)
  have q0 := (blk_cell HY 0).trans rfl
  exact bodyPost_ret (v := .tuple #[.slice none 0 0, .bool false]) (by simp [results, Try.results13, go_sem, q0]) rfl ⟨rfl, (pw_below_drewN (below_alloc (Below.refl _ _) _) _).setCell (Nat.le_refl _) _⟩
end Go.Proofs.Yteeddalalfemmaa.K

namespace Go.Proofs.Yteeddalalfemmaa.K
open Go.RowKit Go.Proofs.YteeddalalfemmaaW.PrintWords Go.Proofs.YteeddalalfemmaaW.PrintLast Go.Proofs.YteeddalalfemmaaW.PrintMore
set_option linter.unusedVariables false
set_option linter.unusedSimpArgs false

abbrev BK := Kd.slice 5 (Kd.int .u8)
theorem infoB : (Try.prog.info? 33).map (fun i => (i.zero, i.size, i.bytes)) = some (some (.slice none 0 0), 1, 24) := by kernel_rfl

theorem alloc_le (w : World) (o : Obj) : w.heap.size ≤ (w.alloc o).heap.size := (below_alloc (Below.refl _ _) o).size

set_option maxRecDepth 100000 in
set_option maxHeartbeats 8000000 in
theorem rview_calls (g gq : Nat) (col : Nat → Nat) (vw : List It) (qs : List (List It)) (b0 : Nat) (w : World) (hR : Rel w b0 g gq col vw qs) (hv : vw.length ≤ 5000) (hx : ∀ x ∈ vw, x.f0.length ≤ 100000) :
    Calls Try.prog 10 #[.pointer (some ⟨g, 0, none⟩)] w fun e w' => ∃ v, e = .returned v ∧ Kd.R BK 33 w' w.heap.size (fun _ => True) v (vw.map (·.f0)) ∧ Below w.heap.size w w' := by
  obtain ⟨vv, h1, h2⟩ := hR.blk
  obtain ⟨Av, cv, rfl, hcv, hCv⟩ := Kd.S_reads h2
  have k1 : w.cell? ⟨g, 1, none⟩ = some (.slice Av vw.length cv) := (blk_cell h1 1).trans rfl
  have H2 := Aside0.mk h2
  have HX := Aside0.mk hx
  have HB := Aside0.mk (Below.refl w.heap.size w)
  obtain ⟨n, hn⟩ : ∃ n, vw.length = n := ⟨_, rfl⟩
  have HN := Aside0.mk hn
  rw [hn] at k1 hv hcv H2
  clear h1 h2 hCv hx hR hn
  go_enter Try.func10, Try.ntmps10
  go_wp2
  go_loopg [2, 13] n (fun g2 v2 v13 wr => ∃ k : Nat, g2 = n - k ∧ v13 = .int .i64 k ∧ k ≤ n ∧ Aside0 (Kd.R BK 33 wr w.heap.size (fun _ => True) v2 ((vw.map (·.f0)).take k)) ∧ Aside0 (Below w.heap.size w wr))
  case atStart => exact ⟨0, by simp, rfl, Nat.zero_le _, ⟨Kd.R_nil _ _ _ _ _⟩, HB⟩
  case round =>
    clear HB k1
    obtain ⟨k, rfl, rfl, hk, HO, HB⟩ := hrel
    obtain ⟨ys, hys⟩ : ∃ ys, (vw.map (·.f0)).take k = ys := ⟨_, rfl⟩
    have hyl : ys.length = k := by rw [← hys, List.length_take, List.length_map, HN.out]; omega
    have HYS := Aside0.mk hys
    rw [hys] at HO
    obtain ⟨Ao, co, rfl, hco, hCo⟩ := Kd.R_reads HO.out
    rw [hyl] at HO ⊢
    have HYL := Aside0.mk hyl
    clear hCo hco hys hyl
    by_cases hkn : k < n
    · have hk2 : (k : Int) < n := by omega
      have hk0 : (0 : Int) ≤ k := by omega
      have hkl : k < vw.length := by rw [HN.out]; exact hkn
      obtain ⟨gv, cap, vb, he, _, hc0, hc1, hb⟩ := qr_item (Kd.S_below H2.out HB.out) k hkl
      have hAv : Av = some ⟨gv, 0, none⟩ := by injection he
      subst hAv
      obtain ⟨x, hx⟩ : ∃ x, vw[k] = x := ⟨_, rfl⟩
      rw [hx] at hc1 hb
      have hxl : x.f0.length ≤ 100000 := by rw [← hx]; exact HX.out _ (List.getElem_mem hkl)
      have HXX := Aside0.mk hx
      obtain ⟨Ab, cb, rfl, hcb, hCb⟩ := Kd.R_reads hb
      have HRb : Aside0 (Rd wr (.slice Ab x.f0.length cb) x.f0) := ⟨⟨Ab, cb, rfl, hcb, hCb⟩⟩
      have HXL := Aside0.mk hxl
      clear hb hCb hcb hx hxl he
      go_wp2_with (first
        | (go_at_call 29; go_must ((refine (bclone_calls (.slice Ab x.f0.length cb) x.f0 _ (by exact HRb.out.below (below_alloc (Below.refl _ _) _)) HXL.out).mono ?_; rintro e w20 ⟨v20, rfl, ho, hb⟩; obtain ⟨A20, c20, rfl, hc20, hC20⟩ := ho.rd; clear hC20; have HO20 := Aside0.mk ho; have HS20 := Aside0.mk hb.size; have HB20 : Aside0 (Below w.heap.size w w20) := ⟨below_step (below_alloc HB.out _) hb⟩; have HR20 := Aside0.mk (Kd.R_below (Kd.R_alloc HO.out _) hb); clear ho hb)))
        | ((with_reducible refine gate_builtin (b := .append) (xs := #[.tmp 17, .tmp 21]) rfl ?_); at_builtin; go_must ((refine Kd.R_append BK (w0 := w) w.heap.size rfl (.tmp 17) (.tmp 21) 37 33 (.slice none 0 0) 24 rfl Try.underlying37 infoB rfl (by decide) (by decide) _ ys x.f0 [.slice A20 x.f0.length c20] (fun _ => True) (fun j => wr.heap.size ≤ j) rfl rfl ?hM ?hokp (fun _ _ => trivial) HR20.out HB20.out HB20.out.size ?hl ?_; (case hM => exact Kd.M_row (Kd.R_lower (Kd.R_mono (Kd.R_bound HO20.out) (fun j hj => Nat.le_trans (alloc_le wr _) hj.2.1)) (Nat.le_trans HB.out.size (alloc_le wr _)))); (case hokp => exact fun j hj => ⟨trivial, fun e => by have h1 := Kd.R_lt HO.out j e.symm; omega⟩); (case hl => (have := HYL.out; omega)); intro v22 w22 ho hb hg hat; have HO22 := Aside0.mk ho; have HB22 := Aside0.mk hb; clear ho hb hg hat))))
      go_roundg (n - (k + 1))
      case measure => omega
      case rel => exact ⟨k + 1, rfl, by go_num, by omega, ⟨by
        have e : (vw.map (·.f0)).take (k + 1) = (vw.map (·.f0)).take k ++ [x.f0] := by
          rw [List.take_add_one, List.getElem?_map, List.getElem?_eq_getElem hkl, HXX.out]
          rfl
        rw [e, HYS.out]
        exact HO22.out⟩, HB22⟩
    · obtain rfl : k = n := by omega
      go_wp2
      go_ret
      refine ⟨_, rfl, ?_, HB.out⟩
      have e : (vw.map (·.f0)).take k = vw.map (·.f0) := List.take_of_length_le (by rw [List.length_map, HN.out]; exact Nat.le_refl _)
      have h := HO.out
      rw [← HYS.out, e] at h
      exact h
end Go.Proofs.Yteeddalalfemmaa.K

namespace Go.Proofs.Yteeddalalfemmaa.K
open Go.RowKit Go.Proofs.YteeddalalfemmaaW.PrintWords Go.Proofs.YteeddalalfemmaaW.PrintLast Go.Proofs.YteeddalalfemmaaW.PrintMore
set_option linter.unusedVariables false
set_option linter.unusedSimpArgs false

theorem wrap_up {i : Int} (h0 : 0 ≤ i) (h1 : i < 9223372036854775807) : wrap64 (i + 1) = i + 1 := by unfold wrap64; omega
theorem same_l0 (x : List Int) (hx : x.length ≤ 1000000) : ∀ (d k : Nat) (i : Int), 0 ≤ i → i ≤ x.length → (x.length : Int) - i ≤ d → d < k → X.cachetteref01_Same.l0 k x x i = some true := by
  intro d
  induction d with
  | zero =>
    intro k i h0 h1 h2 h3
    obtain ⟨k, rfl⟩ : ∃ m, k = m + 1 := ⟨k - 1, by omega⟩
    rw [X.cachetteref01_Same.l0, if_neg (by omega)]
  | succ d ih =>
    intro k i h0 h1 h2 h3
    obtain ⟨k, rfl⟩ : ∃ m, k = m + 1 := ⟨k - 1, by omega⟩
    rw [X.cachetteref01_Same.l0]
    by_cases hi : i < x.length
    · rw [if_pos hi, if_pos h0, if_pos hi, if_pos rfl, wrap_up h0 (by omega)]
      exact ih k (i + 1) (by omega) (by omega) (by omega) (by omega)
    · rw [if_neg hi]
theorem same_f (x : List Int) (hx : x.length ≤ 1000000) (k : Nat) (hk : x.length < k) : X.cachetteref01_Same.f k x x = some true := by
  rw [X.cachetteref01_Same.f, if_pos rfl]
  exact same_l0 x hx x.length k 0 (by omega) (by omega) (by omega) hk
theorem lists_l0 (x : List (List Int)) (M : Nat) (hM : M ≤ 1000000) (hx : x.length ≤ 1000000) (hm : ∀ y ∈ x, y.length ≤ M) : ∀ (d k : Nat) (i : Int), 0 ≤ i → i ≤ x.length → (x.length : Int) - i ≤ d → d + M + 1 < k → X.cachetteref10_Lists.l0 k x x i = some true := by
  intro d
  induction d with
  | zero =>
    intro k i h0 h1 h2 h3
    obtain ⟨k, rfl⟩ : ∃ m, k = m + 1 := ⟨k - 1, by omega⟩
    rw [X.cachetteref10_Lists.l0, if_neg (by omega)]
  | succ d ih =>
    intro k i h0 h1 h2 h3
    obtain ⟨k, rfl⟩ : ∃ m, k = m + 1 := ⟨k - 1, by omega⟩
    rw [X.cachetteref10_Lists.l0]
    by_cases hi : i < x.length
    · have hr : (x.getD i.toNat ([] : List Int)).length ≤ M := by
        have hit : i.toNat < x.length := by omega
        rw [List.getD_eq_getElem?_getD, List.getElem?_eq_getElem hit]
        exact hm _ (List.getElem_mem hit)
      have hs := same_f (x.getD i.toNat ([] : List Int)) (by omega) k (by omega)
      rw [if_pos hi, if_pos h0, if_pos hi]
      refine (congrArg (fun o : Option Bool => o.bind _) hs).trans ?_
      simp only [Option.bind_some, if_true]
      rw [wrap_up h0 (by omega)]
      exact ih k (i + 1) (by omega) (by omega) (by omega) (by omega)
    · rw [if_neg hi]
theorem lists_same (A0 A1 : Option Addr) (c0 c1 : Nat) (x : List (List Int)) (w : World) (h0 : Kd.C BK w A0 x.length x) (g0 : x.length ≤ c0) (h1 : Kd.C BK w A1 x.length x) (g1 : x.length ≤ c1) (M : Nat) (hM : M ≤ 1000000) (hx : x.length ≤ 1000000) (hm : ∀ y ∈ x, y.length ≤ M) :
    Calls Try.prog 9 #[.slice A0 x.length c0, .slice A1 x.length c1] w fun e w' => e = .returned (.bool true) ∧ Drawn0 w w' :=
  X.cachetteref10_Lists.calls (x.length + M + 2) A0 c0 x A1 c1 x true w h0 g0 h1 g1 (by
    rw [X.cachetteref10_Lists.f, if_pos rfl]
    exact lists_l0 x M hM hx hm x.length _ 0 (by omega) (by omega) (by omega) (by omega))

theorem rd_block {W : World} {b T : Nat} {f : Nat × Nat} {xs : List Int} (h : W.heap[b]? = some (.cells (nums .u8 xs).toArray T f)) (hm : xs.length ≤ maxLen) : Rd W (.slice (some ⟨b, 0, none⟩) xs.length xs.length) xs := by
  refine ⟨_, _, rfl, Nat.le_refl _, Kd.C_of_reads (d := (0 : Int)) (h1 := fun _ => rfl) ⟨rfl, hm, fun hn => ⟨_, rfl, fun j hj => ?_⟩⟩⟩
  rw [add0, cell_of_row W b j _ T f h]
  simp [nums, List.getElem?_eq_getElem hj, List.getD_eq_getElem?_getD]

set_option maxRecDepth 100000 in
set_option maxHeartbeats 4000000 in
theorem alive22_calls (w : World) :
    Calls Try.prog 5 #[] w fun e w' => e = .returned (.bool true) ∧ Below w.heap.size w w' := by
  have HB := Aside0.mk (Below.refl w.heap.size w)
  have hs97 : strOfNums [97] = ⟨#[97]⟩ := by decide
  have kc := fun (w : World) (C : Array Value) (n c : Nat) => Lib.run_convert_bytes_const (P := Try.prog) w 33 5 C n c Try.underlying33 Try.underlying5
  go_enter Try.func5, Try.ntmps5
  go_wp2_with (first
    | ((with_reducible refine gate_dst (N := 7) rfl ?_); go_must (((try (refine gate_guard (by rfl) ?_; dsimp only)); refine goesL_ (some 7) rfl rfl Try.func6 (by kernel_rfl) rfl #[.int .i64 2] rfl ?hA ?_; (case hA => ((try simp only [List.map_toArray, List.map_cons, List.map_nil]); first | done | rfl)); refine (rnew_ok 2 w w HB.out (by decide) (by decide)).mono ?_; rintro e w7 ⟨g, gq, rfl, hr, hB, _⟩; refine ⟨_, rfl, ?_⟩; have HR := Aside0.mk hr; replace HB := Aside0.mk hB; clear hr hB)))
    | (go_at_call 12; go_must ((refine (rput_ok g gq 0 (fun _ => 0) [] (List.replicate 2 []) (.slice (some ⟨w7.heap.size, 0, none⟩) 1 1) [97] w (w7.alloc (.cells #[.int .u8 97] 5 (1, 2))) (HR.out.below (below_alloc (Below.refl _ _) _)) (by decide) (by decide) (fun W _ hF => rd_block (f := (1, 2)) (xs := [97]) (hF w7.heap.size _ (1, 2) (blk_new w7 _)) (by decide)) (by decide) (by decide) (by decide) ⟨by decide, by decide⟩ (below_alloc HB.out _)).mono ?_; rintro e w13 ⟨rfl, ⟨col, hr, hl⟩, hB, hF⟩; have hcq : col gq < 9 := hl.lo (Nat.lt_of_lt_of_le HR.out.lt.2 (alloc_le _ _)) (by decide); have HCQ := Aside0.mk hcq; clear hl hcq; have hr2 : Rel w13 w.heap.size g gq col [(⟨[97], false⟩ : It)] [[], [(⟨[97], false⟩ : It)]] := hr; clear HR hr; have HR := Aside0.mk hr2; replace HB := Aside0.mk hB; clear hr2 hB hF)))
    | ((with_reducible refine gate_dst (N := 16) rfl ?_); go_must (((try (refine gate_guard (by rfl) ?_; dsimp only)); refine goesL_ (some 16) rfl rfl Try.func13 (by kernel_rfl) rfl #[.pointer (some ⟨g, 0, none⟩), .int .i64 1] rfl ?hA ?_; (case hA => ((try simp only [List.map_toArray, List.map_cons, List.map_nil]); first | done | rfl)); refine (rnext_ok g gq 1 col [(⟨[97], false⟩ : It)] [[], [(⟨[97], false⟩ : It)]] w w13 HR.out (by decide) (by decide) (by decide) HCQ.out (by decide) HB.out).mono ?_; rintro e w16 ⟨vb, rfl, ho, ⟨col', hr, _⟩, hB, hF⟩; refine ⟨_, rfl, ?_⟩; have ho2 : Kd.R (Kd.int .u8) 5 w16 w.heap.size (fun _ => True) vb [97] := ho; have hr2 : Rel w16 w.heap.size g gq col' [(⟨[97], false⟩ : It)] [[], []] := hr; obtain ⟨Ab, cb, hvb, hcb, hCb⟩ := Kd.R_reads ho2; rw [show ([97] : List Int).length = 1 from rfl] at hvb hCb; subst hvb; have hstr := Kd.C_string (P := Try.prog) (src := 33) (dst := 9) (e := 5) (c := cb) Try.underlying33 Try.underlying5 Try.underlying9 hCb; rw [hs97] at hstr; clear HR; have HR := Aside0.mk hr2; replace HB := Aside0.mk hB; clear ho ho2 hr hr2 hB hF hcb hCb)))
    | ((with_reducible refine gate_dst (N := 35) rfl ?_); go_must (((try (refine gate_guard (by rfl) ?_; dsimp only)); refine goesL_ (some 35) rfl rfl Try.func11 (by kernel_rfl) rfl #[.pointer (some ⟨g, 0, none⟩), .int .i64 0] rfl ?hA ?_; (case hA => ((try simp only [List.map_toArray, List.map_cons, List.map_nil]); first | done | rfl)); refine ((show Calls Try.prog 11 #[.pointer (some ⟨g, 0, none⟩), .int .i64 0] w16 (fun e w' => e = .returned (.int .i64 0) ∧ Drawn0 w16 w') from waits_in g gq 0 col' _ _ _ w16 HR.out (by decide))).mono ?_; rintro e w35 ⟨rfl, ⟨m35, rfl⟩⟩; refine ⟨_, rfl, ?_⟩; skip)))
    | ((with_reducible refine gate_dst (N := 40) rfl ?_); go_must (((try (refine gate_guard (by rfl) ?_; dsimp only)); refine goesL_ (some 40) rfl rfl Try.func10 (by kernel_rfl) rfl #[.pointer (some ⟨g, 0, none⟩)] rfl ?hA ?_; (case hA => ((try simp only [List.map_toArray, List.map_cons, List.map_nil]); first | done | rfl)); refine (rview_calls g gq col' [(⟨[97], false⟩ : It)] [[], []] w.heap.size (w16.drewN m35) (HR.out.drewN m35) (by decide) (by simp)).mono ?_; rintro e w40 ⟨vv, rfl, ho, hb⟩; refine ⟨_, rfl, ?_⟩; obtain ⟨Av, cv, rfl, hcv, hCv⟩ := Kd.R_reads ho; rw [show (List.map (fun x : It => x.f0) [(⟨[97], false⟩ : It)]).length = 1 from rfl]; replace HB := Aside0.mk (below_step (pw_below_drewN HB.out m35) hb); clear ho hcv hCv hb))))
  go_ret
  exact ⟨rfl, HB.out⟩
end Go.Proofs.Yteeddalalfemmaa.K

namespace Go.Proofs.Yteeddalalfemmaa.K
open Go.RowKit Go.Proofs.YteeddalalfemmaaW.PrintWords Go.Proofs.YteeddalalfemmaaW.PrintLast Go.Proofs.YteeddalalfemmaaW.PrintMore
set_option linter.unusedVariables false
set_option linter.unusedSimpArgs false

set_option maxHeartbeats 800000 in
theorem of_out (g gq n : Nat) (i : Int) (vv : Value) (w : World) (hg : w.heap[g]? = some (.cells #[.slice (some ⟨gq, 0, none⟩) n n, vv] 53 (0, 0))) (hi : i < 0 ∨ (n : Int) ≤ i) :
    Calls Try.prog 30 #[.pointer (some ⟨g, 0, none⟩), .int .i64 i] w fun e w' => e = .returned (.pointer none) ∧ Drawn0 w w' := by
  have c0 : w.cell? ⟨g, 0, none⟩ = some (.slice (some ⟨gq, 0, none⟩) n n) := (blk_cell hg 0).trans rfl
  clear hg
  by_cases h0 : i < 0
  · clear hi
    go_enter Try.func30, Try.ntmps30
    go_wp2
    go_ret
    exact ⟨rfl, by repeat (first | exact Drawn0.refl _ | apply Drawn0.step)⟩
  · have h1 : (n : Int) ≤ i := by
      rcases hi with h | h
      · exact absurd h h0
      · exact h
    have hd0 : decide (i < 0) = false := decide_eq_false h0
    clear hi
    go_enter Try.func30, Try.ntmps30
    go_wp2
    go_ret
    exact ⟨rfl, by repeat (first | exact Drawn0.refl _ | apply Drawn0.step)⟩

set_option maxHeartbeats 800000 in
theorem do_out (g gq n : Nat) (i j : Int) (vv fv : Value) (w : World) (hg : w.heap[g]? = some (.cells #[.slice (some ⟨gq, 0, none⟩) n n, vv] 53 (0, 0))) (hi : i < 0 ∨ (n : Int) ≤ i) :
    Calls Try.prog 32 #[.pointer (some ⟨g, 0, none⟩), .int .i64 i, .int .i64 j, fv] w fun e w' => e = .returned (.bool false) ∧ Drawn0 w w' := by
  have HG := Aside0.mk hg
  have HI := Aside0.mk hi
  clear hg hi
  go_enter Try.func32, Try.ntmps32
  go_wp2_with (first
    | ((with_reducible refine gate_dst (N := 12) rfl ?_); go_must (((try (refine gate_guard (by rfl) ?_; dsimp only)); refine goesL_ (some 12) rfl rfl Try.func30 (by kernel_rfl) rfl #[.pointer (some ⟨g, 0, none⟩), .int .i64 i] rfl ?hA ?_; (case hA => ((try simp only [List.map_toArray, List.map_cons, List.map_nil]); first | done | rfl)); refine (of_out g gq n i vv _ HG.out HI.out).mono ?_; rintro e w12 ⟨rfl, ⟨m12, rfl⟩⟩; refine ⟨_, rfl, ?_⟩; skip))))
  go_ret
  exact ⟨rfl, by repeat (first | exact Drawn0.refl _ | apply Drawn0.step)⟩

set_option maxRecDepth 100000 in
set_option maxHeartbeats 2000000 in
theorem do_no (g gq i : Nat) (j : Int) (col : Nat → Nat) (vw : List It) (qs : List (List It)) (b0 : Nat) (fv : Value) (w : World) (hR : Rel w b0 g gq col vw qs) (hi : i < qs.length) (hj : j < 0 ∨ (qs[i].length : Int) ≤ j) :
    Calls Try.prog 32 #[.pointer (some ⟨g, 0, none⟩), .int .i64 i, .int .i64 j, fv] w fun e w' => e = .returned (.bool false) ∧ Drawn0 w w' := by
  obtain ⟨vv, h1, _⟩ := hR.blk
  obtain ⟨cs, h3, h4, h5⟩ := hR.qb
  obtain ⟨v, e, r⟩ := h5 i hi
  obtain ⟨A, c, rfl, hc, hC⟩ := Kd.S_reads r
  have C0 := Aside0.mk ((blk_cell h3 i).trans e)
  have HI := Aside0.mk hi
  have H1 := Aside0.mk h1
  have HD : Aside0 (decide ((0 : Int) ≤ j ∧ j < qs[i].length) = false) := ⟨decide_eq_false (by omega)⟩
  clear h1 h3 h4 h5 e r hC hR hc hj
  go_enter Try.func32, Try.ntmps32
  go_wp2_with (first
    | ((with_reducible refine gate_dst (N := 12) rfl ?_); go_must (((try (refine gate_guard (by rfl) ?_; dsimp only)); refine goesL_ (some 12) rfl rfl Try.func30 (by kernel_rfl) rfl #[.pointer (some ⟨g, 0, none⟩), .int .i64 i] rfl ?hA ?_; (case hA => ((try simp only [List.map_toArray, List.map_cons, List.map_nil]); first | done | rfl)); refine (of_in g gq _ i vv _ H1.out HI.out).mono ?_; rintro e w12 ⟨rfl, ⟨m12, rfl⟩⟩; refine ⟨_, rfl, ?_⟩; skip)))
    | ((with_reducible refine gate_dst (N := 18) rfl ?_); go_must (((try (refine gate_guard (by rfl) ?_; dsimp only)); refine goesL_ (some 18) rfl rfl Try.func40 (by kernel_rfl) rfl #[.pointer (some ⟨gq, i, none⟩), .int .i64 j] rfl ?hA ?_; (case hA => ((try simp only [List.map_toArray, List.map_cons, List.map_nil]); first | done | rfl)); refine (qhas_calls gq i _ c A j (w.drewN m12) (by exact C0.out)).mono ?_; rintro e w18 ⟨rfl, ⟨m18, rfl⟩⟩; refine ⟨_, rfl, ?_⟩; rw [HD.out]))))
  go_ret
  exact ⟨rfl, by repeat (first | exact Drawn0.refl _ | apply Drawn0.step)⟩

/-- Is there one? -/
def hasQ (qs : List (List It)) (i j : Int) : Prop := ∃ h : i.toNat < qs.length, 0 ≤ i ∧ 0 ≤ j ∧ j < (qs[i.toNat]'h).length
theorem do_false (g gq : Nat) (i j : Int) (col : Nat → Nat) (vw : List It) (qs : List (List It)) (b0 : Nat) (fv : Value) (w : World) (hR : Rel w b0 g gq col vw qs) (hn : ¬ hasQ qs i j) :
    Calls Try.prog 32 #[.pointer (some ⟨g, 0, none⟩), .int .i64 i, .int .i64 j, fv] w fun e w' => e = .returned (.bool false) ∧ Drawn0 w w' := by
  by_cases h0 : i < 0 ∨ (qs.length : Int) ≤ i
  · obtain ⟨vv, h1, _⟩ := hR.blk
    exact do_out g gq qs.length i j vv fv w h1 h0
  · obtain ⟨m, rfl⟩ : ∃ m : Nat, i = m := ⟨i.toNat, by omega⟩
    have hm : m < qs.length := by omega
    refine do_no g gq m j col vw qs b0 fv w hR hm ?_
    by_cases hj : j < 0
    · exact .inl hj
    · right
      by_cases h2 : j < (qs[m].length : Int)
      · exact absurd ⟨by simpa using hm, by omega, by omega, by simpa using h2⟩ hn
      · omega
end Go.Proofs.Yteeddalalfemmaa.K

namespace Go.Proofs.Yteeddalalfemmaa.K
open Go.RowKit Go.Proofs.YteeddalalfemmaaW.PrintWords Go.Proofs.YteeddalalfemmaaW.PrintLast Go.Proofs.YteeddalalfemmaaW.PrintMore
set_option linter.unusedVariables false
set_option linter.unusedSimpArgs false

/-- A store into a row of bytes of one's own. -/
theorem own_store {W : World} {base : Nat} {ok : Nat → Prop} {b n c : Nat} {l : List Int} (h : Kd.R (Kd.int .u8) 5 W base ok (.slice (some ⟨b, 0, none⟩) n c) l) (j : Nat) (hj : j < n) (z : Int) :
    Kd.R (Kd.int .u8) 5 (W.setCell ⟨b, j, none⟩ (.int .u8 z)) base ok (.slice (some ⟨b, 0, none⟩) n c) (l.set j z) := by
  have ho := Kd.own_of_R h
  have h0 := h.1
  obtain ⟨hl, ho⟩ := ho
  have hn : n = l.length := by
    rcases ho with ⟨e, _⟩ | ⟨g', cap, cur, he, _⟩
    · cases e
    · injection he
  rcases ho with ⟨e, _⟩ | ⟨g', cap, cur, he, hb, hh, hle, hcm, hcs, ht⟩
  · cases e
  · injection he with he1 he2 he3
    injection he1 with he1
    injection he1 with he1
    subst he1 he3
    refine Kd.R_of_own ⟨by simp [encs], .inr ⟨b, c, cur.setIfInBounds j (.int .u8 z), by rw [List.length_set, hn], hb, blk_set hh j _, by rw [List.length_set]; exact hle, hcm, by simpa using hcs, ?_⟩⟩ h0
    rw [List.length_set, Array.toList_setIfInBounds, List.take_set, ht]
    simp [encs, List.map_set]
/-- A flag set. -/
theorem qs_flag {W : World} {base : Nat} {ok : Nat → Prop} {g n c : Nat} {xs : List It} (h : QR W base ok (.slice (some ⟨g, 0, none⟩) n c) xs) (i : Nat) (hi : i < xs.length) (b : Bool) :
    QR (W.setCell ⟨g, i * 2 + 1, none⟩ (.bool b)) base ok (.slice (some ⟨g, 0, none⟩) n c) (xs.set i ⟨xs[i].f0, b⟩) := by
  have hn := (Kd.S_reads' h).1
  obtain ⟨oki, cc, hcl, hM, hcells, hoki, hH⟩ := Kd.S_lend h Y.z59 (i : Int) (by omega) (by omega)
  rw [Int.toNat_natCast, List.getD_eq_getElem?_getD, List.getElem?_eq_getElem hi, Option.getD_some] at hM
  obtain ⟨vb, rfl, hb⟩ := Y.k59_openM hM
  have h2 := (Kd.S_seg0 hH (by omega) (by omega) (seg := [.bool b]) (j := 1) (by rw [show IK.sz = 2 from rfl]; simp) (x' := (⟨xs[i].f0, b⟩ : It)) (okp := oki) (by exact Y.k59_mkM _ _ _ (⟨xs[i].f0, b⟩ : It) hb) (fun _ hk => hk)).1
  rw [Int.toNat_natCast, show IK.sz = 2 from rfl] at h2
  exact h2
/-- A byte of an item turned, and its flag set. -/
theorem qs_turn {W : World} {base : Nat} {ok : Nat → Prop} {g n c : Nat} {xs : List It} (h : QR W base ok (.slice (some ⟨g, 0, none⟩) n c) xs) (i : Nat) (hi : i < xs.length) (a : Nat) (ha : a < xs[i].f0.length) (z : Int) :
    ∃ bx cb, W.cell? ⟨g, i * 2, none⟩ = some (.slice (some ⟨bx, 0, none⟩) xs[i].f0.length cb) ∧ bx ≠ g ∧ ok bx ∧ base ≤ bx ∧ (∃ cells, W.heap[bx]? = some (.cells cells 5 (0, 0))) ∧
      QR ((W.setCell ⟨bx, a, none⟩ (.int .u8 z)).setCell ⟨g, i * 2 + 1, none⟩ (.bool true)) base ok (.slice (some ⟨g, 0, none⟩) n c) (xs.set i ⟨xs[i].f0.set a z, true⟩) := by
  have hn := (Kd.S_reads' h).1
  obtain ⟨oki, cc, hcl, hM, hcells, hoki, hH⟩ := Kd.S_lend h Y.z59 (i : Int) (by omega) (by omega)
  rw [Int.toNat_natCast, List.getD_eq_getElem?_getD, List.getElem?_eq_getElem hi, Option.getD_some] at hM
  obtain ⟨vb, rfl, hb⟩ := Y.k59_openM hM
  obtain ⟨bx, cb, rfl, hbase, hlt, cells, hcx⟩ := Kd.R_form hb (by omega)
  have hob : oki bx := hb.1 bx rfl
  have e0 := hcells 0 _ rfl
  rw [Int.toNat_natCast, show IK.sz = 2 from rfl] at e0
  have hM2 : IK.M (W.setCell ⟨bx, a, none⟩ (.int .u8 z)) base oki ⟨xs[i].f0.set a z, xs[i].f1⟩ [.slice (some ⟨bx, 0, none⟩) xs[i].f0.length cb, .bool xs[i].f1] :=
    Y.k59_mkM _ _ _ (⟨xs[i].f0.set a z, xs[i].f1⟩ : It) (own_store hb a ha z)
  have hH2 : Kd.H IK 59 (W.setCell ⟨bx, a, none⟩ (.int .u8 z)) base ok (.slice (some ⟨g, 0, none⟩) n c) xs (i : Int) oki [.slice (some ⟨bx, 0, none⟩) xs[i].f0.length cb, .bool xs[i].f1] :=
    Kd.H_step hH (fun k _ hk _ => Below.heap_setCell _ _ _ _ (fun e => hk (by rw [e]; exact hob)))
  have h2 := (Kd.S_seg0 hH2 (by omega) (by omega) (seg := [.bool true]) (j := 1) (by rw [show IK.sz = 2 from rfl]; simp) (x' := (⟨xs[i].f0.set a z, true⟩ : It)) (okp := oki) (by exact Y.k59_mkM _ _ _ (⟨xs[i].f0.set a z, true⟩ : It) (own_store hb a ha z)) (fun _ hk => hk)).1
  rw [Int.toNat_natCast, show IK.sz = 2 from rfl] at h2
  exact ⟨bx, cb, e0, (hoki bx hob).2, (hoki bx hob).1, hbase, ⟨cells, hcx⟩, h2⟩
end Go.Proofs.Yteeddalalfemmaa.K

namespace Go.Proofs.Yteeddalalfemmaa.K
open Go.RowKit Go.Proofs.YteeddalalfemmaaW.PrintWords Go.Proofs.YteeddalalfemmaaW.PrintLast Go.Proofs.YteeddalalfemmaaW.PrintMore
set_option linter.unusedVariables false
set_option linter.unusedSimpArgs false

theorem pair_eq {α : Type} (l l' : List α) (m m' : Nat) (h0 : l[m * 2]? = l'[m' * 2]?) (h1 : l[m * 2 + 1]? = l'[m' * 2 + 1]?) : (l.drop (m * 2)).take 2 = (l'.drop (m' * 2)).take 2 := by
  apply List.ext_getElem?
  intro q
  match q with
  | 0 => simpa using h0
  | 1 => simpa using h1
  | q + 2 => rw [List.getElem?_take, List.getElem?_take, if_neg (by omega), if_neg (by omega)]
theorem set_at {α : Type} (l : List α) (a : Nat) (x : α) (b : Nat) (h : b < l.length) : (l.set a x)[b]? = if b = a then some x else l[b]? := by
  by_cases hb : b = a
  · subst hb
    rw [if_pos rfl, List.getElem?_set_self h]
  · rw [if_neg hb, List.getElem?_set_ne (Ne.symm hb)]
/-- Two items change places. -/
theorem qs_swap {W : World} {base : Nat} {ok : Nat → Prop} {g n c : Nat} {xs : List It} (h : QR W base ok (.slice (some ⟨g, 0, none⟩) n c) xs) (i j : Nat) (hi : i < xs.length) (hj : j < xs.length) (a0 a1 b0 b1 : Value)
    (ha0 : W.cell? ⟨g, i * 2, none⟩ = some a0) (ha1 : W.cell? ⟨g, i * 2 + 1, none⟩ = some a1) (hb0 : W.cell? ⟨g, j * 2, none⟩ = some b0) (hb1 : W.cell? ⟨g, j * 2 + 1, none⟩ = some b1) :
    QR ((((W.setCell ⟨g, i * 2, none⟩ b0).setCell ⟨g, i * 2 + 1, none⟩ b1).setCell ⟨g, j * 2, none⟩ a0).setCell ⟨g, j * 2 + 1, none⟩ a1) base ok (.slice (some ⟨g, 0, none⟩) n c) ((xs.set i xs[j]).set j xs[i]) := by
  obtain ⟨f, h0, inner, ⟨hl, ho⟩, hr⟩ := h
  have hs : IK.sz = 2 := rfl
  have hs' : (Kd.tag f IK).sz = 2 := rfl
  have hrl := hr.1
  have hr2 := hr.2
  rw [hs'] at hl hrl hr2
  rw [List.length_zipIdx] at hl hrl
  rcases ho with ⟨e, _⟩ | ⟨g', cap, cur, he, hbs, hh, hle, hcm, hcs, ht⟩
  · cases e
  injection he with he1 he2 he3
  injection he1 with he1
  injection he1 with he1
  subst he1 he3
  rw [hs'] at hcs ht
  rw [List.length_zipIdx] at he2 hle ht
  have hat : ∀ q, q < xs.length * 2 → W.cell? ⟨g, q, none⟩ = inner[q]? := by
    intro q hq
    rw [blk_cell hh q, ← ht, List.getElem?_take, if_pos hq, Array.getElem?_toList]
  rw [hat _ (by omega)] at ha0 ha1 hb0 hb1
  obtain ⟨inner', hinner'⟩ : ∃ l, l = (((inner.set (i * 2) b0).set (i * 2 + 1) b1).set (j * 2) a0).set (j * 2 + 1) a1 := ⟨_, rfl⟩
  have hlen' : inner'.length = xs.length * 2 := by rw [hinner']; simpa using hl
  have hget : ∀ q, q < xs.length * 2 → inner'[q]? = if q = j * 2 + 1 then some a1 else if q = j * 2 then some a0 else if q = i * 2 + 1 then some b1 else if q = i * 2 then some b0 else inner[q]? := by
    intro q hq
    rw [hinner', set_at _ _ _ _ (by simp; omega), set_at _ _ _ _ (by simp; omega), set_at _ _ _ _ (by simp; omega), set_at _ _ _ _ (by omega)]
  have hMf : ∀ (okp : Nat → Prop) p q, (∀ k, okp k → ok k ∧ some k ≠ (Value.slice (some ⟨g, 0, none⟩) n c).ownBlock) → IK.M W base okp p q → IK.M ((((W.setCell ⟨g, i * 2, none⟩ b0).setCell ⟨g, i * 2 + 1, none⟩ b1).setCell ⟨g, j * 2, none⟩ a0).setCell ⟨g, j * 2 + 1, none⟩ a1) base okp p q := by
    intro okp p q hk hM
    have hne : ∀ k, okp k → k ≠ g := fun k h e => (hk k h).2 (by rw [e]; rfl)
    exact Kd.M_far (Kd.M_far (Kd.M_far (Kd.M_far hM hne _) hne _) hne _) hne _
  refine ⟨fun k => if f k = i then j else if f k = j then i else f k, h0, inner', ⟨by rw [List.length_zipIdx]; simp only [List.length_set]; exact hlen', .inr ⟨g, c, (((cur.setIfInBounds (i * 2) b0).setIfInBounds (i * 2 + 1) b1).setIfInBounds (j * 2) a0).setIfInBounds (j * 2 + 1) a1, by rw [List.length_zipIdx]; simp only [List.length_set]; rw [← he2], hbs, blk_set (blk_set (blk_set (blk_set hh _ _) _ _) _ _) _ _, by rw [List.length_zipIdx]; simp only [List.length_set]; exact hle, hcm, by rw [show (Kd.tag (fun k => if f k = i then j else if f k = j then i else f k) IK).sz = 2 from rfl]; simpa using hcs, ?_⟩⟩, ⟨by rw [List.length_zipIdx]; simp only [List.length_set]; exact hlen', fun m p hm => ?_⟩⟩
  · rw [List.length_zipIdx]
    simp only [List.length_set, Array.toList_setIfInBounds]
    rw [show (Kd.tag (fun k => if f k = i then j else if f k = j then i else f k) IK).sz = 2 from rfl]
    rw [List.take_set, List.take_set, List.take_set, List.take_set, ht, hinner']
  · rw [List.getElem?_zipIdx, Nat.zero_add] at hm
    obtain ⟨x, hx, rfl⟩ := Option.map_eq_some_iff.1 hm
    have hml : m < xs.length := by
      have := (List.getElem?_eq_some_iff.1 hx).1
      simpa using this
    rw [set_at _ _ _ _ (by simpa using hml), set_at _ _ _ _ hml] at hx
    show IK.M _ base (fun k => (ok k ∧ some k ≠ (Value.slice (some ⟨g, 0, none⟩) n c).ownBlock) ∧ (if f k = i then j else if f k = j then i else f k) = m) x ((inner'.drop (m * 2)).take 2)
    by_cases hmj : m = j
    · rw [if_pos hmj] at hx
      injection hx with hx
      subst hx
      have h1 := hr2 i (xs[i], i) (Kd.zip_at (List.getElem?_eq_getElem hi))
      rw [pair_eq inner' inner m i (by rw [hget _ (by omega), if_neg (by omega), if_pos (by omega), ha0]) (by rw [hget _ (by omega), if_pos (by omega), ha1])]
      refine hMf _ _ _ (fun k hk => hk.1) (IK.M_mono (fun k hk => ⟨hk.1, ?_⟩) h1)
      have h2 : f k = i := hk.2
      rw [if_pos h2, hmj]
    · rw [if_neg hmj] at hx
      by_cases hmi : m = i
      · rw [if_pos hmi] at hx
        injection hx with hx
        subst hx
        have h1 := hr2 j (xs[j], j) (Kd.zip_at (List.getElem?_eq_getElem hj))
        rw [pair_eq inner' inner m j (by rw [hget _ (by omega), if_neg (by omega), if_neg (by omega), if_neg (by omega), if_pos (by omega), hb0]) (by rw [hget _ (by omega), if_neg (by omega), if_neg (by omega), if_pos (by omega), hb1])]
        refine hMf _ _ _ (fun k hk => hk.1) (IK.M_mono (fun k hk => ⟨hk.1, ?_⟩) h1)
        have h2 : f k = j := hk.2
        rw [if_neg (by omega), if_pos h2, hmi]
      · rw [if_neg hmi] at hx
        have h1 := hr2 m (x, m) (Kd.zip_at hx)
        rw [pair_eq inner' inner m m (by rw [hget _ (by omega), if_neg (by omega), if_neg (by omega), if_neg (by omega), if_neg (by omega)]) (by rw [hget _ (by omega), if_neg (by omega), if_neg (by omega), if_neg (by omega), if_neg (by omega)])]
        refine hMf _ _ _ (fun k hk => hk.1) (IK.M_mono (fun k hk => ⟨hk.1, ?_⟩) h1)
        have h2 : f k = m := hk.2
        rw [if_neg (by omega), if_neg (by omega), h2]

/-- A method on an item in the queue's own blocks. -/
theorem Rel.turnI {W W' : World} {b0 g gq : Nat} {col : Nat → Nat} {vw : List It} {qs : List (List It)} (h : Rel W b0 g gq col vw qs) {i : Nat} (hi : i < qs.length) {cs : Array Value} (hcs : W.heap[gq]? = some (.cells cs 51 (0, 0)))
    {v : Value} {xs' : List It} (he : cs[i]? = some v) (hs : ∀ k, k < W.heap.size → col k ≠ i + 1 → W'.heap[k]? = W.heap[k]?) (hgq : W'.heap[gq]? = W.heap[gq]?) (hgg : W'.heap[g]? = W.heap[g]?) (hr : QR W' b0 (fun k => col k = i + 1) v xs') : Rel W' b0 g gq col vw (qs.set i xs') := by
  obtain ⟨⟨vv, h1, h2⟩, ⟨cs0, h3, h4, h5⟩, h6⟩ := h
  have ecs : cs0 = cs := by
    rw [hcs] at h3
    injection h3 with h3
    injection h3 with h3
    exact h3.symm
  subst ecs
  refine ⟨⟨vv, by rw [List.length_set]; exact hgg.trans h1, Kd.S_step h2 (fun k hk hlt => hs k hlt (by rw [hk]; omega))⟩, ⟨cs0, hgq.trans h3, by simp [h4], fun m hm => ?_⟩, h6⟩
  rw [List.length_set] at hm
  by_cases hmi : m = i
  · subst hmi
    exact ⟨v, he, by rw [List.getElem_set_self]; exact hr⟩
  · obtain ⟨v2, e, r⟩ := h5 m hm
    exact ⟨v2, e, by rw [List.getElem_set_ne (Ne.symm hmi)]; exact Kd.S_step r (fun k hk hlt => hs k hlt (by rw [hk]; omega))⟩

/-- What a relay's method did. -/
def Did (w0 w w' : World) (g gq : Nat) (col : Nat → Nat) (vw : List It) (qs : List (List It)) : Prop := (∃ col', Rel w' w0.heap.size g gq col' vw qs ∧ Left w w' col col') ∧ Below w0.heap.size w0 w'
theorem Did.pre {w0 w w1 w' : World} {g gq : Nat} {col c1 : Nat → Nat} {vw : List It} {qs : List (List It)} (h : Left w w1 col c1) (k : Did w0 w1 w' g gq c1 vw qs) : Did w0 w w' g gq col vw qs := by
  obtain ⟨⟨c, h1, h2⟩, h3⟩ := k
  exact ⟨⟨c, h1, h.trans h2⟩, h3⟩
theorem Did.none {w0 w w' : World} {g gq : Nat} {col : Nat → Nat} {vw : List It} {qs : List (List It)} (hR : Rel w w0.heap.size g gq col vw qs) (hB : Below w0.heap.size w0 w) (hb : Below w.heap.size w w') : Did w0 w w' g gq col vw qs :=
  ⟨⟨col, hR.below hb, Left.below col hb⟩, below_step hB hb⟩

set_option maxRecDepth 100000 in
set_option maxHeartbeats 4000000 in
theorem drop1_calls (g gq i j bi : Nat) (col : Nat → Nat) (vw : List It) (qs : List (List It)) (w0 w : World) (hR : Rel w w0.heap.size g gq col vw qs) (hi : i < qs.length) (hj : j < qs[i].length) (hq : qs[i].length ≤ 90000) (hlo : col gq < 9) (hi8 : i < 8)
    (hbi : w.heap[bi]? = some (.cells #[.int .i64 j] 3 (0, 0))) (hB : Below w0.heap.size w0 w) :
    Calls Try.prog 37 #[.pointer (some ⟨gq, i, none⟩), .pointer (some ⟨bi, 0, none⟩)] w fun e w' => e = .returned (.bool true) ∧ Did w0 w w' g gq col vw (qs.set i (qs[i].eraseIdx j)) := by
  obtain ⟨cs, h3, h4, h5⟩ := hR.qb
  obtain ⟨v, e, r⟩ := h5 i hi
  have ci : w.cell? ⟨bi, 0, none⟩ = some (.int .i64 j) := (blk_cell hbi 0).trans rfl
  have HR := Aside0.mk hR
  have HI := Aside0.mk hi
  have HJ := Aside0.mk hj
  have HQ := Aside0.mk hq
  have HB := Aside0.mk hB
  have H3 := Aside0.mk h3
  have HE := Aside0.mk e
  have Hr := Aside0.mk r
  have HLO := Aside0.mk hlo
  clear h3 h4 h5 e r hB hR hj hlo hbi
  go_enter Try.func37, Try.ntmps37
  go_wp2_with (first
    | (go_at_call 34; go_must ((refine (qcut_calls gq i 51 (i + 1) col cs v j qs[i] w0 w H3.out HE.out (by decide) Hr.out HJ.out HB.out HR.out.ge.2 (by have := HQ.out; omega)).mono ?_; rintro e w5 ⟨vb, v', rfl, ho, hb5, hr5, hB5, hF5⟩; have HR5 := Aside0.mk (HR.out.turnQ HI.out H3.out hb5 hr5 hF5); have HL5 : Aside0 (Left w w5 col col) := ⟨hF5.left (by omega) HLO.out⟩; have HB5 := Aside0.mk hB5; clear ho hb5 hr5 hB5 hF5))))
  go_ret
  exact ⟨rfl, ⟨col, HR5.out, HL5.out⟩, HB5.out⟩
end Go.Proofs.Yteeddalalfemmaa.K

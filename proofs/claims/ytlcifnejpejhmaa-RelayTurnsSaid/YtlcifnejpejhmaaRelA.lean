/- relay: bytes.Clone, and what is put into a queue. -/
import Derived.Test.YtlcifnejpejhmaaLaw01
import Derived.Test.YtlcifnejpejhmaaY0
import Derived.Deep.RegionLaw
namespace Go.Proofs.Ytlcifnejpejhmaa.K
open Go.RowKit Go.Proofs.YtlcifnejpejhmaaW.PrintWords Go.Proofs.YtlcifnejpejhmaaW.PrintLast Go.Proofs.YtlcifnejpejhmaaW.PrintMore
set_option linter.unusedVariables false
set_option linter.unusedSimpArgs false

abbrev It := Y.S107
abbrev IK := Y.k107
/-- A row of items of the call's own. -/
abbrev QR (W : World) (base : Nat) (ok : Nat → Prop) (v : Value) (xs : List It) : Prop := Kd.R IK 107 W base ok v xs
/-- What a queue's method leaves: all but the blocks of its colour, and its own; and all bytes. -/
def Fr (w w' : World) (col : Nat → Nat) (c p : Nat) : Prop :=
  w.heap.size ≤ w'.heap.size ∧ (∀ k, k < w.heap.size → col k ≠ c → k ≠ p → w'.heap[k]? = w.heap[k]?) ∧ (∀ (k : Nat) (cells : Array Value) (t : Nat) (f : Nat × Nat), w.heap[k]? = some (Obj.cells cells t f) → t ≠ 107 → k ≠ p → w'.heap[k]? = some (Obj.cells cells t f))
theorem infoIt : (Try.prog.info? 107).map (fun i => (i.zero, i.size, i.bytes)) = some (some (.agg #[.slice none 0 0, .bool false]), 2, 32) := by kernel_rfl
theorem own_bytes {w : World} {b : Nat} {v : Value} {l : List Int} (h : Own w b v l) {ok : Nat → Prop} (hok : ∀ k, b ≤ k → k < w.heap.size → ok k) : Kd.R (Kd.int .u8) 5 w b ok v l :=
  Kd.R_mono (Kd.R_bound h) (fun k hk => hok k hk.2.1 hk.2.2.1)

theorem qr_away {W : World} {base : Nat} {ok : Nat → Prop} {v : Value} {xs : List It} (h : QR W base ok v xs) {k : Nat} {cells : Array Value} {t : Nat} {f : Nat × Nat} (hb : W.heap[k]? = some (.cells cells t f)) (ht : t ≠ 107) : some k ≠ v.ownBlock := by
  intro e
  obtain ⟨inner, ho⟩ := Kd.R_own h
  obtain ⟨c2, h2⟩ := own_typed ho k e.symm
  rw [h2] at hb
  injection hb with hb
  injection hb with _ hb
  exact ht hb.symm
theorem qr_types {T : Nat} (h1 : T ≠ 107) (h2 : T ≠ 5) : ∀ q, q ∈ 107 :: IK.E → q ≠ T := by
  intro q hq
  have hE : IK.E = [5] := rfl
  rw [hE] at hq
  simp at hq
  rcases hq with rfl | rfl
  · exact fun h => h1 h.symm
  · exact fun h => h2 h.symm

set_option maxRecDepth 100000 in
set_option maxHeartbeats 1000000 in
theorem bclone_calls (v : Value) (l : List Int) (w : World) (hr : Rd w v l) (hl : l.length ≤ 100000) :
    Calls Try.prog 63 #[v] w fun e w' => ∃ v', e = .returned v' ∧ Own w' w.heap.size v' l ∧ Below w.heap.size w w' := by
  have HR := Aside0.mk hr
  have HL := Aside0.mk hl
  obtain ⟨A0, c0, rfl, hc0, hC0⟩ := hr
  have HC := Aside0.mk hC0
  have HB := Aside0.mk (Below.refl w.heap.size w)
  clear hl hC0 hc0
  have hn := Lib.run_eql_slice_nil (P := Try.prog)
  by_cases hA : A0.isNone = true
  · go_enter Try.func63, Try.ntmps63
    go_wp2
    go_ret
    obtain rfl := nil_of HC.out hA
    exact ⟨_, rfl, Kd.R_nil _ _ _ _ _, Below.refl _ _⟩
  · have hA : A0.isNone = false := by cases A0 <;> simp_all
    go_enter Try.func63, Try.ntmps63
    go_wp2_with (first
      | ((with_reducible refine gate_dst (N := 5) rfl ?_); go_must (((try (refine gate_guard (by rfl) ?_; dsimp only)); refine lit_bytes (w0 := w) (w).heap.size 5 ?hg ?hd ([]) ?hr ?hm HB.out HB.out.size ?_; (case hd => rfl); (case hg => rfl); (case hr => first | (go_simp; done) | (go_simp; rfl)); (case hm => simp); intro vHO5 wHO5 ho hb hbw; have HO5 := Aside0.mk ho; clear HB; have HB := Aside0.mk hb; clear ho hb hbw)))
      | ((with_reducible refine gate_builtin (b := .append) (xs := #[.tmp 5, .tmp 6]) rfl ?_); at_builtin; go_must (((try (refine gate_guard (by rfl) ?_; dsimp only)); refine app_bytes (w0 := w) (w).heap.size rfl (.tmp 5) (.tmp 6) 45 rfl Try.underlying45 info5 _ _ ([]) (l) rfl rfl HO5.out ?aR HB.out HB.out.size ?aL ?_; (case aR => exact HR.out.below HB.out); (case aL => (have := HL.out; simp; omega)); intro vHO7 wHO7 ho hb hg; have HO7 := Aside0.mk ho; clear HB; have HB := Aside0.mk hb; clear ho hb hg))))
    go_ret
    exact ⟨_, rfl, HO7.out, HB.out⟩

set_option maxRecDepth 100000 in
set_option maxHeartbeats 4000000 in
theorem qput_calls (p j T c : Nat) (col : Nat → Nat) (cs : Array Value) (v vb : Value) (l : List Int) (xs : List It) (w0 w : World)
    (hp : w.heap[p]? = some (.cells cs T (0, 0))) (hj : cs[j]? = some v) (hT : T ≠ 107 ∧ T ≠ 5) (hR : QR w w0.heap.size (fun k => col k = c) v xs) (hb : Rd w vb l)
    (hcol : ∀ k, w.heap.size ≤ k → col k = c) (hB : Below w0.heap.size w0 w) (h0 : w0.heap.size ≤ p) (hx : xs.length ≤ 100000) (hl : l.length ≤ 100000) :
    Calls Try.prog 59 #[.pointer (some ⟨p, j, none⟩), vb] w fun e w' => e = .returned (.tuple #[]) ∧
      (∃ v', w'.heap[p]? = some (.cells (cs.setIfInBounds j v') T (0, 0)) ∧ QR w' w0.heap.size (fun k => col k = c) v' (xs ++ [⟨l, false⟩])) ∧ Below w0.heap.size w0 w' ∧ Fr w w' col c p := by
  have c0 : w.cell? ⟨p, j, none⟩ = some v := (blk_cell hp j).trans hj
  have f0 := blk_frozen hp j
  have HP := Aside0.mk hp
  have HJ := Aside0.mk hj
  have HT := Aside0.mk hT
  have HR := Aside0.mk hR
  have HRb := Aside0.mk hb
  have HCol := Aside0.mk hcol
  have HB := Aside0.mk hB
  have H0 := Aside0.mk h0
  have HX := Aside0.mk hx
  have HL := Aside0.mk hl
  have HW := Aside0.mk (Below.refl w.heap.size w)
  clear hp hj hT hR hb hcol hB h0 hx hl
  go_enter Try.func59, Try.ntmps59
  go_wp2
  go_region_law (first
    | (refine Kd.R_append_step IK (w0 := w0) w0.heap.size rfl (.tmp 8) (.tmp 12) 95 107 (.agg #[.slice none 0 0, .bool false]) 32 rfl Try.underlying95 infoIt rfl (by decide) (by decide) v xs ⟨l, false⟩ [.slice A10 l.length c10, .bool false] (fun k => col k = c) (fun k => col k = c ∧ w.heap.size ≤ k) rfl rfl ?hM ?hokp ?hfresh HR10.out HB10.out HB10.out.size ?hl ?_;
       (case hM => exact Y.k107_mkM _ _ _ (⟨l, false⟩ : It) (Kd.R_lower (Kd.R_mono (Kd.R_bound HO.out) (fun k hk => ⟨HCol.out k hk.2.1, hk.2.1⟩)) HB.out.size));
       (case hokp => exact fun k hk => ⟨hk.1, fun e => by have := Kd.R_lt HR.out k e.symm; omega⟩);
       (case hfresh => exact fun k hk => HCol.out k (Nat.le_trans HW10.out.size hk));
       (case hl => (have := HX.out; omega));
       intro v13 w13 ho hb hg hat; obtain ⟨A13, d13, rfl, hd13, hC13⟩ := Kd.R_reads ho; clear hC13; rw [show (xs ++ [(⟨l, false⟩ : It)]).length = xs.length + 1 by simp] at ho hd13 ⊢; have hp13 : w13.heap[p]? = some (.cells cs T (0, 0)) := (hg.block p (blk_lt HP10.out) (qr_away HR10.out HP10.out HT.out.1)).trans HP10.out; have c13 := (blk_cell hp13 j).trans HJ.out; have f13 := blk_frozen hp13 j; have HP13 := Aside0.mk hp13; have HR13 := Aside0.mk ho; have HB13 := Aside0.mk hb; have HG13 := Aside0.mk hg; clear ho hb hg hat hp13)
    | (go_simp; go_at_call 63; refine (bclone_calls _ l _ (by exact HRb.out) HL.out).mono ?_; rintro e w10 ⟨v10, rfl, ho, hb⟩; have HO := Aside0.mk ho; obtain ⟨A10, c10, rfl, hc10, hC10⟩ := ho.rd; clear hC10; have HW10 : Aside0 (Below w.heap.size w w10) := ⟨by first | exact below_step (below_drew1 (Below.refl w.heap.size w)) hb | exact hb⟩; have HR10 := Aside0.mk (Kd.R_below HR.out HW10.out); have HP10 := Aside0.mk (blk_below HP.out HW10.out); have HB10 : Aside0 (Below w0.heap.size w0 w10) := ⟨HB.out.trans (HW10.out.mono HB.out.size)⟩; have c0 : w10.cell? ⟨p, j, none⟩ = some v := (blk_cell HP10.out j).trans HJ.out; have c0a : (w10.alloc (.cells #[.slice A10 l.length c10, .bool false] 107)).cell? ⟨p, j, none⟩ = some v := pw_cell_below (below_alloc (Below.refl _ _) _) c0; clear ho hb))
  all_goals
    go_wp2
    go_end0
    refine ⟨rfl, ⟨_, blk_set HP13.out j _, Kd.R_set HR13.out HP13.out (qr_types HT.out.1 HT.out.2) j _⟩, HB13.out.setCell H0.out _, ?_, ?_, ?_⟩
    · have h1 := HW10.out.size
      have h2 := HG13.out.size
      exact Nat.le_trans h1 (Nat.le_trans h2 ((KeepBut.refl w13 p none).set_ j _).1)
    · intro k hk hc hkp
      rw [Below.heap_setCell _ _ _ _ hkp, HG13.out.block k (Nat.lt_of_lt_of_le hk HW10.out.size) (fun e => hc (HR.out.1 k e.symm)), HW10.out.block k hk]
    · intro k cells t f hk ht hkp
      have hlt : k < w.heap.size := (Array.getElem?_eq_some_iff.1 hk).1
      rw [Below.heap_setCell _ _ _ _ hkp, HG13.out.block k (Nat.lt_of_lt_of_le hlt HW10.out.size) (qr_away HR.out hk ht), HW10.out.block k hlt, hk]
end Go.Proofs.Ytlcifnejpejhmaa.K

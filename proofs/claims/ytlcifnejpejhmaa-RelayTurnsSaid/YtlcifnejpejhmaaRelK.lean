/- relay: Turn of the one that waits, Again of it, Rewind. -/
import Derived.Test.YtlcifnejpejhmaaRelJ
namespace Go.Proofs.Ytlcifnejpejhmaa.K
open Go.RowKit Go.Proofs.YtlcifnejpejhmaaW.PrintWords Go.Proofs.YtlcifnejpejhmaaW.PrintLast Go.Proofs.YtlcifnejpejhmaaW.PrintMore
set_option linter.unusedVariables false
set_option linter.unusedSimpArgs false

/-- A store into a row of bytes of one's own. -/
theorem own_store {W : World} {base : Nat} {ok : Nat → Prop} {b n c : Nat} {l : List Int} (h : Kd.R (Kd.int .u8) 5 W base ok (.slice (some ⟨b, 0, none⟩) n c) l) (j : Nat) (hj : j < n) (z : Int) :
    Kd.R (Kd.int .u8) 5 (W.setCell ⟨b, j, none⟩ (.int .u8 z)) base ok (.slice (some ⟨b, 0, none⟩) n c) (l.set j z) := by
  have ho := Kd.own_of_R h
  have h0 := h.1
  obtain ⟨hl, ho⟩ := ho
  have hn : n = l.length := by
    rcases ho with ⟨e, _⟩ | ⟨g', cap, cur, he, _⟩
    · cases e
    · injection he
  rcases ho with ⟨e, _⟩ | ⟨g', cap, cur, he, hb, hh, hle, hcm, hcs, ht⟩
  · cases e
  · injection he with he1 he2 he3
    injection he1 with he1
    injection he1 with he1
    subst he1 he3
    refine Kd.R_of_own ⟨by simp [encs], .inr ⟨b, c, cur.setIfInBounds j (.int .u8 z), by rw [List.length_set, hn], hb, blk_set hh j _, by rw [List.length_set]; exact hle, hcm, by simpa using hcs, ?_⟩⟩ h0
    rw [List.length_set, Array.toList_setIfInBounds, List.take_set, ht]
    simp [encs, List.map_set]

/-- The one item of a row, turned. -/
theorem qr_turn1 {W W1 : World} {base : Nat} {ok : Nat → Prop} {g c : Nat} {x : It} {vb : Value} {l : List Int} (h : QR W base ok (.slice (some ⟨g, 0, none⟩) 1 c) [x]) (hc : W.cell? ⟨g, 0, none⟩ = some vb) (hg : W1.heap[g]? = W.heap[g]?)
    (hb : Kd.R (Kd.int .u8) 5 W1 base (fun k => ok k ∧ some k ≠ (Value.slice (some ⟨g, 0, none⟩) 1 c).ownBlock) vb l) : QR (W1.setCell ⟨g, 1, none⟩ (.bool true)) base ok (.slice (some ⟨g, 0, none⟩) 1 c) [⟨l, true⟩] := by
  obtain ⟨h0, inner, ⟨hl, ho⟩, hr⟩ := h
  rcases ho with ⟨e, _⟩ | ⟨g', cap, cur, he, hbs, hh, hle, hcm, hcs, ht⟩
  · cases e
  · injection he with he1 he2 he3
    injection he1 with he1
    injection he1 with he1
    subst he1 he3
    have hs : IK.sz = 2 := rfl
    rw [hs] at hcs
    have h1c : 1 ≤ c := hle
    have e0 : cur[0]? = some vb := by
      rw [← hc, blk_cell hh 0]
    have hcl : cur.toList[0]? = some vb := by rw [Array.getElem?_toList]; exact e0
    have hlen : cur.toList.length = c * 2 := by rw [Array.length_toList]; exact hcs
    refine ⟨h0, [vb, .bool true], ⟨rfl, .inr ⟨g, c, cur.setIfInBounds 1 (.bool true), rfl, hbs, blk_set (hg.trans hh) 1 _, hle, hcm, by rw [hs]; simpa using hcs, ?_⟩⟩, ⟨rfl, fun j p hj => ?_⟩⟩
    · rw [hs, Array.toList_setIfInBounds]
      show List.take (1 * 2) (cur.toList.set 1 (.bool true)) = _
      match hcl2 : cur.toList, hcl, hlen with
      | [], h, _ => simp at h
      | [a], h, hl2 => simp at hl2; omega
      | a :: b :: r, h, _ =>
        simp at h
        subst h
        simp
    · match j, hj with
      | 0, hj =>
        simp at hj
        subst hj
        refine Y.k107_mkM _ _ _ (⟨l, true⟩ : It) ?_
        exact Kd.R_far hb (p := ⟨g, 1, none⟩) (fun k hk => fun e => hk.2 (by rw [e]; rfl)) _

theorem Rel.turnI {W W' : World} {b0 g gq : Nat} {col : Nat → Nat} {vw : List It} {qs : List (List It)} (h : Rel W b0 g gq col vw qs) {i : Nat} (hi : i < qs.length) {cs : Array Value} (hcs : W.heap[gq]? = some (.cells cs 97 (0, 0)))
    {v : Value} {xs' : List It} (he : cs[i]? = some v) (hs : ∀ k, k < W.heap.size → col k ≠ i + 1 → W'.heap[k]? = W.heap[k]?) (hgq : W'.heap[gq]? = W.heap[gq]?) (hgg : W'.heap[g]? = W.heap[g]?) (hr : QR W' b0 (fun k => col k = i + 1) v xs') : Rel W' b0 g gq col vw (qs.set i xs') := by
  obtain ⟨⟨vv, h1, h2⟩, ⟨cs0, h3, h4, h5⟩, h6⟩ := h
  have ecs : cs0 = cs := by
    rw [hcs] at h3
    injection h3 with h3
    injection h3 with h3
    exact h3.symm
  subst ecs
  refine ⟨⟨vv, by rw [List.length_set]; exact hgg.trans h1, Kd.R_step h2 (fun k hk hlt => hs k hlt (by rw [hk]; omega))⟩, ⟨cs0, hgq.trans h3, by simp [h4], fun m hm => ?_⟩, h6⟩
  rw [List.length_set] at hm
  by_cases hmi : m = i
  · subst hmi
    exact ⟨v, he, by rw [List.getElem_set_self]; exact hr⟩
  · obtain ⟨v2, e, r⟩ := h5 m hm
    exact ⟨v2, e, by rw [List.getElem_set_ne (Ne.symm hmi)]; exact Kd.R_step r (fun k hk hlt => hs k hlt (by rw [hk]; omega))⟩

set_option maxRecDepth 100000 in
set_option maxHeartbeats 4000000 in
theorem turn1_ok (g gq i bi ba bb a : Nat) (col : Nat → Nat) (vw : List It) (qs : List (List It)) (l : List Int) (y : Int) (w0 w : World) (hR : Rel w w0.heap.size g gq col vw qs) (hi : i < qs.length) (hq : qs[i] = [⟨l, false⟩]) (ha : a < l.length) (hl : l.length ≤ 100000)
    (hbi : w.heap[bi]? = some (.cells #[.int .i64 0] 3 (0, 0))) (hba : w.heap[ba]? = some (.cells #[.int .i64 a] 3 (0, 0))) (hbb : w.heap[bb]? = some (.cells #[.int .u8 y] 5 (0, 0))) (hB : Below w0.heap.size w0 w) :
    Calls Try.prog 72 #[.pointer (some ⟨gq, i, none⟩), .pointer (some ⟨bi, 0, none⟩), .pointer (some ⟨ba, 0, none⟩), .pointer (some ⟨bb, 0, none⟩)] w fun e w' => e = .returned (.bool true) ∧
      (∃ col', Rel w' w0.heap.size g gq col' vw (qs.set i [⟨l.set a (bits .xor .u8 (rd l a) y), true⟩])) ∧ Below w0.heap.size w0 w' := by
  obtain ⟨cs, h3, h4, h5⟩ := hR.qb
  obtain ⟨v, e, r⟩ := h5 i hi
  rw [hq] at r
  obtain ⟨gv, cap, vb, rfl, hcap, hv0, hv1, hb⟩ := qr_item r 0 (by simp)
  obtain ⟨bx, cb, hvb, hbase, hbx, cells, hcells⟩ := Kd.R_form hb (by show 0 < l.length; omega)
  subst hvb
  have c0 : w.cell? ⟨gq, i, none⟩ = some (.slice (some ⟨gv, 0, none⟩) 1 cap) := (blk_cell h3 i).trans e
  have cv0 : w.cell? ⟨gv, 0, none⟩ = some (.slice (some ⟨bx, 0, none⟩) l.length cb) := by simpa using hv0
  have cv1 : w.cell? ⟨gv, 1, none⟩ = some (.bool false) := by simpa using hv1
  have ci : w.cell? ⟨bi, 0, none⟩ = some (.int .i64 0) := (blk_cell hbi 0).trans rfl
  have ca : w.cell? ⟨ba, 0, none⟩ = some (.int .i64 a) := (blk_cell hba 0).trans rfl
  have cy : w.cell? ⟨bb, 0, none⟩ = some (.int .u8 y) := (blk_cell hbb 0).trans rfl
  have cx : w.cell? ⟨bx, a, none⟩ = some (.int .u8 (rd l a)) := by
    obtain ⟨_, hcb, hC⟩ := Kd.R_reads' hb
    have hC' : Kd.C (Kd.int .u8) w (some ⟨bx, 0, none⟩) l.length l := hC
    obtain ⟨ad, he, hx⟩ := Kd.at_int hC' a (by omega) (by omega)
    injection he with he
    subst he
    rw [Int.toNat_natCast, add0] at hx
    exact hx
  have fx : w.frozen? ⟨bx, a, none⟩ = false := blk_frozen hcells a
  obtain ⟨gg, capg, hgg, _, _, cellsg, hcg⟩ := Kd.R_form r (by simp)
  have hgv : gv = gg := by
    injection hgg with e1
    injection e1 with e1
    injection e1
  subst hgv
  have hxg : ¬ bx = gv := blk_ne hcells hcg (by decide)
  have hgx : ¬ gv = bx := fun h => hxg h.symm
  have fg : w.frozen? ⟨gv, 1, none⟩ = false := blk_frozen hcg 1
  have HCX := Aside0.mk hcells
  have HCG := Aside0.mk hcg
  have HR := Aside0.mk hR
  have HI := Aside0.mk hi
  have HB := Aside0.mk hB
  have H3 := Aside0.mk h3
  have HE := Aside0.mk e
  have Hr := Aside0.mk r
  have Hb := Aside0.mk hb
  have ha1 : (a : Int) < l.length := by omega
  have ha0 : (0 : Int) ≤ a := by omega
  have hd0 : decide ((a : Int) < 0) = false := decide_eq_false (by omega)
  have hd1 : decide ((l.length : Int) ≤ a) = false := decide_eq_false (by omega)
  clear hv0 hv1 h3 h4 h5 e r hb hR hi hB hq hbi hba hbb hcells hcg hgg
  go_enter Try.func72, Try.ntmps72
  go_wp2
  go_quiet (fail)
  go_wp2
  go_quiet (fail)
  go_wp2
  go_region
  go_wp2
  go_ret
  generalize (bits BinOp.xor IntKind.u8 (rd l (a : Int)) y) = z
  have kx : col bx = i + 1 := (Hb.out.1 bx rfl).1
  have kg : col gv = i + 1 := Hr.out.1 gv rfl
  obtain ⟨vv, g1, _⟩ := HR.out.blk
  have n1 : gq ≠ bx := blk_ne H3.out HCX.out (by decide)
  have n2 : gq ≠ gv := blk_ne H3.out HCG.out (by decide)
  have n3 : g ≠ bx := blk_ne g1 HCX.out (by decide)
  have n4 : g ≠ gv := blk_ne g1 HCG.out (by decide)
  refine ⟨rfl, ⟨col, HR.out.turnI HI.out H3.out HE.out ?_ ?_ ?_ ?_⟩, ((pw_below_drewN HB.out _).setCell (p := ⟨bx, a, none⟩) hbase _).setCell (p := ⟨gv, 1, none⟩) (by assumption) _⟩
  · intro k hk hc
    rw [Below.heap_setCell _ _ _ _ (fun e => hc (by rw [e]; exact kg)), Below.heap_setCell _ _ _ _ (fun e => hc (by rw [e]; exact kx))]
    rfl
  · rw [Below.heap_setCell _ _ _ _ n2, Below.heap_setCell _ _ _ _ n1]
    rfl
  · rw [Below.heap_setCell _ _ _ _ n4, Below.heap_setCell _ _ _ _ n3]
    rfl
  · refine qr_turn1 (W := w) (x := ⟨l, false⟩) (by exact Hr.out) cv0 ?_ ?_
    · rw [Below.heap_setCell _ _ _ _ hgx]
      rfl
    · exact own_store (Kd.R_drewN Hb.out _) a ha z
end Go.Proofs.Ytlcifnejpejhmaa.K

/- relay: Again, Rewind. -/
import Derived.Test.YtlcifnejpejhmaaRelL
namespace Go.Proofs.Ytlcifnejpejhmaa.K
open Go.RowKit Go.Proofs.YtlcifnejpejhmaaW.PrintWords Go.Proofs.YtlcifnejpejhmaaW.PrintLast Go.Proofs.YtlcifnejpejhmaaW.PrintMore
set_option linter.unusedVariables false
set_option linter.unusedSimpArgs false

/-- A flag set. -/
theorem qr_flag {W : World} {base : Nat} {ok : Nat → Prop} {g n c : Nat} {xs : List It} (h : QR W base ok (.slice (some ⟨g, 0, none⟩) n c) xs) (i : Nat) (hi : i < xs.length) (b : Bool) :
    QR (W.setCell ⟨g, i * 2 + 1, none⟩ (.bool b)) base ok (.slice (some ⟨g, 0, none⟩) n c) (xs.set i ⟨xs[i].f0, b⟩) := by
  obtain ⟨h0, inner, ⟨hl, ho⟩, hr⟩ := h
  have hs : IK.sz = 2 := rfl
  rcases ho with ⟨e, _⟩ | ⟨g', cap, cur, he, hbs, hh, hle, hcm, hcs, ht⟩
  · cases e
  · injection he with he1 he2 he3
    injection he1 with he1
    injection he1 with he1
    subst he1 he3
    rw [hs] at hcs ht hl
    have hMf : ∀ p q, IK.M W base (fun k => ok k ∧ some k ≠ (Value.slice (some ⟨g, 0, none⟩) n c).ownBlock) p q → IK.M (W.setCell ⟨g, i * 2 + 1, none⟩ (.bool b)) base (fun k => ok k ∧ some k ≠ (Value.slice (some ⟨g, 0, none⟩) n c).ownBlock) p q := fun p q hp => Kd.M_far hp (fun k hk => fun e => hk.2 (by rw [e]; rfl)) _
    refine ⟨h0, inner.set (i * 2 + 1) (.bool b), ⟨by rw [List.length_set, List.length_set, hs]; exact hl, .inr ⟨g, c, cur.setIfInBounds (i * 2 + 1) (.bool b), by rw [List.length_set, ← he2], hbs, blk_set hh _ _, by rw [List.length_set]; exact hle, hcm, by rw [hs]; simpa using hcs, ?_⟩⟩, ⟨by rw [List.length_set, List.length_set, hs]; exact hl, fun j p hj => ?_⟩⟩
    · rw [List.length_set, hs, Array.toList_setIfInBounds, List.take_set, ht]
    · have hr2 := hr.2
      rw [hs] at hr2 ⊢
      by_cases hji : j = i
      · subst hji
        rw [List.getElem?_set_self hi] at hj
        injection hj with hj
        subst hj
        have h1 := hr2 j xs[j] (List.getElem?_eq_getElem hi)
        obtain ⟨vb, hcc, hbb⟩ := Y.k107_openM h1
        rw [List.drop_set, if_neg (by omega), show j * 2 + 1 - j * 2 = 1 by omega, List.take_set, hcc]
        exact hMf _ _ (Y.k107_mkM _ _ _ (⟨xs[j].f0, b⟩ : It) hbb)
      · rw [List.getElem?_set_ne (Ne.symm hji)] at hj
        have h1 := hr2 j p hj
        have e : List.take 2 (List.drop (j * 2) (inner.set (i * 2 + 1) (.bool b))) = List.take 2 (List.drop (j * 2) inner) := by
          rw [List.drop_set]
          by_cases hlt : i * 2 + 1 < j * 2
          · rw [if_pos hlt]
          · rw [if_neg hlt, List.take_set_of_le (by omega)]
        rw [e]
        exact hMf _ _ h1

theorem set_ne {W : World} {a b : Addr} {v u : Value} (h : a ≠ b) (hc : W.cell? b = some u) : (W.setCell a v).cell? b = some u := by
  rw [World.cell?_setCell_other (h := h)]
  exact hc

set_option maxRecDepth 100000 in
set_option maxHeartbeats 8000000 in
theorem again1_ok (g gq i bi : Nat) (col : Nat → Nat) (vw : List It) (qs : List (List It)) (x : It) (w0 w : World) (hR : Rel w w0.heap.size g gq col vw qs) (hi : i < qs.length) (hq : qs[i] = [x]) (hl : x.f0.length ≤ 100000)
    (hbi : w.heap[bi]? = some (.cells #[.int .i64 0] 3 (0, 0))) (hB : Below w0.heap.size w0 w) :
    Calls Try.prog 73 #[.pointer (some ⟨gq, i, none⟩), .pointer (some ⟨bi, 0, none⟩)] w fun e w' => e = .returned (.bool true) ∧
      (∃ col', Rel w' w0.heap.size g gq col' vw (qs.set i [x, x])) ∧ Below w0.heap.size w0 w' ∧ FrB w w' := by
  obtain ⟨col, hcol, hR⟩ := hR.recol' (i + 1)
  obtain ⟨cs, h3, h4, h5⟩ := hR.qb
  obtain ⟨v, e, r⟩ := h5 i hi
  rw [hq] at r
  obtain ⟨gv, cap, vb, rfl, hcap, hv0, hv1, hb⟩ := qr_item r 0 (by simp)
  obtain ⟨Ab, cb, hvb, hcb, hCb⟩ := Kd.R_reads hb
  have hb' : Kd.R (Kd.int .u8) 5 w w0.heap.size (fun k => col k = i + 1 ∧ some k ≠ (Value.slice (some ⟨gv, 0, none⟩) [x].length cap).ownBlock) vb x.f0 := hb
  have hrd : Rd w vb x.f0 := Own.rd (Kd.R_mono hb' (fun _ _ => trivial))
  have hvb' : vb = .slice Ab x.f0.length cb := hvb
  subst hvb'
  have c0 : w.cell? ⟨gq, i, none⟩ = some (.slice (some ⟨gv, 0, none⟩) 1 cap) := (blk_cell h3 i).trans e
  have cv0 : w.cell? ⟨gv, 0, none⟩ = some (.slice Ab x.f0.length cb) := by simpa using hv0
  have ci : w.cell? ⟨bi, 0, none⟩ = some (.int .i64 0) := (blk_cell hbi 0).trans rfl
  have hmf : ∀ (fn : Fn) (first cap : Array Value) (w : World), (Instr.makeFunc fn first cap).run Try.prog w = .ok (.func fn first cap) w := fun _ _ _ _ => rfl
  have HR := Aside0.mk hR
  have HI := Aside0.mk hi
  have HB := Aside0.mk hB
  have H3 := Aside0.mk h3
  have HE := Aside0.mk e
  have Hr := Aside0.mk r
  have HRd := Aside0.mk hrd
  have HCol := Aside0.mk hcol
  have HL := Aside0.mk hl
  have HBI := Aside0.mk hbi
  have h1cap : (1 : Int) ≤ cap := by have : 1 ≤ cap := hcap; omega
  clear hv0 hv1 h3 h4 h5 e r hb hb' hrd hcol hR hi hB hq hbi hCb hcb hvb hl hcap
  go_enter Try.func73, Try.ntmps73
  go_wp2
  go_region_law (first
    | (go_simp; go_at_call 59; refine (qput_calls gq i 97 (i + 1) col cs _ (.slice Ab x.f0.length cb) x.f0 [x] w0 w.drew H3.out HE.out (by decide) (Kd.R_drew Hr.out) (by exact HRd.out.below (below_drew (Below.refl _ _))) HCol.out (below_drew HB.out) HR.out.ge.2 (by simp) HL.out).mono ?_; rintro e w16 ⟨rfl, ⟨v16, hb16, hr16⟩, hB16, hF16⟩; have K1 := Aside0.mk hb16; have K2 := Aside0.mk hr16; have K3 := Aside0.mk hB16; have K4 := Aside0.mk hF16; clear hb16 hr16 hB16 hF16))
  all_goals
    obtain ⟨gw, cap2, vb2, hv16, hcap2, hw0, hw1, _⟩ := qr_item K2.out 0 (by simp)
    obtain ⟨m2, hm2⟩ : ∃ m2 : Nat, m2 = 2 := ⟨_, rfl⟩
    obtain ⟨k1, hk1⟩ : ∃ k1 : Nat, k1 = 1 := ⟨_, rfl⟩
    have hv16' : v16 = .slice (some ⟨gw, 0, none⟩) m2 cap2 := by rw [hm2]; exact hv16
    subst hv16'
    have K2' : Aside0 (QR w16 w0.heap.size (fun k => col k = i + 1) (.slice (some ⟨gw, 0, none⟩) m2 cap2) [x, ⟨x.f0, false⟩]) := ⟨K2.out⟩
    have hcap3 : 2 ≤ cap2 := hcap2
    have hcap4 : (m2 : Int) ≤ cap2 := by omega
    have hk2 : (m2 : Int) - 1 = (k1 : Int) := by omega
    have hk3 : (k1 : Int) < m2 := by omega
    have hk4 : (0 : Int) ≤ k1 := by omega
    have hk5 : (0 : Int) < m2 := by omega
    have hk6 : 0 < m2 := by omega
    have hk7 : k1 < m2 := by omega
    have hk8 : ¬ m2 = 0 := by omega
    have hk9 : (k1 : Int) ≤ 1 := by omega
    have hk10 : (m2 : Int) ≤ 2 := by omega
    have hkw : IntKind.i64.wrap ((m2 : Int) - 1) = (k1 : Int) := by rw [hk2]; simp [IntKind.wrap, IntKind.bits, IntKind.signed]; omega
    have hkv : IntKind.i64.wrap (k1 : Int) = (k1 : Int) := by simp [IntKind.wrap, IntKind.bits, IntKind.signed]; omega
    have csz : i < cs.size := (Array.getElem?_eq_some_iff.1 HE.out).1
    have e16 : (cs.setIfInBounds i (.slice (some ⟨gw, 0, none⟩) m2 cap2))[i]? = some (.slice (some ⟨gw, 0, none⟩) m2 cap2) := by rw [Array.getElem?_setIfInBounds_self_of_lt csz]
    have c16 : w16.cell? ⟨gq, i, none⟩ = some (.slice (some ⟨gw, 0, none⟩) m2 cap2) := (blk_cell K1.out i).trans e16
    have hb16 : w16.heap[bi]? = some (.cells #[.int .i64 0] 3 (0, 0)) := K4.out.2.2 bi _ _ _ HBI.out (by decide) (blk_ne HBI.out H3.out (by decide))
    have ci16 : w16.cell? ⟨bi, 0, none⟩ = some (.int .i64 0) := (blk_cell hb16 0).trans rfl
    have cf16 : w16.cell? ⟨gw, 1, none⟩ = some (.bool x.f1) := by simpa using hw1
    obtain ⟨uf, cu16, fu16⟩ := qr_cells K2'.out (k1 * 2 + 1) (by omega)
    obtain ⟨gw', capw', hgw, _, hgwlt, cellsw, hcw⟩ := Kd.R_form K2'.out (by simp)
    have hgwe : gw = gw' := by
      injection hgw with e1
      injection e1 with e1
      injection e1
    subst hgwe
    have n1 : gw ≠ gq := Ne.symm (blk_ne K1.out hcw (by decide))
    have n2 : gw ≠ bi := Ne.symm (blk_ne hb16 hcw (by decide))
    have hA1 : (⟨gw, k1 * 2 + 1, none⟩ : Addr) ≠ ⟨gq, i, none⟩ := fun h => n1 (by injection h)
    have hA2 : (⟨gw, k1 * 2 + 1, none⟩ : Addr) ≠ ⟨bi, 0, none⟩ := fun h => n2 (by injection h)
    have hA3 : (⟨gw, k1 * 2 + 1, none⟩ : Addr) ≠ ⟨gw, 1, none⟩ := fun h => by
      injection h with _ h
      omega
    have HCW := Aside0.mk hcw
    have HE16 := Aside0.mk e16
    have HK1 := Aside0.mk hk1
    clear hw0 hw1 hcw hgw hv16 hcap2 e16 hb16 c0 cv0 ci hk1 hm2
    go_wp2
    go_region_held3 (fun w' => w'.cell? ⟨gq, i, none⟩ = some (.slice (some ⟨gw, 0, none⟩) m2 cap2) ∧ w'.cell? ⟨bi, 0, none⟩ = some (.int .i64 0) ∧ w'.cell? ⟨gw, 1, none⟩ = some (.bool x.f1))
      (first | exact ⟨c16, ci16, cf16⟩ | exact ⟨set_ne hA1 c16, set_ne hA2 ci16, set_ne hA3 cf16⟩)
      (first | fail)
    go_wp2
    go_ret
    have hcw' := HCW.out
    obtain ⟨vv, g1, _⟩ := HR.out.blk
    have HR16 := (HR.out.below (below_drew (Below.refl _ _))).turnQ HI.out (by exact H3.out) K1.out K2.out K4.out
    obtain ⟨vv2, g2, _⟩ := HR16.blk
    have n3 : g ≠ gw := blk_ne g2 hcw' (by decide)
    have kg : col gw = i + 1 := K2'.out.1 gw rfl
    have hl2 : i < (qs.set i ([x] ++ [⟨x.f0, false⟩])).length := by rw [List.length_set]; exact HI.out
    refine ⟨rfl, ⟨col, ?_⟩, K3.out.drew.setCell (p := ⟨gw, k1 * 2 + 1, none⟩) (by assumption) _, ?_⟩
    · have h1 := HR16.turnI (W' := (w16.setCell ⟨gw, k1 * 2 + 1, none⟩ (.bool x.f1)).drew) hl2 K1.out HE16.out (xs' := [x, x]) ?_ ?_ ?_ ?_
      · rw [List.set_set] at h1
        exact h1
      · intro k hk hc
        exact Below.heap_setCell _ _ _ _ (fun e => hc (by rw [e]; exact kg))
      · exact Below.heap_setCell _ _ _ _ (Ne.symm n1)
      · exact Below.heap_setCell _ _ _ _ n3
      · have h2 := qr_flag K2'.out 1 (by simp) x.f1
        rw [HK1.out]
        exact Kd.R_drew h2
    · have h3 : FrB w w16 := (FrB.below (below_drew (Below.refl _ _))).trans (K4.out.bytes (by exact H3.out) (by decide))
      exact h3.set hcw' (by decide) _ _
end Go.Proofs.Ytlcifnejpejhmaa.K

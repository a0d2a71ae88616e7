/- relay: the closure of Again. relay: the closure of Turn. relay: Drop, Again, Turn: do, and the methods. relay: Drop, Again, Swap, Turn, Next where there is none. relay: Rewind, Forge; what is too large. relay: the closure of Swap. relay: Swap. -/
import Derived.Test.YteeddalalfemmaaMA
import Derived.Test.YteeddalalfemmaaWTab
namespace Go.Proofs.Yteeddalalfemmaa.K
open Go.RowKit Go.Proofs.YteeddalalfemmaaW.PrintWords Go.Proofs.YteeddalalfemmaaW.PrintLast Go.Proofs.YteeddalalfemmaaW.PrintMore
set_option linter.unusedVariables false
set_option linter.unusedSimpArgs false

theorem set_ne {W : World} {a b : Addr} {v u : Value} (h : a ≠ b) (hc : W.cell? b = some u) : (W.setCell a v).cell? b = some u := by
  rw [World.cell?_setCell_other (h := h)]
  exact hc

set_option maxRecDepth 100000 in
set_option maxHeartbeats 8000000 in
theorem again1_calls (g gq i j bi : Nat) (col0 : Nat → Nat) (vw : List It) (qs : List (List It)) (xs : List It) (x : It) (w0 w : World) (hR0 : Rel w w0.heap.size g gq col0 vw qs) (hi : i < qs.length) (hxs : qs[i] = xs) (hj : j < xs.length) (hx : xs[j] = x) (hq : xs.length ≤ 90000) (hl : x.f0.length ≤ 100000) (hlo : col0 gq < 9) (hi8 : i < 8)
    (hbi : w.heap[bi]? = some (.cells #[.int .i64 j] 3 (0, 0))) (hB : Below w0.heap.size w0 w) :
    Calls Try.prog 38 #[.pointer (some ⟨gq, i, none⟩), .pointer (some ⟨bi, 0, none⟩)] w fun e w' => e = .returned (.bool true) ∧ Did w0 w w' g gq col0 vw (qs.set i (xs ++ [x])) := by
  have hlt0 := hR0.lt
  obtain ⟨col, hcol, hR, hL0⟩ := hR0.recol' (i + 1)
  have HLO := Aside0.mk (hL0.lo hlt0.2 hlo)
  have HL0 := Aside0.mk hL0
  obtain ⟨cs, h3, h4, h5⟩ := hR.qb
  obtain ⟨v, e, r⟩ := h5 i hi
  rw [hxs] at r
  obtain ⟨gv, cap, vb, rfl, hcap, hv0, hv1, hb⟩ := qr_item r j hj
  rw [hx] at hv1 hb
  obtain ⟨Ab, cb, hvb, hcb, hCb⟩ := Kd.R_reads hb
  have hrd : Rd w vb x.f0 := Own.rd (Kd.R_mono hb (fun _ _ => trivial))
  have hvb' : vb = .slice Ab x.f0.length cb := hvb
  subst hvb'
  obtain ⟨n, hn⟩ : ∃ n, xs.length = n := ⟨_, rfl⟩
  have c0 : w.cell? ⟨gq, i, none⟩ = some (.slice (some ⟨gv, 0, none⟩) n cap) := by rw [← hn]; exact (blk_cell h3 i).trans e
  have cv0 : w.cell? ⟨gv, j * 2, none⟩ = some (.slice Ab x.f0.length cb) := hv0
  have ci : w.cell? ⟨bi, 0, none⟩ = some (.int .i64 j) := (blk_cell hbi 0).trans rfl
  have hmf : ∀ (fn : Fn) (first cap : Array Value) (w : World), (Instr.makeFunc fn first cap).run Try.prog w = .ok (.func fn first cap) w := fun _ _ _ _ => rfl
  have HR := Aside0.mk hR
  have HI := Aside0.mk hi
  have HJ := Aside0.mk hj
  have HX := Aside0.mk hx
  have HXS := Aside0.mk hxs
  have HN := Aside0.mk hn
  have HB := Aside0.mk hB
  have H3 := Aside0.mk h3
  have HE := Aside0.mk e
  have Hr := Aside0.mk r
  have HRd := Aside0.mk hrd
  have HCol := Aside0.mk hcol
  have HL := Aside0.mk hl
  have HBI := Aside0.mk hbi
  have hjn : j < n := by omega
  have hj1 : (j : Int) < n := by omega
  have hj0 : (0 : Int) ≤ j := by omega
  have hn9 : n ≤ 90000 := by omega
  have hncap : n ≤ cap := by omega
  have h1cap : (n : Int) ≤ cap := by omega
  have hn0 : ¬ n = 0 := by omega
  clear hv0 hv1 h3 h4 h5 e r hb hrd hcol hR hR0 hB hxs hbi hCb hcb hvb hl hcap hx hn hq hL0 hlt0 hlo
  go_enter Try.func38, Try.ntmps38
  go_wp2
  go_region_law (first
    | (go_simp; go_at_call 31; refine (qput_calls gq i 51 (i + 1) col cs _ (.slice Ab x.f0.length cb) x.f0 xs w0 w.drew H3.out HE.out (by decide) (Kd.S_drew Hr.out) (by exact HRd.out.below (below_drew (Below.refl _ _))) HCol.out (below_drew HB.out) HR.out.ge.2 (by have := HN.out; omega) HL.out).mono ?_; rintro e w16 ⟨rfl, ⟨v16, hb16, hr16⟩, hB16, hF16⟩; have K1 := Aside0.mk hb16; have K2 := Aside0.mk hr16; have K3 := Aside0.mk hB16; have K4 := Aside0.mk hF16; clear hb16 hr16 hB16 hF16))
  all_goals
    have hlen2 : (xs ++ [(⟨x.f0, false⟩ : It)]).length = n + 1 := by rw [List.length_append, HN.out]; rfl
    obtain ⟨gw, cap2, vb2, hv16, hcap2, hw0, hw1, hwr⟩ := qr_item K2.out j (by omega)
    clear hwr
    rw [hlen2] at hv16 hcap2
    rw [List.getElem_append_left HJ.out, HX.out] at hw1
    obtain ⟨m2, hm2⟩ : ∃ m2 : Nat, m2 = n + 1 := ⟨_, rfl⟩
    obtain ⟨k1, hk1⟩ : ∃ k1 : Nat, k1 = n := ⟨_, rfl⟩
    have hv16' : v16 = .slice (some ⟨gw, 0, none⟩) m2 cap2 := by rw [hm2]; exact hv16
    subst hv16'
    have K2' : Aside0 (QR w16 w0.heap.size (fun k => col k = i + 1) (.slice (some ⟨gw, 0, none⟩) m2 cap2) (xs ++ [⟨x.f0, false⟩])) := ⟨K2.out⟩
    have hcap3 : m2 ≤ cap2 := by omega
    have hcap4 : (m2 : Int) ≤ cap2 := by omega
    have hk2 : (m2 : Int) - 1 = (k1 : Int) := by omega
    have hk3 : (k1 : Int) < m2 := by omega
    have hk4 : (0 : Int) ≤ k1 := by omega
    have hk5 : (0 : Int) < m2 := by omega
    have hk6 : 0 < m2 := by omega
    have hk7 : k1 < m2 := by omega
    have hk8 : ¬ m2 = 0 := by omega
    have hk9 : (k1 : Int) ≤ 90000 := by omega
    have hk10 : (m2 : Int) ≤ 90001 := by omega
    have hk11 : j < m2 := by omega
    have hk12 : (j : Int) < m2 := by omega
    have hkw : IntKind.i64.wrap ((m2 : Int) - 1) = (k1 : Int) := by rw [hk2]; simp [IntKind.wrap, IntKind.bits, IntKind.signed]; omega
    have hkv : IntKind.i64.wrap (k1 : Int) = (k1 : Int) := by simp [IntKind.wrap, IntKind.bits, IntKind.signed]; omega
    have csz : i < cs.size := (Array.getElem?_eq_some_iff.1 HE.out).1
    have e16 : (cs.setIfInBounds i (.slice (some ⟨gw, 0, none⟩) m2 cap2))[i]? = some (.slice (some ⟨gw, 0, none⟩) m2 cap2) := by rw [Array.getElem?_setIfInBounds_self_of_lt csz]
    have c16 : w16.cell? ⟨gq, i, none⟩ = some (.slice (some ⟨gw, 0, none⟩) m2 cap2) := (blk_cell K1.out i).trans e16
    have hb16 : w16.heap[bi]? = some (.cells #[.int .i64 j] 3 (0, 0)) := K4.out.2.2 bi _ _ _ HBI.out (by decide) (blk_ne HBI.out H3.out (by decide))
    have ci16 : w16.cell? ⟨bi, 0, none⟩ = some (.int .i64 j) := (blk_cell hb16 0).trans rfl
    have cf16 : w16.cell? ⟨gw, j * 2 + 1, none⟩ = some (.bool x.f1) := hw1
    obtain ⟨uf, cu16, fu16⟩ := qr_cells K2'.out (k1 * 2 + 1) (by omega)
    obtain ⟨gw', capw', hgw, _, hgwlt, cellsw, hcw⟩ := Kd.S_form K2'.out (by rw [hlen2]; omega)
    have hgwe : gw = gw' := by
      injection hgw with e1
      injection e1 with e1
      injection e1
    subst hgwe
    have n1 : gw ≠ gq := Ne.symm (blk_ne K1.out hcw (by decide))
    have n2 : gw ≠ bi := Ne.symm (blk_ne hb16 hcw (by decide))
    have hA1 : (⟨gw, k1 * 2 + 1, none⟩ : Addr) ≠ ⟨gq, i, none⟩ := fun h => n1 (by injection h)
    have hA2 : (⟨gw, k1 * 2 + 1, none⟩ : Addr) ≠ ⟨bi, 0, none⟩ := fun h => n2 (by injection h)
    have hA3 : (⟨gw, k1 * 2 + 1, none⟩ : Addr) ≠ ⟨gw, j * 2 + 1, none⟩ := fun h => by
      injection h with _ h
      omega
    have HCW := Aside0.mk hcw
    have HE16 := Aside0.mk e16
    have HK1 := Aside0.mk hk1
    have HLEN2 := Aside0.mk hlen2
    clear hw0 hw1 hcw hgw hv16 hcap2 e16 hb16 c0 cv0 ci hk1 hm2 hlen2
    go_wp2
    go_region_held3 (fun w' => w'.cell? ⟨gq, i, none⟩ = some (.slice (some ⟨gw, 0, none⟩) m2 cap2) ∧ w'.cell? ⟨bi, 0, none⟩ = some (.int .i64 j) ∧ w'.cell? ⟨gw, j * 2 + 1, none⟩ = some (.bool x.f1))
      (first | exact ⟨c16, ci16, cf16⟩ | exact ⟨set_ne hA1 c16, set_ne hA2 ci16, set_ne hA3 cf16⟩)
      (first | fail)
    go_wp2
    go_ret
    have hcw' := HCW.out
    obtain ⟨vv, g1, _⟩ := HR.out.blk
    have HR16 := (HR.out.below (below_drew (Below.refl _ _))).turnQ HI.out (by exact H3.out) K1.out K2.out K4.out
    obtain ⟨vv2, g2, _⟩ := HR16.blk
    have n3 : g ≠ gw := blk_ne g2 hcw' (by decide)
    have kg : col gw = i + 1 := qs_ok K2'.out gw rfl
    have hl2 : i < (qs.set i (xs ++ [⟨x.f0, false⟩])).length := by rw [List.length_set]; exact HI.out
    have hLw : Left w w16 col0 col := (HL0.out.trans (Left.below col (below_drew (Below.refl _ _)))).trans (K4.out.left (by omega) HLO.out)
    refine ⟨rfl, ⟨col, ?_, ?_⟩, K3.out.drew.setCell (p := ⟨gw, k1 * 2 + 1, none⟩) (by assumption) _⟩
    · have h1 := HR16.turnI (W' := (w16.setCell ⟨gw, k1 * 2 + 1, none⟩ (.bool x.f1)).drew) hl2 K1.out HE16.out (xs' := xs ++ [x]) ?_ ?_ ?_ ?_
      · rw [List.set_set] at h1
        exact h1
      · intro k hk hc
        exact Below.heap_setCell _ _ _ _ (fun e => hc (by rw [e]; exact kg))
      · exact Below.heap_setCell _ _ _ _ (Ne.symm n1)
      · exact Below.heap_setCell _ _ _ _ n3
      · have h2 := qs_flag K2'.out n (by rw [HLEN2.out]; omega) x.f1
        rw [HK1.out]
        have e3 : (xs ++ [(⟨x.f0, false⟩ : It)]).set n ⟨((xs ++ [(⟨x.f0, false⟩ : It)])[n]'(by rw [HLEN2.out]; omega)).f0, x.f1⟩ = xs ++ [x] := by
          have e4 : (xs ++ [(⟨x.f0, false⟩ : It)])[n]'(by rw [HLEN2.out]; omega) = ⟨x.f0, false⟩ := by
            simp [← HN.out]
          rw [e4, List.set_append_right _ _ (by rw [HN.out]; exact Nat.le_refl _), HN.out, Nat.sub_self]
          rfl
        rw [e3] at h2
        exact Kd.S_drew h2
    · refine (hLw.set (k := gw) ?_ (k1 * 2 + 1) (.bool x.f1)).trans (Left.below col (below_drew (Below.refl _ _)))
      by_cases hgl : gw < w.heap.size
      · right
        have := HL0.out.2.1 gw hgl
        omega
      · left
        omega
end Go.Proofs.Yteeddalalfemmaa.K

namespace Go.Proofs.Yteeddalalfemmaa.K
open Go.RowKit Go.Proofs.YteeddalalfemmaaW.PrintWords Go.Proofs.YteeddalalfemmaaW.PrintLast Go.Proofs.YteeddalalfemmaaW.PrintMore
set_option linter.unusedVariables false
set_option linter.unusedSimpArgs false

set_option maxRecDepth 100000 in
set_option maxHeartbeats 8000000 in
theorem turn1_no (g gq i jj bi ba bb : Nat) (at_ y : Int) (col : Nat → Nat) (vw : List It) (qs : List (List It)) (b0 : Nat) (w : World) (hR : Rel w b0 g gq col vw qs) (hi : i < qs.length) (hjl : jj < qs[i].length) (hn : at_ < 0 ∨ (qs[i][jj].f0.length : Int) ≤ at_ ∨ qs[i][jj].f1 = true)
    (hbi : w.heap[bi]? = some (.cells #[.int .i64 jj] 3 (0, 0))) (hba : w.heap[ba]? = some (.cells #[.int .i64 at_] 3 (0, 0))) (hbb : w.heap[bb]? = some (.cells #[.int .u8 y] 5 (0, 0))) :
    Calls Try.prog 41 #[.pointer (some ⟨gq, i, none⟩), .pointer (some ⟨bi, 0, none⟩), .pointer (some ⟨ba, 0, none⟩), .pointer (some ⟨bb, 0, none⟩)] w fun e w' => e = .returned (.bool false) ∧ Drawn0 w w' := by
  obtain ⟨cs, h3, h4, h5⟩ := hR.qb
  obtain ⟨v, e, r⟩ := h5 i hi
  obtain ⟨gv, cap, vb, rfl, hcap, hv0, hv1, hb⟩ := qr_item r jj hjl
  obtain ⟨Ab, cb, rfl, hcb, hCb⟩ := Kd.R_reads hb
  have c0 : w.cell? ⟨gq, i, none⟩ = some (.slice (some ⟨gv, 0, none⟩) qs[i].length cap) := (blk_cell h3 i).trans e
  have ci : w.cell? ⟨bi, 0, none⟩ = some (.int .i64 jj) := (blk_cell hbi 0).trans rfl
  have ca : w.cell? ⟨ba, 0, none⟩ = some (.int .i64 at_) := (blk_cell hba 0).trans rfl
  have hj1 : (jj : Int) < qs[i].length := by omega
  have hj0 : (0 : Int) ≤ jj := by omega
  clear h3 h4 h5 e r hb hR hbi hba hbb hCb hcb
  generalize qs[i][jj] = x at hn hv0 hv1
  generalize qs[i].length = n at c0 hj1 hjl hcap
  obtain ⟨m, hm⟩ : ∃ m, x.f0.length = m := ⟨_, rfl⟩
  rw [hm] at hn hv0
  clear hm
  have hcap2 : (n : Int) ≤ cap := by omega
  by_cases h0 : at_ < 0
  · go_enter Try.func41, Try.ntmps41
    go_wp2
    go_quiet (fail)
    go_wp2
    go_quiet (fail)
    go_wp2
    go_ret
    exact ⟨rfl, by repeat (first | exact Drawn0.refl _ | apply Drawn0.step)⟩
  · by_cases h1 : (m : Int) ≤ at_
    · have h0' : decide (at_ < 0) = false := decide_eq_false h0
      go_enter Try.func41, Try.ntmps41
      go_wp2
      go_quiet (fail)
      go_wp2
      go_quiet (fail)
      go_wp2
      go_ret
      exact ⟨rfl, by repeat (first | exact Drawn0.refl _ | apply Drawn0.step)⟩
    · have h0' : decide (at_ < 0) = false := decide_eq_false h0
      have h1' : decide ((m : Int) ≤ at_) = false := decide_eq_false h1
      have h2 : x.f1 = true := by
        rcases hn with h | h | h
        · exact absurd h h0
        · exact absurd h h1
        · exact h
      rw [h2] at hv1
      go_enter Try.func41, Try.ntmps41
      go_wp2
      go_quiet (fail)
      go_wp2
      go_quiet (fail)
      go_wp2
      go_ret
      exact ⟨rfl, by repeat (first | exact Drawn0.refl _ | apply Drawn0.step)⟩

set_option maxRecDepth 100000 in
set_option maxHeartbeats 4000000 in
theorem turn1_ok (g gq i j bi ba bb a : Nat) (col : Nat → Nat) (vw : List It) (qs : List (List It)) (xs : List It) (l : List Int) (y : Int) (w0 w : World) (hR : Rel w w0.heap.size g gq col vw qs) (hi : i < qs.length) (hxs : qs[i] = xs) (hj : j < xs.length) (hq : xs[j] = ⟨l, false⟩) (hn9 : xs.length ≤ 90000) (ha : a < l.length) (hl : l.length ≤ 100000) (hi8 : i < 8)
    (hbi : w.heap[bi]? = some (.cells #[.int .i64 j] 3 (0, 0))) (hba : w.heap[ba]? = some (.cells #[.int .i64 a] 3 (0, 0))) (hbb : w.heap[bb]? = some (.cells #[.int .u8 y] 5 (0, 0))) (hB : Below w0.heap.size w0 w) :
    Calls Try.prog 41 #[.pointer (some ⟨gq, i, none⟩), .pointer (some ⟨bi, 0, none⟩), .pointer (some ⟨ba, 0, none⟩), .pointer (some ⟨bb, 0, none⟩)] w fun e w' => e = .returned (.bool true) ∧
      Did w0 w w' g gq col vw (qs.set i (xs.set j ⟨l.set a (bits .xor .u8 (rd l a) y), true⟩)) := by
  obtain ⟨cs, h3, h4, h5⟩ := hR.qb
  obtain ⟨v, e, r⟩ := h5 i hi
  rw [hxs] at r
  obtain ⟨gv, cap, vb, rfl, hcap, hv0, hv1, hb⟩ := qr_item r j hj
  rw [hq] at hv1 hb
  obtain ⟨bx, cb, hvb, hbase, hbx, cells, hcells⟩ := Kd.R_form hb (by show 0 < l.length; omega)
  subst hvb
  obtain ⟨n, hn⟩ : ∃ n, xs.length = n := ⟨_, rfl⟩
  have c0 : w.cell? ⟨gq, i, none⟩ = some (.slice (some ⟨gv, 0, none⟩) n cap) := by rw [← hn]; exact (blk_cell h3 i).trans e
  have cv0 : w.cell? ⟨gv, j * 2, none⟩ = some (.slice (some ⟨bx, 0, none⟩) l.length cb) := hv0
  have cv1 : w.cell? ⟨gv, j * 2 + 1, none⟩ = some (.bool false) := hv1
  have ci : w.cell? ⟨bi, 0, none⟩ = some (.int .i64 j) := (blk_cell hbi 0).trans rfl
  have ca : w.cell? ⟨ba, 0, none⟩ = some (.int .i64 a) := (blk_cell hba 0).trans rfl
  have cy : w.cell? ⟨bb, 0, none⟩ = some (.int .u8 y) := (blk_cell hbb 0).trans rfl
  have cx : w.cell? ⟨bx, a, none⟩ = some (.int .u8 (rd l a)) := by
    obtain ⟨_, hcb, hC⟩ := Kd.R_reads' hb
    have hC' : Kd.C (Kd.int .u8) w (some ⟨bx, 0, none⟩) l.length l := hC
    obtain ⟨ad, he, hx⟩ := Kd.at_int hC' a (by omega) (by omega)
    injection he with he
    subst he
    rw [Int.toNat_natCast, add0] at hx
    exact hx
  have fx : w.frozen? ⟨bx, a, none⟩ = false := blk_frozen hcells a
  obtain ⟨gg, capg, hgg, hbg, _, cellsg, hcg⟩ := Kd.S_form r (by omega)
  have hgv : gv = gg := by
    injection hgg with e1
    injection e1 with e1
    injection e1
  subst hgv
  have hxg : ¬ bx = gv := blk_ne hcells hcg (by decide)
  have hgx : ¬ gv = bx := fun h => hxg h.symm
  have fg : w.frozen? ⟨gv, j * 2 + 1, none⟩ = false := blk_frozen hcg _
  have HCX := Aside0.mk hcells
  have HCG := Aside0.mk hcg
  have HR := Aside0.mk hR
  have HI := Aside0.mk hi
  have HB := Aside0.mk hB
  have H3 := Aside0.mk h3
  have HE := Aside0.mk e
  have Hr := Aside0.mk r
  have Hb := Aside0.mk hb
  have HV0 := Aside0.mk cv0
  have HQ := Aside0.mk hq
  have HBG := Aside0.mk hbg
  have hjn : j < n := by omega
  have hj1 : (j : Int) < n := by omega
  have hj0 : (0 : Int) ≤ j := by omega
  have hnc : (n : Int) ≤ cap := by omega
  have hn0 : ¬ n = 0 := by omega
  have ha1 : (a : Int) < l.length := by omega
  have ha0 : (0 : Int) ≤ a := by omega
  have hd0 : decide ((a : Int) < 0) = false := decide_eq_false (by omega)
  have hd1 : decide ((l.length : Int) ≤ a) = false := decide_eq_false (by omega)
  clear hv0 hv1 h3 h4 h5 e r hb hR hB hbi hba hbb hcells hcg hgg hcap hn hn9 hbg
  go_enter Try.func41, Try.ntmps41
  go_wp2
  go_quiet (fail)
  go_wp2
  go_quiet (fail)
  go_wp2
  go_region
  go_wp2
  go_ret
  generalize (bits BinOp.xor IntKind.u8 (rd l (a : Int)) y) = z
  have kx : col bx = i + 1 := (Hb.out.1 bx rfl).1
  have kg : col gv = i + 1 := qs_ok Hr.out gv rfl
  obtain ⟨vv, g1, _⟩ := HR.out.blk
  have n1 : gq ≠ bx := blk_ne H3.out HCX.out (by decide)
  have n2 : gq ≠ gv := blk_ne H3.out HCG.out (by decide)
  have n3 : g ≠ bx := blk_ne g1 HCX.out (by decide)
  have n4 : g ≠ gv := blk_ne g1 HCG.out (by decide)
  refine ⟨rfl, ⟨col, HR.out.turnI HI.out H3.out HE.out ?_ ?_ ?_ ?_, ?_⟩, ((pw_below_drewN HB.out _).setCell (p := ⟨bx, a, none⟩) hbase _).setCell (p := ⟨gv, j * 2 + 1, none⟩) HBG.out _⟩
  · intro k hk hc
    rw [Below.heap_setCell _ _ _ _ (fun e => hc (by rw [e]; exact kg)), Below.heap_setCell _ _ _ _ (fun e => hc (by rw [e]; exact kx))]
    rfl
  · rw [Below.heap_setCell _ _ _ _ n2, Below.heap_setCell _ _ _ _ n1]
    rfl
  · rw [Below.heap_setCell _ _ _ _ n4, Below.heap_setCell _ _ _ _ n3]
    rfl
  · have key : ∀ m, QR (((w.drewN m).setCell ⟨bx, a, none⟩ (.int .u8 z)).setCell ⟨gv, j * 2 + 1, none⟩ (.bool true)) w0.heap.size (fun k => col k = i + 1) (.slice (some ⟨gv, 0, none⟩) xs.length cap) (xs.set j ⟨l.set a z, true⟩) := by
      intro m
      obtain ⟨bx2, cb2, hc2, _, _, _, _, hq2⟩ := qs_turn (Kd.S_drewN Hr.out m) j hj a (by rw [HQ.out]; exact ha) z
      have e2 := hc2.symm.trans (show (w.drewN m).cell? ⟨gv, j * 2, none⟩ = _ from HV0.out)
      injection e2 with e2
      injection e2 with e2
      injection e2 with e2
      injection e2 with e2
      subst e2
      rw [HQ.out] at hq2
      exact hq2
    exact key _
  · exact ((Left.below col (pw_below_drewN (Below.refl _ _) _)).set (.inr (by omega)) _ _).set (.inr (by omega)) _ _
end Go.Proofs.Yteeddalalfemmaa.K

namespace Go.Proofs.Yteeddalalfemmaa.K
open Go.RowKit Go.Proofs.YteeddalalfemmaaW.PrintWords Go.Proofs.YteeddalalfemmaaW.PrintLast Go.Proofs.YteeddalalfemmaaW.PrintMore
set_option linter.unusedVariables false
set_option linter.unusedSimpArgs false

theorem do_stop {w0 w w1 w' : World} {g gq : Nat} {col : Nat → Nat} {vw : List It} {qs : List (List It)} (hb : Below w.heap.size w w1) (h : Did w0 w1 w' g gq col vw qs) : Did w0 w w' g gq col vw qs := h.pre (Left.below col hb)

theorem drop1x (g gq i j bi : Nat) (col : Nat → Nat) (vw : List It) (qs : List (List It)) (xs : List It) (w0 w : World) (hR : Rel w w0.heap.size g gq col vw qs) (hi : i < qs.length) (hxs : qs[i] = xs) (hj : j < xs.length) (hq : xs.length ≤ 90000) (hlo : col gq < 9) (hi8 : i < 8)
    (hbi : w.heap[bi]? = some (.cells #[.int .i64 j] 3 (0, 0))) (hB : Below w0.heap.size w0 w) :
    Calls Try.prog 37 #[.pointer (some ⟨gq, i, none⟩), .pointer (some ⟨bi, 0, none⟩)] w fun e w' => e = .returned (.bool true) ∧ Did w0 w w' g gq col vw (qs.set i (xs.eraseIdx j)) := by
  subst hxs
  exact drop1_calls g gq i j bi col vw qs w0 w hR hi hj hq hlo hi8 hbi hB
theorem turn1x (g gq i j bi ba bb : Nat) (at_ y : Int) (col : Nat → Nat) (vw : List It) (qs : List (List It)) (xs : List It) (w0 w : World) (hR : Rel w w0.heap.size g gq col vw qs) (hi : i < qs.length) (hxs : qs[i] = xs) (hj : j < xs.length) (hn : at_ < 0 ∨ (xs[j].f0.length : Int) ≤ at_ ∨ xs[j].f1 = true)
    (hbi : w.heap[bi]? = some (.cells #[.int .i64 j] 3 (0, 0))) (hba : w.heap[ba]? = some (.cells #[.int .i64 at_] 3 (0, 0))) (hbb : w.heap[bb]? = some (.cells #[.int .u8 y] 5 (0, 0))) (hB : Below w0.heap.size w0 w) :
    Calls Try.prog 41 #[.pointer (some ⟨gq, i, none⟩), .pointer (some ⟨bi, 0, none⟩), .pointer (some ⟨ba, 0, none⟩), .pointer (some ⟨bb, 0, none⟩)] w fun e w' => e = .returned (.bool false) ∧ Did w0 w w' g gq col vw qs := by
  subst hxs
  refine (turn1_no g gq i j bi ba bb at_ y col vw qs w0.heap.size w hR hi hj hn hbi hba hbb).mono ?_
  rintro e w' ⟨rfl, ⟨m, rfl⟩⟩
  exact ⟨rfl, Did.none hR hB (pw_below_drewN (Below.refl _ _) m)⟩

set_option maxRecDepth 100000 in
set_option maxHeartbeats 4000000 in
theorem rdo_drop (g gq i j bi : Nat) (col : Nat → Nat) (vw : List It) (qs : List (List It)) (xs : List It) (w0 w : World) (hR : Rel w w0.heap.size g gq col vw qs) (hi : i < qs.length) (hxs : qs[i] = xs) (hj : j < xs.length) (hq : xs.length ≤ 90000) (hlo : col gq < 9) (hi8 : i < 8)
    (hbi : w.heap[bi]? = some (.cells #[.int .i64 j] 3 (0, 0))) (hB : Below w0.heap.size w0 w) :
    Calls Try.prog 32 #[.pointer (some ⟨g, 0, none⟩), .int .i64 i, .int .i64 j, .func (.func 37) #[] #[.pointer (some ⟨bi, 0, none⟩)]] w fun e w' => e = .returned (.bool true) ∧ Did w0 w w' g gq col vw (qs.set i (xs.eraseIdx j)) := by
  obtain ⟨vv, h1, _⟩ := hR.blk
  obtain ⟨cs, h3, h4, h5⟩ := hR.qb
  obtain ⟨v, e, r⟩ := h5 i hi
  obtain ⟨A, c, rfl, hc, hC⟩ := Kd.S_reads r
  have c0 : w.cell? ⟨gq, i, none⟩ = some (.slice A qs[i].length c) := (blk_cell h3 i).trans e
  have C0 := Aside0.mk c0
  have HI := Aside0.mk hi
  have H1 := Aside0.mk h1
  have HD : Aside0 (decide ((0 : Int) ≤ (j : Int) ∧ (j : Int) < qs[i].length) = true) := ⟨decide_eq_true ⟨by omega, by rw [hxs]; omega⟩⟩
  clear h1 h3 h4 h5 e r hC c0 hc
  go_enter Try.func32, Try.ntmps32
  go_wp2_with (first
    | ((with_reducible refine gate_dst (N := 12) rfl ?_); go_must (((try (refine gate_guard (by rfl) ?_; dsimp only)); refine goesL_ (some 12) rfl rfl Try.func30 (by kernel_rfl) rfl #[.pointer (some ⟨g, 0, none⟩), .int .i64 i] rfl ?hA ?_; (case hA => ((try simp only [List.map_toArray, List.map_cons, List.map_nil]); first | done | rfl)); refine (of_in g gq _ i vv _ H1.out HI.out).mono ?_; rintro e w12 ⟨rfl, ⟨m12, rfl⟩⟩; refine ⟨_, rfl, ?_⟩; skip)))
    | ((with_reducible refine gate_dst (N := 18) rfl ?_); go_must (((try (refine gate_guard (by rfl) ?_; dsimp only)); refine goesL_ (some 18) rfl rfl Try.func40 (by kernel_rfl) rfl #[.pointer (some ⟨gq, i, none⟩), .int .i64 j] rfl ?hA ?_; (case hA => ((try simp only [List.map_toArray, List.map_cons, List.map_nil]); first | done | rfl)); refine (qhas_calls gq i _ c A j (w.drewN m12) (by exact C0.out)).mono ?_; rintro e w18 ⟨rfl, ⟨m18, rfl⟩⟩; refine ⟨_, rfl, ?_⟩; rw [HD.out])))
    | (go_at_call 37; go_must ((refine (drop1x g gq i j bi col vw qs xs w0 (w.drewN (m12 + m18)) (hR.drewN (m12 + m18)) HI.out hxs hj hq hlo hi8 (by exact hbi) (pw_below_drewN hB (m12 + m18))).mono ?_; rintro e w23 ⟨rfl, h1⟩; have K1 := Aside0.mk (do_stop (pw_below_drewN (Below.refl _ _) (m12 + m18)) h1); clear h1))))
  go_ret
  exact ⟨rfl, K1.out⟩

set_option maxRecDepth 100000 in
set_option maxHeartbeats 4000000 in
theorem rdo_again (g gq i j bi : Nat) (x : It) (col : Nat → Nat) (vw : List It) (qs : List (List It)) (xs : List It) (w0 w : World) (hR : Rel w w0.heap.size g gq col vw qs) (hi : i < qs.length) (hxs : qs[i] = xs) (hj : j < xs.length) (hx : xs[j] = x) (hq : xs.length ≤ 90000) (hl : x.f0.length ≤ 100000) (hlo : col gq < 9) (hi8 : i < 8)
    (hbi : w.heap[bi]? = some (.cells #[.int .i64 j] 3 (0, 0))) (hB : Below w0.heap.size w0 w) :
    Calls Try.prog 32 #[.pointer (some ⟨g, 0, none⟩), .int .i64 i, .int .i64 j, .func (.func 38) #[] #[.pointer (some ⟨bi, 0, none⟩)]] w fun e w' => e = .returned (.bool true) ∧ Did w0 w w' g gq col vw (qs.set i (xs ++ [x])) := by
  obtain ⟨vv, h1, _⟩ := hR.blk
  obtain ⟨cs, h3, h4, h5⟩ := hR.qb
  obtain ⟨v, e, r⟩ := h5 i hi
  obtain ⟨A, c, rfl, hc, hC⟩ := Kd.S_reads r
  have c0 : w.cell? ⟨gq, i, none⟩ = some (.slice A qs[i].length c) := (blk_cell h3 i).trans e
  have C0 := Aside0.mk c0
  have HI := Aside0.mk hi
  have H1 := Aside0.mk h1
  have HD : Aside0 (decide ((0 : Int) ≤ (j : Int) ∧ (j : Int) < qs[i].length) = true) := ⟨decide_eq_true ⟨by omega, by rw [hxs]; omega⟩⟩
  clear h1 h3 h4 h5 e r hC c0 hc
  go_enter Try.func32, Try.ntmps32
  go_wp2_with (first
    | ((with_reducible refine gate_dst (N := 12) rfl ?_); go_must (((try (refine gate_guard (by rfl) ?_; dsimp only)); refine goesL_ (some 12) rfl rfl Try.func30 (by kernel_rfl) rfl #[.pointer (some ⟨g, 0, none⟩), .int .i64 i] rfl ?hA ?_; (case hA => ((try simp only [List.map_toArray, List.map_cons, List.map_nil]); first | done | rfl)); refine (of_in g gq _ i vv _ H1.out HI.out).mono ?_; rintro e w12 ⟨rfl, ⟨m12, rfl⟩⟩; refine ⟨_, rfl, ?_⟩; skip)))
    | ((with_reducible refine gate_dst (N := 18) rfl ?_); go_must (((try (refine gate_guard (by rfl) ?_; dsimp only)); refine goesL_ (some 18) rfl rfl Try.func40 (by kernel_rfl) rfl #[.pointer (some ⟨gq, i, none⟩), .int .i64 j] rfl ?hA ?_; (case hA => ((try simp only [List.map_toArray, List.map_cons, List.map_nil]); first | done | rfl)); refine (qhas_calls gq i _ c A j (w.drewN m12) (by exact C0.out)).mono ?_; rintro e w18 ⟨rfl, ⟨m18, rfl⟩⟩; refine ⟨_, rfl, ?_⟩; rw [HD.out])))
    | (go_at_call 38; go_must ((refine (again1_calls g gq i j bi col vw qs xs x w0 (w.drewN (m12 + m18)) (hR.drewN (m12 + m18)) HI.out hxs hj hx hq hl hlo hi8 (by exact hbi) (pw_below_drewN hB (m12 + m18))).mono ?_; rintro e w23 ⟨rfl, h1⟩; have K1 := Aside0.mk (do_stop (pw_below_drewN (Below.refl _ _) (m12 + m18)) h1); clear h1))))
  go_ret
  exact ⟨rfl, K1.out⟩

set_option maxRecDepth 100000 in
set_option maxHeartbeats 4000000 in
theorem rdo_turn_ok (g gq i j bi ba bb : Nat) (a : Nat) (y : Int) (l : List Int) (col : Nat → Nat) (vw : List It) (qs : List (List It)) (xs : List It) (w0 w : World) (hR : Rel w w0.heap.size g gq col vw qs) (hi : i < qs.length) (hxs : qs[i] = xs) (hj : j < xs.length) (hq : xs[j] = ⟨l, false⟩) (hn9 : xs.length ≤ 90000) (ha : a < l.length) (hl : l.length ≤ 100000) (hi8 : i < 8)
    (hbi : w.heap[bi]? = some (.cells #[.int .i64 j] 3 (0, 0))) (hba : w.heap[ba]? = some (.cells #[.int .i64 a] 3 (0, 0))) (hbb : w.heap[bb]? = some (.cells #[.int .u8 y] 5 (0, 0))) (hB : Below w0.heap.size w0 w) :
    Calls Try.prog 32 #[.pointer (some ⟨g, 0, none⟩), .int .i64 i, .int .i64 j, .func (.func 41) #[] #[.pointer (some ⟨bi, 0, none⟩), .pointer (some ⟨ba, 0, none⟩), .pointer (some ⟨bb, 0, none⟩)]] w fun e w' => e = .returned (.bool true) ∧ Did w0 w w' g gq col vw (qs.set i (xs.set j ⟨l.set a (bits .xor .u8 (rd l a) y), true⟩)) := by
  obtain ⟨vv, h1, _⟩ := hR.blk
  obtain ⟨cs, h3, h4, h5⟩ := hR.qb
  obtain ⟨v, e, r⟩ := h5 i hi
  obtain ⟨A, c, rfl, hc, hC⟩ := Kd.S_reads r
  have c0 : w.cell? ⟨gq, i, none⟩ = some (.slice A qs[i].length c) := (blk_cell h3 i).trans e
  have C0 := Aside0.mk c0
  have HI := Aside0.mk hi
  have H1 := Aside0.mk h1
  have HD : Aside0 (decide ((0 : Int) ≤ (j : Int) ∧ (j : Int) < qs[i].length) = true) := ⟨decide_eq_true ⟨by omega, by rw [hxs]; omega⟩⟩
  clear h1 h3 h4 h5 e r hC c0 hc
  go_enter Try.func32, Try.ntmps32
  go_wp2_with (first
    | ((with_reducible refine gate_dst (N := 12) rfl ?_); go_must (((try (refine gate_guard (by rfl) ?_; dsimp only)); refine goesL_ (some 12) rfl rfl Try.func30 (by kernel_rfl) rfl #[.pointer (some ⟨g, 0, none⟩), .int .i64 i] rfl ?hA ?_; (case hA => ((try simp only [List.map_toArray, List.map_cons, List.map_nil]); first | done | rfl)); refine (of_in g gq _ i vv _ H1.out HI.out).mono ?_; rintro e w12 ⟨rfl, ⟨m12, rfl⟩⟩; refine ⟨_, rfl, ?_⟩; skip)))
    | ((with_reducible refine gate_dst (N := 18) rfl ?_); go_must (((try (refine gate_guard (by rfl) ?_; dsimp only)); refine goesL_ (some 18) rfl rfl Try.func40 (by kernel_rfl) rfl #[.pointer (some ⟨gq, i, none⟩), .int .i64 j] rfl ?hA ?_; (case hA => ((try simp only [List.map_toArray, List.map_cons, List.map_nil]); first | done | rfl)); refine (qhas_calls gq i _ c A j (w.drewN m12) (by exact C0.out)).mono ?_; rintro e w18 ⟨rfl, ⟨m18, rfl⟩⟩; refine ⟨_, rfl, ?_⟩; rw [HD.out])))
    | (go_at_call 41; go_must ((refine (turn1_ok g gq i j bi ba bb a col vw qs xs l y w0 (w.drewN (m12 + m18)) (hR.drewN (m12 + m18)) HI.out hxs hj hq hn9 ha hl hi8 (by exact hbi) (by exact hba) (by exact hbb) (pw_below_drewN hB (m12 + m18))).mono ?_; rintro e w23 ⟨rfl, h1⟩; have K1 := Aside0.mk (do_stop (pw_below_drewN (Below.refl _ _) (m12 + m18)) h1); clear h1))))
  go_ret
  exact ⟨rfl, K1.out⟩

set_option maxRecDepth 100000 in
set_option maxHeartbeats 4000000 in
theorem rdo_turn_no (g gq i j bi ba bb : Nat) (at_ y : Int) (col : Nat → Nat) (vw : List It) (qs : List (List It)) (xs : List It) (w0 w : World) (hR : Rel w w0.heap.size g gq col vw qs) (hi : i < qs.length) (hxs : qs[i] = xs) (hj : j < xs.length) (hn : at_ < 0 ∨ (xs[j].f0.length : Int) ≤ at_ ∨ xs[j].f1 = true)
    (hbi : w.heap[bi]? = some (.cells #[.int .i64 j] 3 (0, 0))) (hba : w.heap[ba]? = some (.cells #[.int .i64 at_] 3 (0, 0))) (hbb : w.heap[bb]? = some (.cells #[.int .u8 y] 5 (0, 0))) (hB : Below w0.heap.size w0 w) :
    Calls Try.prog 32 #[.pointer (some ⟨g, 0, none⟩), .int .i64 i, .int .i64 j, .func (.func 41) #[] #[.pointer (some ⟨bi, 0, none⟩), .pointer (some ⟨ba, 0, none⟩), .pointer (some ⟨bb, 0, none⟩)]] w fun e w' => e = .returned (.bool false) ∧ Did w0 w w' g gq col vw qs := by
  obtain ⟨vv, h1, _⟩ := hR.blk
  obtain ⟨cs, h3, h4, h5⟩ := hR.qb
  obtain ⟨v, e, r⟩ := h5 i hi
  obtain ⟨A, c, rfl, hc, hC⟩ := Kd.S_reads r
  have c0 : w.cell? ⟨gq, i, none⟩ = some (.slice A qs[i].length c) := (blk_cell h3 i).trans e
  have C0 := Aside0.mk c0
  have HI := Aside0.mk hi
  have H1 := Aside0.mk h1
  have HD : Aside0 (decide ((0 : Int) ≤ (j : Int) ∧ (j : Int) < qs[i].length) = true) := ⟨decide_eq_true ⟨by omega, by rw [hxs]; omega⟩⟩
  clear h1 h3 h4 h5 e r hC c0 hc
  go_enter Try.func32, Try.ntmps32
  go_wp2_with (first
    | ((with_reducible refine gate_dst (N := 12) rfl ?_); go_must (((try (refine gate_guard (by rfl) ?_; dsimp only)); refine goesL_ (some 12) rfl rfl Try.func30 (by kernel_rfl) rfl #[.pointer (some ⟨g, 0, none⟩), .int .i64 i] rfl ?hA ?_; (case hA => ((try simp only [List.map_toArray, List.map_cons, List.map_nil]); first | done | rfl)); refine (of_in g gq _ i vv _ H1.out HI.out).mono ?_; rintro e w12 ⟨rfl, ⟨m12, rfl⟩⟩; refine ⟨_, rfl, ?_⟩; skip)))
    | ((with_reducible refine gate_dst (N := 18) rfl ?_); go_must (((try (refine gate_guard (by rfl) ?_; dsimp only)); refine goesL_ (some 18) rfl rfl Try.func40 (by kernel_rfl) rfl #[.pointer (some ⟨gq, i, none⟩), .int .i64 j] rfl ?hA ?_; (case hA => ((try simp only [List.map_toArray, List.map_cons, List.map_nil]); first | done | rfl)); refine (qhas_calls gq i _ c A j (w.drewN m12) (by exact C0.out)).mono ?_; rintro e w18 ⟨rfl, ⟨m18, rfl⟩⟩; refine ⟨_, rfl, ?_⟩; rw [HD.out])))
    | (go_at_call 41; go_must ((refine (turn1x g gq i j bi ba bb at_ y col vw qs xs w0 (w.drewN (m12 + m18)) (hR.drewN (m12 + m18)) HI.out hxs hj hn (by exact hbi) (by exact hba) (by exact hbb) (pw_below_drewN hB (m12 + m18))).mono ?_; rintro e w23 ⟨rfl, h1⟩; have K1 := Aside0.mk (do_stop (pw_below_drewN (Below.refl _ _) (m12 + m18)) h1); clear h1))))
  go_ret
  exact ⟨rfl, K1.out⟩

set_option maxRecDepth 100000 in
set_option maxHeartbeats 4000000 in
theorem rdrop (g gq i j : Nat) (col : Nat → Nat) (vw : List It) (qs : List (List It)) (xs : List It) (w0 w : World) (hR : Rel w w0.heap.size g gq col vw qs) (hi : i < qs.length) (hxs : qs[i] = xs) (hj : j < xs.length) (hq : xs.length ≤ 90000) (hlo : col gq < 9) (hi8 : i < 8) (hB : Below w0.heap.size w0 w) :
    Calls Try.prog 17 #[.pointer (some ⟨g, 0, none⟩), .int .i64 i, .int .i64 j] w fun e w' => e = .returned (.bool true) ∧ Did w0 w w' g gq col vw (qs.set i (xs.eraseIdx j)) := by
  have hmf : ∀ (fn : Fn) (first cap : Array Value) (w : World), (Instr.makeFunc fn first cap).run Try.prog w = .ok (.func fn first cap) w := fun _ _ _ _ => rfl
  have b1 : (w.alloc (.cells #[.int .i64 (j : Nat)] 3)).heap[w.heap.size]? = some (.cells #[.int .i64 (j : Nat)] 3 (0, 0)) := (blk_new w _)
  have B1 := Aside0.mk b1
  have HW : Aside0 (Below w.heap.size w (w.alloc (.cells #[.int .i64 (j : Nat)] 3))) := ⟨below_alloc (Below.refl _ _) _⟩
  clear b1
  go_enter Try.func17, Try.ntmps17
  go_wp2_with (first
    | (go_at_call 32; go_must ((refine (rdo_drop g gq i j w.heap.size col vw qs xs w0 _ (hR.below HW.out) hi hxs hj hq hlo hi8 B1.out (below_step hB HW.out)).mono ?_; rintro e w15 ⟨rfl, h1⟩; have K1 := Aside0.mk (do_stop HW.out h1); clear h1))))
  go_ret
  exact ⟨rfl, K1.out⟩

set_option maxRecDepth 100000 in
set_option maxHeartbeats 4000000 in
theorem ragain (g gq i j : Nat) (x : It) (col : Nat → Nat) (vw : List It) (qs : List (List It)) (xs : List It) (w0 w : World) (hR : Rel w w0.heap.size g gq col vw qs) (hi : i < qs.length) (hxs : qs[i] = xs) (hj : j < xs.length) (hx : xs[j] = x) (hq : xs.length ≤ 90000) (hl : x.f0.length ≤ 100000) (hlo : col gq < 9) (hi8 : i < 8) (hB : Below w0.heap.size w0 w) :
    Calls Try.prog 19 #[.pointer (some ⟨g, 0, none⟩), .int .i64 i, .int .i64 j] w fun e w' => e = .returned (.bool true) ∧ Did w0 w w' g gq col vw (qs.set i (xs ++ [x])) := by
  have hmf : ∀ (fn : Fn) (first cap : Array Value) (w : World), (Instr.makeFunc fn first cap).run Try.prog w = .ok (.func fn first cap) w := fun _ _ _ _ => rfl
  have b1 : (w.alloc (.cells #[.int .i64 (j : Nat)] 3)).heap[w.heap.size]? = some (.cells #[.int .i64 (j : Nat)] 3 (0, 0)) := (blk_new w _)
  have B1 := Aside0.mk b1
  have HW : Aside0 (Below w.heap.size w (w.alloc (.cells #[.int .i64 (j : Nat)] 3))) := ⟨below_alloc (Below.refl _ _) _⟩
  clear b1
  go_enter Try.func19, Try.ntmps19
  go_wp2_with (first
    | (go_at_call 32; go_must ((refine (rdo_again g gq i j w.heap.size x col vw qs xs w0 _ (hR.below HW.out) hi hxs hj hx hq hl hlo hi8 B1.out (below_step hB HW.out)).mono ?_; rintro e w15 ⟨rfl, h1⟩; have K1 := Aside0.mk (do_stop HW.out h1); clear h1))))
  go_ret
  exact ⟨rfl, K1.out⟩

set_option maxRecDepth 100000 in
set_option maxHeartbeats 4000000 in
theorem rturn_ok (g gq i j : Nat) (a : Nat) (y : Int) (l : List Int) (col : Nat → Nat) (vw : List It) (qs : List (List It)) (xs : List It) (w0 w : World) (hR : Rel w w0.heap.size g gq col vw qs) (hi : i < qs.length) (hxs : qs[i] = xs) (hj : j < xs.length) (hq : xs[j] = ⟨l, false⟩) (hn9 : xs.length ≤ 90000) (ha : a < l.length) (hl : l.length ≤ 100000) (hi8 : i < 8) (hB : Below w0.heap.size w0 w) :
    Calls Try.prog 23 #[.pointer (some ⟨g, 0, none⟩), .int .i64 i, .int .i64 j, .int .i64 a, .int .u8 y] w fun e w' => e = .returned (.bool true) ∧ Did w0 w w' g gq col vw (qs.set i (xs.set j ⟨l.set a (bits .xor .u8 (rd l a) y), true⟩)) := by
  have hmf : ∀ (fn : Fn) (first cap : Array Value) (w : World), (Instr.makeFunc fn first cap).run Try.prog w = .ok (.func fn first cap) w := fun _ _ _ _ => rfl
  have b1 : (((w.alloc (.cells #[.int .i64 (j : Nat)] 3)).alloc (.cells #[.int .i64 (a : Nat)] 3)).alloc (.cells #[.int .u8 y] 5)).heap[w.heap.size]? = some (.cells #[.int .i64 (j : Nat)] 3 (0, 0)) := (blk_alloc (blk_alloc (blk_new w _) _) _)
  have B1 := Aside0.mk b1
  have b2 : (((w.alloc (.cells #[.int .i64 (j : Nat)] 3)).alloc (.cells #[.int .i64 (a : Nat)] 3)).alloc (.cells #[.int .u8 y] 5)).heap[w.heap.size + 1]? = some (.cells #[.int .i64 (a : Nat)] 3 (0, 0)) := (blk_alloc (by simpa using blk_new (w.alloc (.cells #[.int .i64 (j : Nat)] 3)) (.cells #[.int .i64 (a : Nat)] 3)) _)
  have B2 := Aside0.mk b2
  have b3 : (((w.alloc (.cells #[.int .i64 (j : Nat)] 3)).alloc (.cells #[.int .i64 (a : Nat)] 3)).alloc (.cells #[.int .u8 y] 5)).heap[w.heap.size + 2]? = some (.cells #[.int .u8 y] 5 (0, 0)) := (by simpa using blk_new ((w.alloc (.cells #[.int .i64 (j : Nat)] 3)).alloc (.cells #[.int .i64 (a : Nat)] 3)) (.cells #[.int .u8 y] 5))
  have B3 := Aside0.mk b3
  have HW : Aside0 (Below w.heap.size w (((w.alloc (.cells #[.int .i64 (j : Nat)] 3)).alloc (.cells #[.int .i64 (a : Nat)] 3)).alloc (.cells #[.int .u8 y] 5))) := ⟨below_alloc (below_alloc (below_alloc (Below.refl _ _) _) _) _⟩
  clear b1 b2 b3
  go_enter Try.func23, Try.ntmps23
  go_wp2_with (first
    | (go_at_call 32; go_must ((refine (rdo_turn_ok g gq i j w.heap.size (w.heap.size + 1) (w.heap.size + 2) a y l col vw qs xs w0 _ (hR.below HW.out) hi hxs hj hq hn9 ha hl hi8 B1.out B2.out B3.out (below_step hB HW.out)).mono ?_; rintro e w15 ⟨rfl, h1⟩; have K1 := Aside0.mk (do_stop HW.out h1); clear h1))))
  go_ret
  exact ⟨rfl, K1.out⟩

set_option maxRecDepth 100000 in
set_option maxHeartbeats 4000000 in
theorem rturn_no (g gq i j : Nat) (at_ y : Int) (col : Nat → Nat) (vw : List It) (qs : List (List It)) (xs : List It) (w0 w : World) (hR : Rel w w0.heap.size g gq col vw qs) (hi : i < qs.length) (hxs : qs[i] = xs) (hj : j < xs.length) (hn : at_ < 0 ∨ (xs[j].f0.length : Int) ≤ at_ ∨ xs[j].f1 = true) (hB : Below w0.heap.size w0 w) :
    Calls Try.prog 23 #[.pointer (some ⟨g, 0, none⟩), .int .i64 i, .int .i64 j, .int .i64 at_, .int .u8 y] w fun e w' => e = .returned (.bool false) ∧ Did w0 w w' g gq col vw qs := by
  have hmf : ∀ (fn : Fn) (first cap : Array Value) (w : World), (Instr.makeFunc fn first cap).run Try.prog w = .ok (.func fn first cap) w := fun _ _ _ _ => rfl
  have b1 : (((w.alloc (.cells #[.int .i64 (j : Nat)] 3)).alloc (.cells #[.int .i64 at_] 3)).alloc (.cells #[.int .u8 y] 5)).heap[w.heap.size]? = some (.cells #[.int .i64 (j : Nat)] 3 (0, 0)) := (blk_alloc (blk_alloc (blk_new w _) _) _)
  have B1 := Aside0.mk b1
  have b2 : (((w.alloc (.cells #[.int .i64 (j : Nat)] 3)).alloc (.cells #[.int .i64 at_] 3)).alloc (.cells #[.int .u8 y] 5)).heap[w.heap.size + 1]? = some (.cells #[.int .i64 at_] 3 (0, 0)) := (blk_alloc (by simpa using blk_new (w.alloc (.cells #[.int .i64 (j : Nat)] 3)) (.cells #[.int .i64 at_] 3)) _)
  have B2 := Aside0.mk b2
  have b3 : (((w.alloc (.cells #[.int .i64 (j : Nat)] 3)).alloc (.cells #[.int .i64 at_] 3)).alloc (.cells #[.int .u8 y] 5)).heap[w.heap.size + 2]? = some (.cells #[.int .u8 y] 5 (0, 0)) := (by simpa using blk_new ((w.alloc (.cells #[.int .i64 (j : Nat)] 3)).alloc (.cells #[.int .i64 at_] 3)) (.cells #[.int .u8 y] 5))
  have B3 := Aside0.mk b3
  have HW : Aside0 (Below w.heap.size w (((w.alloc (.cells #[.int .i64 (j : Nat)] 3)).alloc (.cells #[.int .i64 at_] 3)).alloc (.cells #[.int .u8 y] 5))) := ⟨below_alloc (below_alloc (below_alloc (Below.refl _ _) _) _) _⟩
  clear b1 b2 b3
  go_enter Try.func23, Try.ntmps23
  go_wp2_with (first
    | (go_at_call 32; go_must ((refine (rdo_turn_no g gq i j w.heap.size (w.heap.size + 1) (w.heap.size + 2) at_ y col vw qs xs w0 _ (hR.below HW.out) hi hxs hj hn B1.out B2.out B3.out (below_step hB HW.out)).mono ?_; rintro e w15 ⟨rfl, h1⟩; have K1 := Aside0.mk (do_stop HW.out h1); clear h1))))
  go_ret
  exact ⟨rfl, K1.out⟩
end Go.Proofs.Yteeddalalfemmaa.K

namespace Go.Proofs.Yteeddalalfemmaa.K
open Go.RowKit Go.Proofs.YteeddalalfemmaaW.PrintWords Go.Proofs.YteeddalalfemmaaW.PrintLast Go.Proofs.YteeddalalfemmaaW.PrintMore
set_option linter.unusedVariables false
set_option linter.unusedSimpArgs false

set_option maxRecDepth 100000 in
set_option maxHeartbeats 4000000 in
theorem rdrop_none (g gq : Nat) (i j : Int) (col : Nat → Nat) (vw : List It) (qs : List (List It)) (b0 : Nat) (w : World) (hR : Rel w b0 g gq col vw qs) (hn : ¬ hasQ qs i j) :
    Calls Try.prog 17 #[.pointer (some ⟨g, 0, none⟩), .int .i64 i, .int .i64 j] w fun e w' => e = .returned (.bool false) ∧ Below w.heap.size w w' := by
  have hmf : ∀ (fn : Fn) (first cap : Array Value) (w : World), (Instr.makeFunc fn first cap).run Try.prog w = .ok (.func fn first cap) w := fun _ _ _ _ => rfl
  have HW : Aside0 (Below w.heap.size w (w.alloc (.cells #[.int .i64 j] 3))) := ⟨below_alloc (Below.refl _ _) _⟩
  go_enter Try.func17, Try.ntmps17
  go_wp2_with (first
    | (go_at_call 32; go_must ((refine (do_false g gq i j col vw qs b0 _ _ (hR.below HW.out) hn).mono ?_; rintro e w15 ⟨rfl, ⟨m15, rfl⟩⟩; skip))))
  go_ret
  exact ⟨rfl, pw_below_drewN HW.out _⟩

set_option maxRecDepth 100000 in
set_option maxHeartbeats 4000000 in
theorem ragain_none (g gq : Nat) (i j : Int) (col : Nat → Nat) (vw : List It) (qs : List (List It)) (b0 : Nat) (w : World) (hR : Rel w b0 g gq col vw qs) (hn : ¬ hasQ qs i j) :
    Calls Try.prog 19 #[.pointer (some ⟨g, 0, none⟩), .int .i64 i, .int .i64 j] w fun e w' => e = .returned (.bool false) ∧ Below w.heap.size w w' := by
  have hmf : ∀ (fn : Fn) (first cap : Array Value) (w : World), (Instr.makeFunc fn first cap).run Try.prog w = .ok (.func fn first cap) w := fun _ _ _ _ => rfl
  have HW : Aside0 (Below w.heap.size w (w.alloc (.cells #[.int .i64 j] 3))) := ⟨below_alloc (Below.refl _ _) _⟩
  go_enter Try.func19, Try.ntmps19
  go_wp2_with (first
    | (go_at_call 32; go_must ((refine (do_false g gq i j col vw qs b0 _ _ (hR.below HW.out) hn).mono ?_; rintro e w15 ⟨rfl, ⟨m15, rfl⟩⟩; skip))))
  go_ret
  exact ⟨rfl, pw_below_drewN HW.out _⟩

set_option maxRecDepth 100000 in
set_option maxHeartbeats 4000000 in
theorem rswap_none (g gq : Nat) (i j k : Int) (col : Nat → Nat) (vw : List It) (qs : List (List It)) (b0 : Nat) (w : World) (hR : Rel w b0 g gq col vw qs) (hn : ¬ hasQ qs i j) :
    Calls Try.prog 21 #[.pointer (some ⟨g, 0, none⟩), .int .i64 i, .int .i64 j, .int .i64 k] w fun e w' => e = .returned (.bool false) ∧ Below w.heap.size w w' := by
  have hmf : ∀ (fn : Fn) (first cap : Array Value) (w : World), (Instr.makeFunc fn first cap).run Try.prog w = .ok (.func fn first cap) w := fun _ _ _ _ => rfl
  have HW : Aside0 (Below w.heap.size w ((w.alloc (.cells #[.int .i64 j] 3)).alloc (.cells #[.int .i64 k] 3))) := ⟨below_alloc (below_alloc (Below.refl _ _) _) _⟩
  go_enter Try.func21, Try.ntmps21
  go_wp2_with (first
    | (go_at_call 32; go_must ((refine (do_false g gq i j col vw qs b0 _ _ (hR.below HW.out) hn).mono ?_; rintro e w15 ⟨rfl, ⟨m15, rfl⟩⟩; skip))))
  go_ret
  exact ⟨rfl, pw_below_drewN HW.out _⟩

set_option maxRecDepth 100000 in
set_option maxHeartbeats 4000000 in
theorem rturn_none (g gq : Nat) (i j a y : Int) (col : Nat → Nat) (vw : List It) (qs : List (List It)) (b0 : Nat) (w : World) (hR : Rel w b0 g gq col vw qs) (hn : ¬ hasQ qs i j) :
    Calls Try.prog 23 #[.pointer (some ⟨g, 0, none⟩), .int .i64 i, .int .i64 j, .int .i64 a, .int .u8 y] w fun e w' => e = .returned (.bool false) ∧ Below w.heap.size w w' := by
  have hmf : ∀ (fn : Fn) (first cap : Array Value) (w : World), (Instr.makeFunc fn first cap).run Try.prog w = .ok (.func fn first cap) w := fun _ _ _ _ => rfl
  have HW : Aside0 (Below w.heap.size w (((w.alloc (.cells #[.int .i64 j] 3)).alloc (.cells #[.int .i64 a] 3)).alloc (.cells #[.int .u8 y] 5))) := ⟨below_alloc (below_alloc (below_alloc (Below.refl _ _) _) _) _⟩
  go_enter Try.func23, Try.ntmps23
  go_wp2_with (first
    | (go_at_call 32; go_must ((refine (do_false g gq i j col vw qs b0 _ _ (hR.below HW.out) hn).mono ?_; rintro e w15 ⟨rfl, ⟨m15, rfl⟩⟩; skip))))
  go_ret
  exact ⟨rfl, pw_below_drewN HW.out _⟩

set_option maxRecDepth 100000 in
set_option maxHeartbeats 4000000 in
theorem rnext_no (g gq : Nat) (i : Int) (col : Nat → Nat) (vw : List It) (qs : List (List It)) (b0 : Nat) (w : World) (hR : Rel w b0 g gq col vw qs) (hn : ¬ hasQ qs i 0) :
    Calls Try.prog 13 #[.pointer (some ⟨g, 0, none⟩), .int .i64 i] w fun e w' => e = .returned (.tuple #[.slice none 0 0, .bool false]) ∧ Below w.heap.size w w' := by
  have HR := Aside0.mk hR
  have hmf : ∀ (fn : Fn) (first cap : Array Value) (w : World), (Instr.makeFunc fn first cap).run Try.prog w = .ok (.func fn first cap) w := fun _ _ _ _ => rfl
  have HX := Aside0.mk (blk_new w (.cells #[.slice none 0 0] 33 (0, 0)))
  clear hR
  go_enter Try.func13, Try.ntmps13
  go_wp2_with (first
    | (go_at_call 32; go_must ((refine (do_false g gq i 0 col vw qs b0 _ (w.alloc (.cells #[.slice none 0 0] 33)) (HR.out.below (below_alloc (Below.refl _ _) _)) hn).mono ?_; rintro e w9 ⟨rfl, ⟨m9, rfl⟩⟩; skip))))
  have HY : (((w.alloc (.cells #[.slice none 0 0] 33)).drewN m9).setCell ⟨w.heap.size, 0, none⟩ (.slice none 0 0)).heap[w.heap.size]? = some (.cells #[.slice none 0 0] 33 (0, 0)) := by simpa using blk_set (blk_drewN HX.out m9) 0 (.slice none 0 0)
  have q0 := (blk_cell HY 0).trans rfl
  exact bodyPost_ret (v := .tuple #[.slice none 0 0, .bool false]) (by simp [results, Try.results13, go_sem, q0]) rfl ⟨rfl, (pw_below_drewN (below_alloc (Below.refl _ _) _) _).setCell (Nat.le_refl _) _⟩

set_option maxHeartbeats 800000 in
theorem waits_out (g gq n : Nat) (i : Int) (vv : Value) (w : World) (hg : w.heap[g]? = some (.cells #[.slice (some ⟨gq, 0, none⟩) n n, vv] 53 (0, 0))) (hi : i < 0 ∨ (n : Int) ≤ i) :
    Calls Try.prog 11 #[.pointer (some ⟨g, 0, none⟩), .int .i64 i] w fun e w' => e = .returned (.int .i64 0) ∧ Drawn0 w w' := by
  go_enter Try.func11, Try.ntmps11
  go_wp2_with (first
    | ((with_reducible refine gate_dst (N := 8) rfl ?_); go_must (((try (refine gate_guard (by rfl) ?_; dsimp only)); refine goesL_ (some 8) rfl rfl Try.func30 (by kernel_rfl) rfl #[.pointer (some ⟨g, 0, none⟩), .int .i64 i] rfl ?hA ?_; (case hA => ((try simp only [List.map_toArray, List.map_cons, List.map_nil]); first | done | rfl)); refine (of_out g gq _ i vv _ hg hi).mono ?_; rintro e w8 ⟨rfl, ⟨m8, rfl⟩⟩; refine ⟨_, rfl, ?_⟩; skip))))
  go_ret
  exact ⟨rfl, by repeat (first | exact Drawn0.refl _ | apply Drawn0.step)⟩

set_option maxHeartbeats 800000 in
theorem rewind_out (g gq n : Nat) (i : Int) (vv : Value) (w : World) (hg : w.heap[g]? = some (.cells #[.slice (some ⟨gq, 0, none⟩) n n, vv] 53 (0, 0))) (hi : i < 0 ∨ (n : Int) ≤ i) :
    Calls Try.prog 27 #[.pointer (some ⟨g, 0, none⟩), .int .i64 i] w fun e w' => e = .returned (.int .i64 0) ∧ Drawn0 w w' := by
  go_enter Try.func27, Try.ntmps27
  go_wp2_with (first
    | ((with_reducible refine gate_dst (N := 10) rfl ?_); go_must (((try (refine gate_guard (by rfl) ?_; dsimp only)); refine goesL_ (some 10) rfl rfl Try.func30 (by kernel_rfl) rfl #[.pointer (some ⟨g, 0, none⟩), .int .i64 i] rfl ?hA ?_; (case hA => ((try simp only [List.map_toArray, List.map_cons, List.map_nil]); first | done | rfl)); refine (of_out g gq _ i vv _ hg hi).mono ?_; rintro e w8 ⟨rfl, ⟨m8, rfl⟩⟩; refine ⟨_, rfl, ?_⟩; skip))))
  go_ret
  exact ⟨rfl, by repeat (first | exact Drawn0.refl _ | apply Drawn0.step)⟩

set_option maxHeartbeats 800000 in
theorem put_out (g gq n : Nat) (i : Int) (vv vb : Value) (w : World) (hg : w.heap[g]? = some (.cells #[.slice (some ⟨gq, 0, none⟩) n n, vv] 53 (0, 0))) (hi : i < 0 ∨ (n : Int) ≤ i) :
    Calls Try.prog 12 #[.pointer (some ⟨g, 0, none⟩), .int .i64 i, vb] w fun e w' => e = .returned (.int .i64 1) ∧ Drawn0 w w' := by
  go_enter Try.func12, Try.ntmps12
  go_wp2_with (first
    | ((with_reducible refine gate_dst (N := 14) rfl ?_); go_must (((try (refine gate_guard (by rfl) ?_; dsimp only)); refine goesL_ (some 14) rfl rfl Try.func30 (by kernel_rfl) rfl #[.pointer (some ⟨g, 0, none⟩), .int .i64 i] rfl ?hA ?_; (case hA => ((try simp only [List.map_toArray, List.map_cons, List.map_nil]); first | done | rfl)); refine (of_out g gq _ i vv _ hg hi).mono ?_; rintro e w8 ⟨rfl, ⟨m8, rfl⟩⟩; refine ⟨_, rfl, ?_⟩; skip))))
  go_ret
  exact ⟨rfl, by repeat (first | exact Drawn0.refl _ | apply Drawn0.step)⟩

set_option maxHeartbeats 800000 in
theorem forge_out (g gq n : Nat) (i : Int) (vv vb : Value) (w : World) (hg : w.heap[g]? = some (.cells #[.slice (some ⟨gq, 0, none⟩) n n, vv] 53 (0, 0))) (hi : i < 0 ∨ (n : Int) ≤ i) :
    Calls Try.prog 25 #[.pointer (some ⟨g, 0, none⟩), .int .i64 i, vb] w fun e w' => e = .returned (.int .i64 1) ∧ Drawn0 w w' := by
  go_enter Try.func25, Try.ntmps25
  go_wp2_with (first
    | ((with_reducible refine gate_dst (N := 10) rfl ?_); go_must (((try (refine gate_guard (by rfl) ?_; dsimp only)); refine goesL_ (some 10) rfl rfl Try.func30 (by kernel_rfl) rfl #[.pointer (some ⟨g, 0, none⟩), .int .i64 i] rfl ?hA ?_; (case hA => ((try simp only [List.map_toArray, List.map_cons, List.map_nil]); first | done | rfl)); refine (of_out g gq _ i vv _ hg hi).mono ?_; rintro e w8 ⟨rfl, ⟨m8, rfl⟩⟩; refine ⟨_, rfl, ?_⟩; skip))))
  go_ret
  exact ⟨rfl, by repeat (first | exact Drawn0.refl _ | apply Drawn0.step)⟩
end Go.Proofs.Yteeddalalfemmaa.K

namespace Go.Proofs.Yteeddalalfemmaa.K
open Go.RowKit Go.Proofs.YteeddalalfemmaaW.PrintWords Go.Proofs.YteeddalalfemmaaW.PrintLast Go.Proofs.YteeddalalfemmaaW.PrintMore
set_option linter.unusedVariables false
set_option linter.unusedSimpArgs false

/-- A copy that waits, not turned. -/
abbrev clr (x : It) : It := ⟨x.f0, false⟩
set_option maxRecDepth 100000 in
set_option maxHeartbeats 8000000 in
theorem rrewind_ok (g gq i : Nat) (col : Nat → Nat) (vw : List It) (qs : List (List It)) (w0 w : World) (hR : Rel w w0.heap.size g gq col vw qs) (hi : i < qs.length) (hv : vw.length ≤ 5000) (hx : ∀ x ∈ vw, x.f0.length ≤ 100000) (hlo : col gq < 9) (hi8 : i < 8) (hB : Below w0.heap.size w0 w) :
    Calls Try.prog 27 #[.pointer (some ⟨g, 0, none⟩), .int .i64 i] w fun e w' => e = .returned (.int .i64 vw.length) ∧
      Did w0 w w' g gq col vw (qs.set i (vw.map clr)) := by
  have HLT := Aside0.mk hR.lt
  have HLO := Aside0.mk hlo
  clear hlo
  obtain ⟨vv, h1, h2⟩ := hR.blk
  obtain ⟨cs, h3, h4, h5⟩ := hR.qb
  obtain ⟨v, e, r⟩ := h5 i hi
  obtain ⟨Av, cv, rfl, hcv, hCv⟩ := Kd.S_reads h2
  have k1 : w.cell? ⟨g, 1, none⟩ = some (.slice Av vw.length cv) := (blk_cell h1 1).trans rfl
  have cq : w.cell? ⟨gq, i, none⟩ = some v := (blk_cell h3 i).trans e
  have fq : w.frozen? ⟨gq, i, none⟩ = false := blk_frozen h3 i
  have ngq : g ≠ gq := blk_ne h1 h3 (by decide)
  have ngq2 : ¬ gq = g := fun h => ngq h.symm
  have HR := Aside0.mk hR
  have HI := Aside0.mk hi
  have HX := Aside0.mk hx
  have HB := Aside0.mk hB
  have H1 := Aside0.mk h1
  have H3 := Aside0.mk h3
  have H4 := Aside0.mk h4
  obtain ⟨n, hn⟩ : ∃ n, vw.length = n := ⟨_, rfl⟩
  have HN := Aside0.mk hn
  rw [hn] at k1 hv hcv ⊢
  clear h1 h2 h3 h4 h5 e r hCv hR hi hx hB hn
  go_enter Try.func27, Try.ntmps27
  go_wp2_with (first
    | ((with_reducible refine gate_dst (N := 10) rfl ?_); go_must (((try (refine gate_guard (by rfl) ?_; dsimp only)); refine goesL_ (some 10) rfl rfl Try.func30 (by kernel_rfl) rfl #[.pointer (some ⟨g, 0, none⟩), .int .i64 i] rfl ?hA ?_; (case hA => ((try simp only [List.map_toArray, List.map_cons, List.map_nil]); first | done | rfl)); refine (of_in g gq _ i _ _ H1.out HI.out).mono ?_; rintro e w10 ⟨rfl, ⟨m10, rfl⟩⟩; refine ⟨_, rfl, ?_⟩; skip))))
  have hF : Fr (w.drewN m10) ((w.drewN m10).setCell ⟨gq, i, none⟩ (.slice none 0 0)) col (i + 1) gq :=
    ⟨((KeepBut.refl (w.drewN m10) gq none).set_ i _).1, fun k _ _ hk => Below.heap_setCell _ _ _ _ hk, fun k cells t f hk _ hkp => (Below.heap_setCell _ _ _ _ hkp).trans hk⟩
  have HR1 : Aside0 (Rel ((w.drewN m10).setCell ⟨gq, i, none⟩ (.slice none 0 0)) w0.heap.size g gq col vw (qs.set i [])) := Aside0.mk ((HR.out.drewN m10).turnQ HI.out (by exact H3.out) (blk_set H3.out i (.slice none 0 0)) (Kd.S_nil _ _ _ _ _) hF)
  have HL1 : Aside0 (Left w ((w.drewN m10).setCell ⟨gq, i, none⟩ (.slice none 0 0)) col col) := ⟨(Left.below col (pw_below_drewN (Below.refl _ _) m10)).trans (hF.left (by omega) HLO.out)⟩
  have HB1 : Aside0 (Below w0.heap.size w0 ((w.drewN m10).setCell ⟨gq, i, none⟩ (.slice none 0 0))) := ⟨(pw_below_drewN HB.out m10).setCell (p := ⟨gq, i, none⟩) HR.out.ge.2 _⟩
  go_loopg [22] n (fun g22 v22 wr => ∃ (k : Nat) (cJ : Nat → Nat), g22 = n - k ∧ v22 = .int .i64 k ∧ k ≤ n ∧ Aside0 (Rel wr w0.heap.size g gq cJ vw (qs.set i ((vw.take k).map clr))) ∧ Aside0 (Below w0.heap.size w0 wr) ∧ Aside0 (Left w wr col cJ) ∧ Aside0 (wr.heap[g]? = some (.cells #[.slice (some ⟨gq, 0, none⟩) qs.length qs.length, .slice Av n cv] 53 (0, 0))))
  case atStart =>
    refine ⟨0, col, by simp, rfl, Nat.zero_le _, ⟨by rw [List.take_zero]; exact HR1.out⟩, HB1, HL1, ⟨?_⟩⟩
    rw [Below.heap_setCell _ _ _ _ ngq, ← HN.out]
    exact H1.out
  case round =>
    clear HR1 HL1 HB1 hF k1 cq fq
    obtain ⟨k, col2, rfl, rfl, hk, HR2, HB2, HL2, HV2⟩ := hrel
    have hil : i < (qs.set i ((vw.take k).map clr)).length := by rw [List.length_set]; exact HI.out
    by_cases hkn : k < n
    · have hk2 : (k : Int) < n := by omega
      have hk0 : (0 : Int) ≤ k := by omega
      have hkl : k < vw.length := by rw [HN.out]; exact hkn
      obtain ⟨vv1, g1, hview⟩ := HR2.out.blk
      rw [HV2.out] at g1
      injection g1 with g1
      injection g1 with g1
      injection g1 with g1
      injection g1 with _ g1
      injection g1 with g1
      subst g1
      obtain ⟨gv, cap, vb, he, _, hc0, hc1, hb⟩ := qr_item hview k hkl
      have hAv : Av = some ⟨gv, 0, none⟩ := by injection he
      subst hAv
      obtain ⟨x, hx⟩ : ∃ x, vw[k] = x := ⟨_, rfl⟩
      rw [hx] at hc1 hb
      have HXL : Aside0 (x.f0.length ≤ 100000) := ⟨by rw [← hx]; exact HX.out _ (List.getElem_mem hkl)⟩
      have HXX := Aside0.mk hx
      have HRb : Aside0 (Rd wr vb x.f0) := ⟨Own.rd (Kd.R_mono hb (fun _ _ => trivial))⟩
      obtain ⟨Ab, cb, rfl, hcb, hCb⟩ := Kd.R_reads hb
      have HBX : Aside0 (Below wr.heap.size wr (wr.alloc (.cells #[.slice Ab x.f0.length cb, .bool x.f1] 59))) := ⟨below_alloc (Below.refl _ _) _⟩
      obtain ⟨col3, hcol3, hR3, hL3⟩ := (HR2.out.below HBX.out).recol' (i + 1)
      have HL3 := Aside0.mk ((HL2.out.trans (Left.below col2 HBX.out)).trans hL3)
      clear hL3
      obtain ⟨cs3, h3, h4, h5⟩ := hR3.qb
      obtain ⟨v3, e3, r3⟩ := h5 i hil
      rw [List.getElem_set_self] at r3
      have HR3 := Aside0.mk hR3
      have HCol3 := Aside0.mk hcol3
      have G3 := Aside0.mk h3
      have HE3 := Aside0.mk e3
      have Hr3 := Aside0.mk r3
      have HLen : Aside0 (((vw.take k).map clr).length ≤ 100000) := ⟨by rw [List.length_map, List.length_take]; omega⟩
      clear hb hCb hcb hx he hR3 hcol3 h3 h4 h5 e3 r3 hview
      go_wp2_with (first
        | (go_at_call 31; go_must ((refine (qput_calls gq i 51 (i + 1) col3 cs3 v3 (.slice Ab x.f0.length cb) x.f0 _ w0 _ G3.out HE3.out (by decide) Hr3.out (HRb.out.below HBX.out) HCol3.out (HB2.out.trans (HBX.out.mono HB2.out.size)) HR3.out.ge.2 HLen.out HXL.out).mono ?_; rintro e w29 ⟨rfl, ⟨v29, hb29, hr29⟩, hB29, hF29⟩; have K1 := Aside0.mk (HR3.out.turnQ hil G3.out hb29 hr29 hF29); have K2 := Aside0.mk hB29; have K3 : Aside0 (Left w w29 col col3) := ⟨HL3.out.trans (hF29.left (by omega) (HL3.out.lo HLT.out.2 HLO.out))⟩; have K4 := Aside0.mk (hF29.2.2 g _ _ _ (blk_below HV2.out HBX.out) (by decide) ngq); clear hb29 hr29 hB29 hF29))))
      go_roundg (n - (k + 1))
      case measure => omega
      case rel =>
        refine ⟨k + 1, col3, rfl, by go_num, by omega, ⟨?_⟩, K2, K3, K4⟩
        · have h6 := K1.out
          rw [List.set_set] at h6
          have e6 : (vw.take (k + 1)).map clr = (vw.take k).map clr ++ [⟨x.f0, false⟩] := by
            rw [List.take_add_one, List.getElem?_eq_getElem hkl, HXX.out]
            simp
          rw [e6]
          exact h6
    · obtain rfl : k = n := by omega
      obtain ⟨cs3, h3, h4, h5⟩ := HR2.out.qb
      obtain ⟨v3, e3, r3⟩ := h5 i hil
      rw [List.getElem_set_self] at r3
      obtain ⟨A3, c3, rfl, hc3, hC3⟩ := Kd.S_reads r3
      have hlen : ((vw.take k).map clr).length = k := by rw [List.length_map, List.length_take, HN.out]; omega
      have cq : wr.cell? ⟨gq, i, none⟩ = some (.slice A3 k c3) := by rw [← hlen]; exact (blk_cell h3 i).trans e3
      clear h3 h4 h5 e3 r3 hC3
      go_wp2
      go_ret
      refine ⟨rfl, ⟨col2, ?_, HL2.out⟩, HB2.out⟩
      have h6 := HR2.out
      rw [List.take_of_length_le (by rw [HN.out]; exact Nat.le_refl _)] at h6
      exact h6

set_option maxRecDepth 100000 in
set_option maxHeartbeats 4000000 in
theorem put_large (g gq i : Nat) (col : Nat → Nat) (vw : List It) (qs : List (List It)) (A2 : Option Addr) (n2 c2 : Nat) (b0 : Nat) (w : World) (hR : Rel w b0 g gq col vw qs) (hi : i < qs.length) (hl : 4000 < n2) :
    Calls Try.prog 12 #[.pointer (some ⟨g, 0, none⟩), .int .i64 i, .slice A2 n2 c2] w fun e w' => e = .returned (.int .i64 3) ∧ Drawn0 w w' := by
  obtain ⟨vv, h1, h2⟩ := hR.blk
  have H1 := Aside0.mk h1
  have HI := Aside0.mk hi
  have hl1 : (4000 : Int) < n2 := by omega
  clear h1 h2 hR hi
  go_enter Try.func12, Try.ntmps12
  go_wp2_with (first
    | ((with_reducible refine gate_dst (N := 14) rfl ?_); go_must (((try (refine gate_guard (by rfl) ?_; dsimp only)); refine goesL_ (some 14) rfl rfl Try.func30 (by kernel_rfl) rfl #[.pointer (some ⟨g, 0, none⟩), .int .i64 i] rfl ?hA ?_; (case hA => ((try simp only [List.map_toArray, List.map_cons, List.map_nil]); first | done | rfl)); refine (of_in g gq _ i vv _ H1.out HI.out).mono ?_; rintro e w14 ⟨rfl, ⟨m14, rfl⟩⟩; refine ⟨_, rfl, ?_⟩; skip))))
  go_ret
  exact ⟨rfl, by repeat (first | exact Drawn0.refl _ | apply Drawn0.step)⟩

set_option maxRecDepth 100000 in
set_option maxHeartbeats 4000000 in
theorem forge_large (g gq i : Nat) (col : Nat → Nat) (vw : List It) (qs : List (List It)) (A2 : Option Addr) (n2 c2 : Nat) (b0 : Nat) (w : World) (hR : Rel w b0 g gq col vw qs) (hi : i < qs.length) (hl : 4000 < n2) :
    Calls Try.prog 25 #[.pointer (some ⟨g, 0, none⟩), .int .i64 i, .slice A2 n2 c2] w fun e w' => e = .returned (.int .i64 3) ∧ Drawn0 w w' := by
  obtain ⟨vv, h1, h2⟩ := hR.blk
  have H1 := Aside0.mk h1
  have HI := Aside0.mk hi
  have hl1 : (4000 : Int) < n2 := by omega
  clear h1 h2 hR hi
  go_enter Try.func25, Try.ntmps25
  go_wp2_with (first
    | ((with_reducible refine gate_dst (N := 10) rfl ?_); go_must (((try (refine gate_guard (by rfl) ?_; dsimp only)); refine goesL_ (some 10) rfl rfl Try.func30 (by kernel_rfl) rfl #[.pointer (some ⟨g, 0, none⟩), .int .i64 i] rfl ?hA ?_; (case hA => ((try simp only [List.map_toArray, List.map_cons, List.map_nil]); first | done | rfl)); refine (of_in g gq _ i vv _ H1.out HI.out).mono ?_; rintro e w14 ⟨rfl, ⟨m14, rfl⟩⟩; refine ⟨_, rfl, ?_⟩; skip))))
  go_ret
  exact ⟨rfl, by repeat (first | exact Drawn0.refl _ | apply Drawn0.step)⟩

set_option maxRecDepth 100000 in
set_option maxHeartbeats 4000000 in
theorem rforge_ok (g gq i : Nat) (col0 : Nat → Nat) (vw : List It) (qs : List (List It)) (xs : List It) (vb : Value) (l : List Int) (w0 w : World) (hR0 : Rel w w0.heap.size g gq col0 vw qs) (hi : i < qs.length) (hxs : qs[i] = xs) (hq : xs.length < 5000) (hb : Rd w vb l) (hl : l.length ≤ 4000) (hlo : col0 gq < 9) (hi8 : i < 8) (hB : Below w0.heap.size w0 w) :
    Calls Try.prog 25 #[.pointer (some ⟨g, 0, none⟩), .int .i64 i, vb] w fun e w' => e = .returned (.int .i64 0) ∧ Did w0 w w' g gq col0 vw (qs.set i (xs ++ [⟨l, false⟩])) := by
  have hlt0 := hR0.lt
  obtain ⟨col, hcol, hR, hL0⟩ := hR0.recol' (i + 1)
  have HLO := Aside0.mk (hL0.lo hlt0.2 hlo)
  have HL0 := Aside0.mk hL0
  obtain ⟨vv, h1, h2⟩ := hR.blk
  obtain ⟨cs, h3, h4, h5⟩ := hR.qb
  obtain ⟨v, e, r⟩ := h5 i hi
  rw [hxs] at r
  obtain ⟨A, c, rfl, hc, hC⟩ := Kd.S_reads r
  have HRb := Aside0.mk hb
  obtain ⟨A2, c2, rfl, hc2, hC2⟩ := hb
  obtain ⟨n, hn⟩ : ∃ n, xs.length = n := ⟨_, rfl⟩
  have HN := Aside0.mk hn
  have c0 : w.cell? ⟨gq, i, none⟩ = some (.slice A n c) := by rw [← hn]; exact (blk_cell h3 i).trans e
  have HR := Aside0.mk hR
  have HI := Aside0.mk hi
  have HB := Aside0.mk hB
  have H1 := Aside0.mk h1
  have H3 := Aside0.mk h3
  have HE := Aside0.mk e
  have Hr := Aside0.mk r
  have HCol := Aside0.mk hcol
  have HL := Aside0.mk hl
  have HXS := Aside0.mk hxs
  have hl1 : decide ((4000 : Int) < l.length) = false := decide_eq_false (by omega)
  have hl2 : decide ((5000 : Int) ≤ n) = false := decide_eq_false (by omega)
  have hn9 : n ≤ 5000 := by omega
  clear h1 h2 h3 h4 h5 e r hC hR hR0 hB hcol hl hc2 hC2 hn hc hL0 hlt0 hlo hxs hq
  go_enter Try.func25, Try.ntmps25
  go_wp2_with (first
    | ((with_reducible refine gate_dst (N := 10) rfl ?_); go_must (((try (refine gate_guard (by rfl) ?_; dsimp only)); refine goesL_ (some 10) rfl rfl Try.func30 (by kernel_rfl) rfl #[.pointer (some ⟨g, 0, none⟩), .int .i64 i] rfl ?hA ?_; (case hA => ((try simp only [List.map_toArray, List.map_cons, List.map_nil]); first | done | rfl)); refine (of_in g gq _ i vv _ H1.out HI.out).mono ?_; rintro e w10 ⟨rfl, ⟨m10, rfl⟩⟩; refine ⟨_, rfl, ?_⟩; skip)))
    | (go_at_call 31; go_must ((refine (qput_calls gq i 51 (i + 1) col cs _ (.slice A2 l.length c2) l xs w0 (w.drewN m10) (by exact H3.out) HE.out (by decide) (Kd.S_drewN Hr.out m10) (HRb.out.below (pw_below_drewN (Below.refl _ _) m10)) (fun k hk => HCol.out k hk) (pw_below_drewN HB.out m10) HR.out.ge.2 (by have := HN.out; omega) (by have := HL.out; omega)).mono ?_; rintro e w33 ⟨rfl, ⟨v33, hb33, hr33⟩, hB33, hF33⟩; have K1 := Aside0.mk ((HR.out.drewN m10).turnQ HI.out (by exact H3.out) hb33 hr33 hF33); have K2 : Aside0 (Left w w33 col0 col) := ⟨(HL0.out.trans (Left.below col (pw_below_drewN (Below.refl _ _) m10))).trans (hF33.left (by omega) HLO.out)⟩; have K3 := Aside0.mk hB33; clear hb33 hr33 hB33 hF33))))
  go_ret
  exact ⟨rfl, ⟨col, K1.out, K2.out⟩, K3.out⟩
end Go.Proofs.Yteeddalalfemmaa.K

namespace Go.Proofs.Yteeddalalfemmaa.K
open Go.RowKit Go.Proofs.YteeddalalfemmaaW.PrintWords Go.Proofs.YteeddalalfemmaaW.PrintLast Go.Proofs.YteeddalalfemmaaW.PrintMore
set_option linter.unusedVariables false
set_option linter.unusedSimpArgs false

set_option maxRecDepth 100000 in
set_option maxHeartbeats 4000000 in
theorem swap1_no (g gq i bi bj : Nat) (jj : Int) (j : Nat) (col : Nat → Nat) (vw : List It) (qs : List (List It)) (b0 : Nat) (w : World) (hR : Rel w b0 g gq col vw qs) (hi : i < qs.length) (hn : jj < 0 ∨ (qs[i].length : Int) ≤ jj)
    (hbi : w.heap[bi]? = some (.cells #[.int .i64 j] 3 (0, 0))) (hbj : w.heap[bj]? = some (.cells #[.int .i64 jj] 3 (0, 0))) :
    Calls Try.prog 39 #[.pointer (some ⟨gq, i, none⟩), .pointer (some ⟨bj, 0, none⟩), .pointer (some ⟨bi, 0, none⟩)] w fun e w' => e = .returned (.bool false) ∧ Drawn0 w w' := by
  obtain ⟨cs, h3, h4, h5⟩ := hR.qb
  obtain ⟨v, e, r⟩ := h5 i hi
  obtain ⟨A, c, rfl, hc, hC⟩ := Kd.S_reads r
  have C0 := Aside0.mk ((blk_cell h3 i).trans e)
  have ci : w.cell? ⟨bi, 0, none⟩ = some (.int .i64 j) := (blk_cell hbi 0).trans rfl
  have cj : w.cell? ⟨bj, 0, none⟩ = some (.int .i64 jj) := (blk_cell hbj 0).trans rfl
  have HD : Aside0 (decide ((0 : Int) ≤ jj ∧ jj < qs[i].length) = false) := ⟨decide_eq_false (by omega)⟩
  clear h3 h4 h5 e r hC hR hc hn hbi hbj
  go_enter Try.func39, Try.ntmps39
  go_wp2_with (first
    | ((with_reducible refine gate_dst (N := 7) rfl ?_); go_must (((try (refine gate_guard (by rfl) ?_; dsimp only)); refine goesL_ (some 7) rfl rfl Try.func40 (by kernel_rfl) rfl #[.pointer (some ⟨gq, i, none⟩), .int .i64 jj] rfl ?hA ?_; (case hA => ((try simp only [List.map_toArray, List.map_cons, List.map_nil]); first | done | rfl)); refine (qhas_calls gq i _ c A jj _ (by exact C0.out)).mono ?_; rintro e w18 ⟨rfl, ⟨m18, rfl⟩⟩; refine ⟨_, rfl, ?_⟩; rw [HD.out]))))
  go_ret
  exact ⟨rfl, by repeat (first | exact Drawn0.refl _ | apply Drawn0.step)⟩

def swap1_walk1.T3 : Bool × List (List Nat × List Nat) := (true, [([], []), ([0], [0]), ([1], [1]), ([2], [2]), ([], []), ([], []), ([5], [5]), ([6], [6]), ([7], [7]), ([], []), ([], []), ([10], [10]), ([11], [11]), ([12], [12]), ([], []), ([13, 14], [13, 14]), ([15], [15]), ([], []), ([17], [17]), ([18], [18]), ([19], [19]), ([], []), ([20, 21], [20, 21]), ([22], [22]), ([3, 4, 0, 1, 2, 3, 4, 8, 10, 11, 12, 13, 14, 15, 16, 20, 23], [3, 4]), ([24, 16, 0, 1, 2, 3, 4, 8, 10, 11, 12, 13, 14, 15, 16, 20, 23], [16, 24]), ([8, 9, 0, 1, 2, 3, 4, 5, 6, 7, 8, 9, 10, 11, 12, 13, 14, 15, 16, 17, 18, 19, 20, 21, 22, 23, 24, 25], [8, 9]), ([26, 23, 25, 0, 1, 2, 3, 4, 5, 6, 7, 8, 9, 10, 11, 12, 13, 14, 15, 16, 17, 18, 19, 20, 21, 22, 23, 24, 25], [23, 26])])
def swap1_walk1.B3 : List Nat := [0, 1, 3, 7, 0, 0, 32, 96, 224, 0, 0, 1024, 3072, 7168, 0, 31744, 64512, 0, 131072, 393216, 917504, 0, 4063232, 8257536, 16776703, 33553919, 67108863, 134217727]
theorem swap1_walk1.tab3 : rtab .any (opsOf Try.f39 3) = swap1_walk1.T3 := by kernel_rfl
theorem swap1_walk1.bits3 : waitsOk swap1_walk1.T3.2 swap1_walk1.B3 = true := by kernel_rfl
set_option maxRecDepth 100000 in
set_option maxHeartbeats 8000000 in
theorem swap1_walk1 (gq gv i bi bj j1 n cap la ca : Nat) (Aa : Option Addr) (ba : Bool) (w : World)
    (c0 : w.cell? ⟨gq, i, none⟩ = some (.slice (some ⟨gv, 0, none⟩) n cap)) (ci : w.cell? ⟨bi, 0, none⟩ = some (.int .i64 j1)) (cj : w.cell? ⟨bj, 0, none⟩ = some (.int .i64 j1))
    (ha0 : w.cell? ⟨gv, j1 * 2, none⟩ = some (.slice Aa la ca)) (ha1 : w.cell? ⟨gv, j1 * 2 + 1, none⟩ = some (.bool ba))
    (f0 : w.frozen? ⟨gv, j1 * 2, none⟩ = false) (f1 : w.frozen? ⟨gv, j1 * 2 + 1, none⟩ = false)
    (nq : gv ≠ gq) (ni : gv ≠ bi) (nj : gv ≠ bj) (hj5 : j1 < n) (hncap : n ≤ cap) :
    Calls Try.prog 39 #[.pointer (some ⟨gq, i, none⟩), .pointer (some ⟨bj, 0, none⟩), .pointer (some ⟨bi, 0, none⟩)] w fun e w' => e = .returned (.bool true) ∧
      ∃ m, w' = ((((w.drewN m).setCell ⟨gv, j1 * 2, none⟩ (.slice Aa la ca)).setCell ⟨gv, j1 * 2 + 1, none⟩ (.bool ba)).setCell ⟨gv, j1 * 2, none⟩ (.slice Aa la ca)).setCell ⟨gv, j1 * 2 + 1, none⟩ (.bool ba) := by
  have hj1 : (j1 : Int) < n := by omega
  have hj3 : (0 : Int) ≤ j1 := by omega
  have hnc : (n : Int) ≤ cap := by omega
  have HD : Aside0 (decide ((0 : Int) ≤ (j1 : Int) ∧ (j1 : Int) < n) = true) := ⟨decide_eq_true ⟨by omega, by omega⟩⟩
  have C0 := Aside0.mk c0
  go_enter Try.func39, Try.ntmps39
  go_wp2_with (first
    | ((with_reducible refine gate_dst (N := 7) rfl ?_); go_must (((try (refine gate_guard (by rfl) ?_; dsimp only)); refine goesL_ (some 7) rfl rfl Try.func40 (by kernel_rfl) rfl #[.pointer (some ⟨gq, i, none⟩), .int .i64 j1] rfl ?hA ?_; (case hA => ((try simp only [List.map_toArray, List.map_cons, List.map_nil]); first | done | rfl)); refine (qhas_calls gq i n cap (some ⟨gv, 0, none⟩) j1 _ (by exact C0.out)).mono ?_; rintro e w18 ⟨rfl, ⟨m18, rfl⟩⟩; refine ⟨_, rfl, ?_⟩; rw [HD.out]))))
  clear C0 HD
  refine start_ (n := 28) (S := fun w' => w'.cell? ⟨gq, i, none⟩ = some (.slice (some ⟨gv, 0, none⟩) n cap) ∧ w'.cell? ⟨bi, 0, none⟩ = some (.int .i64 j1) ∧ w'.cell? ⟨bj, 0, none⟩ = some (.int .i64 j1)) (ds := [27]) #[false, false, false, false, false, false, false, false, false, false, false, false, false, false, false, false, false, false, false, false, false, false, false, false, false, false, false, false] (by kernel_rfl) rfl rfl ⟨c0, ci, cj⟩ (fun hHeld => ?_)
  refine with_tabW swap1_walk1.tab3 swap1_walk1.bits3 (fun HT_ HW_ => ?_)
  refine pure_ (i := 0) (N := some 9) (v := ?_) (a' := ?_) #[true, false, false, false, false, false, false, false, false, false, false, false, false, false, false, false, false, false, false, false, false, false, false, false, false, false, false, false] rfl rfl (any_of HT_.out (by kernel_rfl)) (fun _ _ _ h => h) (Or.inl ⟨by rfl, ?_⟩) ?_ ?_
  rotate_left
  · intro w'
    go_simp
    with_reducible rfl
  rotate_left
  · simp only [Act.put, List.setIfInBounds_toArray, List.set_cons_zero, List.set_cons_succ, i64_w, i32_w]
    rfl
  refine pure_ (i := 1) (N := some 10) (v := ?_) (a' := ?_) #[true, true, false, false, false, false, false, false, false, false, false, false, false, false, false, false, false, false, false, false, false, false, false, false, false, false, false, false] rfl rfl (any_of HT_.out (by kernel_rfl)) (fun _ _ _ h => h) (Or.inl ⟨by rfl, ?_⟩) ?_ ?_
  rotate_left
  · intro w'
    go_simp
    with_reducible rfl
  rotate_left
  · simp only [Act.put, List.setIfInBounds_toArray, List.set_cons_zero, List.set_cons_succ, i64_w, i32_w]
    rfl
  refine pure_ (i := 2) (N := some 11) (v := ?_) (a' := ?_) #[true, true, true, false, false, false, false, false, false, false, false, false, false, false, false, false, false, false, false, false, false, false, false, false, false, false, false, false] rfl rfl (any_of HT_.out (by kernel_rfl)) (fun _ _ _ h => h) (Or.inl ⟨by rfl, ?_⟩) ?_ ?_
  rotate_left
  · intro w'
    go_simp
    with_reducible rfl
  rotate_left
  · simp only [Act.put, List.setIfInBounds_toArray, List.set_cons_zero, List.set_cons_succ, i64_w, i32_w]
    rfl
  refine pure_ (i := 5) (N := some 14) (v := ?_) (a' := ?_) #[true, true, true, false, false, true, false, false, false, false, false, false, false, false, false, false, false, false, false, false, false, false, false, false, false, false, false, false] rfl rfl (any_of HT_.out (by kernel_rfl)) (fun _ _ _ h => h) (Or.inl ⟨by rfl, ?_⟩) ?_ ?_
  rotate_left
  · intro w'
    go_simp
    with_reducible rfl
  rotate_left
  · simp only [Act.put, List.setIfInBounds_toArray, List.set_cons_zero, List.set_cons_succ, i64_w, i32_w]
    rfl
  refine pure_ (i := 6) (N := some 15) (v := ?_) (a' := ?_) #[true, true, true, false, false, true, true, false, false, false, false, false, false, false, false, false, false, false, false, false, false, false, false, false, false, false, false, false] rfl rfl (any_of HT_.out (by kernel_rfl)) (fun _ _ _ h => h) (Or.inl ⟨by rfl, ?_⟩) ?_ ?_
  rotate_left
  · intro w'
    go_simp
    with_reducible rfl
  rotate_left
  · simp only [Act.put, List.setIfInBounds_toArray, List.set_cons_zero, List.set_cons_succ, i64_w, i32_w]
    rfl
  refine pure_ (i := 7) (N := some 16) (v := ?_) (a' := ?_) #[true, true, true, false, false, true, true, true, false, false, false, false, false, false, false, false, false, false, false, false, false, false, false, false, false, false, false, false] rfl rfl (any_of HT_.out (by kernel_rfl)) (fun _ _ _ h => h) (Or.inl ⟨by rfl, ?_⟩) ?_ ?_
  rotate_left
  · intro w'
    go_simp
    with_reducible rfl
  rotate_left
  · simp only [Act.put, List.setIfInBounds_toArray, List.set_cons_zero, List.set_cons_succ, i64_w, i32_w]
    rfl
  refine pure_ (i := 10) (N := some 19) (v := ?_) (a' := ?_) #[true, true, true, false, false, true, true, true, false, false, true, false, false, false, false, false, false, false, false, false, false, false, false, false, false, false, false, false] rfl rfl (any_of HT_.out (by kernel_rfl)) (fun _ _ _ h => h) (Or.inl ⟨by rfl, ?_⟩) ?_ ?_
  rotate_left
  · intro w'
    go_simp
    with_reducible rfl
  rotate_left
  · simp only [Act.put, List.setIfInBounds_toArray, List.set_cons_zero, List.set_cons_succ, i64_w, i32_w]
    rfl
  refine pure_ (i := 11) (N := some 20) (v := ?_) (a' := ?_) #[true, true, true, false, false, true, true, true, false, false, true, true, false, false, false, false, false, false, false, false, false, false, false, false, false, false, false, false] rfl rfl (any_of HT_.out (by kernel_rfl)) (fun _ _ _ h => h) (Or.inl ⟨by rfl, ?_⟩) ?_ ?_
  rotate_left
  · intro w'
    go_simp
    with_reducible rfl
  rotate_left
  · simp only [Act.put, List.setIfInBounds_toArray, List.set_cons_zero, List.set_cons_succ, i64_w, i32_w]
    rfl
  refine pure_ (i := 12) (N := some 21) (v := ?_) (a' := ?_) #[true, true, true, false, false, true, true, true, false, false, true, true, true, false, false, false, false, false, false, false, false, false, false, false, false, false, false, false] rfl rfl (any_of HT_.out (by kernel_rfl)) (fun _ _ _ h => h) (Or.inl ⟨by rfl, ?_⟩) ?_ ?_
  rotate_left
  · intro w'
    go_simp
    with_reducible rfl
  rotate_left
  · simp only [Act.put, List.setIfInBounds_toArray, List.set_cons_zero, List.set_cons_succ, i64_w, i32_w]
    rfl
  refine pure_ (i := 17) (N := some 26) (v := ?_) (a' := ?_) #[true, true, true, false, false, true, true, true, false, false, true, true, true, false, false, false, false, true, false, false, false, false, false, false, false, false, false, false] rfl rfl (any_of HT_.out (by kernel_rfl)) (fun _ _ _ h => h) (Or.inl ⟨by rfl, ?_⟩) ?_ ?_
  rotate_left
  · intro w'
    go_simp
    with_reducible rfl
  rotate_left
  · simp only [Act.put, List.setIfInBounds_toArray, List.set_cons_zero, List.set_cons_succ, i64_w, i32_w]
    rfl
  refine pure_ (i := 18) (N := some 27) (v := ?_) (a' := ?_) #[true, true, true, false, false, true, true, true, false, false, true, true, true, false, false, false, false, true, true, false, false, false, false, false, false, false, false, false] rfl rfl (any_of HT_.out (by kernel_rfl)) (fun _ _ _ h => h) (Or.inl ⟨by rfl, ?_⟩) ?_ ?_
  rotate_left
  · intro w'
    go_simp
    with_reducible rfl
  rotate_left
  · simp only [Act.put, List.setIfInBounds_toArray, List.set_cons_zero, List.set_cons_succ, i64_w, i32_w]
    rfl
  refine pure_ (i := 19) (N := some 28) (v := ?_) (a' := ?_) #[true, true, true, false, false, true, true, true, false, false, true, true, true, false, false, false, false, true, true, true, false, false, false, false, false, false, false, false] rfl rfl (any_of HT_.out (by kernel_rfl)) (fun _ _ _ h => h) (Or.inl ⟨by rfl, ?_⟩) ?_ ?_
  rotate_left
  · intro w'
    go_simp
    with_reducible rfl
  rotate_left
  · simp only [Act.put, List.setIfInBounds_toArray, List.set_cons_zero, List.set_cons_succ, i64_w, i32_w]
    rfl
  refine take_ (i := 3) (N := some 12) (v := ?_) (a' := ?_) #[true, true, true, true, false, true, true, true, false, false, true, true, true, false, false, false, false, true, true, true, false, false, false, false, false, false, false, false] rfl rfl (take_ofW HT_.out HW_.out (by kernel_rfl)) (fun _ _ _ h => h) (Or.inl ⟨by rfl, ?_⟩) hHeld ?_ ?_
  rotate_left
  · rintro w' ⟨s0, s1, s2⟩
    go_simp
    with_reducible rfl
  rotate_left
  · simp only [Act.put, List.setIfInBounds_toArray, List.set_cons_zero, List.set_cons_succ, i64_w, i32_w]
    rfl
  refine take_ (i := 4) (N := some 13) (v := ?_) (a' := ?_) #[true, true, true, true, true, true, true, true, false, false, true, true, true, false, false, false, false, true, true, true, false, false, false, false, false, false, false, false] rfl rfl (take_ofW HT_.out HW_.out (by kernel_rfl)) (fun _ _ _ h => h) (Or.inl ⟨by rfl, ?_⟩) hHeld ?_ ?_
  rotate_left
  · rintro w' ⟨s0, s1, s2⟩
    go_simp
    with_reducible rfl
  rotate_left
  · simp only [Act.put, List.setIfInBounds_toArray, List.set_cons_zero, List.set_cons_succ, i64_w, i32_w]
    rfl
  refine take_ (i := 8) (N := some 17) (v := ?_) (a' := ?_) #[true, true, true, true, true, true, true, true, true, false, true, true, true, false, false, false, false, true, true, true, false, false, false, false, false, false, false, false] rfl rfl (take_ofW HT_.out HW_.out (by kernel_rfl)) (fun _ _ _ h => h) (Or.inl ⟨by rfl, ?_⟩) hHeld ?_ ?_
  rotate_left
  · rintro w' ⟨s0, s1, s2⟩
    go_simp
    with_reducible rfl
  rotate_left
  · simp only [Act.put, List.setIfInBounds_toArray, List.set_cons_zero, List.set_cons_succ, i64_w, i32_w]
    rfl
  refine take_ (i := 9) (N := some 18) (v := ?_) (a' := ?_) #[true, true, true, true, true, true, true, true, true, true, true, true, true, false, false, false, false, true, true, true, false, false, false, false, false, false, false, false] rfl rfl (take_ofW HT_.out HW_.out (by kernel_rfl)) (fun _ _ _ h => h) (Or.inl ⟨by rfl, ?_⟩) hHeld ?_ ?_
  rotate_left
  · rintro w' ⟨s0, s1, s2⟩
    go_simp
    with_reducible rfl
  rotate_left
  · simp only [Act.put, List.setIfInBounds_toArray, List.set_cons_zero, List.set_cons_succ, i64_w, i32_w]
    rfl
  refine take_ (i := 13) (N := some 22) (v := ?_) (a' := ?_) #[true, true, true, true, true, true, true, true, true, true, true, true, true, true, false, false, false, true, true, true, false, false, false, false, false, false, false, false] rfl rfl (take_ofW HT_.out HW_.out (by kernel_rfl)) (fun _ _ _ h => h) (Or.inl ⟨by rfl, ?_⟩) hHeld ?_ ?_
  rotate_left
  · rintro w' ⟨s0, s1, s2⟩
    go_simp
    with_reducible rfl
  rotate_left
  · simp only [Act.put, List.setIfInBounds_toArray, List.set_cons_zero, List.set_cons_succ, i64_w, i32_w]
    rfl
  refine take_ (i := 14) (N := some 23) (v := ?_) (a' := ?_) #[true, true, true, true, true, true, true, true, true, true, true, true, true, true, true, false, false, true, true, true, false, false, false, false, false, false, false, false] rfl rfl (take_ofW HT_.out HW_.out (by kernel_rfl)) (fun _ _ _ h => h) (Or.inl ⟨by rfl, ?_⟩) hHeld ?_ ?_
  rotate_left
  · rintro w' ⟨s0, s1, s2⟩
    go_simp
    with_reducible rfl
  rotate_left
  · simp only [Act.put, List.setIfInBounds_toArray, List.set_cons_zero, List.set_cons_succ, i64_w, i32_w]
    rfl
  refine pure_ (i := 15) (N := some 24) (v := ?_) (a' := ?_) #[true, true, true, true, true, true, true, true, true, true, true, true, true, true, true, true, false, true, true, true, false, false, false, false, false, false, false, false] rfl rfl (any_of HT_.out (by kernel_rfl)) (fun _ _ _ h => h) (Or.inl ⟨by rfl, ?_⟩) ?_ ?_
  rotate_left
  · intro w'
    go_simp
    with_reducible rfl
  rotate_left
  · simp only [Act.put, List.setIfInBounds_toArray, List.set_cons_zero, List.set_cons_succ, i64_w, i32_w]
    rfl
  refine take_ (i := 20) (N := some 29) (v := ?_) (a' := ?_) #[true, true, true, true, true, true, true, true, true, true, true, true, true, true, true, true, false, true, true, true, true, false, false, false, false, false, false, false] rfl rfl (take_ofW HT_.out HW_.out (by kernel_rfl)) (fun _ _ _ h => h) (Or.inl ⟨by rfl, ?_⟩) hHeld ?_ ?_
  rotate_left
  · rintro w' ⟨s0, s1, s2⟩
    go_simp
    with_reducible rfl
  rotate_left
  · simp only [Act.put, List.setIfInBounds_toArray, List.set_cons_zero, List.set_cons_succ, i64_w, i32_w]
    rfl
  refine take_ (i := 21) (N := some 30) (v := ?_) (a' := ?_) #[true, true, true, true, true, true, true, true, true, true, true, true, true, true, true, true, false, true, true, true, true, true, false, false, false, false, false, false] rfl rfl (take_ofW HT_.out HW_.out (by kernel_rfl)) (fun _ _ _ h => h) (Or.inl ⟨by rfl, ?_⟩) hHeld ?_ ?_
  rotate_left
  · rintro w' ⟨s0, s1, s2⟩
    go_simp
    with_reducible rfl
  rotate_left
  · simp only [Act.put, List.setIfInBounds_toArray, List.set_cons_zero, List.set_cons_succ, i64_w, i32_w]
    rfl
  refine pure_ (i := 22) (N := some 31) (v := ?_) (a' := ?_) #[true, true, true, true, true, true, true, true, true, true, true, true, true, true, true, true, false, true, true, true, true, true, true, false, false, false, false, false] rfl rfl (any_of HT_.out (by kernel_rfl)) (fun _ _ _ h => h) (Or.inl ⟨by rfl, ?_⟩) ?_ ?_
  rotate_left
  · intro w'
    go_simp
    with_reducible rfl
  rotate_left
  · simp only [Act.put, List.setIfInBounds_toArray, List.set_cons_zero, List.set_cons_succ, i64_w, i32_w]
    rfl
  refine join_ (σ := Unit) 4 #[true, true, true, true, true, true, true, true, true, true, true, true, true, true, true, true, true, true, true, true, true, true, true, true, false, false, false, false] (fun _ => [(25, .agg #[.slice Aa la ca, .bool ba]), (32, .agg #[.slice Aa la ca, .bool ba])]) (fun _ w' => w' = (w.drewN m18).drew) ?_ ?_
  rotate_left
  · intro hCont
    refine two_ (i := 16) (j := 23) (Ni := some 25) (Nj := some 32) #[true, true, true, true, true, true, true, true, true, true, true, true, true, true, true, true, true, true, true, true, true, true, true, false, false, false, false, false] #[true, true, true, true, true, true, true, true, true, true, true, true, true, true, true, true, false, true, true, true, true, true, true, true, false, false, false, false] rfl rfl rfl rfl (two_of HT_.out (by kernel_rfl)) (by decide) (by decide) (fun K hK => ?_) (fun K hK => ?_)
    · skip
      refine value_ (w1 := ?_) (v := ?_) (by rfl) rfl ?_ ?_
      rotate_left 2
      · go_simp
        constructor
        · rfl
        · rfl
      refine hK.out _ _ ⟨c0, ci, cj⟩ (fun hHeld => ?_)
      clear hK K
      refine norm_ (a' := ?_) ?_ ?_
      rotate_left
      · show Act.put _ (some 25) _ = _
        simp only [Act.put, List.setIfInBounds_toArray, List.set_cons_zero, List.set_cons_succ, i64_w, i32_w]
        rfl
      refine one_ (i := 23) (N := some 32) #[true, true, true, true, true, true, true, true, true, true, true, true, true, true, true, true, true, true, true, true, true, true, true, true, false, false, false, false] rfl rfl (one_of HT_.out (by kernel_rfl)) (by decide) (fun K hK => ?_)
      refine value_ (w1 := ?_) (v := ?_) (by rfl) rfl ?_ ?_
      rotate_left 2
      · go_simp
        constructor
        · rfl
        · rfl
      refine hK.out _ _ ⟨c0, ci, cj⟩ (fun hHeld => ?_)
      clear hK K
      refine norm_ (a' := ?_) ?_ ?_
      rotate_left
      · show Act.put _ (some 32) _ = _
        simp only [Act.put, List.setIfInBounds_toArray, List.set_cons_zero, List.set_cons_succ, i64_w, i32_w]
        rfl
      exact norm_ (by simp only [putAll, Act.put, List.setIfInBounds_toArray, List.set_cons_zero, List.set_cons_succ]) (hCont () _ rfl)
    · skip
      refine value_ (w1 := ?_) (v := ?_) (by rfl) rfl ?_ ?_
      rotate_left 2
      · go_simp
        constructor
        · rfl
        · rfl
      refine hK.out _ _ ⟨c0, ci, cj⟩ (fun hHeld => ?_)
      clear hK K
      refine norm_ (a' := ?_) ?_ ?_
      rotate_left
      · show Act.put _ (some 32) _ = _
        simp only [Act.put, List.setIfInBounds_toArray, List.set_cons_zero, List.set_cons_succ, i64_w, i32_w]
        rfl
      refine one_ (i := 16) (N := some 25) #[true, true, true, true, true, true, true, true, true, true, true, true, true, true, true, true, true, true, true, true, true, true, true, true, false, false, false, false] rfl rfl (one_of HT_.out (by kernel_rfl)) (by decide) (fun K hK => ?_)
      refine value_ (w1 := ?_) (v := ?_) (by rfl) rfl ?_ ?_
      rotate_left 2
      · go_simp
        constructor
        · rfl
        · rfl
      refine hK.out _ _ ⟨c0, ci, cj⟩ (fun hHeld => ?_)
      clear hK K
      refine norm_ (a' := ?_) ?_ ?_
      rotate_left
      · show Act.put _ (some 25) _ = _
        simp only [Act.put, List.setIfInBounds_toArray, List.set_cons_zero, List.set_cons_succ, i64_w, i32_w]
        rfl
      exact norm_ (by simp only [putAll, Act.put, List.setIfInBounds_toArray, List.set_cons_zero, List.set_cons_succ]) (hCont () _ rfl)
  rintro s w3 rfl
  have hHeld := And.intro c0 (And.intro ci cj)
  refine norm_ (a' := ?_) ?_ ?_
  rotate_left
  · simp only [putAll, Act.put, List.setIfInBounds_toArray, List.set_cons_zero, List.set_cons_succ]
    rfl
  refine pure_ (i := 24) (N := some 33) (v := ?_) (a' := ?_) #[true, true, true, true, true, true, true, true, true, true, true, true, true, true, true, true, true, true, true, true, true, true, true, true, true, false, false, false] rfl rfl (any_of HT_.out (by kernel_rfl)) (fun _ _ _ h => h) (Or.inl ⟨by rfl, ?_⟩) ?_ ?_
  rotate_left
  · intro w'
    go_simp
    with_reducible rfl
  rotate_left
  · simp only [Act.put, List.setIfInBounds_toArray, List.set_cons_zero, List.set_cons_succ, i64_w, i32_w]
    rfl
  refine one_ (i := 25) (N := none) #[true, true, true, true, true, true, true, true, true, true, true, true, true, true, true, true, true, true, true, true, true, true, true, true, true, true, false, false] rfl rfl (one_of HT_.out (by kernel_rfl)) (by decide) (fun K hK => ?_)
  refine skip_ (w1 := ?_) (by rfl) rfl ?_ ?_
  rotate_left
  · go_simp
    rfl
  refine hK.out _ _ ⟨(set_ne (fun h => nq (by injection h)) (set_ne (fun h => nq (by injection h)) c0)), (set_ne (fun h => ni (by injection h)) (set_ne (fun h => ni (by injection h)) ci)), (set_ne (fun h => nj (by injection h)) (set_ne (fun h => nj (by injection h)) cj))⟩ (fun hHeld => ?_)
  clear hK K
  refine pure_ (i := 26) (N := some 34) (v := ?_) (a' := ?_) #[true, true, true, true, true, true, true, true, true, true, true, true, true, true, true, true, true, true, true, true, true, true, true, true, true, true, true, false] rfl rfl (any_of HT_.out (by kernel_rfl)) (fun _ _ _ h => h) (Or.inl ⟨by rfl, ?_⟩) ?_ ?_
  rotate_left
  · intro w'
    go_simp
    with_reducible rfl
  rotate_left
  · simp only [Act.put, List.setIfInBounds_toArray, List.set_cons_zero, List.set_cons_succ, i64_w, i32_w]
    rfl
  refine last_ (i := 27) (N := none) #[true, true, true, true, true, true, true, true, true, true, true, true, true, true, true, true, true, true, true, true, true, true, true, true, true, true, true, true] rfl rfl (one_of HT_.out (by kernel_rfl)) (by decide) (fun K hK => ?_)
  refine skip_ (w1 := ?_) (by rfl) rfl ?_ ?_
  rotate_left
  · go_simp
    rfl
  refine hK.out _ _ ?_
  clear hK K
  refine done_ (done_of HT_.out (by kernel_rfl)) ?_
  go_wp2
  go_ret
  exact ⟨rfl, m18 + 1, rfl⟩

def swap1_walk2.T3 : Bool × List (List Nat × List Nat) := (true, [([], []), ([0], [0]), ([1], [1]), ([2], [2]), ([], []), ([], []), ([5], [5]), ([6], [6]), ([7], [7]), ([], []), ([], []), ([10], [10]), ([11], [11]), ([12], [12]), ([], []), ([13, 14], [13, 14]), ([15], [15]), ([], []), ([17], [17]), ([18], [18]), ([19], [19]), ([], []), ([20, 21], [20, 21]), ([22], [22]), ([3, 4, 0, 1, 2, 3, 4, 8, 10, 11, 12, 13, 14, 15, 16, 20, 23], [3, 4]), ([24, 16, 0, 1, 2, 3, 4, 8, 10, 11, 12, 13, 14, 15, 16, 20, 23], [16, 24]), ([8, 9, 0, 1, 2, 3, 4, 5, 6, 7, 8, 9, 10, 11, 12, 13, 14, 15, 16, 17, 18, 19, 20, 21, 22, 23, 24, 25], [8, 9]), ([26, 23, 25, 0, 1, 2, 3, 4, 5, 6, 7, 8, 9, 10, 11, 12, 13, 14, 15, 16, 17, 18, 19, 20, 21, 22, 23, 24, 25], [23, 26])])
def swap1_walk2.B3 : List Nat := [0, 1, 3, 7, 0, 0, 32, 96, 224, 0, 0, 1024, 3072, 7168, 0, 31744, 64512, 0, 131072, 393216, 917504, 0, 4063232, 8257536, 16776703, 33553919, 67108863, 134217727]
theorem swap1_walk2.tab3 : rtab .any (opsOf Try.f39 3) = swap1_walk2.T3 := by kernel_rfl
theorem swap1_walk2.bits3 : waitsOk swap1_walk2.T3.2 swap1_walk2.B3 = true := by kernel_rfl
set_option maxRecDepth 100000 in
set_option maxHeartbeats 8000000 in
theorem swap1_walk2 (gq gv i bi bj j1 j2 n cap la ca lb cb : Nat) (Aa Ab : Option Addr) (ba bb : Bool) (w : World) (hjj : ¬ j1 = j2)
    (c0 : w.cell? ⟨gq, i, none⟩ = some (.slice (some ⟨gv, 0, none⟩) n cap)) (ci : w.cell? ⟨bi, 0, none⟩ = some (.int .i64 j1)) (cj : w.cell? ⟨bj, 0, none⟩ = some (.int .i64 j2))
    (ha0 : w.cell? ⟨gv, j1 * 2, none⟩ = some (.slice Aa la ca)) (ha1 : w.cell? ⟨gv, j1 * 2 + 1, none⟩ = some (.bool ba)) (hb0 : w.cell? ⟨gv, j2 * 2, none⟩ = some (.slice Ab lb cb)) (hb1 : w.cell? ⟨gv, j2 * 2 + 1, none⟩ = some (.bool bb))
    (f0 : w.frozen? ⟨gv, j1 * 2, none⟩ = false) (f1 : w.frozen? ⟨gv, j1 * 2 + 1, none⟩ = false) (f2 : w.frozen? ⟨gv, j2 * 2, none⟩ = false) (f3 : w.frozen? ⟨gv, j2 * 2 + 1, none⟩ = false)
    (nq : gv ≠ gq) (ni : gv ≠ bi) (nj : gv ≠ bj) (hj5 : j1 < n) (hj6 : j2 < n) (hncap : n ≤ cap) :
    Calls Try.prog 39 #[.pointer (some ⟨gq, i, none⟩), .pointer (some ⟨bj, 0, none⟩), .pointer (some ⟨bi, 0, none⟩)] w fun e w' => e = .returned (.bool true) ∧
      ∃ m, w' = ((((w.drewN m).setCell ⟨gv, j1 * 2, none⟩ (.slice Ab lb cb)).setCell ⟨gv, j1 * 2 + 1, none⟩ (.bool bb)).setCell ⟨gv, j2 * 2, none⟩ (.slice Aa la ca)).setCell ⟨gv, j2 * 2 + 1, none⟩ (.bool ba) := by
  have hj1 : (j1 : Int) < n := by omega
  have hj3 : (0 : Int) ≤ j1 := by omega
  have hj2 : (j2 : Int) < n := by omega
  have hj4 : (0 : Int) ≤ j2 := by omega
  have hnc : (n : Int) ≤ cap := by omega
  have HD : Aside0 (decide ((0 : Int) ≤ (j2 : Int) ∧ (j2 : Int) < n) = true) := ⟨decide_eq_true ⟨by omega, by omega⟩⟩
  have C0 := Aside0.mk c0
  go_enter Try.func39, Try.ntmps39
  go_wp2_with (first
    | ((with_reducible refine gate_dst (N := 7) rfl ?_); go_must (((try (refine gate_guard (by rfl) ?_; dsimp only)); refine goesL_ (some 7) rfl rfl Try.func40 (by kernel_rfl) rfl #[.pointer (some ⟨gq, i, none⟩), .int .i64 j2] rfl ?hA ?_; (case hA => ((try simp only [List.map_toArray, List.map_cons, List.map_nil]); first | done | rfl)); refine (qhas_calls gq i n cap (some ⟨gv, 0, none⟩) j2 _ (by exact C0.out)).mono ?_; rintro e w18 ⟨rfl, ⟨m18, rfl⟩⟩; refine ⟨_, rfl, ?_⟩; rw [HD.out]))))
  clear C0 HD
  have d1 : ¬ j1 * 2 = j2 * 2 := by omega
  have d2 : ¬ j2 * 2 = j1 * 2 := by omega
  have d3 : ¬ j1 * 2 = j2 * 2 + 1 := by omega
  have d4 : ¬ j2 * 2 = j1 * 2 + 1 := by omega
  have d5 : ¬ j1 * 2 + 1 = j2 * 2 := by omega
  have d6 : ¬ j2 * 2 + 1 = j1 * 2 := by omega
  have d7 : ¬ j1 * 2 + 1 = j2 * 2 + 1 := by omega
  have d8 : ¬ j2 * 2 + 1 = j1 * 2 + 1 := by omega
  refine start_ (n := 28) (S := fun w' => w'.cell? ⟨gq, i, none⟩ = some (.slice (some ⟨gv, 0, none⟩) n cap) ∧ w'.cell? ⟨bi, 0, none⟩ = some (.int .i64 j1) ∧ w'.cell? ⟨bj, 0, none⟩ = some (.int .i64 j2)) (ds := [27]) #[false, false, false, false, false, false, false, false, false, false, false, false, false, false, false, false, false, false, false, false, false, false, false, false, false, false, false, false] (by kernel_rfl) rfl rfl ⟨c0, ci, cj⟩ (fun hHeld => ?_)
  refine with_tabW swap1_walk2.tab3 swap1_walk2.bits3 (fun HT_ HW_ => ?_)
  refine pure_ (i := 0) (N := some 9) (v := ?_) (a' := ?_) #[true, false, false, false, false, false, false, false, false, false, false, false, false, false, false, false, false, false, false, false, false, false, false, false, false, false, false, false] rfl rfl (any_of HT_.out (by kernel_rfl)) (fun _ _ _ h => h) (Or.inl ⟨by rfl, ?_⟩) ?_ ?_
  rotate_left
  · intro w'
    go_simp
    with_reducible rfl
  rotate_left
  · simp only [Act.put, List.setIfInBounds_toArray, List.set_cons_zero, List.set_cons_succ, i64_w, i32_w]
    rfl
  refine pure_ (i := 1) (N := some 10) (v := ?_) (a' := ?_) #[true, true, false, false, false, false, false, false, false, false, false, false, false, false, false, false, false, false, false, false, false, false, false, false, false, false, false, false] rfl rfl (any_of HT_.out (by kernel_rfl)) (fun _ _ _ h => h) (Or.inl ⟨by rfl, ?_⟩) ?_ ?_
  rotate_left
  · intro w'
    go_simp
    with_reducible rfl
  rotate_left
  · simp only [Act.put, List.setIfInBounds_toArray, List.set_cons_zero, List.set_cons_succ, i64_w, i32_w]
    rfl
  refine pure_ (i := 2) (N := some 11) (v := ?_) (a' := ?_) #[true, true, true, false, false, false, false, false, false, false, false, false, false, false, false, false, false, false, false, false, false, false, false, false, false, false, false, false] rfl rfl (any_of HT_.out (by kernel_rfl)) (fun _ _ _ h => h) (Or.inl ⟨by rfl, ?_⟩) ?_ ?_
  rotate_left
  · intro w'
    go_simp
    with_reducible rfl
  rotate_left
  · simp only [Act.put, List.setIfInBounds_toArray, List.set_cons_zero, List.set_cons_succ, i64_w, i32_w]
    rfl
  refine pure_ (i := 5) (N := some 14) (v := ?_) (a' := ?_) #[true, true, true, false, false, true, false, false, false, false, false, false, false, false, false, false, false, false, false, false, false, false, false, false, false, false, false, false] rfl rfl (any_of HT_.out (by kernel_rfl)) (fun _ _ _ h => h) (Or.inl ⟨by rfl, ?_⟩) ?_ ?_
  rotate_left
  · intro w'
    go_simp
    with_reducible rfl
  rotate_left
  · simp only [Act.put, List.setIfInBounds_toArray, List.set_cons_zero, List.set_cons_succ, i64_w, i32_w]
    rfl
  refine pure_ (i := 6) (N := some 15) (v := ?_) (a' := ?_) #[true, true, true, false, false, true, true, false, false, false, false, false, false, false, false, false, false, false, false, false, false, false, false, false, false, false, false, false] rfl rfl (any_of HT_.out (by kernel_rfl)) (fun _ _ _ h => h) (Or.inl ⟨by rfl, ?_⟩) ?_ ?_
  rotate_left
  · intro w'
    go_simp
    with_reducible rfl
  rotate_left
  · simp only [Act.put, List.setIfInBounds_toArray, List.set_cons_zero, List.set_cons_succ, i64_w, i32_w]
    rfl
  refine pure_ (i := 7) (N := some 16) (v := ?_) (a' := ?_) #[true, true, true, false, false, true, true, true, false, false, false, false, false, false, false, false, false, false, false, false, false, false, false, false, false, false, false, false] rfl rfl (any_of HT_.out (by kernel_rfl)) (fun _ _ _ h => h) (Or.inl ⟨by rfl, ?_⟩) ?_ ?_
  rotate_left
  · intro w'
    go_simp
    with_reducible rfl
  rotate_left
  · simp only [Act.put, List.setIfInBounds_toArray, List.set_cons_zero, List.set_cons_succ, i64_w, i32_w]
    rfl
  refine pure_ (i := 10) (N := some 19) (v := ?_) (a' := ?_) #[true, true, true, false, false, true, true, true, false, false, true, false, false, false, false, false, false, false, false, false, false, false, false, false, false, false, false, false] rfl rfl (any_of HT_.out (by kernel_rfl)) (fun _ _ _ h => h) (Or.inl ⟨by rfl, ?_⟩) ?_ ?_
  rotate_left
  · intro w'
    go_simp
    with_reducible rfl
  rotate_left
  · simp only [Act.put, List.setIfInBounds_toArray, List.set_cons_zero, List.set_cons_succ, i64_w, i32_w]
    rfl
  refine pure_ (i := 11) (N := some 20) (v := ?_) (a' := ?_) #[true, true, true, false, false, true, true, true, false, false, true, true, false, false, false, false, false, false, false, false, false, false, false, false, false, false, false, false] rfl rfl (any_of HT_.out (by kernel_rfl)) (fun _ _ _ h => h) (Or.inl ⟨by rfl, ?_⟩) ?_ ?_
  rotate_left
  · intro w'
    go_simp
    with_reducible rfl
  rotate_left
  · simp only [Act.put, List.setIfInBounds_toArray, List.set_cons_zero, List.set_cons_succ, i64_w, i32_w]
    rfl
  refine pure_ (i := 12) (N := some 21) (v := ?_) (a' := ?_) #[true, true, true, false, false, true, true, true, false, false, true, true, true, false, false, false, false, false, false, false, false, false, false, false, false, false, false, false] rfl rfl (any_of HT_.out (by kernel_rfl)) (fun _ _ _ h => h) (Or.inl ⟨by rfl, ?_⟩) ?_ ?_
  rotate_left
  · intro w'
    go_simp
    with_reducible rfl
  rotate_left
  · simp only [Act.put, List.setIfInBounds_toArray, List.set_cons_zero, List.set_cons_succ, i64_w, i32_w]
    rfl
  refine pure_ (i := 17) (N := some 26) (v := ?_) (a' := ?_) #[true, true, true, false, false, true, true, true, false, false, true, true, true, false, false, false, false, true, false, false, false, false, false, false, false, false, false, false] rfl rfl (any_of HT_.out (by kernel_rfl)) (fun _ _ _ h => h) (Or.inl ⟨by rfl, ?_⟩) ?_ ?_
  rotate_left
  · intro w'
    go_simp
    with_reducible rfl
  rotate_left
  · simp only [Act.put, List.setIfInBounds_toArray, List.set_cons_zero, List.set_cons_succ, i64_w, i32_w]
    rfl
  refine pure_ (i := 18) (N := some 27) (v := ?_) (a' := ?_) #[true, true, true, false, false, true, true, true, false, false, true, true, true, false, false, false, false, true, true, false, false, false, false, false, false, false, false, false] rfl rfl (any_of HT_.out (by kernel_rfl)) (fun _ _ _ h => h) (Or.inl ⟨by rfl, ?_⟩) ?_ ?_
  rotate_left
  · intro w'
    go_simp
    with_reducible rfl
  rotate_left
  · simp only [Act.put, List.setIfInBounds_toArray, List.set_cons_zero, List.set_cons_succ, i64_w, i32_w]
    rfl
  refine pure_ (i := 19) (N := some 28) (v := ?_) (a' := ?_) #[true, true, true, false, false, true, true, true, false, false, true, true, true, false, false, false, false, true, true, true, false, false, false, false, false, false, false, false] rfl rfl (any_of HT_.out (by kernel_rfl)) (fun _ _ _ h => h) (Or.inl ⟨by rfl, ?_⟩) ?_ ?_
  rotate_left
  · intro w'
    go_simp
    with_reducible rfl
  rotate_left
  · simp only [Act.put, List.setIfInBounds_toArray, List.set_cons_zero, List.set_cons_succ, i64_w, i32_w]
    rfl
  refine take_ (i := 3) (N := some 12) (v := ?_) (a' := ?_) #[true, true, true, true, false, true, true, true, false, false, true, true, true, false, false, false, false, true, true, true, false, false, false, false, false, false, false, false] rfl rfl (take_ofW HT_.out HW_.out (by kernel_rfl)) (fun _ _ _ h => h) (Or.inl ⟨by rfl, ?_⟩) hHeld ?_ ?_
  rotate_left
  · rintro w' ⟨s0, s1, s2⟩
    go_simp
    with_reducible rfl
  rotate_left
  · simp only [Act.put, List.setIfInBounds_toArray, List.set_cons_zero, List.set_cons_succ, i64_w, i32_w]
    rfl
  refine take_ (i := 4) (N := some 13) (v := ?_) (a' := ?_) #[true, true, true, true, true, true, true, true, false, false, true, true, true, false, false, false, false, true, true, true, false, false, false, false, false, false, false, false] rfl rfl (take_ofW HT_.out HW_.out (by kernel_rfl)) (fun _ _ _ h => h) (Or.inl ⟨by rfl, ?_⟩) hHeld ?_ ?_
  rotate_left
  · rintro w' ⟨s0, s1, s2⟩
    go_simp
    with_reducible rfl
  rotate_left
  · simp only [Act.put, List.setIfInBounds_toArray, List.set_cons_zero, List.set_cons_succ, i64_w, i32_w]
    rfl
  refine take_ (i := 8) (N := some 17) (v := ?_) (a' := ?_) #[true, true, true, true, true, true, true, true, true, false, true, true, true, false, false, false, false, true, true, true, false, false, false, false, false, false, false, false] rfl rfl (take_ofW HT_.out HW_.out (by kernel_rfl)) (fun _ _ _ h => h) (Or.inl ⟨by rfl, ?_⟩) hHeld ?_ ?_
  rotate_left
  · rintro w' ⟨s0, s1, s2⟩
    go_simp
    with_reducible rfl
  rotate_left
  · simp only [Act.put, List.setIfInBounds_toArray, List.set_cons_zero, List.set_cons_succ, i64_w, i32_w]
    rfl
  refine take_ (i := 9) (N := some 18) (v := ?_) (a' := ?_) #[true, true, true, true, true, true, true, true, true, true, true, true, true, false, false, false, false, true, true, true, false, false, false, false, false, false, false, false] rfl rfl (take_ofW HT_.out HW_.out (by kernel_rfl)) (fun _ _ _ h => h) (Or.inl ⟨by rfl, ?_⟩) hHeld ?_ ?_
  rotate_left
  · rintro w' ⟨s0, s1, s2⟩
    go_simp
    with_reducible rfl
  rotate_left
  · simp only [Act.put, List.setIfInBounds_toArray, List.set_cons_zero, List.set_cons_succ, i64_w, i32_w]
    rfl
  refine take_ (i := 13) (N := some 22) (v := ?_) (a' := ?_) #[true, true, true, true, true, true, true, true, true, true, true, true, true, true, false, false, false, true, true, true, false, false, false, false, false, false, false, false] rfl rfl (take_ofW HT_.out HW_.out (by kernel_rfl)) (fun _ _ _ h => h) (Or.inl ⟨by rfl, ?_⟩) hHeld ?_ ?_
  rotate_left
  · rintro w' ⟨s0, s1, s2⟩
    go_simp
    with_reducible rfl
  rotate_left
  · simp only [Act.put, List.setIfInBounds_toArray, List.set_cons_zero, List.set_cons_succ, i64_w, i32_w]
    rfl
  refine take_ (i := 14) (N := some 23) (v := ?_) (a' := ?_) #[true, true, true, true, true, true, true, true, true, true, true, true, true, true, true, false, false, true, true, true, false, false, false, false, false, false, false, false] rfl rfl (take_ofW HT_.out HW_.out (by kernel_rfl)) (fun _ _ _ h => h) (Or.inl ⟨by rfl, ?_⟩) hHeld ?_ ?_
  rotate_left
  · rintro w' ⟨s0, s1, s2⟩
    go_simp
    with_reducible rfl
  rotate_left
  · simp only [Act.put, List.setIfInBounds_toArray, List.set_cons_zero, List.set_cons_succ, i64_w, i32_w]
    rfl
  refine pure_ (i := 15) (N := some 24) (v := ?_) (a' := ?_) #[true, true, true, true, true, true, true, true, true, true, true, true, true, true, true, true, false, true, true, true, false, false, false, false, false, false, false, false] rfl rfl (any_of HT_.out (by kernel_rfl)) (fun _ _ _ h => h) (Or.inl ⟨by rfl, ?_⟩) ?_ ?_
  rotate_left
  · intro w'
    go_simp
    with_reducible rfl
  rotate_left
  · simp only [Act.put, List.setIfInBounds_toArray, List.set_cons_zero, List.set_cons_succ, i64_w, i32_w]
    rfl
  refine take_ (i := 20) (N := some 29) (v := ?_) (a' := ?_) #[true, true, true, true, true, true, true, true, true, true, true, true, true, true, true, true, false, true, true, true, true, false, false, false, false, false, false, false] rfl rfl (take_ofW HT_.out HW_.out (by kernel_rfl)) (fun _ _ _ h => h) (Or.inl ⟨by rfl, ?_⟩) hHeld ?_ ?_
  rotate_left
  · rintro w' ⟨s0, s1, s2⟩
    go_simp
    with_reducible rfl
  rotate_left
  · simp only [Act.put, List.setIfInBounds_toArray, List.set_cons_zero, List.set_cons_succ, i64_w, i32_w]
    rfl
  refine take_ (i := 21) (N := some 30) (v := ?_) (a' := ?_) #[true, true, true, true, true, true, true, true, true, true, true, true, true, true, true, true, false, true, true, true, true, true, false, false, false, false, false, false] rfl rfl (take_ofW HT_.out HW_.out (by kernel_rfl)) (fun _ _ _ h => h) (Or.inl ⟨by rfl, ?_⟩) hHeld ?_ ?_
  rotate_left
  · rintro w' ⟨s0, s1, s2⟩
    go_simp
    with_reducible rfl
  rotate_left
  · simp only [Act.put, List.setIfInBounds_toArray, List.set_cons_zero, List.set_cons_succ, i64_w, i32_w]
    rfl
  refine pure_ (i := 22) (N := some 31) (v := ?_) (a' := ?_) #[true, true, true, true, true, true, true, true, true, true, true, true, true, true, true, true, false, true, true, true, true, true, true, false, false, false, false, false] rfl rfl (any_of HT_.out (by kernel_rfl)) (fun _ _ _ h => h) (Or.inl ⟨by rfl, ?_⟩) ?_ ?_
  rotate_left
  · intro w'
    go_simp
    with_reducible rfl
  rotate_left
  · simp only [Act.put, List.setIfInBounds_toArray, List.set_cons_zero, List.set_cons_succ, i64_w, i32_w]
    rfl
  refine join_ (σ := Unit) 4 #[true, true, true, true, true, true, true, true, true, true, true, true, true, true, true, true, true, true, true, true, true, true, true, true, false, false, false, false] (fun _ => [(25, .agg #[.slice Ab lb cb, .bool bb]), (32, .agg #[.slice Aa la ca, .bool ba])]) (fun _ w' => w' = (w.drewN m18).drew) ?_ ?_
  rotate_left
  · intro hCont
    refine two_ (i := 16) (j := 23) (Ni := some 25) (Nj := some 32) #[true, true, true, true, true, true, true, true, true, true, true, true, true, true, true, true, true, true, true, true, true, true, true, false, false, false, false, false] #[true, true, true, true, true, true, true, true, true, true, true, true, true, true, true, true, false, true, true, true, true, true, true, true, false, false, false, false] rfl rfl rfl rfl (two_of HT_.out (by kernel_rfl)) (by decide) (by decide) (fun K hK => ?_) (fun K hK => ?_)
    · skip
      refine value_ (w1 := ?_) (v := ?_) (by rfl) rfl ?_ ?_
      rotate_left 2
      · go_simp
        constructor
        · rfl
        · rfl
      refine hK.out _ _ ⟨c0, ci, cj⟩ (fun hHeld => ?_)
      clear hK K
      refine norm_ (a' := ?_) ?_ ?_
      rotate_left
      · show Act.put _ (some 25) _ = _
        simp only [Act.put, List.setIfInBounds_toArray, List.set_cons_zero, List.set_cons_succ, i64_w, i32_w]
        rfl
      refine one_ (i := 23) (N := some 32) #[true, true, true, true, true, true, true, true, true, true, true, true, true, true, true, true, true, true, true, true, true, true, true, true, false, false, false, false] rfl rfl (one_of HT_.out (by kernel_rfl)) (by decide) (fun K hK => ?_)
      refine value_ (w1 := ?_) (v := ?_) (by rfl) rfl ?_ ?_
      rotate_left 2
      · go_simp
        constructor
        · rfl
        · rfl
      refine hK.out _ _ ⟨c0, ci, cj⟩ (fun hHeld => ?_)
      clear hK K
      refine norm_ (a' := ?_) ?_ ?_
      rotate_left
      · show Act.put _ (some 32) _ = _
        simp only [Act.put, List.setIfInBounds_toArray, List.set_cons_zero, List.set_cons_succ, i64_w, i32_w]
        rfl
      exact norm_ (by simp only [putAll, Act.put, List.setIfInBounds_toArray, List.set_cons_zero, List.set_cons_succ]) (hCont () _ rfl)
    · skip
      refine value_ (w1 := ?_) (v := ?_) (by rfl) rfl ?_ ?_
      rotate_left 2
      · go_simp
        constructor
        · rfl
        · rfl
      refine hK.out _ _ ⟨c0, ci, cj⟩ (fun hHeld => ?_)
      clear hK K
      refine norm_ (a' := ?_) ?_ ?_
      rotate_left
      · show Act.put _ (some 32) _ = _
        simp only [Act.put, List.setIfInBounds_toArray, List.set_cons_zero, List.set_cons_succ, i64_w, i32_w]
        rfl
      refine one_ (i := 16) (N := some 25) #[true, true, true, true, true, true, true, true, true, true, true, true, true, true, true, true, true, true, true, true, true, true, true, true, false, false, false, false] rfl rfl (one_of HT_.out (by kernel_rfl)) (by decide) (fun K hK => ?_)
      refine value_ (w1 := ?_) (v := ?_) (by rfl) rfl ?_ ?_
      rotate_left 2
      · go_simp
        constructor
        · rfl
        · rfl
      refine hK.out _ _ ⟨c0, ci, cj⟩ (fun hHeld => ?_)
      clear hK K
      refine norm_ (a' := ?_) ?_ ?_
      rotate_left
      · show Act.put _ (some 25) _ = _
        simp only [Act.put, List.setIfInBounds_toArray, List.set_cons_zero, List.set_cons_succ, i64_w, i32_w]
        rfl
      exact norm_ (by simp only [putAll, Act.put, List.setIfInBounds_toArray, List.set_cons_zero, List.set_cons_succ]) (hCont () _ rfl)
  rintro s w3 rfl
  have hHeld := And.intro c0 (And.intro ci cj)
  refine norm_ (a' := ?_) ?_ ?_
  rotate_left
  · simp only [putAll, Act.put, List.setIfInBounds_toArray, List.set_cons_zero, List.set_cons_succ]
    rfl
  refine pure_ (i := 24) (N := some 33) (v := ?_) (a' := ?_) #[true, true, true, true, true, true, true, true, true, true, true, true, true, true, true, true, true, true, true, true, true, true, true, true, true, false, false, false] rfl rfl (any_of HT_.out (by kernel_rfl)) (fun _ _ _ h => h) (Or.inl ⟨by rfl, ?_⟩) ?_ ?_
  rotate_left
  · intro w'
    go_simp
    with_reducible rfl
  rotate_left
  · simp only [Act.put, List.setIfInBounds_toArray, List.set_cons_zero, List.set_cons_succ, i64_w, i32_w]
    rfl
  refine one_ (i := 25) (N := none) #[true, true, true, true, true, true, true, true, true, true, true, true, true, true, true, true, true, true, true, true, true, true, true, true, true, true, false, false] rfl rfl (one_of HT_.out (by kernel_rfl)) (by decide) (fun K hK => ?_)
  refine skip_ (w1 := ?_) (by rfl) rfl ?_ ?_
  rotate_left
  · go_simp
    rfl
  refine hK.out _ _ ⟨(set_ne (fun h => nq (by injection h)) (set_ne (fun h => nq (by injection h)) c0)), (set_ne (fun h => ni (by injection h)) (set_ne (fun h => ni (by injection h)) ci)), (set_ne (fun h => nj (by injection h)) (set_ne (fun h => nj (by injection h)) cj))⟩ (fun hHeld => ?_)
  clear hK K
  refine pure_ (i := 26) (N := some 34) (v := ?_) (a' := ?_) #[true, true, true, true, true, true, true, true, true, true, true, true, true, true, true, true, true, true, true, true, true, true, true, true, true, true, true, false] rfl rfl (any_of HT_.out (by kernel_rfl)) (fun _ _ _ h => h) (Or.inl ⟨by rfl, ?_⟩) ?_ ?_
  rotate_left
  · intro w'
    go_simp
    with_reducible rfl
  rotate_left
  · simp only [Act.put, List.setIfInBounds_toArray, List.set_cons_zero, List.set_cons_succ, i64_w, i32_w]
    rfl
  refine last_ (i := 27) (N := none) #[true, true, true, true, true, true, true, true, true, true, true, true, true, true, true, true, true, true, true, true, true, true, true, true, true, true, true, true] rfl rfl (one_of HT_.out (by kernel_rfl)) (by decide) (fun K hK => ?_)
  refine skip_ (w1 := ?_) (by rfl) rfl ?_ ?_
  rotate_left
  · go_simp
    rfl
  refine hK.out _ _ ?_
  clear hK K
  refine done_ (done_of HT_.out (by kernel_rfl)) ?_
  go_wp2
  go_ret
  exact ⟨rfl, m18 + 1, rfl⟩
end Go.Proofs.Yteeddalalfemmaa.K

namespace Go.Proofs.Yteeddalalfemmaa.K
open Go.RowKit Go.Proofs.YteeddalalfemmaaW.PrintWords Go.Proofs.YteeddalalfemmaaW.PrintLast Go.Proofs.YteeddalalfemmaaW.PrintMore
set_option linter.unusedVariables false
set_option linter.unusedSimpArgs false


set_option maxRecDepth 100000 in
set_option maxHeartbeats 4000000 in
theorem swap1_ok (g gq i j k bi bj : Nat) (col : Nat → Nat) (vw : List It) (qs : List (List It)) (xs : List It) (x y : It) (w0 w : World) (hR : Rel w w0.heap.size g gq col vw qs) (hi : i < qs.length) (hxs : qs[i] = xs) (hj : j < xs.length) (hx : xs[j] = x) (hk : k < xs.length) (hy : xs[k] = y) (hi8 : i < 8)
    (hbi : w.heap[bi]? = some (.cells #[.int .i64 j] 3 (0, 0))) (hbj : w.heap[bj]? = some (.cells #[.int .i64 k] 3 (0, 0))) (hB : Below w0.heap.size w0 w) :
    Calls Try.prog 39 #[.pointer (some ⟨gq, i, none⟩), .pointer (some ⟨bj, 0, none⟩), .pointer (some ⟨bi, 0, none⟩)] w fun e w' => e = .returned (.bool true) ∧ Did w0 w w' g gq col vw (qs.set i ((xs.set j y).set k x)) := by
  obtain ⟨cs, h3, h4, h5⟩ := hR.qb
  obtain ⟨v, e, r⟩ := h5 i hi
  rw [hxs] at r
  obtain ⟨gv, cap, va, rfl, hcap, hv0, hv1, hb⟩ := qr_item r j hj
  obtain ⟨gv', cap', vb, hv', _, hw0, hw1, hb'⟩ := qr_item r k hk
  have eg : gv' = gv := by
    injection hv' with e1
    injection e1 with e1
    injection e1 with e1
    exact e1.symm
  subst eg
  obtain ⟨Aa, ca, rfl, _, _⟩ := Kd.R_reads hb
  obtain ⟨Ab, cb, rfl, _, _⟩ := Kd.R_reads hb'
  obtain ⟨gg, capg, hgg, hbg, _, cellsg, hcg⟩ := Kd.S_form r (by omega)
  have hgv : gv' = gg := by
    injection hgg with e1
    injection e1 with e1
    injection e1
  subst hgv
  have kg : col gv' = i + 1 := qs_ok r gv' rfl
  obtain ⟨vv, g1, _⟩ := hR.blk
  have n2 : gq ≠ gv' := blk_ne h3 hcg (by decide)
  have n4 : g ≠ gv' := blk_ne g1 hcg (by decide)
  have n5 : gv' ≠ bi := blk_ne hcg hbi (by decide)
  have n6 : gv' ≠ bj := blk_ne hcg hbj (by decide)
  have c0 : w.cell? ⟨gq, i, none⟩ = some (.slice (some ⟨gv', 0, none⟩) xs.length cap) := (blk_cell h3 i).trans e
  have ci : w.cell? ⟨bi, 0, none⟩ = some (.int .i64 j) := (blk_cell hbi 0).trans rfl
  have cj : w.cell? ⟨bj, 0, none⟩ = some (.int .i64 k) := (blk_cell hbj 0).trans rfl
  have fin : ∀ m, Did w0 w (((((w.drewN m).setCell ⟨gv', j * 2, none⟩ (.slice Ab xs[k].f0.length cb)).setCell ⟨gv', j * 2 + 1, none⟩ (.bool xs[k].f1)).setCell ⟨gv', k * 2, none⟩ (.slice Aa xs[j].f0.length ca)).setCell ⟨gv', k * 2 + 1, none⟩ (.bool xs[j].f1)) g gq col vw (qs.set i ((xs.set j y).set k x)) := by
    intro m
    refine ⟨⟨col, hR.turnI hi h3 e ?_ ?_ ?_ ?_, ?_⟩, ((((pw_below_drewN hB m).setCell (p := ⟨gv', j * 2, none⟩) hbg _).setCell (p := ⟨gv', j * 2 + 1, none⟩) hbg _).setCell (p := ⟨gv', k * 2, none⟩) hbg _).setCell (p := ⟨gv', k * 2 + 1, none⟩) hbg _⟩
    · intro q hq hc
      have hne : q ≠ gv' := fun e => hc (by rw [e]; exact kg)
      rw [Below.heap_setCell _ _ _ _ hne, Below.heap_setCell _ _ _ _ hne, Below.heap_setCell _ _ _ _ hne, Below.heap_setCell _ _ _ _ hne]
      rfl
    · rw [Below.heap_setCell _ _ _ _ n2, Below.heap_setCell _ _ _ _ n2, Below.heap_setCell _ _ _ _ n2, Below.heap_setCell _ _ _ _ n2]
      rfl
    · rw [Below.heap_setCell _ _ _ _ n4, Below.heap_setCell _ _ _ _ n4, Below.heap_setCell _ _ _ _ n4, Below.heap_setCell _ _ _ _ n4]
      rfl
    · subst hx hy
      exact qs_swap (Kd.S_drewN r m) j k hj hk _ _ _ _ hv0 hv1 hw0 hw1
    · have hg9 : w.heap.size ≤ gv' ∨ col gv' < 9 := .inr (by omega)
      exact ((((Left.below col (pw_below_drewN (Below.refl _ _) m)).set hg9 _ _).set hg9 _ _).set hg9 _ _).set hg9 _ _
  by_cases hjk : j = k
  · subst hjk
    have hba : xs[j].f0.length = xs[j].f0.length := rfl
    have hvv : (Value.slice Ab xs[j].f0.length cb) = .slice Aa xs[j].f0.length ca := by
      have := hw0.symm.trans hv0
      injection this
    refine (swap1_walk1 gq gv' i bi bj j xs.length cap xs[j].f0.length ca Aa xs[j].f1 w c0 ci cj hv0 hv1 (blk_frozen hcg _) (blk_frozen hcg _) (fun h => n2 h.symm) n5 n6 hj hcap).mono ?_
    rintro e2 w2 ⟨rfl, m, rfl⟩
    have := fin m
    rw [hvv] at this
    exact ⟨rfl, this⟩
  · refine (swap1_walk2 gq gv' i bi bj j k xs.length cap xs[j].f0.length ca xs[k].f0.length cb Aa Ab xs[j].f1 xs[k].f1 w hjk c0 ci cj hv0 hv1 hw0 hw1 (blk_frozen hcg _) (blk_frozen hcg _) (blk_frozen hcg _) (blk_frozen hcg _) (fun h => n2 h.symm) n5 n6 hj hk hcap).mono ?_
    rintro e2 w2 ⟨rfl, m, rfl⟩
    exact ⟨rfl, fin m⟩
theorem swap1x (g gq i j bi bj : Nat) (jj : Int) (col : Nat → Nat) (vw : List It) (qs : List (List It)) (xs : List It) (w0 w : World) (hR : Rel w w0.heap.size g gq col vw qs) (hi : i < qs.length) (hxs : qs[i] = xs) (hn : jj < 0 ∨ (xs.length : Int) ≤ jj)
    (hbi : w.heap[bi]? = some (.cells #[.int .i64 j] 3 (0, 0))) (hbj : w.heap[bj]? = some (.cells #[.int .i64 jj] 3 (0, 0))) (hB : Below w0.heap.size w0 w) :
    Calls Try.prog 39 #[.pointer (some ⟨gq, i, none⟩), .pointer (some ⟨bj, 0, none⟩), .pointer (some ⟨bi, 0, none⟩)] w fun e w' => e = .returned (.bool false) ∧ Did w0 w w' g gq col vw qs := by
  subst hxs
  refine (swap1_no g gq i bi bj jj j col vw qs w0.heap.size w hR hi hn hbi hbj).mono ?_
  rintro e w' ⟨rfl, hd⟩
  exact ⟨rfl, Did.none hR hB hd.below⟩

set_option maxRecDepth 100000 in
set_option maxHeartbeats 4000000 in
theorem rdo_swap_ok (g gq i j bi bj : Nat) (k : Nat) (x y : It) (col : Nat → Nat) (vw : List It) (qs : List (List It)) (xs : List It) (w0 w : World) (hR : Rel w w0.heap.size g gq col vw qs) (hi : i < qs.length) (hxs : qs[i] = xs) (hj : j < xs.length) (hx : xs[j] = x) (hk : k < xs.length) (hy : xs[k] = y) (hi8 : i < 8)
    (hbi : w.heap[bi]? = some (.cells #[.int .i64 j] 3 (0, 0))) (hbj : w.heap[bj]? = some (.cells #[.int .i64 k] 3 (0, 0))) (hB : Below w0.heap.size w0 w) :
    Calls Try.prog 32 #[.pointer (some ⟨g, 0, none⟩), .int .i64 i, .int .i64 j, .func (.func 39) #[] #[.pointer (some ⟨bj, 0, none⟩), .pointer (some ⟨bi, 0, none⟩)]] w fun e w' => e = .returned (.bool true) ∧ Did w0 w w' g gq col vw (qs.set i ((xs.set j y).set k x)) := by
  obtain ⟨vv, h1, _⟩ := hR.blk
  obtain ⟨cs, h3, h4, h5⟩ := hR.qb
  obtain ⟨v, e, r⟩ := h5 i hi
  obtain ⟨A, c, rfl, hc, hC⟩ := Kd.S_reads r
  have c0 : w.cell? ⟨gq, i, none⟩ = some (.slice A qs[i].length c) := (blk_cell h3 i).trans e
  have C0 := Aside0.mk c0
  have HI := Aside0.mk hi
  have H1 := Aside0.mk h1
  have HD : Aside0 (decide ((0 : Int) ≤ (j : Int) ∧ (j : Int) < qs[i].length) = true) := ⟨decide_eq_true ⟨by omega, by rw [hxs]; omega⟩⟩
  clear h1 h3 h4 h5 e r hC c0 hc
  go_enter Try.func32, Try.ntmps32
  go_wp2_with (first
    | ((with_reducible refine gate_dst (N := 12) rfl ?_); go_must (((try (refine gate_guard (by rfl) ?_; dsimp only)); refine goesL_ (some 12) rfl rfl Try.func30 (by kernel_rfl) rfl #[.pointer (some ⟨g, 0, none⟩), .int .i64 i] rfl ?hA ?_; (case hA => ((try simp only [List.map_toArray, List.map_cons, List.map_nil]); first | done | rfl)); refine (of_in g gq _ i vv _ H1.out HI.out).mono ?_; rintro e w12 ⟨rfl, ⟨m12, rfl⟩⟩; refine ⟨_, rfl, ?_⟩; skip)))
    | ((with_reducible refine gate_dst (N := 18) rfl ?_); go_must (((try (refine gate_guard (by rfl) ?_; dsimp only)); refine goesL_ (some 18) rfl rfl Try.func40 (by kernel_rfl) rfl #[.pointer (some ⟨gq, i, none⟩), .int .i64 j] rfl ?hA ?_; (case hA => ((try simp only [List.map_toArray, List.map_cons, List.map_nil]); first | done | rfl)); refine (qhas_calls gq i _ c A j (w.drewN m12) (by exact C0.out)).mono ?_; rintro e w18 ⟨rfl, ⟨m18, rfl⟩⟩; refine ⟨_, rfl, ?_⟩; rw [HD.out])))
    | (go_at_call 39; go_must ((refine (swap1_ok g gq i j k bi bj col vw qs xs x y w0 (w.drewN (m12 + m18)) (hR.drewN (m12 + m18)) HI.out hxs hj hx hk hy hi8 (by exact hbi) (by exact hbj) (pw_below_drewN hB (m12 + m18))).mono ?_; rintro e w23 ⟨rfl, h1⟩; have K1 := Aside0.mk (do_stop (pw_below_drewN (Below.refl _ _) (m12 + m18)) h1); clear h1))))
  go_ret
  exact ⟨rfl, K1.out⟩

set_option maxRecDepth 100000 in
set_option maxHeartbeats 4000000 in
theorem rdo_swap_no (g gq i j bi bj : Nat) (jj : Int) (col : Nat → Nat) (vw : List It) (qs : List (List It)) (xs : List It) (w0 w : World) (hR : Rel w w0.heap.size g gq col vw qs) (hi : i < qs.length) (hxs : qs[i] = xs) (hj : j < xs.length) (hn : jj < 0 ∨ (xs.length : Int) ≤ jj)
    (hbi : w.heap[bi]? = some (.cells #[.int .i64 j] 3 (0, 0))) (hbj : w.heap[bj]? = some (.cells #[.int .i64 jj] 3 (0, 0))) (hB : Below w0.heap.size w0 w) :
    Calls Try.prog 32 #[.pointer (some ⟨g, 0, none⟩), .int .i64 i, .int .i64 j, .func (.func 39) #[] #[.pointer (some ⟨bj, 0, none⟩), .pointer (some ⟨bi, 0, none⟩)]] w fun e w' => e = .returned (.bool false) ∧ Did w0 w w' g gq col vw qs := by
  obtain ⟨vv, h1, _⟩ := hR.blk
  obtain ⟨cs, h3, h4, h5⟩ := hR.qb
  obtain ⟨v, e, r⟩ := h5 i hi
  obtain ⟨A, c, rfl, hc, hC⟩ := Kd.S_reads r
  have c0 : w.cell? ⟨gq, i, none⟩ = some (.slice A qs[i].length c) := (blk_cell h3 i).trans e
  have C0 := Aside0.mk c0
  have HI := Aside0.mk hi
  have H1 := Aside0.mk h1
  have HD : Aside0 (decide ((0 : Int) ≤ (j : Int) ∧ (j : Int) < qs[i].length) = true) := ⟨decide_eq_true ⟨by omega, by rw [hxs]; omega⟩⟩
  clear h1 h3 h4 h5 e r hC c0 hc
  go_enter Try.func32, Try.ntmps32
  go_wp2_with (first
    | ((with_reducible refine gate_dst (N := 12) rfl ?_); go_must (((try (refine gate_guard (by rfl) ?_; dsimp only)); refine goesL_ (some 12) rfl rfl Try.func30 (by kernel_rfl) rfl #[.pointer (some ⟨g, 0, none⟩), .int .i64 i] rfl ?hA ?_; (case hA => ((try simp only [List.map_toArray, List.map_cons, List.map_nil]); first | done | rfl)); refine (of_in g gq _ i vv _ H1.out HI.out).mono ?_; rintro e w12 ⟨rfl, ⟨m12, rfl⟩⟩; refine ⟨_, rfl, ?_⟩; skip)))
    | ((with_reducible refine gate_dst (N := 18) rfl ?_); go_must (((try (refine gate_guard (by rfl) ?_; dsimp only)); refine goesL_ (some 18) rfl rfl Try.func40 (by kernel_rfl) rfl #[.pointer (some ⟨gq, i, none⟩), .int .i64 j] rfl ?hA ?_; (case hA => ((try simp only [List.map_toArray, List.map_cons, List.map_nil]); first | done | rfl)); refine (qhas_calls gq i _ c A j (w.drewN m12) (by exact C0.out)).mono ?_; rintro e w18 ⟨rfl, ⟨m18, rfl⟩⟩; refine ⟨_, rfl, ?_⟩; rw [HD.out])))
    | (go_at_call 39; go_must ((refine (swap1x g gq i j bi bj jj col vw qs xs w0 (w.drewN (m12 + m18)) (hR.drewN (m12 + m18)) HI.out hxs hn (by exact hbi) (by exact hbj) (pw_below_drewN hB (m12 + m18))).mono ?_; rintro e w23 ⟨rfl, h1⟩; have K1 := Aside0.mk (do_stop (pw_below_drewN (Below.refl _ _) (m12 + m18)) h1); clear h1))))
  go_ret
  exact ⟨rfl, K1.out⟩

set_option maxRecDepth 100000 in
set_option maxHeartbeats 4000000 in
theorem rswap_ok (g gq i j : Nat) (k : Nat) (x y : It) (col : Nat → Nat) (vw : List It) (qs : List (List It)) (xs : List It) (w0 w : World) (hR : Rel w w0.heap.size g gq col vw qs) (hi : i < qs.length) (hxs : qs[i] = xs) (hj : j < xs.length) (hx : xs[j] = x) (hk : k < xs.length) (hy : xs[k] = y) (hi8 : i < 8) (hB : Below w0.heap.size w0 w) :
    Calls Try.prog 21 #[.pointer (some ⟨g, 0, none⟩), .int .i64 i, .int .i64 j, .int .i64 k] w fun e w' => e = .returned (.bool true) ∧ Did w0 w w' g gq col vw (qs.set i ((xs.set j y).set k x)) := by
  have hmf : ∀ (fn : Fn) (first cap : Array Value) (w : World), (Instr.makeFunc fn first cap).run Try.prog w = .ok (.func fn first cap) w := fun _ _ _ _ => rfl
  have b1 : ((w.alloc (.cells #[.int .i64 (j : Nat)] 3)).alloc (.cells #[.int .i64 (k : Nat)] 3)).heap[w.heap.size]? = some (.cells #[.int .i64 (j : Nat)] 3 (0, 0)) := (blk_alloc (blk_new w _) _)
  have B1 := Aside0.mk b1
  have b2 : ((w.alloc (.cells #[.int .i64 (j : Nat)] 3)).alloc (.cells #[.int .i64 (k : Nat)] 3)).heap[w.heap.size + 1]? = some (.cells #[.int .i64 (k : Nat)] 3 (0, 0)) := (by simpa using blk_new (w.alloc (.cells #[.int .i64 (j : Nat)] 3)) (.cells #[.int .i64 (k : Nat)] 3))
  have B2 := Aside0.mk b2
  have HW : Aside0 (Below w.heap.size w ((w.alloc (.cells #[.int .i64 (j : Nat)] 3)).alloc (.cells #[.int .i64 (k : Nat)] 3))) := ⟨below_alloc (below_alloc (Below.refl _ _) _) _⟩
  clear b1 b2
  go_enter Try.func21, Try.ntmps21
  go_wp2_with (first
    | (go_at_call 32; go_must ((refine (rdo_swap_ok g gq i j w.heap.size (w.heap.size + 1) k x y col vw qs xs w0 _ (hR.below HW.out) hi hxs hj hx hk hy hi8 B1.out B2.out (below_step hB HW.out)).mono ?_; rintro e w15 ⟨rfl, h1⟩; have K1 := Aside0.mk (do_stop HW.out h1); clear h1))))
  go_ret
  exact ⟨rfl, K1.out⟩

set_option maxRecDepth 100000 in
set_option maxHeartbeats 4000000 in
theorem rswap_no (g gq i j : Nat) (jj : Int) (col : Nat → Nat) (vw : List It) (qs : List (List It)) (xs : List It) (w0 w : World) (hR : Rel w w0.heap.size g gq col vw qs) (hi : i < qs.length) (hxs : qs[i] = xs) (hj : j < xs.length) (hn : jj < 0 ∨ (xs.length : Int) ≤ jj) (hB : Below w0.heap.size w0 w) :
    Calls Try.prog 21 #[.pointer (some ⟨g, 0, none⟩), .int .i64 i, .int .i64 j, .int .i64 jj] w fun e w' => e = .returned (.bool false) ∧ Did w0 w w' g gq col vw qs := by
  have hmf : ∀ (fn : Fn) (first cap : Array Value) (w : World), (Instr.makeFunc fn first cap).run Try.prog w = .ok (.func fn first cap) w := fun _ _ _ _ => rfl
  have b1 : ((w.alloc (.cells #[.int .i64 (j : Nat)] 3)).alloc (.cells #[.int .i64 jj] 3)).heap[w.heap.size]? = some (.cells #[.int .i64 (j : Nat)] 3 (0, 0)) := (blk_alloc (blk_new w _) _)
  have B1 := Aside0.mk b1
  have b2 : ((w.alloc (.cells #[.int .i64 (j : Nat)] 3)).alloc (.cells #[.int .i64 jj] 3)).heap[w.heap.size + 1]? = some (.cells #[.int .i64 jj] 3 (0, 0)) := (by simpa using blk_new (w.alloc (.cells #[.int .i64 (j : Nat)] 3)) (.cells #[.int .i64 jj] 3))
  have B2 := Aside0.mk b2
  have HW : Aside0 (Below w.heap.size w ((w.alloc (.cells #[.int .i64 (j : Nat)] 3)).alloc (.cells #[.int .i64 jj] 3))) := ⟨below_alloc (below_alloc (Below.refl _ _) _) _⟩
  clear b1 b2
  go_enter Try.func21, Try.ntmps21
  go_wp2_with (first
    | (go_at_call 32; go_must ((refine (rdo_swap_no g gq i j w.heap.size (w.heap.size + 1) jj col vw qs xs w0 _ (hR.below HW.out) hi hxs hj hn B1.out B2.out (below_step hB HW.out)).mono ?_; rintro e w15 ⟨rfl, h1⟩; have K1 := Aside0.mk (do_stop HW.out h1); clear h1))))
  go_ret
  exact ⟨rfl, K1.out⟩
end Go.Proofs.Yteeddalalfemmaa.K

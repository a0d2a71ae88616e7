/- relay: Again, Rewind. -/
import Derived.Test.YtlcifnejpejhmaaRelM
namespace Go.Proofs.Ytlcifnejpejhmaa.K
open Go.RowKit Go.Proofs.YtlcifnejpejhmaaW.PrintWords Go.Proofs.YtlcifnejpejhmaaW.PrintLast Go.Proofs.YtlcifnejpejhmaaW.PrintMore
set_option linter.unusedVariables false
set_option linter.unusedSimpArgs false

set_option maxRecDepth 100000 in
set_option maxHeartbeats 4000000 in
theorem rdo_again (g gq i bi : Nat) (col : Nat → Nat) (vw : List It) (qs : List (List It)) (x : It) (w0 w : World) (hR : Rel w w0.heap.size g gq col vw qs) (hi : i < qs.length) (hq : qs[i] = [x]) (hjl : 0 < qs[i].length) (hl : x.f0.length ≤ 100000)
    (hbi : w.heap[bi]? = some (.cells #[.int .i64 0] 3 (0, 0))) (hB : Below w0.heap.size w0 w) :
    Calls Try.prog 60 #[.pointer (some ⟨g, 0, none⟩), .int .i64 i, .int .i64 0, .func (.func 73) #[] #[.pointer (some ⟨bi, 0, none⟩)]] w fun e w' => e = .returned (.bool true) ∧
      (∃ col', Rel w' w0.heap.size g gq col' vw (qs.set i [x, x])) ∧ Below w0.heap.size w0 w' ∧ FrB w w' := by
  obtain ⟨vv, h1, _⟩ := hR.blk
  obtain ⟨cs, h3, h4, h5⟩ := hR.qb
  obtain ⟨v, e, r⟩ := h5 i hi
  obtain ⟨A, c, rfl, hc, hC⟩ := Kd.R_reads r
  have c0 : w.cell? ⟨gq, i, none⟩ = some (.slice A qs[i].length c) := (blk_cell h3 i).trans e
  have C0 := Aside0.mk c0
  have HI := Aside0.mk hi
  have H1 := Aside0.mk h1
  have HD : Aside0 (decide ((0 : Int) ≤ (0 : Int) ∧ (0 : Int) < qs[i].length) = true) := ⟨decide_eq_true ⟨by omega, by omega⟩⟩
  clear h1 h3 h4 h5 e r hC c0 hc
  go_enter Try.func60, Try.ntmps60
  go_wp2_with (first
    | ((with_reducible refine gate_dst (N := 12) rfl ?_); go_must (((try (refine gate_guard (by rfl) ?_; dsimp only)); refine goesL_ (some 12) rfl rfl Try.func58 (by kernel_rfl) rfl #[.pointer (some ⟨g, 0, none⟩), .int .i64 i] rfl ?hA ?_; (case hA => ((try simp only [List.map_toArray, List.map_cons, List.map_nil]); first | done | rfl)); refine (of_in g gq _ i vv _ H1.out HI.out).mono ?_; rintro e w12 ⟨rfl, ⟨m12, rfl⟩⟩; refine ⟨_, rfl, ?_⟩; skip)))
    | ((with_reducible refine gate_dst (N := 18) rfl ?_); go_must (((try (refine gate_guard (by rfl) ?_; dsimp only)); refine goesL_ (some 18) rfl rfl Try.func76 (by kernel_rfl) rfl #[.pointer (some ⟨gq, i, none⟩), .int .i64 0] rfl ?hA ?_; (case hA => ((try simp only [List.map_toArray, List.map_cons, List.map_nil]); first | done | rfl)); refine (qhas_calls gq i _ c A 0 (w.drewN m12) (by exact C0.out)).mono ?_; rintro e w18 ⟨rfl, ⟨m18, rfl⟩⟩; refine ⟨_, rfl, ?_⟩; rw [HD.out])))
    | (go_at_call 73; go_must ((refine (again1_ok g gq i bi col vw qs x w0 (w.drewN (m12 + m18)) (hR.drewN (m12 + m18)) HI.out hq hl (by exact hbi) (pw_below_drewN hB (m12 + m18))).mono ?_; rintro e w23 ⟨rfl, h1, h2, h3⟩; have K1 := Aside0.mk h1; have K2 := Aside0.mk h2; have K3 : Aside0 (FrB w w23) := ⟨h3⟩; clear h1 h2 h3))))
  go_ret
  exact ⟨rfl, K1.out, K2.out, K3.out⟩

set_option maxRecDepth 100000 in
set_option maxHeartbeats 4000000 in
theorem ragain_ok (g gq i : Nat) (col : Nat → Nat) (vw : List It) (qs : List (List It)) (x : It) (w0 w : World) (hR : Rel w w0.heap.size g gq col vw qs) (hi : i < qs.length) (hq : qs[i] = [x]) (hl : x.f0.length ≤ 100000) (hB : Below w0.heap.size w0 w) :
    Calls Try.prog 33 #[.pointer (some ⟨g, 0, none⟩), .int .i64 i, .int .i64 0] w fun e w' => e = .returned (.bool true) ∧
      (∃ col', Rel w' w0.heap.size g gq col' vw (qs.set i [x, x])) ∧ Below w0.heap.size w0 w' ∧ FrB w w' := by
  have hmf : ∀ (fn : Fn) (first cap : Array Value) (w : World), (Instr.makeFunc fn first cap).run Try.prog w = .ok (.func fn first cap) w := fun _ _ _ _ => rfl
  have B1 := Aside0.mk (blk_new w (.cells #[.int .i64 0] 3 (0, 0)))
  have HW : Aside0 (Below w.heap.size w (w.alloc (.cells #[.int .i64 0] 3))) := ⟨below_alloc (Below.refl _ _) _⟩
  go_enter Try.func33, Try.ntmps33
  go_wp2_with (first
    | (go_at_call 60; go_must ((refine (rdo_again g gq i w.heap.size col vw qs x w0 (w.alloc (.cells #[.int .i64 0] 3)) (hR.below HW.out) hi hq (by rw [hq]; simp) hl (by exact B1.out) (below_step hB HW.out)).mono ?_; rintro e w15 ⟨rfl, h1, h2, h3⟩; have K1 := Aside0.mk h1; have K2 := Aside0.mk h2; have K3 : Aside0 (FrB w w15) := ⟨(FrB.below HW.out).trans h3⟩; clear h1 h2 h3))))
  go_ret
  exact ⟨rfl, K1.out, K2.out, K3.out⟩

/-- A copy that waits, not turned. -/
abbrev clr (x : It) : It := ⟨x.f0, false⟩
set_option maxRecDepth 100000 in
set_option maxHeartbeats 8000000 in
theorem rrewind_ok (g gq i : Nat) (col : Nat → Nat) (vw : List It) (qs : List (List It)) (w0 w : World) (hR : Rel w w0.heap.size g gq col vw qs) (hi : i < qs.length) (hv : vw.length ≤ 5000) (hx : ∀ x ∈ vw, x.f0.length ≤ 100000) (hB : Below w0.heap.size w0 w) :
    Calls Try.prog 34 #[.pointer (some ⟨g, 0, none⟩), .int .i64 i] w fun e w' => e = .returned (.int .i64 vw.length) ∧
      (∃ col', Rel w' w0.heap.size g gq col' vw (qs.set i (vw.map clr))) ∧ Below w0.heap.size w0 w' ∧ FrB w w' := by
  obtain ⟨vv, h1, h2⟩ := hR.blk
  obtain ⟨cs, h3, h4, h5⟩ := hR.qb
  obtain ⟨v, e, r⟩ := h5 i hi
  obtain ⟨Av, cv, rfl, hcv, hCv⟩ := Kd.R_reads h2
  have k1 : w.cell? ⟨g, 1, none⟩ = some (.slice Av vw.length cv) := (blk_cell h1 1).trans rfl
  have cq : w.cell? ⟨gq, i, none⟩ = some v := (blk_cell h3 i).trans e
  have fq : w.frozen? ⟨gq, i, none⟩ = false := blk_frozen h3 i
  have ngq : g ≠ gq := blk_ne h1 h3 (by decide)
  have ngq2 : ¬ gq = g := fun h => ngq h.symm
  have HR := Aside0.mk hR
  have HI := Aside0.mk hi
  have HX := Aside0.mk hx
  have HB := Aside0.mk hB
  have H1 := Aside0.mk h1
  have H3 := Aside0.mk h3
  have H4 := Aside0.mk h4
  obtain ⟨n, hn⟩ : ∃ n, vw.length = n := ⟨_, rfl⟩
  have HN := Aside0.mk hn
  rw [hn] at k1 hv hcv ⊢
  clear h1 h2 h3 h4 h5 e r hCv hR hi hx hB hn
  go_enter Try.func34, Try.ntmps34
  go_wp2_with (first
    | ((with_reducible refine gate_dst (N := 10) rfl ?_); go_must (((try (refine gate_guard (by rfl) ?_; dsimp only)); refine goesL_ (some 10) rfl rfl Try.func58 (by kernel_rfl) rfl #[.pointer (some ⟨g, 0, none⟩), .int .i64 i] rfl ?hA ?_; (case hA => ((try simp only [List.map_toArray, List.map_cons, List.map_nil]); first | done | rfl)); refine (of_in g gq _ i _ _ H1.out HI.out).mono ?_; rintro e w10 ⟨rfl, ⟨m10, rfl⟩⟩; refine ⟨_, rfl, ?_⟩; skip))))
  have hF : Fr (w.drewN m10) ((w.drewN m10).setCell ⟨gq, i, none⟩ (.slice none 0 0)) col (i + 1) gq :=
    ⟨((KeepBut.refl (w.drewN m10) gq none).set_ i _).1, fun k _ _ hk => Below.heap_setCell _ _ _ _ hk, fun k cells t f hk _ hkp => (Below.heap_setCell _ _ _ _ hkp).trans hk⟩
  have HR1 : Aside0 (Rel ((w.drewN m10).setCell ⟨gq, i, none⟩ (.slice none 0 0)) w0.heap.size g gq col vw (qs.set i [])) := Aside0.mk ((HR.out.drewN m10).turnQ HI.out (by exact H3.out) (blk_set H3.out i (.slice none 0 0)) (Kd.R_nil _ _ _ _ _) hF)
  have HF1 : Aside0 (FrB w ((w.drewN m10).setCell ⟨gq, i, none⟩ (.slice none 0 0))) := ⟨hF.bytes (by exact H3.out) (by decide)⟩
  have HB1 : Aside0 (Below w0.heap.size w0 ((w.drewN m10).setCell ⟨gq, i, none⟩ (.slice none 0 0))) := ⟨(pw_below_drewN HB.out m10).setCell (p := ⟨gq, i, none⟩) HR.out.ge.2 _⟩
  go_loopg [22] n (fun g22 v22 wr => ∃ (k : Nat) (col : Nat → Nat), g22 = n - k ∧ v22 = .int .i64 k ∧ k ≤ n ∧ Aside0 (Rel wr w0.heap.size g gq col vw (qs.set i ((vw.take k).map clr))) ∧ Aside0 (Below w0.heap.size w0 wr) ∧ Aside0 (FrB w wr) ∧ Aside0 (wr.heap[g]? = some (.cells #[.slice (some ⟨gq, 0, none⟩) qs.length qs.length, .slice Av n cv] 99 (0, 0))))
  case atStart =>
    refine ⟨0, col, by simp, rfl, Nat.zero_le _, ⟨by rw [List.take_zero]; exact HR1.out⟩, HB1, HF1, ⟨?_⟩⟩
    rw [Below.heap_setCell _ _ _ _ ngq, ← HN.out]
    exact H1.out
  case round =>
    clear HR1 HF1 HB1 hF k1 cq fq
    obtain ⟨k, col2, rfl, rfl, hk, HR2, HB2, HF2, HV2⟩ := hrel
    have hil : i < (qs.set i ((vw.take k).map clr)).length := by rw [List.length_set]; exact HI.out
    by_cases hkn : k < n
    · have hk2 : (k : Int) < n := by omega
      have hk0 : (0 : Int) ≤ k := by omega
      have hkl : k < vw.length := by rw [HN.out]; exact hkn
      obtain ⟨vv1, g1, hview⟩ := HR2.out.blk
      rw [HV2.out] at g1
      injection g1 with g1
      injection g1 with g1
      injection g1 with g1
      injection g1 with _ g1
      injection g1 with g1
      subst g1
      obtain ⟨gv, cap, vb, he, _, hc0, hc1, hb⟩ := qr_item hview k hkl
      have hAv : Av = some ⟨gv, 0, none⟩ := by injection he
      subst hAv
      obtain ⟨x, hx⟩ : ∃ x, vw[k] = x := ⟨_, rfl⟩
      rw [hx] at hc1 hb
      have HXL : Aside0 (x.f0.length ≤ 100000) := ⟨by rw [← hx]; exact HX.out _ (List.getElem_mem hkl)⟩
      have HXX := Aside0.mk hx
      have HRb : Aside0 (Rd wr vb x.f0) := ⟨Own.rd (Kd.R_mono hb (fun _ _ => trivial))⟩
      obtain ⟨Ab, cb, rfl, hcb, hCb⟩ := Kd.R_reads hb
      have HBX : Aside0 (Below wr.heap.size wr (wr.alloc (.cells #[.slice Ab x.f0.length cb, .bool x.f1] 107))) := ⟨below_alloc (Below.refl _ _) _⟩
      obtain ⟨col3, hcol3, hR3⟩ := (HR2.out.below HBX.out).recol' (i + 1)
      obtain ⟨cs3, h3, h4, h5⟩ := hR3.qb
      obtain ⟨v3, e3, r3⟩ := h5 i hil
      rw [List.getElem_set_self] at r3
      have HR3 := Aside0.mk hR3
      have HCol3 := Aside0.mk hcol3
      have G3 := Aside0.mk h3
      have HE3 := Aside0.mk e3
      have Hr3 := Aside0.mk r3
      have HLen : Aside0 (((vw.take k).map clr).length ≤ 100000) := ⟨by rw [List.length_map, List.length_take]; omega⟩
      clear hb hCb hcb hx he hR3 hcol3 h3 h4 h5 e3 r3 hview
      go_wp2_with (first
        | (go_at_call 59; go_must ((refine (qput_calls gq i 97 (i + 1) col3 cs3 v3 (.slice Ab x.f0.length cb) x.f0 _ w0 _ G3.out HE3.out (by decide) Hr3.out (HRb.out.below HBX.out) HCol3.out (HB2.out.trans (HBX.out.mono HB2.out.size)) HR3.out.ge.2 HLen.out HXL.out).mono ?_; rintro e w29 ⟨rfl, ⟨v29, hb29, hr29⟩, hB29, hF29⟩; have K1 := Aside0.mk (HR3.out.turnQ hil G3.out hb29 hr29 hF29); have K2 := Aside0.mk hB29; have K3 : Aside0 (FrB w w29) := ⟨(HF2.out.trans (FrB.below HBX.out)).trans (hF29.bytes G3.out (by decide))⟩; have K4 := Aside0.mk (hF29.2.2 g _ _ _ (blk_below HV2.out HBX.out) (by decide) ngq); clear hb29 hr29 hB29 hF29))))
      go_roundg (n - (k + 1))
      case measure => omega
      case rel =>
        refine ⟨k + 1, col3, rfl, by go_num, by omega, ⟨?_⟩, K2, K3, K4⟩
        · have h6 := K1.out
          rw [List.set_set] at h6
          have e6 : (vw.take (k + 1)).map clr = (vw.take k).map clr ++ [⟨x.f0, false⟩] := by
            rw [List.take_add_one, List.getElem?_eq_getElem hkl, HXX.out]
            simp
          rw [e6]
          exact h6
    · obtain rfl : k = n := by omega
      obtain ⟨cs3, h3, h4, h5⟩ := HR2.out.qb
      obtain ⟨v3, e3, r3⟩ := h5 i hil
      rw [List.getElem_set_self] at r3
      obtain ⟨A3, c3, rfl, hc3, hC3⟩ := Kd.R_reads r3
      have hlen : ((vw.take k).map clr).length = k := by rw [List.length_map, List.length_take, HN.out]; omega
      have cq : wr.cell? ⟨gq, i, none⟩ = some (.slice A3 k c3) := by rw [← hlen]; exact (blk_cell h3 i).trans e3
      clear h3 h4 h5 e3 r3 hC3
      go_wp2
      go_ret
      refine ⟨rfl, ⟨col2, ?_⟩, HB2.out, HF2.out⟩
      have h6 := HR2.out
      rw [List.take_of_length_le (by rw [HN.out]; exact Nat.le_refl _)] at h6
      exact h6
end Go.Proofs.Ytlcifnejpejhmaa.K

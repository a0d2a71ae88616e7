/- stamp.Sort. -/
import Derived.Test.YtfingknhciogkaaSsF
import Derived.Shelf.SlSortCmp.NoneTotal
namespace Go.Proofs.Ytfingknhciogkaa.K
open Go.RowKit Go.Sort Go.Shelf Go.Proofs.YtfingknhciogkaaW.PrintWords Go.Proofs.YtfingknhciogkaaW.PrintLast Go.Proofs.YtfingknhciogkaaW.PrintMore
set_option linter.unusedVariables false
set_option linter.unusedSimpArgs false

theorem sts2_of_srd {W : World} {v : Value} {zs : List St} (h : SRd W v zs) : Sts2 W.heap.size W v zs := by
  obtain ⟨A, c, rfl, hc, hC⟩ := h
  refine ⟨A, c, rfl, hc, fun h0 => ?_⟩
  obtain ⟨ad, e, c0, c1⟩ := X.at_T23 hC 0 (by omega) (by omega)
  refine ⟨ad, e, ?_, fun j x hx => ?_⟩
  · have := World.block_lt_of_cell? _ _ c0
    rw [add_block] at this
    exact this
  · have hj := (List.getElem?_eq_some_iff.1 hx).1
    obtain ⟨ad', e', d0, d1⟩ := X.at_T23 hC j (by omega) (by omega)
    rw [e] at e'
    injection e' with e'
    subst e'
    have hr : X.rd_T23 zs j = x := by
      unfold X.rd_T23
      rw [Int.toNat_natCast, List.getD_eq_getElem?_getD, hx]
      rfl
    rw [hr, Int.toNat_natCast] at d0 d1
    exact ⟨d0, d1⟩
theorem srd_of_rw {W : World} {b cap : Nat} {zs : List St} (h : Rw W b cap zs) : SRd W (.slice (some ⟨b, 0, none⟩) zs.length cap) zs := by
  have hcs := h.cells
  obtain ⟨h1, h2, _⟩ := h
  refine ⟨_, _, rfl, h1, ⟨rfl, Nat.le_trans h1 h2, fun hp => ⟨_, rfl, fun j x hx => ?_⟩⟩⟩
  obtain ⟨f0, f1⟩ := hcs j x hx
  refine ⟨[.int .i64 x.f0, .int .i64 x.f1], rfl, X.k23_mk W x, fun i u hu => ?_⟩
  match i, hu with
  | 0, hu =>
    simp at hu
    subst hu
    rw [Nat.add_zero, Addr.add_lit, Nat.zero_add]
    exact f0
  | 1, hu =>
    simp at hu
    subst hu
    rw [Addr.add_lit, Nat.zero_add]
    exact f1
/-- What slices.Collect hands back: no row, or a new one. -/
def New (w W : World) (v : Value) (zs : List St) : Prop := (v = .slice none 0 0 ∧ zs = []) ∨ ∃ g cap, v = .slice (some ⟨g, 0, none⟩) zs.length cap ∧ w.heap.size ≤ g ∧ Rw W g cap zs
theorem appendSeq_calls (Bs : Nat) (v0 : Value) (zs : List St) (hlen : zs.length ≤ 100000) (w : World) (hBs : Bs < w.heap.size) (hc0 : w.cell? ⟨Bs, 0, none⟩ = some v0) (hI0 : Sts2 w.heap.size w v0 zs) :
    Calls Try.prog 45 #[.slice none 0 0, .func (.func 40) #[] #[.pointer (some ⟨Bs, 0, none⟩)]] w fun e W' =>
      ∃ v, e = .returned v ∧ New w W' v zs ∧ Below w.heap.size w W' :=
  (callsIn_wide.1 (appendSeq_in Bs v0 zs hlen w hBs hc0 hI0)).mono fun e W' ⟨v, he, hr, hb⟩ => ⟨v, he, Rw.of_own hr, hb⟩

set_option maxHeartbeats 1000000 in
theorem collect_calls (Bs : Nat) (v0 : Value) (zs : List St) (hlen : zs.length ≤ 100000) (w : World) (hBs : Bs < w.heap.size) (hc0 : w.cell? ⟨Bs, 0, none⟩ = some v0) (hI0 : Sts2 w.heap.size w v0 zs) :
    Calls Try.prog 38 #[.func (.func 40) #[] #[.pointer (some ⟨Bs, 0, none⟩)]] w fun e W' =>
      ∃ v, e = .returned v ∧ New w W' v zs ∧ Below w.heap.size w W' := by
  have HA := Aside0.mk (appendSeq_calls Bs v0 zs hlen w hBs hc0 hI0)
  clear hBs hc0 hI0
  go_enter Try.func38, Try.ntmps38
  go_wp2_with (first
    | (go_at_call 45; go_must (refine HA.out.mono ?_; rintro e w2 ⟨v, rfl, hn, hb⟩)))
  go_ret
  exact ⟨_, rfl, hn, hb⟩

theorem sortfunc_none (w : World) (fv : Value) : Calls Try.prog 39 #[.slice none 0 0, fv] w fun e w' => e = .returned (.tuple #[]) ∧ w' = w := AnyF.slices_SortFunc_none sortSt none 0 fv w

/-- What is sorted. -/
def Srt (w W : World) (v : Value) (zs : List St) : Prop := ∃ ys, ys.Perm zs ∧ Asc ys ∧ New w W v ys
set_option maxHeartbeats 1000000 in
theorem sortedfunc_calls (Bs : Nat) (v0 : Value) (zs : List St) (hlen : zs.length ≤ 100000) (w : World) (hBs : Bs < w.heap.size) (hc0 : w.cell? ⟨Bs, 0, none⟩ = some v0) (hI0 : Sts2 w.heap.size w v0 zs) :
    Calls Try.prog 29 #[.func (.func 40) #[] #[.pointer (some ⟨Bs, 0, none⟩)], .func (.func 10) #[] #[]] w fun e W' =>
      ∃ v, e = .returned v ∧ Srt w W' v zs ∧ Below w.heap.size w W' := by
  have HA := Aside0.mk (collect_calls Bs v0 zs hlen w hBs hc0 hI0)
  clear hBs hc0 hI0
  go_enter Try.func29, Try.ntmps29
  go_upto_region 2 with (first
    | (go_at_call 38; go_must (refine HA.out.mono ?_; rintro e w2 ⟨v, rfl, hn, hb⟩; have HN := Aside0.mk hn; have HB := Aside0.mk hb; clear hn hb)))
  rcases HN.out with ⟨rfl, hz⟩ | ⟨g, cap, rfl, hg, hr⟩
  · have HZ := Aside0.mk hz
    clear hz
    go_wp2_with (first
      | (go_at_call 39; go_must (refine (sortfunc_none _ _).mono ?_; rintro e w3 ⟨rfl, rfl⟩)))
    go_ret
    exact ⟨_, rfl, ⟨[], by rw [HZ.out], List.Pairwise.nil, .inl ⟨rfl, rfl⟩⟩, HB.out⟩
  · have HR := Aside0.mk hr
    have HG := Aside0.mk hg
    clear hr hg
    go_wp2_with (first
      | (go_at_call 39; go_must (refine (sortfunc_calls g cap w.heap.size zs _ HR.out hlen HG.out HB.out.size).mono ?_; rintro e w3 ⟨rfl, ys, hp, ha, hr2, hb2⟩; have HP := Aside0.mk hp; have HA2 := Aside0.mk ha; have HR2 := Aside0.mk hr2; have HB2 := Aside0.mk (HB.out.trans hb2); clear hp ha hr2 hb2)))
    go_ret
    exact ⟨_, rfl, ⟨ys, HP.out, HA2.out, .inr ⟨g, cap, by rw [HP.out.length_eq]; rfl, HG.out, HR2.out⟩⟩, HB2.out⟩

set_option maxHeartbeats 1000000 in
theorem compact_none (w : World) : Calls Try.prog 28 #[.slice none 0 0] w fun e w' => e = .returned (.slice none 0 0) ∧ Drawn0 w w' := by
  go_enter Try.func28, Try.ntmps28
  go_wp2
  go_ret
  exact ⟨rfl, by repeat (first | exact Drawn0.refl _ | apply Drawn0.step)⟩

theorem compact_new {w W : World} {v : Value} {ys : List St} {base : Nat} (h : New w W v ys) (hlen : ys.length ≤ 100000) (hb : base ≤ w.heap.size) :
    Calls Try.prog 28 #[v] W fun e w' => ∃ v', e = .returned v' ∧ SRd w' v' (dd ys) ∧ Below base W w' := by
  rcases h with ⟨rfl, rfl⟩ | ⟨g, cap, rfl, hg, hr⟩
  · refine (compact_none W).mono ?_
    rintro e w' ⟨rfl, ⟨m, rfl⟩⟩
    exact ⟨_, rfl, ⟨none, 0, rfl, Nat.le_refl _, Kd.C_nil _ _⟩, pw_below_drewN (Below.refl _ _) m⟩
  · refine (compact_calls g cap ys.length base ys W hr rfl hlen (Nat.le_trans hb hg)).mono ?_
    rintro e w' ⟨k, rfl, hk, hr2, hb2⟩
    subst hk
    exact ⟨_, rfl, srd_of_rw hr2, hb2⟩

set_option maxHeartbeats 1000000 in
/-- stamp.Sort: each stamp once, in order. -/
theorem sort_calls (v : Value) (zs : List St) (hlen : zs.length ≤ 100000) (w : World) (hv : SRd w v zs) :
    Calls Try.prog 15 #[v] w fun e w' => ∃ v' ys, e = .returned v' ∧ ys.Perm zs ∧ Asc ys ∧ SRd w' v' (dd ys) ∧ Below w.heap.size w w' := by
  have hbv : (w.alloc (.cells #[v] 24)).cell? ⟨w.heap.size, 0, none⟩ = some v := (World.cell?_alloc_new w _ _ 0).trans rfl
  have hb0 := below_alloc (Below.refl w.heap.size w) (.cells #[v] 24)
  have hlt : w.heap.size < (w.alloc (.cells #[v] 24)).heap.size := by simp
  have HS := Aside0.mk (sortedfunc_calls w.heap.size v zs hlen (w.alloc (.cells #[v] 24)) hlt hbv (sts2_of_srd (hv.below hb0)))
  have HB0 := Aside0.mk hb0
  obtain ⟨A, c, rfl, hc, _⟩ := hv
  clear hbv hb0 hlt
  go_enter Try.func15, Try.ntmps15
  go_wp2_with (first
    | (go_at_call 30; go_must (refine (values_calls _ _ rfl A zs.length c rfl).mono ?_; rintro e w1 ⟨rfl, rfl⟩))
    | (go_at_call 29; go_must (refine HS.out.mono ?_; rintro e w2 ⟨v2, rfl, ⟨ys, hp, ha, hn⟩, hb⟩; have HP := Aside0.mk hp; have HA := Aside0.mk ha; have HN := Aside0.mk hn; have HB := Aside0.mk (below_step HB0.out hb); clear hp ha hn hb))
    | (go_at_call 28; go_must (refine (compact_new HN.out (by rw [HP.out.length_eq]; exact hlen) HB0.out.size).mono ?_; rintro e w3 ⟨v3, rfl, hr, hb⟩; have HR := Aside0.mk hr; have HB2 := Aside0.mk (HB.out.trans hb); clear hr hb)))
  go_ret
  exact ⟨_, ys, rfl, HP.out, HA.out, HR.out, HB2.out⟩
end Go.Proofs.Ytfingknhciogkaa.K

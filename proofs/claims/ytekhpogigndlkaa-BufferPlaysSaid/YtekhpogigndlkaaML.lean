/- The law BufferPlays. -/
import Derived.Test.YtekhpogigndlkaaMK
import Derived.Test.YtekhpogigndlkaaMH
import Derived.Test.YtekhpogigndlkaaMG
import Derived.Test.YtekhpogigndlkaaWTab
import Derived.Deep.RegionLaw
namespace Go.Proofs.Ytekhpogigndlkaa.K
open Go.RowKit Go.Proofs.YtekhpogigndlkaaW.PrintWords Go.Proofs.YtekhpogigndlkaaW.PrintLast Go.Proofs.YtekhpogigndlkaaW.PrintMore
set_option linter.unusedVariables false
set_option linter.unusedSimpArgs false

theorem fsame_calls (p q : EP) (w : World) (he : p.e = q.e) (hp : Rd w p.b p.e.f5) (hq : Rd w q.b q.e.f5) (hl : p.e.f5.length ≤ 1100) :
    Calls Try.prog 16 #[.agg #[.int .i64 p.e.f0, .int .i64 p.e.f1, .int .u64 p.e.f2, .int .i64 p.e.f3.f0, .int .i64 p.e.f3.f1, .int .i64 p.e.f4, .slice p.A p.e.f5.length p.c, .int .u64 p.e.f6], .agg #[.int .i64 q.e.f0, .int .i64 q.e.f1, .int .u64 q.e.f2, .int .i64 q.e.f3.f0, .int .i64 q.e.f3.f1, .int .i64 q.e.f4, .slice q.A q.e.f5.length q.c, .int .u64 q.e.f6]] w fun e w' => e = .returned (.bool true) ∧ Below w.heap.size w w' := by
  obtain ⟨A, c, hv, hc, hC⟩ := hp
  injection hv with h1 h2 h3
  subst h1 h3
  obtain ⟨A, c, hv, hc', hC'⟩ := hq
  injection hv with h1 h2 h3
  subst h1 h3
  have hf : X.cachetteref06_Same.f 2000 p.e.f0 p.e.f1 p.e.f2 p.e.f3.f0 p.e.f3.f1 p.e.f4 p.e.f5 p.e.f6 q.e.f0 q.e.f1 q.e.f2 q.e.f3.f0 q.e.f3.f1 q.e.f4 q.e.f5 q.e.f6 = some true := by
    rw [← he]
    exact esame_refl p.e (by omega) 2000 (by omega)
  exact X.cachetteref06_Same.calls 2000 p.e.f0 p.e.f1 p.e.f2 p.e.f3.f0 p.e.f3.f1 p.e.f4 p.A p.c p.e.f5 p.e.f6 q.e.f0 q.e.f1 q.e.f2 q.e.f3.f0 q.e.f3.f1 q.e.f4 q.A q.c q.e.f5 q.e.f6 true w hC hc hC' hc' hf
theorem blen_n (base g n : Nat) (most : Int) (v : Value) (L : List En) (w : World) (h : Buf w base g most v L) (hn : L.length = n) :
    Calls Try.prog 13 #[.pointer (some ⟨g, 0, none⟩)] w fun e w' => e = .returned (.int .i64 n) ∧ Below w.heap.size w w' := by
  subst hn
  exact blen base g most v L w h
theorem good_small {hs : List EP} (h : Good hs) {q : EP} (hq : q ∈ hs) : q.e.f5.length ≤ 1100 := by
  have := h.rights q hq
  simp only [rightE, decide_eq_true_eq] at this
  exact this.2.2.2.2.2.2.2.2.2
theorem head_small {hs : List EP} (h : Good hs) : ((hs.map (·.e)).headD zEn).f5.length ≤ 1100 := by
  cases hs with
  | nil => exact Nat.zero_le _
  | cons a t => exact good_small h List.mem_cons_self
theorem tk_small {hs : List EP} (h : Good hs) {k : Ky} {is : Bool} {f : En} {M : List En} (ht : TkP (hs.map (·.e)) k is f M) : f.f5.length ≤ 1100 := by
  rcases ht with ⟨_, _, h3⟩ | ⟨_, h2, _⟩
  · obtain ⟨q, hq, rfl⟩ := List.mem_map.1 (h3.mem_iff.1 List.mem_cons_self)
    exact good_small h hq
  · rw [h2]
    exact Nat.zero_le _
theorem run_len {hs os1 os2 : List EP} (h : Good hs) {x y : Int} {M : List En} (hn : RnP (hs.map (·.e)) x y (os1.map (·.e)) M) (he : os1.map (·.e) = os2.map (·.e)) : os2.length ≤ 100000 := by
  have h1 := hn.1.length_eq
  have h2 := congrArg List.length he
  have h3 := h.len
  simp only [List.length_append, List.length_map] at h1 h2
  omega
theorem StB.cells {w0 W : World} {gb gr bx : Nat} {most : Int} {L : List En} {hs : List EP} {u0 u1 u2 u3 u4 u5 u6 u7 u8 u9 u10 : Value} {t : TypeId} (h : StB w0 W gb gr most L hs bx (.cells #[u0, u1, u2, u3, u4, u5, u6, u7, u8, u9, u10] t (0, 0))) :
    W.cell? ⟨bx, 0, none⟩ = some u0 ∧ W.cell? ⟨bx, 1, none⟩ = some u1 ∧ W.cell? ⟨bx, 2, none⟩ = some u2 ∧ W.cell? ⟨bx, 3, none⟩ = some u3 ∧ W.cell? ⟨bx, 4, none⟩ = some u4 ∧ W.cell? ⟨bx, 5, none⟩ = some u5 ∧ W.cell? ⟨bx, 6, none⟩ = some u6 ∧ W.cell? ⟨bx, 7, none⟩ = some u7 ∧ W.cell? ⟨bx, 8, none⟩ = some u8 ∧ W.cell? ⟨bx, 9, none⟩ = some u9 ∧ W.cell? ⟨bx, 10, none⟩ = some u10 := by
  have hb := h.hbx
  exact ⟨(blk_cell hb 0).trans rfl, (blk_cell hb 1).trans rfl, (blk_cell hb 2).trans rfl, (blk_cell hb 3).trans rfl, (blk_cell hb 4).trans rfl, (blk_cell hb 5).trans rfl, (blk_cell hb 6).trans rfl, (blk_cell hb 7).trans rfl, (blk_cell hb 8).trans rfl, (blk_cell hb 9).trans rfl, (blk_cell hb 10).trans rfl⟩
theorem StB.ne_new {w0 W : World} {gb gr bx : Nat} {ob : Obj} {most : Int} {L : List En} {hs : List EP} (h : StB w0 W gb gr most L hs bx ob) : W.heap.size ≠ gr := by
  obtain ⟨vb, vr, h1, h2, _⟩ := h
  have := blk_lt h2.hd
  omega
def plays_walk.T27 : Bool × List (List Nat × List Nat) := (true, [([], []), ([0], [0]), ([1], [1]), ([2], [2]), ([2], [2]), ([3, 4, 2], [2, 3, 4]), ([2, 5], [2, 5]), ([6, 2], [6]), ([7], [7]), ([7], [7]), ([8, 9, 7, 7], [7, 8, 9]), ([10, 7], [7, 10]), ([7, 11], [7, 11]), ([12, 10], [12]), ([13], [13]), ([14, 13, 13], [13, 14]), ([13], [13]), ([16, 13], [13, 16]), ([17, 13], [13, 17]), ([18, 13], [13, 18]), ([19, 13], [13, 19]), ([15, 20, 13], [13, 15, 20]), ([13, 21], [13, 21]), ([22, 15], [22]), ([23], [23]), ([24, 23, 23], [23, 24]), ([23], [23]), ([26, 23], [23, 26]), ([27, 23], [23, 27]), ([28, 23], [23, 28]), ([25, 29, 25, 23], [23, 25, 29]), ([30, 23], [23, 30]), ([23, 31], [23, 31])])
def plays_walk.B27 : List Nat := [0, 1, 3, 7, 7, 31, 63, 127, 255, 255, 1023, 2047, 4095, 8191, 16383, 32767, 16383, 81919, 212991, 475135, 999423, 2097151, 4194303, 8388607, 16777215, 33554431, 16777215, 83886079, 218103807, 486539263, 1073741823, 2147483647, 4294967295]
theorem plays_walk.tab27 : rtab .any (opsOf Try.f5 27) = plays_walk.T27 := by kernel_rfl
theorem plays_walk.bits27 : waitsOk plays_walk.T27.2 plays_walk.B27 = true := by kernel_rfl
set_option maxRecDepth 100000 in
set_option maxHeartbeats 64000000 in
theorem plays_walk (most : Int) (v : Value) (l : List Bo) (w : World) (hv : ORd w v l) (hbb : ∀ o ∈ l, ∀ x ∈ o.f3.f5, 0 ≤ x ∧ x ≤ 255) :
    Calls Try.prog 5 #[.int .i64 most, v] w fun e w' => e = .returned (.bool true) ∧ Below w.heap.size w w' := by
  have HTA : Aside0 (∀ q : EP, enV q = .agg #[.int .i64 q.e.f0, .int .i64 q.e.f1, .int .u64 q.e.f2, .int .i64 q.e.f3.f0, .int .i64 q.e.f3.f1, .int .i64 q.e.f4, .slice q.A q.e.f5.length q.c, .int .u64 q.e.f6]) := ⟨fun _ => rfl⟩
  obtain ⟨A, c, rfl, hc, hC⟩ := hv
  obtain ⟨r, h60, hlc⟩ := light_calls w A c l hC hc
  have HC := Aside0.mk hC
  have HLC := Aside0.mk hlc
  have HBB := Aside0.mk hbb
  clear hlc hC hc hbb
  cases r
  · clear h60
    go_enter Try.func5, Try.ntmps5
    go_wp2_with (first
      | (go_at_call 17; go_must (refine HLC.out.mono ?_; rintro e w1 ⟨rfl, hb⟩; have HW1 := Aside0.mk hb; clear hb))
      | (go_at_call 7; go_must (refine (alive_calls _).mono ?_; rintro e wz ⟨rfl, hb⟩; have HBZ := Aside0.mk (HW1.out.trans (hb.mono HW1.out.size)); clear hb)))
    go_ret
    exact ⟨rfl, HBZ.out⟩
  · have HL60 : Aside0 (l.length ≤ 60) := ⟨h60 rfl⟩
    clear h60
    by_cases hm1 : most < 1
    · go_enter Try.func5, Try.ntmps5
      go_wp2_with (first
        | (go_at_call 17; go_must (refine HLC.out.mono ?_; rintro e w1 ⟨rfl, hb⟩; have HW1 := Aside0.mk hb; clear hb))
        | (go_at_call 8; go_must (refine (new_bad most _ (.inl hm1)).mono ?_; rintro e w2 ⟨rfl, hb⟩; have HW2 := Aside0.mk (HW1.out.trans (hb.mono HW1.out.size)); clear hb))
        | (go_at_call 7; go_must (refine (alive_calls _).mono ?_; rintro e wz ⟨rfl, hb⟩; have HBZ := Aside0.mk (HW2.out.trans (hb.mono HW2.out.size)); clear hb)))
      go_ret
      exact ⟨rfl, HBZ.out⟩
    · by_cases hm2 : 16 < most
      · go_enter Try.func5, Try.ntmps5
        go_wp2_with (first
          | (go_at_call 17; go_must (refine HLC.out.mono ?_; rintro e w1 ⟨rfl, hb⟩; have HW1 := Aside0.mk hb; clear hb))
          | (go_at_call 8; go_must (refine (new_bad most _ (.inr hm2)).mono ?_; rintro e w2 ⟨rfl, hb⟩; have HW2 := Aside0.mk (HW1.out.trans (hb.mono HW1.out.size)); clear hb))
          | (go_at_call 7; go_must (refine (alive_calls _).mono ?_; rintro e wz ⟨rfl, hb⟩; have HBZ := Aside0.mk (HW2.out.trans (hb.mono HW2.out.size)); clear hb)))
        go_ret
        exact ⟨rfl, HBZ.out⟩
      · have HM1 : Aside0 (1 ≤ most) := ⟨by omega⟩
        have HM16 : Aside0 (most ≤ 16) := ⟨by omega⟩
        go_enter Try.func5, Try.ntmps5
        go_upto_region 9 with (first
          | (go_at_call 17; go_must (refine HLC.out.mono ?_; rintro e w1 ⟨rfl, hb⟩; have HW1 := Aside0.mk hb; clear hb))
          | (go_at_call 8; go_must (refine (bnew w.heap.size most _ HM1.out HM16.out HW1.out.size).mono ?_; rintro e w2 ⟨gb, rfl, h1, h2, h3⟩; have HB2 := Aside0.mk h1; have HW2 := Aside0.mk (HW1.out.trans (h3.mono HW1.out.size)); clear h1 h2 h3))
          | (go_at_call 7; go_must (refine (alive_calls _).mono ?_; rintro e w3 ⟨rfl, hb⟩; have HB3 := Aside0.mk (HB2.out.below hb); have HW3 := Aside0.mk (HW2.out.trans (hb.mono HW2.out.size)); clear hb)))
        clear hm1 hm2
        refine gen_world (fun W8 hW8 => ?_)
        have hB8 : Below w3.heap.size w3 W8 := by rw [hW8]; with_reducible exact below_alloc (Below.refl _ _) _
        have hx8 : W8.heap[w3.heap.size]? = some (.cells #[.int .i64 most, .slice none 0 0] 50 (0, 0)) := by rw [hW8]; with_reducible exact heap_alloc_new _ _
        obtain ⟨gr, hgr⟩ : ∃ g, g = w3.heap.size := ⟨_, rfl⟩
        have HS8 : Aside0 (StZ w W8 gb gr most ([].map (fun x : EP => x.e)) []) := ⟨_, _, HB3.out.below hB8, ⟨by rw [hgr]; exact hx8, HRow.nil _ _, by rw [hgr]; exact HW3.out.size, fun q hq => by simp at hq, HW3.out.trans (hB8.mono HW3.out.size)⟩, fun k hk => by simp [Value.ownBlock] at hk⟩
        rw [← hgr]
        clear hW8 hB8 hx8 hgr HB3 HB2 HW1 HW2 HW3
        go_wp2
        go_loopg [8] l.length (fun gg v8 wr => ∃ (j : Nat) (hs : List EP), gg = l.length - j ∧ v8 = .int .i64 j ∧ j ≤ l.length ∧ Aside0 (StZ w wr gb gr most (hs.map (·.e)) hs) ∧ Aside0 (Good hs))
        case atStart => exact ⟨0, [], rfl, rfl, Nat.zero_le _, HS8, ⟨Good.nil⟩⟩
        case round =>
          clear HS8
          obtain ⟨j, hs, hg, rfl, hj, HS, HGD⟩ := hrel
          have HG := Aside0.mk hg
          clear hg
          by_cases hjl : j < l.length
          · obtain ⟨ad, o, p, rfl, hol, hpo, hrd, x0, x1, x2, x3, x4, x5, x6, x7, x8, x9, x10⟩ := op_at HC.out hjl
            replace x0 := pw_cell_below HS.out.low0 x0
            replace x1 := pw_cell_below HS.out.low0 x1
            replace x2 := pw_cell_below HS.out.low0 x2
            replace x3 := pw_cell_below HS.out.low0 x3
            replace x4 := pw_cell_below HS.out.low0 x4
            replace x5 := pw_cell_below HS.out.low0 x5
            replace x6 := pw_cell_below HS.out.low0 x6
            replace x7 := pw_cell_below HS.out.low0 x7
            replace x8 := pw_cell_below HS.out.low0 x8
            replace x9 := pw_cell_below HS.out.low0 x9
            replace x10 := pw_cell_below HS.out.low0 x10
            have HRP := Aside0.mk hrd
            have HBY : Aside0 (Byt p.e) := ⟨fun x hx => HBB.out o hol x (by rw [← hpo]; exact hx)⟩
            have HJL := Aside0.mk hjl
            have hlt : (j : Int) < l.length := by omega
            have h0 : (0 : Int) ≤ j := by omega
            clear hol hpo hrd hj hjl
            go_upto_region 13 with fail
            refine gen_world (fun W9 hW9 => ?_)
            have hB9 : Below wr.heap.size wr W9 := by rw [hW9]; with_reducible exact below_alloc (Below.refl _ _) _
            have hx9 : W9.heap[wr.heap.size]? = some (.cells #[.int .i64 o.f0, .int .i64 o.f1, .int .i64 o.f2, .int .i64 p.e.f0, .int .i64 p.e.f1, .int .u64 p.e.f2, .int .i64 p.e.f3.f0, .int .i64 p.e.f3.f1, .int .i64 p.e.f4, .slice p.A p.e.f5.length p.c, .int .u64 p.e.f6] 52 (0, 0)) := by rw [hW9]; with_reducible exact heap_alloc_new _ _
            have HS9 := Aside0.mk (HS.out.box hB9 hx9)
            obtain ⟨bx, hbx⟩ : ∃ b, b = wr.heap.size := ⟨_, rfl⟩
            rw [← hbx] at HS9 ⊢
            obtain ⟨z0, z1, z2, z3, z4, z5, z6, z7, z8, z9, z10⟩ := HS9.out.cells
            clear hW9 hB9 hx9 hbx HS hlt h0 x0 x1 x2 x3 x4 x5 x6 x7 x8 x9 x10
            by_cases hk0 : o.f0 = 0
            · have hb0 : (o.f0 == 0) = true := by simp [hk0]
              clear hk0
              obtain ⟨kk, hkk⟩ : ∃ kk, holdK most (hs.map (·.e)) p.e = kk := ⟨_, rfl⟩
              have HKK := Aside0.mk hkk
              have hkb : (kk == kk) = true := by simp
              clear hkk
              go_upto_region 16 with fail
              go_region_held3 (fun w' => w'.cell? ⟨bx, 3, none⟩ = some (.int .i64 p.e.f0) ∧ w'.cell? ⟨bx, 4, none⟩ = some (.int .i64 p.e.f1) ∧ w'.cell? ⟨bx, 5, none⟩ = some (.int .u64 p.e.f2) ∧ w'.cell? ⟨bx, 6, none⟩ = some (.int .i64 p.e.f3.f0) ∧ w'.cell? ⟨bx, 7, none⟩ = some (.int .i64 p.e.f3.f1) ∧ w'.cell? ⟨bx, 8, none⟩ = some (.int .i64 p.e.f4) ∧ w'.cell? ⟨bx, 9, none⟩ = some (.slice p.A p.e.f5.length p.c) ∧ w'.cell? ⟨bx, 10, none⟩ = some (.int .u64 p.e.f6))
                (first | exact ⟨z3, z4, z5, z6, z7, z8, z9, z10⟩)
                (first
                  | (go_at_call 9; refine (st_hold_b (w0 := w) (gr := gr) (hs := hs) (bx := bx) (ob := .cells #[.int .i64 o.f0, .int .i64 o.f1, .int .i64 o.f2, .int .i64 p.e.f0, .int .i64 p.e.f1, .int .u64 p.e.f2, .int .i64 p.e.f3.f0, .int .i64 p.e.f3.f1, .int .i64 p.e.f4, .slice p.A p.e.f5.length p.c, .int .u64 p.e.f6] 52 (0, 0)) (L := hs.map (·.e)) p (by exact HS9.out.below (by repeat (first | exact Below.refl _ _ | apply pw_below_drewN | apply below_drew1))) HRP.out HM16.out).mono ?_; rw [HKK.out]; rintro e wa ⟨rfl, ha⟩; clear z0 z1 z2 z3 z4 z5 z6 z7 z8 z9 z10; obtain ⟨z0, z1, z2, z3, z4, z5, z6, z7, z8, z9, z10⟩ := StB.cells ha; have HA := Aside0.mk ha; clear ha)
                  | (go_at_call 18; refine (st_hold_r (w0 := w) (gb := gb) (bx := bx) (ob := .cells #[.int .i64 o.f0, .int .i64 o.f1, .int .i64 o.f2, .int .i64 p.e.f0, .int .i64 p.e.f1, .int .u64 p.e.f2, .int .i64 p.e.f3.f0, .int .i64 p.e.f3.f1, .int .i64 p.e.f4, .slice p.A p.e.f5.length p.c, .int .u64 p.e.f6] 52 (0, 0)) (L := holdL most (hs.map (·.e)) p.e) (hs := hs) p (by exact HA.out.below (by repeat (first | exact Below.refl _ _ | apply pw_below_drewN | apply below_drew1))) HGD.out HRP.out HBY.out HM16.out).mono ?_; rw [HKK.out]; rintro e wb ⟨ks, rfl, hb, hg, hp⟩; clear z0 z1 z2 z3 z4 z5 z6 z7 z8 z9 z10; obtain ⟨z0, z1, z2, z3, z4, z5, z6, z7, z8, z9, z10⟩ := StB.cells hb; have HB := Aside0.mk (hb.perm hp).low; have HGK := Aside0.mk hg; clear hb hg hp))
              all_goals
                have HSZ := HB
                clear HA HB HS9 HKK z0 z1 z2 z3 z4 z5 z6 z7 z8 z9 z10
                go_upto_region 26 with (first
                  | (go_at_call 14; go_must (refine (st_first_b (w0 := w) (by exact HSZ.out.below (by repeat (first | exact Below.refl _ _ | apply pw_below_drewN | apply below_drew1))) HGK.out).mono ?_; rintro e wf ⟨f, rfl, hf, ho, hb⟩; rw [HTA.out]; have HFE := Aside0.mk hf; have HOF := Aside0.mk ho; have HSF := Aside0.mk ((HSZ.out.below (by repeat (first | exact Below.refl _ _ | apply pw_below_drewN | apply below_drew1))).below hb); clear hf ho hb)))
                refine gen_world (fun W25 hW25 => ?_)
                have hB25 : Below wf.heap.size wf W25 := by rw [hW25]; with_reducible exact below_alloc (Below.refl _ _) _
                have hx25 : W25.heap[wf.heap.size]? = some (.cells #[.int .i64 f.e.f0, .int .i64 f.e.f1, .int .u64 f.e.f2, .int .i64 f.e.f3.f0, .int .i64 f.e.f3.f1, .int .i64 f.e.f4, .slice f.A f.e.f5.length f.c, .int .u64 f.e.f6] 33 (0, 0)) := by rw [hW25]; with_reducible exact heap_alloc_new _ _
                obtain ⟨b15, hb15⟩ : ∃ b, b = wf.heap.size := ⟨_, rfl⟩
                rw [← hb15] at hx25 ⊢
                have HX25 := Aside0.mk hx25
                have HS25 := Aside0.mk (HSF.out.below hB25)
                have HOF25 : Aside0 (Own W25 w.heap.size f.b f.e.f5) := ⟨HOF.out.below hB25⟩
                clear hW25 hB25 hx25 hb15 HSF HOF
                go_upto_region 27 with (first
                  | (go_at_call 23; go_must (refine (st_first_r (w0 := w) (by exact HS25.out) HGK.out).mono ?_; rintro e wf2 ⟨f2, rfl, hf, ho, hb⟩; rw [HTA.out]; have HFE2 := Aside0.mk hf; have HRF0 := Aside0.mk ho; have HSF := Aside0.mk (HS25.out.below hb); have HX26 := Aside0.mk (blk_below HX25.out hb); have HOF26 : Aside0 (Own wf2 w.heap.size f.b f.e.f5) := ⟨HOF25.out.below hb⟩; clear hf ho hb)))
                refine gen_world (fun wx hwx => ?_)
                have hB27 : Below wf2.heap.size wf2 wx := by rw [hwx]; with_reducible exact below_alloc (Below.refl _ _) _
                have hx27 : wx.heap[wf2.heap.size]? = some (.cells #[.int .i64 f2.e.f0, .int .i64 f2.e.f1, .int .u64 f2.e.f2, .int .i64 f2.e.f3.f0, .int .i64 f2.e.f3.f1, .int .i64 f2.e.f4, .slice f2.A f2.e.f5.length f2.c, .int .u64 f2.e.f6] 33 (0, 0)) := by rw [hwx]; with_reducible exact heap_alloc_new _ _
                obtain ⟨b17, hb17⟩ : ∃ b, b = wf2.heap.size := ⟨_, rfl⟩
                rw [← hb17] at hx27 ⊢
                obtain ⟨vb, vr, hBU, hRE, hDI⟩ := HSF.out.below hB27
                have HBUF := Aside0.mk hBU
                have HREF := Aside0.mk hRE
                have HDIS := Aside0.mk hDI
                obtain ⟨Ar, cr, hvr⟩ := hRE.row.form
                obtain ⟨n, hn⟩ : ∃ n, n = ks.length := ⟨_, rfl⟩
                rw [← hn] at hvr
                subst hvr
                have HNK := Aside0.mk hn
                have HNL : Aside0 ((ks.map (·.e)).length = n) := ⟨by rw [List.length_map]; exact hn.symm⟩
                have hcr := hRE.cell
                obtain ⟨a0, a1, a2, a3, a4, a5, a6, a7, -⟩ := cells8z (blk_below HX26.out hB27)
                obtain ⟨b0, b1, b2, b3, b4, b5, b6, b7, -⟩ := cells8z hx27
                have HRF : Aside0 (Rd wx f.b f.e.f5) := ⟨Own.rd (HOF26.out.below hB27)⟩
                have HRF2 : Aside0 (Rd wx f2.b f2.e.f5) := ⟨HRF0.out.below hRE.bel⟩
                have HFL : Aside0 (f.e.f5.length ≤ 1100) := ⟨by rw [HFE.out]; exact head_small HGK.out⟩
                have HFE : Aside0 (f.e = f2.e) := ⟨HFE.out.trans HFE2.out.symm⟩
                obtain ⟨is, his⟩ : ∃ is, (!ks.isEmpty) = is := ⟨_, rfl⟩
                rw [his]
                have hib : (is != is) = false := by simp
                have hnb : ((n : Int) != (n : Int)) = false := by simp
                clear hwx hB27 hx27 hb17 hBU hRE hDI hn his
                refine start_ (n := 33) (S := fun w' => w'.cell? ⟨b15, 0, none⟩ = some (.int .i64 f.e.f0) ∧ w'.cell? ⟨b15, 1, none⟩ = some (.int .i64 f.e.f1) ∧ w'.cell? ⟨b15, 2, none⟩ = some (.int .u64 f.e.f2) ∧ w'.cell? ⟨b15, 3, none⟩ = some (.int .i64 f.e.f3.f0) ∧ w'.cell? ⟨b15, 4, none⟩ = some (.int .i64 f.e.f3.f1) ∧ w'.cell? ⟨b15, 5, none⟩ = some (.int .i64 f.e.f4) ∧ w'.cell? ⟨b15, 6, none⟩ = some (.slice f.A f.e.f5.length f.c) ∧ w'.cell? ⟨b15, 7, none⟩ = some (.int .u64 f.e.f6) ∧ w'.cell? ⟨b17, 0, none⟩ = some (.int .i64 f2.e.f0) ∧ w'.cell? ⟨b17, 1, none⟩ = some (.int .i64 f2.e.f1) ∧ w'.cell? ⟨b17, 2, none⟩ = some (.int .u64 f2.e.f2) ∧ w'.cell? ⟨b17, 3, none⟩ = some (.int .i64 f2.e.f3.f0) ∧ w'.cell? ⟨b17, 4, none⟩ = some (.int .i64 f2.e.f3.f1) ∧ w'.cell? ⟨b17, 5, none⟩ = some (.int .i64 f2.e.f4) ∧ w'.cell? ⟨b17, 6, none⟩ = some (.slice f2.A f2.e.f5.length f2.c) ∧ w'.cell? ⟨b17, 7, none⟩ = some (.int .u64 f2.e.f6) ∧ w'.cell? ⟨gr, 1, none⟩ = some (.slice Ar n cr)) (ds := []) #[false, false, false, false, false, false, false, false, false, false, false, false, false, false, false, false, false, false, false, false, false, false, false, false, false, false, false, false, false, false, false, false, false] (by kernel_rfl) rfl rfl ⟨a0, a1, a2, a3, a4, a5, a6, a7, b0, b1, b2, b3, b4, b5, b6, b7, hcr⟩ (fun hHeld => ?_)
                refine with_tabW plays_walk.tab27 plays_walk.bits27 (fun HT_ HW_ => ?_)
                refine pure_ (i := 0) (N := some 139) (v := ?_) (a' := ?_) #[true, false, false, false, false, false, false, false, false, false, false, false, false, false, false, false, false, false, false, false, false, false, false, false, false, false, false, false, false, false, false, false, false] rfl rfl (any_of HT_.out (by kernel_rfl)) (fun _ _ _ h => h) (Or.inl ⟨by rfl, ?_⟩) ?_ ?_
                rotate_left
                · intro w'
                  go_simp
                  with_reducible rfl
                rotate_left
                · simp only [Act.put, List.setIfInBounds_toArray, List.set_cons_zero, List.set_cons_succ, i64_w, i32_w]
                  rfl
                refine pure_ (i := 1) (N := some 140) (v := ?_) (a' := ?_) #[true, true, false, false, false, false, false, false, false, false, false, false, false, false, false, false, false, false, false, false, false, false, false, false, false, false, false, false, false, false, false, false, false] rfl rfl (any_of HT_.out (by kernel_rfl)) (fun _ _ _ h => h) (Or.inl ⟨by rfl, ?_⟩) ?_ ?_
                rotate_left
                · intro w'
                  go_simp
                  with_reducible rfl
                rotate_left
                · simp only [Act.put, List.setIfInBounds_toArray, List.set_cons_zero, List.set_cons_succ, i64_w, i32_w]
                  rfl
                refine pure_ (i := 2) (N := some 141) (v := ?_) (a' := ?_) #[true, true, true, false, false, false, false, false, false, false, false, false, false, false, false, false, false, false, false, false, false, false, false, false, false, false, false, false, false, false, false, false, false] rfl rfl (any_of HT_.out (by kernel_rfl)) (fun _ _ _ h => h) (Or.inl ⟨by rfl, ?_⟩) ?_ ?_
                rotate_left
                · intro w'
                  go_simp
                  with_reducible rfl
                rotate_left
                · simp only [Act.put, List.setIfInBounds_toArray, List.set_cons_zero, List.set_cons_succ, i64_w, i32_w]
                  rfl
                refine pure_ (i := 3) (N := some 142) (v := ?_) (a' := ?_) #[true, true, true, true, false, false, false, false, false, false, false, false, false, false, false, false, false, false, false, false, false, false, false, false, false, false, false, false, false, false, false, false, false] rfl rfl (any_of HT_.out (by kernel_rfl)) (fun _ _ _ h => h) (Or.inl ⟨by rfl, ?_⟩) ?_ ?_
                rotate_left
                · intro w'
                  go_simp
                  with_reducible rfl
                rotate_left
                · simp only [Act.put, List.setIfInBounds_toArray, List.set_cons_zero, List.set_cons_succ, i64_w, i32_w]
                  rfl
                refine pure_ (i := 4) (N := some 143) (v := ?_) (a' := ?_) #[true, true, true, true, true, false, false, false, false, false, false, false, false, false, false, false, false, false, false, false, false, false, false, false, false, false, false, false, false, false, false, false, false] rfl rfl (any_of HT_.out (by kernel_rfl)) (fun _ _ _ h => h) (Or.inl ⟨by rfl, ?_⟩) ?_ ?_
                rotate_left
                · intro w'
                  go_simp
                  with_reducible rfl
                rotate_left
                · simp only [Act.put, List.setIfInBounds_toArray, List.set_cons_zero, List.set_cons_succ, i64_w, i32_w]
                  rfl
                refine pure_ (i := 5) (N := some 144) (v := ?_) (a' := ?_) #[true, true, true, true, true, true, false, false, false, false, false, false, false, false, false, false, false, false, false, false, false, false, false, false, false, false, false, false, false, false, false, false, false] rfl rfl (any_of HT_.out (by kernel_rfl)) (fun _ _ _ h => h) (Or.inl ⟨by rfl, ?_⟩) ?_ ?_
                rotate_left
                · intro w'
                  go_simp
                  with_reducible rfl
                rotate_left
                · simp only [Act.put, List.setIfInBounds_toArray, List.set_cons_zero, List.set_cons_succ, i64_w, i32_w]
                  rfl
                refine pure_ (i := 6) (N := some 145) (v := ?_) (a' := ?_) #[true, true, true, true, true, true, true, false, false, false, false, false, false, false, false, false, false, false, false, false, false, false, false, false, false, false, false, false, false, false, false, false, false] rfl rfl (any_of HT_.out (by kernel_rfl)) (fun _ _ _ h => h) (Or.inl ⟨by rfl, ?_⟩) ?_ ?_
                rotate_left
                · intro w'
                  go_simp
                  with_reducible rfl
                rotate_left
                · simp only [Act.put, List.setIfInBounds_toArray, List.set_cons_zero, List.set_cons_succ, i64_w, i32_w]
                  rfl
                refine pure_ (i := 7) (N := some 146) (v := ?_) (a' := ?_) #[true, true, true, true, true, true, true, true, false, false, false, false, false, false, false, false, false, false, false, false, false, false, false, false, false, false, false, false, false, false, false, false, false] rfl rfl (any_of HT_.out (by kernel_rfl)) (fun _ _ _ h => h) (Or.inl ⟨by rfl, ?_⟩) ?_ ?_
                rotate_left
                · intro w'
                  go_simp
                  with_reducible rfl
                rotate_left
                · simp only [Act.put, List.setIfInBounds_toArray, List.set_cons_zero, List.set_cons_succ, i64_w, i32_w]
                  rfl
                refine take_ (i := 8) (N := some 147) (v := ?_) (a' := ?_) #[true, true, true, true, true, true, true, true, true, false, false, false, false, false, false, false, false, false, false, false, false, false, false, false, false, false, false, false, false, false, false, false, false] rfl rfl (take_ofW HT_.out HW_.out (by kernel_rfl)) (fun _ _ _ h => h) (Or.inl ⟨by rfl, ?_⟩) hHeld ?_ ?_
                rotate_left
                · rintro w' ⟨s0, s1, s2, s3, s4, s5, s6, s7, s8, s9, s10, s11, s12, s13, s14, s15, s16⟩
                  go_simp
                  with_reducible rfl
                rotate_left
                · simp only [Act.put, List.setIfInBounds_toArray, List.set_cons_zero, List.set_cons_succ, i64_w, i32_w]
                  rfl
                refine take_ (i := 9) (N := some 148) (v := ?_) (a' := ?_) #[true, true, true, true, true, true, true, true, true, true, false, false, false, false, false, false, false, false, false, false, false, false, false, false, false, false, false, false, false, false, false, false, false] rfl rfl (take_ofW HT_.out HW_.out (by kernel_rfl)) (fun _ _ _ h => h) (Or.inl ⟨by rfl, ?_⟩) hHeld ?_ ?_
                rotate_left
                · rintro w' ⟨s0, s1, s2, s3, s4, s5, s6, s7, s8, s9, s10, s11, s12, s13, s14, s15, s16⟩
                  go_simp
                  with_reducible rfl
                rotate_left
                · simp only [Act.put, List.setIfInBounds_toArray, List.set_cons_zero, List.set_cons_succ, i64_w, i32_w]
                  rfl
                refine one_ (i := 10) (N := some 149) #[true, true, true, true, true, true, true, true, true, true, true, false, false, false, false, false, false, false, false, false, false, false, false, false, false, false, false, false, false, false, false, false, false] rfl rfl (one_of HT_.out (by kernel_rfl)) (by decide) (fun K hK => ?_)
                refine goes_ Try.func16 (by kernel_rfl) rfl #[.agg #[.int .i64 f.e.f0, .int .i64 f.e.f1, .int .u64 f.e.f2, .int .i64 f.e.f3.f0, .int .i64 f.e.f3.f1, .int .i64 f.e.f4, .slice f.A f.e.f5.length f.c, .int .u64 f.e.f6], .agg #[.int .i64 f2.e.f0, .int .i64 f2.e.f1, .int .u64 f2.e.f2, .int .i64 f2.e.f3.f0, .int .i64 f2.e.f3.f1, .int .i64 f2.e.f4, .slice f2.A f2.e.f5.length f2.c, .int .u64 f2.e.f6]] (by rfl) rfl rfl (by simp only [List.map_toArray, List.map_cons, List.map_nil]; rfl) ?_
                with_reducible refine (fsame_calls f f2 _ HFE.out (HRF.out.below (below_drew1 (Below.refl _ _))) (HRF2.out.below (below_drew1 (Below.refl _ _))) HFL.out).mono ?_
                rintro e w10 ⟨rfl, hb10⟩
                refine ⟨_, rfl, ?_⟩
                have hB10 : Below wx.heap.size wx w10 := below_step (below_drew1 (Below.refl _ _)) hb10
                refine hK.out _ _ ⟨(pw_cell_below hB10 a0), (pw_cell_below hB10 a1), (pw_cell_below hB10 a2), (pw_cell_below hB10 a3), (pw_cell_below hB10 a4), (pw_cell_below hB10 a5), (pw_cell_below hB10 a6), (pw_cell_below hB10 a7), (pw_cell_below hB10 b0), (pw_cell_below hB10 b1), (pw_cell_below hB10 b2), (pw_cell_below hB10 b3), (pw_cell_below hB10 b4), (pw_cell_below hB10 b5), (pw_cell_below hB10 b6), (pw_cell_below hB10 b7), (pw_cell_below hB10 hcr)⟩ (fun hHeld => ?_)
                clear hK K
                refine norm_ (a' := ?_) ?_ ?_
                rotate_left
                · show Act.put _ (some 149) _ = _
                  simp only [Act.put, List.setIfInBounds_toArray, List.set_cons_zero, List.set_cons_succ, i64_w, i32_w]
                  rfl
                refine pure_ (i := 11) (N := some 150) (v := ?_) (a' := ?_) #[true, true, true, true, true, true, true, true, true, true, true, true, false, false, false, false, false, false, false, false, false, false, false, false, false, false, false, false, false, false, false, false, false] rfl rfl (any_of HT_.out (by kernel_rfl)) (fun _ _ _ h => h) (Or.inl ⟨by rfl, ?_⟩) ?_ ?_
                rotate_left
                · intro w'
                  go_simp
                  with_reducible rfl
                rotate_left
                · simp only [Act.put, List.setIfInBounds_toArray, List.set_cons_zero, List.set_cons_succ, i64_w, i32_w]
                  rfl
                refine pure_ (i := 12) (N := some 151) (v := ?_) (a' := ?_) #[true, true, true, true, true, true, true, true, true, true, true, true, true, false, false, false, false, false, false, false, false, false, false, false, false, false, false, false, false, false, false, false, false] rfl rfl (any_of HT_.out (by kernel_rfl)) (fun _ _ _ h => h) (Or.inl ⟨by rfl, ?_⟩) ?_ ?_
                rotate_left
                · intro w'
                  go_simp
                  with_reducible rfl
                rotate_left
                · simp only [Act.put, List.setIfInBounds_toArray, List.set_cons_zero, List.set_cons_succ, i64_w, i32_w]
                  rfl
                refine pure_ (i := 13) (N := some 152) (v := ?_) (a' := ?_) #[true, true, true, true, true, true, true, true, true, true, true, true, true, true, false, false, false, false, false, false, false, false, false, false, false, false, false, false, false, false, false, false, false] rfl rfl (any_of HT_.out (by kernel_rfl)) (fun _ _ _ h => h) (Or.inl ⟨by rfl, ?_⟩) ?_ ?_
                rotate_left
                · intro w'
                  go_simp
                  with_reducible rfl
                rotate_left
                · simp only [Act.put, List.setIfInBounds_toArray, List.set_cons_zero, List.set_cons_succ, i64_w, i32_w]
                  rfl
                refine pure_ (i := 14) (N := some 153) (v := ?_) (a' := ?_) #[true, true, true, true, true, true, true, true, true, true, true, true, true, true, true, false, false, false, false, false, false, false, false, false, false, false, false, false, false, false, false, false, false] rfl rfl (any_of HT_.out (by kernel_rfl)) (fun _ _ _ h => h) (Or.inl ⟨by rfl, ?_⟩) ?_ ?_
                rotate_left
                · intro w'
                  go_simp
                  with_reducible rfl
                rotate_left
                · simp only [Act.put, List.setIfInBounds_toArray, List.set_cons_zero, List.set_cons_succ, i64_w, i32_w]
                  rfl
                refine pure_ (i := 16) (N := some 155) (v := ?_) (a' := ?_) #[true, true, true, true, true, true, true, true, true, true, true, true, true, true, true, false, true, false, false, false, false, false, false, false, false, false, false, false, false, false, false, false, false] rfl rfl (any_of HT_.out (by kernel_rfl)) (fun _ _ _ h => h) (Or.inl ⟨by rfl, ?_⟩) ?_ ?_
                rotate_left
                · intro w'
                  go_simp
                  with_reducible rfl
                rotate_left
                · simp only [Act.put, List.setIfInBounds_toArray, List.set_cons_zero, List.set_cons_succ, i64_w, i32_w]
                  rfl
                refine pure_ (i := 17) (N := some 156) (v := ?_) (a' := ?_) #[true, true, true, true, true, true, true, true, true, true, true, true, true, true, true, false, true, true, false, false, false, false, false, false, false, false, false, false, false, false, false, false, false] rfl rfl (any_of HT_.out (by kernel_rfl)) (fun _ _ _ h => h) (Or.inl ⟨by rfl, ?_⟩) ?_ ?_
                rotate_left
                · intro w'
                  go_simp
                  with_reducible rfl
                rotate_left
                · simp only [Act.put, List.setIfInBounds_toArray, List.set_cons_zero, List.set_cons_succ, i64_w, i32_w]
                  rfl
                refine pure_ (i := 18) (N := some 157) (v := ?_) (a' := ?_) #[true, true, true, true, true, true, true, true, true, true, true, true, true, true, true, false, true, true, true, false, false, false, false, false, false, false, false, false, false, false, false, false, false] rfl rfl (any_of HT_.out (by kernel_rfl)) (fun _ _ _ h => h) (Or.inl ⟨by rfl, ?_⟩) ?_ ?_
                rotate_left
                · intro w'
                  go_simp
                  with_reducible rfl
                rotate_left
                · simp only [Act.put, List.setIfInBounds_toArray, List.set_cons_zero, List.set_cons_succ, i64_w, i32_w]
                  rfl
                refine take_ (i := 19) (N := some 158) (v := ?_) (a' := ?_) #[true, true, true, true, true, true, true, true, true, true, true, true, true, true, true, false, true, true, true, true, false, false, false, false, false, false, false, false, false, false, false, false, false] rfl rfl (take_ofW HT_.out HW_.out (by kernel_rfl)) (fun _ _ _ h => h) (Or.inl ⟨by rfl, ?_⟩) hHeld ?_ ?_
                rotate_left
                · rintro w' ⟨s0, s1, s2, s3, s4, s5, s6, s7, s8, s9, s10, s11, s12, s13, s14, s15, s16⟩
                  go_simp
                  with_reducible rfl
                rotate_left
                · simp only [Act.put, List.setIfInBounds_toArray, List.set_cons_zero, List.set_cons_succ, i64_w, i32_w]
                  rfl
                refine pure_ (i := 20) (N := some 159) (v := ?_) (a' := ?_) #[true, true, true, true, true, true, true, true, true, true, true, true, true, true, true, false, true, true, true, true, true, false, false, false, false, false, false, false, false, false, false, false, false] rfl rfl (any_of HT_.out (by kernel_rfl)) (fun _ _ _ h => h) (Or.inl ⟨by rfl, ?_⟩) ?_ ?_
                rotate_left
                · intro w'
                  go_simp
                  with_reducible rfl
                rotate_left
                · simp only [Act.put, List.setIfInBounds_toArray, List.set_cons_zero, List.set_cons_succ, i64_w, i32_w]
                  rfl
                refine one_ (i := 15) (N := some 154) #[true, true, true, true, true, true, true, true, true, true, true, true, true, true, true, true, true, true, true, true, true, false, false, false, false, false, false, false, false, false, false, false, false] rfl rfl (one_of HT_.out (by kernel_rfl)) (by decide) (fun K hK => ?_)
                refine goes_ Try.func13 (by kernel_rfl) rfl #[.pointer (some ⟨gb, 0, none⟩)] (by rfl) rfl rfl (by simp only [List.map_toArray, List.map_cons, List.map_nil]; rfl) ?_
                with_reducible refine (blen_n w.heap.size gb n most vb (ks.map (·.e)) _ (HBUF.out.below hB10) HNL.out).mono ?_
                rintro e w15 ⟨rfl, hb15⟩
                refine ⟨_, rfl, ?_⟩
                have hB15 : Below wx.heap.size wx w15 := below_step hB10 hb15
                refine hK.out _ _ ⟨(pw_cell_below hB15 a0), (pw_cell_below hB15 a1), (pw_cell_below hB15 a2), (pw_cell_below hB15 a3), (pw_cell_below hB15 a4), (pw_cell_below hB15 a5), (pw_cell_below hB15 a6), (pw_cell_below hB15 a7), (pw_cell_below hB15 b0), (pw_cell_below hB15 b1), (pw_cell_below hB15 b2), (pw_cell_below hB15 b3), (pw_cell_below hB15 b4), (pw_cell_below hB15 b5), (pw_cell_below hB15 b6), (pw_cell_below hB15 b7), (pw_cell_below hB15 hcr)⟩ (fun hHeld => ?_)
                clear hK K
                refine norm_ (a' := ?_) ?_ ?_
                rotate_left
                · show Act.put _ (some 154) _ = _
                  simp only [Act.put, List.setIfInBounds_toArray, List.set_cons_zero, List.set_cons_succ, i64_w, i32_w]
                  rfl
                refine pure_ (i := 21) (N := some 160) (v := ?_) (a' := ?_) #[true, true, true, true, true, true, true, true, true, true, true, true, true, true, true, true, true, true, true, true, true, true, false, false, false, false, false, false, false, false, false, false, false] rfl rfl (any_of HT_.out (by kernel_rfl)) (fun _ _ _ h => h) (Or.inl ⟨by rfl, ?_⟩) ?_ ?_
                rotate_left
                · intro w'
                  go_simp
                  with_reducible rfl
                rotate_left
                · simp only [Act.put, List.setIfInBounds_toArray, List.set_cons_zero, List.set_cons_succ, i64_w, i32_w]
                  rfl
                refine pure_ (i := 22) (N := some 161) (v := ?_) (a' := ?_) #[true, true, true, true, true, true, true, true, true, true, true, true, true, true, true, true, true, true, true, true, true, true, true, false, false, false, false, false, false, false, false, false, false] rfl rfl (any_of HT_.out (by kernel_rfl)) (fun _ _ _ h => h) (Or.inl ⟨by rfl, ?_⟩) ?_ ?_
                rotate_left
                · intro w'
                  go_simp
                  with_reducible rfl
                rotate_left
                · simp only [Act.put, List.setIfInBounds_toArray, List.set_cons_zero, List.set_cons_succ, i64_w, i32_w]
                  rfl
                refine pure_ (i := 23) (N := some 162) (v := ?_) (a' := ?_) #[true, true, true, true, true, true, true, true, true, true, true, true, true, true, true, true, true, true, true, true, true, true, true, true, false, false, false, false, false, false, false, false, false] rfl rfl (any_of HT_.out (by kernel_rfl)) (fun _ _ _ h => h) (Or.inl ⟨by rfl, ?_⟩) ?_ ?_
                rotate_left
                · intro w'
                  go_simp
                  with_reducible rfl
                rotate_left
                · simp only [Act.put, List.setIfInBounds_toArray, List.set_cons_zero, List.set_cons_succ, i64_w, i32_w]
                  rfl
                refine pure_ (i := 24) (N := some 163) (v := ?_) (a' := ?_) #[true, true, true, true, true, true, true, true, true, true, true, true, true, true, true, true, true, true, true, true, true, true, true, true, true, false, false, false, false, false, false, false, false] rfl rfl (any_of HT_.out (by kernel_rfl)) (fun _ _ _ h => h) (Or.inl ⟨by rfl, ?_⟩) ?_ ?_
                rotate_left
                · intro w'
                  go_simp
                  with_reducible rfl
                rotate_left
                · simp only [Act.put, List.setIfInBounds_toArray, List.set_cons_zero, List.set_cons_succ, i64_w, i32_w]
                  rfl
                refine pure_ (i := 26) (N := some 165) (v := ?_) (a' := ?_) #[true, true, true, true, true, true, true, true, true, true, true, true, true, true, true, true, true, true, true, true, true, true, true, true, true, false, true, false, false, false, false, false, false] rfl rfl (any_of HT_.out (by kernel_rfl)) (fun _ _ _ h => h) (Or.inl ⟨by rfl, ?_⟩) ?_ ?_
                rotate_left
                · intro w'
                  go_simp
                  with_reducible rfl
                rotate_left
                · simp only [Act.put, List.setIfInBounds_toArray, List.set_cons_zero, List.set_cons_succ, i64_w, i32_w]
                  rfl
                refine pure_ (i := 27) (N := some 166) (v := ?_) (a' := ?_) #[true, true, true, true, true, true, true, true, true, true, true, true, true, true, true, true, true, true, true, true, true, true, true, true, true, false, true, true, false, false, false, false, false] rfl rfl (any_of HT_.out (by kernel_rfl)) (fun _ _ _ h => h) (Or.inl ⟨by rfl, ?_⟩) ?_ ?_
                rotate_left
                · intro w'
                  go_simp
                  with_reducible rfl
                rotate_left
                · simp only [Act.put, List.setIfInBounds_toArray, List.set_cons_zero, List.set_cons_succ, i64_w, i32_w]
                  rfl
                refine pure_ (i := 28) (N := some 167) (v := ?_) (a' := ?_) #[true, true, true, true, true, true, true, true, true, true, true, true, true, true, true, true, true, true, true, true, true, true, true, true, true, false, true, true, true, false, false, false, false] rfl rfl (any_of HT_.out (by kernel_rfl)) (fun _ _ _ h => h) (Or.inl ⟨by rfl, ?_⟩) ?_ ?_
                rotate_left
                · intro w'
                  go_simp
                  with_reducible rfl
                rotate_left
                · simp only [Act.put, List.setIfInBounds_toArray, List.set_cons_zero, List.set_cons_succ, i64_w, i32_w]
                  rfl
                refine take_ (i := 29) (N := some 168) (v := ?_) (a' := ?_) #[true, true, true, true, true, true, true, true, true, true, true, true, true, true, true, true, true, true, true, true, true, true, true, true, true, false, true, true, true, true, false, false, false] rfl rfl (take_ofW HT_.out HW_.out (by kernel_rfl)) (fun _ _ _ h => h) (Or.inl ⟨by rfl, ?_⟩) hHeld ?_ ?_
                rotate_left
                · rintro w' ⟨s0, s1, s2, s3, s4, s5, s6, s7, s8, s9, s10, s11, s12, s13, s14, s15, s16⟩
                  go_simp
                  with_reducible rfl
                rotate_left
                · simp only [Act.put, List.setIfInBounds_toArray, List.set_cons_zero, List.set_cons_succ, i64_w, i32_w]
                  rfl
                refine one_ (i := 25) (N := some 164) #[true, true, true, true, true, true, true, true, true, true, true, true, true, true, true, true, true, true, true, true, true, true, true, true, true, true, true, true, true, true, false, false, false] rfl rfl (one_of HT_.out (by kernel_rfl)) (by decide) (fun K hK => ?_)
                refine goes_ Try.func10 (by kernel_rfl) rfl #[.pointer (some ⟨gb, 0, none⟩)] (by rfl) rfl rfl (by simp only [List.map_toArray, List.map_cons, List.map_nil]; rfl) ?_
                with_reducible refine (ball w.heap.size gb most vb (ks.map (·.e)) _ (HBUF.out.below hB15)).mono ?_
                rintro e w25 ⟨os, Ao, co, rfl, hPo, hPm, hSo, hb25, -⟩
                refine ⟨_, rfl, ?_⟩
                have hB25 : Below wx.heap.size wx w25 := below_step hB15 hb25
                refine hK.out _ _ ⟨(pw_cell_below hB25 a0), (pw_cell_below hB25 a1), (pw_cell_below hB25 a2), (pw_cell_below hB25 a3), (pw_cell_below hB25 a4), (pw_cell_below hB25 a5), (pw_cell_below hB25 a6), (pw_cell_below hB25 a7), (pw_cell_below hB25 b0), (pw_cell_below hB25 b1), (pw_cell_below hB25 b2), (pw_cell_below hB25 b3), (pw_cell_below hB25 b4), (pw_cell_below hB25 b5), (pw_cell_below hB25 b6), (pw_cell_below hB25 b7), (pw_cell_below hB25 hcr)⟩ (fun hHeld => ?_)
                clear hK K
                refine norm_ (a' := ?_) ?_ ?_
                rotate_left
                · show Act.put _ (some 164) _ = _
                  simp only [Act.put, List.setIfInBounds_toArray, List.set_cons_zero, List.set_cons_succ, i64_w, i32_w]
                  rfl
                refine one_ (i := 30) (N := some 169) #[true, true, true, true, true, true, true, true, true, true, true, true, true, true, true, true, true, true, true, true, true, true, true, true, true, true, true, true, true, true, true, false, false] rfl rfl (one_of HT_.out (by kernel_rfl)) (by decide) (fun K hK => ?_)
                refine goes_ Try.func12 (by kernel_rfl) rfl #[.slice Ao os.length co, .slice Ar n cr] (by rfl) rfl rfl (by simp only [List.map_toArray, List.map_cons, List.map_nil]; rfl) ?_
                with_reducible refine (fall_mix _ _ w.heap.size Ao Ar co cr n os ks hPo (HREF.out.row.below hB25) (fun q hq => (HREF.out.rdp hq).below hB25) (srt_eq hSo HGK.out.srt hPm ((hPm.map keyE).nodup_iff.2 HGK.out.nodup)) HNK.out (by have := HGK.out.len; omega) (fun q hq => good_small HGK.out hq)).mono ?_
                rintro e w30 ⟨rfl, hb30⟩
                refine ⟨_, rfl, ?_⟩
                have hB30 : Below wx.heap.size wx w30 := below_step hB25 hb30
                refine hK.out _ _ ⟨(pw_cell_below hB30 a0), (pw_cell_below hB30 a1), (pw_cell_below hB30 a2), (pw_cell_below hB30 a3), (pw_cell_below hB30 a4), (pw_cell_below hB30 a5), (pw_cell_below hB30 a6), (pw_cell_below hB30 a7), (pw_cell_below hB30 b0), (pw_cell_below hB30 b1), (pw_cell_below hB30 b2), (pw_cell_below hB30 b3), (pw_cell_below hB30 b4), (pw_cell_below hB30 b5), (pw_cell_below hB30 b6), (pw_cell_below hB30 b7), (pw_cell_below hB30 hcr)⟩ (fun hHeld => ?_)
                clear hK K
                refine norm_ (a' := ?_) ?_ ?_
                rotate_left
                · show Act.put _ (some 169) _ = _
                  simp only [Act.put, List.setIfInBounds_toArray, List.set_cons_zero, List.set_cons_succ, i64_w, i32_w]
                  rfl
                refine pure_ (i := 31) (N := some 170) (v := ?_) (a' := ?_) #[true, true, true, true, true, true, true, true, true, true, true, true, true, true, true, true, true, true, true, true, true, true, true, true, true, true, true, true, true, true, true, true, false] rfl rfl (any_of HT_.out (by kernel_rfl)) (fun _ _ _ h => h) (Or.inl ⟨by rfl, ?_⟩) ?_ ?_
                rotate_left
                · intro w'
                  go_simp
                  with_reducible rfl
                rotate_left
                · simp only [Act.put, List.setIfInBounds_toArray, List.set_cons_zero, List.set_cons_succ, i64_w, i32_w]
                  rfl
                refine pure_ (i := 32) (N := some 171) (v := ?_) (a' := ?_) #[true, true, true, true, true, true, true, true, true, true, true, true, true, true, true, true, true, true, true, true, true, true, true, true, true, true, true, true, true, true, true, true, true] rfl rfl (any_of HT_.out (by kernel_rfl)) (fun _ _ _ h => h) (Or.inl ⟨by rfl, ?_⟩) ?_ ?_
                rotate_left
                · intro w'
                  go_simp
                  with_reducible rfl
                rotate_left
                · simp only [Act.put, List.setIfInBounds_toArray, List.set_cons_zero, List.set_cons_succ, i64_w, i32_w]
                  rfl
                refine done_ (done_of HT_.out (by kernel_rfl)) ?_
                have HSE : Aside0 (StZ w w30 gb gr most (ks.map (·.e)) ks) := ⟨StZ.below ⟨vb, _, HBUF.out, HREF.out, HDIS.out⟩ hB30⟩
                clear hB10 hB15 hB25 hB30 hb10 hb15 hb25 hb30 hPo hPm hSo hcr a0 a1 a2 a3 a4 a5 a6 a7 b0 b1 b2 b3 b4 b5 b6 b7 hib hnb
                have hk : (-1000000 : Int) ≤ (j : Int) + 1 ∧ (j : Int) + 1 ≤ 1000000 := by have := HL60.out; have := HJL.out; omega
                have hw1 := iw (x := (j : Int) + 1) rfl hk
                have hw2 := w64 (x := (j : Int) + 1) rfl hk
                clear hk
                go_wp2
                clear hw1 hw2
                go_roundg (l.length - (j + 1))
                case measure => rw [HG.out]; have := HJL.out; omega
                case rel => exact ⟨j + 1, ks, rfl, by simp, by have := HJL.out; omega, ⟨HSE.out.below (by with_reducible repeat (first | exact Below.refl _ _ | apply pw_below_drewN | apply below_drew1))⟩, HGK⟩
            · have hb0 : (o.f0 == 0) = false := by simp [hk0]
              by_cases hk1 : o.f0 = 1
              · have hb1 : (o.f0 == 1) = true := by simp [hk1]
                clear hk1 hk0
                go_upto_region 19 with (first
                  | (go_at_call 15; go_must (refine (st_take_b (w0 := w) (gr := gr) (hs := hs) (bx := bx) (ob := .cells #[.int .i64 o.f0, .int .i64 o.f1, .int .i64 o.f2, .int .i64 p.e.f0, .int .i64 p.e.f1, .int .u64 p.e.f2, .int .i64 p.e.f3.f0, .int .i64 p.e.f3.f1, .int .i64 p.e.f4, .slice p.A p.e.f5.length p.c, .int .u64 p.e.f6] 52 (0, 0)) (L := hs.map (·.e)) o.f1 o.f2 (by exact HS9.out.below (by repeat (first | exact Below.refl _ _ | apply pw_below_drewN | apply below_drew1)))).mono ?_; rintro e wa ⟨is1, q1, M, rfl, ht, ha, ho⟩; rw [HTA.out]; have HT1 := Aside0.mk ht; have HA := Aside0.mk ha; have HO1 := Aside0.mk ho; clear ht ha ho)))
                clear z0 z1 z2 z3 z4 z5 z6 z7 z8 z9 z10
                refine gen_world (fun W18 hW18 => ?_)
                have hB18 : Below wa.heap.size wa W18 := by rw [hW18]; with_reducible exact below_alloc (Below.refl _ _) _
                have hx18 : W18.heap[wa.heap.size]? = some (.cells #[.int .i64 q1.e.f0, .int .i64 q1.e.f1, .int .u64 q1.e.f2, .int .i64 q1.e.f3.f0, .int .i64 q1.e.f3.f1, .int .i64 q1.e.f4, .slice q1.A q1.e.f5.length q1.c, .int .u64 q1.e.f6] 33 (0, 0)) := by rw [hW18]; with_reducible exact heap_alloc_new _ _
                obtain ⟨b11, hb11⟩ : ∃ b, b = wa.heap.size := ⟨_, rfl⟩
                rw [← hb11] at hx18 ⊢
                have HNB : Aside0 (b11 ≠ gr) := ⟨by rw [hb11]; exact HA.out.ne_new⟩
                have HX18 := Aside0.mk hx18
                have HS18 := Aside0.mk (HA.out.below hB18)
                have HO18 : Aside0 (Own W18 w.heap.size q1.b q1.e.f5) := ⟨HO1.out.below hB18⟩
                obtain ⟨z0, z1, z2, z3, z4, z5, z6, z7, z8, z9, z10⟩ := HS18.out.cells
                clear hW18 hB18 hx18 hb11 HA HO1
                go_upto_region 20 with (first
                  | (go_at_call 19; go_must (refine (st_take_r (w0 := w) (gb := gb) (bx := bx) (ob := .cells #[.int .i64 o.f0, .int .i64 o.f1, .int .i64 o.f2, .int .i64 p.e.f0, .int .i64 p.e.f1, .int .u64 p.e.f2, .int .i64 p.e.f3.f0, .int .i64 p.e.f3.f1, .int .i64 p.e.f4, .slice p.A p.e.f5.length p.c, .int .u64 p.e.f6] 52 (0, 0)) (L := M) (hs := hs) o.f1 o.f2 (by exact HS18.out.below (by repeat (first | exact Below.refl _ _ | apply pw_below_drewN | apply below_drew1))) HGD.out).mono ?_; rintro e wb ⟨is2, q2, ks, rfl, ht, hg, hb, hr, hf, hown⟩; rw [HTA.out]; have HT2 := Aside0.mk ht; have HGK := Aside0.mk hg; have HBB := Aside0.mk hb; have HR2 := Aside0.mk hr; have HX19 := Aside0.mk (hf.blk HX18.out HNB.out); have HO19 := Aside0.mk (hown _ _ HO18.out); clear ht hg hb hr hf hown)))
                clear z0 z1 z2 z3 z4 z5 z6 z7 z8 z9 z10
                refine gen_world (fun W19 hW19 => ?_)
                have hB19 : Below wb.heap.size wb W19 := by rw [hW19]; with_reducible exact below_alloc (Below.refl _ _) _
                have hx19 : W19.heap[wb.heap.size]? = some (.cells #[.int .i64 q2.e.f0, .int .i64 q2.e.f1, .int .u64 q2.e.f2, .int .i64 q2.e.f3.f0, .int .i64 q2.e.f3.f1, .int .i64 q2.e.f4, .slice q2.A q2.e.f5.length q2.c, .int .u64 q2.e.f6] 33 (0, 0)) := by rw [hW19]; with_reducible exact heap_alloc_new _ _
                obtain ⟨b13, hb13⟩ : ∃ b, b = wb.heap.size := ⟨_, rfl⟩
                rw [← hb13] at hx19 ⊢
                obtain ⟨hi, hq, hM⟩ := TkP.same HGD.out.nodup HT1.out HT2.out
                subst hi
                have HQQ := Aside0.mk hq
                have HSZ : Aside0 (StZ w W19 gb gr most (ks.map (·.e)) ks) := ⟨((HBB.out.perm hM).below hB19).low⟩
                have HR1 : Aside0 (Rd W19 q1.b q1.e.f5) := ⟨Own.rd (HO19.out.below hB19)⟩
                have HR2b : Aside0 (Rd W19 q2.b q2.e.f5) := ⟨HR2.out.below HSZ.out.low0⟩
                have HQL : Aside0 (q1.e.f5.length ≤ 1100) := ⟨tk_small HGD.out HT1.out⟩
                have hib : (is1 == is1) = true := by simp
                obtain ⟨a0, a1, a2, a3, a4, a5, a6, a7, -⟩ := cells8z (blk_below HX19.out hB19)
                obtain ⟨c0, c1, c2, c3, c4, c5, c6, c7, -⟩ := cells8z hx19
                clear hW19 hB19 hx19 hb13 HBB HT1 HT2 hq hM HX18 HX19
                go_upto_region 21 with (first
                  | (go_at_call 16; go_must (refine (fsame_calls q1 q2 _ HQQ.out (by exact HR1.out) (by exact HR2b.out) HQL.out).mono ?_; rintro e wc ⟨rfl, hb⟩; have HSC := Aside0.mk (HSZ.out.below hb); clear hb)))
                clear a0 a1 a2 a3 a4 a5 a6 a7 c0 c1 c2 c3 c4 c5 c6 c7 hib HSZ
                have HSZ := HSC
                clear HSC HS18 HS9
                go_upto_region 26 with (first
                  | (go_at_call 14; go_must (refine (st_first_b (w0 := w) (by exact HSZ.out.below (by repeat (first | exact Below.refl _ _ | apply pw_below_drewN | apply below_drew1))) HGK.out).mono ?_; rintro e wf ⟨f, rfl, hf, ho, hb⟩; rw [HTA.out]; have HFE := Aside0.mk hf; have HOF := Aside0.mk ho; have HSF := Aside0.mk ((HSZ.out.below (by repeat (first | exact Below.refl _ _ | apply pw_below_drewN | apply below_drew1))).below hb); clear hf ho hb)))
                refine gen_world (fun W25 hW25 => ?_)
                have hB25 : Below wf.heap.size wf W25 := by rw [hW25]; with_reducible exact below_alloc (Below.refl _ _) _
                have hx25 : W25.heap[wf.heap.size]? = some (.cells #[.int .i64 f.e.f0, .int .i64 f.e.f1, .int .u64 f.e.f2, .int .i64 f.e.f3.f0, .int .i64 f.e.f3.f1, .int .i64 f.e.f4, .slice f.A f.e.f5.length f.c, .int .u64 f.e.f6] 33 (0, 0)) := by rw [hW25]; with_reducible exact heap_alloc_new _ _
                obtain ⟨b15, hb15⟩ : ∃ b, b = wf.heap.size := ⟨_, rfl⟩
                rw [← hb15] at hx25 ⊢
                have HX25 := Aside0.mk hx25
                have HS25 := Aside0.mk (HSF.out.below hB25)
                have HOF25 : Aside0 (Own W25 w.heap.size f.b f.e.f5) := ⟨HOF.out.below hB25⟩
                clear hW25 hB25 hx25 hb15 HSF HOF
                go_upto_region 27 with (first
                  | (go_at_call 23; go_must (refine (st_first_r (w0 := w) (by exact HS25.out) HGK.out).mono ?_; rintro e wf2 ⟨f2, rfl, hf, ho, hb⟩; rw [HTA.out]; have HFE2 := Aside0.mk hf; have HRF0 := Aside0.mk ho; have HSF := Aside0.mk (HS25.out.below hb); have HX26 := Aside0.mk (blk_below HX25.out hb); have HOF26 : Aside0 (Own wf2 w.heap.size f.b f.e.f5) := ⟨HOF25.out.below hb⟩; clear hf ho hb)))
                refine gen_world (fun wx hwx => ?_)
                have hB27 : Below wf2.heap.size wf2 wx := by rw [hwx]; with_reducible exact below_alloc (Below.refl _ _) _
                have hx27 : wx.heap[wf2.heap.size]? = some (.cells #[.int .i64 f2.e.f0, .int .i64 f2.e.f1, .int .u64 f2.e.f2, .int .i64 f2.e.f3.f0, .int .i64 f2.e.f3.f1, .int .i64 f2.e.f4, .slice f2.A f2.e.f5.length f2.c, .int .u64 f2.e.f6] 33 (0, 0)) := by rw [hwx]; with_reducible exact heap_alloc_new _ _
                obtain ⟨b17, hb17⟩ : ∃ b, b = wf2.heap.size := ⟨_, rfl⟩
                rw [← hb17] at hx27 ⊢
                obtain ⟨vb, vr, hBU, hRE, hDI⟩ := HSF.out.below hB27
                have HBUF := Aside0.mk hBU
                have HREF := Aside0.mk hRE
                have HDIS := Aside0.mk hDI
                obtain ⟨Ar, cr, hvr⟩ := hRE.row.form
                obtain ⟨n, hn⟩ : ∃ n, n = ks.length := ⟨_, rfl⟩
                rw [← hn] at hvr
                subst hvr
                have HNK := Aside0.mk hn
                have HNL : Aside0 ((ks.map (·.e)).length = n) := ⟨by rw [List.length_map]; exact hn.symm⟩
                have hcr := hRE.cell
                obtain ⟨a0, a1, a2, a3, a4, a5, a6, a7, -⟩ := cells8z (blk_below HX26.out hB27)
                obtain ⟨b0, b1, b2, b3, b4, b5, b6, b7, -⟩ := cells8z hx27
                have HRF : Aside0 (Rd wx f.b f.e.f5) := ⟨Own.rd (HOF26.out.below hB27)⟩
                have HRF2 : Aside0 (Rd wx f2.b f2.e.f5) := ⟨HRF0.out.below hRE.bel⟩
                have HFL : Aside0 (f.e.f5.length ≤ 1100) := ⟨by rw [HFE.out]; exact head_small HGK.out⟩
                have HFE : Aside0 (f.e = f2.e) := ⟨HFE.out.trans HFE2.out.symm⟩
                obtain ⟨is, his⟩ : ∃ is, (!ks.isEmpty) = is := ⟨_, rfl⟩
                rw [his]
                have hib : (is != is) = false := by simp
                have hnb : ((n : Int) != (n : Int)) = false := by simp
                clear hwx hB27 hx27 hb17 hBU hRE hDI hn his
                refine start_ (n := 33) (S := fun w' => w'.cell? ⟨b15, 0, none⟩ = some (.int .i64 f.e.f0) ∧ w'.cell? ⟨b15, 1, none⟩ = some (.int .i64 f.e.f1) ∧ w'.cell? ⟨b15, 2, none⟩ = some (.int .u64 f.e.f2) ∧ w'.cell? ⟨b15, 3, none⟩ = some (.int .i64 f.e.f3.f0) ∧ w'.cell? ⟨b15, 4, none⟩ = some (.int .i64 f.e.f3.f1) ∧ w'.cell? ⟨b15, 5, none⟩ = some (.int .i64 f.e.f4) ∧ w'.cell? ⟨b15, 6, none⟩ = some (.slice f.A f.e.f5.length f.c) ∧ w'.cell? ⟨b15, 7, none⟩ = some (.int .u64 f.e.f6) ∧ w'.cell? ⟨b17, 0, none⟩ = some (.int .i64 f2.e.f0) ∧ w'.cell? ⟨b17, 1, none⟩ = some (.int .i64 f2.e.f1) ∧ w'.cell? ⟨b17, 2, none⟩ = some (.int .u64 f2.e.f2) ∧ w'.cell? ⟨b17, 3, none⟩ = some (.int .i64 f2.e.f3.f0) ∧ w'.cell? ⟨b17, 4, none⟩ = some (.int .i64 f2.e.f3.f1) ∧ w'.cell? ⟨b17, 5, none⟩ = some (.int .i64 f2.e.f4) ∧ w'.cell? ⟨b17, 6, none⟩ = some (.slice f2.A f2.e.f5.length f2.c) ∧ w'.cell? ⟨b17, 7, none⟩ = some (.int .u64 f2.e.f6) ∧ w'.cell? ⟨gr, 1, none⟩ = some (.slice Ar n cr)) (ds := []) #[false, false, false, false, false, false, false, false, false, false, false, false, false, false, false, false, false, false, false, false, false, false, false, false, false, false, false, false, false, false, false, false, false] (by kernel_rfl) rfl rfl ⟨a0, a1, a2, a3, a4, a5, a6, a7, b0, b1, b2, b3, b4, b5, b6, b7, hcr⟩ (fun hHeld => ?_)
                refine with_tabW plays_walk.tab27 plays_walk.bits27 (fun HT_ HW_ => ?_)
                refine pure_ (i := 0) (N := some 139) (v := ?_) (a' := ?_) #[true, false, false, false, false, false, false, false, false, false, false, false, false, false, false, false, false, false, false, false, false, false, false, false, false, false, false, false, false, false, false, false, false] rfl rfl (any_of HT_.out (by kernel_rfl)) (fun _ _ _ h => h) (Or.inl ⟨by rfl, ?_⟩) ?_ ?_
                rotate_left
                · intro w'
                  go_simp
                  with_reducible rfl
                rotate_left
                · simp only [Act.put, List.setIfInBounds_toArray, List.set_cons_zero, List.set_cons_succ, i64_w, i32_w]
                  rfl
                refine pure_ (i := 1) (N := some 140) (v := ?_) (a' := ?_) #[true, true, false, false, false, false, false, false, false, false, false, false, false, false, false, false, false, false, false, false, false, false, false, false, false, false, false, false, false, false, false, false, false] rfl rfl (any_of HT_.out (by kernel_rfl)) (fun _ _ _ h => h) (Or.inl ⟨by rfl, ?_⟩) ?_ ?_
                rotate_left
                · intro w'
                  go_simp
                  with_reducible rfl
                rotate_left
                · simp only [Act.put, List.setIfInBounds_toArray, List.set_cons_zero, List.set_cons_succ, i64_w, i32_w]
                  rfl
                refine pure_ (i := 2) (N := some 141) (v := ?_) (a' := ?_) #[true, true, true, false, false, false, false, false, false, false, false, false, false, false, false, false, false, false, false, false, false, false, false, false, false, false, false, false, false, false, false, false, false] rfl rfl (any_of HT_.out (by kernel_rfl)) (fun _ _ _ h => h) (Or.inl ⟨by rfl, ?_⟩) ?_ ?_
                rotate_left
                · intro w'
                  go_simp
                  with_reducible rfl
                rotate_left
                · simp only [Act.put, List.setIfInBounds_toArray, List.set_cons_zero, List.set_cons_succ, i64_w, i32_w]
                  rfl
                refine pure_ (i := 3) (N := some 142) (v := ?_) (a' := ?_) #[true, true, true, true, false, false, false, false, false, false, false, false, false, false, false, false, false, false, false, false, false, false, false, false, false, false, false, false, false, false, false, false, false] rfl rfl (any_of HT_.out (by kernel_rfl)) (fun _ _ _ h => h) (Or.inl ⟨by rfl, ?_⟩) ?_ ?_
                rotate_left
                · intro w'
                  go_simp
                  with_reducible rfl
                rotate_left
                · simp only [Act.put, List.setIfInBounds_toArray, List.set_cons_zero, List.set_cons_succ, i64_w, i32_w]
                  rfl
                refine pure_ (i := 4) (N := some 143) (v := ?_) (a' := ?_) #[true, true, true, true, true, false, false, false, false, false, false, false, false, false, false, false, false, false, false, false, false, false, false, false, false, false, false, false, false, false, false, false, false] rfl rfl (any_of HT_.out (by kernel_rfl)) (fun _ _ _ h => h) (Or.inl ⟨by rfl, ?_⟩) ?_ ?_
                rotate_left
                · intro w'
                  go_simp
                  with_reducible rfl
                rotate_left
                · simp only [Act.put, List.setIfInBounds_toArray, List.set_cons_zero, List.set_cons_succ, i64_w, i32_w]
                  rfl
                refine pure_ (i := 5) (N := some 144) (v := ?_) (a' := ?_) #[true, true, true, true, true, true, false, false, false, false, false, false, false, false, false, false, false, false, false, false, false, false, false, false, false, false, false, false, false, false, false, false, false] rfl rfl (any_of HT_.out (by kernel_rfl)) (fun _ _ _ h => h) (Or.inl ⟨by rfl, ?_⟩) ?_ ?_
                rotate_left
                · intro w'
                  go_simp
                  with_reducible rfl
                rotate_left
                · simp only [Act.put, List.setIfInBounds_toArray, List.set_cons_zero, List.set_cons_succ, i64_w, i32_w]
                  rfl
                refine pure_ (i := 6) (N := some 145) (v := ?_) (a' := ?_) #[true, true, true, true, true, true, true, false, false, false, false, false, false, false, false, false, false, false, false, false, false, false, false, false, false, false, false, false, false, false, false, false, false] rfl rfl (any_of HT_.out (by kernel_rfl)) (fun _ _ _ h => h) (Or.inl ⟨by rfl, ?_⟩) ?_ ?_
                rotate_left
                · intro w'
                  go_simp
                  with_reducible rfl
                rotate_left
                · simp only [Act.put, List.setIfInBounds_toArray, List.set_cons_zero, List.set_cons_succ, i64_w, i32_w]
                  rfl
                refine pure_ (i := 7) (N := some 146) (v := ?_) (a' := ?_) #[true, true, true, true, true, true, true, true, false, false, false, false, false, false, false, false, false, false, false, false, false, false, false, false, false, false, false, false, false, false, false, false, false] rfl rfl (any_of HT_.out (by kernel_rfl)) (fun _ _ _ h => h) (Or.inl ⟨by rfl, ?_⟩) ?_ ?_
                rotate_left
                · intro w'
                  go_simp
                  with_reducible rfl
                rotate_left
                · simp only [Act.put, List.setIfInBounds_toArray, List.set_cons_zero, List.set_cons_succ, i64_w, i32_w]
                  rfl
                refine take_ (i := 8) (N := some 147) (v := ?_) (a' := ?_) #[true, true, true, true, true, true, true, true, true, false, false, false, false, false, false, false, false, false, false, false, false, false, false, false, false, false, false, false, false, false, false, false, false] rfl rfl (take_ofW HT_.out HW_.out (by kernel_rfl)) (fun _ _ _ h => h) (Or.inl ⟨by rfl, ?_⟩) hHeld ?_ ?_
                rotate_left
                · rintro w' ⟨s0, s1, s2, s3, s4, s5, s6, s7, s8, s9, s10, s11, s12, s13, s14, s15, s16⟩
                  go_simp
                  with_reducible rfl
                rotate_left
                · simp only [Act.put, List.setIfInBounds_toArray, List.set_cons_zero, List.set_cons_succ, i64_w, i32_w]
                  rfl
                refine take_ (i := 9) (N := some 148) (v := ?_) (a' := ?_) #[true, true, true, true, true, true, true, true, true, true, false, false, false, false, false, false, false, false, false, false, false, false, false, false, false, false, false, false, false, false, false, false, false] rfl rfl (take_ofW HT_.out HW_.out (by kernel_rfl)) (fun _ _ _ h => h) (Or.inl ⟨by rfl, ?_⟩) hHeld ?_ ?_
                rotate_left
                · rintro w' ⟨s0, s1, s2, s3, s4, s5, s6, s7, s8, s9, s10, s11, s12, s13, s14, s15, s16⟩
                  go_simp
                  with_reducible rfl
                rotate_left
                · simp only [Act.put, List.setIfInBounds_toArray, List.set_cons_zero, List.set_cons_succ, i64_w, i32_w]
                  rfl
                refine one_ (i := 10) (N := some 149) #[true, true, true, true, true, true, true, true, true, true, true, false, false, false, false, false, false, false, false, false, false, false, false, false, false, false, false, false, false, false, false, false, false] rfl rfl (one_of HT_.out (by kernel_rfl)) (by decide) (fun K hK => ?_)
                refine goes_ Try.func16 (by kernel_rfl) rfl #[.agg #[.int .i64 f.e.f0, .int .i64 f.e.f1, .int .u64 f.e.f2, .int .i64 f.e.f3.f0, .int .i64 f.e.f3.f1, .int .i64 f.e.f4, .slice f.A f.e.f5.length f.c, .int .u64 f.e.f6], .agg #[.int .i64 f2.e.f0, .int .i64 f2.e.f1, .int .u64 f2.e.f2, .int .i64 f2.e.f3.f0, .int .i64 f2.e.f3.f1, .int .i64 f2.e.f4, .slice f2.A f2.e.f5.length f2.c, .int .u64 f2.e.f6]] (by rfl) rfl rfl (by simp only [List.map_toArray, List.map_cons, List.map_nil]; rfl) ?_
                with_reducible refine (fsame_calls f f2 _ HFE.out (HRF.out.below (below_drew1 (Below.refl _ _))) (HRF2.out.below (below_drew1 (Below.refl _ _))) HFL.out).mono ?_
                rintro e w10 ⟨rfl, hb10⟩
                refine ⟨_, rfl, ?_⟩
                have hB10 : Below wx.heap.size wx w10 := below_step (below_drew1 (Below.refl _ _)) hb10
                refine hK.out _ _ ⟨(pw_cell_below hB10 a0), (pw_cell_below hB10 a1), (pw_cell_below hB10 a2), (pw_cell_below hB10 a3), (pw_cell_below hB10 a4), (pw_cell_below hB10 a5), (pw_cell_below hB10 a6), (pw_cell_below hB10 a7), (pw_cell_below hB10 b0), (pw_cell_below hB10 b1), (pw_cell_below hB10 b2), (pw_cell_below hB10 b3), (pw_cell_below hB10 b4), (pw_cell_below hB10 b5), (pw_cell_below hB10 b6), (pw_cell_below hB10 b7), (pw_cell_below hB10 hcr)⟩ (fun hHeld => ?_)
                clear hK K
                refine norm_ (a' := ?_) ?_ ?_
                rotate_left
                · show Act.put _ (some 149) _ = _
                  simp only [Act.put, List.setIfInBounds_toArray, List.set_cons_zero, List.set_cons_succ, i64_w, i32_w]
                  rfl
                refine pure_ (i := 11) (N := some 150) (v := ?_) (a' := ?_) #[true, true, true, true, true, true, true, true, true, true, true, true, false, false, false, false, false, false, false, false, false, false, false, false, false, false, false, false, false, false, false, false, false] rfl rfl (any_of HT_.out (by kernel_rfl)) (fun _ _ _ h => h) (Or.inl ⟨by rfl, ?_⟩) ?_ ?_
                rotate_left
                · intro w'
                  go_simp
                  with_reducible rfl
                rotate_left
                · simp only [Act.put, List.setIfInBounds_toArray, List.set_cons_zero, List.set_cons_succ, i64_w, i32_w]
                  rfl
                refine pure_ (i := 12) (N := some 151) (v := ?_) (a' := ?_) #[true, true, true, true, true, true, true, true, true, true, true, true, true, false, false, false, false, false, false, false, false, false, false, false, false, false, false, false, false, false, false, false, false] rfl rfl (any_of HT_.out (by kernel_rfl)) (fun _ _ _ h => h) (Or.inl ⟨by rfl, ?_⟩) ?_ ?_
                rotate_left
                · intro w'
                  go_simp
                  with_reducible rfl
                rotate_left
                · simp only [Act.put, List.setIfInBounds_toArray, List.set_cons_zero, List.set_cons_succ, i64_w, i32_w]
                  rfl
                refine pure_ (i := 13) (N := some 152) (v := ?_) (a' := ?_) #[true, true, true, true, true, true, true, true, true, true, true, true, true, true, false, false, false, false, false, false, false, false, false, false, false, false, false, false, false, false, false, false, false] rfl rfl (any_of HT_.out (by kernel_rfl)) (fun _ _ _ h => h) (Or.inl ⟨by rfl, ?_⟩) ?_ ?_
                rotate_left
                · intro w'
                  go_simp
                  with_reducible rfl
                rotate_left
                · simp only [Act.put, List.setIfInBounds_toArray, List.set_cons_zero, List.set_cons_succ, i64_w, i32_w]
                  rfl
                refine pure_ (i := 14) (N := some 153) (v := ?_) (a' := ?_) #[true, true, true, true, true, true, true, true, true, true, true, true, true, true, true, false, false, false, false, false, false, false, false, false, false, false, false, false, false, false, false, false, false] rfl rfl (any_of HT_.out (by kernel_rfl)) (fun _ _ _ h => h) (Or.inl ⟨by rfl, ?_⟩) ?_ ?_
                rotate_left
                · intro w'
                  go_simp
                  with_reducible rfl
                rotate_left
                · simp only [Act.put, List.setIfInBounds_toArray, List.set_cons_zero, List.set_cons_succ, i64_w, i32_w]
                  rfl
                refine pure_ (i := 16) (N := some 155) (v := ?_) (a' := ?_) #[true, true, true, true, true, true, true, true, true, true, true, true, true, true, true, false, true, false, false, false, false, false, false, false, false, false, false, false, false, false, false, false, false] rfl rfl (any_of HT_.out (by kernel_rfl)) (fun _ _ _ h => h) (Or.inl ⟨by rfl, ?_⟩) ?_ ?_
                rotate_left
                · intro w'
                  go_simp
                  with_reducible rfl
                rotate_left
                · simp only [Act.put, List.setIfInBounds_toArray, List.set_cons_zero, List.set_cons_succ, i64_w, i32_w]
                  rfl
                refine pure_ (i := 17) (N := some 156) (v := ?_) (a' := ?_) #[true, true, true, true, true, true, true, true, true, true, true, true, true, true, true, false, true, true, false, false, false, false, false, false, false, false, false, false, false, false, false, false, false] rfl rfl (any_of HT_.out (by kernel_rfl)) (fun _ _ _ h => h) (Or.inl ⟨by rfl, ?_⟩) ?_ ?_
                rotate_left
                · intro w'
                  go_simp
                  with_reducible rfl
                rotate_left
                · simp only [Act.put, List.setIfInBounds_toArray, List.set_cons_zero, List.set_cons_succ, i64_w, i32_w]
                  rfl
                refine pure_ (i := 18) (N := some 157) (v := ?_) (a' := ?_) #[true, true, true, true, true, true, true, true, true, true, true, true, true, true, true, false, true, true, true, false, false, false, false, false, false, false, false, false, false, false, false, false, false] rfl rfl (any_of HT_.out (by kernel_rfl)) (fun _ _ _ h => h) (Or.inl ⟨by rfl, ?_⟩) ?_ ?_
                rotate_left
                · intro w'
                  go_simp
                  with_reducible rfl
                rotate_left
                · simp only [Act.put, List.setIfInBounds_toArray, List.set_cons_zero, List.set_cons_succ, i64_w, i32_w]
                  rfl
                refine take_ (i := 19) (N := some 158) (v := ?_) (a' := ?_) #[true, true, true, true, true, true, true, true, true, true, true, true, true, true, true, false, true, true, true, true, false, false, false, false, false, false, false, false, false, false, false, false, false] rfl rfl (take_ofW HT_.out HW_.out (by kernel_rfl)) (fun _ _ _ h => h) (Or.inl ⟨by rfl, ?_⟩) hHeld ?_ ?_
                rotate_left
                · rintro w' ⟨s0, s1, s2, s3, s4, s5, s6, s7, s8, s9, s10, s11, s12, s13, s14, s15, s16⟩
                  go_simp
                  with_reducible rfl
                rotate_left
                · simp only [Act.put, List.setIfInBounds_toArray, List.set_cons_zero, List.set_cons_succ, i64_w, i32_w]
                  rfl
                refine pure_ (i := 20) (N := some 159) (v := ?_) (a' := ?_) #[true, true, true, true, true, true, true, true, true, true, true, true, true, true, true, false, true, true, true, true, true, false, false, false, false, false, false, false, false, false, false, false, false] rfl rfl (any_of HT_.out (by kernel_rfl)) (fun _ _ _ h => h) (Or.inl ⟨by rfl, ?_⟩) ?_ ?_
                rotate_left
                · intro w'
                  go_simp
                  with_reducible rfl
                rotate_left
                · simp only [Act.put, List.setIfInBounds_toArray, List.set_cons_zero, List.set_cons_succ, i64_w, i32_w]
                  rfl
                refine one_ (i := 15) (N := some 154) #[true, true, true, true, true, true, true, true, true, true, true, true, true, true, true, true, true, true, true, true, true, false, false, false, false, false, false, false, false, false, false, false, false] rfl rfl (one_of HT_.out (by kernel_rfl)) (by decide) (fun K hK => ?_)
                refine goes_ Try.func13 (by kernel_rfl) rfl #[.pointer (some ⟨gb, 0, none⟩)] (by rfl) rfl rfl (by simp only [List.map_toArray, List.map_cons, List.map_nil]; rfl) ?_
                with_reducible refine (blen_n w.heap.size gb n most vb (ks.map (·.e)) _ (HBUF.out.below hB10) HNL.out).mono ?_
                rintro e w15 ⟨rfl, hb15⟩
                refine ⟨_, rfl, ?_⟩
                have hB15 : Below wx.heap.size wx w15 := below_step hB10 hb15
                refine hK.out _ _ ⟨(pw_cell_below hB15 a0), (pw_cell_below hB15 a1), (pw_cell_below hB15 a2), (pw_cell_below hB15 a3), (pw_cell_below hB15 a4), (pw_cell_below hB15 a5), (pw_cell_below hB15 a6), (pw_cell_below hB15 a7), (pw_cell_below hB15 b0), (pw_cell_below hB15 b1), (pw_cell_below hB15 b2), (pw_cell_below hB15 b3), (pw_cell_below hB15 b4), (pw_cell_below hB15 b5), (pw_cell_below hB15 b6), (pw_cell_below hB15 b7), (pw_cell_below hB15 hcr)⟩ (fun hHeld => ?_)
                clear hK K
                refine norm_ (a' := ?_) ?_ ?_
                rotate_left
                · show Act.put _ (some 154) _ = _
                  simp only [Act.put, List.setIfInBounds_toArray, List.set_cons_zero, List.set_cons_succ, i64_w, i32_w]
                  rfl
                refine pure_ (i := 21) (N := some 160) (v := ?_) (a' := ?_) #[true, true, true, true, true, true, true, true, true, true, true, true, true, true, true, true, true, true, true, true, true, true, false, false, false, false, false, false, false, false, false, false, false] rfl rfl (any_of HT_.out (by kernel_rfl)) (fun _ _ _ h => h) (Or.inl ⟨by rfl, ?_⟩) ?_ ?_
                rotate_left
                · intro w'
                  go_simp
                  with_reducible rfl
                rotate_left
                · simp only [Act.put, List.setIfInBounds_toArray, List.set_cons_zero, List.set_cons_succ, i64_w, i32_w]
                  rfl
                refine pure_ (i := 22) (N := some 161) (v := ?_) (a' := ?_) #[true, true, true, true, true, true, true, true, true, true, true, true, true, true, true, true, true, true, true, true, true, true, true, false, false, false, false, false, false, false, false, false, false] rfl rfl (any_of HT_.out (by kernel_rfl)) (fun _ _ _ h => h) (Or.inl ⟨by rfl, ?_⟩) ?_ ?_
                rotate_left
                · intro w'
                  go_simp
                  with_reducible rfl
                rotate_left
                · simp only [Act.put, List.setIfInBounds_toArray, List.set_cons_zero, List.set_cons_succ, i64_w, i32_w]
                  rfl
                refine pure_ (i := 23) (N := some 162) (v := ?_) (a' := ?_) #[true, true, true, true, true, true, true, true, true, true, true, true, true, true, true, true, true, true, true, true, true, true, true, true, false, false, false, false, false, false, false, false, false] rfl rfl (any_of HT_.out (by kernel_rfl)) (fun _ _ _ h => h) (Or.inl ⟨by rfl, ?_⟩) ?_ ?_
                rotate_left
                · intro w'
                  go_simp
                  with_reducible rfl
                rotate_left
                · simp only [Act.put, List.setIfInBounds_toArray, List.set_cons_zero, List.set_cons_succ, i64_w, i32_w]
                  rfl
                refine pure_ (i := 24) (N := some 163) (v := ?_) (a' := ?_) #[true, true, true, true, true, true, true, true, true, true, true, true, true, true, true, true, true, true, true, true, true, true, true, true, true, false, false, false, false, false, false, false, false] rfl rfl (any_of HT_.out (by kernel_rfl)) (fun _ _ _ h => h) (Or.inl ⟨by rfl, ?_⟩) ?_ ?_
                rotate_left
                · intro w'
                  go_simp
                  with_reducible rfl
                rotate_left
                · simp only [Act.put, List.setIfInBounds_toArray, List.set_cons_zero, List.set_cons_succ, i64_w, i32_w]
                  rfl
                refine pure_ (i := 26) (N := some 165) (v := ?_) (a' := ?_) #[true, true, true, true, true, true, true, true, true, true, true, true, true, true, true, true, true, true, true, true, true, true, true, true, true, false, true, false, false, false, false, false, false] rfl rfl (any_of HT_.out (by kernel_rfl)) (fun _ _ _ h => h) (Or.inl ⟨by rfl, ?_⟩) ?_ ?_
                rotate_left
                · intro w'
                  go_simp
                  with_reducible rfl
                rotate_left
                · simp only [Act.put, List.setIfInBounds_toArray, List.set_cons_zero, List.set_cons_succ, i64_w, i32_w]
                  rfl
                refine pure_ (i := 27) (N := some 166) (v := ?_) (a' := ?_) #[true, true, true, true, true, true, true, true, true, true, true, true, true, true, true, true, true, true, true, true, true, true, true, true, true, false, true, true, false, false, false, false, false] rfl rfl (any_of HT_.out (by kernel_rfl)) (fun _ _ _ h => h) (Or.inl ⟨by rfl, ?_⟩) ?_ ?_
                rotate_left
                · intro w'
                  go_simp
                  with_reducible rfl
                rotate_left
                · simp only [Act.put, List.setIfInBounds_toArray, List.set_cons_zero, List.set_cons_succ, i64_w, i32_w]
                  rfl
                refine pure_ (i := 28) (N := some 167) (v := ?_) (a' := ?_) #[true, true, true, true, true, true, true, true, true, true, true, true, true, true, true, true, true, true, true, true, true, true, true, true, true, false, true, true, true, false, false, false, false] rfl rfl (any_of HT_.out (by kernel_rfl)) (fun _ _ _ h => h) (Or.inl ⟨by rfl, ?_⟩) ?_ ?_
                rotate_left
                · intro w'
                  go_simp
                  with_reducible rfl
                rotate_left
                · simp only [Act.put, List.setIfInBounds_toArray, List.set_cons_zero, List.set_cons_succ, i64_w, i32_w]
                  rfl
                refine take_ (i := 29) (N := some 168) (v := ?_) (a' := ?_) #[true, true, true, true, true, true, true, true, true, true, true, true, true, true, true, true, true, true, true, true, true, true, true, true, true, false, true, true, true, true, false, false, false] rfl rfl (take_ofW HT_.out HW_.out (by kernel_rfl)) (fun _ _ _ h => h) (Or.inl ⟨by rfl, ?_⟩) hHeld ?_ ?_
                rotate_left
                · rintro w' ⟨s0, s1, s2, s3, s4, s5, s6, s7, s8, s9, s10, s11, s12, s13, s14, s15, s16⟩
                  go_simp
                  with_reducible rfl
                rotate_left
                · simp only [Act.put, List.setIfInBounds_toArray, List.set_cons_zero, List.set_cons_succ, i64_w, i32_w]
                  rfl
                refine one_ (i := 25) (N := some 164) #[true, true, true, true, true, true, true, true, true, true, true, true, true, true, true, true, true, true, true, true, true, true, true, true, true, true, true, true, true, true, false, false, false] rfl rfl (one_of HT_.out (by kernel_rfl)) (by decide) (fun K hK => ?_)
                refine goes_ Try.func10 (by kernel_rfl) rfl #[.pointer (some ⟨gb, 0, none⟩)] (by rfl) rfl rfl (by simp only [List.map_toArray, List.map_cons, List.map_nil]; rfl) ?_
                with_reducible refine (ball w.heap.size gb most vb (ks.map (·.e)) _ (HBUF.out.below hB15)).mono ?_
                rintro e w25 ⟨os, Ao, co, rfl, hPo, hPm, hSo, hb25, -⟩
                refine ⟨_, rfl, ?_⟩
                have hB25 : Below wx.heap.size wx w25 := below_step hB15 hb25
                refine hK.out _ _ ⟨(pw_cell_below hB25 a0), (pw_cell_below hB25 a1), (pw_cell_below hB25 a2), (pw_cell_below hB25 a3), (pw_cell_below hB25 a4), (pw_cell_below hB25 a5), (pw_cell_below hB25 a6), (pw_cell_below hB25 a7), (pw_cell_below hB25 b0), (pw_cell_below hB25 b1), (pw_cell_below hB25 b2), (pw_cell_below hB25 b3), (pw_cell_below hB25 b4), (pw_cell_below hB25 b5), (pw_cell_below hB25 b6), (pw_cell_below hB25 b7), (pw_cell_below hB25 hcr)⟩ (fun hHeld => ?_)
                clear hK K
                refine norm_ (a' := ?_) ?_ ?_
                rotate_left
                · show Act.put _ (some 164) _ = _
                  simp only [Act.put, List.setIfInBounds_toArray, List.set_cons_zero, List.set_cons_succ, i64_w, i32_w]
                  rfl
                refine one_ (i := 30) (N := some 169) #[true, true, true, true, true, true, true, true, true, true, true, true, true, true, true, true, true, true, true, true, true, true, true, true, true, true, true, true, true, true, true, false, false] rfl rfl (one_of HT_.out (by kernel_rfl)) (by decide) (fun K hK => ?_)
                refine goes_ Try.func12 (by kernel_rfl) rfl #[.slice Ao os.length co, .slice Ar n cr] (by rfl) rfl rfl (by simp only [List.map_toArray, List.map_cons, List.map_nil]; rfl) ?_
                with_reducible refine (fall_mix _ _ w.heap.size Ao Ar co cr n os ks hPo (HREF.out.row.below hB25) (fun q hq => (HREF.out.rdp hq).below hB25) (srt_eq hSo HGK.out.srt hPm ((hPm.map keyE).nodup_iff.2 HGK.out.nodup)) HNK.out (by have := HGK.out.len; omega) (fun q hq => good_small HGK.out hq)).mono ?_
                rintro e w30 ⟨rfl, hb30⟩
                refine ⟨_, rfl, ?_⟩
                have hB30 : Below wx.heap.size wx w30 := below_step hB25 hb30
                refine hK.out _ _ ⟨(pw_cell_below hB30 a0), (pw_cell_below hB30 a1), (pw_cell_below hB30 a2), (pw_cell_below hB30 a3), (pw_cell_below hB30 a4), (pw_cell_below hB30 a5), (pw_cell_below hB30 a6), (pw_cell_below hB30 a7), (pw_cell_below hB30 b0), (pw_cell_below hB30 b1), (pw_cell_below hB30 b2), (pw_cell_below hB30 b3), (pw_cell_below hB30 b4), (pw_cell_below hB30 b5), (pw_cell_below hB30 b6), (pw_cell_below hB30 b7), (pw_cell_below hB30 hcr)⟩ (fun hHeld => ?_)
                clear hK K
                refine norm_ (a' := ?_) ?_ ?_
                rotate_left
                · show Act.put _ (some 169) _ = _
                  simp only [Act.put, List.setIfInBounds_toArray, List.set_cons_zero, List.set_cons_succ, i64_w, i32_w]
                  rfl
                refine pure_ (i := 31) (N := some 170) (v := ?_) (a' := ?_) #[true, true, true, true, true, true, true, true, true, true, true, true, true, true, true, true, true, true, true, true, true, true, true, true, true, true, true, true, true, true, true, true, false] rfl rfl (any_of HT_.out (by kernel_rfl)) (fun _ _ _ h => h) (Or.inl ⟨by rfl, ?_⟩) ?_ ?_
                rotate_left
                · intro w'
                  go_simp
                  with_reducible rfl
                rotate_left
                · simp only [Act.put, List.setIfInBounds_toArray, List.set_cons_zero, List.set_cons_succ, i64_w, i32_w]
                  rfl
                refine pure_ (i := 32) (N := some 171) (v := ?_) (a' := ?_) #[true, true, true, true, true, true, true, true, true, true, true, true, true, true, true, true, true, true, true, true, true, true, true, true, true, true, true, true, true, true, true, true, true] rfl rfl (any_of HT_.out (by kernel_rfl)) (fun _ _ _ h => h) (Or.inl ⟨by rfl, ?_⟩) ?_ ?_
                rotate_left
                · intro w'
                  go_simp
                  with_reducible rfl
                rotate_left
                · simp only [Act.put, List.setIfInBounds_toArray, List.set_cons_zero, List.set_cons_succ, i64_w, i32_w]
                  rfl
                refine done_ (done_of HT_.out (by kernel_rfl)) ?_
                have HSE : Aside0 (StZ w w30 gb gr most (ks.map (·.e)) ks) := ⟨StZ.below ⟨vb, _, HBUF.out, HREF.out, HDIS.out⟩ hB30⟩
                clear hB10 hB15 hB25 hB30 hb10 hb15 hb25 hb30 hPo hPm hSo hcr a0 a1 a2 a3 a4 a5 a6 a7 b0 b1 b2 b3 b4 b5 b6 b7 hib hnb
                have hk : (-1000000 : Int) ≤ (j : Int) + 1 ∧ (j : Int) + 1 ≤ 1000000 := by have := HL60.out; have := HJL.out; omega
                have hw1 := iw (x := (j : Int) + 1) rfl hk
                have hw2 := w64 (x := (j : Int) + 1) rfl hk
                clear hk
                go_wp2
                clear hw1 hw2
                go_roundg (l.length - (j + 1))
                case measure => rw [HG.out]; have := HJL.out; omega
                case rel => exact ⟨j + 1, ks, rfl, by simp, by have := HJL.out; omega, ⟨HSE.out.below (by with_reducible repeat (first | exact Below.refl _ _ | apply pw_below_drewN | apply below_drew1))⟩, HGK⟩
              · have hb1 : (o.f0 == 1) = false := by simp [hk1]
                by_cases hk2 : o.f0 = 2
                · have hb2 : (o.f0 == 2) = true := by simp [hk2]
                  clear hk2 hk1 hk0
                  go_upto_region 22 with fail
                  go_region_held3 (fun w' => w'.cell? ⟨bx, 1, none⟩ = some (.int .i64 o.f1) ∧ w'.cell? ⟨bx, 2, none⟩ = some (.int .i64 o.f2))
                    (first | exact ⟨z1, z2⟩)
                    (first
                      | (go_at_call 11; refine (st_run_b (w0 := w) (gr := gr) (hs := hs) (bx := bx) (ob := .cells #[.int .i64 o.f0, .int .i64 o.f1, .int .i64 o.f2, .int .i64 p.e.f0, .int .i64 p.e.f1, .int .u64 p.e.f2, .int .i64 p.e.f3.f0, .int .i64 p.e.f3.f1, .int .i64 p.e.f4, .slice p.A p.e.f5.length p.c, .int .u64 p.e.f6] 52 (0, 0)) (L := hs.map (·.e)) o.f1 o.f2 (by exact HS9.out.below (by repeat (first | exact Below.refl _ _ | apply pw_below_drewN | apply below_drew1)))).mono ?_; rintro e wa ⟨os1, M, A1, c1, rfl, hn, ha, hp⟩; clear z0 z1 z2 z3 z4 z5 z6 z7 z8 z9 z10; obtain ⟨z0, z1, z2, z3, z4, z5, z6, z7, z8, z9, z10⟩ := StB.cells ha; have HA := Aside0.mk ha; have HN1 := Aside0.mk hn; have HP1 := Aside0.mk hp; clear ha hn hp)
                      | (go_at_call 20; refine (st_run_r (w0 := w) (gb := gb) (bx := bx) (ob := .cells #[.int .i64 o.f0, .int .i64 o.f1, .int .i64 o.f2, .int .i64 p.e.f0, .int .i64 p.e.f1, .int .u64 p.e.f2, .int .i64 p.e.f3.f0, .int .i64 p.e.f3.f1, .int .i64 p.e.f4, .slice p.A p.e.f5.length p.c, .int .u64 p.e.f6] 52 (0, 0)) (L := M) (hs := hs) o.f1 o.f2 (by exact HA.out.below (by repeat (first | exact Below.refl _ _ | apply pw_below_drewN | apply below_drew1))) HGD.out).mono ?_; rintro e wb ⟨os2, ks, A2, c2, rfl, hn, hg, hb, hr, hrd, hpl⟩; clear z0 z1 z2 z3 z4 z5 z6 z7 z8 z9 z10; obtain ⟨z0, z1, z2, z3, z4, z5, z6, z7, z8, z9, z10⟩ := StB.cells hb; have HNN := Aside0.mk (RnP.same HGD.out.nodup HN1.out hn); have HB := Aside0.mk (hb.perm HNN.out.2).low; have HBX := Aside0.mk hb; have HGK := Aside0.mk hg; have HRR := Aside0.mk hr; have HRD2 := Aside0.mk hrd; have HPP := Aside0.mk (hpl _ _ (by exact HP1.out.below (by repeat (first | exact Below.refl _ _ | apply pw_below_drewN | apply below_drew1)))); clear hb hg hn hr hrd hpl)
                      | (go_at_call 12; refine (fall_mix _ w.heap.size w.heap.size A1 A2 c1 c2 _ os1 os2 (by exact HPP.out.below (by repeat (first | exact Below.refl _ _ | apply pw_below_drewN | apply below_drew1))) (by exact HRR.out.below (by repeat (first | exact Below.refl _ _ | apply pw_below_drewN | apply below_drew1))) (fun q hq => (HRD2.out q hq).2.below (by repeat (first | exact Below.refl _ _ | apply pw_below_drewN | apply below_drew1))) HNN.out.1 rfl ?hl (fun q hq => good_small HGD.out (HRD2.out q hq).1)).mono ?_; (case hl => exact run_len HGD.out HN1.out HNN.out.1); rintro e wc ⟨rfl, hb⟩; clear z0 z1 z2 z3 z4 z5 z6 z7 z8 z9 z10; obtain ⟨z0, z1, z2, z3, z4, z5, z6, z7, z8, z9, z10⟩ := StB.cells ((HBX.out.below (by repeat (first | exact Below.refl _ _ | apply pw_below_drewN | apply below_drew1))).below hb); have HC3 := Aside0.mk ((HB.out.below (by repeat (first | exact Below.refl _ _ | apply pw_below_drewN | apply below_drew1))).below hb); clear hb))
                  all_goals
                    have HSZ := HC3
                    clear HA HB HBX HC3 HS9 HN1 HNN HP1 HPP HRR HRD2 z0 z1 z2 z3 z4 z5 z6 z7 z8 z9 z10
                    go_upto_region 26 with (first
                      | (go_at_call 14; go_must (refine (st_first_b (w0 := w) (by exact HSZ.out.below (by repeat (first | exact Below.refl _ _ | apply pw_below_drewN | apply below_drew1))) HGK.out).mono ?_; rintro e wf ⟨f, rfl, hf, ho, hb⟩; rw [HTA.out]; have HFE := Aside0.mk hf; have HOF := Aside0.mk ho; have HSF := Aside0.mk ((HSZ.out.below (by repeat (first | exact Below.refl _ _ | apply pw_below_drewN | apply below_drew1))).below hb); clear hf ho hb)))
                    refine gen_world (fun W25 hW25 => ?_)
                    have hB25 : Below wf.heap.size wf W25 := by rw [hW25]; with_reducible exact below_alloc (Below.refl _ _) _
                    have hx25 : W25.heap[wf.heap.size]? = some (.cells #[.int .i64 f.e.f0, .int .i64 f.e.f1, .int .u64 f.e.f2, .int .i64 f.e.f3.f0, .int .i64 f.e.f3.f1, .int .i64 f.e.f4, .slice f.A f.e.f5.length f.c, .int .u64 f.e.f6] 33 (0, 0)) := by rw [hW25]; with_reducible exact heap_alloc_new _ _
                    obtain ⟨b15, hb15⟩ : ∃ b, b = wf.heap.size := ⟨_, rfl⟩
                    rw [← hb15] at hx25 ⊢
                    have HX25 := Aside0.mk hx25
                    have HS25 := Aside0.mk (HSF.out.below hB25)
                    have HOF25 : Aside0 (Own W25 w.heap.size f.b f.e.f5) := ⟨HOF.out.below hB25⟩
                    clear hW25 hB25 hx25 hb15 HSF HOF
                    go_upto_region 27 with (first
                      | (go_at_call 23; go_must (refine (st_first_r (w0 := w) (by exact HS25.out) HGK.out).mono ?_; rintro e wf2 ⟨f2, rfl, hf, ho, hb⟩; rw [HTA.out]; have HFE2 := Aside0.mk hf; have HRF0 := Aside0.mk ho; have HSF := Aside0.mk (HS25.out.below hb); have HX26 := Aside0.mk (blk_below HX25.out hb); have HOF26 : Aside0 (Own wf2 w.heap.size f.b f.e.f5) := ⟨HOF25.out.below hb⟩; clear hf ho hb)))
                    refine gen_world (fun wx hwx => ?_)
                    have hB27 : Below wf2.heap.size wf2 wx := by rw [hwx]; with_reducible exact below_alloc (Below.refl _ _) _
                    have hx27 : wx.heap[wf2.heap.size]? = some (.cells #[.int .i64 f2.e.f0, .int .i64 f2.e.f1, .int .u64 f2.e.f2, .int .i64 f2.e.f3.f0, .int .i64 f2.e.f3.f1, .int .i64 f2.e.f4, .slice f2.A f2.e.f5.length f2.c, .int .u64 f2.e.f6] 33 (0, 0)) := by rw [hwx]; with_reducible exact heap_alloc_new _ _
                    obtain ⟨b17, hb17⟩ : ∃ b, b = wf2.heap.size := ⟨_, rfl⟩
                    rw [← hb17] at hx27 ⊢
                    obtain ⟨vb, vr, hBU, hRE, hDI⟩ := HSF.out.below hB27
                    have HBUF := Aside0.mk hBU
                    have HREF := Aside0.mk hRE
                    have HDIS := Aside0.mk hDI
                    obtain ⟨Ar, cr, hvr⟩ := hRE.row.form
                    obtain ⟨n, hn⟩ : ∃ n, n = ks.length := ⟨_, rfl⟩
                    rw [← hn] at hvr
                    subst hvr
                    have HNK := Aside0.mk hn
                    have HNL : Aside0 ((ks.map (·.e)).length = n) := ⟨by rw [List.length_map]; exact hn.symm⟩
                    have hcr := hRE.cell
                    obtain ⟨a0, a1, a2, a3, a4, a5, a6, a7, -⟩ := cells8z (blk_below HX26.out hB27)
                    obtain ⟨b0, b1, b2, b3, b4, b5, b6, b7, -⟩ := cells8z hx27
                    have HRF : Aside0 (Rd wx f.b f.e.f5) := ⟨Own.rd (HOF26.out.below hB27)⟩
                    have HRF2 : Aside0 (Rd wx f2.b f2.e.f5) := ⟨HRF0.out.below hRE.bel⟩
                    have HFL : Aside0 (f.e.f5.length ≤ 1100) := ⟨by rw [HFE.out]; exact head_small HGK.out⟩
                    have HFE : Aside0 (f.e = f2.e) := ⟨HFE.out.trans HFE2.out.symm⟩
                    obtain ⟨is, his⟩ : ∃ is, (!ks.isEmpty) = is := ⟨_, rfl⟩
                    rw [his]
                    have hib : (is != is) = false := by simp
                    have hnb : ((n : Int) != (n : Int)) = false := by simp
                    clear hwx hB27 hx27 hb17 hBU hRE hDI hn his
                    refine start_ (n := 33) (S := fun w' => w'.cell? ⟨b15, 0, none⟩ = some (.int .i64 f.e.f0) ∧ w'.cell? ⟨b15, 1, none⟩ = some (.int .i64 f.e.f1) ∧ w'.cell? ⟨b15, 2, none⟩ = some (.int .u64 f.e.f2) ∧ w'.cell? ⟨b15, 3, none⟩ = some (.int .i64 f.e.f3.f0) ∧ w'.cell? ⟨b15, 4, none⟩ = some (.int .i64 f.e.f3.f1) ∧ w'.cell? ⟨b15, 5, none⟩ = some (.int .i64 f.e.f4) ∧ w'.cell? ⟨b15, 6, none⟩ = some (.slice f.A f.e.f5.length f.c) ∧ w'.cell? ⟨b15, 7, none⟩ = some (.int .u64 f.e.f6) ∧ w'.cell? ⟨b17, 0, none⟩ = some (.int .i64 f2.e.f0) ∧ w'.cell? ⟨b17, 1, none⟩ = some (.int .i64 f2.e.f1) ∧ w'.cell? ⟨b17, 2, none⟩ = some (.int .u64 f2.e.f2) ∧ w'.cell? ⟨b17, 3, none⟩ = some (.int .i64 f2.e.f3.f0) ∧ w'.cell? ⟨b17, 4, none⟩ = some (.int .i64 f2.e.f3.f1) ∧ w'.cell? ⟨b17, 5, none⟩ = some (.int .i64 f2.e.f4) ∧ w'.cell? ⟨b17, 6, none⟩ = some (.slice f2.A f2.e.f5.length f2.c) ∧ w'.cell? ⟨b17, 7, none⟩ = some (.int .u64 f2.e.f6) ∧ w'.cell? ⟨gr, 1, none⟩ = some (.slice Ar n cr)) (ds := []) #[false, false, false, false, false, false, false, false, false, false, false, false, false, false, false, false, false, false, false, false, false, false, false, false, false, false, false, false, false, false, false, false, false] (by kernel_rfl) rfl rfl ⟨a0, a1, a2, a3, a4, a5, a6, a7, b0, b1, b2, b3, b4, b5, b6, b7, hcr⟩ (fun hHeld => ?_)
                    refine with_tabW plays_walk.tab27 plays_walk.bits27 (fun HT_ HW_ => ?_)
                    refine pure_ (i := 0) (N := some 139) (v := ?_) (a' := ?_) #[true, false, false, false, false, false, false, false, false, false, false, false, false, false, false, false, false, false, false, false, false, false, false, false, false, false, false, false, false, false, false, false, false] rfl rfl (any_of HT_.out (by kernel_rfl)) (fun _ _ _ h => h) (Or.inl ⟨by rfl, ?_⟩) ?_ ?_
                    rotate_left
                    · intro w'
                      go_simp
                      with_reducible rfl
                    rotate_left
                    · simp only [Act.put, List.setIfInBounds_toArray, List.set_cons_zero, List.set_cons_succ, i64_w, i32_w]
                      rfl
                    refine pure_ (i := 1) (N := some 140) (v := ?_) (a' := ?_) #[true, true, false, false, false, false, false, false, false, false, false, false, false, false, false, false, false, false, false, false, false, false, false, false, false, false, false, false, false, false, false, false, false] rfl rfl (any_of HT_.out (by kernel_rfl)) (fun _ _ _ h => h) (Or.inl ⟨by rfl, ?_⟩) ?_ ?_
                    rotate_left
                    · intro w'
                      go_simp
                      with_reducible rfl
                    rotate_left
                    · simp only [Act.put, List.setIfInBounds_toArray, List.set_cons_zero, List.set_cons_succ, i64_w, i32_w]
                      rfl
                    refine pure_ (i := 2) (N := some 141) (v := ?_) (a' := ?_) #[true, true, true, false, false, false, false, false, false, false, false, false, false, false, false, false, false, false, false, false, false, false, false, false, false, false, false, false, false, false, false, false, false] rfl rfl (any_of HT_.out (by kernel_rfl)) (fun _ _ _ h => h) (Or.inl ⟨by rfl, ?_⟩) ?_ ?_
                    rotate_left
                    · intro w'
                      go_simp
                      with_reducible rfl
                    rotate_left
                    · simp only [Act.put, List.setIfInBounds_toArray, List.set_cons_zero, List.set_cons_succ, i64_w, i32_w]
                      rfl
                    refine pure_ (i := 3) (N := some 142) (v := ?_) (a' := ?_) #[true, true, true, true, false, false, false, false, false, false, false, false, false, false, false, false, false, false, false, false, false, false, false, false, false, false, false, false, false, false, false, false, false] rfl rfl (any_of HT_.out (by kernel_rfl)) (fun _ _ _ h => h) (Or.inl ⟨by rfl, ?_⟩) ?_ ?_
                    rotate_left
                    · intro w'
                      go_simp
                      with_reducible rfl
                    rotate_left
                    · simp only [Act.put, List.setIfInBounds_toArray, List.set_cons_zero, List.set_cons_succ, i64_w, i32_w]
                      rfl
                    refine pure_ (i := 4) (N := some 143) (v := ?_) (a' := ?_) #[true, true, true, true, true, false, false, false, false, false, false, false, false, false, false, false, false, false, false, false, false, false, false, false, false, false, false, false, false, false, false, false, false] rfl rfl (any_of HT_.out (by kernel_rfl)) (fun _ _ _ h => h) (Or.inl ⟨by rfl, ?_⟩) ?_ ?_
                    rotate_left
                    · intro w'
                      go_simp
                      with_reducible rfl
                    rotate_left
                    · simp only [Act.put, List.setIfInBounds_toArray, List.set_cons_zero, List.set_cons_succ, i64_w, i32_w]
                      rfl
                    refine pure_ (i := 5) (N := some 144) (v := ?_) (a' := ?_) #[true, true, true, true, true, true, false, false, false, false, false, false, false, false, false, false, false, false, false, false, false, false, false, false, false, false, false, false, false, false, false, false, false] rfl rfl (any_of HT_.out (by kernel_rfl)) (fun _ _ _ h => h) (Or.inl ⟨by rfl, ?_⟩) ?_ ?_
                    rotate_left
                    · intro w'
                      go_simp
                      with_reducible rfl
                    rotate_left
                    · simp only [Act.put, List.setIfInBounds_toArray, List.set_cons_zero, List.set_cons_succ, i64_w, i32_w]
                      rfl
                    refine pure_ (i := 6) (N := some 145) (v := ?_) (a' := ?_) #[true, true, true, true, true, true, true, false, false, false, false, false, false, false, false, false, false, false, false, false, false, false, false, false, false, false, false, false, false, false, false, false, false] rfl rfl (any_of HT_.out (by kernel_rfl)) (fun _ _ _ h => h) (Or.inl ⟨by rfl, ?_⟩) ?_ ?_
                    rotate_left
                    · intro w'
                      go_simp
                      with_reducible rfl
                    rotate_left
                    · simp only [Act.put, List.setIfInBounds_toArray, List.set_cons_zero, List.set_cons_succ, i64_w, i32_w]
                      rfl
                    refine pure_ (i := 7) (N := some 146) (v := ?_) (a' := ?_) #[true, true, true, true, true, true, true, true, false, false, false, false, false, false, false, false, false, false, false, false, false, false, false, false, false, false, false, false, false, false, false, false, false] rfl rfl (any_of HT_.out (by kernel_rfl)) (fun _ _ _ h => h) (Or.inl ⟨by rfl, ?_⟩) ?_ ?_
                    rotate_left
                    · intro w'
                      go_simp
                      with_reducible rfl
                    rotate_left
                    · simp only [Act.put, List.setIfInBounds_toArray, List.set_cons_zero, List.set_cons_succ, i64_w, i32_w]
                      rfl
                    refine take_ (i := 8) (N := some 147) (v := ?_) (a' := ?_) #[true, true, true, true, true, true, true, true, true, false, false, false, false, false, false, false, false, false, false, false, false, false, false, false, false, false, false, false, false, false, false, false, false] rfl rfl (take_ofW HT_.out HW_.out (by kernel_rfl)) (fun _ _ _ h => h) (Or.inl ⟨by rfl, ?_⟩) hHeld ?_ ?_
                    rotate_left
                    · rintro w' ⟨s0, s1, s2, s3, s4, s5, s6, s7, s8, s9, s10, s11, s12, s13, s14, s15, s16⟩
                      go_simp
                      with_reducible rfl
                    rotate_left
                    · simp only [Act.put, List.setIfInBounds_toArray, List.set_cons_zero, List.set_cons_succ, i64_w, i32_w]
                      rfl
                    refine take_ (i := 9) (N := some 148) (v := ?_) (a' := ?_) #[true, true, true, true, true, true, true, true, true, true, false, false, false, false, false, false, false, false, false, false, false, false, false, false, false, false, false, false, false, false, false, false, false] rfl rfl (take_ofW HT_.out HW_.out (by kernel_rfl)) (fun _ _ _ h => h) (Or.inl ⟨by rfl, ?_⟩) hHeld ?_ ?_
                    rotate_left
                    · rintro w' ⟨s0, s1, s2, s3, s4, s5, s6, s7, s8, s9, s10, s11, s12, s13, s14, s15, s16⟩
                      go_simp
                      with_reducible rfl
                    rotate_left
                    · simp only [Act.put, List.setIfInBounds_toArray, List.set_cons_zero, List.set_cons_succ, i64_w, i32_w]
                      rfl
                    refine one_ (i := 10) (N := some 149) #[true, true, true, true, true, true, true, true, true, true, true, false, false, false, false, false, false, false, false, false, false, false, false, false, false, false, false, false, false, false, false, false, false] rfl rfl (one_of HT_.out (by kernel_rfl)) (by decide) (fun K hK => ?_)
                    refine goes_ Try.func16 (by kernel_rfl) rfl #[.agg #[.int .i64 f.e.f0, .int .i64 f.e.f1, .int .u64 f.e.f2, .int .i64 f.e.f3.f0, .int .i64 f.e.f3.f1, .int .i64 f.e.f4, .slice f.A f.e.f5.length f.c, .int .u64 f.e.f6], .agg #[.int .i64 f2.e.f0, .int .i64 f2.e.f1, .int .u64 f2.e.f2, .int .i64 f2.e.f3.f0, .int .i64 f2.e.f3.f1, .int .i64 f2.e.f4, .slice f2.A f2.e.f5.length f2.c, .int .u64 f2.e.f6]] (by rfl) rfl rfl (by simp only [List.map_toArray, List.map_cons, List.map_nil]; rfl) ?_
                    with_reducible refine (fsame_calls f f2 _ HFE.out (HRF.out.below (below_drew1 (Below.refl _ _))) (HRF2.out.below (below_drew1 (Below.refl _ _))) HFL.out).mono ?_
                    rintro e w10 ⟨rfl, hb10⟩
                    refine ⟨_, rfl, ?_⟩
                    have hB10 : Below wx.heap.size wx w10 := below_step (below_drew1 (Below.refl _ _)) hb10
                    refine hK.out _ _ ⟨(pw_cell_below hB10 a0), (pw_cell_below hB10 a1), (pw_cell_below hB10 a2), (pw_cell_below hB10 a3), (pw_cell_below hB10 a4), (pw_cell_below hB10 a5), (pw_cell_below hB10 a6), (pw_cell_below hB10 a7), (pw_cell_below hB10 b0), (pw_cell_below hB10 b1), (pw_cell_below hB10 b2), (pw_cell_below hB10 b3), (pw_cell_below hB10 b4), (pw_cell_below hB10 b5), (pw_cell_below hB10 b6), (pw_cell_below hB10 b7), (pw_cell_below hB10 hcr)⟩ (fun hHeld => ?_)
                    clear hK K
                    refine norm_ (a' := ?_) ?_ ?_
                    rotate_left
                    · show Act.put _ (some 149) _ = _
                      simp only [Act.put, List.setIfInBounds_toArray, List.set_cons_zero, List.set_cons_succ, i64_w, i32_w]
                      rfl
                    refine pure_ (i := 11) (N := some 150) (v := ?_) (a' := ?_) #[true, true, true, true, true, true, true, true, true, true, true, true, false, false, false, false, false, false, false, false, false, false, false, false, false, false, false, false, false, false, false, false, false] rfl rfl (any_of HT_.out (by kernel_rfl)) (fun _ _ _ h => h) (Or.inl ⟨by rfl, ?_⟩) ?_ ?_
                    rotate_left
                    · intro w'
                      go_simp
                      with_reducible rfl
                    rotate_left
                    · simp only [Act.put, List.setIfInBounds_toArray, List.set_cons_zero, List.set_cons_succ, i64_w, i32_w]
                      rfl
                    refine pure_ (i := 12) (N := some 151) (v := ?_) (a' := ?_) #[true, true, true, true, true, true, true, true, true, true, true, true, true, false, false, false, false, false, false, false, false, false, false, false, false, false, false, false, false, false, false, false, false] rfl rfl (any_of HT_.out (by kernel_rfl)) (fun _ _ _ h => h) (Or.inl ⟨by rfl, ?_⟩) ?_ ?_
                    rotate_left
                    · intro w'
                      go_simp
                      with_reducible rfl
                    rotate_left
                    · simp only [Act.put, List.setIfInBounds_toArray, List.set_cons_zero, List.set_cons_succ, i64_w, i32_w]
                      rfl
                    refine pure_ (i := 13) (N := some 152) (v := ?_) (a' := ?_) #[true, true, true, true, true, true, true, true, true, true, true, true, true, true, false, false, false, false, false, false, false, false, false, false, false, false, false, false, false, false, false, false, false] rfl rfl (any_of HT_.out (by kernel_rfl)) (fun _ _ _ h => h) (Or.inl ⟨by rfl, ?_⟩) ?_ ?_
                    rotate_left
                    · intro w'
                      go_simp
                      with_reducible rfl
                    rotate_left
                    · simp only [Act.put, List.setIfInBounds_toArray, List.set_cons_zero, List.set_cons_succ, i64_w, i32_w]
                      rfl
                    refine pure_ (i := 14) (N := some 153) (v := ?_) (a' := ?_) #[true, true, true, true, true, true, true, true, true, true, true, true, true, true, true, false, false, false, false, false, false, false, false, false, false, false, false, false, false, false, false, false, false] rfl rfl (any_of HT_.out (by kernel_rfl)) (fun _ _ _ h => h) (Or.inl ⟨by rfl, ?_⟩) ?_ ?_
                    rotate_left
                    · intro w'
                      go_simp
                      with_reducible rfl
                    rotate_left
                    · simp only [Act.put, List.setIfInBounds_toArray, List.set_cons_zero, List.set_cons_succ, i64_w, i32_w]
                      rfl
                    refine pure_ (i := 16) (N := some 155) (v := ?_) (a' := ?_) #[true, true, true, true, true, true, true, true, true, true, true, true, true, true, true, false, true, false, false, false, false, false, false, false, false, false, false, false, false, false, false, false, false] rfl rfl (any_of HT_.out (by kernel_rfl)) (fun _ _ _ h => h) (Or.inl ⟨by rfl, ?_⟩) ?_ ?_
                    rotate_left
                    · intro w'
                      go_simp
                      with_reducible rfl
                    rotate_left
                    · simp only [Act.put, List.setIfInBounds_toArray, List.set_cons_zero, List.set_cons_succ, i64_w, i32_w]
                      rfl
                    refine pure_ (i := 17) (N := some 156) (v := ?_) (a' := ?_) #[true, true, true, true, true, true, true, true, true, true, true, true, true, true, true, false, true, true, false, false, false, false, false, false, false, false, false, false, false, false, false, false, false] rfl rfl (any_of HT_.out (by kernel_rfl)) (fun _ _ _ h => h) (Or.inl ⟨by rfl, ?_⟩) ?_ ?_
                    rotate_left
                    · intro w'
                      go_simp
                      with_reducible rfl
                    rotate_left
                    · simp only [Act.put, List.setIfInBounds_toArray, List.set_cons_zero, List.set_cons_succ, i64_w, i32_w]
                      rfl
                    refine pure_ (i := 18) (N := some 157) (v := ?_) (a' := ?_) #[true, true, true, true, true, true, true, true, true, true, true, true, true, true, true, false, true, true, true, false, false, false, false, false, false, false, false, false, false, false, false, false, false] rfl rfl (any_of HT_.out (by kernel_rfl)) (fun _ _ _ h => h) (Or.inl ⟨by rfl, ?_⟩) ?_ ?_
                    rotate_left
                    · intro w'
                      go_simp
                      with_reducible rfl
                    rotate_left
                    · simp only [Act.put, List.setIfInBounds_toArray, List.set_cons_zero, List.set_cons_succ, i64_w, i32_w]
                      rfl
                    refine take_ (i := 19) (N := some 158) (v := ?_) (a' := ?_) #[true, true, true, true, true, true, true, true, true, true, true, true, true, true, true, false, true, true, true, true, false, false, false, false, false, false, false, false, false, false, false, false, false] rfl rfl (take_ofW HT_.out HW_.out (by kernel_rfl)) (fun _ _ _ h => h) (Or.inl ⟨by rfl, ?_⟩) hHeld ?_ ?_
                    rotate_left
                    · rintro w' ⟨s0, s1, s2, s3, s4, s5, s6, s7, s8, s9, s10, s11, s12, s13, s14, s15, s16⟩
                      go_simp
                      with_reducible rfl
                    rotate_left
                    · simp only [Act.put, List.setIfInBounds_toArray, List.set_cons_zero, List.set_cons_succ, i64_w, i32_w]
                      rfl
                    refine pure_ (i := 20) (N := some 159) (v := ?_) (a' := ?_) #[true, true, true, true, true, true, true, true, true, true, true, true, true, true, true, false, true, true, true, true, true, false, false, false, false, false, false, false, false, false, false, false, false] rfl rfl (any_of HT_.out (by kernel_rfl)) (fun _ _ _ h => h) (Or.inl ⟨by rfl, ?_⟩) ?_ ?_
                    rotate_left
                    · intro w'
                      go_simp
                      with_reducible rfl
                    rotate_left
                    · simp only [Act.put, List.setIfInBounds_toArray, List.set_cons_zero, List.set_cons_succ, i64_w, i32_w]
                      rfl
                    refine one_ (i := 15) (N := some 154) #[true, true, true, true, true, true, true, true, true, true, true, true, true, true, true, true, true, true, true, true, true, false, false, false, false, false, false, false, false, false, false, false, false] rfl rfl (one_of HT_.out (by kernel_rfl)) (by decide) (fun K hK => ?_)
                    refine goes_ Try.func13 (by kernel_rfl) rfl #[.pointer (some ⟨gb, 0, none⟩)] (by rfl) rfl rfl (by simp only [List.map_toArray, List.map_cons, List.map_nil]; rfl) ?_
                    with_reducible refine (blen_n w.heap.size gb n most vb (ks.map (·.e)) _ (HBUF.out.below hB10) HNL.out).mono ?_
                    rintro e w15 ⟨rfl, hb15⟩
                    refine ⟨_, rfl, ?_⟩
                    have hB15 : Below wx.heap.size wx w15 := below_step hB10 hb15
                    refine hK.out _ _ ⟨(pw_cell_below hB15 a0), (pw_cell_below hB15 a1), (pw_cell_below hB15 a2), (pw_cell_below hB15 a3), (pw_cell_below hB15 a4), (pw_cell_below hB15 a5), (pw_cell_below hB15 a6), (pw_cell_below hB15 a7), (pw_cell_below hB15 b0), (pw_cell_below hB15 b1), (pw_cell_below hB15 b2), (pw_cell_below hB15 b3), (pw_cell_below hB15 b4), (pw_cell_below hB15 b5), (pw_cell_below hB15 b6), (pw_cell_below hB15 b7), (pw_cell_below hB15 hcr)⟩ (fun hHeld => ?_)
                    clear hK K
                    refine norm_ (a' := ?_) ?_ ?_
                    rotate_left
                    · show Act.put _ (some 154) _ = _
                      simp only [Act.put, List.setIfInBounds_toArray, List.set_cons_zero, List.set_cons_succ, i64_w, i32_w]
                      rfl
                    refine pure_ (i := 21) (N := some 160) (v := ?_) (a' := ?_) #[true, true, true, true, true, true, true, true, true, true, true, true, true, true, true, true, true, true, true, true, true, true, false, false, false, false, false, false, false, false, false, false, false] rfl rfl (any_of HT_.out (by kernel_rfl)) (fun _ _ _ h => h) (Or.inl ⟨by rfl, ?_⟩) ?_ ?_
                    rotate_left
                    · intro w'
                      go_simp
                      with_reducible rfl
                    rotate_left
                    · simp only [Act.put, List.setIfInBounds_toArray, List.set_cons_zero, List.set_cons_succ, i64_w, i32_w]
                      rfl
                    refine pure_ (i := 22) (N := some 161) (v := ?_) (a' := ?_) #[true, true, true, true, true, true, true, true, true, true, true, true, true, true, true, true, true, true, true, true, true, true, true, false, false, false, false, false, false, false, false, false, false] rfl rfl (any_of HT_.out (by kernel_rfl)) (fun _ _ _ h => h) (Or.inl ⟨by rfl, ?_⟩) ?_ ?_
                    rotate_left
                    · intro w'
                      go_simp
                      with_reducible rfl
                    rotate_left
                    · simp only [Act.put, List.setIfInBounds_toArray, List.set_cons_zero, List.set_cons_succ, i64_w, i32_w]
                      rfl
                    refine pure_ (i := 23) (N := some 162) (v := ?_) (a' := ?_) #[true, true, true, true, true, true, true, true, true, true, true, true, true, true, true, true, true, true, true, true, true, true, true, true, false, false, false, false, false, false, false, false, false] rfl rfl (any_of HT_.out (by kernel_rfl)) (fun _ _ _ h => h) (Or.inl ⟨by rfl, ?_⟩) ?_ ?_
                    rotate_left
                    · intro w'
                      go_simp
                      with_reducible rfl
                    rotate_left
                    · simp only [Act.put, List.setIfInBounds_toArray, List.set_cons_zero, List.set_cons_succ, i64_w, i32_w]
                      rfl
                    refine pure_ (i := 24) (N := some 163) (v := ?_) (a' := ?_) #[true, true, true, true, true, true, true, true, true, true, true, true, true, true, true, true, true, true, true, true, true, true, true, true, true, false, false, false, false, false, false, false, false] rfl rfl (any_of HT_.out (by kernel_rfl)) (fun _ _ _ h => h) (Or.inl ⟨by rfl, ?_⟩) ?_ ?_
                    rotate_left
                    · intro w'
                      go_simp
                      with_reducible rfl
                    rotate_left
                    · simp only [Act.put, List.setIfInBounds_toArray, List.set_cons_zero, List.set_cons_succ, i64_w, i32_w]
                      rfl
                    refine pure_ (i := 26) (N := some 165) (v := ?_) (a' := ?_) #[true, true, true, true, true, true, true, true, true, true, true, true, true, true, true, true, true, true, true, true, true, true, true, true, true, false, true, false, false, false, false, false, false] rfl rfl (any_of HT_.out (by kernel_rfl)) (fun _ _ _ h => h) (Or.inl ⟨by rfl, ?_⟩) ?_ ?_
                    rotate_left
                    · intro w'
                      go_simp
                      with_reducible rfl
                    rotate_left
                    · simp only [Act.put, List.setIfInBounds_toArray, List.set_cons_zero, List.set_cons_succ, i64_w, i32_w]
                      rfl
                    refine pure_ (i := 27) (N := some 166) (v := ?_) (a' := ?_) #[true, true, true, true, true, true, true, true, true, true, true, true, true, true, true, true, true, true, true, true, true, true, true, true, true, false, true, true, false, false, false, false, false] rfl rfl (any_of HT_.out (by kernel_rfl)) (fun _ _ _ h => h) (Or.inl ⟨by rfl, ?_⟩) ?_ ?_
                    rotate_left
                    · intro w'
                      go_simp
                      with_reducible rfl
                    rotate_left
                    · simp only [Act.put, List.setIfInBounds_toArray, List.set_cons_zero, List.set_cons_succ, i64_w, i32_w]
                      rfl
                    refine pure_ (i := 28) (N := some 167) (v := ?_) (a' := ?_) #[true, true, true, true, true, true, true, true, true, true, true, true, true, true, true, true, true, true, true, true, true, true, true, true, true, false, true, true, true, false, false, false, false] rfl rfl (any_of HT_.out (by kernel_rfl)) (fun _ _ _ h => h) (Or.inl ⟨by rfl, ?_⟩) ?_ ?_
                    rotate_left
                    · intro w'
                      go_simp
                      with_reducible rfl
                    rotate_left
                    · simp only [Act.put, List.setIfInBounds_toArray, List.set_cons_zero, List.set_cons_succ, i64_w, i32_w]
                      rfl
                    refine take_ (i := 29) (N := some 168) (v := ?_) (a' := ?_) #[true, true, true, true, true, true, true, true, true, true, true, true, true, true, true, true, true, true, true, true, true, true, true, true, true, false, true, true, true, true, false, false, false] rfl rfl (take_ofW HT_.out HW_.out (by kernel_rfl)) (fun _ _ _ h => h) (Or.inl ⟨by rfl, ?_⟩) hHeld ?_ ?_
                    rotate_left
                    · rintro w' ⟨s0, s1, s2, s3, s4, s5, s6, s7, s8, s9, s10, s11, s12, s13, s14, s15, s16⟩
                      go_simp
                      with_reducible rfl
                    rotate_left
                    · simp only [Act.put, List.setIfInBounds_toArray, List.set_cons_zero, List.set_cons_succ, i64_w, i32_w]
                      rfl
                    refine one_ (i := 25) (N := some 164) #[true, true, true, true, true, true, true, true, true, true, true, true, true, true, true, true, true, true, true, true, true, true, true, true, true, true, true, true, true, true, false, false, false] rfl rfl (one_of HT_.out (by kernel_rfl)) (by decide) (fun K hK => ?_)
                    refine goes_ Try.func10 (by kernel_rfl) rfl #[.pointer (some ⟨gb, 0, none⟩)] (by rfl) rfl rfl (by simp only [List.map_toArray, List.map_cons, List.map_nil]; rfl) ?_
                    with_reducible refine (ball w.heap.size gb most vb (ks.map (·.e)) _ (HBUF.out.below hB15)).mono ?_
                    rintro e w25 ⟨os, Ao, co, rfl, hPo, hPm, hSo, hb25, -⟩
                    refine ⟨_, rfl, ?_⟩
                    have hB25 : Below wx.heap.size wx w25 := below_step hB15 hb25
                    refine hK.out _ _ ⟨(pw_cell_below hB25 a0), (pw_cell_below hB25 a1), (pw_cell_below hB25 a2), (pw_cell_below hB25 a3), (pw_cell_below hB25 a4), (pw_cell_below hB25 a5), (pw_cell_below hB25 a6), (pw_cell_below hB25 a7), (pw_cell_below hB25 b0), (pw_cell_below hB25 b1), (pw_cell_below hB25 b2), (pw_cell_below hB25 b3), (pw_cell_below hB25 b4), (pw_cell_below hB25 b5), (pw_cell_below hB25 b6), (pw_cell_below hB25 b7), (pw_cell_below hB25 hcr)⟩ (fun hHeld => ?_)
                    clear hK K
                    refine norm_ (a' := ?_) ?_ ?_
                    rotate_left
                    · show Act.put _ (some 164) _ = _
                      simp only [Act.put, List.setIfInBounds_toArray, List.set_cons_zero, List.set_cons_succ, i64_w, i32_w]
                      rfl
                    refine one_ (i := 30) (N := some 169) #[true, true, true, true, true, true, true, true, true, true, true, true, true, true, true, true, true, true, true, true, true, true, true, true, true, true, true, true, true, true, true, false, false] rfl rfl (one_of HT_.out (by kernel_rfl)) (by decide) (fun K hK => ?_)
                    refine goes_ Try.func12 (by kernel_rfl) rfl #[.slice Ao os.length co, .slice Ar n cr] (by rfl) rfl rfl (by simp only [List.map_toArray, List.map_cons, List.map_nil]; rfl) ?_
                    with_reducible refine (fall_mix _ _ w.heap.size Ao Ar co cr n os ks hPo (HREF.out.row.below hB25) (fun q hq => (HREF.out.rdp hq).below hB25) (srt_eq hSo HGK.out.srt hPm ((hPm.map keyE).nodup_iff.2 HGK.out.nodup)) HNK.out (by have := HGK.out.len; omega) (fun q hq => good_small HGK.out hq)).mono ?_
                    rintro e w30 ⟨rfl, hb30⟩
                    refine ⟨_, rfl, ?_⟩
                    have hB30 : Below wx.heap.size wx w30 := below_step hB25 hb30
                    refine hK.out _ _ ⟨(pw_cell_below hB30 a0), (pw_cell_below hB30 a1), (pw_cell_below hB30 a2), (pw_cell_below hB30 a3), (pw_cell_below hB30 a4), (pw_cell_below hB30 a5), (pw_cell_below hB30 a6), (pw_cell_below hB30 a7), (pw_cell_below hB30 b0), (pw_cell_below hB30 b1), (pw_cell_below hB30 b2), (pw_cell_below hB30 b3), (pw_cell_below hB30 b4), (pw_cell_below hB30 b5), (pw_cell_below hB30 b6), (pw_cell_below hB30 b7), (pw_cell_below hB30 hcr)⟩ (fun hHeld => ?_)
                    clear hK K
                    refine norm_ (a' := ?_) ?_ ?_
                    rotate_left
                    · show Act.put _ (some 169) _ = _
                      simp only [Act.put, List.setIfInBounds_toArray, List.set_cons_zero, List.set_cons_succ, i64_w, i32_w]
                      rfl
                    refine pure_ (i := 31) (N := some 170) (v := ?_) (a' := ?_) #[true, true, true, true, true, true, true, true, true, true, true, true, true, true, true, true, true, true, true, true, true, true, true, true, true, true, true, true, true, true, true, true, false] rfl rfl (any_of HT_.out (by kernel_rfl)) (fun _ _ _ h => h) (Or.inl ⟨by rfl, ?_⟩) ?_ ?_
                    rotate_left
                    · intro w'
                      go_simp
                      with_reducible rfl
                    rotate_left
                    · simp only [Act.put, List.setIfInBounds_toArray, List.set_cons_zero, List.set_cons_succ, i64_w, i32_w]
                      rfl
                    refine pure_ (i := 32) (N := some 171) (v := ?_) (a' := ?_) #[true, true, true, true, true, true, true, true, true, true, true, true, true, true, true, true, true, true, true, true, true, true, true, true, true, true, true, true, true, true, true, true, true] rfl rfl (any_of HT_.out (by kernel_rfl)) (fun _ _ _ h => h) (Or.inl ⟨by rfl, ?_⟩) ?_ ?_
                    rotate_left
                    · intro w'
                      go_simp
                      with_reducible rfl
                    rotate_left
                    · simp only [Act.put, List.setIfInBounds_toArray, List.set_cons_zero, List.set_cons_succ, i64_w, i32_w]
                      rfl
                    refine done_ (done_of HT_.out (by kernel_rfl)) ?_
                    have HSE : Aside0 (StZ w w30 gb gr most (ks.map (·.e)) ks) := ⟨StZ.below ⟨vb, _, HBUF.out, HREF.out, HDIS.out⟩ hB30⟩
                    clear hB10 hB15 hB25 hB30 hb10 hb15 hb25 hb30 hPo hPm hSo hcr a0 a1 a2 a3 a4 a5 a6 a7 b0 b1 b2 b3 b4 b5 b6 b7 hib hnb
                    have hk : (-1000000 : Int) ≤ (j : Int) + 1 ∧ (j : Int) + 1 ≤ 1000000 := by have := HL60.out; have := HJL.out; omega
                    have hw1 := iw (x := (j : Int) + 1) rfl hk
                    have hw2 := w64 (x := (j : Int) + 1) rfl hk
                    clear hk
                    go_wp2
                    clear hw1 hw2
                    go_roundg (l.length - (j + 1))
                    case measure => rw [HG.out]; have := HJL.out; omega
                    case rel => exact ⟨j + 1, ks, rfl, by simp, by have := HJL.out; omega, ⟨HSE.out.below (by with_reducible repeat (first | exact Below.refl _ _ | apply pw_below_drewN | apply below_drew1))⟩, HGK⟩
                · have hb2 : (o.f0 == 2) = false := by simp [hk2]
                  by_cases hk3 : o.f0 = 3
                  · have hb3 : (o.f0 == 3) = true := by simp [hk3]
                    clear hk3 hk2 hk1 hk0
                    obtain ⟨kk, hkk⟩ : ∃ kk, ((hs.map (·.e)).length : Int) - ((hs.map (·.e)).filter (fun e => !(delE o.f1 o.f2 e))).length = kk := ⟨_, rfl⟩
                    have HKK := Aside0.mk hkk
                    have hkb : (kk == kk) = true := by simp
                    clear hkk
                    go_upto_region 24 with fail
                    go_region_held3 (fun w' => w'.cell? ⟨bx, 1, none⟩ = some (.int .i64 o.f1) ∧ w'.cell? ⟨bx, 2, none⟩ = some (.int .i64 o.f2))
                      (first | exact ⟨z1, z2⟩)
                      (first
                        | (go_at_call 21; refine (st_drop_b (w0 := w) (gr := gr) (hs := hs) (bx := bx) (ob := .cells #[.int .i64 o.f0, .int .i64 o.f1, .int .i64 o.f2, .int .i64 p.e.f0, .int .i64 p.e.f1, .int .u64 p.e.f2, .int .i64 p.e.f3.f0, .int .i64 p.e.f3.f1, .int .i64 p.e.f4, .slice p.A p.e.f5.length p.c, .int .u64 p.e.f6] 52 (0, 0)) (L := hs.map (·.e)) o.f1 o.f2 (by exact HS9.out.below (by repeat (first | exact Below.refl _ _ | apply pw_below_drewN | apply below_drew1)))).mono ?_; rw [HKK.out]; rintro e wa ⟨rfl, ha⟩; clear z0 z1 z2 z3 z4 z5 z6 z7 z8 z9 z10; obtain ⟨z0, z1, z2, z3, z4, z5, z6, z7, z8, z9, z10⟩ := StB.cells ha; have HA := Aside0.mk ha; clear ha)
                        | (go_at_call 22; refine (st_drop_r (w0 := w) (gb := gb) (bx := bx) (ob := .cells #[.int .i64 o.f0, .int .i64 o.f1, .int .i64 o.f2, .int .i64 p.e.f0, .int .i64 p.e.f1, .int .u64 p.e.f2, .int .i64 p.e.f3.f0, .int .i64 p.e.f3.f1, .int .i64 p.e.f4, .slice p.A p.e.f5.length p.c, .int .u64 p.e.f6] 52 (0, 0)) (L := (hs.map (·.e)).filter (fun e => !(delE o.f1 o.f2 e))) (hs := hs) o.f1 o.f2 (by exact HA.out.below (by repeat (first | exact Below.refl _ _ | apply pw_below_drewN | apply below_drew1))) HGD.out).mono ?_; rw [HKK.out]; rintro e wb ⟨ks, rfl, hb, hg, hp⟩; clear z0 z1 z2 z3 z4 z5 z6 z7 z8 z9 z10; obtain ⟨z0, z1, z2, z3, z4, z5, z6, z7, z8, z9, z10⟩ := StB.cells hb; have HB := Aside0.mk (hb.perm (List.Perm.of_eq hp)).low; have HGK := Aside0.mk hg; clear hb hg hp))
                    all_goals
                      have HSZ := HB
                      clear HA HB HS9 HKK z0 z1 z2 z3 z4 z5 z6 z7 z8 z9 z10
                      go_upto_region 26 with (first
                        | (go_at_call 14; go_must (refine (st_first_b (w0 := w) (by exact HSZ.out.below (by repeat (first | exact Below.refl _ _ | apply pw_below_drewN | apply below_drew1))) HGK.out).mono ?_; rintro e wf ⟨f, rfl, hf, ho, hb⟩; rw [HTA.out]; have HFE := Aside0.mk hf; have HOF := Aside0.mk ho; have HSF := Aside0.mk ((HSZ.out.below (by repeat (first | exact Below.refl _ _ | apply pw_below_drewN | apply below_drew1))).below hb); clear hf ho hb)))
                      refine gen_world (fun W25 hW25 => ?_)
                      have hB25 : Below wf.heap.size wf W25 := by rw [hW25]; with_reducible exact below_alloc (Below.refl _ _) _
                      have hx25 : W25.heap[wf.heap.size]? = some (.cells #[.int .i64 f.e.f0, .int .i64 f.e.f1, .int .u64 f.e.f2, .int .i64 f.e.f3.f0, .int .i64 f.e.f3.f1, .int .i64 f.e.f4, .slice f.A f.e.f5.length f.c, .int .u64 f.e.f6] 33 (0, 0)) := by rw [hW25]; with_reducible exact heap_alloc_new _ _
                      obtain ⟨b15, hb15⟩ : ∃ b, b = wf.heap.size := ⟨_, rfl⟩
                      rw [← hb15] at hx25 ⊢
                      have HX25 := Aside0.mk hx25
                      have HS25 := Aside0.mk (HSF.out.below hB25)
                      have HOF25 : Aside0 (Own W25 w.heap.size f.b f.e.f5) := ⟨HOF.out.below hB25⟩
                      clear hW25 hB25 hx25 hb15 HSF HOF
                      go_upto_region 27 with (first
                        | (go_at_call 23; go_must (refine (st_first_r (w0 := w) (by exact HS25.out) HGK.out).mono ?_; rintro e wf2 ⟨f2, rfl, hf, ho, hb⟩; rw [HTA.out]; have HFE2 := Aside0.mk hf; have HRF0 := Aside0.mk ho; have HSF := Aside0.mk (HS25.out.below hb); have HX26 := Aside0.mk (blk_below HX25.out hb); have HOF26 : Aside0 (Own wf2 w.heap.size f.b f.e.f5) := ⟨HOF25.out.below hb⟩; clear hf ho hb)))
                      refine gen_world (fun wx hwx => ?_)
                      have hB27 : Below wf2.heap.size wf2 wx := by rw [hwx]; with_reducible exact below_alloc (Below.refl _ _) _
                      have hx27 : wx.heap[wf2.heap.size]? = some (.cells #[.int .i64 f2.e.f0, .int .i64 f2.e.f1, .int .u64 f2.e.f2, .int .i64 f2.e.f3.f0, .int .i64 f2.e.f3.f1, .int .i64 f2.e.f4, .slice f2.A f2.e.f5.length f2.c, .int .u64 f2.e.f6] 33 (0, 0)) := by rw [hwx]; with_reducible exact heap_alloc_new _ _
                      obtain ⟨b17, hb17⟩ : ∃ b, b = wf2.heap.size := ⟨_, rfl⟩
                      rw [← hb17] at hx27 ⊢
                      obtain ⟨vb, vr, hBU, hRE, hDI⟩ := HSF.out.below hB27
                      have HBUF := Aside0.mk hBU
                      have HREF := Aside0.mk hRE
                      have HDIS := Aside0.mk hDI
                      obtain ⟨Ar, cr, hvr⟩ := hRE.row.form
                      obtain ⟨n, hn⟩ : ∃ n, n = ks.length := ⟨_, rfl⟩
                      rw [← hn] at hvr
                      subst hvr
                      have HNK := Aside0.mk hn
                      have HNL : Aside0 ((ks.map (·.e)).length = n) := ⟨by rw [List.length_map]; exact hn.symm⟩
                      have hcr := hRE.cell
                      obtain ⟨a0, a1, a2, a3, a4, a5, a6, a7, -⟩ := cells8z (blk_below HX26.out hB27)
                      obtain ⟨b0, b1, b2, b3, b4, b5, b6, b7, -⟩ := cells8z hx27
                      have HRF : Aside0 (Rd wx f.b f.e.f5) := ⟨Own.rd (HOF26.out.below hB27)⟩
                      have HRF2 : Aside0 (Rd wx f2.b f2.e.f5) := ⟨HRF0.out.below hRE.bel⟩
                      have HFL : Aside0 (f.e.f5.length ≤ 1100) := ⟨by rw [HFE.out]; exact head_small HGK.out⟩
                      have HFE : Aside0 (f.e = f2.e) := ⟨HFE.out.trans HFE2.out.symm⟩
                      obtain ⟨is, his⟩ : ∃ is, (!ks.isEmpty) = is := ⟨_, rfl⟩
                      rw [his]
                      have hib : (is != is) = false := by simp
                      have hnb : ((n : Int) != (n : Int)) = false := by simp
                      clear hwx hB27 hx27 hb17 hBU hRE hDI hn his
                      refine start_ (n := 33) (S := fun w' => w'.cell? ⟨b15, 0, none⟩ = some (.int .i64 f.e.f0) ∧ w'.cell? ⟨b15, 1, none⟩ = some (.int .i64 f.e.f1) ∧ w'.cell? ⟨b15, 2, none⟩ = some (.int .u64 f.e.f2) ∧ w'.cell? ⟨b15, 3, none⟩ = some (.int .i64 f.e.f3.f0) ∧ w'.cell? ⟨b15, 4, none⟩ = some (.int .i64 f.e.f3.f1) ∧ w'.cell? ⟨b15, 5, none⟩ = some (.int .i64 f.e.f4) ∧ w'.cell? ⟨b15, 6, none⟩ = some (.slice f.A f.e.f5.length f.c) ∧ w'.cell? ⟨b15, 7, none⟩ = some (.int .u64 f.e.f6) ∧ w'.cell? ⟨b17, 0, none⟩ = some (.int .i64 f2.e.f0) ∧ w'.cell? ⟨b17, 1, none⟩ = some (.int .i64 f2.e.f1) ∧ w'.cell? ⟨b17, 2, none⟩ = some (.int .u64 f2.e.f2) ∧ w'.cell? ⟨b17, 3, none⟩ = some (.int .i64 f2.e.f3.f0) ∧ w'.cell? ⟨b17, 4, none⟩ = some (.int .i64 f2.e.f3.f1) ∧ w'.cell? ⟨b17, 5, none⟩ = some (.int .i64 f2.e.f4) ∧ w'.cell? ⟨b17, 6, none⟩ = some (.slice f2.A f2.e.f5.length f2.c) ∧ w'.cell? ⟨b17, 7, none⟩ = some (.int .u64 f2.e.f6) ∧ w'.cell? ⟨gr, 1, none⟩ = some (.slice Ar n cr)) (ds := []) #[false, false, false, false, false, false, false, false, false, false, false, false, false, false, false, false, false, false, false, false, false, false, false, false, false, false, false, false, false, false, false, false, false] (by kernel_rfl) rfl rfl ⟨a0, a1, a2, a3, a4, a5, a6, a7, b0, b1, b2, b3, b4, b5, b6, b7, hcr⟩ (fun hHeld => ?_)
                      refine with_tabW plays_walk.tab27 plays_walk.bits27 (fun HT_ HW_ => ?_)
                      refine pure_ (i := 0) (N := some 139) (v := ?_) (a' := ?_) #[true, false, false, false, false, false, false, false, false, false, false, false, false, false, false, false, false, false, false, false, false, false, false, false, false, false, false, false, false, false, false, false, false] rfl rfl (any_of HT_.out (by kernel_rfl)) (fun _ _ _ h => h) (Or.inl ⟨by rfl, ?_⟩) ?_ ?_
                      rotate_left
                      · intro w'
                        go_simp
                        with_reducible rfl
                      rotate_left
                      · simp only [Act.put, List.setIfInBounds_toArray, List.set_cons_zero, List.set_cons_succ, i64_w, i32_w]
                        rfl
                      refine pure_ (i := 1) (N := some 140) (v := ?_) (a' := ?_) #[true, true, false, false, false, false, false, false, false, false, false, false, false, false, false, false, false, false, false, false, false, false, false, false, false, false, false, false, false, false, false, false, false] rfl rfl (any_of HT_.out (by kernel_rfl)) (fun _ _ _ h => h) (Or.inl ⟨by rfl, ?_⟩) ?_ ?_
                      rotate_left
                      · intro w'
                        go_simp
                        with_reducible rfl
                      rotate_left
                      · simp only [Act.put, List.setIfInBounds_toArray, List.set_cons_zero, List.set_cons_succ, i64_w, i32_w]
                        rfl
                      refine pure_ (i := 2) (N := some 141) (v := ?_) (a' := ?_) #[true, true, true, false, false, false, false, false, false, false, false, false, false, false, false, false, false, false, false, false, false, false, false, false, false, false, false, false, false, false, false, false, false] rfl rfl (any_of HT_.out (by kernel_rfl)) (fun _ _ _ h => h) (Or.inl ⟨by rfl, ?_⟩) ?_ ?_
                      rotate_left
                      · intro w'
                        go_simp
                        with_reducible rfl
                      rotate_left
                      · simp only [Act.put, List.setIfInBounds_toArray, List.set_cons_zero, List.set_cons_succ, i64_w, i32_w]
                        rfl
                      refine pure_ (i := 3) (N := some 142) (v := ?_) (a' := ?_) #[true, true, true, true, false, false, false, false, false, false, false, false, false, false, false, false, false, false, false, false, false, false, false, false, false, false, false, false, false, false, false, false, false] rfl rfl (any_of HT_.out (by kernel_rfl)) (fun _ _ _ h => h) (Or.inl ⟨by rfl, ?_⟩) ?_ ?_
                      rotate_left
                      · intro w'
                        go_simp
                        with_reducible rfl
                      rotate_left
                      · simp only [Act.put, List.setIfInBounds_toArray, List.set_cons_zero, List.set_cons_succ, i64_w, i32_w]
                        rfl
                      refine pure_ (i := 4) (N := some 143) (v := ?_) (a' := ?_) #[true, true, true, true, true, false, false, false, false, false, false, false, false, false, false, false, false, false, false, false, false, false, false, false, false, false, false, false, false, false, false, false, false] rfl rfl (any_of HT_.out (by kernel_rfl)) (fun _ _ _ h => h) (Or.inl ⟨by rfl, ?_⟩) ?_ ?_
                      rotate_left
                      · intro w'
                        go_simp
                        with_reducible rfl
                      rotate_left
                      · simp only [Act.put, List.setIfInBounds_toArray, List.set_cons_zero, List.set_cons_succ, i64_w, i32_w]
                        rfl
                      refine pure_ (i := 5) (N := some 144) (v := ?_) (a' := ?_) #[true, true, true, true, true, true, false, false, false, false, false, false, false, false, false, false, false, false, false, false, false, false, false, false, false, false, false, false, false, false, false, false, false] rfl rfl (any_of HT_.out (by kernel_rfl)) (fun _ _ _ h => h) (Or.inl ⟨by rfl, ?_⟩) ?_ ?_
                      rotate_left
                      · intro w'
                        go_simp
                        with_reducible rfl
                      rotate_left
                      · simp only [Act.put, List.setIfInBounds_toArray, List.set_cons_zero, List.set_cons_succ, i64_w, i32_w]
                        rfl
                      refine pure_ (i := 6) (N := some 145) (v := ?_) (a' := ?_) #[true, true, true, true, true, true, true, false, false, false, false, false, false, false, false, false, false, false, false, false, false, false, false, false, false, false, false, false, false, false, false, false, false] rfl rfl (any_of HT_.out (by kernel_rfl)) (fun _ _ _ h => h) (Or.inl ⟨by rfl, ?_⟩) ?_ ?_
                      rotate_left
                      · intro w'
                        go_simp
                        with_reducible rfl
                      rotate_left
                      · simp only [Act.put, List.setIfInBounds_toArray, List.set_cons_zero, List.set_cons_succ, i64_w, i32_w]
                        rfl
                      refine pure_ (i := 7) (N := some 146) (v := ?_) (a' := ?_) #[true, true, true, true, true, true, true, true, false, false, false, false, false, false, false, false, false, false, false, false, false, false, false, false, false, false, false, false, false, false, false, false, false] rfl rfl (any_of HT_.out (by kernel_rfl)) (fun _ _ _ h => h) (Or.inl ⟨by rfl, ?_⟩) ?_ ?_
                      rotate_left
                      · intro w'
                        go_simp
                        with_reducible rfl
                      rotate_left
                      · simp only [Act.put, List.setIfInBounds_toArray, List.set_cons_zero, List.set_cons_succ, i64_w, i32_w]
                        rfl
                      refine take_ (i := 8) (N := some 147) (v := ?_) (a' := ?_) #[true, true, true, true, true, true, true, true, true, false, false, false, false, false, false, false, false, false, false, false, false, false, false, false, false, false, false, false, false, false, false, false, false] rfl rfl (take_ofW HT_.out HW_.out (by kernel_rfl)) (fun _ _ _ h => h) (Or.inl ⟨by rfl, ?_⟩) hHeld ?_ ?_
                      rotate_left
                      · rintro w' ⟨s0, s1, s2, s3, s4, s5, s6, s7, s8, s9, s10, s11, s12, s13, s14, s15, s16⟩
                        go_simp
                        with_reducible rfl
                      rotate_left
                      · simp only [Act.put, List.setIfInBounds_toArray, List.set_cons_zero, List.set_cons_succ, i64_w, i32_w]
                        rfl
                      refine take_ (i := 9) (N := some 148) (v := ?_) (a' := ?_) #[true, true, true, true, true, true, true, true, true, true, false, false, false, false, false, false, false, false, false, false, false, false, false, false, false, false, false, false, false, false, false, false, false] rfl rfl (take_ofW HT_.out HW_.out (by kernel_rfl)) (fun _ _ _ h => h) (Or.inl ⟨by rfl, ?_⟩) hHeld ?_ ?_
                      rotate_left
                      · rintro w' ⟨s0, s1, s2, s3, s4, s5, s6, s7, s8, s9, s10, s11, s12, s13, s14, s15, s16⟩
                        go_simp
                        with_reducible rfl
                      rotate_left
                      · simp only [Act.put, List.setIfInBounds_toArray, List.set_cons_zero, List.set_cons_succ, i64_w, i32_w]
                        rfl
                      refine one_ (i := 10) (N := some 149) #[true, true, true, true, true, true, true, true, true, true, true, false, false, false, false, false, false, false, false, false, false, false, false, false, false, false, false, false, false, false, false, false, false] rfl rfl (one_of HT_.out (by kernel_rfl)) (by decide) (fun K hK => ?_)
                      refine goes_ Try.func16 (by kernel_rfl) rfl #[.agg #[.int .i64 f.e.f0, .int .i64 f.e.f1, .int .u64 f.e.f2, .int .i64 f.e.f3.f0, .int .i64 f.e.f3.f1, .int .i64 f.e.f4, .slice f.A f.e.f5.length f.c, .int .u64 f.e.f6], .agg #[.int .i64 f2.e.f0, .int .i64 f2.e.f1, .int .u64 f2.e.f2, .int .i64 f2.e.f3.f0, .int .i64 f2.e.f3.f1, .int .i64 f2.e.f4, .slice f2.A f2.e.f5.length f2.c, .int .u64 f2.e.f6]] (by rfl) rfl rfl (by simp only [List.map_toArray, List.map_cons, List.map_nil]; rfl) ?_
                      with_reducible refine (fsame_calls f f2 _ HFE.out (HRF.out.below (below_drew1 (Below.refl _ _))) (HRF2.out.below (below_drew1 (Below.refl _ _))) HFL.out).mono ?_
                      rintro e w10 ⟨rfl, hb10⟩
                      refine ⟨_, rfl, ?_⟩
                      have hB10 : Below wx.heap.size wx w10 := below_step (below_drew1 (Below.refl _ _)) hb10
                      refine hK.out _ _ ⟨(pw_cell_below hB10 a0), (pw_cell_below hB10 a1), (pw_cell_below hB10 a2), (pw_cell_below hB10 a3), (pw_cell_below hB10 a4), (pw_cell_below hB10 a5), (pw_cell_below hB10 a6), (pw_cell_below hB10 a7), (pw_cell_below hB10 b0), (pw_cell_below hB10 b1), (pw_cell_below hB10 b2), (pw_cell_below hB10 b3), (pw_cell_below hB10 b4), (pw_cell_below hB10 b5), (pw_cell_below hB10 b6), (pw_cell_below hB10 b7), (pw_cell_below hB10 hcr)⟩ (fun hHeld => ?_)
                      clear hK K
                      refine norm_ (a' := ?_) ?_ ?_
                      rotate_left
                      · show Act.put _ (some 149) _ = _
                        simp only [Act.put, List.setIfInBounds_toArray, List.set_cons_zero, List.set_cons_succ, i64_w, i32_w]
                        rfl
                      refine pure_ (i := 11) (N := some 150) (v := ?_) (a' := ?_) #[true, true, true, true, true, true, true, true, true, true, true, true, false, false, false, false, false, false, false, false, false, false, false, false, false, false, false, false, false, false, false, false, false] rfl rfl (any_of HT_.out (by kernel_rfl)) (fun _ _ _ h => h) (Or.inl ⟨by rfl, ?_⟩) ?_ ?_
                      rotate_left
                      · intro w'
                        go_simp
                        with_reducible rfl
                      rotate_left
                      · simp only [Act.put, List.setIfInBounds_toArray, List.set_cons_zero, List.set_cons_succ, i64_w, i32_w]
                        rfl
                      refine pure_ (i := 12) (N := some 151) (v := ?_) (a' := ?_) #[true, true, true, true, true, true, true, true, true, true, true, true, true, false, false, false, false, false, false, false, false, false, false, false, false, false, false, false, false, false, false, false, false] rfl rfl (any_of HT_.out (by kernel_rfl)) (fun _ _ _ h => h) (Or.inl ⟨by rfl, ?_⟩) ?_ ?_
                      rotate_left
                      · intro w'
                        go_simp
                        with_reducible rfl
                      rotate_left
                      · simp only [Act.put, List.setIfInBounds_toArray, List.set_cons_zero, List.set_cons_succ, i64_w, i32_w]
                        rfl
                      refine pure_ (i := 13) (N := some 152) (v := ?_) (a' := ?_) #[true, true, true, true, true, true, true, true, true, true, true, true, true, true, false, false, false, false, false, false, false, false, false, false, false, false, false, false, false, false, false, false, false] rfl rfl (any_of HT_.out (by kernel_rfl)) (fun _ _ _ h => h) (Or.inl ⟨by rfl, ?_⟩) ?_ ?_
                      rotate_left
                      · intro w'
                        go_simp
                        with_reducible rfl
                      rotate_left
                      · simp only [Act.put, List.setIfInBounds_toArray, List.set_cons_zero, List.set_cons_succ, i64_w, i32_w]
                        rfl
                      refine pure_ (i := 14) (N := some 153) (v := ?_) (a' := ?_) #[true, true, true, true, true, true, true, true, true, true, true, true, true, true, true, false, false, false, false, false, false, false, false, false, false, false, false, false, false, false, false, false, false] rfl rfl (any_of HT_.out (by kernel_rfl)) (fun _ _ _ h => h) (Or.inl ⟨by rfl, ?_⟩) ?_ ?_
                      rotate_left
                      · intro w'
                        go_simp
                        with_reducible rfl
                      rotate_left
                      · simp only [Act.put, List.setIfInBounds_toArray, List.set_cons_zero, List.set_cons_succ, i64_w, i32_w]
                        rfl
                      refine pure_ (i := 16) (N := some 155) (v := ?_) (a' := ?_) #[true, true, true, true, true, true, true, true, true, true, true, true, true, true, true, false, true, false, false, false, false, false, false, false, false, false, false, false, false, false, false, false, false] rfl rfl (any_of HT_.out (by kernel_rfl)) (fun _ _ _ h => h) (Or.inl ⟨by rfl, ?_⟩) ?_ ?_
                      rotate_left
                      · intro w'
                        go_simp
                        with_reducible rfl
                      rotate_left
                      · simp only [Act.put, List.setIfInBounds_toArray, List.set_cons_zero, List.set_cons_succ, i64_w, i32_w]
                        rfl
                      refine pure_ (i := 17) (N := some 156) (v := ?_) (a' := ?_) #[true, true, true, true, true, true, true, true, true, true, true, true, true, true, true, false, true, true, false, false, false, false, false, false, false, false, false, false, false, false, false, false, false] rfl rfl (any_of HT_.out (by kernel_rfl)) (fun _ _ _ h => h) (Or.inl ⟨by rfl, ?_⟩) ?_ ?_
                      rotate_left
                      · intro w'
                        go_simp
                        with_reducible rfl
                      rotate_left
                      · simp only [Act.put, List.setIfInBounds_toArray, List.set_cons_zero, List.set_cons_succ, i64_w, i32_w]
                        rfl
                      refine pure_ (i := 18) (N := some 157) (v := ?_) (a' := ?_) #[true, true, true, true, true, true, true, true, true, true, true, true, true, true, true, false, true, true, true, false, false, false, false, false, false, false, false, false, false, false, false, false, false] rfl rfl (any_of HT_.out (by kernel_rfl)) (fun _ _ _ h => h) (Or.inl ⟨by rfl, ?_⟩) ?_ ?_
                      rotate_left
                      · intro w'
                        go_simp
                        with_reducible rfl
                      rotate_left
                      · simp only [Act.put, List.setIfInBounds_toArray, List.set_cons_zero, List.set_cons_succ, i64_w, i32_w]
                        rfl
                      refine take_ (i := 19) (N := some 158) (v := ?_) (a' := ?_) #[true, true, true, true, true, true, true, true, true, true, true, true, true, true, true, false, true, true, true, true, false, false, false, false, false, false, false, false, false, false, false, false, false] rfl rfl (take_ofW HT_.out HW_.out (by kernel_rfl)) (fun _ _ _ h => h) (Or.inl ⟨by rfl, ?_⟩) hHeld ?_ ?_
                      rotate_left
                      · rintro w' ⟨s0, s1, s2, s3, s4, s5, s6, s7, s8, s9, s10, s11, s12, s13, s14, s15, s16⟩
                        go_simp
                        with_reducible rfl
                      rotate_left
                      · simp only [Act.put, List.setIfInBounds_toArray, List.set_cons_zero, List.set_cons_succ, i64_w, i32_w]
                        rfl
                      refine pure_ (i := 20) (N := some 159) (v := ?_) (a' := ?_) #[true, true, true, true, true, true, true, true, true, true, true, true, true, true, true, false, true, true, true, true, true, false, false, false, false, false, false, false, false, false, false, false, false] rfl rfl (any_of HT_.out (by kernel_rfl)) (fun _ _ _ h => h) (Or.inl ⟨by rfl, ?_⟩) ?_ ?_
                      rotate_left
                      · intro w'
                        go_simp
                        with_reducible rfl
                      rotate_left
                      · simp only [Act.put, List.setIfInBounds_toArray, List.set_cons_zero, List.set_cons_succ, i64_w, i32_w]
                        rfl
                      refine one_ (i := 15) (N := some 154) #[true, true, true, true, true, true, true, true, true, true, true, true, true, true, true, true, true, true, true, true, true, false, false, false, false, false, false, false, false, false, false, false, false] rfl rfl (one_of HT_.out (by kernel_rfl)) (by decide) (fun K hK => ?_)
                      refine goes_ Try.func13 (by kernel_rfl) rfl #[.pointer (some ⟨gb, 0, none⟩)] (by rfl) rfl rfl (by simp only [List.map_toArray, List.map_cons, List.map_nil]; rfl) ?_
                      with_reducible refine (blen_n w.heap.size gb n most vb (ks.map (·.e)) _ (HBUF.out.below hB10) HNL.out).mono ?_
                      rintro e w15 ⟨rfl, hb15⟩
                      refine ⟨_, rfl, ?_⟩
                      have hB15 : Below wx.heap.size wx w15 := below_step hB10 hb15
                      refine hK.out _ _ ⟨(pw_cell_below hB15 a0), (pw_cell_below hB15 a1), (pw_cell_below hB15 a2), (pw_cell_below hB15 a3), (pw_cell_below hB15 a4), (pw_cell_below hB15 a5), (pw_cell_below hB15 a6), (pw_cell_below hB15 a7), (pw_cell_below hB15 b0), (pw_cell_below hB15 b1), (pw_cell_below hB15 b2), (pw_cell_below hB15 b3), (pw_cell_below hB15 b4), (pw_cell_below hB15 b5), (pw_cell_below hB15 b6), (pw_cell_below hB15 b7), (pw_cell_below hB15 hcr)⟩ (fun hHeld => ?_)
                      clear hK K
                      refine norm_ (a' := ?_) ?_ ?_
                      rotate_left
                      · show Act.put _ (some 154) _ = _
                        simp only [Act.put, List.setIfInBounds_toArray, List.set_cons_zero, List.set_cons_succ, i64_w, i32_w]
                        rfl
                      refine pure_ (i := 21) (N := some 160) (v := ?_) (a' := ?_) #[true, true, true, true, true, true, true, true, true, true, true, true, true, true, true, true, true, true, true, true, true, true, false, false, false, false, false, false, false, false, false, false, false] rfl rfl (any_of HT_.out (by kernel_rfl)) (fun _ _ _ h => h) (Or.inl ⟨by rfl, ?_⟩) ?_ ?_
                      rotate_left
                      · intro w'
                        go_simp
                        with_reducible rfl
                      rotate_left
                      · simp only [Act.put, List.setIfInBounds_toArray, List.set_cons_zero, List.set_cons_succ, i64_w, i32_w]
                        rfl
                      refine pure_ (i := 22) (N := some 161) (v := ?_) (a' := ?_) #[true, true, true, true, true, true, true, true, true, true, true, true, true, true, true, true, true, true, true, true, true, true, true, false, false, false, false, false, false, false, false, false, false] rfl rfl (any_of HT_.out (by kernel_rfl)) (fun _ _ _ h => h) (Or.inl ⟨by rfl, ?_⟩) ?_ ?_
                      rotate_left
                      · intro w'
                        go_simp
                        with_reducible rfl
                      rotate_left
                      · simp only [Act.put, List.setIfInBounds_toArray, List.set_cons_zero, List.set_cons_succ, i64_w, i32_w]
                        rfl
                      refine pure_ (i := 23) (N := some 162) (v := ?_) (a' := ?_) #[true, true, true, true, true, true, true, true, true, true, true, true, true, true, true, true, true, true, true, true, true, true, true, true, false, false, false, false, false, false, false, false, false] rfl rfl (any_of HT_.out (by kernel_rfl)) (fun _ _ _ h => h) (Or.inl ⟨by rfl, ?_⟩) ?_ ?_
                      rotate_left
                      · intro w'
                        go_simp
                        with_reducible rfl
                      rotate_left
                      · simp only [Act.put, List.setIfInBounds_toArray, List.set_cons_zero, List.set_cons_succ, i64_w, i32_w]
                        rfl
                      refine pure_ (i := 24) (N := some 163) (v := ?_) (a' := ?_) #[true, true, true, true, true, true, true, true, true, true, true, true, true, true, true, true, true, true, true, true, true, true, true, true, true, false, false, false, false, false, false, false, false] rfl rfl (any_of HT_.out (by kernel_rfl)) (fun _ _ _ h => h) (Or.inl ⟨by rfl, ?_⟩) ?_ ?_
                      rotate_left
                      · intro w'
                        go_simp
                        with_reducible rfl
                      rotate_left
                      · simp only [Act.put, List.setIfInBounds_toArray, List.set_cons_zero, List.set_cons_succ, i64_w, i32_w]
                        rfl
                      refine pure_ (i := 26) (N := some 165) (v := ?_) (a' := ?_) #[true, true, true, true, true, true, true, true, true, true, true, true, true, true, true, true, true, true, true, true, true, true, true, true, true, false, true, false, false, false, false, false, false] rfl rfl (any_of HT_.out (by kernel_rfl)) (fun _ _ _ h => h) (Or.inl ⟨by rfl, ?_⟩) ?_ ?_
                      rotate_left
                      · intro w'
                        go_simp
                        with_reducible rfl
                      rotate_left
                      · simp only [Act.put, List.setIfInBounds_toArray, List.set_cons_zero, List.set_cons_succ, i64_w, i32_w]
                        rfl
                      refine pure_ (i := 27) (N := some 166) (v := ?_) (a' := ?_) #[true, true, true, true, true, true, true, true, true, true, true, true, true, true, true, true, true, true, true, true, true, true, true, true, true, false, true, true, false, false, false, false, false] rfl rfl (any_of HT_.out (by kernel_rfl)) (fun _ _ _ h => h) (Or.inl ⟨by rfl, ?_⟩) ?_ ?_
                      rotate_left
                      · intro w'
                        go_simp
                        with_reducible rfl
                      rotate_left
                      · simp only [Act.put, List.setIfInBounds_toArray, List.set_cons_zero, List.set_cons_succ, i64_w, i32_w]
                        rfl
                      refine pure_ (i := 28) (N := some 167) (v := ?_) (a' := ?_) #[true, true, true, true, true, true, true, true, true, true, true, true, true, true, true, true, true, true, true, true, true, true, true, true, true, false, true, true, true, false, false, false, false] rfl rfl (any_of HT_.out (by kernel_rfl)) (fun _ _ _ h => h) (Or.inl ⟨by rfl, ?_⟩) ?_ ?_
                      rotate_left
                      · intro w'
                        go_simp
                        with_reducible rfl
                      rotate_left
                      · simp only [Act.put, List.setIfInBounds_toArray, List.set_cons_zero, List.set_cons_succ, i64_w, i32_w]
                        rfl
                      refine take_ (i := 29) (N := some 168) (v := ?_) (a' := ?_) #[true, true, true, true, true, true, true, true, true, true, true, true, true, true, true, true, true, true, true, true, true, true, true, true, true, false, true, true, true, true, false, false, false] rfl rfl (take_ofW HT_.out HW_.out (by kernel_rfl)) (fun _ _ _ h => h) (Or.inl ⟨by rfl, ?_⟩) hHeld ?_ ?_
                      rotate_left
                      · rintro w' ⟨s0, s1, s2, s3, s4, s5, s6, s7, s8, s9, s10, s11, s12, s13, s14, s15, s16⟩
                        go_simp
                        with_reducible rfl
                      rotate_left
                      · simp only [Act.put, List.setIfInBounds_toArray, List.set_cons_zero, List.set_cons_succ, i64_w, i32_w]
                        rfl
                      refine one_ (i := 25) (N := some 164) #[true, true, true, true, true, true, true, true, true, true, true, true, true, true, true, true, true, true, true, true, true, true, true, true, true, true, true, true, true, true, false, false, false] rfl rfl (one_of HT_.out (by kernel_rfl)) (by decide) (fun K hK => ?_)
                      refine goes_ Try.func10 (by kernel_rfl) rfl #[.pointer (some ⟨gb, 0, none⟩)] (by rfl) rfl rfl (by simp only [List.map_toArray, List.map_cons, List.map_nil]; rfl) ?_
                      with_reducible refine (ball w.heap.size gb most vb (ks.map (·.e)) _ (HBUF.out.below hB15)).mono ?_
                      rintro e w25 ⟨os, Ao, co, rfl, hPo, hPm, hSo, hb25, -⟩
                      refine ⟨_, rfl, ?_⟩
                      have hB25 : Below wx.heap.size wx w25 := below_step hB15 hb25
                      refine hK.out _ _ ⟨(pw_cell_below hB25 a0), (pw_cell_below hB25 a1), (pw_cell_below hB25 a2), (pw_cell_below hB25 a3), (pw_cell_below hB25 a4), (pw_cell_below hB25 a5), (pw_cell_below hB25 a6), (pw_cell_below hB25 a7), (pw_cell_below hB25 b0), (pw_cell_below hB25 b1), (pw_cell_below hB25 b2), (pw_cell_below hB25 b3), (pw_cell_below hB25 b4), (pw_cell_below hB25 b5), (pw_cell_below hB25 b6), (pw_cell_below hB25 b7), (pw_cell_below hB25 hcr)⟩ (fun hHeld => ?_)
                      clear hK K
                      refine norm_ (a' := ?_) ?_ ?_
                      rotate_left
                      · show Act.put _ (some 164) _ = _
                        simp only [Act.put, List.setIfInBounds_toArray, List.set_cons_zero, List.set_cons_succ, i64_w, i32_w]
                        rfl
                      refine one_ (i := 30) (N := some 169) #[true, true, true, true, true, true, true, true, true, true, true, true, true, true, true, true, true, true, true, true, true, true, true, true, true, true, true, true, true, true, true, false, false] rfl rfl (one_of HT_.out (by kernel_rfl)) (by decide) (fun K hK => ?_)
                      refine goes_ Try.func12 (by kernel_rfl) rfl #[.slice Ao os.length co, .slice Ar n cr] (by rfl) rfl rfl (by simp only [List.map_toArray, List.map_cons, List.map_nil]; rfl) ?_
                      with_reducible refine (fall_mix _ _ w.heap.size Ao Ar co cr n os ks hPo (HREF.out.row.below hB25) (fun q hq => (HREF.out.rdp hq).below hB25) (srt_eq hSo HGK.out.srt hPm ((hPm.map keyE).nodup_iff.2 HGK.out.nodup)) HNK.out (by have := HGK.out.len; omega) (fun q hq => good_small HGK.out hq)).mono ?_
                      rintro e w30 ⟨rfl, hb30⟩
                      refine ⟨_, rfl, ?_⟩
                      have hB30 : Below wx.heap.size wx w30 := below_step hB25 hb30
                      refine hK.out _ _ ⟨(pw_cell_below hB30 a0), (pw_cell_below hB30 a1), (pw_cell_below hB30 a2), (pw_cell_below hB30 a3), (pw_cell_below hB30 a4), (pw_cell_below hB30 a5), (pw_cell_below hB30 a6), (pw_cell_below hB30 a7), (pw_cell_below hB30 b0), (pw_cell_below hB30 b1), (pw_cell_below hB30 b2), (pw_cell_below hB30 b3), (pw_cell_below hB30 b4), (pw_cell_below hB30 b5), (pw_cell_below hB30 b6), (pw_cell_below hB30 b7), (pw_cell_below hB30 hcr)⟩ (fun hHeld => ?_)
                      clear hK K
                      refine norm_ (a' := ?_) ?_ ?_
                      rotate_left
                      · show Act.put _ (some 169) _ = _
                        simp only [Act.put, List.setIfInBounds_toArray, List.set_cons_zero, List.set_cons_succ, i64_w, i32_w]
                        rfl
                      refine pure_ (i := 31) (N := some 170) (v := ?_) (a' := ?_) #[true, true, true, true, true, true, true, true, true, true, true, true, true, true, true, true, true, true, true, true, true, true, true, true, true, true, true, true, true, true, true, true, false] rfl rfl (any_of HT_.out (by kernel_rfl)) (fun _ _ _ h => h) (Or.inl ⟨by rfl, ?_⟩) ?_ ?_
                      rotate_left
                      · intro w'
                        go_simp
                        with_reducible rfl
                      rotate_left
                      · simp only [Act.put, List.setIfInBounds_toArray, List.set_cons_zero, List.set_cons_succ, i64_w, i32_w]
                        rfl
                      refine pure_ (i := 32) (N := some 171) (v := ?_) (a' := ?_) #[true, true, true, true, true, true, true, true, true, true, true, true, true, true, true, true, true, true, true, true, true, true, true, true, true, true, true, true, true, true, true, true, true] rfl rfl (any_of HT_.out (by kernel_rfl)) (fun _ _ _ h => h) (Or.inl ⟨by rfl, ?_⟩) ?_ ?_
                      rotate_left
                      · intro w'
                        go_simp
                        with_reducible rfl
                      rotate_left
                      · simp only [Act.put, List.setIfInBounds_toArray, List.set_cons_zero, List.set_cons_succ, i64_w, i32_w]
                        rfl
                      refine done_ (done_of HT_.out (by kernel_rfl)) ?_
                      have HSE : Aside0 (StZ w w30 gb gr most (ks.map (·.e)) ks) := ⟨StZ.below ⟨vb, _, HBUF.out, HREF.out, HDIS.out⟩ hB30⟩
                      clear hB10 hB15 hB25 hB30 hb10 hb15 hb25 hb30 hPo hPm hSo hcr a0 a1 a2 a3 a4 a5 a6 a7 b0 b1 b2 b3 b4 b5 b6 b7 hib hnb
                      have hk : (-1000000 : Int) ≤ (j : Int) + 1 ∧ (j : Int) + 1 ≤ 1000000 := by have := HL60.out; have := HJL.out; omega
                      have hw1 := iw (x := (j : Int) + 1) rfl hk
                      have hw2 := w64 (x := (j : Int) + 1) rfl hk
                      clear hk
                      go_wp2
                      clear hw1 hw2
                      go_roundg (l.length - (j + 1))
                      case measure => rw [HG.out]; have := HJL.out; omega
                      case rel => exact ⟨j + 1, ks, rfl, by simp, by have := HJL.out; omega, ⟨HSE.out.below (by with_reducible repeat (first | exact Below.refl _ _ | apply pw_below_drewN | apply below_drew1))⟩, HGK⟩
                  · have hb3 : (o.f0 == 3) = false := by simp [hk3]
                    clear hk3 hk2 hk1 hk0
                    obtain ⟨ks, hks⟩ : ∃ ks, ks = hs := ⟨_, rfl⟩
                    have HSZ : Aside0 (StZ w W9 gb gr most (ks.map (·.e)) ks) := ⟨by rw [hks]; exact HS9.out.low⟩
                    have HGK : Aside0 (Good ks) := ⟨by rw [hks]; exact HGD.out⟩
                    clear hks
                    go_upto_region 26 with (first
                      | (go_at_call 14; go_must (refine (st_first_b (w0 := w) (by exact HSZ.out.below (by repeat (first | exact Below.refl _ _ | apply pw_below_drewN | apply below_drew1))) HGK.out).mono ?_; rintro e wf ⟨f, rfl, hf, ho, hb⟩; rw [HTA.out]; have HFE := Aside0.mk hf; have HOF := Aside0.mk ho; have HSF := Aside0.mk ((HSZ.out.below (by repeat (first | exact Below.refl _ _ | apply pw_below_drewN | apply below_drew1))).below hb); clear hf ho hb)))
                    refine gen_world (fun W25 hW25 => ?_)
                    have hB25 : Below wf.heap.size wf W25 := by rw [hW25]; with_reducible exact below_alloc (Below.refl _ _) _
                    have hx25 : W25.heap[wf.heap.size]? = some (.cells #[.int .i64 f.e.f0, .int .i64 f.e.f1, .int .u64 f.e.f2, .int .i64 f.e.f3.f0, .int .i64 f.e.f3.f1, .int .i64 f.e.f4, .slice f.A f.e.f5.length f.c, .int .u64 f.e.f6] 33 (0, 0)) := by rw [hW25]; with_reducible exact heap_alloc_new _ _
                    obtain ⟨b15, hb15⟩ : ∃ b, b = wf.heap.size := ⟨_, rfl⟩
                    rw [← hb15] at hx25 ⊢
                    have HX25 := Aside0.mk hx25
                    have HS25 := Aside0.mk (HSF.out.below hB25)
                    have HOF25 : Aside0 (Own W25 w.heap.size f.b f.e.f5) := ⟨HOF.out.below hB25⟩
                    clear hW25 hB25 hx25 hb15 HSF HOF
                    go_upto_region 27 with (first
                      | (go_at_call 23; go_must (refine (st_first_r (w0 := w) (by exact HS25.out) HGK.out).mono ?_; rintro e wf2 ⟨f2, rfl, hf, ho, hb⟩; rw [HTA.out]; have HFE2 := Aside0.mk hf; have HRF0 := Aside0.mk ho; have HSF := Aside0.mk (HS25.out.below hb); have HX26 := Aside0.mk (blk_below HX25.out hb); have HOF26 : Aside0 (Own wf2 w.heap.size f.b f.e.f5) := ⟨HOF25.out.below hb⟩; clear hf ho hb)))
                    refine gen_world (fun wx hwx => ?_)
                    have hB27 : Below wf2.heap.size wf2 wx := by rw [hwx]; with_reducible exact below_alloc (Below.refl _ _) _
                    have hx27 : wx.heap[wf2.heap.size]? = some (.cells #[.int .i64 f2.e.f0, .int .i64 f2.e.f1, .int .u64 f2.e.f2, .int .i64 f2.e.f3.f0, .int .i64 f2.e.f3.f1, .int .i64 f2.e.f4, .slice f2.A f2.e.f5.length f2.c, .int .u64 f2.e.f6] 33 (0, 0)) := by rw [hwx]; with_reducible exact heap_alloc_new _ _
                    obtain ⟨b17, hb17⟩ : ∃ b, b = wf2.heap.size := ⟨_, rfl⟩
                    rw [← hb17] at hx27 ⊢
                    obtain ⟨vb, vr, hBU, hRE, hDI⟩ := HSF.out.below hB27
                    have HBUF := Aside0.mk hBU
                    have HREF := Aside0.mk hRE
                    have HDIS := Aside0.mk hDI
                    obtain ⟨Ar, cr, hvr⟩ := hRE.row.form
                    obtain ⟨n, hn⟩ : ∃ n, n = ks.length := ⟨_, rfl⟩
                    rw [← hn] at hvr
                    subst hvr
                    have HNK := Aside0.mk hn
                    have HNL : Aside0 ((ks.map (·.e)).length = n) := ⟨by rw [List.length_map]; exact hn.symm⟩
                    have hcr := hRE.cell
                    obtain ⟨a0, a1, a2, a3, a4, a5, a6, a7, -⟩ := cells8z (blk_below HX26.out hB27)
                    obtain ⟨b0, b1, b2, b3, b4, b5, b6, b7, -⟩ := cells8z hx27
                    have HRF : Aside0 (Rd wx f.b f.e.f5) := ⟨Own.rd (HOF26.out.below hB27)⟩
                    have HRF2 : Aside0 (Rd wx f2.b f2.e.f5) := ⟨HRF0.out.below hRE.bel⟩
                    have HFL : Aside0 (f.e.f5.length ≤ 1100) := ⟨by rw [HFE.out]; exact head_small HGK.out⟩
                    have HFE : Aside0 (f.e = f2.e) := ⟨HFE.out.trans HFE2.out.symm⟩
                    obtain ⟨is, his⟩ : ∃ is, (!ks.isEmpty) = is := ⟨_, rfl⟩
                    rw [his]
                    have hib : (is != is) = false := by simp
                    have hnb : ((n : Int) != (n : Int)) = false := by simp
                    clear hwx hB27 hx27 hb17 hBU hRE hDI hn his
                    refine start_ (n := 33) (S := fun w' => w'.cell? ⟨b15, 0, none⟩ = some (.int .i64 f.e.f0) ∧ w'.cell? ⟨b15, 1, none⟩ = some (.int .i64 f.e.f1) ∧ w'.cell? ⟨b15, 2, none⟩ = some (.int .u64 f.e.f2) ∧ w'.cell? ⟨b15, 3, none⟩ = some (.int .i64 f.e.f3.f0) ∧ w'.cell? ⟨b15, 4, none⟩ = some (.int .i64 f.e.f3.f1) ∧ w'.cell? ⟨b15, 5, none⟩ = some (.int .i64 f.e.f4) ∧ w'.cell? ⟨b15, 6, none⟩ = some (.slice f.A f.e.f5.length f.c) ∧ w'.cell? ⟨b15, 7, none⟩ = some (.int .u64 f.e.f6) ∧ w'.cell? ⟨b17, 0, none⟩ = some (.int .i64 f2.e.f0) ∧ w'.cell? ⟨b17, 1, none⟩ = some (.int .i64 f2.e.f1) ∧ w'.cell? ⟨b17, 2, none⟩ = some (.int .u64 f2.e.f2) ∧ w'.cell? ⟨b17, 3, none⟩ = some (.int .i64 f2.e.f3.f0) ∧ w'.cell? ⟨b17, 4, none⟩ = some (.int .i64 f2.e.f3.f1) ∧ w'.cell? ⟨b17, 5, none⟩ = some (.int .i64 f2.e.f4) ∧ w'.cell? ⟨b17, 6, none⟩ = some (.slice f2.A f2.e.f5.length f2.c) ∧ w'.cell? ⟨b17, 7, none⟩ = some (.int .u64 f2.e.f6) ∧ w'.cell? ⟨gr, 1, none⟩ = some (.slice Ar n cr)) (ds := []) #[false, false, false, false, false, false, false, false, false, false, false, false, false, false, false, false, false, false, false, false, false, false, false, false, false, false, false, false, false, false, false, false, false] (by kernel_rfl) rfl rfl ⟨a0, a1, a2, a3, a4, a5, a6, a7, b0, b1, b2, b3, b4, b5, b6, b7, hcr⟩ (fun hHeld => ?_)
                    refine with_tabW plays_walk.tab27 plays_walk.bits27 (fun HT_ HW_ => ?_)
                    refine pure_ (i := 0) (N := some 139) (v := ?_) (a' := ?_) #[true, false, false, false, false, false, false, false, false, false, false, false, false, false, false, false, false, false, false, false, false, false, false, false, false, false, false, false, false, false, false, false, false] rfl rfl (any_of HT_.out (by kernel_rfl)) (fun _ _ _ h => h) (Or.inl ⟨by rfl, ?_⟩) ?_ ?_
                    rotate_left
                    · intro w'
                      go_simp
                      with_reducible rfl
                    rotate_left
                    · simp only [Act.put, List.setIfInBounds_toArray, List.set_cons_zero, List.set_cons_succ, i64_w, i32_w]
                      rfl
                    refine pure_ (i := 1) (N := some 140) (v := ?_) (a' := ?_) #[true, true, false, false, false, false, false, false, false, false, false, false, false, false, false, false, false, false, false, false, false, false, false, false, false, false, false, false, false, false, false, false, false] rfl rfl (any_of HT_.out (by kernel_rfl)) (fun _ _ _ h => h) (Or.inl ⟨by rfl, ?_⟩) ?_ ?_
                    rotate_left
                    · intro w'
                      go_simp
                      with_reducible rfl
                    rotate_left
                    · simp only [Act.put, List.setIfInBounds_toArray, List.set_cons_zero, List.set_cons_succ, i64_w, i32_w]
                      rfl
                    refine pure_ (i := 2) (N := some 141) (v := ?_) (a' := ?_) #[true, true, true, false, false, false, false, false, false, false, false, false, false, false, false, false, false, false, false, false, false, false, false, false, false, false, false, false, false, false, false, false, false] rfl rfl (any_of HT_.out (by kernel_rfl)) (fun _ _ _ h => h) (Or.inl ⟨by rfl, ?_⟩) ?_ ?_
                    rotate_left
                    · intro w'
                      go_simp
                      with_reducible rfl
                    rotate_left
                    · simp only [Act.put, List.setIfInBounds_toArray, List.set_cons_zero, List.set_cons_succ, i64_w, i32_w]
                      rfl
                    refine pure_ (i := 3) (N := some 142) (v := ?_) (a' := ?_) #[true, true, true, true, false, false, false, false, false, false, false, false, false, false, false, false, false, false, false, false, false, false, false, false, false, false, false, false, false, false, false, false, false] rfl rfl (any_of HT_.out (by kernel_rfl)) (fun _ _ _ h => h) (Or.inl ⟨by rfl, ?_⟩) ?_ ?_
                    rotate_left
                    · intro w'
                      go_simp
                      with_reducible rfl
                    rotate_left
                    · simp only [Act.put, List.setIfInBounds_toArray, List.set_cons_zero, List.set_cons_succ, i64_w, i32_w]
                      rfl
                    refine pure_ (i := 4) (N := some 143) (v := ?_) (a' := ?_) #[true, true, true, true, true, false, false, false, false, false, false, false, false, false, false, false, false, false, false, false, false, false, false, false, false, false, false, false, false, false, false, false, false] rfl rfl (any_of HT_.out (by kernel_rfl)) (fun _ _ _ h => h) (Or.inl ⟨by rfl, ?_⟩) ?_ ?_
                    rotate_left
                    · intro w'
                      go_simp
                      with_reducible rfl
                    rotate_left
                    · simp only [Act.put, List.setIfInBounds_toArray, List.set_cons_zero, List.set_cons_succ, i64_w, i32_w]
                      rfl
                    refine pure_ (i := 5) (N := some 144) (v := ?_) (a' := ?_) #[true, true, true, true, true, true, false, false, false, false, false, false, false, false, false, false, false, false, false, false, false, false, false, false, false, false, false, false, false, false, false, false, false] rfl rfl (any_of HT_.out (by kernel_rfl)) (fun _ _ _ h => h) (Or.inl ⟨by rfl, ?_⟩) ?_ ?_
                    rotate_left
                    · intro w'
                      go_simp
                      with_reducible rfl
                    rotate_left
                    · simp only [Act.put, List.setIfInBounds_toArray, List.set_cons_zero, List.set_cons_succ, i64_w, i32_w]
                      rfl
                    refine pure_ (i := 6) (N := some 145) (v := ?_) (a' := ?_) #[true, true, true, true, true, true, true, false, false, false, false, false, false, false, false, false, false, false, false, false, false, false, false, false, false, false, false, false, false, false, false, false, false] rfl rfl (any_of HT_.out (by kernel_rfl)) (fun _ _ _ h => h) (Or.inl ⟨by rfl, ?_⟩) ?_ ?_
                    rotate_left
                    · intro w'
                      go_simp
                      with_reducible rfl
                    rotate_left
                    · simp only [Act.put, List.setIfInBounds_toArray, List.set_cons_zero, List.set_cons_succ, i64_w, i32_w]
                      rfl
                    refine pure_ (i := 7) (N := some 146) (v := ?_) (a' := ?_) #[true, true, true, true, true, true, true, true, false, false, false, false, false, false, false, false, false, false, false, false, false, false, false, false, false, false, false, false, false, false, false, false, false] rfl rfl (any_of HT_.out (by kernel_rfl)) (fun _ _ _ h => h) (Or.inl ⟨by rfl, ?_⟩) ?_ ?_
                    rotate_left
                    · intro w'
                      go_simp
                      with_reducible rfl
                    rotate_left
                    · simp only [Act.put, List.setIfInBounds_toArray, List.set_cons_zero, List.set_cons_succ, i64_w, i32_w]
                      rfl
                    refine take_ (i := 8) (N := some 147) (v := ?_) (a' := ?_) #[true, true, true, true, true, true, true, true, true, false, false, false, false, false, false, false, false, false, false, false, false, false, false, false, false, false, false, false, false, false, false, false, false] rfl rfl (take_ofW HT_.out HW_.out (by kernel_rfl)) (fun _ _ _ h => h) (Or.inl ⟨by rfl, ?_⟩) hHeld ?_ ?_
                    rotate_left
                    · rintro w' ⟨s0, s1, s2, s3, s4, s5, s6, s7, s8, s9, s10, s11, s12, s13, s14, s15, s16⟩
                      go_simp
                      with_reducible rfl
                    rotate_left
                    · simp only [Act.put, List.setIfInBounds_toArray, List.set_cons_zero, List.set_cons_succ, i64_w, i32_w]
                      rfl
                    refine take_ (i := 9) (N := some 148) (v := ?_) (a' := ?_) #[true, true, true, true, true, true, true, true, true, true, false, false, false, false, false, false, false, false, false, false, false, false, false, false, false, false, false, false, false, false, false, false, false] rfl rfl (take_ofW HT_.out HW_.out (by kernel_rfl)) (fun _ _ _ h => h) (Or.inl ⟨by rfl, ?_⟩) hHeld ?_ ?_
                    rotate_left
                    · rintro w' ⟨s0, s1, s2, s3, s4, s5, s6, s7, s8, s9, s10, s11, s12, s13, s14, s15, s16⟩
                      go_simp
                      with_reducible rfl
                    rotate_left
                    · simp only [Act.put, List.setIfInBounds_toArray, List.set_cons_zero, List.set_cons_succ, i64_w, i32_w]
                      rfl
                    refine one_ (i := 10) (N := some 149) #[true, true, true, true, true, true, true, true, true, true, true, false, false, false, false, false, false, false, false, false, false, false, false, false, false, false, false, false, false, false, false, false, false] rfl rfl (one_of HT_.out (by kernel_rfl)) (by decide) (fun K hK => ?_)
                    refine goes_ Try.func16 (by kernel_rfl) rfl #[.agg #[.int .i64 f.e.f0, .int .i64 f.e.f1, .int .u64 f.e.f2, .int .i64 f.e.f3.f0, .int .i64 f.e.f3.f1, .int .i64 f.e.f4, .slice f.A f.e.f5.length f.c, .int .u64 f.e.f6], .agg #[.int .i64 f2.e.f0, .int .i64 f2.e.f1, .int .u64 f2.e.f2, .int .i64 f2.e.f3.f0, .int .i64 f2.e.f3.f1, .int .i64 f2.e.f4, .slice f2.A f2.e.f5.length f2.c, .int .u64 f2.e.f6]] (by rfl) rfl rfl (by simp only [List.map_toArray, List.map_cons, List.map_nil]; rfl) ?_
                    with_reducible refine (fsame_calls f f2 _ HFE.out (HRF.out.below (below_drew1 (Below.refl _ _))) (HRF2.out.below (below_drew1 (Below.refl _ _))) HFL.out).mono ?_
                    rintro e w10 ⟨rfl, hb10⟩
                    refine ⟨_, rfl, ?_⟩
                    have hB10 : Below wx.heap.size wx w10 := below_step (below_drew1 (Below.refl _ _)) hb10
                    refine hK.out _ _ ⟨(pw_cell_below hB10 a0), (pw_cell_below hB10 a1), (pw_cell_below hB10 a2), (pw_cell_below hB10 a3), (pw_cell_below hB10 a4), (pw_cell_below hB10 a5), (pw_cell_below hB10 a6), (pw_cell_below hB10 a7), (pw_cell_below hB10 b0), (pw_cell_below hB10 b1), (pw_cell_below hB10 b2), (pw_cell_below hB10 b3), (pw_cell_below hB10 b4), (pw_cell_below hB10 b5), (pw_cell_below hB10 b6), (pw_cell_below hB10 b7), (pw_cell_below hB10 hcr)⟩ (fun hHeld => ?_)
                    clear hK K
                    refine norm_ (a' := ?_) ?_ ?_
                    rotate_left
                    · show Act.put _ (some 149) _ = _
                      simp only [Act.put, List.setIfInBounds_toArray, List.set_cons_zero, List.set_cons_succ, i64_w, i32_w]
                      rfl
                    refine pure_ (i := 11) (N := some 150) (v := ?_) (a' := ?_) #[true, true, true, true, true, true, true, true, true, true, true, true, false, false, false, false, false, false, false, false, false, false, false, false, false, false, false, false, false, false, false, false, false] rfl rfl (any_of HT_.out (by kernel_rfl)) (fun _ _ _ h => h) (Or.inl ⟨by rfl, ?_⟩) ?_ ?_
                    rotate_left
                    · intro w'
                      go_simp
                      with_reducible rfl
                    rotate_left
                    · simp only [Act.put, List.setIfInBounds_toArray, List.set_cons_zero, List.set_cons_succ, i64_w, i32_w]
                      rfl
                    refine pure_ (i := 12) (N := some 151) (v := ?_) (a' := ?_) #[true, true, true, true, true, true, true, true, true, true, true, true, true, false, false, false, false, false, false, false, false, false, false, false, false, false, false, false, false, false, false, false, false] rfl rfl (any_of HT_.out (by kernel_rfl)) (fun _ _ _ h => h) (Or.inl ⟨by rfl, ?_⟩) ?_ ?_
                    rotate_left
                    · intro w'
                      go_simp
                      with_reducible rfl
                    rotate_left
                    · simp only [Act.put, List.setIfInBounds_toArray, List.set_cons_zero, List.set_cons_succ, i64_w, i32_w]
                      rfl
                    refine pure_ (i := 13) (N := some 152) (v := ?_) (a' := ?_) #[true, true, true, true, true, true, true, true, true, true, true, true, true, true, false, false, false, false, false, false, false, false, false, false, false, false, false, false, false, false, false, false, false] rfl rfl (any_of HT_.out (by kernel_rfl)) (fun _ _ _ h => h) (Or.inl ⟨by rfl, ?_⟩) ?_ ?_
                    rotate_left
                    · intro w'
                      go_simp
                      with_reducible rfl
                    rotate_left
                    · simp only [Act.put, List.setIfInBounds_toArray, List.set_cons_zero, List.set_cons_succ, i64_w, i32_w]
                      rfl
                    refine pure_ (i := 14) (N := some 153) (v := ?_) (a' := ?_) #[true, true, true, true, true, true, true, true, true, true, true, true, true, true, true, false, false, false, false, false, false, false, false, false, false, false, false, false, false, false, false, false, false] rfl rfl (any_of HT_.out (by kernel_rfl)) (fun _ _ _ h => h) (Or.inl ⟨by rfl, ?_⟩) ?_ ?_
                    rotate_left
                    · intro w'
                      go_simp
                      with_reducible rfl
                    rotate_left
                    · simp only [Act.put, List.setIfInBounds_toArray, List.set_cons_zero, List.set_cons_succ, i64_w, i32_w]
                      rfl
                    refine pure_ (i := 16) (N := some 155) (v := ?_) (a' := ?_) #[true, true, true, true, true, true, true, true, true, true, true, true, true, true, true, false, true, false, false, false, false, false, false, false, false, false, false, false, false, false, false, false, false] rfl rfl (any_of HT_.out (by kernel_rfl)) (fun _ _ _ h => h) (Or.inl ⟨by rfl, ?_⟩) ?_ ?_
                    rotate_left
                    · intro w'
                      go_simp
                      with_reducible rfl
                    rotate_left
                    · simp only [Act.put, List.setIfInBounds_toArray, List.set_cons_zero, List.set_cons_succ, i64_w, i32_w]
                      rfl
                    refine pure_ (i := 17) (N := some 156) (v := ?_) (a' := ?_) #[true, true, true, true, true, true, true, true, true, true, true, true, true, true, true, false, true, true, false, false, false, false, false, false, false, false, false, false, false, false, false, false, false] rfl rfl (any_of HT_.out (by kernel_rfl)) (fun _ _ _ h => h) (Or.inl ⟨by rfl, ?_⟩) ?_ ?_
                    rotate_left
                    · intro w'
                      go_simp
                      with_reducible rfl
                    rotate_left
                    · simp only [Act.put, List.setIfInBounds_toArray, List.set_cons_zero, List.set_cons_succ, i64_w, i32_w]
                      rfl
                    refine pure_ (i := 18) (N := some 157) (v := ?_) (a' := ?_) #[true, true, true, true, true, true, true, true, true, true, true, true, true, true, true, false, true, true, true, false, false, false, false, false, false, false, false, false, false, false, false, false, false] rfl rfl (any_of HT_.out (by kernel_rfl)) (fun _ _ _ h => h) (Or.inl ⟨by rfl, ?_⟩) ?_ ?_
                    rotate_left
                    · intro w'
                      go_simp
                      with_reducible rfl
                    rotate_left
                    · simp only [Act.put, List.setIfInBounds_toArray, List.set_cons_zero, List.set_cons_succ, i64_w, i32_w]
                      rfl
                    refine take_ (i := 19) (N := some 158) (v := ?_) (a' := ?_) #[true, true, true, true, true, true, true, true, true, true, true, true, true, true, true, false, true, true, true, true, false, false, false, false, false, false, false, false, false, false, false, false, false] rfl rfl (take_ofW HT_.out HW_.out (by kernel_rfl)) (fun _ _ _ h => h) (Or.inl ⟨by rfl, ?_⟩) hHeld ?_ ?_
                    rotate_left
                    · rintro w' ⟨s0, s1, s2, s3, s4, s5, s6, s7, s8, s9, s10, s11, s12, s13, s14, s15, s16⟩
                      go_simp
                      with_reducible rfl
                    rotate_left
                    · simp only [Act.put, List.setIfInBounds_toArray, List.set_cons_zero, List.set_cons_succ, i64_w, i32_w]
                      rfl
                    refine pure_ (i := 20) (N := some 159) (v := ?_) (a' := ?_) #[true, true, true, true, true, true, true, true, true, true, true, true, true, true, true, false, true, true, true, true, true, false, false, false, false, false, false, false, false, false, false, false, false] rfl rfl (any_of HT_.out (by kernel_rfl)) (fun _ _ _ h => h) (Or.inl ⟨by rfl, ?_⟩) ?_ ?_
                    rotate_left
                    · intro w'
                      go_simp
                      with_reducible rfl
                    rotate_left
                    · simp only [Act.put, List.setIfInBounds_toArray, List.set_cons_zero, List.set_cons_succ, i64_w, i32_w]
                      rfl
                    refine one_ (i := 15) (N := some 154) #[true, true, true, true, true, true, true, true, true, true, true, true, true, true, true, true, true, true, true, true, true, false, false, false, false, false, false, false, false, false, false, false, false] rfl rfl (one_of HT_.out (by kernel_rfl)) (by decide) (fun K hK => ?_)
                    refine goes_ Try.func13 (by kernel_rfl) rfl #[.pointer (some ⟨gb, 0, none⟩)] (by rfl) rfl rfl (by simp only [List.map_toArray, List.map_cons, List.map_nil]; rfl) ?_
                    with_reducible refine (blen_n w.heap.size gb n most vb (ks.map (·.e)) _ (HBUF.out.below hB10) HNL.out).mono ?_
                    rintro e w15 ⟨rfl, hb15⟩
                    refine ⟨_, rfl, ?_⟩
                    have hB15 : Below wx.heap.size wx w15 := below_step hB10 hb15
                    refine hK.out _ _ ⟨(pw_cell_below hB15 a0), (pw_cell_below hB15 a1), (pw_cell_below hB15 a2), (pw_cell_below hB15 a3), (pw_cell_below hB15 a4), (pw_cell_below hB15 a5), (pw_cell_below hB15 a6), (pw_cell_below hB15 a7), (pw_cell_below hB15 b0), (pw_cell_below hB15 b1), (pw_cell_below hB15 b2), (pw_cell_below hB15 b3), (pw_cell_below hB15 b4), (pw_cell_below hB15 b5), (pw_cell_below hB15 b6), (pw_cell_below hB15 b7), (pw_cell_below hB15 hcr)⟩ (fun hHeld => ?_)
                    clear hK K
                    refine norm_ (a' := ?_) ?_ ?_
                    rotate_left
                    · show Act.put _ (some 154) _ = _
                      simp only [Act.put, List.setIfInBounds_toArray, List.set_cons_zero, List.set_cons_succ, i64_w, i32_w]
                      rfl
                    refine pure_ (i := 21) (N := some 160) (v := ?_) (a' := ?_) #[true, true, true, true, true, true, true, true, true, true, true, true, true, true, true, true, true, true, true, true, true, true, false, false, false, false, false, false, false, false, false, false, false] rfl rfl (any_of HT_.out (by kernel_rfl)) (fun _ _ _ h => h) (Or.inl ⟨by rfl, ?_⟩) ?_ ?_
                    rotate_left
                    · intro w'
                      go_simp
                      with_reducible rfl
                    rotate_left
                    · simp only [Act.put, List.setIfInBounds_toArray, List.set_cons_zero, List.set_cons_succ, i64_w, i32_w]
                      rfl
                    refine pure_ (i := 22) (N := some 161) (v := ?_) (a' := ?_) #[true, true, true, true, true, true, true, true, true, true, true, true, true, true, true, true, true, true, true, true, true, true, true, false, false, false, false, false, false, false, false, false, false] rfl rfl (any_of HT_.out (by kernel_rfl)) (fun _ _ _ h => h) (Or.inl ⟨by rfl, ?_⟩) ?_ ?_
                    rotate_left
                    · intro w'
                      go_simp
                      with_reducible rfl
                    rotate_left
                    · simp only [Act.put, List.setIfInBounds_toArray, List.set_cons_zero, List.set_cons_succ, i64_w, i32_w]
                      rfl
                    refine pure_ (i := 23) (N := some 162) (v := ?_) (a' := ?_) #[true, true, true, true, true, true, true, true, true, true, true, true, true, true, true, true, true, true, true, true, true, true, true, true, false, false, false, false, false, false, false, false, false] rfl rfl (any_of HT_.out (by kernel_rfl)) (fun _ _ _ h => h) (Or.inl ⟨by rfl, ?_⟩) ?_ ?_
                    rotate_left
                    · intro w'
                      go_simp
                      with_reducible rfl
                    rotate_left
                    · simp only [Act.put, List.setIfInBounds_toArray, List.set_cons_zero, List.set_cons_succ, i64_w, i32_w]
                      rfl
                    refine pure_ (i := 24) (N := some 163) (v := ?_) (a' := ?_) #[true, true, true, true, true, true, true, true, true, true, true, true, true, true, true, true, true, true, true, true, true, true, true, true, true, false, false, false, false, false, false, false, false] rfl rfl (any_of HT_.out (by kernel_rfl)) (fun _ _ _ h => h) (Or.inl ⟨by rfl, ?_⟩) ?_ ?_
                    rotate_left
                    · intro w'
                      go_simp
                      with_reducible rfl
                    rotate_left
                    · simp only [Act.put, List.setIfInBounds_toArray, List.set_cons_zero, List.set_cons_succ, i64_w, i32_w]
                      rfl
                    refine pure_ (i := 26) (N := some 165) (v := ?_) (a' := ?_) #[true, true, true, true, true, true, true, true, true, true, true, true, true, true, true, true, true, true, true, true, true, true, true, true, true, false, true, false, false, false, false, false, false] rfl rfl (any_of HT_.out (by kernel_rfl)) (fun _ _ _ h => h) (Or.inl ⟨by rfl, ?_⟩) ?_ ?_
                    rotate_left
                    · intro w'
                      go_simp
                      with_reducible rfl
                    rotate_left
                    · simp only [Act.put, List.setIfInBounds_toArray, List.set_cons_zero, List.set_cons_succ, i64_w, i32_w]
                      rfl
                    refine pure_ (i := 27) (N := some 166) (v := ?_) (a' := ?_) #[true, true, true, true, true, true, true, true, true, true, true, true, true, true, true, true, true, true, true, true, true, true, true, true, true, false, true, true, false, false, false, false, false] rfl rfl (any_of HT_.out (by kernel_rfl)) (fun _ _ _ h => h) (Or.inl ⟨by rfl, ?_⟩) ?_ ?_
                    rotate_left
                    · intro w'
                      go_simp
                      with_reducible rfl
                    rotate_left
                    · simp only [Act.put, List.setIfInBounds_toArray, List.set_cons_zero, List.set_cons_succ, i64_w, i32_w]
                      rfl
                    refine pure_ (i := 28) (N := some 167) (v := ?_) (a' := ?_) #[true, true, true, true, true, true, true, true, true, true, true, true, true, true, true, true, true, true, true, true, true, true, true, true, true, false, true, true, true, false, false, false, false] rfl rfl (any_of HT_.out (by kernel_rfl)) (fun _ _ _ h => h) (Or.inl ⟨by rfl, ?_⟩) ?_ ?_
                    rotate_left
                    · intro w'
                      go_simp
                      with_reducible rfl
                    rotate_left
                    · simp only [Act.put, List.setIfInBounds_toArray, List.set_cons_zero, List.set_cons_succ, i64_w, i32_w]
                      rfl
                    refine take_ (i := 29) (N := some 168) (v := ?_) (a' := ?_) #[true, true, true, true, true, true, true, true, true, true, true, true, true, true, true, true, true, true, true, true, true, true, true, true, true, false, true, true, true, true, false, false, false] rfl rfl (take_ofW HT_.out HW_.out (by kernel_rfl)) (fun _ _ _ h => h) (Or.inl ⟨by rfl, ?_⟩) hHeld ?_ ?_
                    rotate_left
                    · rintro w' ⟨s0, s1, s2, s3, s4, s5, s6, s7, s8, s9, s10, s11, s12, s13, s14, s15, s16⟩
                      go_simp
                      with_reducible rfl
                    rotate_left
                    · simp only [Act.put, List.setIfInBounds_toArray, List.set_cons_zero, List.set_cons_succ, i64_w, i32_w]
                      rfl
                    refine one_ (i := 25) (N := some 164) #[true, true, true, true, true, true, true, true, true, true, true, true, true, true, true, true, true, true, true, true, true, true, true, true, true, true, true, true, true, true, false, false, false] rfl rfl (one_of HT_.out (by kernel_rfl)) (by decide) (fun K hK => ?_)
                    refine goes_ Try.func10 (by kernel_rfl) rfl #[.pointer (some ⟨gb, 0, none⟩)] (by rfl) rfl rfl (by simp only [List.map_toArray, List.map_cons, List.map_nil]; rfl) ?_
                    with_reducible refine (ball w.heap.size gb most vb (ks.map (·.e)) _ (HBUF.out.below hB15)).mono ?_
                    rintro e w25 ⟨os, Ao, co, rfl, hPo, hPm, hSo, hb25, -⟩
                    refine ⟨_, rfl, ?_⟩
                    have hB25 : Below wx.heap.size wx w25 := below_step hB15 hb25
                    refine hK.out _ _ ⟨(pw_cell_below hB25 a0), (pw_cell_below hB25 a1), (pw_cell_below hB25 a2), (pw_cell_below hB25 a3), (pw_cell_below hB25 a4), (pw_cell_below hB25 a5), (pw_cell_below hB25 a6), (pw_cell_below hB25 a7), (pw_cell_below hB25 b0), (pw_cell_below hB25 b1), (pw_cell_below hB25 b2), (pw_cell_below hB25 b3), (pw_cell_below hB25 b4), (pw_cell_below hB25 b5), (pw_cell_below hB25 b6), (pw_cell_below hB25 b7), (pw_cell_below hB25 hcr)⟩ (fun hHeld => ?_)
                    clear hK K
                    refine norm_ (a' := ?_) ?_ ?_
                    rotate_left
                    · show Act.put _ (some 164) _ = _
                      simp only [Act.put, List.setIfInBounds_toArray, List.set_cons_zero, List.set_cons_succ, i64_w, i32_w]
                      rfl
                    refine one_ (i := 30) (N := some 169) #[true, true, true, true, true, true, true, true, true, true, true, true, true, true, true, true, true, true, true, true, true, true, true, true, true, true, true, true, true, true, true, false, false] rfl rfl (one_of HT_.out (by kernel_rfl)) (by decide) (fun K hK => ?_)
                    refine goes_ Try.func12 (by kernel_rfl) rfl #[.slice Ao os.length co, .slice Ar n cr] (by rfl) rfl rfl (by simp only [List.map_toArray, List.map_cons, List.map_nil]; rfl) ?_
                    with_reducible refine (fall_mix _ _ w.heap.size Ao Ar co cr n os ks hPo (HREF.out.row.below hB25) (fun q hq => (HREF.out.rdp hq).below hB25) (srt_eq hSo HGK.out.srt hPm ((hPm.map keyE).nodup_iff.2 HGK.out.nodup)) HNK.out (by have := HGK.out.len; omega) (fun q hq => good_small HGK.out hq)).mono ?_
                    rintro e w30 ⟨rfl, hb30⟩
                    refine ⟨_, rfl, ?_⟩
                    have hB30 : Below wx.heap.size wx w30 := below_step hB25 hb30
                    refine hK.out _ _ ⟨(pw_cell_below hB30 a0), (pw_cell_below hB30 a1), (pw_cell_below hB30 a2), (pw_cell_below hB30 a3), (pw_cell_below hB30 a4), (pw_cell_below hB30 a5), (pw_cell_below hB30 a6), (pw_cell_below hB30 a7), (pw_cell_below hB30 b0), (pw_cell_below hB30 b1), (pw_cell_below hB30 b2), (pw_cell_below hB30 b3), (pw_cell_below hB30 b4), (pw_cell_below hB30 b5), (pw_cell_below hB30 b6), (pw_cell_below hB30 b7), (pw_cell_below hB30 hcr)⟩ (fun hHeld => ?_)
                    clear hK K
                    refine norm_ (a' := ?_) ?_ ?_
                    rotate_left
                    · show Act.put _ (some 169) _ = _
                      simp only [Act.put, List.setIfInBounds_toArray, List.set_cons_zero, List.set_cons_succ, i64_w, i32_w]
                      rfl
                    refine pure_ (i := 31) (N := some 170) (v := ?_) (a' := ?_) #[true, true, true, true, true, true, true, true, true, true, true, true, true, true, true, true, true, true, true, true, true, true, true, true, true, true, true, true, true, true, true, true, false] rfl rfl (any_of HT_.out (by kernel_rfl)) (fun _ _ _ h => h) (Or.inl ⟨by rfl, ?_⟩) ?_ ?_
                    rotate_left
                    · intro w'
                      go_simp
                      with_reducible rfl
                    rotate_left
                    · simp only [Act.put, List.setIfInBounds_toArray, List.set_cons_zero, List.set_cons_succ, i64_w, i32_w]
                      rfl
                    refine pure_ (i := 32) (N := some 171) (v := ?_) (a' := ?_) #[true, true, true, true, true, true, true, true, true, true, true, true, true, true, true, true, true, true, true, true, true, true, true, true, true, true, true, true, true, true, true, true, true] rfl rfl (any_of HT_.out (by kernel_rfl)) (fun _ _ _ h => h) (Or.inl ⟨by rfl, ?_⟩) ?_ ?_
                    rotate_left
                    · intro w'
                      go_simp
                      with_reducible rfl
                    rotate_left
                    · simp only [Act.put, List.setIfInBounds_toArray, List.set_cons_zero, List.set_cons_succ, i64_w, i32_w]
                      rfl
                    refine done_ (done_of HT_.out (by kernel_rfl)) ?_
                    have HSE : Aside0 (StZ w w30 gb gr most (ks.map (·.e)) ks) := ⟨StZ.below ⟨vb, _, HBUF.out, HREF.out, HDIS.out⟩ hB30⟩
                    clear hB10 hB15 hB25 hB30 hb10 hb15 hb25 hb30 hPo hPm hSo hcr a0 a1 a2 a3 a4 a5 a6 a7 b0 b1 b2 b3 b4 b5 b6 b7 hib hnb
                    have hk : (-1000000 : Int) ≤ (j : Int) + 1 ∧ (j : Int) + 1 ≤ 1000000 := by have := HL60.out; have := HJL.out; omega
                    have hw1 := iw (x := (j : Int) + 1) rfl hk
                    have hw2 := w64 (x := (j : Int) + 1) rfl hk
                    clear hk
                    go_wp2
                    clear hw1 hw2
                    go_roundg (l.length - (j + 1))
                    case measure => rw [HG.out]; have := HJL.out; omega
                    case rel => exact ⟨j + 1, ks, rfl, by simp, by have := HJL.out; omega, ⟨HSE.out.below (by with_reducible repeat (first | exact Below.refl _ _ | apply pw_below_drewN | apply below_drew1))⟩, HGK⟩
          · have hlt : ¬ (j : Int) < l.length := by omega
            clear hj hjl
            go_wp2
            go_ret
            exact ⟨rfl, HS.out.low0⟩
end Go.Proofs.Ytekhpogigndlkaa.K

/- cachetteref06.All on a list and itself; lists in order; nil ways. The law BufferFull. -/
import Derived.Test.YtekhpogigndlkaaMG
namespace Go.Proofs.Ytekhpogigndlkaa.K
open Go.RowKit Go.Proofs.YtekhpogigndlkaaW.PrintWords Go.Proofs.YtekhpogigndlkaaW.PrintLast Go.Proofs.YtekhpogigndlkaaW.PrintMore
set_option linter.unusedVariables false
set_option linter.unusedSimpArgs false

theorem rsame_l (x : List Int) (hx : x.length ≤ 1000000) : ∀ (k n : Nat), x.length < n + k → n ≤ x.length → X.cachetteref01_Same.l0 k x x (n : Int) = some true
  | 0, n, h1, h2 => by omega
  | k + 1, n, h1, h2 => by
    unfold X.cachetteref01_Same.l0
    by_cases h : n < x.length
    · rw [if_pos (show (n : Int) < (x.length : Int) by omega), if_pos (show (0 : Int) ≤ n by omega), if_pos (show (n : Int) < (x.length : Int) by omega), if_pos rfl, w64 (x := (n : Int) + 1) (y := ((n + 1 : Nat) : Int)) (by simp) (by omega)]
      exact rsame_l x hx k (n + 1) (by omega) (by omega)
    · rw [if_neg (by omega)]
theorem rsame_f (x : List Int) (hx : x.length ≤ 1000000) (k : Nat) (hk : x.length < k) : X.cachetteref01_Same.f k x x = some true := by
  rw [X.cachetteref01_Same.f, if_pos rfl]
  exact rsame_l x hx k 0 (by omega) (Nat.zero_le _)
theorem esame_refl (e : En) (he : e.f5.length ≤ 1000000) (k : Nat) (hk : e.f5.length < k) : X.cachetteref06_Same.f k e.f0 e.f1 e.f2 e.f3.f0 e.f3.f1 e.f4 e.f5 e.f6 e.f0 e.f1 e.f2 e.f3.f0 e.f3.f1 e.f4 e.f5 e.f6 = some true := by
  unfold X.cachetteref06_Same.f
  simp [rsame_f e.f5 he k hk]
theorem all_l (x : List En) (hx : x.length ≤ 100000) (hb : ∀ e ∈ x, e.f5.length ≤ 1100) : ∀ (k n : Nat), x.length + 2000 < n + k → n ≤ x.length → X.cachetteref06_All.l0 k x x (n : Int) = some true
  | 0, n, h1, h2 => by omega
  | k + 1, n, h1, h2 => by
    unfold X.cachetteref06_All.l0
    by_cases h : n < x.length
    · have hm : X.rd_T33 x (n : Int) ∈ x := by
        unfold X.rd_T33
        rw [Int.toNat_natCast, List.getD_eq_getElem?_getD, List.getElem?_eq_getElem h]
        exact List.getElem_mem h
      have hb' := hb _ hm
      rw [if_pos (show (n : Int) < (x.length : Int) by omega), if_pos (show (0 : Int) ≤ n by omega), if_pos (show (n : Int) < (x.length : Int) by omega), esame_refl _ (by omega) k (by omega), Option.bind_some, if_pos rfl, w64 (x := (n : Int) + 1) (y := ((n + 1 : Nat) : Int)) (by simp) (by omega)]
      exact all_l x hx hb k (n + 1) (by omega) (by omega)
    · rw [if_neg (by omega)]
theorem all_f (x : List En) (hx : x.length ≤ 100000) (hb : ∀ e ∈ x, e.f5.length ≤ 1100) : X.cachetteref06_All.f 200000 x x = some true := by
  rw [X.cachetteref06_All.f, if_pos rfl]
  exact all_l x hx hb 200000 0 (by omega) (Nat.zero_le _)
/-- What is in order and has each key once is one list. -/
theorem srt_eq : ∀ {l m : List En}, srt l → srt m → l.Perm m → (l.map keyE).Nodup → l = m
  | [], m, _, _, hp, _ => by
    have := hp.length_eq
    exact (List.eq_nil_of_length_eq_zero (by simpa using this.symm)).symm
  | a :: l, [], _, _, hp, _ => by simpa using hp.length_eq
  | a :: l, b :: m, hl, hm, hp, hn => by
    have hl' := List.pairwise_cons.1 hl
    have hm' := List.pairwise_cons.1 hm
    have hab : a = b := by
      rcases List.mem_cons.1 (hp.mem_iff.1 List.mem_cons_self) with h | h
      · exact h
      · rcases List.mem_cons.1 (hp.mem_iff.2 List.mem_cons_self) with h' | h'
        · exact h'.symm
        · have hk : keyE a = keyE b := ltK.eq (hm'.1 a h) (hl'.1 b h')
          exfalso
          rw [List.map_cons, List.nodup_cons] at hn
          exact hn.1 (by rw [hk]; exact List.mem_map.2 ⟨b, h', rfl⟩)
    subst hab
    rw [srt_eq hl'.2 hm'.2 ((List.perm_cons a).1 hp) (by rw [List.map_cons, List.nodup_cons] at hn; exact hn.2)]
/-- A row of All's and another one. -/
theorem fall_calls (w : World) (base base' : Nat) (A A' : Option Addr) (c c' : Nat) (os os' : List EP) (h : PlR w base (.slice A os.length c) os) (h' : PlR w base' (.slice A' os'.length c') os') (he : os.map (·.e) = os'.map (·.e)) (hl : os.length ≤ 100000) (hb : ∀ p ∈ os, p.e.f5.length ≤ 1100) :
    Calls Try.prog 12 #[.slice A os.length c, .slice A' os'.length c'] w fun e w' => e = .returned (.bool true) ∧ Below w.heap.size w w' := by
  obtain ⟨A1, c1, e1, hc1, hC1⟩ := h.reads
  injection e1 with e2 _ e3
  subst e2 e3
  obtain ⟨A2, c2, e1, hc2, hC2⟩ := h'.reads
  injection e1 with e2 _ e3
  subst e2 e3
  rw [← he] at hC2
  have hl1 : (os.map (·.e)).length = os.length := List.length_map _
  have hl2 : os.length = os'.length := by simpa using congrArg List.length he
  have hb' : ∀ e ∈ os.map (·.e), e.f5.length ≤ 1100 := fun e he => by
    obtain ⟨p, hp, rfl⟩ := List.mem_map.1 he
    exact hb p hp
  have := X.cachetteref06_All.calls 200000 A c (os.map (·.e)) A' c' (os.map (·.e)) true w hC1 (by rw [hl1]; exact hc1) hC2 (by rw [hl1, hl2]; exact hc2) (all_f _ (by rw [hl1]; exact hl) hb')
  rw [hl1] at this
  rw [← hl2]
  exact this
theorem drop_nil (x y : Int) (w : World) : Calls Try.prog 21 #[.pointer none, .int .i64 x, .int .i64 y] w fun e w' => e = .returned (.int .i64 0) ∧ Below w.heap.size w w' := by
  go_enter Try.func21, Try.ntmps21
  go_wp2
  go_ret
  exact ⟨rfl, below_alloc (below_alloc (Below.refl _ _) _) _⟩
theorem holdK_full {most : Int} {L : List En} {e : En} (h : holdK most L e = 3) : most ≤ L.length := by
  unfold holdK at h
  split at h
  · split at h
    · split at h <;> simp at h
    · split at h
      · assumption
      · simp at h
  · simp at h
theorem holdK_ok {most : Int} {L : List En} {e : En} (h : holdK most L e = 0) : ¬ most ≤ L.length := by
  unfold holdK at h
  split at h
  · split at h
    · split at h <;> simp at h
    · split at h
      · simp at h
      · assumption
  · simp at h
end Go.Proofs.Ytekhpogigndlkaa.K

namespace Go.Proofs.Ytekhpogigndlkaa.K
open Go.RowKit Go.Proofs.YtekhpogigndlkaaW.PrintWords Go.Proofs.YtekhpogigndlkaaW.PrintLast Go.Proofs.YtekhpogigndlkaaW.PrintMore
set_option linter.unusedVariables false
set_option linter.unusedSimpArgs false

/-- Two rows of All's. -/
theorem rows_eq {w : World} {base g : Nat} {most : Int} {v : Value} {L : List En} {us ws : List EP} (h : Buf w base g most v L) (hu : (us.map (·.e)).Perm L) (hw : (ws.map (·.e)).Perm L) (su : srt (us.map (·.e))) (sw : srt (ws.map (·.e))) : us.map (·.e) = ws.map (·.e) ∧ us.length ≤ 100000 ∧ ∀ p ∈ us, p.e.f5.length ≤ 1100 := by
  refine ⟨srt_eq su sw (hu.trans hw.symm) ((hu.map keyE).nodup_iff.2 h.nodup), ?_, fun p hp => ?_⟩
  · have h1 := hu.length_eq
    have h2 := h.len.1
    simp only [List.length_map] at h1
    omega
  · have := h.rights p.e (hu.mem_iff.1 (List.mem_map.2 ⟨p, hp, rfl⟩))
    simp only [rightE, decide_eq_true_eq] at this
    exact this.2.2.2.2.2.2.2.2.2
set_option maxRecDepth 100000 in
set_option maxHeartbeats 16000000 in
theorem full_walk (most : Int) (v : Value) (l : List En) (w : World) (hv : ERd w v l) (hbb : ∀ e ∈ l, ∀ x ∈ e.f5, 0 ≤ x ∧ x ≤ 255) :
    Calls Try.prog 6 #[.int .i64 most, v] w fun e w' => e = .returned (.bool true) ∧ Below w.heap.size w w' := by
  obtain ⟨A, c, rfl, hc, hC⟩ := hv
  have HC := Aside0.mk hC
  have HW := Aside0.mk (Below.refl w.heap.size w)
  clear hC hc hbb
  by_cases hm1 : most < 1
  · go_enter Try.func6, Try.ntmps6
    go_wp2_with (first | (go_at_call 7; go_must (refine (alive_calls _).mono ?_; rintro e wz ⟨rfl, hb⟩; have HBZ := Aside0.mk (HW.out.trans (hb.mono HW.out.size)); clear hb)))
    go_ret
    exact ⟨rfl, HBZ.out⟩
  by_cases hm2 : 16 < most
  · go_enter Try.func6, Try.ntmps6
    go_wp2_with (first | (go_at_call 7; go_must (refine (alive_calls _).mono ?_; rintro e wz ⟨rfl, hb⟩; have HBZ := Aside0.mk (HW.out.trans (hb.mono HW.out.size)); clear hb)))
    go_ret
    exact ⟨rfl, HBZ.out⟩
  by_cases h40 : (40 : Int) < l.length
  · go_enter Try.func6, Try.ntmps6
    go_wp2_with (first | (go_at_call 7; go_must (refine (alive_calls _).mono ?_; rintro e wz ⟨rfl, hb⟩; have HBZ := Aside0.mk (HW.out.trans (hb.mono HW.out.size)); clear hb)))
    go_ret
    exact ⟨rfl, HBZ.out⟩
  · have HL40 : Aside0 (l.length ≤ 40) := ⟨by omega⟩
    have HM : Aside0 (1 ≤ most ∧ most ≤ 16) := ⟨by omega⟩
    go_enter Try.func6, Try.ntmps6
    go_wp2_with (first
      | (go_at_call 8; go_must (refine (bnew w.heap.size most _ HM.out.1 HM.out.2 (Nat.le_refl _)).mono ?_; rintro e w1 ⟨g, rfl, h1, -, h2⟩; have HB1 := Aside0.mk h1; have HW1 := Aside0.mk h2; clear h1 h2)))
    go_loopg [7] l.length (fun gg v7 wr => ∃ (j : Nat) (vb : Value) (L : List En), gg = l.length - j ∧ v7 = .int .i64 j ∧ j ≤ l.length ∧ Aside0 (Buf wr w.heap.size g most vb L) ∧ Aside0 (Below w.heap.size w wr))
    case atStart => exact ⟨0, _, [], rfl, rfl, Nat.zero_le _, HB1, HW1⟩
    case round =>
      clear HB1 HW1
      obtain ⟨j, vb, L, hg, rfl, hj, HB, HWr⟩ := hrel
      have HG := Aside0.mk hg
      clear hg
      by_cases hjl : j < l.length
      · obtain ⟨ad, p, rfl, hp, hrd, x0, x1, x2, x3, x4, x5, x6, x7⟩ := ent_at (Kd.C_below HC.out HWr.out) hjl
        have HRD := Aside0.mk hrd
        have hlt : (j : Int) < l.length := by omega
        have h0 : (0 : Int) ≤ j := by omega
        have hk : (-1000000 : Int) ≤ (j : Int) + 1 ∧ (j : Int) + 1 ≤ 1000000 := by have := HL40.out; omega
        have hw1 := iw (x := (j : Int) + 1) rfl hk
        have hw2 := w64 (x := (j : Int) + 1) rfl hk
        have HJL := Aside0.mk hjl
        clear hrd hk hp hj hjl
        by_cases hbig : (1200 : Int) < p.e.f5.length
        · go_wp2_with (first | (go_at_call 7; go_must (refine (alive_calls _).mono ?_; rintro e wz ⟨rfl, hb⟩; have HBZ := Aside0.mk (HWr.out.trans (hb.mono HWr.out.size)); clear hb)))
          go_ret
          exact ⟨rfl, HBZ.out⟩
        · have HX := Aside0.mk (And.intro x0 (And.intro x1 (And.intro x2 (And.intro x3 (And.intro x4 (And.intro x5 (And.intro x6 x7)))))))
          clear x0 x1 x2 x3 x4 x5
          go_upto_region 12 with (first
            | (go_at_call 10; go_must (refine (ball w.heap.size g most vb L _ HB.out).mono ?_; rintro e w10 ⟨ws, Aw, cw, rfl, h1, h2, h3, h4, -⟩; have HRW := Aside0.mk h1; have HPW := Aside0.mk h2; have HSW := Aside0.mk h3; have HBW := Aside0.mk h4; have HB10 := Aside0.mk (HB.out.below h4); have HW10 := Aside0.mk (HWr.out.trans (h4.mono HWr.out.size)); clear h1 h2 h3 h4)))
          obtain ⟨y0, y1, y2, y3, y4, y5, y6, y7⟩ := HX.out
          have x0 := pw_cell_below HBW.out y0
          have x1 := pw_cell_below HBW.out y1
          have x2 := pw_cell_below HBW.out y2
          have x3 := pw_cell_below HBW.out y3
          have x4 := pw_cell_below HBW.out y4
          have x5 := pw_cell_below HBW.out y5
          have x6 := pw_cell_below HBW.out y6
          have x7 := pw_cell_below HBW.out y7
          clear y0 y1 y2 y3 y4 y5 y6 y7 HX
          obtain ⟨K, hK⟩ : ∃ K, holdK most L p.e = K := ⟨_, rfl⟩
          have HK := Aside0.mk hK
          have HWL : Aside0 (ws.length = L.length) := ⟨by simpa using HPW.out.length_eq⟩
          go_upto_region 13 with (first
            | (go_at_call 9; go_must (refine (bhold w.heap.size g most vb L p _ HB10.out (HRD.out.below HBW.out) HM.out.2).mono ?_; rintro e w44 ⟨rfl, v44, h1, h2, -, h3⟩; have HB44 := Aside0.mk h1; have HW44 := Aside0.mk (HB10.out.step h2 HW10.out); have HST := Aside0.mk h3; clear h1 h2 h3)))
          (try rw [HK.out])
          by_cases k0 : K = 0
          · subst k0
            have hnf : ¬ most ≤ (ws.length : Int) := by rw [HWL.out]; exact holdK_ok HK.out
            clear hK
            go_wp2
            clear hw1 hw2
            go_roundg (l.length - (j + 1))
            case measure => rw [HG.out]; have := HJL.out; omega
            case rel => exact ⟨j + 1, v44, _, rfl, by simp, by have := HJL.out; omega, HB44, HW44⟩
          · have hb44 := (HST.out (by rw [HK.out]; exact k0)).1
            have HLL : holdL most L p.e = L := by rw [holdL, if_neg (by rw [HK.out]; exact k0)]
            have HB45 : Aside0 (Buf w44 w.heap.size g most v44 L) := ⟨by have := HB44.out; rwa [HLL] at this⟩
            have HRW44 := Aside0.mk (HRW.out.below hb44)
            clear hb44 HLL HST
            by_cases k3 : K = 3
            · subst k3
              have hfull : (ws.length : Int) = most := by have h1 := holdK_full HK.out; have h2 := HB.out.len.2; have h3 := HWL.out; omega
              clear hK k0
              go_wp2_with (first
                | (go_at_call 10; go_must (refine (ball w.heap.size g most v44 L _ HB45.out).mono ?_; rintro e w79 ⟨us, Au, cu, rfl, h1, h2, h3, h4, -⟩; have HRU := Aside0.mk h1; have HPU := Aside0.mk h2; have HSU := Aside0.mk h3; have HRW79 := Aside0.mk (HRW44.out.below h4); have HB79 := Aside0.mk (HB45.out.below h4); have HW79 := Aside0.mk (HW44.out.trans (h4.mono HW44.out.size)); clear h1 h2 h3 h4))
                | (go_at_call 12; go_must (refine (fall_calls _ _ _ Au Aw cu cw us ws HRU.out HRW79.out (rows_eq HB.out HPU.out HPW.out HSU.out HSW.out).1 (rows_eq HB.out HPU.out HPW.out HSU.out HSW.out).2.1 (rows_eq HB.out HPU.out HPW.out HSU.out HSW.out).2.2).mono ?_; rintro e w81 ⟨rfl, hb⟩; have HB81 := Aside0.mk (HB79.out.below hb); have HW81 := Aside0.mk (HW79.out.trans (hb.mono HW79.out.size)); clear hb)))
              clear hw1 hw2
              go_roundg (l.length - (j + 1))
              case measure => rw [HG.out]; have := HJL.out; omega
              case rel => exact ⟨j + 1, v44, L, rfl, by simp, by have := HJL.out; omega, HB81, HW81⟩
            · clear hK
              go_wp2_with (first
                | (go_at_call 10; go_must (refine (ball w.heap.size g most v44 L _ HB45.out).mono ?_; rintro e w79 ⟨us, Au, cu, rfl, h1, h2, h3, h4, -⟩; have HRU := Aside0.mk h1; have HPU := Aside0.mk h2; have HSU := Aside0.mk h3; have HRW79 := Aside0.mk (HRW44.out.below h4); have HB79 := Aside0.mk (HB45.out.below h4); have HW79 := Aside0.mk (HW44.out.trans (h4.mono HW44.out.size)); clear h1 h2 h3 h4))
                | (go_at_call 12; go_must (refine (fall_calls _ _ _ Au Aw cu cw us ws HRU.out HRW79.out (rows_eq HB.out HPU.out HPW.out HSU.out HSW.out).1 (rows_eq HB.out HPU.out HPW.out HSU.out HSW.out).2.1 (rows_eq HB.out HPU.out HPW.out HSU.out HSW.out).2.2).mono ?_; rintro e w81 ⟨rfl, hb⟩; have HB81 := Aside0.mk (HB79.out.below hb); have HW81 := Aside0.mk (HW79.out.trans (hb.mono HW79.out.size)); clear hb)))
              clear hw1 hw2
              go_roundg (l.length - (j + 1))
              case measure => rw [HG.out]; have := HJL.out; omega
              case rel => exact ⟨j + 1, v44, L, rfl, by simp, by have := HJL.out; omega, HB81, HW81⟩
      · have hlt : ¬ (j : Int) < l.length := by omega
        have HTA : Aside0 (enV zEP = .agg zCells) := ⟨rfl⟩
        clear HG hj hjl
        go_upto_region 18 with (first
          | (go_at_call 15; go_must (refine (take_nil 0 0 _).mono ?_; rintro e w87 ⟨rfl, hb⟩; rw [HTA.out]; have HW87 := Aside0.mk (HWr.out.trans (hb.mono HWr.out.size)); clear hb))
          | (go_at_call 14; go_must (refine (first_nil _).mono ?_; rintro e w92 ⟨rfl, hb⟩; rw [HTA.out]; have HW92 : Aside0 (Below w.heap.size w w92) := ⟨below_step (by with_reducible repeat (first | exact HW87.out | apply below_alloc)) hb⟩; clear hb)))
        refine gen_world (fun W5 hW5 => ?_)
        have HW5 : Aside0 (Below w.heap.size w W5) := ⟨by rw [hW5]; with_reducible repeat (first | exact HW92.out | apply below_alloc)⟩
        clear hW5
        go_wp2_with (first
          | (go_at_call 9; go_must (refine (hold_nil zEP _).mono ?_; rintro e w97 ⟨rfl, hb⟩; have HW97 := Aside0.mk (HW5.out.trans (hb.mono HW5.out.size)); clear hb))
          | (go_at_call 11; go_must (refine (run_nil 0 0 _).mono ?_; rintro e w109 ⟨rfl, hb⟩; have HW109 := Aside0.mk (HW97.out.trans (hb.mono HW97.out.size)); clear hb))
          | (go_at_call 21; go_must (refine (drop_nil 0 1 _).mono ?_; rintro e w112 ⟨rfl, hb⟩; have HW112 := Aside0.mk (HW109.out.trans (hb.mono HW109.out.size)); clear hb))
          | (go_at_call 13; go_must (refine (blen_nil _).mono ?_; rintro e w115 ⟨rfl, hb⟩; have HW115 := Aside0.mk (HW112.out.trans (hb.mono HW112.out.size)); clear hb))
          | (go_at_call 10; go_must (refine (all_nil _).mono ?_; rintro e w118 ⟨rfl, hb⟩; have HW118 := Aside0.mk (HW115.out.trans (hb.mono HW115.out.size)); clear hb))
          | (go_at_call 7; go_must (refine (alive_calls _).mono ?_; rintro e wz ⟨rfl, hb⟩; have HBZ := Aside0.mk (HW118.out.trans (hb.mono HW118.out.size)); clear hb)))
        go_ret
        exact ⟨rfl, HBZ.out⟩
end Go.Proofs.Ytekhpogigndlkaa.K

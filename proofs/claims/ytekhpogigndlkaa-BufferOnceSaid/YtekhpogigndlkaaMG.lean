/- cachettelaw08.one, alive. The law BufferRuns. A slice of entries that came in. -/
import Derived.Test.YtekhpogigndlkaaMF
import Derived.Test.YtekhpogigndlkaaOpen
import Derived.ChangeSlices
import Derived.ChangeArms
namespace Go.Proofs.Ytekhpogigndlkaa.K
open Go.RowKit Go.Proofs.YtekhpogigndlkaaW.PrintWords Go.Proofs.YtekhpogigndlkaaW.PrintLast Go.Proofs.YtekhpogigndlkaaW.PrintMore
set_option linter.unusedVariables false
set_option linter.unusedSimpArgs false

def oneE (x i : Int) : En := ⟨x, i, 1, ⟨1, x⟩, 0, [], 0⟩
def oneP (x i : Int) : EP := ⟨oneE x i, none, 0⟩
theorem oneP_rd (x i : Int) (w : World) : Rd w (oneP x i).b (oneP x i).e.f5 := ⟨none, 0, rfl, Nat.le_refl _, Kd.C_nil _ _⟩
set_option maxRecDepth 100000 in
set_option maxHeartbeats 4000000 in
theorem one_calls (x i : Int) (w : World) (hi : 0 < i) :
    Calls Try.prog 24 #[.int .i64 x, .int .i64 i] w fun e w' => e = .returned (enV (oneP x i)) ∧ Below w.heap.size w w' := by
  go_enter Try.func24, Try.ntmps24
  go_wp2
  refine gen_bp (fun W7 hW7 => ?_)
  have h7 : W7.heap[w.heap.size]? = some (.cells #[.int .i64 x, .int .i64 i, .int .u64 1, .int .i64 1, .int .i64 x, .int .i64 0, .slice none 0 0, .int .u64 0] 33 (0, 0)) := by
    rw [hW7]
    exact (heap_alloc_old _ _ (by simp)).trans (heap_alloc_new _ _)
  have hB : Below w.heap.size w W7 := by rw [hW7]; with_reducible exact below_alloc (below_alloc (Below.refl _ _) _) _
  refine bodyPost_ret (results_single (r := .cell 4 33) rfl (.cell w.heap.size 33 _ (0, 0) _ rfl h7 Try.underlying33 rfl (by kernel_rfl) .nil)) rfl ?_
  exact ⟨rfl, hB⟩
theorem alive_k : holdK 3 [] (oneE 1 3) = 0 ∧ holdK 3 [oneE 1 3] (oneE 1 1) = 0 ∧ holdK 3 [oneE 1 3, oneE 1 1] (oneE 1 2) = 0 := by decide
theorem alive_l : holdL 3 [] (oneE 1 3) = [oneE 1 3] ∧ holdL 3 [oneE 1 3] (oneE 1 1) = [oneE 1 3, oneE 1 1] ∧ holdL 3 [oneE 1 3, oneE 1 1] (oneE 1 2) = [oneE 1 3, oneE 1 1, oneE 1 2] := by
  obtain ⟨h1, h2, h3⟩ := alive_k
  refine ⟨?_, ?_, ?_⟩
  · rw [holdL, if_pos h1]; rfl
  · rw [holdL, if_pos h2]; rfl
  · rw [holdL, if_pos h3]; rfl
theorem alive_run {os : List EP} {M : List En} (hp : (os.map (·.e) ++ M).Perm [oneE 1 3, oneE 1 1, oneE 1 2]) (hk : ∀ (i : Nat) (o : EP), os[i]? = some o → keyE o.e = (1, 1 + (i : Int))) (hM : ∀ q ∈ M, keyE q ≠ (1, 1 + (os.length : Int))) :
    os.length = 3 ∧ M = [] := by
  have hl := hp.length_eq
  simp only [List.length_append, List.length_map, List.length_cons, List.length_nil] at hl
  have key : ∀ i : Int, (i = 1 ∨ i = 2 ∨ i = 3) → (∃ q ∈ M, keyE q = (1, i)) ∨ ∃ (j : Nat), j < os.length ∧ 1 + (j : Int) = i := by
    intro i hi
    have hm : oneE 1 i ∈ [oneE 1 3, oneE 1 1, oneE 1 2] := by rcases hi with rfl | rfl | rfl <;> simp
    rcases List.mem_append.1 (hp.mem_iff.2 hm) with h | h
    · right
      obtain ⟨o, ho, he⟩ := List.mem_map.1 h
      obtain ⟨j, hj, rfl⟩ := List.mem_iff_getElem.1 ho
      refine ⟨j, hj, ?_⟩
      have h1 := hk j _ (List.getElem?_eq_getElem hj)
      have he : os[j].e = oneE 1 i := he
      rw [he] at h1
      simp only [keyE, oneE, Prod.mk.injEq] at h1
      omega
    · exact .inl ⟨_, h, rfl⟩
  have h3 : os.length = 3 := by
    by_cases h : os.length < 3
    · exfalso
      rcases key (1 + (os.length : Int)) (by omega) with ⟨q, hq, he⟩ | ⟨j, hj, he⟩
      · exact hM q hq he
      · omega
    · omega
  exact ⟨h3, List.eq_nil_of_length_eq_zero (by omega)⟩
set_option maxRecDepth 100000 in
set_option maxHeartbeats 8000000 in
theorem alive_calls (w : World) :
    Calls Try.prog 7 #[] w fun e w' => e = .returned (.bool true) ∧ Below w.heap.size w w' := by
  obtain ⟨k1, k2, k3⟩ := alive_k
  obtain ⟨l1, l2, l3⟩ := alive_l
  have K1 := Aside0.mk k1
  have K2 := Aside0.mk k2
  have K3 := Aside0.mk k3
  have L1 := Aside0.mk l1
  have L2 := Aside0.mk l2
  have L3 := Aside0.mk l3
  clear k1 k2 k3 l1 l2 l3
  go_enter Try.func7, Try.ntmps7
  go_upto_region 4 with (first
    | (go_at_call 8; go_must (refine (bnew w.heap.size 3 _ (by decide) (by decide) (Nat.le_refl _)).mono ?_; rintro e w1 ⟨g, rfl, h1, -, h2⟩; have HB1 := Aside0.mk h1; have HW1 := Aside0.mk h2; clear h1 h2))
    | (go_at_call 24; go_must (refine (one_calls _ _ _ (by decide)).mono ?_; first
        | (rintro e w6 ⟨rfl, hb⟩; have HB6 := Aside0.mk (HB5.out.below hb); have HW6 := Aside0.mk (HW5.out.trans (hb.mono HW5.out.size)); clear hb)
        | (rintro e w4 ⟨rfl, hb⟩; have HB4 := Aside0.mk (HB3.out.below hb); have HW4 := Aside0.mk (HW3.out.trans (hb.mono HW3.out.size)); clear hb)
        | (rintro e w2 ⟨rfl, hb⟩; have HB2 := Aside0.mk (HB1.out.below hb); have HW2 := Aside0.mk (HW1.out.trans (hb.mono HW1.out.size)); clear hb)))
    | (go_at_call 9; go_must (first
        | (refine (bhold w.heap.size g 3 _ _ (oneP 1 2) _ HB6.out (oneP_rd _ _ _) (by decide)).mono ?_; rw [show holdK 3 _ (oneP 1 2).e = 0 from K3.out]; rintro e w7 ⟨rfl, v7, h1, h2, -⟩; rw [show holdL 3 _ (oneP 1 2).e = _ from L3.out] at h1; have HB7 := Aside0.mk h1; have HW7 := Aside0.mk (HB6.out.step h2 HW6.out); clear h1 h2)
        | (refine (bhold w.heap.size g 3 _ _ (oneP 1 1) _ HB4.out (oneP_rd _ _ _) (by decide)).mono ?_; rw [show holdK 3 _ (oneP 1 1).e = 0 from K2.out]; rintro e w5 ⟨rfl, v5, h1, h2, -⟩; rw [show holdL 3 _ (oneP 1 1).e = _ from L2.out] at h1; have HB5 := Aside0.mk h1; have HW5 := Aside0.mk (HB4.out.step h2 HW4.out); clear h1 h2)
        | (refine (bhold w.heap.size g 3 _ _ (oneP 1 3) _ HB2.out (oneP_rd _ _ _) (by decide)).mono ?_; rw [show holdK 3 _ (oneP 1 3).e = 0 from K1.out]; rintro e w3 ⟨rfl, v3, h1, h2, -⟩; rw [show holdL 3 _ (oneP 1 3).e = _ from L1.out] at h1; have HB3 := Aside0.mk h1; have HW3 := Aside0.mk (HB2.out.step h2 HW2.out); clear h1 h2)))
    | (go_at_call 11; go_must (refine (brun w.heap.size g 3 _ _ 1 1 _ HB7.out).mono ?_; rintro e w8 ⟨os, M, A, c, v8, rfl, h1, h2, h3, h4, h5, h6, -, -⟩; have HB8 := Aside0.mk h1; have HR8 := Aside0.mk h2; have HAR := Aside0.mk (alive_run h3 h4 h5); have HKY := Aside0.mk h4; have HW8 := Aside0.mk (HB7.out.step h6 HW7.out); clear h1 h2 h3 h4 h5 h6)))
  obtain ⟨hl3, rfl⟩ := HAR.out
  obtain ⟨o0, ho0⟩ : ∃ o, os[0]? = some o := ⟨_, List.getElem?_eq_getElem (by omega)⟩
  obtain ⟨o2, ho2⟩ : ∃ o, os[2]? = some o := ⟨_, List.getElem?_eq_getElem (by omega)⟩
  have e0 : o0.e.f1 = 1 := by
    have := HKY.out 0 o0 ho0
    simp only [keyE, Prod.mk.injEq] at this
    omega
  have e2 : o2.e.f1 = 3 := by
    have := HKY.out 2 o2 ho2
    simp only [keyE, Prod.mk.injEq] at this
    omega
  obtain ⟨gr, rfl, -, c1, -⟩ := HR8.out.at rfl ho0
  obtain ⟨gr', hgr, -, c2, -⟩ := HR8.out.at rfl ho2
  injection hgr with hgr
  injection hgr with hgr
  subst hgr
  rw [e0] at c1
  rw [e2] at c2
  simp only [Nat.zero_mul, Nat.zero_add, Nat.reduceMul, Nat.reduceAdd] at c1 c2
  rw [hl3]
  clear HKY HR8 HAR e0 e2 ho0 ho2 hl3
  go_wp2_with (first
    | (go_at_call 13; go_must (refine (blen w.heap.size g 3 _ _ _ HB8.out).mono ?_; rintro e w9 ⟨rfl, hb⟩; have HW9 := Aside0.mk (HW8.out.trans (hb.mono HW8.out.size)); clear hb)))
  go_ret
  exact ⟨rfl, HW9.out⟩
end Go.Proofs.Ytekhpogigndlkaa.K

namespace Go.Proofs.Ytekhpogigndlkaa.K
open Go.RowKit Go.Proofs.YtekhpogigndlkaaW.PrintWords Go.Proofs.YtekhpogigndlkaaW.PrintLast Go.Proofs.YtekhpogigndlkaaW.PrintMore
set_option linter.unusedVariables false
set_option linter.unusedSimpArgs false

/-- A slice of entries. -/
def ERd (W : World) (v : Value) (l : List En) : Prop := ∃ A c, v = .slice A l.length c ∧ l.length ≤ c ∧ Kd.C X.k33 W A l.length l
theorem ent_at {W : World} {A : Option Addr} {l : List En} (h : Kd.C X.k33 W A l.length l) {i : Nat} (hi : i < l.length) :
    ∃ (ad : Addr) (p : EP), A = some ad ∧ l[i]? = some p.e ∧ Rd W p.b p.e.f5 ∧ W.cell? (ad.add (i * 8)) = some (.int .i64 p.e.f0) ∧ W.cell? ⟨(ad.add (i * 8)).block, (ad.add (i * 8)).off + 1, none⟩ = some (.int .i64 p.e.f1) ∧ W.cell? ⟨(ad.add (i * 8)).block, (ad.add (i * 8)).off + 2, none⟩ = some (.int .u64 p.e.f2) ∧ W.cell? ⟨(ad.add (i * 8)).block, (ad.add (i * 8)).off + 3, none⟩ = some (.int .i64 p.e.f3.f0) ∧ W.cell? ⟨(ad.add (i * 8)).block, (ad.add (i * 8)).off + 4, none⟩ = some (.int .i64 p.e.f3.f1) ∧ W.cell? ⟨(ad.add (i * 8)).block, (ad.add (i * 8)).off + 5, none⟩ = some (.int .i64 p.e.f4) ∧ W.cell? ⟨(ad.add (i * 8)).block, (ad.add (i * 8)).off + 6, none⟩ = some (.slice p.A p.e.f5.length p.c) ∧ W.cell? ⟨(ad.add (i * 8)).block, (ad.add (i * 8)).off + 7, none⟩ = some (.int .u64 p.e.f6) := by
  obtain ⟨ad, A6, c6, e, x0, x1, x2, x3, x4, x5, x6, x7, hc, hC⟩ := X.at_T33 h (i : Int) (by omega) (by omega)
  rw [Int.toNat_natCast] at x0 x1 x2 x3 x4 x5 x6 x7
  refine ⟨ad, ⟨X.rd_T33 l (i : Int), A6, c6⟩, e, ?_, ⟨A6, c6, rfl, hc, hC⟩, x0, x1, x2, x3, x4, x5, x6, x7⟩
  unfold X.rd_T33
  rw [Int.toNat_natCast, List.getD_eq_getElem?_getD, List.getElem?_eq_getElem hi]
  rfl
set_option maxRecDepth 100000 in
set_option maxHeartbeats 16000000 in
theorem runs_walk (v : Value) (l : List En) (x idx : Int) (w : World) (hv : ERd w v l) (hbb : ∀ e ∈ l, ∀ x ∈ e.f5, 0 ≤ x ∧ x ≤ 255) :
    Calls Try.prog 3 #[v, .int .i64 x, .int .i64 idx] w fun e w' => e = .returned (.bool true) ∧ Below w.heap.size w w' := by
  obtain ⟨A, c, rfl, hc, hC⟩ := hv
  have HC := Aside0.mk hC
  have HW := Aside0.mk (Below.refl w.heap.size w)
  clear hC hc hbb
  by_cases h40 : (40 : Int) < l.length
  · go_enter Try.func3, Try.ntmps3
    go_wp2_with (first | (go_at_call 7; go_must (refine (alive_calls _).mono ?_; rintro e wz ⟨rfl, hb⟩; have HBZ := Aside0.mk (HW.out.trans (hb.mono HW.out.size)); clear hb)))
    go_ret
    exact ⟨rfl, HBZ.out⟩
  · have HL40 : Aside0 (l.length ≤ 40) := ⟨by omega⟩
    go_enter Try.func3, Try.ntmps3
    go_wp2_with (first
      | (go_at_call 8; go_must (refine (bnew w.heap.size 16 _ (by decide) (by decide) (Nat.le_refl _)).mono ?_; rintro e w1 ⟨g, rfl, h1, -, h2⟩; have HB1 := Aside0.mk h1; have HW1 := Aside0.mk h2; clear h1 h2)))
    go_loopg [9] l.length (fun gg v9 wr => ∃ (j : Nat) (vb : Value) (L : List En), gg = l.length - j ∧ v9 = .int .i64 j ∧ j ≤ l.length ∧ Aside0 (Buf wr w.heap.size g 16 vb L) ∧ Aside0 (Below w.heap.size w wr))
    case atStart => exact ⟨0, _, [], rfl, rfl, Nat.zero_le _, HB1, HW1⟩
    case round =>
      clear HB1 HW1
      obtain ⟨j, vb, L, hg, rfl, hj, HB, HWr⟩ := hrel
      have HG := Aside0.mk hg
      have HJ := Aside0.mk hj
      clear hg
      by_cases hjl : j < l.length
      · obtain ⟨ad, p, rfl, hp, hrd, x0, x1, x2, x3, x4, x5, x6, x7⟩ := ent_at (Kd.C_below HC.out HWr.out) hjl
        have HRD := Aside0.mk hrd
        have hlt : (j : Int) < l.length := by omega
        have h0 : (0 : Int) ≤ j := by omega
        have hk : (-1000000 : Int) ≤ (j : Int) + 1 ∧ (j : Int) + 1 ≤ 1000000 := by have := HL40.out; omega
        have hw1 := iw (x := (j : Int) + 1) rfl hk
        have hw2 := w64 (x := (j : Int) + 1) rfl hk
        have HJL := Aside0.mk hjl
        have HTA : Aside0 (∀ q : EP, enV q = .agg #[.int .i64 q.e.f0, .int .i64 q.e.f1, .int .u64 q.e.f2, .int .i64 q.e.f3.f0, .int .i64 q.e.f3.f1, .int .i64 q.e.f4, .slice q.A q.e.f5.length q.c, .int .u64 q.e.f6]) := ⟨fun _ => rfl⟩
        clear hrd hk hp hj hjl
        by_cases hbig : (1200 : Int) < p.e.f5.length
        · go_wp2_with (first | (go_at_call 7; go_must (refine (alive_calls _).mono ?_; rintro e wz ⟨rfl, hb⟩; have HBZ := Aside0.mk (HWr.out.trans (hb.mono HWr.out.size)); clear hb)))
          go_ret
          exact ⟨rfl, HBZ.out⟩
        · go_wp2_with (first
            | (go_at_call 9; go_must (refine (bhold w.heap.size g 16 vb L p _ HB.out HRD.out (by decide)).mono ?_; rintro e w44 ⟨rfl, v44, h1, h2, -⟩; have HB44 := Aside0.mk h1; have HW44 := Aside0.mk (HB.out.step h2 HWr.out); clear h1 h2)))
          clear hw1 hw2
          go_roundg (l.length - (j + 1))
          case measure => rw [HG.out]; have := HJL.out; omega
          case rel => exact ⟨j + 1, v44, _, rfl, by simp, by have := HJL.out; omega, HB44, HW44⟩
      · have hlt : ¬ (j : Int) < l.length := by omega
        clear HG HJ hj hjl
        go_upto_region 16 with (first
          | (go_at_call 10; go_must (first
            | (refine (ball w.heap.size g 16 v11 M _ HB11.out).mono ?_; rintro e w12 ⟨ls, Al, cl, rfl, h1, h2, -, h4, -⟩; have HRL := Aside0.mk h1; have HPL := Aside0.mk h2; have HR12 := Aside0.mk (HR11.out.below h4); have HB12 := Aside0.mk (HB11.out.below h4); have HW12 := Aside0.mk (HW11.out.trans (h4.mono HW11.out.size)); clear h1 h2 h4)
            | (refine (ball w.heap.size g 16 vb L _ HB.out).mono ?_; rintro e w10 ⟨ws, Aw, cw, rfl, -, h2, -, h4, -⟩; have HPW := Aside0.mk h2; have HB10 := Aside0.mk (HB.out.below h4); have HW10 := Aside0.mk (HWr.out.trans (h4.mono HWr.out.size)); clear h2 h4)))
          | (go_at_call 11; go_must (refine (brun w.heap.size g 16 vb L x idx _ HB10.out).mono ?_; rintro e w11 ⟨os, M, Ar, cr, v11, rfl, h1, h2, h3, h4, h5, h6, -, -⟩; have HB11 := Aside0.mk h1; have HR11 := Aside0.mk h2; have HPR := Aside0.mk h3; have HKY := Aside0.mk h4; have HNO := Aside0.mk h5; have HW11 := Aside0.mk (HB10.out.step h6 HW10.out); clear h1 h2 h3 h4 h5 h6)))
        have HLL : Aside0 (ws.length = os.length + ls.length ∧ ws.length ≤ 100000) := ⟨by
          have h1 := HPW.out.length_eq
          have h2 := HPR.out.length_eq
          have h3 := HPL.out.length_eq
          have h4 := HB.out.len.1
          simp only [List.length_append, List.length_map] at h1 h2 h3
          omega⟩
        go_loopg [13] os.length (fun gg v13 wr2 => ∃ (j : Nat), gg = os.length - j ∧ v13 = .int .i64 j ∧ j ≤ os.length ∧ Aside0 (Below w12.heap.size w12 wr2))
        case atStart => exact ⟨0, rfl, rfl, Nat.zero_le _, ⟨Below.refl _ _⟩⟩
        case round =>
          obtain ⟨j, hg, rfl, hj, HB2⟩ := hrel
          have HG2 := Aside0.mk hg
          clear hg
          by_cases hjl : j < os.length
          · obtain ⟨o, ho⟩ : ∃ o, os[j]? = some o := ⟨_, List.getElem?_eq_getElem hjl⟩
            obtain ⟨gr, rfl, c0, c1, -⟩ := (HR12.out.below HB2.out).at rfl ho
            have hky := HKY.out j o ho
            simp only [keyE, Prod.mk.injEq] at hky
            have e0 : o.e.f0 = x := hky.1
            have e1 : o.e.f1 - idx = (j : Int) := by omega
            rw [e0] at c0
            have hlt2 : (j : Int) < os.length := by omega
            have h0 : (0 : Int) ≤ j := by omega
            have hk : (-1000000 : Int) ≤ (j : Int) + 1 ∧ (j : Int) + 1 ≤ 1000000 := by have := HLL.out; omega
            have hk0 : (-1000000 : Int) ≤ (j : Int) ∧ (j : Int) ≤ 1000000 := by omega
            have hw1 := iw (x := (j : Int) + 1) rfl hk
            have hw2 := w64 (x := (j : Int) + 1) rfl hk
            have hw3 := iw e1 hk0
            have hw4 := w64 e1 hk0
            have HJ2 := Aside0.mk hjl
            clear hky e0 e1 hk hk0 ho hj hjl
            go_wp2
            clear hw1 hw2 hw3 hw4
            go_roundg (os.length - (j + 1))
            case measure => rw [HG2.out]; have := HJ2.out; omega
            case rel => exact ⟨j + 1, rfl, by simp, by have := HJ2.out; omega, HB2⟩
          · have hlt2 : ¬ (j : Int) < os.length := by omega
            clear HG2 hj hjl
            go_wp2
            go_loopg [14] ls.length (fun gg v14 wr3 => ∃ (j : Nat), gg = ls.length - j ∧ v14 = .int .i64 j ∧ j ≤ ls.length ∧ Aside0 (Below w12.heap.size w12 wr3))
            case atStart => exact ⟨0, rfl, rfl, Nat.zero_le _, HB2⟩
            case round =>
              clear HB2
              obtain ⟨j, hg, rfl, hj, HB3⟩ := hrel
              have HG3 := Aside0.mk hg
              clear hg
              by_cases hjl : j < ls.length
              · obtain ⟨o, ho⟩ : ∃ o, ls[j]? = some o := ⟨_, List.getElem?_eq_getElem hjl⟩
                obtain ⟨gr, rfl, c0, c1, -⟩ := (HRL.out.below HB3.out).at rfl ho
                have hky := HNO.out o.e (HPL.out.mem_iff.1 (List.mem_map.2 ⟨o, List.mem_of_getElem? ho, rfl⟩))
                have HRT := Aside0.mk (HB11.out.rights o.e (HPL.out.mem_iff.1 (List.mem_map.2 ⟨o, List.mem_of_getElem? ho, rfl⟩)))
                have hlt3 : (j : Int) < ls.length := by omega
                have h0 : (0 : Int) ≤ j := by omega
                have hk : (-1000000 : Int) ≤ (j : Int) + 1 ∧ (j : Int) + 1 ≤ 1000000 := by have := HLL.out; omega
                have hw1 := iw (x := (j : Int) + 1) rfl hk
                have hw2 := w64 (x := (j : Int) + 1) rfl hk
                have HJ3 := Aside0.mk hjl
                clear hk ho hj hjl
                by_cases e0 : o.e.f0 = x
                · by_cases e1 : 0 ≤ idx
                  · by_cases e2 : idx ≤ o.e.f1
                    · have hky1 : ¬ o.e.f1 - idx = os.length := fun e => hky (by simp only [keyE, Prod.mk.injEq]; exact ⟨e0, by omega⟩)
                      have hrb : (-1000000 : Int) ≤ o.e.f1 - idx ∧ o.e.f1 - idx ≤ 1000000 := by
                        have h := HRT.out
                        simp only [rightE, decide_eq_true_eq] at h
                        omega
                      obtain ⟨d, hd⟩ : ∃ d, d = o.e.f1 - idx := ⟨_, rfl⟩
                      rw [← hd] at hky1 hrb
                      have hw3 := iw hd.symm hrb
                      have hw4 := w64 hd.symm hrb
                      clear hky hrb hd
                      go_wp2
                      clear hw1 hw2
                      go_roundg (ls.length - (j + 1))
                      case measure => rw [HG3.out]; have := HJ3.out; omega
                      case rel => exact ⟨j + 1, rfl, by simp, by have := HJ3.out; omega, HB3⟩
                    · clear hky
                      go_wp2
                      clear hw1 hw2
                      go_roundg (ls.length - (j + 1))
                      case measure => rw [HG3.out]; have := HJ3.out; omega
                      case rel => exact ⟨j + 1, rfl, by simp, by have := HJ3.out; omega, HB3⟩
                  · clear hky
                    go_wp2
                    clear hw1 hw2
                    go_roundg (ls.length - (j + 1))
                    case measure => rw [HG3.out]; have := HJ3.out; omega
                    case rel => exact ⟨j + 1, rfl, by simp, by have := HJ3.out; omega, HB3⟩
                · clear hky
                  go_wp2
                  clear hw1 hw2
                  go_roundg (ls.length - (j + 1))
                  case measure => rw [HG3.out]; have := HJ3.out; omega
                  case rel => exact ⟨j + 1, rfl, by simp, by have := HJ3.out; omega, HB3⟩
              · have hlt3 : ¬ (j : Int) < ls.length := by omega
                have hk : (-1000000 : Int) ≤ (ws.length : Int) ∧ (ws.length : Int) ≤ 1000000 := by have := HLL.out; omega
                have e1 : (os.length : Int) + ls.length = ws.length := by have := HLL.out; omega
                have hw1 := iw e1 hk
                have hw2 := w64 e1 hk
                have HW3 := Aside0.mk (HW12.out.trans (HB3.out.mono HW12.out.size))
                clear hk e1 HG3 hj hjl
                go_wp2_with (first | (go_at_call 7; go_must (refine (alive_calls _).mono ?_; rintro e wz ⟨rfl, hb⟩; have HBZ := Aside0.mk (HW3.out.trans (hb.mono HW3.out.size)); clear hb)))
                go_ret
                exact ⟨rfl, HBZ.out⟩
end Go.Proofs.Ytekhpogigndlkaa.K

namespace Go.Proofs.Ytekhpogigndlkaa.K
open Go.RowKit Go.Deep Go.ChangeShapes Go.WideShapes Go.ChangeAt Go.Proofs.YtekhpogigndlkaaW.PrintWords Go.Proofs.YtekhpogigndlkaaW.PrintLast Go.Proofs.YtekhpogigndlkaaW.PrintMore
set_option linter.unusedVariables false

theorem open_two_wf {H : Type} {enc : TypeId × Value → H} {P : Program} {w : World} {base : Nat} {spare : Nat → Bool} {held : Bool} {t : TypeId} {f0 f1 : Field} {l : List Value} {fuel : Nat} {x : DataW H × List MemPlace}
    (ht : P.underlying t = some (.struct #[f0, f1])) (h0 : P.underlying f0.type = some (.int .i64)) (h1 : P.underlying f1.type = some (.int .i64))
    (o0 : f0.offset = 0) (o1 : f1.offset = 1) (c0 : P.cellsOf f0.type = 1) (c1 : P.cellsOf f1.type = 1) (x0 x1 : Value) (hl : l = [x0, x1])
    (hf : DataW.trod enc P w base spare held fuel t l = some x) : ∃ a b, x0 = .int .i64 a ∧ x1 = .int .i64 b ∧ (Lit.int .i64 a).wf = true ∧ (Lit.int .i64 b).wf = true := by
  subst hl
  obtain ⟨y0, y1, m, _, _, hy0, hy1⟩ := trod_struct2 ht hf
  obtain ⟨a, e0, _, w0⟩ := DataW.trod_int h0 hy0
  obtain ⟨b, e1, _, w1⟩ := DataW.trod_int h1 hy1
  simp [o0, o1, c0, c1] at e0 e1
  exact ⟨a, b, e0, e1, w0, w1⟩
theorem open_en {H : Type} {enc : TypeId × Value → H} {w : World} {base : Nat} {held : Bool} {fuel : Nat} {x0 x1 x2 x3 x4 x5 x6 x7 : Value} {y : DataW H × List MemPlace}
    (hf : DataW.trod enc Try.prog w base (fun _ => true) held fuel 33 [x0, x1, x2, x3, x4, x5, x6, x7] = some y) :
    ∃ p : EP, [x0, x1, x2, x3, x4, x5, x6, x7] = enC p ∧ Rd w p.b p.e.f5 ∧ (∀ x ∈ p.e.f5, 0 ≤ x ∧ x ≤ 255) := by
  obtain ⟨xs, n, _, _, _, hlen, hF⟩ := DataW.trod_struct Try.underlying33 hf
  have e1 : Try.prog.cellsOf 3 = 1 := by kernel_rfl
  have e2 : Try.prog.cellsOf 30 = 2 := by kernel_rfl
  have e3 : Try.prog.cellsOf 28 = 1 := by kernel_rfl
  have e5 : Try.prog.cellsOf 31 = 1 := by kernel_rfl
  have hl7 : xs.length = 7 := hlen
  have g : ∀ i, i < 7 → ∃ y, xs[i]? = some y := fun i hi => ⟨_, List.getElem?_eq_getElem (by omega)⟩
  obtain ⟨y0, g0⟩ := g 0 (by omega)
  obtain ⟨y1, g1⟩ := g 1 (by omega)
  obtain ⟨y2, g2⟩ := g 2 (by omega)
  obtain ⟨y3, g3⟩ := g 3 (by omega)
  obtain ⟨y4, g4⟩ := g 4 (by omega)
  obtain ⟨y5, g5⟩ := g 5 (by omega)
  obtain ⟨y6, g6⟩ := g 6 (by omega)
  have f0 : DataW.trod enc Try.prog w base (fun _ => true) held n 3 (([x0, x1, x2, x3, x4, x5, x6, x7].drop 0).take (Try.prog.cellsOf 3)) = xs[0]? := hF 0 _ rfl
  have f1 : DataW.trod enc Try.prog w base (fun _ => true) held n 3 (([x0, x1, x2, x3, x4, x5, x6, x7].drop 1).take (Try.prog.cellsOf 3)) = xs[1]? := hF 1 _ rfl
  have f2 : DataW.trod enc Try.prog w base (fun _ => true) held n 28 (([x0, x1, x2, x3, x4, x5, x6, x7].drop 2).take (Try.prog.cellsOf 28)) = xs[2]? := hF 2 _ rfl
  have f3 : DataW.trod enc Try.prog w base (fun _ => true) held n 30 (([x0, x1, x2, x3, x4, x5, x6, x7].drop 3).take (Try.prog.cellsOf 30)) = xs[3]? := hF 3 _ rfl
  have f4 : DataW.trod enc Try.prog w base (fun _ => true) held n 3 (([x0, x1, x2, x3, x4, x5, x6, x7].drop 5).take (Try.prog.cellsOf 3)) = xs[4]? := hF 4 _ rfl
  have f5 : DataW.trod enc Try.prog w base (fun _ => true) held n 31 (([x0, x1, x2, x3, x4, x5, x6, x7].drop 6).take (Try.prog.cellsOf 31)) = xs[5]? := hF 5 _ rfl
  have f6 : DataW.trod enc Try.prog w base (fun _ => true) held n 28 (([x0, x1, x2, x3, x4, x5, x6, x7].drop 7).take (Try.prog.cellsOf 28)) = xs[6]? := hF 6 _ rfl
  rw [g0] at f0
  rw [g1] at f1
  rw [g2] at f2
  rw [g3] at f3
  rw [g4] at f4
  rw [g5] at f5
  rw [g6] at f6
  simp only [e1, e2, e3, e5, List.drop_zero, List.drop_succ_cons, List.take_succ_cons, List.take_zero] at f0 f1 f2 f3 f4 f5 f6
  obtain ⟨a0, b0, _, _⟩ := DataW.trod_int Try.underlying3 f0
  obtain ⟨a1, b1, _, _⟩ := DataW.trod_int Try.underlying3 f1
  obtain ⟨a2, b2, _, _⟩ := DataW.trod_int Try.underlying28 f2
  obtain ⟨t, a, rfl, rfl, _, _⟩ := open_two_wf Try.underlying30 Try.underlying2 Try.underlying3 rfl rfl (by kernel_rfl) (by kernel_rfl) x3 x4 rfl f3
  obtain ⟨a5, b5, _, _⟩ := DataW.trod_int Try.underlying3 f4
  obtain ⟨a7, b7, _, _⟩ := DataW.trod_int Try.underlying28 f6
  simp only [List.cons.injEq, and_true] at b0 b1 b2 b5 b7
  subst b0 b1 b2 b5 b7
  have hrow : ∃ A n0 cap, x6 = .slice A n0 cap ∧ ∃ l, Rd w (.slice A n0 cap) l ∧ ∀ x ∈ l, 0 ≤ x ∧ x ≤ 255 := by
    rcases open_ints Try.underlying31 Try.underlying5 (by kernel_rfl) f5 with ⟨hcs, _⟩ | ⟨x, l, c, zs, hcs, _, hl, hm, hz, _, hcell, hwz⟩
    · simp only [List.cons.injEq, and_true] at hcs
      subst hcs
      exact ⟨none, 0, 0, rfl, rd_of_row (.inl ⟨rfl, rfl, rfl, rfl⟩)⟩
    · simp only [List.cons.injEq, and_true] at hcs
      subst hcs
      exact ⟨_, _, _, rfl, rd_of_row (.inr ⟨_, rfl, hl, hm, by simpa using hz, hcell, hwz⟩)⟩
  obtain ⟨A, n0, cap, rfl, l, hr, hb⟩ := hrow
  have hl : n0 = l.length := by
    obtain ⟨A', c', h, _⟩ := hr
    injection h
  subst hl
  exact ⟨⟨⟨a0, a1, a2, ⟨t, a⟩, a5, l, a7⟩, A, cap⟩, rfl, hr, hb⟩
theorem open_ens {H : Type} {enc : TypeId × Value → H} {w : World} {base : Nat} {held : Bool} {d : DataW H} {p : List MemPlace} {a0 : Option Addr} {len0 cap0 : Nat} (h : DataW.Trod enc Try.prog w base (fun _ => true) held 22 (.slice a0 len0 cap0) d p) :
    ∃ l : List En, ERd w (.slice a0 len0 cap0) l ∧ ∀ e ∈ l, ∀ x ∈ e.f5, 0 ≤ x ∧ x ≤ 255 := by
  obtain ⟨fuel, hf⟩ := h
  rcases open_slice Try.underlying22 hf with ⟨hcs, _⟩ | ⟨a, len, cap, m, n, D, Pl, hcs, hb, hl, hm, hmm, hx, hi⟩
  · simp [Value.cells] at hcs
    obtain ⟨rfl, rfl, rfl⟩ := hcs
    exact ⟨[], ⟨none, 0, rfl, Nat.le_refl _, Kd.C_nil _ _⟩, fun e he => by simp at he⟩
  · simp [Value.cells] at hcs
    obtain ⟨rfl, rfl, rfl⟩ := hcs
    have hC : Try.prog.cellsOf 33 = 8 := by kernel_rfl
    have H1 : ∀ i, ∃ q : EP, i < len0 → (∀ j u, (enC q)[j]? = some u → w.cell? (a.add (i * 8 + j)) = some u) ∧ Rd w q.b q.e.f5 ∧ ∀ x ∈ q.e.f5, 0 ≤ x ∧ x ≤ 255 := by
      intro i
      by_cases him : i < len0
      · have hm' : i < m := by rw [hmm]; split <;> omega
        obtain ⟨cs', hc, ht'⟩ := hi i hm'
        rw [hC] at hc
        obtain ⟨_, hcl, hat⟩ := World.cells?_some hc
        match cs', hcl with
        | [x0, x1, x2, x3, x4, x5, x6, x7], _ =>
          obtain ⟨q, hq, hr, hb⟩ := open_en ht'
          refine ⟨q, fun _ => ⟨fun j u hu => ?_, hr, hb⟩⟩
          rw [← hq] at hu
          have hj : j < 8 := (List.getElem?_eq_some_iff.1 hu).1
          rw [← Go.Deep.add_add, hat j hj]
          exact hu
      · exact ⟨⟨⟨0, 0, 0, ⟨0, 0⟩, 0, [], 0⟩, none, 0⟩, fun h => absurd h him⟩
    obtain ⟨f, hf⟩ := Classical.axiomOfChoice H1
    refine ⟨(List.range len0).map (fun i => (f i).e), ⟨some a, cap0, by simp, by simpa using hl, ⟨rfl, ?_, fun hp => ?_⟩⟩, fun e he => ?_⟩
    · simp only [List.length_map, List.length_range]
      exact Nat.le_trans hl hm
    · refine ⟨a, rfl, fun j q hj => ?_⟩
      have hjl : j < len0 := by
        have := (List.getElem?_eq_some_iff.1 hj).1
        simpa using this
      rw [List.getElem?_map, List.getElem?_range hjl] at hj
      simp at hj
      subst hj
      obtain ⟨h1, h2, _⟩ := hf j hjl
      obtain ⟨A, c, hv, hc, hCC⟩ := h2
      injection hv with e1 e2 e3
      refine ⟨enC (f j), rfl, ?_, fun i u hu => h1 i u hu⟩
      have := X.k33_mk w (f j).e (A6 := (f j).A) (c6 := (f j).c) (by rw [e3]; exact hc) (by rw [e1]; exact hCC)
      exact this
    · obtain ⟨i, hi', rfl⟩ := List.mem_map.1 he
      exact (hf i (List.mem_range.1 hi')).2.2
end Go.Proofs.Ytekhpogigndlkaa.K

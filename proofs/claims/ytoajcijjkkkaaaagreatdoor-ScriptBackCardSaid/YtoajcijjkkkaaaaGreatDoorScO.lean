/- script.Line. -/
import Derived.Test.YtoajcijjkkkaaaaGreatDoorScN
namespace Go.Proofs.YtoajcijjkkkaaaaGreatDoor.K
open Go.RowKit Go.Proofs.YtoajcijjkkkaaaaGreatDoorW.PrintWords Go.Proofs.YtoajcijjkkkaaaaGreatDoorW.PrintLast Go.Proofs.YtoajcijjkkkaaaaGreatDoorW.PrintMore
set_option linter.unusedVariables false
set_option linter.unusedSimpArgs false

theorem cells7 {w : World} {b : Nat} {T : TypeId} {v0 v1 v2 v3 v4 v5 v6 : Value} (h : w.heap[b]? = some (.cells #[v0, v1, v2, v3, v4, v5, v6] T (0, 0))) :
    w.cell? ⟨b, 0, none⟩ = some v0 ∧ w.cell? ⟨b, 1, none⟩ = some v1 ∧ w.cell? ⟨b, 2, none⟩ = some v2 ∧ w.cell? ⟨b, 3, none⟩ = some v3 ∧ w.cell? ⟨b, 4, none⟩ = some v4 ∧ w.cell? ⟨b, 5, none⟩ = some v5 ∧ w.cell? ⟨b, 6, none⟩ = some v6 :=
  ⟨(blk_cell h 0).trans rfl, (blk_cell h 1).trans rfl, (blk_cell h 2).trans rfl, (blk_cell h 3).trans rfl, (blk_cell h 4).trans rfl, (blk_cell h 5).trans rfl, (blk_cell h 6).trans rfl⟩
theorem ownS_form {w : World} {base X : Nat} {v : Value} {xs : List Bs} (h : OwnS w base X v xs) (hn : 0 < xs.length) : ∃ g cap, v = .slice (some ⟨g, 0, none⟩) xs.length cap := by
  rcases (Kd.own_of_R h).2 with ⟨_, h1⟩ | ⟨g, cap, cur, h1, _⟩
  · rw [sbs_len] at h1; omega
  · exact ⟨g, cap, by rw [h1, sbs_len]⟩
/-- What Line hands back. -/
def lineS (x : Stp) : Bs := if rightB x then line x else []
def lineK (x : Stp) : Int := if rightB x then 0 else 1

set_option maxRecDepth 100000 in
set_option maxHeartbeats 4000000 in
theorem line_wrong (x : Stp) (A : Option Addr) (c : Nat) (w0 w : World) (hT : Tb w0) (hb : Below w0.heap.size w0 w) (hR : rightB x = false) :
    Calls Tryz.prog 8 #[.agg (stpC x A c)] w fun e w' => e = .returned (.tuple #[.string ⟨#[]⟩, .int .i64 1]) ∧ Below w.heap.size w w' := by
  have HC := fun w1 hb1 => right_calls x A c w0 w1 hT hb1
  rw [hR] at HC
  have HB0 := Aside0.mk hb
  clear hT hb hR
  obtain ⟨who, kind, p, q, n, m, keep⟩ := x
  dsimp only [stpC] at *
  go_enter Tryz.func8, Tryz.ntmps8
  go_wp2_with (go_at_call 13; (with_reducible refine (HC _ (below_alloc HB0.out _)).mono ?_); rintro e w1 ⟨rfl, h1⟩; have H1 := Aside0.mk h1; clear h1)
  go_ret2
  exact ⟨rfl, (below_alloc (Below.refl _ _) _).trans (H1.out.mono (by simp))⟩

set_option maxRecDepth 100000 in
set_option maxHeartbeats 8000000 in
theorem line_right (x : Stp) (A : Option Addr) (c : Nat) (w0 w : World) (hT : Tb w0) (hb : Below w0.heap.size w0 w) (hC : Kd.bool.C w A x.keep.length x.keep) (hR : rightB x = true) :
    Calls Tryz.prog 8 #[.agg (stpC x A c)] w fun e w' => e = .returned (.tuple #[.string ⟨(line x).toArray⟩, .int .i64 0]) ∧ Below w.heap.size w w' := by
  have HT := Aside0.mk hT
  have HB0 := Aside0.mk hb
  have HRC := fun w1 hb1 => right_calls x A c w0 w1 hT hb1
  rw [hR] at HRC
  have HSC := fun w1 hb1 => step_calls x.kind w0 w1 hT hb1
  obtain ⟨hr1, hr2, hr3, hr4, hr5, hr6, hr7, hr8, hr9, hr10, hr11, hr12⟩ := rightB_iff.1 hR
  rw [numOk_iff] at hr11 hr12
  have HIC := fun w1 hb1 => itoa_calls x.who (by omega) (by omega) w0 w1 hT hb1
  have HIN := fun w1 hb1 => itoa_calls x.n (by omega) (by omega) w0 w1 hT hb1
  have HIM := fun w1 hb1 => itoa_calls x.m (by omega) (by omega) w0 w1 hT hb1
  have HKC := fun w1 (hb1 : Below w.heap.size w w1) => digits_calls x.keep A c w1 (Kd.C_below hC hb1) (by omega)
  have HJ := fun g cap base X w1 h => join_calls g cap x hR base X w1 h
  have HPJ := Aside0.mk (parts_len x)
  have HPS := Aside0.mk (parts_snoc x)
  have HAL := args_len x.kind
  have HAM := Aside0.mk (fun a (h : a ∈ argsOf x.kind) => args_mem h)
  have HP0 : parts x [] = [Lib.itoa x.who, wordOf x.kind] := rfl
  have E80 : encA 80 x = quote x.p := rfl
  have E81 : encA 81 x = quote x.q := rfl
  have E78 : encA 78 x = Lib.itoa x.n := rfl
  have E77 : encA 77 x = Lib.itoa x.m := rfl
  have E75 : encA 75 x = digits x.keep := rfl
  have HQP := fun w1 => quote_calls ⟨x.p.toArray⟩ (by rw [ba_size]; simp; omega) w1
  have HQQ := fun w1 => quote_calls ⟨x.q.toArray⟩ (by rw [ba_size]; simp; omega) w1
  obtain ⟨PT, hPT⟩ : ∃ PT : Bs → List Bs, parts x = PT := ⟨_, rfl⟩
  obtain ⟨EN, hEN⟩ : ∃ EN : UInt8 → Bs, (fun a => encA a x) = EN := ⟨_, rfl⟩
  have hEN2 : ∀ a, encA a x = EN a := fun a => congrFun hEN a
  rw [hEN2] at E80 E81 E78 E77 E75
  simp only [hEN2] at HPS
  rw [hPT] at HPJ HPS HJ HP0
  obtain ⟨LN, hLN⟩ : ∃ LN, line x = LN := ⟨_, rfl⟩
  rw [hLN]
  simp only [hLN] at HJ
  clear hPT hEN hEN2 hLN hT hb hC hR hr1 hr2 hr3 hr4 hr5 hr6 hr7 hr8 hr9 hr10 hr11 hr12
  obtain ⟨who, kind, p, q, n, m, keep⟩ := x
  dsimp only [stpC] at *
  obtain ⟨pB, hpB⟩ : ∃ pB : ByteArray, (⟨p.toArray⟩ : ByteArray) = pB := ⟨_, rfl⟩
  obtain ⟨qB, hqB⟩ : ∃ qB : ByteArray, (⟨q.toArray⟩ : ByteArray) = qB := ⟨_, rfl⟩
  have hpd : (⟨p.toArray⟩ : ByteArray).data.toList = p := by simp
  have hqd : (⟨q.toArray⟩ : ByteArray).data.toList = q := by simp
  simp only [hpd, ← E80] at HQP
  simp only [hqd, ← E81] at HQQ
  rw [← E78] at HIN
  rw [← E77] at HIM
  rw [← E75] at HKC
  rw [hpB] at HQP HRC ⊢
  rw [hqB] at HQQ HRC ⊢
  obtain ⟨WD, hWD⟩ : ∃ WD, wordOf kind = WD := ⟨_, rfl⟩
  obtain ⟨IW, hIW⟩ : ∃ IW, Lib.itoa who = IW := ⟨_, rfl⟩
  obtain ⟨AR, hAR⟩ : ∃ AR, argsOf kind = AR := ⟨_, rfl⟩
  obtain ⟨kl, hkl⟩ : ∃ kl, keep.length = kl := ⟨_, rfl⟩
  rw [hWD] at HP0 HSC
  rw [hIW] at HP0 HIC
  rw [hAR] at HSC HAL HAM HJ
  rw [hkl] at HKC HRC ⊢
  obtain ⟨uB, huB⟩ : ∃ uB : ByteArray, (⟨AR.toArray⟩ : ByteArray) = uB := ⟨_, rfl⟩
  have hud : uB.data.toList = AR := by rw [← huB]
  have hus : uB.size = AR.length := by rw [ba_size, hud]
  rw [huB] at HSC
  have HUD := Aside0.mk hud
  have HUS := Aside0.mk hus
  have HUL : Aside0 (uB.size ≤ 2) := ⟨by omega⟩
  have HP0 := Aside0.mk HP0
  have kb := fun W => print_bytes (P := Tryz.prog) 9 64 5 Tryz.underlying9 Tryz.underlying64 Tryz.underlying5 uB W
  have HQP := Aside0.mk HQP
  have HQQ := Aside0.mk HQQ
  have HIN := Aside0.mk HIN
  have HIM := Aside0.mk HIM
  have HKC := Aside0.mk HKC
  have HJ := Aside0.mk HJ
  have HIC := Aside0.mk HIC
  clear hpB hqB hpd hqd hWD hIW hAR hkl huB hud hus E80 E81 E78 E77 E75 HAL
  go_enter Tryz.func8, Tryz.ntmps8
  go_upto_region 4 with (first
    | (go_at_call 13; (with_reducible refine (HRC _ (below_alloc HB0.out _)).mono ?_); rintro e w1 ⟨rfl, hb⟩; have HBW := Aside0.mk ((below_alloc (Below.refl w.heap.size w) (.cells #[.int .i64 who, .int .i64 kind, .string pB, .string qB, .int .i64 n, .int .i64 m, .slice A kl c] 31)).trans (hb.mono (by simp))); have hk_ := blk_below (blk_new w (.cells #[.int .i64 who, .int .i64 kind, .string pB, .string qB, .int .i64 n, .int .i64 m, .slice A kl c] 31 (0, 0))) hb; have BK := Aside0.mk hk_; obtain ⟨q0, q1, q2, q3, q4, q5, q6⟩ := cells7 hk_; clear hk_ hb)
    | (go_at_call 23; (with_reducible refine (HSC _ (HB0.out.trans (HBW.out.mono HB0.out.size))).mono ?_); rintro e w2 ⟨rfl, hb⟩; have hk_ := blk_below BK.out hb; clear q0 q1 q2 q3 q4 q5 q6; replace BK := Aside0.mk hk_; obtain ⟨q0, q1, q2, q3, q4, q5, q6⟩ := cells7 hk_; clear hk_; replace HBW := Aside0.mk (HBW.out.trans (hb.mono HBW.out.size)); clear hb))
  go_wp2_with (first
    | (go_at_call 24; (with_reducible refine (HIC.out _ (HB0.out.trans (HBW.out.mono HB0.out.size))).mono ?_); rintro e w3 ⟨rfl, hb⟩; have hk_ := blk_below BK.out hb; clear q0 q1 q2 q3 q4 q5 q6; replace BK := Aside0.mk hk_; obtain ⟨q0, q1, q2, q3, q4, q5, q6⟩ := cells7 hk_; clear hk_; replace HBW := Aside0.mk (HBW.out.trans (hb.mono HBW.out.size)); clear hb))
  obtain ⟨b0, hb0⟩ : ∃ b0, w.heap.size = b0 := ⟨_, rfl⟩
  obtain ⟨bo, hbo⟩ : ∃ bo, w3.heap.size = bo := ⟨_, rfl⟩
  have HB0W := Aside0.mk hb0
  have HLT : Aside0 (b0 < bo) := ⟨by rw [← hbo, ← hb0]; exact blk_lt BK.out⟩
  have hC : ∀ j, j < AR.length → (Lib.bytesWorld (w3.alloc (.cells #[.string ⟨IW.toArray⟩, .string ⟨WD.toArray⟩] 9)) 5 uB).cell? ⟨bo + 1, j, none⟩ = some (.int .u8 (AR.getD j 0).toNat) := by
    intro j hj
    have h := Lib.bytesWorld_cell (w3.alloc (.cells #[.string ⟨IW.toArray⟩, .string ⟨WD.toArray⟩] 9)) 5 uB j (by rw [HUS.out]; exact hj)
    rw [HUD.out] at h
    rw [← hbo]
    rw [World.size_alloc] at h
    exact h
  have hbw : Below w3.heap.size w3 (Lib.bytesWorld (w3.alloc (.cells #[.string ⟨IW.toArray⟩, .string ⟨WD.toArray⟩] 9)) 5 uB) := bytes_below (below_alloc (Below.refl _ _) _) (by simp) _ _
  have ho : OwnS (Lib.bytesWorld (w3.alloc (.cells #[.string ⟨IW.toArray⟩, .string ⟨WD.toArray⟩] 9)) 5 uB) bo (bo + 1) (.slice (some ⟨bo, 0, none⟩) 2 2) (PT []) := by
    rw [HP0.out, ← hbo]
    exact Kd.R_below (own_lit2 w3 IW WD _ (by omega)) (bytes_below (Below.refl _ _) (Nat.le_refl _) _ _)
  have hB1 : bo + 1 < (Lib.bytesWorld (w3.alloc (.cells #[.string ⟨IW.toArray⟩, .string ⟨WD.toArray⟩] 9)) 5 uB).heap.size := by rw [Lib.bytesWorld_size]; simp only [World.size_alloc]; omega
  obtain ⟨gc, hgc⟩ : ∃ gc, grownCap (w3.alloc (.cells #[.string ⟨IW.toArray⟩, .string ⟨WD.toArray⟩] 9)) uB.size 0 5 = gc := ⟨_, rfl⟩
  obtain ⟨W2, hW2⟩ : ∃ W2, Lib.bytesWorld (w3.alloc (.cells #[.string ⟨IW.toArray⟩, .string ⟨WD.toArray⟩] 9)) 5 uB = W2 := ⟨_, rfl⟩
  rw [hW2] at hC hbw ho hB1 ⊢
  rw [hgc]
  rw [hb0] at BK ⊢
  rw [hbo] at hbw ⊢
  obtain ⟨N, hN⟩ : ∃ N, uB.size = N := ⟨_, rfl⟩
  rw [hN] at HUS HUL ⊢
  have hN2 : (N : Int) ≤ 2 := by have := HUL.out; omega
  obtain ⟨B1, hB1e⟩ : ∃ B1, bo + 1 = B1 := ⟨_, rfl⟩
  rw [hB1e] at hC ho hB1 ⊢
  have HC := Aside0.mk hC
  have HO := Aside0.mk ho
  have HB := Aside0.mk hbw
  have HB1 := Aside0.mk hB1
  have HBO := Aside0.mk hbo
  clear hC hbw ho hB1 hW2 hgc hN hB1e hbo hb0 kb q0 q1 q2 q3 q4 q5 q6
  go_loopg [6, 26] (N + 1) (fun gf v6 v26 wr => ∃ (k : Nat), v26 = .int .i64 k ∧ k ≤ N ∧ Aside0 (OwnS wr bo B1 v6 (PT (AR.take k))) ∧ Aside0 (Below bo w3 wr) ∧ Aside0 (wr.heap[B1]? = W2.heap[B1]?) ∧ N < k + gf)
  case atStart => exact ⟨0, rfl, by omega, HO, HB, ⟨rfl⟩, by omega⟩
  case round =>
    obtain ⟨k, rfl, hk, HO, HB, HG, hgf⟩ := hrel
    obtain ⟨n', rfl⟩ : ∃ n, gk = n + 1 := ⟨gk - 1, by omega⟩
    have HX : Aside0 (B1 < wr.heap.size) := ⟨by
      have h1 := HB1.out
      have h2 := HG.out
      rw [Array.getElem?_eq_getElem h1] at h2
      exact (Array.getElem?_eq_some_iff.1 h2).1⟩
    have hk_ : wr.heap[b0]? = some (.cells #[.int .i64 who, .int .i64 kind, .string pB, .string qB, .int .i64 n, .int .i64 m, .slice A kl c] 31 (0, 0)) := (HB.out.block b0 HLT.out).trans BK.out
    obtain ⟨q0, q1, q2, q3, q4, q5, q6⟩ := cells7 hk_
    clear hk_
    have HBWR : Aside0 (Below w.heap.size w wr) := ⟨HBW.out.trans (HB.out.mono (by have := HLT.out; have := HB0W.out; omega))⟩
    have HBZ : Aside0 (Below w0.heap.size w0 wr) := ⟨HB0.out.trans (HBWR.out.mono HB0.out.size)⟩
    by_cases hlt : k < N
    · have hcell := (cell_same HG.out k).trans (HC.out k (by rw [← HUS.out]; exact hlt))
      obtain ⟨a, ha⟩ : ∃ a, AR.getD k 0 = a := ⟨_, rfl⟩
      have hk2 : k < AR.length := by rw [← HUS.out]; exact hlt
      have hak : AR[k] = a := by rw [← ha]; simp [List.getD_eq_getElem?_getD, List.getElem?_eq_getElem hk2]
      have htk : AR.take (k + 1) = AR.take k ++ [a] := by rw [List.take_succ_eq_append_getElem hk2, hak]
      have ham := HAM.out a (by rw [← hak]; exact List.getElem_mem hk2)
      rw [ha] at hcell
      have HTK := Aside0.mk htk
      clear ha htk hak hk2
      rcases ham with rfl | rfl | rfl | rfl | rfl
      · have e_ : ((UInt8.toNat 80 : Nat) : Int) = 80 := rfl
        rw [e_] at hcell
        clear e_
        go_wp2_with (first
          | (go_at_call 22; (with_reducible refine (HQP.out _).mono ?_); rintro e w5 ⟨rfl, hb⟩; have HO5 := Aside0.mk (Kd.R_below HO.out hb); have HB5 := Aside0.mk (HB.out.trans (hb.mono (Nat.le_trans (Nat.le_of_eq HBO.out.symm) HB.out.size))); have HG5 : Aside0 (w5.heap[B1]? = W2.heap[B1]?) := ⟨(hb.block B1 HX.out).trans HG.out⟩; have HX5 : Aside0 (B1 < w5.heap.size) := ⟨Nat.lt_of_lt_of_le HX.out hb.size⟩; clear hb)
          | ((with_reducible refine gate_builtin (b := .append) (xs := #[.tmp 33, .tmp 37]) rfl ?_); at_builtin; go_must (refine app_s (w0 := w3) bo B1 rfl (.tmp 33) (.tmp 37) 63 rfl Tryz.underlying63 info_str _ (PT (AR.take k)) (EN 80) rfl rfl HO5.out HX5.out HB5.out (Nat.le_trans (Nat.le_of_eq HBO.out.symm) HB5.out.size) ?aL ?_; (case aL => (have h2 := HUL.out; rw [HPJ.out, List.length_take]; omega)); intro v9 w9 ho hb hg; have HO9 := Aside0.mk ho; have HB9 := Aside0.mk hb; have HG9 := Aside0.mk hg; clear ho hb hg)))
        go_roundg n'
        case measure => omega
        case rel => exact ⟨k + 1, by go_num, by omega, ⟨by rw [HTK.out, HPS.out]; exact HO9.out⟩, HB9, ⟨HG9.out.trans HG5.out⟩, by omega⟩
      · have e_ : ((UInt8.toNat 81 : Nat) : Int) = 81 := rfl
        rw [e_] at hcell
        clear e_
        go_wp2_with (first
          | (go_at_call 22; (with_reducible refine (HQQ.out _).mono ?_); rintro e w5 ⟨rfl, hb⟩; have HO5 := Aside0.mk (Kd.R_below HO.out hb); have HB5 := Aside0.mk (HB.out.trans (hb.mono (Nat.le_trans (Nat.le_of_eq HBO.out.symm) HB.out.size))); have HG5 : Aside0 (w5.heap[B1]? = W2.heap[B1]?) := ⟨(hb.block B1 HX.out).trans HG.out⟩; have HX5 : Aside0 (B1 < w5.heap.size) := ⟨Nat.lt_of_lt_of_le HX.out hb.size⟩; clear hb)
          | ((with_reducible refine gate_builtin (b := .append) (xs := #[.tmp 41, .tmp 45]) rfl ?_); at_builtin; go_must (refine app_s (w0 := w3) bo B1 rfl (.tmp 41) (.tmp 45) 63 rfl Tryz.underlying63 info_str _ (PT (AR.take k)) (EN 81) rfl rfl HO5.out HX5.out HB5.out (Nat.le_trans (Nat.le_of_eq HBO.out.symm) HB5.out.size) ?aL ?_; (case aL => (have h2 := HUL.out; rw [HPJ.out, List.length_take]; omega)); intro v9 w9 ho hb hg; have HO9 := Aside0.mk ho; have HB9 := Aside0.mk hb; have HG9 := Aside0.mk hg; clear ho hb hg)))
        go_roundg n'
        case measure => omega
        case rel => exact ⟨k + 1, by go_num, by omega, ⟨by rw [HTK.out, HPS.out]; exact HO9.out⟩, HB9, ⟨HG9.out.trans HG5.out⟩, by omega⟩
      · have e_ : ((UInt8.toNat 78 : Nat) : Int) = 78 := rfl
        rw [e_] at hcell
        clear e_
        go_wp2_with (first
          | (go_at_call 24; (with_reducible refine (HIN.out _ HBZ.out).mono ?_); rintro e w5 ⟨rfl, hb⟩; have HO5 := Aside0.mk (Kd.R_below HO.out hb); have HB5 := Aside0.mk (HB.out.trans (hb.mono (Nat.le_trans (Nat.le_of_eq HBO.out.symm) HB.out.size))); have HG5 : Aside0 (w5.heap[B1]? = W2.heap[B1]?) := ⟨(hb.block B1 HX.out).trans HG.out⟩; have HX5 : Aside0 (B1 < w5.heap.size) := ⟨Nat.lt_of_lt_of_le HX.out hb.size⟩; clear hb)
          | ((with_reducible refine gate_builtin (b := .append) (xs := #[.tmp 49, .tmp 53]) rfl ?_); at_builtin; go_must (refine app_s (w0 := w3) bo B1 rfl (.tmp 49) (.tmp 53) 63 rfl Tryz.underlying63 info_str _ (PT (AR.take k)) (EN 78) rfl rfl HO5.out HX5.out HB5.out (Nat.le_trans (Nat.le_of_eq HBO.out.symm) HB5.out.size) ?aL ?_; (case aL => (have h2 := HUL.out; rw [HPJ.out, List.length_take]; omega)); intro v9 w9 ho hb hg; have HO9 := Aside0.mk ho; have HB9 := Aside0.mk hb; have HG9 := Aside0.mk hg; clear ho hb hg)))
        go_roundg n'
        case measure => omega
        case rel => exact ⟨k + 1, by go_num, by omega, ⟨by rw [HTK.out, HPS.out]; exact HO9.out⟩, HB9, ⟨HG9.out.trans HG5.out⟩, by omega⟩
      · have e_ : ((UInt8.toNat 77 : Nat) : Int) = 77 := rfl
        rw [e_] at hcell
        clear e_
        go_wp2_with (first
          | (go_at_call 24; (with_reducible refine (HIM.out _ HBZ.out).mono ?_); rintro e w5 ⟨rfl, hb⟩; have HO5 := Aside0.mk (Kd.R_below HO.out hb); have HB5 := Aside0.mk (HB.out.trans (hb.mono (Nat.le_trans (Nat.le_of_eq HBO.out.symm) HB.out.size))); have HG5 : Aside0 (w5.heap[B1]? = W2.heap[B1]?) := ⟨(hb.block B1 HX.out).trans HG.out⟩; have HX5 : Aside0 (B1 < w5.heap.size) := ⟨Nat.lt_of_lt_of_le HX.out hb.size⟩; clear hb)
          | ((with_reducible refine gate_builtin (b := .append) (xs := #[.tmp 57, .tmp 61]) rfl ?_); at_builtin; go_must (refine app_s (w0 := w3) bo B1 rfl (.tmp 57) (.tmp 61) 63 rfl Tryz.underlying63 info_str _ (PT (AR.take k)) (EN 77) rfl rfl HO5.out HX5.out HB5.out (Nat.le_trans (Nat.le_of_eq HBO.out.symm) HB5.out.size) ?aL ?_; (case aL => (have h2 := HUL.out; rw [HPJ.out, List.length_take]; omega)); intro v9 w9 ho hb hg; have HO9 := Aside0.mk ho; have HB9 := Aside0.mk hb; have HG9 := Aside0.mk hg; clear ho hb hg)))
        go_roundg n'
        case measure => omega
        case rel => exact ⟨k + 1, by go_num, by omega, ⟨by rw [HTK.out, HPS.out]; exact HO9.out⟩, HB9, ⟨HG9.out.trans HG5.out⟩, by omega⟩
      · have e_ : ((UInt8.toNat 75 : Nat) : Int) = 75 := rfl
        rw [e_] at hcell
        clear e_
        go_wp2_with (first
          | (go_at_call 25; (with_reducible refine (HKC.out _ HBWR.out).mono ?_); rintro e w5 ⟨rfl, hb⟩; have HO5 := Aside0.mk (Kd.R_below HO.out hb); have HB5 := Aside0.mk (HB.out.trans (hb.mono (Nat.le_trans (Nat.le_of_eq HBO.out.symm) HB.out.size))); have HG5 : Aside0 (w5.heap[B1]? = W2.heap[B1]?) := ⟨(hb.block B1 HX.out).trans HG.out⟩; have HX5 : Aside0 (B1 < w5.heap.size) := ⟨Nat.lt_of_lt_of_le HX.out hb.size⟩; clear hb)
          | ((with_reducible refine gate_builtin (b := .append) (xs := #[.tmp 65, .tmp 69]) rfl ?_); at_builtin; go_must (refine app_s (w0 := w3) bo B1 rfl (.tmp 65) (.tmp 69) 63 rfl Tryz.underlying63 info_str _ (PT (AR.take k)) (EN 75) rfl rfl HO5.out HX5.out HB5.out (Nat.le_trans (Nat.le_of_eq HBO.out.symm) HB5.out.size) ?aL ?_; (case aL => (have h2 := HUL.out; rw [HPJ.out, List.length_take]; omega)); intro v9 w9 ho hb hg; have HO9 := Aside0.mk ho; have HB9 := Aside0.mk hb; have HG9 := Aside0.mk hg; clear ho hb hg)))
        go_roundg n'
        case measure => omega
        case rel => exact ⟨k + 1, by go_num, by omega, ⟨by rw [HTK.out, HPS.out]; exact HO9.out⟩, HB9, ⟨HG9.out.trans HG5.out⟩, by omega⟩
    · obtain rfl : k = N := by omega
      have hu : AR.take k = AR := by rw [List.take_of_length_le]; rw [← HUS.out]; omega
      have ho := HO.out
      rw [hu] at ho
      obtain ⟨g, cap, hv⟩ := ownS_form ho (by rw [HPJ.out]; omega)
      subst hv
      have hj := HJ.out g cap bo B1 wr ho
      clear hu ho
      go_wp2_with (go_at_call 26; (with_reducible refine hj.mono ?_); rintro e w9 ⟨rfl, hb⟩; have H9 := Aside0.mk hb; clear hb)
      go_ret2
      exact ⟨rfl, HBWR.out.trans (H9.out.mono HBWR.out.size)⟩
theorem line_calls (x : Stp) (A : Option Addr) (c : Nat) (w0 w : World) (hT : Tb w0) (hb : Below w0.heap.size w0 w) (hC : Kd.bool.C w A x.keep.length x.keep) :
    Calls Tryz.prog 8 #[.agg (stpC x A c)] w fun e w' => e = .returned (.tuple #[.string ⟨(lineS x).toArray⟩, .int .i64 (lineK x)]) ∧ Below w.heap.size w w' := by
  unfold lineS lineK
  cases hR : rightB x
  · exact line_wrong x A c w0 w hT hb hR
  · exact line_right x A c w0 w hT hb hC hR
end Go.Proofs.YtoajcijjkkkaaaaGreatDoor.K

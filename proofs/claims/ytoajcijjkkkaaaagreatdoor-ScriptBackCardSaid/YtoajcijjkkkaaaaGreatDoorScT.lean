/- script's (*reader).whole, with its arguments. -/
import Derived.Test.YtoajcijjkkkaaaaGreatDoorScS
namespace Go.Proofs.YtoajcijjkkkaaaaGreatDoor.K
open Go.RowKit Go.Proofs.YtoajcijjkkkaaaaGreatDoorW.PrintWords Go.Proofs.YtoajcijjkkkaaaaGreatDoorW.PrintLast Go.Proofs.YtoajcijjkkkaaaaGreatDoorW.PrintMore
set_option linter.unusedVariables false
set_option linter.unusedSimpArgs false

/-- What whole leaves. -/
def HPost (w0 w : World) (g : Nat) (R : Option Stp) (e : Ending) (w' : World) : Prop :=
  match R with
  | none => Wrong w0 w g e w'
  | some x => (∃ v, e = .returned (.agg #[.int .i64 x.who, .int .i64 x.kind, .string ⟨x.p.toArray⟩, .string ⟨x.q.toArray⟩, .int .i64 x.n, .int .i64 x.m, v]) ∧ OwnB w' w.heap.size v x.keep) ∧ Below w0.heap.size w0 w' ∧ KeepBut w w' g none
/-- What is made of the arguments' reading. -/
def endR (R : Option (Stp × Bs)) : Option Stp :=
  match R with
  | none => none
  | some (x, r) => if r = [] ∧ rightB x = true then some x else none
theorem args_nil (a : UInt8) (L : Bs) (x : Stp) : rdArgs (a :: L) [] x = none := rfl
theorem args_ne (a c : UInt8) (L r : Bs) (x : Stp) (h : c ≠ 32) : rdArgs (a :: L) (c :: r) x = none := by simp [rdArgs, h]
theorem args_none (a : UInt8) (L r : Bs) (x : Stp) (h : rdArg a r x = none) : rdArgs (a :: L) (32 :: r) x = none := by simp [rdArgs, h]
theorem args_some (a : UInt8) (L r r' : Bs) (x y : Stp) (h : rdArg a r x = some (y, r')) : rdArgs (a :: L) (32 :: r) x = rdArgs L r' y := by simp [rdArgs, h]

set_option maxRecDepth 100000 in
set_option maxHeartbeats 8000000 in
theorem whole_in (w0 w : World) (g : Nat) (s s2 : Bs) (n : Int) (hT : Tb w0) (h : Rr w0 w g s) (hn : rdNum s = some (n, 32 :: s2)) :
    Calls Tryz.prog 33 #[.pointer (some ⟨g, 0, none⟩)] w (HPost w0 w g (endR (rdArgs (argsOf (kindOf (upTo s2))) (onw s2) ⟨n, kindOf (upTo s2), [], [], 0, 0, []⟩))) := by
  have HM := mid_new w0 w g s h
  have HN := number_calls w0 _ g s hT HM.rd
  rw [hn] at HN
  have HM := Aside0.mk HM
  have HT := Aside0.mk hT
  have hul : (upTo s2).length ≤ 4294967280 := by
    have h1 := up_len s2
    have h2 := (rdNum_some hn).1
    have h3 := h.len
    rw [h2] at h3
    simp only [List.length_append, List.length_cons] at h3
    omega
  obtain ⟨RA, hRA⟩ : ∃ RA, rdArgs (argsOf (kindOf (upTo s2))) (onw s2) ⟨n, kindOf (upTo s2), [], [], 0, 0, []⟩ = RA := ⟨_, rfl⟩
  rw [hRA]
  obtain ⟨RE, hRE⟩ : ∃ RE, endR RA = RE := ⟨_, rfl⟩
  rw [hRE]
  have HRE := Aside0.mk hRE
  clear hRE
  obtain ⟨U, hU⟩ : ∃ U, upTo s2 = U := ⟨_, rfl⟩
  have hup : (⟨(upTo s2).toArray⟩ : ByteArray) = ⟨U.toArray⟩ := by rw [hU]
  rw [hU] at hRA hul
  obtain ⟨kd, hkd⟩ : ∃ kd, kindOf U = kd := ⟨_, rfl⟩
  have HIX := fun b bw w1 h1 h2 => idxf_calls U hul b bw w1 h1 h2
  rw [hkd] at HIX hRA
  have HST := fun w1 hb1 => step_calls kd w0 w1 hT hb1
  have HWS := fun w1 hb1 => words_calls w0 w1 hT hb1
  have HAM := Aside0.mk (fun a (h : a ∈ argsOf kd) => args_mem h)
  have HAL := args_len kd
  obtain ⟨AR, hAR⟩ : ∃ AR, argsOf kd = AR := ⟨_, rfl⟩
  rw [hAR] at HST HAM HAL hRA
  have HRA := Aside0.mk hRA
  have HIX := Aside0.mk HIX
  have HUP := Aside0.mk hup
  clear hT h hn hRA hul hup hU hkd hAR
  go_enter Tryz.func33, Tryz.ntmps33
  go_upto_region 2 with (go_at_call 53; (with_reducible refine HN.mono ?_); rintro e w1 ⟨rfl, hr, hk⟩; have hm := HM.out.call hk hr; have f0 := hm.froz 0; obtain ⟨q0, q1, q2, q3, q4, q5, q6⟩ := hm.cells; replace HM := Aside0.mk hm; clear hr hk hm)
  have hm := HM.out.put (y := step0 n) (v' := .slice none 0 0) 0 (.int .i64 n) rfl (Kd.R_nil _ _ _ _ _)
  obtain ⟨W, hW⟩ : ∃ W, w1.setCell ⟨w.heap.size, 0, none⟩ (.int .i64 n) = W := ⟨_, rfl⟩
  obtain ⟨bs, hbs⟩ : ∃ bs, w.heap.size = bs := ⟨_, rfl⟩
  rw [hW, hbs] at hm
  rw [hW, hbs]
  have HBS := Aside0.mk hbs
  replace HM := Aside0.mk hm
  clear hm hW hbs q0 q1 q2 q3 q4 q5 q6 f0 HN
  have e32 : ((UInt8.toNat 32 : Nat) : Int) = 32 := rfl
  have HC := byte_cons w0 W g 32 s2 HM.out.rd
  rw [e32] at HC
  go_upto_region 4 with (first
    | (go_at_call 55; (with_reducible refine HC.mono ?_); rintro e w2 ⟨rfl, hr, hk⟩; replace HM := Aside0.mk (HM.out.call hk hr); clear hr hk)
    | (go_at_call 54; (with_reducible refine (must_true _ _).mono ?_); rintro e w' ⟨rfl, rfl⟩)
    | (go_at_call 56; (with_reducible refine (word_calls w0 _ g s2 HM.out.rd).mono ?_); rintro e w3 ⟨rfl, hr, hk⟩; replace HM := Aside0.mk (HM.out.call hk hr); clear hr hk))
  rw [HUP.out]
  have hbx := blk_new w3 (.cells #[.string ⟨U.toArray⟩] 9 (0, 0))
  replace HM := Aside0.mk (HM.out.on (below_alloc (Below.refl _ _) (.cells #[.string ⟨U.toArray⟩] 9)))
  obtain ⟨bw, hbw⟩ : ∃ bw, w3.heap.size = bw := ⟨_, rfl⟩
  obtain ⟨W4, hW4⟩ : ∃ W4, w3.alloc (.cells #[.string ⟨U.toArray⟩] 9) = W4 := ⟨_, rfl⟩
  rw [hW4] at hbx HM ⊢
  rw [hbw] at hbx ⊢
  have HBX := Aside0.mk hbx
  have hmf : ∀ (fn : Fn) (first cap : Array Value) (w : World), (Instr.makeFunc fn first cap).run Tryz.prog w = .ok (.func fn first cap) w := fun _ _ _ _ => rfl
  clear hW4 hbw hbx HC
  go_upto_region 5 with (first
    | (go_at_call 47; (with_reducible refine (HWS _ HM.out.bel).mono ?_); rintro e w5 ⟨rfl, h1, hb⟩; have HWA := Aside0.mk h1; replace HM := Aside0.mk (HM.out.on hb); have c9 : w5.cell? ⟨bw, 0, none⟩ = some (.string ⟨U.toArray⟩) := pw_cell_below hb ((blk_cell HBX.out 0).trans rfl); clear h1 hb)
    | (go_at_call 57; (with_reducible refine (HIX.out _ bw _ HWA.out c9).mono ?_); rintro e w6 ⟨rfl, hb⟩; replace HM := Aside0.mk (HM.out.on hb); have f0 := HM.out.froz; obtain ⟨q0, q1, q2, q3, q4, q5, q6⟩ := HM.out.cells; clear hb))
  have hm := HM.out.put (y := step1 n kd) (v' := .slice none 0 0) 1 (.int .i64 kd) rfl (Kd.R_nil _ _ _ _ _)
  obtain ⟨W7, hW7⟩ : ∃ W7, w6.setCell ⟨bs, 1, none⟩ (.int .i64 kd) = W7 := ⟨_, rfl⟩
  rw [hW7] at hm ⊢
  replace HM := Aside0.mk hm
  clear hm hW7 q0 q1 q2 q3 q4 q5 q6 f0 c9
  obtain ⟨q0, q1, q2, q3, q4, q5, q6⟩ := HM.out.cells
  have k1 : (step1 n kd).kind = kd := rfl
  rw [k1] at q1
  go_upto_region 6 with (go_at_call 23; (with_reducible refine (HST _ HM.out.bel).mono ?_); rintro e w8 ⟨rfl, hb⟩; replace HM := Aside0.mk (HM.out.on hb); clear hb)
  clear q0 q1 q2 q3 q4 q5 q6 k1 HST HWS
  obtain ⟨uB, huB⟩ : ∃ uB : ByteArray, (⟨AR.toArray⟩ : ByteArray) = uB := ⟨_, rfl⟩
  have hud : uB.data.toList = AR := by rw [← huB]
  have hus : uB.size = AR.length := by rw [ba_size, hud]
  have hmx : (uB.size : Int) ≤ 2 := by omega
  have kb := fun W => print_bytes (P := Tryz.prog) 9 64 5 Tryz.underlying9 Tryz.underlying64 Tryz.underlying5 uB W
  have HUD := Aside0.mk hud
  have HUS := Aside0.mk hus
  rw [huB]
  clear huB hud hus HAL
  go_wp2_with fail
  obtain ⟨B1, hB1⟩ : ∃ B1, w8.heap.size = B1 := ⟨_, rfl⟩
  have hC : ∀ j, j < AR.length → (Lib.bytesWorld w8 5 uB).cell? ⟨B1, j, none⟩ = some (.int .u8 (AR.getD j 0).toNat) := by
    intro j hj
    rw [← hB1, Lib.bytesWorld_cell w8 5 uB j (by rw [HUS.out]; exact hj), HUD.out]
  have hbw : Below w8.heap.size w8 (Lib.bytesWorld w8 5 uB) := bytes_below (Below.refl _ _) (Nat.le_refl _) _ _
  have HLB : Aside0 (bs < B1) := ⟨by rw [← hB1]; exact blk_lt HM.out.blk⟩
  replace HM := Aside0.mk (HM.out.on hbw)
  have hB2 : B1 < (Lib.bytesWorld w8 5 uB).heap.size := by rw [Lib.bytesWorld_size]; omega
  rw [hB1]
  obtain ⟨W2, hW2⟩ : ∃ W2, Lib.bytesWorld w8 5 uB = W2 := ⟨_, rfl⟩
  obtain ⟨gc, hgc⟩ : ∃ gc, grownCap w8 uB.size 0 5 = gc := ⟨_, rfl⟩
  rw [hW2] at hC HM hB2 ⊢
  rw [hgc]
  obtain ⟨N, hN⟩ : ∃ N, uB.size = N := ⟨_, rfl⟩
  rw [hN] at HUS hmx ⊢
  have HC := Aside0.mk hC
  have HB2 := Aside0.mk hB2
  clear hC hbw hW2 hB1 kb hgc hB2 hN
  go_loopg [31] (N + 1) (fun gf v31 wr => ∃ (k : Nat) (x : Stp) (v : Value) (l : Bs), v31 = .int .i64 k ∧ k ≤ N ∧ Aside0 (Mid w0 w bs g x v l wr) ∧ Aside0 (rdArgs (AR.drop k) l x = RA) ∧ Aside0 (wr.heap[B1]? = W2.heap[B1]?) ∧ N < k + gf)
  case atStart => exact ⟨0, step1 n kd, _, _, rfl, by omega, HM, HRA, ⟨rfl⟩, by omega⟩
  case round =>
    obtain ⟨k, x, v, l, rfl, hk, HM, HRA, HG, hgf⟩ := hrel
    obtain ⟨n', rfl⟩ : ∃ n, gk = n + 1 := ⟨gk - 1, by omega⟩
    have HX : Aside0 (B1 < wr.heap.size) := ⟨by
      have h1 := HB2.out
      have h2 := HG.out
      rw [Array.getElem?_eq_getElem h1] at h2
      exact (Array.getElem?_eq_some_iff.1 h2).1⟩
    by_cases hlt : k < N
    · have hcell := (cell_same HG.out k).trans (HC.out k (by rw [← HUS.out]; exact hlt))
      obtain ⟨a, ha⟩ : ∃ a, AR.getD k 0 = a := ⟨_, rfl⟩
      have hk2 : k < AR.length := by rw [← HUS.out]; exact hlt
      have hak : AR[k] = a := by rw [← ha]; simp [List.getD_eq_getElem?_getD, List.getElem?_eq_getElem hk2]
      have htk : AR.drop k = a :: AR.drop (k + 1) := by rw [List.drop_eq_getElem_cons hk2, hak]
      have ham := HAM.out a (by rw [← hak]; exact List.getElem_mem hk2)
      rw [ha] at hcell
      replace HRA := Aside0.mk (htk ▸ HRA.out)
      clear ha htk hak hk2
      cases l with
      | nil =>
        obtain rfl : RA = none := HRA.out.symm
        obtain rfl : RE = none := HRE.out.symm
        go_wp2_with (go_at_call 55; (with_reducible refine (byte_nil w0 wr g HM.out.rd).mono ?_); rintro e w' ⟨rfl, hb, hk⟩)
        exact ⟨rfl, rfl, hb, keep2 HM.out.keep hk⟩
      | cons c r =>
        by_cases hc : c = 32
        · subst hc
          have HCB := byte_cons w0 wr g 32 r HM.out.rd
          rw [e32] at HCB
          rcases ham with rfl | rfl | rfl | rfl | rfl
          · have e_ : ((UInt8.toNat 80 : Nat) : Int) = 80 := rfl
            rw [e_] at hcell
            clear e_
            cases he : unqO r with
            | none =>
              obtain rfl : RA = none := by rw [← HRA.out, args_none _ _ _ _ (by simp [rdArg, he])]
              obtain rfl : RE = none := HRE.out.symm
              have HQ := fun w1 (h1 : Rr w0 w1 g r) => quoted_calls w0 w1 g r h1
              rw [he] at HQ
              clear he
              go_wp2_with (first
                | (go_at_call 55; (with_reducible refine HCB.mono ?_); rintro e w2 ⟨rfl, hr, hk⟩; replace HM := Aside0.mk (HM.out.call hk hr); replace HG : Aside0 (w2.heap[B1]? = W2.heap[B1]?) := ⟨(hk.2 B1 HX.out (by have := HM.out.gw; have := HLB.out; omega) (by simp)).trans HG.out⟩; replace HX : Aside0 (B1 < w2.heap.size) := ⟨Nat.lt_of_lt_of_le HX.out hk.1⟩; clear hr hk)
                | (go_at_call 54; (with_reducible refine (must_true _ _).mono ?_); rintro e w' ⟨rfl, rfl⟩)
                | (go_at_call 46; (with_reducible refine (HQ _ HM.out.rd).mono ?_); rintro e w' ⟨rfl, hb, hk⟩))
              exact ⟨rfl, rfl, hb, keep2 HM.out.keep hk⟩
            | some y =>
              obtain ⟨t, r'⟩ := y
              have HR2 := Aside0.mk ((args_some 80 (AR.drop (k + 1)) r r' x { x with p := t } (by simp [rdArg, he])).symm.trans HRA.out)
              have HQ := fun w1 (h1 : Rr w0 w1 g r) => quoted_calls w0 w1 g r h1
              rw [he] at HQ
              clear he
              go_wp2_with (first
                | (go_at_call 55; (with_reducible refine HCB.mono ?_); rintro e w2 ⟨rfl, hr, hk⟩; replace HM := Aside0.mk (HM.out.call hk hr); replace HG : Aside0 (w2.heap[B1]? = W2.heap[B1]?) := ⟨(hk.2 B1 HX.out (by have := HM.out.gw; have := HLB.out; omega) (by simp)).trans HG.out⟩; replace HX : Aside0 (B1 < w2.heap.size) := ⟨Nat.lt_of_lt_of_le HX.out hk.1⟩; clear hr hk)
                | (go_at_call 54; (with_reducible refine (must_true _ _).mono ?_); rintro e w' ⟨rfl, rfl⟩)
                | (go_at_call 46; (with_reducible refine (HQ _ HM.out.rd).mono ?_); rintro e w4 ⟨rfl, hr, hk⟩; replace HM := Aside0.mk (HM.out.call hk hr); replace HG : Aside0 (w4.heap[B1]? = W2.heap[B1]?) := ⟨(hk.2 B1 HX.out (by have := HM.out.gw; have := HLB.out; omega) (by simp)).trans HG.out⟩; replace HX : Aside0 (B1 < w4.heap.size) := ⟨Nat.lt_of_lt_of_le HX.out hk.1⟩; have f0 := HM.out.froz; obtain ⟨q0, q1, q2, q3, q4, q5, q6⟩ := HM.out.cells; clear hr hk))
              have HM9 := Aside0.mk (HM.out.put (y := { x with p := t }) (v' := v) 2 (.string ⟨t.toArray⟩) rfl HM.out.own)
              have HG9 : Aside0 ((w4.setCell ⟨bs, 2, none⟩ (.string ⟨t.toArray⟩)).heap[B1]? = W2.heap[B1]?) := ⟨(Below.heap_setCell _ _ _ _ (by have := HLB.out; simp; omega)).trans HG.out⟩
              clear q0 q1 q2 q3 q4 q5 q6 f0
              go_roundg n'
              case measure => omega
              case rel => exact ⟨k + 1, _, v, r', by go_num, by omega, HM9, HR2, HG9, by omega⟩
          · have e_ : ((UInt8.toNat 81 : Nat) : Int) = 81 := rfl
            rw [e_] at hcell
            clear e_
            cases he : unqO r with
            | none =>
              obtain rfl : RA = none := by rw [← HRA.out, args_none _ _ _ _ (by simp [rdArg, he])]
              obtain rfl : RE = none := HRE.out.symm
              have HQ := fun w1 (h1 : Rr w0 w1 g r) => quoted_calls w0 w1 g r h1
              rw [he] at HQ
              clear he
              go_wp2_with (first
                | (go_at_call 55; (with_reducible refine HCB.mono ?_); rintro e w2 ⟨rfl, hr, hk⟩; replace HM := Aside0.mk (HM.out.call hk hr); replace HG : Aside0 (w2.heap[B1]? = W2.heap[B1]?) := ⟨(hk.2 B1 HX.out (by have := HM.out.gw; have := HLB.out; omega) (by simp)).trans HG.out⟩; replace HX : Aside0 (B1 < w2.heap.size) := ⟨Nat.lt_of_lt_of_le HX.out hk.1⟩; clear hr hk)
                | (go_at_call 54; (with_reducible refine (must_true _ _).mono ?_); rintro e w' ⟨rfl, rfl⟩)
                | (go_at_call 46; (with_reducible refine (HQ _ HM.out.rd).mono ?_); rintro e w' ⟨rfl, hb, hk⟩))
              exact ⟨rfl, rfl, hb, keep2 HM.out.keep hk⟩
            | some y =>
              obtain ⟨t, r'⟩ := y
              have HR2 := Aside0.mk ((args_some 81 (AR.drop (k + 1)) r r' x { x with q := t } (by simp [rdArg, he])).symm.trans HRA.out)
              have HQ := fun w1 (h1 : Rr w0 w1 g r) => quoted_calls w0 w1 g r h1
              rw [he] at HQ
              clear he
              go_wp2_with (first
                | (go_at_call 55; (with_reducible refine HCB.mono ?_); rintro e w2 ⟨rfl, hr, hk⟩; replace HM := Aside0.mk (HM.out.call hk hr); replace HG : Aside0 (w2.heap[B1]? = W2.heap[B1]?) := ⟨(hk.2 B1 HX.out (by have := HM.out.gw; have := HLB.out; omega) (by simp)).trans HG.out⟩; replace HX : Aside0 (B1 < w2.heap.size) := ⟨Nat.lt_of_lt_of_le HX.out hk.1⟩; clear hr hk)
                | (go_at_call 54; (with_reducible refine (must_true _ _).mono ?_); rintro e w' ⟨rfl, rfl⟩)
                | (go_at_call 46; (with_reducible refine (HQ _ HM.out.rd).mono ?_); rintro e w4 ⟨rfl, hr, hk⟩; replace HM := Aside0.mk (HM.out.call hk hr); replace HG : Aside0 (w4.heap[B1]? = W2.heap[B1]?) := ⟨(hk.2 B1 HX.out (by have := HM.out.gw; have := HLB.out; omega) (by simp)).trans HG.out⟩; replace HX : Aside0 (B1 < w4.heap.size) := ⟨Nat.lt_of_lt_of_le HX.out hk.1⟩; have f0 := HM.out.froz; obtain ⟨q0, q1, q2, q3, q4, q5, q6⟩ := HM.out.cells; clear hr hk))
              have HM9 := Aside0.mk (HM.out.put (y := { x with q := t }) (v' := v) 3 (.string ⟨t.toArray⟩) rfl HM.out.own)
              have HG9 : Aside0 ((w4.setCell ⟨bs, 3, none⟩ (.string ⟨t.toArray⟩)).heap[B1]? = W2.heap[B1]?) := ⟨(Below.heap_setCell _ _ _ _ (by have := HLB.out; simp; omega)).trans HG.out⟩
              clear q0 q1 q2 q3 q4 q5 q6 f0
              go_roundg n'
              case measure => omega
              case rel => exact ⟨k + 1, _, v, r', by go_num, by omega, HM9, HR2, HG9, by omega⟩
          · have e_ : ((UInt8.toNat 78 : Nat) : Int) = 78 := rfl
            rw [e_] at hcell
            clear e_
            cases he : rdNum r with
            | none =>
              obtain rfl : RA = none := by rw [← HRA.out, args_none _ _ _ _ (by simp [rdArg, he])]
              obtain rfl : RE = none := HRE.out.symm
              have HQ := fun w1 (h1 : Rr w0 w1 g r) => number_calls w0 w1 g r HT.out h1
              rw [he] at HQ
              clear he
              go_wp2_with (first
                | (go_at_call 55; (with_reducible refine HCB.mono ?_); rintro e w2 ⟨rfl, hr, hk⟩; replace HM := Aside0.mk (HM.out.call hk hr); replace HG : Aside0 (w2.heap[B1]? = W2.heap[B1]?) := ⟨(hk.2 B1 HX.out (by have := HM.out.gw; have := HLB.out; omega) (by simp)).trans HG.out⟩; replace HX : Aside0 (B1 < w2.heap.size) := ⟨Nat.lt_of_lt_of_le HX.out hk.1⟩; clear hr hk)
                | (go_at_call 54; (with_reducible refine (must_true _ _).mono ?_); rintro e w' ⟨rfl, rfl⟩)
                | (go_at_call 53; (with_reducible refine (HQ _ HM.out.rd).mono ?_); rintro e w' ⟨rfl, hb, hk⟩))
              exact ⟨rfl, rfl, hb, keep2 HM.out.keep hk⟩
            | some y =>
              obtain ⟨t, r'⟩ := y
              have HR2 := Aside0.mk ((args_some 78 (AR.drop (k + 1)) r r' x { x with n := t } (by simp [rdArg, he])).symm.trans HRA.out)
              have HQ := fun w1 (h1 : Rr w0 w1 g r) => number_calls w0 w1 g r HT.out h1
              rw [he] at HQ
              clear he
              go_wp2_with (first
                | (go_at_call 55; (with_reducible refine HCB.mono ?_); rintro e w2 ⟨rfl, hr, hk⟩; replace HM := Aside0.mk (HM.out.call hk hr); replace HG : Aside0 (w2.heap[B1]? = W2.heap[B1]?) := ⟨(hk.2 B1 HX.out (by have := HM.out.gw; have := HLB.out; omega) (by simp)).trans HG.out⟩; replace HX : Aside0 (B1 < w2.heap.size) := ⟨Nat.lt_of_lt_of_le HX.out hk.1⟩; clear hr hk)
                | (go_at_call 54; (with_reducible refine (must_true _ _).mono ?_); rintro e w' ⟨rfl, rfl⟩)
                | (go_at_call 53; (with_reducible refine (HQ _ HM.out.rd).mono ?_); rintro e w4 ⟨rfl, hr, hk⟩; replace HM := Aside0.mk (HM.out.call hk hr); replace HG : Aside0 (w4.heap[B1]? = W2.heap[B1]?) := ⟨(hk.2 B1 HX.out (by have := HM.out.gw; have := HLB.out; omega) (by simp)).trans HG.out⟩; replace HX : Aside0 (B1 < w4.heap.size) := ⟨Nat.lt_of_lt_of_le HX.out hk.1⟩; have f0 := HM.out.froz; obtain ⟨q0, q1, q2, q3, q4, q5, q6⟩ := HM.out.cells; clear hr hk))
              have HM9 := Aside0.mk (HM.out.put (y := { x with n := t }) (v' := v) 4 (.int .i64 t) rfl HM.out.own)
              have HG9 : Aside0 ((w4.setCell ⟨bs, 4, none⟩ (.int .i64 t)).heap[B1]? = W2.heap[B1]?) := ⟨(Below.heap_setCell _ _ _ _ (by have := HLB.out; simp; omega)).trans HG.out⟩
              clear q0 q1 q2 q3 q4 q5 q6 f0
              go_roundg n'
              case measure => omega
              case rel => exact ⟨k + 1, _, v, r', by go_num, by omega, HM9, HR2, HG9, by omega⟩
          · have e_ : ((UInt8.toNat 77 : Nat) : Int) = 77 := rfl
            rw [e_] at hcell
            clear e_
            cases he : rdNum r with
            | none =>
              obtain rfl : RA = none := by rw [← HRA.out, args_none _ _ _ _ (by simp [rdArg, he])]
              obtain rfl : RE = none := HRE.out.symm
              have HQ := fun w1 (h1 : Rr w0 w1 g r) => number_calls w0 w1 g r HT.out h1
              rw [he] at HQ
              clear he
              go_wp2_with (first
                | (go_at_call 55; (with_reducible refine HCB.mono ?_); rintro e w2 ⟨rfl, hr, hk⟩; replace HM := Aside0.mk (HM.out.call hk hr); replace HG : Aside0 (w2.heap[B1]? = W2.heap[B1]?) := ⟨(hk.2 B1 HX.out (by have := HM.out.gw; have := HLB.out; omega) (by simp)).trans HG.out⟩; replace HX : Aside0 (B1 < w2.heap.size) := ⟨Nat.lt_of_lt_of_le HX.out hk.1⟩; clear hr hk)
                | (go_at_call 54; (with_reducible refine (must_true _ _).mono ?_); rintro e w' ⟨rfl, rfl⟩)
                | (go_at_call 53; (with_reducible refine (HQ _ HM.out.rd).mono ?_); rintro e w' ⟨rfl, hb, hk⟩))
              exact ⟨rfl, rfl, hb, keep2 HM.out.keep hk⟩
            | some y =>
              obtain ⟨t, r'⟩ := y
              have HR2 := Aside0.mk ((args_some 77 (AR.drop (k + 1)) r r' x { x with m := t } (by simp [rdArg, he])).symm.trans HRA.out)
              have HQ := fun w1 (h1 : Rr w0 w1 g r) => number_calls w0 w1 g r HT.out h1
              rw [he] at HQ
              clear he
              go_wp2_with (first
                | (go_at_call 55; (with_reducible refine HCB.mono ?_); rintro e w2 ⟨rfl, hr, hk⟩; replace HM := Aside0.mk (HM.out.call hk hr); replace HG : Aside0 (w2.heap[B1]? = W2.heap[B1]?) := ⟨(hk.2 B1 HX.out (by have := HM.out.gw; have := HLB.out; omega) (by simp)).trans HG.out⟩; replace HX : Aside0 (B1 < w2.heap.size) := ⟨Nat.lt_of_lt_of_le HX.out hk.1⟩; clear hr hk)
                | (go_at_call 54; (with_reducible refine (must_true _ _).mono ?_); rintro e w' ⟨rfl, rfl⟩)
                | (go_at_call 53; (with_reducible refine (HQ _ HM.out.rd).mono ?_); rintro e w4 ⟨rfl, hr, hk⟩; replace HM := Aside0.mk (HM.out.call hk hr); replace HG : Aside0 (w4.heap[B1]? = W2.heap[B1]?) := ⟨(hk.2 B1 HX.out (by have := HM.out.gw; have := HLB.out; omega) (by simp)).trans HG.out⟩; replace HX : Aside0 (B1 < w4.heap.size) := ⟨Nat.lt_of_lt_of_le HX.out hk.1⟩; have f0 := HM.out.froz; obtain ⟨q0, q1, q2, q3, q4, q5, q6⟩ := HM.out.cells; clear hr hk))
              have HM9 := Aside0.mk (HM.out.put (y := { x with m := t }) (v' := v) 5 (.int .i64 t) rfl HM.out.own)
              have HG9 : Aside0 ((w4.setCell ⟨bs, 5, none⟩ (.int .i64 t)).heap[B1]? = W2.heap[B1]?) := ⟨(Below.heap_setCell _ _ _ _ (by have := HLB.out; simp; omega)).trans HG.out⟩
              clear q0 q1 q2 q3 q4 q5 q6 f0
              go_roundg n'
              case measure => omega
              case rel => exact ⟨k + 1, _, v, r', by go_num, by omega, HM9, HR2, HG9, by omega⟩
          · have e_ : ((UInt8.toNat 75 : Nat) : Int) = 75 := rfl
            rw [e_] at hcell
            clear e_
            cases he : rdKeep r with
            | none =>
              obtain rfl : RA = none := by rw [← HRA.out, args_none _ _ _ _ (by simp [rdArg, he])]
              obtain rfl : RE = none := HRE.out.symm
              have HQ := fun w1 (h1 : Rr w0 w1 g r) => keep_calls w0 w1 g r h1
              rw [he] at HQ
              clear he
              go_wp2_with (first
                | (go_at_call 55; (with_reducible refine HCB.mono ?_); rintro e w2 ⟨rfl, hr, hk⟩; replace HM := Aside0.mk (HM.out.call hk hr); replace HG : Aside0 (w2.heap[B1]? = W2.heap[B1]?) := ⟨(hk.2 B1 HX.out (by have := HM.out.gw; have := HLB.out; omega) (by simp)).trans HG.out⟩; replace HX : Aside0 (B1 < w2.heap.size) := ⟨Nat.lt_of_lt_of_le HX.out hk.1⟩; clear hr hk)
                | (go_at_call 54; (with_reducible refine (must_true _ _).mono ?_); rintro e w' ⟨rfl, rfl⟩)
                | (go_at_call 59; (with_reducible refine (HQ _ HM.out.rd).mono ?_); rintro e w' ⟨rfl, hb, hk⟩))
              exact ⟨rfl, rfl, hb, keep2 HM.out.keep hk⟩
            | some y =>
              obtain ⟨t, r'⟩ := y
              have HR2 := Aside0.mk ((args_some 75 (AR.drop (k + 1)) r r' x { x with keep := t } (by simp [rdArg, he])).symm.trans HRA.out)
              have HQ := fun w1 (h1 : Rr w0 w1 g r) => keep_calls w0 w1 g r h1
              rw [he] at HQ
              clear he
              go_wp2_with (first
                | (go_at_call 55; (with_reducible refine HCB.mono ?_); rintro e w2 ⟨rfl, hr, hk⟩; replace HM := Aside0.mk (HM.out.call hk hr); replace HG : Aside0 (w2.heap[B1]? = W2.heap[B1]?) := ⟨(hk.2 B1 HX.out (by have := HM.out.gw; have := HLB.out; omega) (by simp)).trans HG.out⟩; replace HX : Aside0 (B1 < w2.heap.size) := ⟨Nat.lt_of_lt_of_le HX.out hk.1⟩; clear hr hk)
                | (go_at_call 54; (with_reducible refine (must_true _ _).mono ?_); rintro e w' ⟨rfl, rfl⟩)
                | (go_at_call 59; (with_reducible refine (HQ _ HM.out.rd).mono ?_); rintro e w4 ⟨⟨v4, rfl, ho⟩, hr, hk⟩; obtain ⟨A4, c4, rfl⟩ := Kd.R_slice ho; have HO4 := Aside0.mk (Kd.R_lower ho (Nat.succ_le_of_lt (blk_lt HM.out.blk))); replace HM := Aside0.mk (HM.out.call hk hr); replace HG : Aside0 (w4.heap[B1]? = W2.heap[B1]?) := ⟨(hk.2 B1 HX.out (by have := HM.out.gw; have := HLB.out; omega) (by simp)).trans HG.out⟩; replace HX : Aside0 (B1 < w4.heap.size) := ⟨Nat.lt_of_lt_of_le HX.out hk.1⟩; have f0 := HM.out.froz; obtain ⟨q0, q1, q2, q3, q4, q5, q6⟩ := HM.out.cells; clear hr hk ho))
              have HM9 := Aside0.mk (HM.out.put (y := { x with keep := t }) (v' := .slice A4 t.length c4) 6 (.slice A4 t.length c4) rfl HO4.out)
              have HG9 : Aside0 ((w4.setCell ⟨bs, 6, none⟩ (.slice A4 t.length c4)).heap[B1]? = W2.heap[B1]?) := ⟨(Below.heap_setCell _ _ _ _ (by have := HLB.out; simp; omega)).trans HG.out⟩
              clear q0 q1 q2 q3 q4 q5 q6 f0
              go_roundg n'
              case measure => omega
              case rel => exact ⟨k + 1, _, (.slice A4 t.length c4), r', by go_num, by omega, HM9, HR2, HG9, by omega⟩
        · obtain rfl : RA = none := by rw [← HRA.out, args_ne _ _ _ _ _ hc]
          obtain rfl : RE = none := HRE.out.symm
          have e1 : ((c.toNat : Int) == 32) = false := ne_u8 (k := 32) hc
          clear hc ham
          go_wp2_with (first
            | (go_at_call 55; (with_reducible refine (byte_cons w0 wr g c r HM.out.rd).mono ?_); rintro e w2 ⟨rfl, hr, hk⟩; replace HM := Aside0.mk (HM.out.call hk hr); clear hr hk)
            | (go_at_call 54; (with_reducible refine (must_false _ _).mono ?_); rintro e w' ⟨rfl, rfl⟩))
          exact ⟨rfl, rfl, HM.out.bel, HM.out.keep⟩
    · obtain rfl : k = N := by omega
      have hu : AR.drop k = [] := by rw [List.drop_eq_nil_iff]; rw [← HUS.out]; omega
      have hra := HRA.out
      rw [hu] at hra
      obtain rfl : RA = some (x, l) := hra.symm
      obtain ⟨A, c0, rfl⟩ := Kd.R_slice HM.out.own
      have cg : wr.cell? ⟨g, 0, none⟩ = some (.string ⟨l.toArray⟩) := rr_cell HM.out.rd
      obtain ⟨lB, hlB⟩ : ∃ lB : ByteArray, (⟨l.toArray⟩ : ByteArray) = lB := ⟨_, rfl⟩
      have hle : lB.toList = l := by rw [Lib.toList_data, ← hlB]
      rw [hlB] at cg
      clear hra hu hlB
      by_cases hl : l = []
      · subst hl
        have e1 : lB.toList.isEmpty = true := by rw [hle]; rfl
        have e2 : (lB.toList == ([] : List UInt8)) = true := by rw [hle]; rfl
        have e3 : lB.toList = ([] : List UInt8) := hle
        clear hle
        have HRG := right_calls x A c0 w0 wr HT.out HM.out.bel
        obtain ⟨q0, q1, q2, q3, q4, q5, q6⟩ := HM.out.cells
        cases hR : rightB x
        · rw [hR] at HRG
          obtain rfl : RE = none := by rw [← HRE.out]; simp [endR, hR]
          clear hR
          go_wp2_with (first
            | (go_at_call 13; (with_reducible refine HRG.mono ?_); rintro e w4 ⟨rfl, hb⟩; have HM4 := Aside0.mk (HM.out.on hb); clear hb)
            | (go_at_call 54; (with_reducible refine (must_false _ _).mono ?_); rintro e w' ⟨rfl, rfl⟩))
          exact ⟨rfl, rfl, HM4.out.bel, HM4.out.keep⟩
        · rw [hR] at HRG
          obtain rfl : RE = some x := by rw [← HRE.out]; simp [endR, hR]
          clear hR
          go_wp2_with (first
            | (go_at_call 13; (with_reducible refine HRG.mono ?_); rintro e w4 ⟨rfl, hb⟩; have HM4 := Aside0.mk (HM.out.on hb); clear q0 q1 q2 q3 q4 q5 q6; obtain ⟨q0, q1, q2, q3, q4, q5, q6⟩ := HM4.out.cells; have f0 := HM4.out.froz; clear hb)
            | (go_at_call 54; (with_reducible refine (must_true _ _).mono ?_); rintro e w' ⟨rfl, rfl⟩))
          have hm := HM4.out.back
          have c2 := hm.cells
          obtain ⟨p0, p1, p2, p3, p4, p5, p6⟩ := c2
          have HM5 := Aside0.mk hm
          clear hm q0 q1 q2 q3 q4 q5 q6 f0
          refine bodyPost_ret (v := .agg #[.int .i64 x.who, .int .i64 x.kind, .string ⟨x.p.toArray⟩, .string ⟨x.q.toArray⟩, .int .i64 x.n, .int .i64 x.m, .slice A x.keep.length c0]) (by simp [results, Tryz.results33, go_sem, p0, p1, p2, p3, p4, p5, p6]) rfl ⟨⟨_, rfl, ?_⟩, HM5.out.bel, HM5.out.keep⟩
          exact Kd.R_lower HM5.out.own (by rw [HBS.out]; omega)
      · have e1 : lB.toList.isEmpty = false := by rw [hle]; simpa using hl
        have e2 : (lB.toList == ([] : List UInt8)) = false := by rw [hle]; exact beq_eq_false_iff_ne.2 hl
        obtain rfl : RE = none := by rw [← HRE.out]; simp [endR, hl]
        clear hle hl
        go_wp2_with (first
          | (go_at_call 54; (with_reducible refine (must_false _ _).mono ?_); rintro e w' ⟨rfl, rfl⟩))
        exact ⟨rfl, rfl, HM.out.bel, HM.out.keep⟩
theorem whole_calls (w0 w : World) (g : Nat) (s : Bs) (hT : Tb w0) (h : Rr w0 w g s) :
    Calls Tryz.prog 33 #[.pointer (some ⟨g, 0, none⟩)] w (HPost w0 w g (whole s)) := by
  unfold whole
  cases hn : rdNum s with
  | none => exact whole_num w0 w g s hT h hn
  | some p =>
    obtain ⟨n, s1⟩ := p
    simp only
    cases s1 with
    | nil => exact whole_sp w0 w g s _ n hT h hn (by simp)
    | cons c r =>
      simp only
      by_cases hc : c = 32
      · subst hc
        rw [if_pos rfl]
        exact whole_in w0 w g s r n hT h hn
      · rw [if_neg hc]
        exact whole_sp w0 w g s _ n hT h hn (by rintro r2 e; exact hc (by simp at e; exact e.1))
end Go.Proofs.YtoajcijjkkkaaaaGreatDoor.K

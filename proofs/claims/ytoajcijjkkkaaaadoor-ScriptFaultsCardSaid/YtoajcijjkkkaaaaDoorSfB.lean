/- ScriptFaults: the walk. -/
import Derived.Test.YtoajcijjkkkaaaaDoorSfA
import Derived.BigQuiet
namespace Go.Proofs.YtoajcijjkkkaaaaDoor.K
open Go.RowKit Go.Proofs.YtoajcijjkkkaaaaDoorW.PrintWords Go.Proofs.YtoajcijjkkkaaaaDoorW.PrintLast Go.Proofs.YtoajcijjkkkaaaaDoorW.PrintMore
set_option linter.unusedVariables false
set_option linter.unusedSimpArgs false

theorem ownF_reads {w : World} {b : Nat} {A : Option Addr} {n c : Nat} {l : List SF} (h : OwnF w b (.slice A n c) l) : n = l.length ∧ Kd.C kF w A n l := by
  obtain ⟨A', c', he, hr⟩ := Kd.R_reads h
  simp only [Value.slice.injEq] at he
  obtain ⟨rfl, rfl, _⟩ := he
  refine ⟨rfl, ?_⟩
  first | exact hr | exact hr.1 | exact hr.2
/-- The two cells of the k-th fault. -/
theorem fau_cells {w : World} {A : Option Addr} {FL : List Nat} {n : Nat} (h : Kd.C kF w A n (FL.map ofFau)) (k : Nat) (hk : k < FL.length) (hn : n = FL.length) :
    ∃ ad, A = some ad ∧ w.cell? (ad.add (k * 2)) = some (.int .i64 (FL[k] : Nat)) ∧ w.cell? ⟨(ad.add (k * 2)).block, (ad.add (k * 2)).off + 1, none⟩ = some (.int .i64 4) := by
  obtain ⟨ad, e, h0, h1⟩ := atF h (k : Int) (by omega) (by omega)
  have er : rdF (FL.map ofFau) (k : Int) = ofFau FL[k] := by
    unfold rdF
    rw [Int.toNat_natCast, List.getD_eq_getElem?_getD, List.getElem?_map, List.getElem?_eq_getElem hk]
    rfl
  rw [er, Int.toNat_natCast] at h0 h1
  exact ⟨ad, e, h0, h1⟩
theorem ba_get {s : ByteArray} {U : Bs} (h : s.data.toList = U) {k : Nat} (hk : k < U.length) : ∃ h0 : k < s.size, s[k] = U[k] := by
  subst h
  refine ⟨by rw [ba_size]; exact hk, ?_⟩
  have : s.data[k]? = some (s.data.toList[k]) := by rw [← Array.getElem?_toList]; exact List.getElem?_eq_getElem hk
  exact (Array.getElem?_eq_some_iff.1 this).2
set_option maxRecDepth 100000 in
set_option maxHeartbeats 8000000 in
theorem faults_walk (s : ByteArray) (w0 w : World) (hT : Tb w0) (hb : Below w0.heap.size w0 w) :
    Calls Tryd.prog 4 #[.string s] w fun e w' => e = .returned (.bool true) ∧ Below w.heap.size w w' := by
  have HT := Aside0.mk hT
  have HB0 := Aside0.mk hb
  by_cases hlen : s.size ≤ 3000
  case neg =>
    have hgt : (3000 : Int) < s.size := by omega
    have HA := alive_calls w0 w hT hb
    clear hT hb hlen
    go_enter Tryd.func4, Tryd.ntmps4
    go_wp2_with (go_at_call 5; (with_reducible refine HA.mono ?_); rintro e w1 ⟨rfl, hb1⟩; have HB1 := Aside0.mk hb1; clear hb1)
    go_ret
    exact ⟨rfl, HB1.out⟩
  have HP := parse_calls s (by omega) w0 w hT hb
  have HU := Aside0.mk (ba_size s)
  obtain ⟨U, hU⟩ : ∃ U, s.data.toList = U := ⟨_, rfl⟩
  have HUD := Aside0.mk hU
  rw [hU] at HP HU
  have hl1 : (s.size : Int) ≤ 3000 := by omega
  clear hT hb hU
  go_enter Tryd.func4, Tryd.ntmps4
  go_wp2_with (go_at_call 12; (with_reducible refine HP.mono ?_); rintro e w1 ⟨hb1, v, u, rfl, ho, hf⟩; obtain ⟨A3, c3, rfl⟩ := Kd.R_slice ho; obtain ⟨A4, c4, rfl⟩ := Kd.R_slice hf; have HB1 := Aside0.mk hb1; have HF := Aside0.mk hf; clear hb1 ho hf; rw [List.length_map, List.length_map])
  go_loopg [5, 6, 7, 8] (s.size + 1) (fun gf v5 v6 v7 v8 wr => ∃ (k a r : Nat) (b : Bool), v8 = .int .i64 k ∧ v5 = .int .i64 a ∧ v6 = .int .i64 r ∧ v7 = .bool b ∧ wr = w1 ∧ k ≤ s.size ∧ a ≤ k + 1 ∧ r ≤ k ∧ Aside0 (a + (U.drop k).count 10 = 1 + U.count 10) ∧ Aside0 (r + rst b (U.drop k) = rst true U) ∧ s.size < k + gf)
  case atStart => exact ⟨0, 1, 0, true, rfl, rfl, rfl, rfl, rfl, by omega, by omega, by omega, ⟨by simp⟩, ⟨by simp⟩, by omega⟩
  case round =>
    obtain ⟨k, a, r, b, rfl, rfl, rfl, rfl, rfl, hk, ha, hr, HA, HR, hgf⟩ := hrel
    obtain ⟨n, rfl⟩ : ∃ n, gk = n + 1 := ⟨gk - 1, by omega⟩
    by_cases hlt : k < s.size
    · have hkU : k < U.length := by rw [← HU.out]; exact hlt
      obtain ⟨h0, e2⟩ := ba_get HUD.out hkU
      obtain ⟨c, hc⟩ : ∃ c, U[k] = c := ⟨_, rfl⟩
      rw [hc] at e2
      have hd : U.drop k = c :: U.drop (k + 1) := by rw [List.drop_eq_getElem_cons hkU, hc]
      obtain ⟨D, hD⟩ : ∃ D, U.drop (k + 1) = D := ⟨_, rfl⟩
      have hA := HA.out
      have hR := HR.out
      have HDD := Aside0.mk hD
      rw [hd, hD] at hA hR
      clear HA HR hd hc hD
      rw [show rst b (c :: D) = (if b && (c == 10 || c == 35) then 1 else 0) + rst (c == 10) D from rfl] at hR
      by_cases h10 : c = 10
      · subst h10
        rw [List.count_cons_self] at hA
        have e10 : ((10 : UInt8) == 10) = true := rfl
        rw [e10] at hR
        have HA : Aside0 (a + 1 + D.count 10 = 1 + U.count 10) := ⟨by omega⟩
        cases b with
        | true =>
          have HR : Aside0 (r + 1 + rst true D = rst true U) := ⟨by simp at hR; omega⟩
          clear hA hR
          go_wp2_with fail
          go_roundg n
          case measure => omega
          case rel => exact ⟨k + 1, a + 1, r + 1, true, by go_num, by go_num, by go_num, rfl, rfl, by omega, by omega, by omega, ⟨by rw [HDD.out]; exact HA.out⟩, ⟨by rw [HDD.out]; exact HR.out⟩, by omega⟩
        | false =>
          have HR : Aside0 (r + rst true D = rst true U) := ⟨by simp at hR; omega⟩
          clear hA hR
          go_wp2_with fail
          go_roundg n
          case measure => omega
          case rel => exact ⟨k + 1, a + 1, r, true, by go_num, by go_num, by go_num, rfl, rfl, by omega, by omega, by omega, ⟨by rw [HDD.out]; exact HA.out⟩, ⟨by rw [HDD.out]; exact HR.out⟩, by omega⟩
      · have hn10 : ¬ ((c.toNat : Int) = 10) := fun h => h10 (UInt8.toNat_inj.1 (by have e : (10 : UInt8).toNat = 10 := rfl; omega))
        have hb10 : ((c.toNat : Int) == 10) = false := by rw [beq_eq_false_iff_ne]; exact hn10
        have e10 : (c == 10) = false := by rw [beq_eq_false_iff_ne]; exact h10
        rw [List.count_cons_of_ne (by simpa using h10)] at hA
        rw [e10] at hR
        have HA : Aside0 (a + D.count 10 = 1 + U.count 10) := ⟨hA⟩
        cases b with
        | false =>
          have HR : Aside0 (r + rst false D = rst true U) := ⟨by simp at hR; omega⟩
          clear hA hR e10 h10
          go_wp2_with fail
          go_roundg n
          case measure => omega
          case rel => exact ⟨k + 1, a, r, false, by go_num, by go_num, by go_num, rfl, rfl, by omega, by omega, by omega, ⟨by rw [HDD.out]; exact HA.out⟩, ⟨by rw [HDD.out]; exact HR.out⟩, by omega⟩
        | true =>
          by_cases h35 : c = 35
          · subst h35
            have HR : Aside0 (r + 1 + rst false D = rst true U) := ⟨by simp at hR; omega⟩
            clear hA hR e10 h10
            go_wp2_with fail
            go_roundg n
            case measure => omega
            case rel => exact ⟨k + 1, a, r + 1, false, by go_num, by go_num, by go_num, rfl, rfl, by omega, by omega, by omega, ⟨by rw [HDD.out]; exact HA.out⟩, ⟨by rw [HDD.out]; exact HR.out⟩, by omega⟩
          · have hn35 : ¬ ((c.toNat : Int) = 35) := fun h => h35 (UInt8.toNat_inj.1 (by have e : (35 : UInt8).toNat = 35 := rfl; omega))
            have hb35 : ((c.toNat : Int) == 35) = false := by rw [beq_eq_false_iff_ne]; exact hn35
            have e35 : (c == 35) = false := by rw [beq_eq_false_iff_ne]; exact h35
            have HR : Aside0 (r + rst false D = rst true U) := ⟨by rw [e35] at hR; simp at hR; omega⟩
            clear hA hR e10 h10 e35 h35
            go_wp2_with fail
            go_roundg n
            case measure => omega
            case rel => exact ⟨k + 1, a, r, false, by go_num, by go_num, by go_num, rfl, rfl, by omega, by omega, by omega, ⟨by rw [HDD.out]; exact HA.out⟩, ⟨by rw [HDD.out]; exact HR.out⟩, by omega⟩
    · obtain ⟨W1, hW1⟩ : ∃ W1, W1 = wr := ⟨_, rfl⟩
      subst hW1
      have hk2 : U.drop k = [] := List.drop_eq_nil_of_le (by rw [← HU.out]; omega)
      have hA := HA.out
      have hR := HR.out
      rw [hk2] at hA hR
      obtain ⟨R, hRR⟩ : ∃ R, rst true U = R := ⟨_, rfl⟩
      have hLS : (stepsOf (lns U)).length + (fauOf 0 (lns U)).length + R = a := by
        have h1 := all_lines 0 (lns U)
        rw [← rst_all, hRR, lns_count] at h1
        simp at hA
        omega
      have hal : (lns U).length = a := by
        rw [lns_count]
        simp at hA
        omega
      rw [hRR] at hR
      have hsn : (stepsOf (lns U)).length ≤ 3001 := by
        have h1 := stepsOf_len (lns U)
        have h2 := lns_len U
        have h3 := HU.out
        omega
      have hfa : ∀ j v, (fauOf 0 (lns U))[j]? = some v → v < a := fun j v hv => by
        rw [← hal]
        obtain ⟨hj, rfl⟩ := List.getElem?_eq_some_iff.1 hv
        exact fau_at hj
      have hfr : ∀ j u v, (fauOf 0 (lns U))[j]? = some u → (fauOf 0 (lns U))[j + 1]? = some v → u < v := fun j u v hu hv => by
        obtain ⟨_, rfl⟩ := List.getElem?_eq_some_iff.1 hu
        obtain ⟨hj, rfl⟩ := List.getElem?_eq_some_iff.1 hv
        exact fau_next hj
      obtain ⟨hfn, hfc⟩ := ownF_reads HF.out
      obtain ⟨SN, hSN⟩ : ∃ SN, (stepsOf (lns U)).length = SN := ⟨_, rfl⟩
      obtain ⟨FL, hFL⟩ : ∃ FL, fauOf 0 (lns U) = FL := ⟨_, rfl⟩
      have hF2 := HF.out
      clear hfn
      rw [hFL] at hfa hfr hLS hfc ⊢
      rw [hSN] at hLS hsn ⊢
      have HF := Aside0.mk hfc
      have HLS := Aside0.mk hLS
      have HFA := Aside0.mk hfa
      have HFR := Aside0.mk hfr
      have hfl : FL.length ≤ a := by omega
      clear hA HA HR hk2 hRR hal hLS hfa hfr hF2 hfc hSN hFL
      cases b with
      | true =>
        have hr3 : r + 1 = R := by simpa [rst] using hR
        clear hR
        go_wp2_with fail
        rw [show ((r : Int) + 1) = ((R : Nat) : Int) by omega]
        clear hr3
        go_loopg [9] (FL.length + 1) (fun gf v9 wz => ∃ j : Nat, v9 = .int .i64 j ∧ Aside0 (Below W1.heap.size W1 wz) ∧ j ≤ FL.length ∧ FL.length < j + gf)
        case atStart => exact ⟨0, rfl, ⟨Below.refl _ _⟩, by omega, by omega⟩
        case round =>
          obtain ⟨j, rfl, HZ, hj, hgf2⟩ := hrel
          obtain ⟨n2, rfl⟩ : ∃ n2, gk = n2 + 1 := ⟨gk - 1, by omega⟩
          by_cases hlt2 : j < FL.length
          · obtain ⟨ad, rfl, c0, c1⟩ := fau_cells (Kd.C_below HF.out HZ.out) j hlt2 (List.length_map _)
            have v1 := HFA.out j _ (List.getElem?_eq_getElem hlt2)
            have HFJ := Aside0.mk (List.getElem?_eq_getElem hlt2)
            obtain ⟨v, hv⟩ : ∃ v, FL[j] = v := ⟨_, rfl⟩
            rw [hv] at c0 v1 HFJ
            clear hv
            have hd1 : decide ((v : Int) < 0) = false := decide_eq_false (by omega)
            have hd2 : decide ((a : Int) ≤ (v : Int)) = false := decide_eq_false (by omega)
            have hn2 : decide (a ≤ v) = false := decide_eq_false (by omega)
            by_cases hj0 : 0 < j
            · obtain ⟨i, hi⟩ : ∃ i, j = i + 1 := ⟨j - 1, by omega⟩
              obtain ⟨ad2, e2, k0, k1⟩ := fau_cells (Kd.C_below HF.out HZ.out) i (by omega) (List.length_map _)
              obtain rfl := Option.some.inj e2
              have HFK := Aside0.mk (List.getElem?_eq_getElem (show i < FL.length by omega))
              obtain ⟨u, hu⟩ : ∃ u, FL[i] = u := ⟨_, rfl⟩
              rw [hu] at k0 HFK
              clear hu e2
              have hlt3 := HFR.out i u v HFK.out (by rw [← hi]; exact HFJ.out)
              have hsub : (j : Int) - 1 = (i : Int) := by omega
              have hil : (i : Int) < (FL.length : Int) := by omega
              have hd3 : decide ((0 : Int) < (j : Int)) = true := decide_eq_true (by omega)
              have hn3 : decide (0 < j) = true := decide_eq_true (by omega)
              clear hi
              have hn4 : decide (v ≤ u) = false := decide_eq_false (by omega)
              have hd4 : decide ((v : Int) ≤ (u : Int)) = false := decide_eq_false (by omega)
              go_upto_region 19 with (fail)
              have mixed : Tryd.prog.follows Departure.mixedOrders = true := by kernel_rfl
              go_big_quiet_o (fail)
              go_wp2_with fail
              go_roundg n2
              case measure => omega
              case rel => exact ⟨j + 1, by go_num, ⟨by with_reducible repeat (first | exact HZ.out | apply pw_below_drewN)⟩, by omega, by omega⟩
            · have hd3 : decide ((0 : Int) < (j : Int)) = false := decide_eq_false (by omega)
              have hn3 : decide (0 < j) = false := decide_eq_false (by omega)
              go_upto_region 19 with (fail)
              have mixed : Tryd.prog.follows Departure.mixedOrders = true := by kernel_rfl
              go_big_quiet_o (fail)
              go_wp2_with fail
              go_roundg n2
              case measure => omega
              case rel => exact ⟨j + 1, by go_num, ⟨by with_reducible repeat (first | exact HZ.out | apply pw_below_drewN)⟩, by omega, by omega⟩
          · have hj2 : j = FL.length := by omega
            have hsum : (SN : Int) + (FL.length : Int) + (R : Int) = (a : Int) := by have := HLS.out; omega
            have hb2 : Below w0.heap.size w0 W1 := HB0.out.trans (HB1.out.mono HB0.out.size)
            have hbz := hb2.trans (HZ.out.mono hb2.size)
            have HA := alive_calls w0 _ HT.out hbz
            have HSUM := Aside0.mk hsum
            clear hb2 hbz
            go_wp2_with (go_at_call 5; (with_reducible refine HA.mono ?_); rintro e w2 ⟨rfl, hb1⟩; have HB2 := Aside0.mk hb1; clear hb1)
            go_ret
            have h3 := HB1.out.trans (HZ.out.mono HB1.out.size)
            exact ⟨rfl, h3.trans (HB2.out.mono h3.size)⟩
      | false =>
        have hr5 : r = R := by simpa [rst] using hR
        have hr3 : R = r := hr5.symm
        clear hr5
        subst hr3
        clear hR
        go_wp2_with fail
        go_loopg [9] (FL.length + 1) (fun gf v9 wz => ∃ j : Nat, v9 = .int .i64 j ∧ Aside0 (Below W1.heap.size W1 wz) ∧ j ≤ FL.length ∧ FL.length < j + gf)
        case atStart => exact ⟨0, rfl, ⟨Below.refl _ _⟩, by omega, by omega⟩
        case round =>
          obtain ⟨j, rfl, HZ, hj, hgf2⟩ := hrel
          obtain ⟨n2, rfl⟩ : ∃ n2, gk = n2 + 1 := ⟨gk - 1, by omega⟩
          by_cases hlt2 : j < FL.length
          · obtain ⟨ad, rfl, c0, c1⟩ := fau_cells (Kd.C_below HF.out HZ.out) j hlt2 (List.length_map _)
            have v1 := HFA.out j _ (List.getElem?_eq_getElem hlt2)
            have HFJ := Aside0.mk (List.getElem?_eq_getElem hlt2)
            obtain ⟨v, hv⟩ : ∃ v, FL[j] = v := ⟨_, rfl⟩
            rw [hv] at c0 v1 HFJ
            clear hv
            have hd1 : decide ((v : Int) < 0) = false := decide_eq_false (by omega)
            have hd2 : decide ((a : Int) ≤ (v : Int)) = false := decide_eq_false (by omega)
            have hn2 : decide (a ≤ v) = false := decide_eq_false (by omega)
            by_cases hj0 : 0 < j
            · obtain ⟨i, hi⟩ : ∃ i, j = i + 1 := ⟨j - 1, by omega⟩
              obtain ⟨ad2, e2, k0, k1⟩ := fau_cells (Kd.C_below HF.out HZ.out) i (by omega) (List.length_map _)
              obtain rfl := Option.some.inj e2
              have HFK := Aside0.mk (List.getElem?_eq_getElem (show i < FL.length by omega))
              obtain ⟨u, hu⟩ : ∃ u, FL[i] = u := ⟨_, rfl⟩
              rw [hu] at k0 HFK
              clear hu e2
              have hlt3 := HFR.out i u v HFK.out (by rw [← hi]; exact HFJ.out)
              have hsub : (j : Int) - 1 = (i : Int) := by omega
              have hil : (i : Int) < (FL.length : Int) := by omega
              have hd3 : decide ((0 : Int) < (j : Int)) = true := decide_eq_true (by omega)
              have hn3 : decide (0 < j) = true := decide_eq_true (by omega)
              clear hi
              have hn4 : decide (v ≤ u) = false := decide_eq_false (by omega)
              have hd4 : decide ((v : Int) ≤ (u : Int)) = false := decide_eq_false (by omega)
              go_upto_region 19 with (fail)
              have mixed : Tryd.prog.follows Departure.mixedOrders = true := by kernel_rfl
              go_big_quiet_o (fail)
              go_wp2_with fail
              go_roundg n2
              case measure => omega
              case rel => exact ⟨j + 1, by go_num, ⟨by with_reducible repeat (first | exact HZ.out | apply pw_below_drewN)⟩, by omega, by omega⟩
            · have hd3 : decide ((0 : Int) < (j : Int)) = false := decide_eq_false (by omega)
              have hn3 : decide (0 < j) = false := decide_eq_false (by omega)
              go_upto_region 19 with (fail)
              have mixed : Tryd.prog.follows Departure.mixedOrders = true := by kernel_rfl
              go_big_quiet_o (fail)
              go_wp2_with fail
              go_roundg n2
              case measure => omega
              case rel => exact ⟨j + 1, by go_num, ⟨by with_reducible repeat (first | exact HZ.out | apply pw_below_drewN)⟩, by omega, by omega⟩
          · have hj2 : j = FL.length := by omega
            have hsum : (SN : Int) + (FL.length : Int) + (R : Int) = (a : Int) := by have := HLS.out; omega
            have hb2 : Below w0.heap.size w0 W1 := HB0.out.trans (HB1.out.mono HB0.out.size)
            have hbz := hb2.trans (HZ.out.mono hb2.size)
            have HA := alive_calls w0 _ HT.out hbz
            have HSUM := Aside0.mk hsum
            clear hb2 hbz
            go_wp2_with (go_at_call 5; (with_reducible refine HA.mono ?_); rintro e w2 ⟨rfl, hb1⟩; have HB2 := Aside0.mk hb1; clear hb1)
            go_ret
            have h3 := HB1.out.trans (HZ.out.mono HB1.out.size)
            exact ⟨rfl, h3.trans (HB2.out.mono h3.size)⟩
end Go.Proofs.YtoajcijjkkkaaaaDoor.K

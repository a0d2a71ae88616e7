/- ScriptBack: the walk. -/
import Derived.Test.YtoajcijjkkkaaaaGreatDoorSgB
import Derived.Deep.RegionHeld3
namespace Go.Proofs.YtoajcijjkkkaaaaGreatDoor.K
open Go.RowKit Go.Proofs.YtoajcijjkkkaaaaGreatDoorW.PrintWords Go.Proofs.YtoajcijjkkkaaaaGreatDoorW.PrintLast Go.Proofs.YtoajcijjkkkaaaaGreatDoorW.PrintMore
set_option linter.unusedVariables false
set_option linter.unusedSimpArgs false

/-- A step's seven cells, its slice as a header alone. -/
structure SR where
  s : SS
  A : Option Addr
  c : Nat
def rawC (x : SR) : List Value := [.int .i64 x.s.f0, .int .i64 x.s.f1, .string x.s.f2, .string x.s.f3, .int .i64 x.s.f4, .int .i64 x.s.f5, .slice x.A x.s.f6.length x.c]
def kR : Kd SR where
  sz := 7
  E := []
  K := fun _ x cs => cs = rawC x
  M := fun _ _ _ x cs => cs = rawC x
  K_len := by rintro w x cs rfl; rfl
  K_one := by
    rintro w x cs rfl u hu
    simp only [rawC, List.mem_cons, List.not_mem_nil, or_false] at hu
    rcases hu with rfl | rfl | rfl | rfl | rfl | rfl | rfl <;> rfl
  K_below := fun _ h => h
  K_of_M := fun h => h
  M_mono := fun _ h => h
  M_bound := fun h => h
  M_move := fun _ h => h
  M_lower := fun _ h => h
/-- Its slice reads. -/
def SlR (w : World) (x : SR) : Prop := Kd.bool.C w x.A x.s.f6.length x.s.f6 ∧ x.s.f6.length ≤ x.c
theorem kR_reads {w : World} {A : Option Addr} {n : Nat} {rs : List SR} (h : Kd.C kR w A n rs) (hs : ∀ r ∈ rs, SlR w r) : Kd.C kS w A n (rs.map (·.s)) := by
  obtain ⟨h1, h2, h3⟩ := h
  refine ⟨by rw [List.length_map]; exact h1, h2, fun h0 => ?_⟩
  obtain ⟨ad, e, hc⟩ := h3 h0
  refine ⟨ad, e, fun j p hj => ?_⟩
  rw [List.getElem?_map, Option.map_eq_some_iff] at hj
  obtain ⟨r, hr, rfl⟩ := hj
  obtain ⟨c, hl, hR, hcell⟩ := hc j r hr
  have e2 : c = rawC r := hR
  subst e2
  obtain ⟨g1, g2⟩ := hs r (List.mem_of_getElem? hr)
  exact ⟨_, hl, kS_mk w r.s g2 g1, hcell⟩
theorem below_al {W W' : World} {o : Obj} (h : Below (W.alloc o).heap.size (W.alloc o) W') : Below W.heap.size W W' := (below_alloc (Below.refl _ _) _).trans (h.mono (by simp))
theorem C_none {w : World} : Kd.bool.C w none 0 [] := ⟨rfl, by decide, fun h => absurd h (by decide)⟩
theorem same_zero (w : World) : Calls Tryz.prog 15 #[.agg #[.int .i64 0, .int .i64 0, .string ⟨#[]⟩, .string ⟨#[]⟩, .int .i64 0, .int .i64 0, .slice none 0 0], .agg #[.int .i64 0, .int .i64 0, .string ⟨#[]⟩, .string ⟨#[]⟩, .int .i64 0, .int .i64 0, .slice none 0 0]] w fun e w' => e = .returned (.bool true) ∧ Below w.heap.size w w' :=
  same_calls 0 0 0 0 ⟨#[]⟩ ⟨#[]⟩ [] none none 0 0 w C_none C_none (Nat.zero_le _)
abbrev OwnRw (w : World) (b : Nat) (v : Value) (l : List SR) : Prop := Kd.R kR 31 w b (fun _ => True) v l

set_option maxRecDepth 100000 in
set_option maxHeartbeats 40000000 in
theorem back_walk (xs : List SS) (A : Option Addr) (c : Nat) (t rest : ByteArray) (w0 w : World) (hT : Tb w0) (hb : Below w0.heap.size w0 w) (hC : Kd.C kS w A xs.length xs) :
    Calls Tryz.prog 5 #[.slice A xs.length c, .string t, .string rest] w fun e w' => e = .returned (.bool true) ∧ Below w.heap.size w w' := by
  have HT := Aside0.mk hT
  have HB0 := Aside0.mk hb
  have HLI := light_calls xs A c w hC
  have HAL := alive_calls w0 w hT hb
  cases hli : lightB xs with
  | false =>
    rw [hli] at HLI
    clear hT hb hC hli
    go_enter Tryz.func5, Tryz.ntmps5
    go_wp2_with (first
      | (go_at_call 6; (with_reducible refine HLI.mono ?_); rintro e w1 ⟨rfl, hw1⟩; rw [hw1]; clear hw1)
      | (go_at_call 7; (with_reducible refine HAL.mono ?_); rintro e w2 ⟨rfl, hb1⟩; have HB1 := Aside0.mk hb1; clear hb1))
    go_ret
    exact ⟨rfl, HB1.out⟩
  | true =>
  rw [hli] at HLI
  by_cases h1 : t.size ≤ 1500
  case neg =>
    have hi1 : (1500 : Int) < (t.size : Int) := by omega
    clear hT hb hC hli h1
    go_enter Tryz.func5, Tryz.ntmps5
    go_wp2_with (first
      | (go_at_call 6; (with_reducible refine HLI.mono ?_); rintro e w1 ⟨rfl, hw1⟩; rw [hw1]; clear hw1)
      | (go_at_call 7; (with_reducible refine HAL.mono ?_); rintro e w2 ⟨rfl, hb1⟩; have HB1 := Aside0.mk hb1; clear hb1))
    go_ret
    exact ⟨rfl, HB1.out⟩
  by_cases h2 : rest.size ≤ 100
  case neg =>
    have hi1 : ¬ (1500 : Int) < (t.size : Int) := by omega
    have hi2 : (100 : Int) < (rest.size : Int) := by omega
    clear hT hb hC hli h1 h2
    go_enter Tryz.func5, Tryz.ntmps5
    go_wp2_with (first
      | (go_at_call 6; (with_reducible refine HLI.mono ?_); rintro e w1 ⟨rfl, hw1⟩; rw [hw1]; clear hw1)
      | (go_at_call 7; (with_reducible refine HAL.mono ?_); rintro e w2 ⟨rfl, hb1⟩; have HB1 := Aside0.mk hb1; clear hb1))
    go_ret
    exact ⟨rfl, HB1.out⟩
  have hi1 : ¬ (1500 : Int) < (t.size : Int) := by omega
  have hi2 : ¬ (100 : Int) < (rest.size : Int) := by omega
  have hx40 : xs.length ≤ 40 ∧ ∀ x ∈ xs, x.f6.length ≤ 120 := by
    unfold lightB at hli
    rw [Bool.and_eq_true, decide_eq_true_eq] at hli
    refine ⟨hli.1, fun x hx => ?_⟩
    have h := List.all_eq_true.1 hli.2 x hx
    unfold lightX at h
    simp only [Bool.and_eq_true, decide_eq_true_eq] at h
    exact h.2
  obtain ⟨h40, hkeep⟩ := hx40
  have HKEEP := Aside0.mk hkeep
  have HC := Aside0.mk hC
  have HAL := Aside0.mk HAL
  obtain ⟨N, hN⟩ : ∃ N, xs.length = N := ⟨_, rfl⟩
  have hm : (N : Int) ≤ 40 := by omega
  rw [hN] at h40 HC HLI ⊢
  have HN := Aside0.mk hN
  clear hT hb hC hli hkeep hN HAL
  go_enter Tryz.func5, Tryz.ntmps5
  go_wp2_with (go_at_call 6; (with_reducible refine HLI.mono ?_); rintro e w1 ⟨rfl, hw1⟩; rw [hw1]; clear hw1)
  clear HLI
  go_loopg [7, 8] (N + 1) (fun gf v7 v8 wr => ∃ (k : Nat) (rs : List SR), v8 = .int .i64 k ∧ k ≤ N ∧ Aside0 (OwnRw wr w.heap.size v7 rs) ∧ Aside0 (rs.map (·.s) = xs.take k) ∧ Aside0 (∀ r ∈ rs, SlR w r) ∧ Aside0 (Below w.heap.size w wr) ∧ N < k + gf)
  case atStart => exact ⟨0, [], rfl, by omega, ⟨Kd.R_nil _ _ _ _ _⟩, ⟨rfl⟩, ⟨by simp⟩, ⟨Below.refl _ _⟩, by omega⟩
  case round =>
    obtain ⟨k, rs, rfl, hk, HO, HE, HSL, HB, hgf⟩ := hrel
    obtain ⟨j, rfl⟩ : ∃ j, gk = j + 1 := ⟨gk - 1, by omega⟩
    obtain ⟨A7, c7, rfl⟩ := Kd.R_slice HO.out
    have hrl : rs.length = k := by
      have h := congrArg List.length HE.out
      rw [List.length_map, List.length_take, HN.out] at h
      omega
    have HRL := Aside0.mk hrl
    clear hrl
    by_cases hlt : k < N
    · obtain ⟨ad, A6, c6, rfl, g0, g1, g2, g3, g4, g5, g6, hl6, hC6⟩ := atS HC.out (k : Int) (by omega) (by omega)
      rw [Int.toNat_natCast] at g0 g1 g2 g3 g4 g5 g6
      obtain ⟨x, hx⟩ : ∃ x, rdS xs (k : Int) = x := ⟨_, rfl⟩
      rw [hx] at g0 g1 g2 g3 g4 g5 g6 hl6 hC6
      have hk2 : k < xs.length := by rw [HN.out]; exact hlt
      have hx2 : xs[k] = x := by
        rw [← hx]
        unfold rdS
        rw [Int.toNat_natCast, List.getD_eq_getElem?_getD, List.getElem?_eq_getElem hk2]
        rfl
      have htk : xs.take (k + 1) = xs.take k ++ [x] := by rw [List.take_succ_eq_append_getElem hk2, hx2]
      have HTK := Aside0.mk htk
      replace g0 := pw_cell_below HB.out g0
      replace g1 := pw_cell_below HB.out g1
      replace g2 := pw_cell_below HB.out g2
      replace g3 := pw_cell_below HB.out g3
      replace g4 := pw_cell_below HB.out g4
      replace g5 := pw_cell_below HB.out g5
      replace g6 := pw_cell_below HB.out g6
      have HSX : Aside0 (SlR w ⟨x, A6, c6⟩) := ⟨hC6, hl6⟩
      have HSZ : Aside0 (w.heap.size ≤ wr.heap.size) := ⟨HB.out.size⟩
      clear hx htk hC6 hl6 hk2 hx2
      go_wp2_with (first
        | (go_at_call 9; (with_reducible refine (own_calls x.f0 x.f1 x.f4 x.f5 x.f2 x.f3 A6 x.f6.length c6 _).mono ?_); rintro e w1 ⟨rfl, hb1⟩; have HB1 := Aside0.mk hb1; clear hb1)
        | ((with_reducible refine gate_builtin (b := .append) (xs := #[.tmp 40, .tmp 46]) rfl ?_); at_builtin; go_must (refine Kd.R_append kR (w0 := w) w.heap.size rfl (.tmp 40) (.tmp 46) 43 31 (.agg #[(.int .i64 0), (.int .i64 0), (.string ⟨#[]⟩), (.string ⟨#[]⟩), (.int .i64 0), (.int .i64 0), (.slice none 0 0)]) 88 rfl Tryz.underlying43 info_step rfl (by decide) (by omega) (.slice A7 rs.length c7) rs ⟨x, A6, c6⟩ (rawC ⟨x, A6, c6⟩) (fun _ => True) (fun _ => False) rfl (by first | (go_simp; done) | (go_simp; rfl)) ?aP (fun _ hk => hk.elim) ?aF ?aO ?aB ?aS ?aL ?_; (case aP => exact rfl); (case aB => exact HB.out.trans (HB1.out.mono HSZ.out)); (case aF => exact (fun _ _ => trivial)); (case aO => exact Kd.R_below HO.out HB1.out); (case aS => exact Nat.le_trans HSZ.out HB1.out.size); (case aL => have h1 := HRL.out; omega); intro v9 w9 ho hb hg hat; have HO9 := Aside0.mk ho; have HB9 := Aside0.mk hb; clear ho hb hg hat)))
      go_roundg j
      case measure => omega
      case rel => exact ⟨k + 1, rs ++ [⟨x, A6, c6⟩], by go_num, by omega, HO9, ⟨by rw [HTK.out, List.map_append, HE.out]; rfl⟩, ⟨fun r hr => by
        rcases List.mem_append.1 hr with hr | hr
        · exact HSL.out r hr
        · rw [List.mem_singleton.1 hr]; exact HSX.out⟩, HB9, by omega⟩
    · have hkN : k = N := by omega
      have hrs : rs.map (·.s) = xs := by rw [HE.out, List.take_of_length_le]; rw [HN.out]; omega
      have hCS : Kd.C kS wr A7 rs.length xs := by
        have h := kR_reads (Kd.R_reads' HO.out).2.2 (fun r hr => ⟨Kd.C_below (HSL.out r hr).1 HB.out, (HSL.out r hr).2⟩)
        rw [hrs] at h
        exact h
      have hrl2 : rs.length = xs.length := by rw [HRL.out, HN.out, hkN]
      rw [hrl2] at hCS HO ⊢
      have hb2 : Below w0.heap.size w0 wr := HB0.out.trans (HB.out.mono HB0.out.size)
      have HSH := show_calls xs A7 c7 w0 wr HT.out hb2 hCS (by rw [HN.out]; exact h40)
      have HCR := Aside0.mk (Kd.C_below HC.out HB.out)
      have HB2 := Aside0.mk hb2
      obtain ⟨W1, hW1⟩ : ∃ W1, W1 = wr := ⟨_, rfl⟩
      subst hW1
      clear hkN hrs hrl2 hCS hb2 HO HE HSL HRL
      have HTS := Aside0.mk (ba_size t)
      obtain ⟨tl, htl⟩ : ∃ tl, t.data.toList = tl := ⟨_, rfl⟩
      have ht2 : (⟨tl.toArray⟩ : ByteArray) = t := by rw [← htl]
      have hr2 : (⟨rest.data.toList.toArray⟩ : ByteArray) = rest := ba_self rest
      have htn : tl.length = t.size := by rw [← htl, ← ba_size]
      have HPL0 := fun W hb => parseline_calls t (by omega) w0 W HT.out hb
      rw [htl] at HPL0
      have HW : Aside0 (Below w.heap.size w W1) := HB
      cases hall : (xs.map toStp).all rightB with
      | false =>
        by_cases h5 : t.size ≤ 500
        · have hi5 : (t.size : Int) ≤ 500 := by omega
          have hq5 : (quote tl).length ≤ 4002 := quote_len (by omega)
          have HQ : Aside0 (∀ W, Calls Tryz.prog 22 #[.string t] W fun e w' => e = .returned (.string ⟨(quote tl).toArray⟩) ∧ Below W.heap.size W w') := ⟨fun W => by
            have h := quote_calls t (by omega) W
            rw [htl] at h
            exact h⟩
          have HUQ : Aside0 (∀ W, Calls Tryz.prog 21 #[.string (⟨(quote tl).toArray⟩ ++ rest)] W fun e w' => e = .returned (.tuple #[.string t, .string rest, .int .i64 0]) ∧ Below W.heap.size W w') := ⟨fun W => by
            have hd : ((⟨(quote tl).toArray⟩ : ByteArray) ++ rest).data.toList = quote tl ++ rest.data.toList := by simp
            have hsz : ((⟨(quote tl).toArray⟩ : ByteArray) ++ rest).size ≤ 4294967280 := by
              have hr := ba_size rest
              rw [ba_size, hd, List.length_append, ← hr]
              omega
            have h := unquote_calls _ hsz W
            rw [hd, unq_back tl rest.data.toList (by omega)] at h
            have e : uqV (some (tl, rest.data.toList)) = .tuple #[.string ⟨tl.toArray⟩, .string ⟨rest.data.toList.toArray⟩, .int .i64 0] := rfl
            rw [e, ht2, hr2] at h
            exact h⟩
          obtain ⟨Q, hQ⟩ : ∃ Q : ByteArray, (⟨(quote tl).toArray⟩ : ByteArray) = Q := ⟨_, rfl⟩
          have hQs : Q.size ≤ 4002 := by rw [← hQ, ba_size]; exact hq5
          have hQS : (9223372036854775807 < Q.size + rest.size) = False := by simp; omega
          rw [hQ] at HQ HUQ
          clear hQ hQs hq5
          cases hwh : whole tl with
          | none =>
            have HPL : Aside0 (∀ W, Below w0.heap.size w0 W → Calls Tryz.prog 11 #[.string t] W fun e w' => e = .returned (.tuple #[.agg #[.int .i64 0, .int .i64 0, .string ⟨#[]⟩, .string ⟨#[]⟩, .int .i64 0, .int .i64 0, .slice none 0 0], .int .i64 4]) ∧ Below W.heap.size W w') := ⟨fun W hb => by
              have h := HPL0 W hb
              rw [hwh] at h
              exact h.mono (fun e w' hh => ⟨hh.2, hh.1⟩)⟩
            clear HPL0 hwh
            have e1 : showS (xs.map toStp) = ([], 1) := by unfold showS; rw [hall]; rfl
            rw [e1] at HSH
            clear e1 hall htl ht2 hr2 htn
            go_wp2_with (first
              | (go_at_call 17; (with_reducible refine HSH.mono ?_); rintro e w2 ⟨rfl, hb_⟩; replace HW := Aside0.mk (HW.out.trans (hb_.mono HW.out.size)); clear hb_)
              | (go_at_call 22; (with_reducible refine (HQ.out _).mono ?_); rintro e w3 ⟨rfl, hb_⟩; replace HW := Aside0.mk (HW.out.trans (hb_.mono HW.out.size)); clear hb_)
              | (go_at_call 21; (with_reducible refine (HUQ.out _).mono ?_); rintro e w4 ⟨rfl, hb_⟩; replace HW := Aside0.mk (HW.out.trans (hb_.mono HW.out.size)); clear hb_)
              | (go_at_call 11; (with_reducible refine (HPL.out _ (HB0.out.trans (HW.out.mono HB0.out.size))).mono ?_); rintro e w5 ⟨rfl, hb_⟩; replace HW := Aside0.mk (HW.out.trans (hb_.mono HW.out.size)); clear hb_)
              | (go_at_call 16; (with_reducible refine (back_calls 0 0 0 0 ⟨#[]⟩ ⟨#[]⟩ none 0 0 _).mono ?_); rintro e w6 ⟨rfl, hb_⟩; replace HW := Aside0.mk (HW.out.trans ((below_al hb_).mono HW.out.size)); clear hb_)
              | (go_at_call 15; (with_reducible refine (same_zero _).mono ?_); rintro e w7 ⟨rfl, hb_⟩; replace HW := Aside0.mk (HW.out.trans (hb_.mono HW.out.size)); clear hb_)
              | (go_at_call 7; (with_reducible refine (alive_calls w0 _ HT.out (HB0.out.trans (HW.out.mono HB0.out.size))).mono ?_); rintro e w8 ⟨rfl, hb_⟩; replace HW := Aside0.mk (HW.out.trans (hb_.mono HW.out.size)); clear hb_))
            go_ret
            exact ⟨rfl, HW.out⟩
          | some x =>
            obtain ⟨hrx, hlx⟩ := whole_iff.1 hwh
            have HPL : Aside0 (∀ W, Below w0.heap.size w0 W → Calls Tryz.prog 11 #[.string t] W (PPost W (some x))) := ⟨fun W hb => by
              have h := HPL0 W hb
              rw [hwh] at h
              exact h⟩
            have HLN : Aside0 (∀ (A : Option Addr) (c : Nat) (W : World), Below w0.heap.size w0 W → Kd.bool.C W A x.keep.length x.keep → Calls Tryz.prog 8 #[.agg (stpC x A c)] W fun e w' => e = .returned (.tuple #[.string t, .int .i64 0]) ∧ Below W.heap.size W w') := ⟨fun A c W hW hC => by
              have h := line_calls x A c w0 W HT.out hW hC
              have e1 : lineS x = tl := by unfold lineS; rw [if_pos hrx, hlx]
              have e2 : lineK x = 0 := by unfold lineK; rw [if_pos hrx]
              rw [e1, e2, ht2] at h
              exact h⟩
            have HRI : Aside0 (∀ (A : Option Addr) (c : Nat) (W : World), Below w0.heap.size w0 W → Calls Tryz.prog 13 #[.agg (stpC x A c)] W fun e w' => e = .returned (.bool true) ∧ Below W.heap.size W w') := ⟨fun A c W hW => by
              have h := right_calls x A c w0 W HT.out hW
              rw [hrx] at h
              exact h⟩
            clear HPL0 hwh hrx hlx
            have e1 : showS (xs.map toStp) = ([], 1) := by unfold showS; rw [hall]; rfl
            rw [e1] at HSH
            clear e1 hall htl ht2 hr2 htn
            go_wp2_with (first
              | (go_at_call 17; (with_reducible refine HSH.mono ?_); rintro e w2 ⟨rfl, hb_⟩; replace HW := Aside0.mk (HW.out.trans (hb_.mono HW.out.size)); clear hb_)
              | (go_at_call 22; (with_reducible refine (HQ.out _).mono ?_); rintro e w3 ⟨rfl, hb_⟩; replace HW := Aside0.mk (HW.out.trans (hb_.mono HW.out.size)); clear hb_)
              | (go_at_call 21; (with_reducible refine (HUQ.out _).mono ?_); rintro e w4 ⟨rfl, hb_⟩; replace HW := Aside0.mk (HW.out.trans (hb_.mono HW.out.size)); clear hb_)
              | (go_at_call 11; (with_reducible refine (HPL.out _ (HB0.out.trans (HW.out.mono HB0.out.size))).mono ?_); rintro e w5 ⟨hb_, v6, rfl, h6⟩; obtain ⟨A6, c6, rfl⟩ := Kd.R_slice h6; have H6 := Aside0.mk h6; clear h6; replace HW := Aside0.mk (HW.out.trans (hb_.mono HW.out.size)); clear hb_)
              | (go_at_call 8; (with_reducible refine (HLN.out A6 c6 _ ((HB0.out.trans (HW.out.mono HB0.out.size)).alloc (Nat.le_trans HB0.out.size HW.out.size) _) (own_reads (OwnB.on H6.out (below_alloc (Below.refl _ _) _)) rfl)).mono ?_); rintro e w6 ⟨rfl, hb_⟩; obtain ⟨q0, q1, q2, q3, q4, q5, q6⟩ := cells7 (blk_below (blk_new w5 (.cells #[.int .i64 x.who, .int .i64 x.kind, .string ⟨x.p.toArray⟩, .string ⟨x.q.toArray⟩, .int .i64 x.n, .int .i64 x.m, .slice A6 x.keep.length c6] 31 (0, 0))) hb_); replace HW := Aside0.mk (HW.out.trans ((below_al hb_).mono HW.out.size)); clear hb_)
              | (go_at_call 13; (with_reducible refine (HRI.out A6 c6 _ (HB0.out.trans (HW.out.mono HB0.out.size))).mono ?_); rintro e w7 ⟨rfl, hb_⟩; replace HW := Aside0.mk (HW.out.trans (hb_.mono HW.out.size)); clear hb_)
              | (go_at_call 7; (with_reducible refine (alive_calls w0 _ HT.out (HB0.out.trans (HW.out.mono HB0.out.size))).mono ?_); rintro e w8 ⟨rfl, hb_⟩; replace HW := Aside0.mk (HW.out.trans (hb_.mono HW.out.size)); clear hb_))
            go_ret
            exact ⟨rfl, HW.out⟩
        · have hi5 : ¬ (t.size : Int) ≤ 500 := by omega
          cases hwh : whole tl with
          | none =>
            have HPL : Aside0 (∀ W, Below w0.heap.size w0 W → Calls Tryz.prog 11 #[.string t] W fun e w' => e = .returned (.tuple #[.agg #[.int .i64 0, .int .i64 0, .string ⟨#[]⟩, .string ⟨#[]⟩, .int .i64 0, .int .i64 0, .slice none 0 0], .int .i64 4]) ∧ Below W.heap.size W w') := ⟨fun W hb => by
              have h := HPL0 W hb
              rw [hwh] at h
              exact h.mono (fun e w' hh => ⟨hh.2, hh.1⟩)⟩
            clear HPL0 hwh
            have e1 : showS (xs.map toStp) = ([], 1) := by unfold showS; rw [hall]; rfl
            rw [e1] at HSH
            clear e1 hall htl ht2 hr2 htn
            go_wp2_with (first
              | (go_at_call 17; (with_reducible refine HSH.mono ?_); rintro e w2 ⟨rfl, hb_⟩; replace HW := Aside0.mk (HW.out.trans (hb_.mono HW.out.size)); clear hb_)
              | (go_at_call 11; (with_reducible refine (HPL.out _ (HB0.out.trans (HW.out.mono HB0.out.size))).mono ?_); rintro e w5 ⟨rfl, hb_⟩; replace HW := Aside0.mk (HW.out.trans (hb_.mono HW.out.size)); clear hb_)
              | (go_at_call 16; (with_reducible refine (back_calls 0 0 0 0 ⟨#[]⟩ ⟨#[]⟩ none 0 0 _).mono ?_); rintro e w6 ⟨rfl, hb_⟩; replace HW := Aside0.mk (HW.out.trans ((below_al hb_).mono HW.out.size)); clear hb_)
              | (go_at_call 15; (with_reducible refine (same_zero _).mono ?_); rintro e w7 ⟨rfl, hb_⟩; replace HW := Aside0.mk (HW.out.trans (hb_.mono HW.out.size)); clear hb_)
              | (go_at_call 7; (with_reducible refine (alive_calls w0 _ HT.out (HB0.out.trans (HW.out.mono HB0.out.size))).mono ?_); rintro e w8 ⟨rfl, hb_⟩; replace HW := Aside0.mk (HW.out.trans (hb_.mono HW.out.size)); clear hb_))
            go_ret
            exact ⟨rfl, HW.out⟩
          | some x =>
            obtain ⟨hrx, hlx⟩ := whole_iff.1 hwh
            have HPL : Aside0 (∀ W, Below w0.heap.size w0 W → Calls Tryz.prog 11 #[.string t] W (PPost W (some x))) := ⟨fun W hb => by
              have h := HPL0 W hb
              rw [hwh] at h
              exact h⟩
            have HLN : Aside0 (∀ (A : Option Addr) (c : Nat) (W : World), Below w0.heap.size w0 W → Kd.bool.C W A x.keep.length x.keep → Calls Tryz.prog 8 #[.agg (stpC x A c)] W fun e w' => e = .returned (.tuple #[.string t, .int .i64 0]) ∧ Below W.heap.size W w') := ⟨fun A c W hW hC => by
              have h := line_calls x A c w0 W HT.out hW hC
              have e1 : lineS x = tl := by unfold lineS; rw [if_pos hrx, hlx]
              have e2 : lineK x = 0 := by unfold lineK; rw [if_pos hrx]
              rw [e1, e2, ht2] at h
              exact h⟩
            have HRI : Aside0 (∀ (A : Option Addr) (c : Nat) (W : World), Below w0.heap.size w0 W → Calls Tryz.prog 13 #[.agg (stpC x A c)] W fun e w' => e = .returned (.bool true) ∧ Below W.heap.size W w') := ⟨fun A c W hW => by
              have h := right_calls x A c w0 W HT.out hW
              rw [hrx] at h
              exact h⟩
            clear HPL0 hwh hrx hlx
            have e1 : showS (xs.map toStp) = ([], 1) := by unfold showS; rw [hall]; rfl
            rw [e1] at HSH
            clear e1 hall htl ht2 hr2 htn
            go_wp2_with (first
              | (go_at_call 17; (with_reducible refine HSH.mono ?_); rintro e w2 ⟨rfl, hb_⟩; replace HW := Aside0.mk (HW.out.trans (hb_.mono HW.out.size)); clear hb_)
              | (go_at_call 11; (with_reducible refine (HPL.out _ (HB0.out.trans (HW.out.mono HB0.out.size))).mono ?_); rintro e w5 ⟨hb_, v6, rfl, h6⟩; obtain ⟨A6, c6, rfl⟩ := Kd.R_slice h6; have H6 := Aside0.mk h6; clear h6; replace HW := Aside0.mk (HW.out.trans (hb_.mono HW.out.size)); clear hb_)
              | (go_at_call 8; (with_reducible refine (HLN.out A6 c6 _ ((HB0.out.trans (HW.out.mono HB0.out.size)).alloc (Nat.le_trans HB0.out.size HW.out.size) _) (own_reads (OwnB.on H6.out (below_alloc (Below.refl _ _) _)) rfl)).mono ?_); rintro e w6 ⟨rfl, hb_⟩; obtain ⟨q0, q1, q2, q3, q4, q5, q6⟩ := cells7 (blk_below (blk_new w5 (.cells #[.int .i64 x.who, .int .i64 x.kind, .string ⟨x.p.toArray⟩, .string ⟨x.q.toArray⟩, .int .i64 x.n, .int .i64 x.m, .slice A6 x.keep.length c6] 31 (0, 0))) hb_); replace HW := Aside0.mk (HW.out.trans ((below_al hb_).mono HW.out.size)); clear hb_)
              | (go_at_call 13; (with_reducible refine (HRI.out A6 c6 _ (HB0.out.trans (HW.out.mono HB0.out.size))).mono ?_); rintro e w7 ⟨rfl, hb_⟩; replace HW := Aside0.mk (HW.out.trans (hb_.mono HW.out.size)); clear hb_)
              | (go_at_call 7; (with_reducible refine (alive_calls w0 _ HT.out (HB0.out.trans (HW.out.mono HB0.out.size))).mono ?_); rintro e w8 ⟨rfl, hb_⟩; replace HW := Aside0.mk (HW.out.trans (hb_.mono HW.out.size)); clear hb_))
            go_ret
            exact ⟨rfl, HW.out⟩
      | true =>
        by_cases h5 : t.size ≤ 500
        · have hi5 : (t.size : Int) ≤ 500 := by omega
          have hq5 : (quote tl).length ≤ 4002 := quote_len (by omega)
          have HQ : Aside0 (∀ W, Calls Tryz.prog 22 #[.string t] W fun e w' => e = .returned (.string ⟨(quote tl).toArray⟩) ∧ Below W.heap.size W w') := ⟨fun W => by
            have h := quote_calls t (by omega) W
            rw [htl] at h
            exact h⟩
          have HUQ : Aside0 (∀ W, Calls Tryz.prog 21 #[.string (⟨(quote tl).toArray⟩ ++ rest)] W fun e w' => e = .returned (.tuple #[.string t, .string rest, .int .i64 0]) ∧ Below W.heap.size W w') := ⟨fun W => by
            have hd : ((⟨(quote tl).toArray⟩ : ByteArray) ++ rest).data.toList = quote tl ++ rest.data.toList := by simp
            have hsz : ((⟨(quote tl).toArray⟩ : ByteArray) ++ rest).size ≤ 4294967280 := by
              have hr := ba_size rest
              rw [ba_size, hd, List.length_append, ← hr]
              omega
            have h := unquote_calls _ hsz W
            rw [hd, unq_back tl rest.data.toList (by omega)] at h
            have e : uqV (some (tl, rest.data.toList)) = .tuple #[.string ⟨tl.toArray⟩, .string ⟨rest.data.toList.toArray⟩, .int .i64 0] := rfl
            rw [e, ht2, hr2] at h
            exact h⟩
          obtain ⟨Q, hQ⟩ : ∃ Q : ByteArray, (⟨(quote tl).toArray⟩ : ByteArray) = Q := ⟨_, rfl⟩
          have hQs : Q.size ≤ 4002 := by rw [← hQ, ba_size]; exact hq5
          have hQS : (9223372036854775807 < Q.size + rest.size) = False := by simp; omega
          rw [hQ] at HQ HUQ
          clear hQ hQs hq5
          cases hwh : whole tl with
          | none =>
            have HPL : Aside0 (∀ W, Below w0.heap.size w0 W → Calls Tryz.prog 11 #[.string t] W fun e w' => e = .returned (.tuple #[.agg #[.int .i64 0, .int .i64 0, .string ⟨#[]⟩, .string ⟨#[]⟩, .int .i64 0, .int .i64 0, .slice none 0 0], .int .i64 4]) ∧ Below W.heap.size W w') := ⟨fun W hb => by
              have h := HPL0 W hb
              rw [hwh] at h
              exact h.mono (fun e w' hh => ⟨hh.2, hh.1⟩)⟩
            clear HPL0 hwh
            have e1 : showS (xs.map toStp) = (showT (xs.map toStp), 0) := by unfold showS; rw [hall]; rfl
            obtain ⟨hrb1, hrb2⟩ := read_back _ hall
            have hsl := showT_len _ hall
            rw [List.length_map, HN.out] at hsl
            rw [e1] at HSH
            dsimp only at HSH
            obtain ⟨S, hS⟩ : ∃ S : ByteArray, (⟨(showT (xs.map toStp)).toArray⟩ : ByteArray) = S := ⟨_, rfl⟩
            have hSd : S.data.toList = showT (xs.map toStp) := by rw [← hS]
            have hSs : S.size ≤ 124000040 := by
              have h3 : N * 3100001 ≤ 40 * 3100001 := Nat.mul_le_mul_right _ h40
              rw [ba_size, hSd]
              omega
            have hSS : (9223372036854775807 < 8 + S.size) = False := by simp; omega
            rw [hS] at HSH
            have HPA : Aside0 (∀ W, Below w0.heap.size w0 W → Calls Tryz.prog 19 #[.string (⟨#[35, 32, 110, 111, 116, 101, 10, 10]⟩ ++ S)] W fun e w' => ∃ (A1 A2 : Option Addr) (c1 c2 : Nat), e = .returned (.tuple #[.slice A1 N c1, .slice A2 0 c2]) ∧ Kd.C kS w' A1 N xs ∧ Below W.heap.size W w') := ⟨fun W hW => by
              have hd : ((⟨#[35, 32, 110, 111, 116, 101, 10, 10]⟩ : ByteArray) ++ S).data.toList = note ++ 10 :: 10 :: showT (xs.map toStp) := by simp [hSd, note]
              have hz : ((⟨#[35, 32, 110, 111, 116, 101, 10, 10]⟩ : ByteArray) ++ S).size ≤ 4294967280 := by
                have h8 : (⟨#[35, 32, 110, 111, 116, 101, 10, 10]⟩ : ByteArray).size = 8 := rfl
                rw [ByteArray.size_append, h8]
                omega
              refine (parse_calls _ hz w0 W HT.out hW).mono ?_
              rintro e w' ⟨hbb, v, u, rfl, ho, hf⟩
              rw [hd, hrb1] at ho
              rw [hd, hrb2] at hf
              have hmm : (xs.map toStp).map ofStp = xs := by
                rw [List.map_map]
                exact (List.map_congr_left (fun x _ => of_to x)).trans (List.map_id _)
              rw [hmm] at ho
              obtain ⟨A1, c1, rfl, _, hc1⟩ := Kd.R_reads ho
              obtain ⟨A2, c2, rfl⟩ := Kd.R_slice hf
              rw [HN.out] at hc1 ⊢
              exact ⟨A1, A2, c1, c2, rfl, hc1, hbb⟩⟩
            clear e1 hall htl ht2 hr2 htn hrb1 hrb2 hsl hS hSd
            go_wp2_with (first
              | (go_at_call 17; (with_reducible refine HSH.mono ?_); rintro e w2 ⟨rfl, hb_⟩; replace HW := Aside0.mk (HW.out.trans (hb_.mono HW.out.size)); clear hb_)
              | (go_at_call 19; (with_reducible refine (HPA.out _ (HB0.out.trans (HW.out.mono HB0.out.size))).mono ?_); rintro e w9 ⟨A1, A2, c1, c2, rfl, hc1, hb_⟩; have HM := Aside0.mk hc1; clear hc1; replace HW := Aside0.mk (HW.out.trans (hb_.mono HW.out.size)); clear hb_))
            have HCM : Aside0 (Kd.C kS w9 A N xs) := ⟨Kd.C_below HC.out HW.out⟩
            obtain ⟨WP, hWP⟩ : ∃ WP, WP = w9 := ⟨_, rfl⟩
            subst hWP
            go_loopg [13] (N + 1) (fun gf v13 wr => ∃ (k : Nat), v13 = .int .i64 k ∧ k ≤ N ∧ Aside0 (Below WP.heap.size WP wr) ∧ N < k + gf)
            case atStart => exact ⟨0, rfl, by omega, ⟨Below.refl _ _⟩, by omega⟩
            case round =>
              obtain ⟨k, rfl, hk, HZ, hgf⟩ := hrel
              obtain ⟨j, rfl⟩ : ∃ j, gk = j + 1 := ⟨gk - 1, by omega⟩
              by_cases hlt : k < N
              · obtain ⟨ad, A6, c6, rfl, g0, g1, g2, g3, g4, g5, g6, hl6, hC6⟩ := atS (Kd.C_below HCM.out HZ.out) (k : Int) (by omega) (by omega)
                obtain ⟨ad2, B6, d6, rfl, k0, k1, k2, k3, k4, k5, k6, hm6, hD6⟩ := atS (Kd.C_below HM.out HZ.out) (k : Int) (by omega) (by omega)
                rw [Int.toNat_natCast] at g0 g1 g2 g3 g4 g5 g6 k0 k1 k2 k3 k4 k5 k6
                have hkp : (rdS xs (k : Int)).f6.length ≤ 120 := by
                  have hk2 : k < xs.length := by rw [HN.out]; exact hlt
                  have hx2 : rdS xs (k : Int) = xs[k] := by
                    unfold rdS
                    rw [Int.toNat_natCast, List.getD_eq_getElem?_getD, List.getElem?_eq_getElem hk2]
                    rfl
                  rw [hx2]
                  exact HKEEP.out _ (List.getElem_mem hk2)
                obtain ⟨y, hy⟩ : ∃ y, rdS xs (k : Int) = y := ⟨_, rfl⟩
                rw [hy] at g0 g1 g2 g3 g4 g5 g6 hl6 hC6 k0 k1 k2 k3 k4 k5 k6 hm6 hD6 hkp
                have HC6 := Aside0.mk hC6
                have HD6 := Aside0.mk hD6
                have HKP := Aside0.mk hkp
                clear hy hC6 hD6 hkp hl6 hm6
                go_upto_region 16 with (fail)
                go_region_held3 (fun w' => w'.cell? (ad.add (k * 7)) = some (.int .i64 y.f0) ∧ w'.cell? ⟨(ad.add (k * 7)).block, (ad.add (k * 7)).off + 1, none⟩ = some (.int .i64 y.f1) ∧ w'.cell? ⟨(ad.add (k * 7)).block, (ad.add (k * 7)).off + 2, none⟩ = some (.string y.f2) ∧ w'.cell? ⟨(ad.add (k * 7)).block, (ad.add (k * 7)).off + 3, none⟩ = some (.string y.f3) ∧ w'.cell? ⟨(ad.add (k * 7)).block, (ad.add (k * 7)).off + 4, none⟩ = some (.int .i64 y.f4) ∧ w'.cell? ⟨(ad.add (k * 7)).block, (ad.add (k * 7)).off + 5, none⟩ = some (.int .i64 y.f5) ∧ w'.cell? ⟨(ad.add (k * 7)).block, (ad.add (k * 7)).off + 6, none⟩ = some (.slice A6 y.f6.length c6) ∧ w'.cell? (ad2.add (k * 7)) = some (.int .i64 y.f0) ∧ w'.cell? ⟨(ad2.add (k * 7)).block, (ad2.add (k * 7)).off + 1, none⟩ = some (.int .i64 y.f1) ∧ w'.cell? ⟨(ad2.add (k * 7)).block, (ad2.add (k * 7)).off + 2, none⟩ = some (.string y.f2) ∧ w'.cell? ⟨(ad2.add (k * 7)).block, (ad2.add (k * 7)).off + 3, none⟩ = some (.string y.f3) ∧ w'.cell? ⟨(ad2.add (k * 7)).block, (ad2.add (k * 7)).off + 4, none⟩ = some (.int .i64 y.f4) ∧ w'.cell? ⟨(ad2.add (k * 7)).block, (ad2.add (k * 7)).off + 5, none⟩ = some (.int .i64 y.f5) ∧ w'.cell? ⟨(ad2.add (k * 7)).block, (ad2.add (k * 7)).off + 6, none⟩ = some (.slice B6 y.f6.length d6))
                  (first | exact ⟨g0, g1, g2, g3, g4, g5, g6, k0, k1, k2, k3, k4, k5, k6⟩ | (go_split_ands; exact ⟨pw_cell_below hb_ (by assumption), pw_cell_below hb_ (by assumption), pw_cell_below hb_ (by assumption), pw_cell_below hb_ (by assumption), pw_cell_below hb_ (by assumption), pw_cell_below hb_ (by assumption), pw_cell_below hb_ (by assumption), pw_cell_below hb_ (by assumption), pw_cell_below hb_ (by assumption), pw_cell_below hb_ (by assumption), pw_cell_below hb_ (by assumption), pw_cell_below hb_ (by assumption), pw_cell_below hb_ (by assumption), pw_cell_below hb_ (by assumption)⟩))
                  (first
                    | (go_at_call 16; (with_reducible refine (back_calls y.f0 y.f1 y.f4 y.f5 y.f2 y.f3 B6 y.f6.length d6 _).mono ?_); rintro e w16 ⟨rfl, hb_⟩; have HB6 := Aside0.mk (below_step (show Below wr.heap.size wr _ by with_reducible repeat (first | exact Below.refl _ _ | apply below_drew1 | apply pw_below_drewN)) hb_))
                    | (go_at_call 15; (with_reducible refine (same_calls y.f0 y.f1 y.f4 y.f5 y.f2 y.f3 y.f6 B6 A6 d6 c6 _ (Kd.C_below HD6.out HB6.out) (Kd.C_below HC6.out HB6.out) (Nat.le_trans HKP.out (by decide))).mono ?_); rintro e w17 ⟨rfl, hb_⟩; have HB7 := Aside0.mk (below_step HB6.out hb_)))
                all_goals
                  go_wp2_with fail
                  go_roundg j
                  case measure => omega
                  case rel => exact ⟨k + 1, by go_num, by omega, ⟨HZ.out.trans (HB7.out.mono HZ.out.size)⟩, by omega⟩
              · replace HW := Aside0.mk (HW.out.trans (HZ.out.mono HW.out.size))
                go_wp2_with (first
                  | (go_at_call 22; (with_reducible refine (HQ.out _).mono ?_); rintro e w3 ⟨rfl, hb_⟩; replace HW := Aside0.mk (HW.out.trans (hb_.mono HW.out.size)); clear hb_)
                  | (go_at_call 21; (with_reducible refine (HUQ.out _).mono ?_); rintro e w4 ⟨rfl, hb_⟩; replace HW := Aside0.mk (HW.out.trans (hb_.mono HW.out.size)); clear hb_)
                  | (go_at_call 11; (with_reducible refine (HPL.out _ (HB0.out.trans (HW.out.mono HB0.out.size))).mono ?_); rintro e w5 ⟨rfl, hb_⟩; replace HW := Aside0.mk (HW.out.trans (hb_.mono HW.out.size)); clear hb_)
                  | (go_at_call 16; (with_reducible refine (back_calls 0 0 0 0 ⟨#[]⟩ ⟨#[]⟩ none 0 0 _).mono ?_); rintro e w6 ⟨rfl, hb_⟩; replace HW := Aside0.mk (HW.out.trans ((below_al hb_).mono HW.out.size)); clear hb_)
                  | (go_at_call 15; (with_reducible refine (same_zero _).mono ?_); rintro e w7 ⟨rfl, hb_⟩; replace HW := Aside0.mk (HW.out.trans (hb_.mono HW.out.size)); clear hb_)
                  | (go_at_call 7; (with_reducible refine (alive_calls w0 _ HT.out (HB0.out.trans (HW.out.mono HB0.out.size))).mono ?_); rintro e w8 ⟨rfl, hb_⟩; replace HW := Aside0.mk (HW.out.trans (hb_.mono HW.out.size)); clear hb_))
                go_ret
                exact ⟨rfl, HW.out⟩
          | some x =>
            obtain ⟨hrx, hlx⟩ := whole_iff.1 hwh
            have HPL : Aside0 (∀ W, Below w0.heap.size w0 W → Calls Tryz.prog 11 #[.string t] W (PPost W (some x))) := ⟨fun W hb => by
              have h := HPL0 W hb
              rw [hwh] at h
              exact h⟩
            have HLN : Aside0 (∀ (A : Option Addr) (c : Nat) (W : World), Below w0.heap.size w0 W → Kd.bool.C W A x.keep.length x.keep → Calls Tryz.prog 8 #[.agg (stpC x A c)] W fun e w' => e = .returned (.tuple #[.string t, .int .i64 0]) ∧ Below W.heap.size W w') := ⟨fun A c W hW hC => by
              have h := line_calls x A c w0 W HT.out hW hC
              have e1 : lineS x = tl := by unfold lineS; rw [if_pos hrx, hlx]
              have e2 : lineK x = 0 := by unfold lineK; rw [if_pos hrx]
              rw [e1, e2, ht2] at h
              exact h⟩
            have HRI : Aside0 (∀ (A : Option Addr) (c : Nat) (W : World), Below w0.heap.size w0 W → Calls Tryz.prog 13 #[.agg (stpC x A c)] W fun e w' => e = .returned (.bool true) ∧ Below W.heap.size W w') := ⟨fun A c W hW => by
              have h := right_calls x A c w0 W HT.out hW
              rw [hrx] at h
              exact h⟩
            clear HPL0 hwh hrx hlx
            have e1 : showS (xs.map toStp) = (showT (xs.map toStp), 0) := by unfold showS; rw [hall]; rfl
            obtain ⟨hrb1, hrb2⟩ := read_back _ hall
            have hsl := showT_len _ hall
            rw [List.length_map, HN.out] at hsl
            rw [e1] at HSH
            dsimp only at HSH
            obtain ⟨S, hS⟩ : ∃ S : ByteArray, (⟨(showT (xs.map toStp)).toArray⟩ : ByteArray) = S := ⟨_, rfl⟩
            have hSd : S.data.toList = showT (xs.map toStp) := by rw [← hS]
            have hSs : S.size ≤ 124000040 := by
              have h3 : N * 3100001 ≤ 40 * 3100001 := Nat.mul_le_mul_right _ h40
              rw [ba_size, hSd]
              omega
            have hSS : (9223372036854775807 < 8 + S.size) = False := by simp; omega
            rw [hS] at HSH
            have HPA : Aside0 (∀ W, Below w0.heap.size w0 W → Calls Tryz.prog 19 #[.string (⟨#[35, 32, 110, 111, 116, 101, 10, 10]⟩ ++ S)] W fun e w' => ∃ (A1 A2 : Option Addr) (c1 c2 : Nat), e = .returned (.tuple #[.slice A1 N c1, .slice A2 0 c2]) ∧ Kd.C kS w' A1 N xs ∧ Below W.heap.size W w') := ⟨fun W hW => by
              have hd : ((⟨#[35, 32, 110, 111, 116, 101, 10, 10]⟩ : ByteArray) ++ S).data.toList = note ++ 10 :: 10 :: showT (xs.map toStp) := by simp [hSd, note]
              have hz : ((⟨#[35, 32, 110, 111, 116, 101, 10, 10]⟩ : ByteArray) ++ S).size ≤ 4294967280 := by
                have h8 : (⟨#[35, 32, 110, 111, 116, 101, 10, 10]⟩ : ByteArray).size = 8 := rfl
                rw [ByteArray.size_append, h8]
                omega
              refine (parse_calls _ hz w0 W HT.out hW).mono ?_
              rintro e w' ⟨hbb, v, u, rfl, ho, hf⟩
              rw [hd, hrb1] at ho
              rw [hd, hrb2] at hf
              have hmm : (xs.map toStp).map ofStp = xs := by
                rw [List.map_map]
                exact (List.map_congr_left (fun x _ => of_to x)).trans (List.map_id _)
              rw [hmm] at ho
              obtain ⟨A1, c1, rfl, _, hc1⟩ := Kd.R_reads ho
              obtain ⟨A2, c2, rfl⟩ := Kd.R_slice hf
              rw [HN.out] at hc1 ⊢
              exact ⟨A1, A2, c1, c2, rfl, hc1, hbb⟩⟩
            clear e1 hall htl ht2 hr2 htn hrb1 hrb2 hsl hS hSd
            go_wp2_with (first
              | (go_at_call 17; (with_reducible refine HSH.mono ?_); rintro e w2 ⟨rfl, hb_⟩; replace HW := Aside0.mk (HW.out.trans (hb_.mono HW.out.size)); clear hb_)
              | (go_at_call 19; (with_reducible refine (HPA.out _ (HB0.out.trans (HW.out.mono HB0.out.size))).mono ?_); rintro e w9 ⟨A1, A2, c1, c2, rfl, hc1, hb_⟩; have HM := Aside0.mk hc1; clear hc1; replace HW := Aside0.mk (HW.out.trans (hb_.mono HW.out.size)); clear hb_))
            have HCM : Aside0 (Kd.C kS w9 A N xs) := ⟨Kd.C_below HC.out HW.out⟩
            obtain ⟨WP, hWP⟩ : ∃ WP, WP = w9 := ⟨_, rfl⟩
            subst hWP
            go_loopg [13] (N + 1) (fun gf v13 wr => ∃ (k : Nat), v13 = .int .i64 k ∧ k ≤ N ∧ Aside0 (Below WP.heap.size WP wr) ∧ N < k + gf)
            case atStart => exact ⟨0, rfl, by omega, ⟨Below.refl _ _⟩, by omega⟩
            case round =>
              obtain ⟨k, rfl, hk, HZ, hgf⟩ := hrel
              obtain ⟨j, rfl⟩ : ∃ j, gk = j + 1 := ⟨gk - 1, by omega⟩
              by_cases hlt : k < N
              · obtain ⟨ad, A6, c6, rfl, g0, g1, g2, g3, g4, g5, g6, hl6, hC6⟩ := atS (Kd.C_below HCM.out HZ.out) (k : Int) (by omega) (by omega)
                obtain ⟨ad2, B6, d6, rfl, k0, k1, k2, k3, k4, k5, k6, hm6, hD6⟩ := atS (Kd.C_below HM.out HZ.out) (k : Int) (by omega) (by omega)
                rw [Int.toNat_natCast] at g0 g1 g2 g3 g4 g5 g6 k0 k1 k2 k3 k4 k5 k6
                have hkp : (rdS xs (k : Int)).f6.length ≤ 120 := by
                  have hk2 : k < xs.length := by rw [HN.out]; exact hlt
                  have hx2 : rdS xs (k : Int) = xs[k] := by
                    unfold rdS
                    rw [Int.toNat_natCast, List.getD_eq_getElem?_getD, List.getElem?_eq_getElem hk2]
                    rfl
                  rw [hx2]
                  exact HKEEP.out _ (List.getElem_mem hk2)
                obtain ⟨y, hy⟩ : ∃ y, rdS xs (k : Int) = y := ⟨_, rfl⟩
                rw [hy] at g0 g1 g2 g3 g4 g5 g6 hl6 hC6 k0 k1 k2 k3 k4 k5 k6 hm6 hD6 hkp
                have HC6 := Aside0.mk hC6
                have HD6 := Aside0.mk hD6
                have HKP := Aside0.mk hkp
                clear hy hC6 hD6 hkp hl6 hm6
                go_upto_region 16 with (fail)
                go_region_held3 (fun w' => w'.cell? (ad.add (k * 7)) = some (.int .i64 y.f0) ∧ w'.cell? ⟨(ad.add (k * 7)).block, (ad.add (k * 7)).off + 1, none⟩ = some (.int .i64 y.f1) ∧ w'.cell? ⟨(ad.add (k * 7)).block, (ad.add (k * 7)).off + 2, none⟩ = some (.string y.f2) ∧ w'.cell? ⟨(ad.add (k * 7)).block, (ad.add (k * 7)).off + 3, none⟩ = some (.string y.f3) ∧ w'.cell? ⟨(ad.add (k * 7)).block, (ad.add (k * 7)).off + 4, none⟩ = some (.int .i64 y.f4) ∧ w'.cell? ⟨(ad.add (k * 7)).block, (ad.add (k * 7)).off + 5, none⟩ = some (.int .i64 y.f5) ∧ w'.cell? ⟨(ad.add (k * 7)).block, (ad.add (k * 7)).off + 6, none⟩ = some (.slice A6 y.f6.length c6) ∧ w'.cell? (ad2.add (k * 7)) = some (.int .i64 y.f0) ∧ w'.cell? ⟨(ad2.add (k * 7)).block, (ad2.add (k * 7)).off + 1, none⟩ = some (.int .i64 y.f1) ∧ w'.cell? ⟨(ad2.add (k * 7)).block, (ad2.add (k * 7)).off + 2, none⟩ = some (.string y.f2) ∧ w'.cell? ⟨(ad2.add (k * 7)).block, (ad2.add (k * 7)).off + 3, none⟩ = some (.string y.f3) ∧ w'.cell? ⟨(ad2.add (k * 7)).block, (ad2.add (k * 7)).off + 4, none⟩ = some (.int .i64 y.f4) ∧ w'.cell? ⟨(ad2.add (k * 7)).block, (ad2.add (k * 7)).off + 5, none⟩ = some (.int .i64 y.f5) ∧ w'.cell? ⟨(ad2.add (k * 7)).block, (ad2.add (k * 7)).off + 6, none⟩ = some (.slice B6 y.f6.length d6))
                  (first | exact ⟨g0, g1, g2, g3, g4, g5, g6, k0, k1, k2, k3, k4, k5, k6⟩ | (go_split_ands; exact ⟨pw_cell_below hb_ (by assumption), pw_cell_below hb_ (by assumption), pw_cell_below hb_ (by assumption), pw_cell_below hb_ (by assumption), pw_cell_below hb_ (by assumption), pw_cell_below hb_ (by assumption), pw_cell_below hb_ (by assumption), pw_cell_below hb_ (by assumption), pw_cell_below hb_ (by assumption), pw_cell_below hb_ (by assumption), pw_cell_below hb_ (by assumption), pw_cell_below hb_ (by assumption), pw_cell_below hb_ (by assumption), pw_cell_below hb_ (by assumption)⟩))
                  (first
                    | (go_at_call 16; (with_reducible refine (back_calls y.f0 y.f1 y.f4 y.f5 y.f2 y.f3 B6 y.f6.length d6 _).mono ?_); rintro e w16 ⟨rfl, hb_⟩; have HB6 := Aside0.mk (below_step (show Below wr.heap.size wr _ by with_reducible repeat (first | exact Below.refl _ _ | apply below_drew1 | apply pw_below_drewN)) hb_))
                    | (go_at_call 15; (with_reducible refine (same_calls y.f0 y.f1 y.f4 y.f5 y.f2 y.f3 y.f6 B6 A6 d6 c6 _ (Kd.C_below HD6.out HB6.out) (Kd.C_below HC6.out HB6.out) (Nat.le_trans HKP.out (by decide))).mono ?_); rintro e w17 ⟨rfl, hb_⟩; have HB7 := Aside0.mk (below_step HB6.out hb_)))
                all_goals
                  go_wp2_with fail
                  go_roundg j
                  case measure => omega
                  case rel => exact ⟨k + 1, by go_num, by omega, ⟨HZ.out.trans (HB7.out.mono HZ.out.size)⟩, by omega⟩
              · replace HW := Aside0.mk (HW.out.trans (HZ.out.mono HW.out.size))
                go_wp2_with (first
                  | (go_at_call 22; (with_reducible refine (HQ.out _).mono ?_); rintro e w3 ⟨rfl, hb_⟩; replace HW := Aside0.mk (HW.out.trans (hb_.mono HW.out.size)); clear hb_)
                  | (go_at_call 21; (with_reducible refine (HUQ.out _).mono ?_); rintro e w4 ⟨rfl, hb_⟩; replace HW := Aside0.mk (HW.out.trans (hb_.mono HW.out.size)); clear hb_)
                  | (go_at_call 11; (with_reducible refine (HPL.out _ (HB0.out.trans (HW.out.mono HB0.out.size))).mono ?_); rintro e w5 ⟨hb_, v6, rfl, h6⟩; obtain ⟨A6, c6, rfl⟩ := Kd.R_slice h6; have H6 := Aside0.mk h6; clear h6; replace HW := Aside0.mk (HW.out.trans (hb_.mono HW.out.size)); clear hb_)
                  | (go_at_call 8; (with_reducible refine (HLN.out A6 c6 _ ((HB0.out.trans (HW.out.mono HB0.out.size)).alloc (Nat.le_trans HB0.out.size HW.out.size) _) (own_reads (OwnB.on H6.out (below_alloc (Below.refl _ _) _)) rfl)).mono ?_); rintro e w6 ⟨rfl, hb_⟩; obtain ⟨q0, q1, q2, q3, q4, q5, q6⟩ := cells7 (blk_below (blk_new w5 (.cells #[.int .i64 x.who, .int .i64 x.kind, .string ⟨x.p.toArray⟩, .string ⟨x.q.toArray⟩, .int .i64 x.n, .int .i64 x.m, .slice A6 x.keep.length c6] 31 (0, 0))) hb_); replace HW := Aside0.mk (HW.out.trans ((below_al hb_).mono HW.out.size)); clear hb_)
                  | (go_at_call 13; (with_reducible refine (HRI.out A6 c6 _ (HB0.out.trans (HW.out.mono HB0.out.size))).mono ?_); rintro e w7 ⟨rfl, hb_⟩; replace HW := Aside0.mk (HW.out.trans (hb_.mono HW.out.size)); clear hb_)
                  | (go_at_call 7; (with_reducible refine (alive_calls w0 _ HT.out (HB0.out.trans (HW.out.mono HB0.out.size))).mono ?_); rintro e w8 ⟨rfl, hb_⟩; replace HW := Aside0.mk (HW.out.trans (hb_.mono HW.out.size)); clear hb_))
                go_ret
                exact ⟨rfl, HW.out⟩
        · have hi5 : ¬ (t.size : Int) ≤ 500 := by omega
          cases hwh : whole tl with
          | none =>
            have HPL : Aside0 (∀ W, Below w0.heap.size w0 W → Calls Tryz.prog 11 #[.string t] W fun e w' => e = .returned (.tuple #[.agg #[.int .i64 0, .int .i64 0, .string ⟨#[]⟩, .string ⟨#[]⟩, .int .i64 0, .int .i64 0, .slice none 0 0], .int .i64 4]) ∧ Below W.heap.size W w') := ⟨fun W hb => by
              have h := HPL0 W hb
              rw [hwh] at h
              exact h.mono (fun e w' hh => ⟨hh.2, hh.1⟩)⟩
            clear HPL0 hwh
            have e1 : showS (xs.map toStp) = (showT (xs.map toStp), 0) := by unfold showS; rw [hall]; rfl
            obtain ⟨hrb1, hrb2⟩ := read_back _ hall
            have hsl := showT_len _ hall
            rw [List.length_map, HN.out] at hsl
            rw [e1] at HSH
            dsimp only at HSH
            obtain ⟨S, hS⟩ : ∃ S : ByteArray, (⟨(showT (xs.map toStp)).toArray⟩ : ByteArray) = S := ⟨_, rfl⟩
            have hSd : S.data.toList = showT (xs.map toStp) := by rw [← hS]
            have hSs : S.size ≤ 124000040 := by
              have h3 : N * 3100001 ≤ 40 * 3100001 := Nat.mul_le_mul_right _ h40
              rw [ba_size, hSd]
              omega
            have hSS : (9223372036854775807 < 8 + S.size) = False := by simp; omega
            rw [hS] at HSH
            have HPA : Aside0 (∀ W, Below w0.heap.size w0 W → Calls Tryz.prog 19 #[.string (⟨#[35, 32, 110, 111, 116, 101, 10, 10]⟩ ++ S)] W fun e w' => ∃ (A1 A2 : Option Addr) (c1 c2 : Nat), e = .returned (.tuple #[.slice A1 N c1, .slice A2 0 c2]) ∧ Kd.C kS w' A1 N xs ∧ Below W.heap.size W w') := ⟨fun W hW => by
              have hd : ((⟨#[35, 32, 110, 111, 116, 101, 10, 10]⟩ : ByteArray) ++ S).data.toList = note ++ 10 :: 10 :: showT (xs.map toStp) := by simp [hSd, note]
              have hz : ((⟨#[35, 32, 110, 111, 116, 101, 10, 10]⟩ : ByteArray) ++ S).size ≤ 4294967280 := by
                have h8 : (⟨#[35, 32, 110, 111, 116, 101, 10, 10]⟩ : ByteArray).size = 8 := rfl
                rw [ByteArray.size_append, h8]
                omega
              refine (parse_calls _ hz w0 W HT.out hW).mono ?_
              rintro e w' ⟨hbb, v, u, rfl, ho, hf⟩
              rw [hd, hrb1] at ho
              rw [hd, hrb2] at hf
              have hmm : (xs.map toStp).map ofStp = xs := by
                rw [List.map_map]
                exact (List.map_congr_left (fun x _ => of_to x)).trans (List.map_id _)
              rw [hmm] at ho
              obtain ⟨A1, c1, rfl, _, hc1⟩ := Kd.R_reads ho
              obtain ⟨A2, c2, rfl⟩ := Kd.R_slice hf
              rw [HN.out] at hc1 ⊢
              exact ⟨A1, A2, c1, c2, rfl, hc1, hbb⟩⟩
            clear e1 hall htl ht2 hr2 htn hrb1 hrb2 hsl hS hSd
            go_wp2_with (first
              | (go_at_call 17; (with_reducible refine HSH.mono ?_); rintro e w2 ⟨rfl, hb_⟩; replace HW := Aside0.mk (HW.out.trans (hb_.mono HW.out.size)); clear hb_)
              | (go_at_call 19; (with_reducible refine (HPA.out _ (HB0.out.trans (HW.out.mono HB0.out.size))).mono ?_); rintro e w9 ⟨A1, A2, c1, c2, rfl, hc1, hb_⟩; have HM := Aside0.mk hc1; clear hc1; replace HW := Aside0.mk (HW.out.trans (hb_.mono HW.out.size)); clear hb_))
            have HCM : Aside0 (Kd.C kS w9 A N xs) := ⟨Kd.C_below HC.out HW.out⟩
            obtain ⟨WP, hWP⟩ : ∃ WP, WP = w9 := ⟨_, rfl⟩
            subst hWP
            go_loopg [13] (N + 1) (fun gf v13 wr => ∃ (k : Nat), v13 = .int .i64 k ∧ k ≤ N ∧ Aside0 (Below WP.heap.size WP wr) ∧ N < k + gf)
            case atStart => exact ⟨0, rfl, by omega, ⟨Below.refl _ _⟩, by omega⟩
            case round =>
              obtain ⟨k, rfl, hk, HZ, hgf⟩ := hrel
              obtain ⟨j, rfl⟩ : ∃ j, gk = j + 1 := ⟨gk - 1, by omega⟩
              by_cases hlt : k < N
              · obtain ⟨ad, A6, c6, rfl, g0, g1, g2, g3, g4, g5, g6, hl6, hC6⟩ := atS (Kd.C_below HCM.out HZ.out) (k : Int) (by omega) (by omega)
                obtain ⟨ad2, B6, d6, rfl, k0, k1, k2, k3, k4, k5, k6, hm6, hD6⟩ := atS (Kd.C_below HM.out HZ.out) (k : Int) (by omega) (by omega)
                rw [Int.toNat_natCast] at g0 g1 g2 g3 g4 g5 g6 k0 k1 k2 k3 k4 k5 k6
                have hkp : (rdS xs (k : Int)).f6.length ≤ 120 := by
                  have hk2 : k < xs.length := by rw [HN.out]; exact hlt
                  have hx2 : rdS xs (k : Int) = xs[k] := by
                    unfold rdS
                    rw [Int.toNat_natCast, List.getD_eq_getElem?_getD, List.getElem?_eq_getElem hk2]
                    rfl
                  rw [hx2]
                  exact HKEEP.out _ (List.getElem_mem hk2)
                obtain ⟨y, hy⟩ : ∃ y, rdS xs (k : Int) = y := ⟨_, rfl⟩
                rw [hy] at g0 g1 g2 g3 g4 g5 g6 hl6 hC6 k0 k1 k2 k3 k4 k5 k6 hm6 hD6 hkp
                have HC6 := Aside0.mk hC6
                have HD6 := Aside0.mk hD6
                have HKP := Aside0.mk hkp
                clear hy hC6 hD6 hkp hl6 hm6
                go_upto_region 16 with (fail)
                go_region_held3 (fun w' => w'.cell? (ad.add (k * 7)) = some (.int .i64 y.f0) ∧ w'.cell? ⟨(ad.add (k * 7)).block, (ad.add (k * 7)).off + 1, none⟩ = some (.int .i64 y.f1) ∧ w'.cell? ⟨(ad.add (k * 7)).block, (ad.add (k * 7)).off + 2, none⟩ = some (.string y.f2) ∧ w'.cell? ⟨(ad.add (k * 7)).block, (ad.add (k * 7)).off + 3, none⟩ = some (.string y.f3) ∧ w'.cell? ⟨(ad.add (k * 7)).block, (ad.add (k * 7)).off + 4, none⟩ = some (.int .i64 y.f4) ∧ w'.cell? ⟨(ad.add (k * 7)).block, (ad.add (k * 7)).off + 5, none⟩ = some (.int .i64 y.f5) ∧ w'.cell? ⟨(ad.add (k * 7)).block, (ad.add (k * 7)).off + 6, none⟩ = some (.slice A6 y.f6.length c6) ∧ w'.cell? (ad2.add (k * 7)) = some (.int .i64 y.f0) ∧ w'.cell? ⟨(ad2.add (k * 7)).block, (ad2.add (k * 7)).off + 1, none⟩ = some (.int .i64 y.f1) ∧ w'.cell? ⟨(ad2.add (k * 7)).block, (ad2.add (k * 7)).off + 2, none⟩ = some (.string y.f2) ∧ w'.cell? ⟨(ad2.add (k * 7)).block, (ad2.add (k * 7)).off + 3, none⟩ = some (.string y.f3) ∧ w'.cell? ⟨(ad2.add (k * 7)).block, (ad2.add (k * 7)).off + 4, none⟩ = some (.int .i64 y.f4) ∧ w'.cell? ⟨(ad2.add (k * 7)).block, (ad2.add (k * 7)).off + 5, none⟩ = some (.int .i64 y.f5) ∧ w'.cell? ⟨(ad2.add (k * 7)).block, (ad2.add (k * 7)).off + 6, none⟩ = some (.slice B6 y.f6.length d6))
                  (first | exact ⟨g0, g1, g2, g3, g4, g5, g6, k0, k1, k2, k3, k4, k5, k6⟩ | (go_split_ands; exact ⟨pw_cell_below hb_ (by assumption), pw_cell_below hb_ (by assumption), pw_cell_below hb_ (by assumption), pw_cell_below hb_ (by assumption), pw_cell_below hb_ (by assumption), pw_cell_below hb_ (by assumption), pw_cell_below hb_ (by assumption), pw_cell_below hb_ (by assumption), pw_cell_below hb_ (by assumption), pw_cell_below hb_ (by assumption), pw_cell_below hb_ (by assumption), pw_cell_below hb_ (by assumption), pw_cell_below hb_ (by assumption), pw_cell_below hb_ (by assumption)⟩))
                  (first
                    | (go_at_call 16; (with_reducible refine (back_calls y.f0 y.f1 y.f4 y.f5 y.f2 y.f3 B6 y.f6.length d6 _).mono ?_); rintro e w16 ⟨rfl, hb_⟩; have HB6 := Aside0.mk (below_step (show Below wr.heap.size wr _ by with_reducible repeat (first | exact Below.refl _ _ | apply below_drew1 | apply pw_below_drewN)) hb_))
                    | (go_at_call 15; (with_reducible refine (same_calls y.f0 y.f1 y.f4 y.f5 y.f2 y.f3 y.f6 B6 A6 d6 c6 _ (Kd.C_below HD6.out HB6.out) (Kd.C_below HC6.out HB6.out) (Nat.le_trans HKP.out (by decide))).mono ?_); rintro e w17 ⟨rfl, hb_⟩; have HB7 := Aside0.mk (below_step HB6.out hb_)))
                all_goals
                  go_wp2_with fail
                  go_roundg j
                  case measure => omega
                  case rel => exact ⟨k + 1, by go_num, by omega, ⟨HZ.out.trans (HB7.out.mono HZ.out.size)⟩, by omega⟩
              · replace HW := Aside0.mk (HW.out.trans (HZ.out.mono HW.out.size))
                go_wp2_with (first
                  | (go_at_call 11; (with_reducible refine (HPL.out _ (HB0.out.trans (HW.out.mono HB0.out.size))).mono ?_); rintro e w5 ⟨rfl, hb_⟩; replace HW := Aside0.mk (HW.out.trans (hb_.mono HW.out.size)); clear hb_)
                  | (go_at_call 16; (with_reducible refine (back_calls 0 0 0 0 ⟨#[]⟩ ⟨#[]⟩ none 0 0 _).mono ?_); rintro e w6 ⟨rfl, hb_⟩; replace HW := Aside0.mk (HW.out.trans ((below_al hb_).mono HW.out.size)); clear hb_)
                  | (go_at_call 15; (with_reducible refine (same_zero _).mono ?_); rintro e w7 ⟨rfl, hb_⟩; replace HW := Aside0.mk (HW.out.trans (hb_.mono HW.out.size)); clear hb_)
                  | (go_at_call 7; (with_reducible refine (alive_calls w0 _ HT.out (HB0.out.trans (HW.out.mono HB0.out.size))).mono ?_); rintro e w8 ⟨rfl, hb_⟩; replace HW := Aside0.mk (HW.out.trans (hb_.mono HW.out.size)); clear hb_))
                go_ret
                exact ⟨rfl, HW.out⟩
          | some x =>
            obtain ⟨hrx, hlx⟩ := whole_iff.1 hwh
            have HPL : Aside0 (∀ W, Below w0.heap.size w0 W → Calls Tryz.prog 11 #[.string t] W (PPost W (some x))) := ⟨fun W hb => by
              have h := HPL0 W hb
              rw [hwh] at h
              exact h⟩
            have HLN : Aside0 (∀ (A : Option Addr) (c : Nat) (W : World), Below w0.heap.size w0 W → Kd.bool.C W A x.keep.length x.keep → Calls Tryz.prog 8 #[.agg (stpC x A c)] W fun e w' => e = .returned (.tuple #[.string t, .int .i64 0]) ∧ Below W.heap.size W w') := ⟨fun A c W hW hC => by
              have h := line_calls x A c w0 W HT.out hW hC
              have e1 : lineS x = tl := by unfold lineS; rw [if_pos hrx, hlx]
              have e2 : lineK x = 0 := by unfold lineK; rw [if_pos hrx]
              rw [e1, e2, ht2] at h
              exact h⟩
            have HRI : Aside0 (∀ (A : Option Addr) (c : Nat) (W : World), Below w0.heap.size w0 W → Calls Tryz.prog 13 #[.agg (stpC x A c)] W fun e w' => e = .returned (.bool true) ∧ Below W.heap.size W w') := ⟨fun A c W hW => by
              have h := right_calls x A c w0 W HT.out hW
              rw [hrx] at h
              exact h⟩
            clear HPL0 hwh hrx hlx
            have e1 : showS (xs.map toStp) = (showT (xs.map toStp), 0) := by unfold showS; rw [hall]; rfl
            obtain ⟨hrb1, hrb2⟩ := read_back _ hall
            have hsl := showT_len _ hall
            rw [List.length_map, HN.out] at hsl
            rw [e1] at HSH
            dsimp only at HSH
            obtain ⟨S, hS⟩ : ∃ S : ByteArray, (⟨(showT (xs.map toStp)).toArray⟩ : ByteArray) = S := ⟨_, rfl⟩
            have hSd : S.data.toList = showT (xs.map toStp) := by rw [← hS]
            have hSs : S.size ≤ 124000040 := by
              have h3 : N * 3100001 ≤ 40 * 3100001 := Nat.mul_le_mul_right _ h40
              rw [ba_size, hSd]
              omega
            have hSS : (9223372036854775807 < 8 + S.size) = False := by simp; omega
            rw [hS] at HSH
            have HPA : Aside0 (∀ W, Below w0.heap.size w0 W → Calls Tryz.prog 19 #[.string (⟨#[35, 32, 110, 111, 116, 101, 10, 10]⟩ ++ S)] W fun e w' => ∃ (A1 A2 : Option Addr) (c1 c2 : Nat), e = .returned (.tuple #[.slice A1 N c1, .slice A2 0 c2]) ∧ Kd.C kS w' A1 N xs ∧ Below W.heap.size W w') := ⟨fun W hW => by
              have hd : ((⟨#[35, 32, 110, 111, 116, 101, 10, 10]⟩ : ByteArray) ++ S).data.toList = note ++ 10 :: 10 :: showT (xs.map toStp) := by simp [hSd, note]
              have hz : ((⟨#[35, 32, 110, 111, 116, 101, 10, 10]⟩ : ByteArray) ++ S).size ≤ 4294967280 := by
                have h8 : (⟨#[35, 32, 110, 111, 116, 101, 10, 10]⟩ : ByteArray).size = 8 := rfl
                rw [ByteArray.size_append, h8]
                omega
              refine (parse_calls _ hz w0 W HT.out hW).mono ?_
              rintro e w' ⟨hbb, v, u, rfl, ho, hf⟩
              rw [hd, hrb1] at ho
              rw [hd, hrb2] at hf
              have hmm : (xs.map toStp).map ofStp = xs := by
                rw [List.map_map]
                exact (List.map_congr_left (fun x _ => of_to x)).trans (List.map_id _)
              rw [hmm] at ho
              obtain ⟨A1, c1, rfl, _, hc1⟩ := Kd.R_reads ho
              obtain ⟨A2, c2, rfl⟩ := Kd.R_slice hf
              rw [HN.out] at hc1 ⊢
              exact ⟨A1, A2, c1, c2, rfl, hc1, hbb⟩⟩
            clear e1 hall htl ht2 hr2 htn hrb1 hrb2 hsl hS hSd
            go_wp2_with (first
              | (go_at_call 17; (with_reducible refine HSH.mono ?_); rintro e w2 ⟨rfl, hb_⟩; replace HW := Aside0.mk (HW.out.trans (hb_.mono HW.out.size)); clear hb_)
              | (go_at_call 19; (with_reducible refine (HPA.out _ (HB0.out.trans (HW.out.mono HB0.out.size))).mono ?_); rintro e w9 ⟨A1, A2, c1, c2, rfl, hc1, hb_⟩; have HM := Aside0.mk hc1; clear hc1; replace HW := Aside0.mk (HW.out.trans (hb_.mono HW.out.size)); clear hb_))
            have HCM : Aside0 (Kd.C kS w9 A N xs) := ⟨Kd.C_below HC.out HW.out⟩
            obtain ⟨WP, hWP⟩ : ∃ WP, WP = w9 := ⟨_, rfl⟩
            subst hWP
            go_loopg [13] (N + 1) (fun gf v13 wr => ∃ (k : Nat), v13 = .int .i64 k ∧ k ≤ N ∧ Aside0 (Below WP.heap.size WP wr) ∧ N < k + gf)
            case atStart => exact ⟨0, rfl, by omega, ⟨Below.refl _ _⟩, by omega⟩
            case round =>
              obtain ⟨k, rfl, hk, HZ, hgf⟩ := hrel
              obtain ⟨j, rfl⟩ : ∃ j, gk = j + 1 := ⟨gk - 1, by omega⟩
              by_cases hlt : k < N
              · obtain ⟨ad, A6, c6, rfl, g0, g1, g2, g3, g4, g5, g6, hl6, hC6⟩ := atS (Kd.C_below HCM.out HZ.out) (k : Int) (by omega) (by omega)
                obtain ⟨ad2, B6, d6, rfl, k0, k1, k2, k3, k4, k5, k6, hm6, hD6⟩ := atS (Kd.C_below HM.out HZ.out) (k : Int) (by omega) (by omega)
                rw [Int.toNat_natCast] at g0 g1 g2 g3 g4 g5 g6 k0 k1 k2 k3 k4 k5 k6
                have hkp : (rdS xs (k : Int)).f6.length ≤ 120 := by
                  have hk2 : k < xs.length := by rw [HN.out]; exact hlt
                  have hx2 : rdS xs (k : Int) = xs[k] := by
                    unfold rdS
                    rw [Int.toNat_natCast, List.getD_eq_getElem?_getD, List.getElem?_eq_getElem hk2]
                    rfl
                  rw [hx2]
                  exact HKEEP.out _ (List.getElem_mem hk2)
                obtain ⟨y, hy⟩ : ∃ y, rdS xs (k : Int) = y := ⟨_, rfl⟩
                rw [hy] at g0 g1 g2 g3 g4 g5 g6 hl6 hC6 k0 k1 k2 k3 k4 k5 k6 hm6 hD6 hkp
                have HC6 := Aside0.mk hC6
                have HD6 := Aside0.mk hD6
                have HKP := Aside0.mk hkp
                clear hy hC6 hD6 hkp hl6 hm6
                go_upto_region 16 with (fail)
                go_region_held3 (fun w' => w'.cell? (ad.add (k * 7)) = some (.int .i64 y.f0) ∧ w'.cell? ⟨(ad.add (k * 7)).block, (ad.add (k * 7)).off + 1, none⟩ = some (.int .i64 y.f1) ∧ w'.cell? ⟨(ad.add (k * 7)).block, (ad.add (k * 7)).off + 2, none⟩ = some (.string y.f2) ∧ w'.cell? ⟨(ad.add (k * 7)).block, (ad.add (k * 7)).off + 3, none⟩ = some (.string y.f3) ∧ w'.cell? ⟨(ad.add (k * 7)).block, (ad.add (k * 7)).off + 4, none⟩ = some (.int .i64 y.f4) ∧ w'.cell? ⟨(ad.add (k * 7)).block, (ad.add (k * 7)).off + 5, none⟩ = some (.int .i64 y.f5) ∧ w'.cell? ⟨(ad.add (k * 7)).block, (ad.add (k * 7)).off + 6, none⟩ = some (.slice A6 y.f6.length c6) ∧ w'.cell? (ad2.add (k * 7)) = some (.int .i64 y.f0) ∧ w'.cell? ⟨(ad2.add (k * 7)).block, (ad2.add (k * 7)).off + 1, none⟩ = some (.int .i64 y.f1) ∧ w'.cell? ⟨(ad2.add (k * 7)).block, (ad2.add (k * 7)).off + 2, none⟩ = some (.string y.f2) ∧ w'.cell? ⟨(ad2.add (k * 7)).block, (ad2.add (k * 7)).off + 3, none⟩ = some (.string y.f3) ∧ w'.cell? ⟨(ad2.add (k * 7)).block, (ad2.add (k * 7)).off + 4, none⟩ = some (.int .i64 y.f4) ∧ w'.cell? ⟨(ad2.add (k * 7)).block, (ad2.add (k * 7)).off + 5, none⟩ = some (.int .i64 y.f5) ∧ w'.cell? ⟨(ad2.add (k * 7)).block, (ad2.add (k * 7)).off + 6, none⟩ = some (.slice B6 y.f6.length d6))
                  (first | exact ⟨g0, g1, g2, g3, g4, g5, g6, k0, k1, k2, k3, k4, k5, k6⟩ | (go_split_ands; exact ⟨pw_cell_below hb_ (by assumption), pw_cell_below hb_ (by assumption), pw_cell_below hb_ (by assumption), pw_cell_below hb_ (by assumption), pw_cell_below hb_ (by assumption), pw_cell_below hb_ (by assumption), pw_cell_below hb_ (by assumption), pw_cell_below hb_ (by assumption), pw_cell_below hb_ (by assumption), pw_cell_below hb_ (by assumption), pw_cell_below hb_ (by assumption), pw_cell_below hb_ (by assumption), pw_cell_below hb_ (by assumption), pw_cell_below hb_ (by assumption)⟩))
                  (first
                    | (go_at_call 16; (with_reducible refine (back_calls y.f0 y.f1 y.f4 y.f5 y.f2 y.f3 B6 y.f6.length d6 _).mono ?_); rintro e w16 ⟨rfl, hb_⟩; have HB6 := Aside0.mk (below_step (show Below wr.heap.size wr _ by with_reducible repeat (first | exact Below.refl _ _ | apply below_drew1 | apply pw_below_drewN)) hb_))
                    | (go_at_call 15; (with_reducible refine (same_calls y.f0 y.f1 y.f4 y.f5 y.f2 y.f3 y.f6 B6 A6 d6 c6 _ (Kd.C_below HD6.out HB6.out) (Kd.C_below HC6.out HB6.out) (Nat.le_trans HKP.out (by decide))).mono ?_); rintro e w17 ⟨rfl, hb_⟩; have HB7 := Aside0.mk (below_step HB6.out hb_)))
                all_goals
                  go_wp2_with fail
                  go_roundg j
                  case measure => omega
                  case rel => exact ⟨k + 1, by go_num, by omega, ⟨HZ.out.trans (HB7.out.mono HZ.out.size)⟩, by omega⟩
              · replace HW := Aside0.mk (HW.out.trans (HZ.out.mono HW.out.size))
                go_wp2_with (first
                  | (go_at_call 11; (with_reducible refine (HPL.out _ (HB0.out.trans (HW.out.mono HB0.out.size))).mono ?_); rintro e w5 ⟨hb_, v6, rfl, h6⟩; obtain ⟨A6, c6, rfl⟩ := Kd.R_slice h6; have H6 := Aside0.mk h6; clear h6; replace HW := Aside0.mk (HW.out.trans (hb_.mono HW.out.size)); clear hb_)
                  | (go_at_call 8; (with_reducible refine (HLN.out A6 c6 _ ((HB0.out.trans (HW.out.mono HB0.out.size)).alloc (Nat.le_trans HB0.out.size HW.out.size) _) (own_reads (OwnB.on H6.out (below_alloc (Below.refl _ _) _)) rfl)).mono ?_); rintro e w6 ⟨rfl, hb_⟩; obtain ⟨q0, q1, q2, q3, q4, q5, q6⟩ := cells7 (blk_below (blk_new w5 (.cells #[.int .i64 x.who, .int .i64 x.kind, .string ⟨x.p.toArray⟩, .string ⟨x.q.toArray⟩, .int .i64 x.n, .int .i64 x.m, .slice A6 x.keep.length c6] 31 (0, 0))) hb_); replace HW := Aside0.mk (HW.out.trans ((below_al hb_).mono HW.out.size)); clear hb_)
                  | (go_at_call 13; (with_reducible refine (HRI.out A6 c6 _ (HB0.out.trans (HW.out.mono HB0.out.size))).mono ?_); rintro e w7 ⟨rfl, hb_⟩; replace HW := Aside0.mk (HW.out.trans (hb_.mono HW.out.size)); clear hb_)
                  | (go_at_call 7; (with_reducible refine (alive_calls w0 _ HT.out (HB0.out.trans (HW.out.mono HB0.out.size))).mono ?_); rintro e w8 ⟨rfl, hb_⟩; replace HW := Aside0.mk (HW.out.trans (hb_.mono HW.out.size)); clear hb_))
                go_ret
                exact ⟨rfl, HW.out⟩
end Go.Proofs.YtoajcijjkkkaaaaGreatDoor.K

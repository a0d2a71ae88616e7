/- script.Parse. -/
import Derived.Test.YtoajcijjkkkaaaaGreatDoorScX
namespace Go.Proofs.YtoajcijjkkkaaaaGreatDoor.K
open Go.RowKit Go.Proofs.YtoajcijjkkkaaaaGreatDoorW.PrintWords Go.Proofs.YtoajcijjkkkaaaaGreatDoorW.PrintLast Go.Proofs.YtoajcijjkkkaaaaGreatDoorW.PrintMore
set_option linter.unusedVariables false
set_option linter.unusedSimpArgs false

theorem info_step : (Tryz.prog.info? 31).map (fun i => (i.zero, i.size, i.bytes)) = some (some (.agg #[(.int .i64 0), (.int .i64 0), (.string ⟨#[]⟩), (.string ⟨#[]⟩), (.int .i64 0), (.int .i64 0), (.slice none 0 0)]), 7, 88) := by kernel_rfl
theorem info_fault : (Tryz.prog.info? 53).map (fun i => (i.zero, i.size, i.bytes)) = some (some (.agg #[(.int .i64 0), (.int .i64 0)]), 2, 16) := by kernel_rfl
abbrev OwnT (w : World) (b : Nat) (v : Value) (l : List SS) : Prop := Kd.R kS 31 w b (fun _ => True) v l
abbrev OwnF (w : World) (b : Nat) (v : Value) (l : List SF) : Prop := Kd.R kF 53 w b (fun _ => True) v l
theorem ownT_grown {w w1 : World} {b b2 : Nat} {v u : Value} {l : List SS} {m : List SF} (h : OwnT w b v l) (hf : OwnF w b2 u m) (hg : w.grownBy w1 u.ownBlock) : OwnT w1 b v l := by
  refine Kd.R_mono (Kd.R_grown (Kd.R_bound h) hg (fun k hk => ?_)) (fun _ _ => trivial)
  intro e
  obtain ⟨_, _, _, q, hq, cells, hc⟩ := hk
  obtain ⟨inner, ho, _⟩ := hf.2
  obtain ⟨cells', hc'⟩ := own_typed ho k e.symm
  rw [hc] at hc'
  simp only [Option.some.injEq, Obj.cells.injEq] at hc'
  have hq2 : q = 53 := hc'.2.1
  subst hq2
  exact absurd hq (by decide)
theorem ownF_grown {w w1 : World} {b b2 : Nat} {v u : Value} {l : List SS} {m : List SF} (hf : OwnF w b2 u m) (h : OwnT w b v l) (hg : w.grownBy w1 v.ownBlock) : OwnF w1 b2 u m := by
  refine Kd.R_mono (Kd.R_grown (Kd.R_bound hf) hg (fun k hk => ?_)) (fun _ _ => trivial)
  intro e
  obtain ⟨_, _, _, q, hq, cells, hc⟩ := hk
  obtain ⟨inner, ho, _⟩ := h.2
  obtain ⟨cells', hc'⟩ := own_typed ho k e.symm
  rw [hc] at hc'
  simp only [Option.some.injEq, Obj.cells.injEq] at hc'
  have hq2 : q = 31 := hc'.2.1
  subst hq2
  exact absurd hq (by decide)
theorem ba_ne {t : ByteArray} (h : ¬ t = ⟨#[]⟩) : t.toList.isEmpty = false := by
  cases hd : t.data.toList with
  | nil => exact absurd (ba_eq hd) h
  | cons c r => exact ba_cons hd
/-- What Parse leaves. -/
def AllPost (w : World) (ls : List Bs) (e : Ending) (w' : World) : Prop :=
  Below w.heap.size w w' ∧ ∃ v u, e = .returned (.tuple #[v, u]) ∧ OwnT w' w.heap.size v ((stepsOf ls).map ofStp) ∧ OwnF w' w.heap.size u ((fauOf 0 ls).map ofFau)
theorem pieces_cell {w : World} {b : Nat} {L : List ByteArray} (h : w.heap[b]? = some (.cells (L.map Value.string).toArray 9 (0, 0))) (k : Nat) (hk : k < L.length) : w.cell? ⟨b, k, none⟩ = some (.string L[k]) := by
  refine (blk_cell h k).trans ?_
  simp [List.getElem?_eq_getElem hk]

set_option maxRecDepth 100000 in
set_option maxHeartbeats 8000000 in
theorem parse_calls (s : ByteArray) (hs : s.size ≤ 4294967280) (w0 w : World) (hT : Tb w0) (hb0 : Below w0.heap.size w0 w) :
    Calls Tryz.prog 19 #[.string s] w (AllPost w (lns s.data.toList)) := by
  have HT := Aside0.mk hT
  have HB0 := Aside0.mk hb0
  obtain ⟨m, hm0⟩ := hT.max
  have hm : w.cell? ⟨1, 0, none⟩ = some (.int .i64 m) := pw_cell_below hb0 hm0
  have HSP := L.strings_Split s ⟨#[10]⟩ m w (by omega) hm (by decide)
  have hnl : (Lib.splitB ⟨#[10]⟩ 0 (Lib.countB s ⟨#[10]⟩) s).length = Lib.countB s ⟨#[10]⟩ + 1 := Lib.splitB_all _ (by decide) 0 _ s rfl
  have hln := split_lns s
  rw [← hnl] at HSP
  obtain ⟨PL, hL⟩ : ∃ PL, Lib.splitB ⟨#[10]⟩ 0 (Lib.countB s ⟨#[10]⟩) s = PL := ⟨_, rfl⟩
  rw [hL] at HSP hln hnl
  obtain ⟨LS, hLS⟩ : ∃ LS, lns s.data.toList = LS := ⟨_, rfl⟩
  have hlen : LS.length ≤ 4294967281 := by
    have h1 := lns_len s.data.toList
    rw [ba_size] at hs
    rw [← hLS]
    omega
  have hmem : ∀ t ∈ LS, t.length ≤ 4294967280 := by
    intro t ht
    rw [← hLS] at ht
    have h1 := lns_mem s.data.toList t ht
    rw [ba_size] at hs
    omega
  rw [hLS] at hln ⊢
  obtain ⟨N, hN⟩ : ∃ N, PL.length = N := ⟨_, rfl⟩
  have hLN : LS.length = N := by rw [← hln, List.length_map, hN]
  rw [hN] at HSP
  have hm32 : (N : Int) ≤ 4294967281 := by omega
  have hN32 : N ≤ 4294967281 := by omega
  have HN := Aside0.mk hN
  have HLN := Aside0.mk hLN
  have HL := Aside0.mk hln
  have HMEM := Aside0.mk hmem
  clear hL hLS hlen hmem hln hnl hN hLN hm0 hm hT hb0 hs
  go_enter Tryz.func19, Tryz.ntmps19
  go_wp2_with (go_at_call 43; (with_reducible refine HSP.mono ?_); rintro e w' ⟨rfl, rfl⟩)
  obtain ⟨b, hb⟩ : ∃ b, w.heap.size = b := ⟨_, rfl⟩
  have HBW := Aside0.mk hb
  have HBL : Aside0 (Below b w (w.alloc (.cells (PL.map Value.string).toArray 9))) := ⟨by rw [← hb]; exact below_alloc (Below.refl _ _) _⟩
  have HK : Aside0 ((w.alloc (.cells (PL.map Value.string).toArray 9)).heap[b]? = some (.cells (PL.map Value.string).toArray 9 (0, 0))) := ⟨by rw [← hb]; exact blk_new w _⟩
  rw [hb]
  clear hb
  obtain ⟨W1, hW1⟩ : ∃ W1, w.alloc (.cells (PL.map Value.string).toArray 9) = W1 := ⟨_, rfl⟩
  rw [hW1] at HBL HK ⊢
  clear hW1
  go_loopg [2, 3, 11] (N + 1) (fun gf v2 v3 v11 wr => ∃ (k : Nat), v11 = .int .i64 k ∧ k ≤ N ∧ Aside0 (OwnT wr (b + 1) v2 ((stepsOf (LS.take k)).map ofStp)) ∧ Aside0 (OwnF wr (b + 1) v3 ((fauOf 0 (LS.take k)).map ofFau)) ∧ Aside0 (Below (b + 1) W1 wr) ∧ N < k + gf)
  case atStart => exact ⟨0, rfl, by omega, ⟨Kd.R_nil _ _ _ _ _⟩, ⟨Kd.R_nil _ _ _ _ _⟩, ⟨Below.refl _ _⟩, by omega⟩
  case round =>
    obtain ⟨k, rfl, hk, HO, HF, HB, hgf⟩ := hrel
    obtain ⟨n, rfl⟩ : ∃ n, gk = n + 1 := ⟨gk - 1, by omega⟩
    obtain ⟨A2, c2, rfl⟩ := Kd.R_slice HO.out
    obtain ⟨A3, c3, rfl⟩ := Kd.R_slice HF.out
    by_cases hlt : k < N
    · have hkL : k < PL.length := by rw [HN.out]; exact hlt
      have hkS : k < LS.length := by rw [HLN.out]; exact hlt
      have hbk : wr.heap[b]? = some (.cells (PL.map Value.string).toArray 9 (0, 0)) := by rw [HB.out.block b (by omega)]; exact HK.out
      have hcell := pieces_cell hbk k hkL
      obtain ⟨t, ht⟩ : ∃ t, PL[k] = t := ⟨_, rfl⟩
      rw [ht] at hcell
      have htl : LS[k] = t.data.toList := by
        rw [← ht]
        simp [← HL.out]
      have htk : LS.take (k + 1) = LS.take k ++ [t.data.toList] := by rw [List.take_succ_eq_append_getElem hkS, htl]
      have htm := HMEM.out _ (List.getElem_mem hkS)
      rw [htl, ← ba_size] at htm
      have HTK := Aside0.mk htk
      have HBK := Aside0.mk hbk
      have hpre := L.strings_HasPrefix t ⟨#[35]⟩
      clear htl htk hkS hkL hbk ht
      obtain ⟨ST, hST⟩ : ∃ ST, (stepsOf (LS.take k)).map ofStp = ST := ⟨_, rfl⟩
      obtain ⟨FT, hFT⟩ : ∃ FT, (fauOf 0 (LS.take k)).map ofFau = FT := ⟨_, rfl⟩
      have hSl : ST.length ≤ k := by
        have := stepsOf_len (LS.take k)
        rw [← hST, List.length_map]
        rw [List.length_take] at this
        omega
      have hFl : FT.length ≤ k := by
        have := fauOf_len 0 (LS.take k)
        rw [← hFT, List.length_map]
        rw [List.length_take] at this
        omega
      rw [hST] at HO ⊢
      rw [hFT] at HF ⊢
      have nST : (stepsOf (LS.take (k + 1))).map ofStp = ST ++ (stepOf t.data.toList).map ofStp := by rw [HTK.out, stepsOf_snoc, List.map_append, hST]
      have nFT : (fauOf 0 (LS.take (k + 1))).map ofFau = FT ++ (if badL t.data.toList then [ofFau k] else []) := by
        rw [HTK.out, fauOf_snoc, List.map_append, hFT]
        have e : 0 + (LS.take k).length = k := by rw [List.length_take, HLN.out]; omega
        rw [e]
        split <;> rfl
      have NST := Aside0.mk nST
      have NFT := Aside0.mk nFT
      have HSL := Aside0.mk hSl
      have HFL := Aside0.mk hFl
      clear nST nFT hST hFT hSl hFl
      by_cases hsk : skp t.data.toList = true
      · have e1 : stepOf t.data.toList = [] := by unfold stepOf; rw [if_pos hsk]
        have e2 : badL t.data.toList = false := by unfold badL; rw [hsk]; rfl
        have HST2 : Aside0 ((stepsOf (LS.take (k + 1))).map ofStp = ST) := ⟨by rw [NST.out, e1]; simp⟩
        have HFT2 : Aside0 ((fauOf 0 (LS.take (k + 1))).map ofFau = FT) := ⟨by rw [NFT.out, e2]; simp⟩
        clear e1 e2
        by_cases hte : t = ⟨#[]⟩
        · have hte2 : t.toList.isEmpty = true := ba_empty (by rw [hte])
          clear hpre hsk hte
          go_wp2_with fail
          go_roundg n
          case measure => omega
          case rel => exact ⟨k + 1, by go_num, by omega, ⟨by rw [HST2.out]; exact HO.out⟩, ⟨by rw [HFT2.out]; exact HF.out⟩, HB, by omega⟩
        · have hte2 : t.toList.isEmpty = false := ba_ne hte
          have hp : Lib.hasPrefix t.data.toList [35] = true := by
            unfold skp at hsk
            cases hd : t.data.toList with
            | nil => exact absurd (ba_eq hd) hte
            | cons c r =>
              rw [hd] at hsk
              simp at hsk
              subst hsk
              simp [Lib.hasPrefix, List.isPrefixOf]
          have hpre2 : ∀ W : World, Calls Tryz.prog 44 #[.string t, .string ⟨#[35]⟩] W fun e w' => e = .returned (.bool true) ∧ w' = W := fun W => by
            have h := hpre W
            rw [show (⟨#[35]⟩ : ByteArray).data.toList = [35] from rfl, hp] at h
            exact h
          clear hpre hp hsk
          go_wp2_with (go_at_call 44; (with_reducible refine (hpre2 _).mono ?_); rintro e w' ⟨rfl, rfl⟩)
          go_roundg n
          case measure => omega
          case rel => exact ⟨k + 1, by go_num, by omega, ⟨by rw [HST2.out]; exact HO.out⟩, ⟨by rw [HFT2.out]; exact HF.out⟩, HB, by omega⟩
      · have hte : ¬ t = ⟨#[]⟩ := by
          rintro rfl
          exact hsk rfl
        have hte2 : t.toList.isEmpty = false := ba_ne hte
        have hp : Lib.hasPrefix t.data.toList [35] = false := by
          rw [Bool.not_eq_true] at hsk
          unfold skp at hsk
          cases hd : t.data.toList with
          | nil => exact absurd (ba_eq hd) hte
          | cons c r =>
            rw [hd] at hsk
            simp at hsk
            simp [Lib.hasPrefix, List.isPrefixOf]
            exact fun e => hsk e.symm
        have hpre2 : ∀ W : World, Calls Tryz.prog 44 #[.string t, .string ⟨#[35]⟩] W fun e w' => e = .returned (.bool false) ∧ w' = W := fun W => by
          have h := hpre W
          rw [show (⟨#[35]⟩ : ByteArray).data.toList = [35] from rfl, hp] at h
          exact h
        have hBW : Aside0 (Below w0.heap.size w0 wr) := ⟨HB0.out.trans ((HBL.out.trans (HB.out.mono (by omega))).mono (by have := HB0.out.size; have := HBW.out; omega))⟩
        have hpl := parseline_calls t htm w0 wr HT.out hBW.out
        have HSZ : Aside0 (b + 1 ≤ wr.heap.size) := ⟨by
          have := blk_lt HBK.out
          omega⟩
        rw [Bool.not_eq_true] at hsk
        clear hpre hp
        cases hwh : whole t.data.toList with
        | none =>
          have e1 : stepOf t.data.toList = [] := by unfold stepOf; rw [hwh, hsk]; rfl
          have e2 : badL t.data.toList = true := by unfold badL; rw [hwh, hsk]; rfl
          have HST2 : Aside0 ((stepsOf (LS.take (k + 1))).map ofStp = ST) := ⟨by rw [NST.out, e1]; simp⟩
          have HFT2 : Aside0 ((fauOf 0 (LS.take (k + 1))).map ofFau = FT ++ [ofFau k]) := ⟨by rw [NFT.out, e2]; simp⟩
          rw [hwh] at hpl
          clear e1 e2 hwh hsk hte
          go_wp2_with (first
            | (go_at_call 44; (with_reducible refine (hpre2 _).mono ?_); rintro e wr ⟨rfl, rfl⟩)
            | (go_at_call 11; (with_reducible refine hpl.mono ?_); rintro e w1 ⟨hb1, rfl⟩; have HB1 := Aside0.mk hb1; clear hb1)
            | ((with_reducible refine gate_builtin (b := .append) (xs := #[.tmp 29, .tmp 33]) rfl ?_); at_builtin; go_must (refine Kd.R_append kF (w0 := W1) (b + 1) rfl (.tmp 29) (.tmp 33) 46 53 (.agg #[(.int .i64 0), (.int .i64 0)]) 16 rfl Tryz.underlying46 info_fault rfl (by decide) (by omega) (.slice A3 FT.length c3) FT (ofFau k) [.int .i64 k, .int .i64 4] (fun _ => True) (fun _ => False) rfl (by first | (go_simp; done) | (go_simp; rfl)) ?aP (fun _ hk => hk.elim) ?aF ?aO ?aB ?aS ?aL ?_; (case aP => exact kF_mkM _ _ _ (ofFau k)); (case aB => exact (HB.out.trans (HB1.out.mono HSZ.out)).alloc (Nat.le_trans HSZ.out HB1.out.size) _); (case aF => exact (fun _ _ => trivial)); (case aO => exact Kd.R_alloc (Kd.R_below HF.out HB1.out) _); (case aS => have h1 := HSZ.out; have h2 := HB1.out.size; simp; omega); (case aL => have h1 := HFL.out; omega); intro v9 w9 ho hb hg hat; have HF9 := Aside0.mk ho; have HT9 := Aside0.mk (ownT_grown (Kd.R_alloc (Kd.R_below HO.out HB1.out) _) (Kd.R_alloc (Kd.R_below HF.out HB1.out) _) hg); have HB9 := Aside0.mk hb; clear ho hb hg hat)))
          go_roundg n
          case measure => omega
          case rel => exact ⟨k + 1, by go_num, by omega, ⟨by rw [HST2.out]; exact HT9.out⟩, ⟨by rw [HFT2.out]; exact HF9.out⟩, HB9, by omega⟩
        | some x =>
          have e1 : stepOf t.data.toList = [x] := by unfold stepOf; rw [hwh, hsk]; rfl
          have e2 : badL t.data.toList = false := by unfold badL; rw [hwh, hsk]; rfl
          have HST2 : Aside0 ((stepsOf (LS.take (k + 1))).map ofStp = ST ++ [ofStp x]) := ⟨by rw [NST.out, e1]; simp⟩
          have HFT2 : Aside0 ((fauOf 0 (LS.take (k + 1))).map ofFau = FT) := ⟨by rw [NFT.out, e2]; simp⟩
          have HV2 : Aside0 (∀ k, (Value.slice A2 ST.length c2).ownBlock = some k → k < wr.heap.size) := ⟨fun k hk => ((Kd.R_bound HO.out).1 k hk).2.2.1⟩
          rw [hwh] at hpl
          clear e1 e2 hwh hsk hte
          go_wp2_with (first
            | (go_at_call 44; (with_reducible refine (hpre2 _).mono ?_); rintro e wr ⟨rfl, rfl⟩)
            | (go_at_call 11; (with_reducible refine hpl.mono ?_); rintro e w1 ⟨hb1, v6, rfl, h6⟩; obtain ⟨A6, c6, rfl⟩ := Kd.R_slice h6; have HB1 := Aside0.mk hb1; have H6 := Aside0.mk h6; clear hb1 h6)
            | ((with_reducible refine gate_builtin (b := .append) (xs := #[.tmp 35, .tmp 37]) rfl ?_); at_builtin; go_must (refine Kd.R_append kS (w0 := W1) (b + 1) rfl (.tmp 35) (.tmp 37) 43 31 (.agg #[(.int .i64 0), (.int .i64 0), (.string ⟨#[]⟩), (.string ⟨#[]⟩), (.int .i64 0), (.int .i64 0), (.slice none 0 0)]) 88 rfl Tryz.underlying43 info_step rfl (by decide) (by omega) (.slice A2 ST.length c2) ST (ofStp x) [.int .i64 x.who, .int .i64 x.kind, .string ⟨x.p.toArray⟩, .string ⟨x.q.toArray⟩, .int .i64 x.n, .int .i64 x.m, .slice A6 x.keep.length c6] (fun _ => True) (fun k => wr.heap.size ≤ k) rfl (by first | (go_simp; done) | (go_simp; rfl)) ?aP ?aK ?aF ?aO ?aB ?aS ?aL ?_; (case aP => exact kS_mkM _ _ _ (ofStp x) (Kd.R_lower (Kd.R_alloc (Kd.R_mono (Kd.R_bound H6.out) (fun k hk => hk.2.1)) _) HSZ.out)); (case aK => exact fun k hk => ⟨trivial, fun e => absurd (HV2.out k e.symm) (by omega)⟩); (case aB => exact (HB.out.trans (HB1.out.mono HSZ.out)).alloc (Nat.le_trans HSZ.out HB1.out.size) _); (case aF => exact (fun _ _ => trivial)); (case aO => exact Kd.R_alloc (Kd.R_below HO.out HB1.out) _); (case aS => have h1 := HSZ.out; have h2 := HB1.out.size; simp; omega); (case aL => have h1 := HSL.out; omega); intro v9 w9 ho hb hg hat; have HT9 := Aside0.mk ho; have HF9 := Aside0.mk (ownF_grown (Kd.R_alloc (Kd.R_below HF.out HB1.out) _) (Kd.R_alloc (Kd.R_below HO.out HB1.out) _) hg); have HB9 := Aside0.mk hb; clear ho hb hg hat)))
          go_roundg n
          case measure => omega
          case rel => exact ⟨k + 1, by go_num, by omega, ⟨by rw [HST2.out]; exact HT9.out⟩, ⟨by rw [HFT2.out]; exact HF9.out⟩, HB9, by omega⟩
    · have hu : LS.take k = LS := by rw [List.take_of_length_le]; rw [HLN.out]; omega
      obtain ⟨ST, hST⟩ : ∃ ST, (stepsOf (LS.take k)).map ofStp = ST := ⟨_, rfl⟩
      obtain ⟨FT, hFT⟩ : ∃ FT, (fauOf 0 (LS.take k)).map ofFau = FT := ⟨_, rfl⟩
      rw [hST] at HO ⊢
      rw [hFT] at HF ⊢
      rw [hu] at hST hFT
      have HST := Aside0.mk hST
      have HFT := Aside0.mk hFT
      have hBF : Below w.heap.size w wr := by rw [HBW.out]; exact HBL.out.trans (HB.out.mono (by omega))
      have HBF := Aside0.mk hBF
      clear hu hBF hST hFT
      go_wp2_with fail
      go_ret2
      have hle : w.heap.size ≤ b + 1 := by rw [HBW.out]; omega
      unfold AllPost
      rw [HST.out, HFT.out]
      exact ⟨HBF.out, _, _, rfl, Kd.R_lower HO.out hle, Kd.R_lower HF.out hle⟩
end Go.Proofs.YtoajcijjkkkaaaaGreatDoor.K

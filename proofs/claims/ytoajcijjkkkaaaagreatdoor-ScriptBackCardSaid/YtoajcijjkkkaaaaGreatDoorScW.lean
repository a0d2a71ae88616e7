/- script.Show. -/
import Derived.Test.YtoajcijjkkkaaaaGreatDoorScV
namespace Go.Proofs.YtoajcijjkkkaaaaGreatDoor.K
open Go.RowKit Go.Proofs.YtoajcijjkkkaaaaGreatDoorW.PrintWords Go.Proofs.YtoajcijjkkkaaaaGreatDoorW.PrintLast Go.Proofs.YtoajcijjkkkaaaaGreatDoorW.PrintMore
set_option linter.unusedVariables false
set_option linter.unusedSimpArgs false

def toStp (x : SS) : Stp := ⟨x.f0, x.f1, x.f2.data.toList, x.f3.data.toList, x.f4, x.f5, x.f6⟩
theorem ba_self (s : ByteArray) : (⟨s.data.toList.toArray⟩ : ByteArray) = s := (ba_eq rfl).symm
theorem linex_calls (x : SS) (A : Option Addr) (c : Nat) (w0 w : World) (hT : Tb w0) (hb : Below w0.heap.size w0 w) (hC : Kd.bool.C w A x.f6.length x.f6) :
    Calls Tryz.prog 8 #[.agg #[.int .i64 x.f0, .int .i64 x.f1, .string x.f2, .string x.f3, .int .i64 x.f4, .int .i64 x.f5, .slice A x.f6.length c]] w fun e w' => e = .returned (.tuple #[.string ⟨(lineS (toStp x)).toArray⟩, .int .i64 (lineK (toStp x))]) ∧ Below w.heap.size w w' := by
  have h := line_calls (toStp x) A c w0 w hT hb hC
  have e : stpC (toStp x) A c = #[.int .i64 x.f0, .int .i64 x.f1, .string x.f2, .string x.f3, .int .i64 x.f4, .int .i64 x.f5, .slice A x.f6.length c] := by
    unfold stpC toStp
    simp only [ba_self]
  rw [e] at h
  exact h
/-- The text of steps. -/
def showT (l : List Stp) : Bs := l.flatMap (fun x => line x ++ [10])
def showS (l : List Stp) : Bs × Int := if l.all rightB then (showT l, 0) else ([], 1)
theorem showT_snoc (l : List Stp) (x : Stp) : showT (l ++ [x]) = showT l ++ (line x ++ [10]) := by simp [showT]
theorem showT_len (l : List Stp) (h : l.all rightB = true) : (showT l).length ≤ l.length * 3100001 := by
  induction l with
  | nil => simp [showT]
  | cons x l ih =>
    simp only [List.all_cons, Bool.and_eq_true] at h
    have h1 := line_len h.1
    have h2 := ih h.2
    have e : showT (x :: l) = (line x ++ [10]) ++ showT l := by simp [showT]
    rw [e, List.length_append, List.length_append, List.length_cons, List.length_cons, List.length_nil, Nat.succ_mul]
    omega

set_option maxRecDepth 100000 in
set_option maxHeartbeats 4000000 in
theorem show_calls (xs : List SS) (A : Option Addr) (c : Nat) (w0 w : World) (hT : Tb w0) (hb : Below w0.heap.size w0 w) (hC : Kd.C kS w A xs.length xs) (hlen : xs.length ≤ 40) :
    Calls Tryz.prog 17 #[.slice A xs.length c] w fun e w' => e = .returned (.tuple #[.string ⟨(showS (xs.map toStp)).1.toArray⟩, .int .i64 (showS (xs.map toStp)).2]) ∧ Below w.heap.size w w' := by
  have HT := Aside0.mk hT
  have HB0 := Aside0.mk hb
  have HC := Aside0.mk hC
  obtain ⟨N, hN⟩ : ∃ N, xs.length = N := ⟨_, rfl⟩
  have hm : (N : Int) ≤ 40 := by omega
  obtain ⟨R, hR⟩ : ∃ R, showS (xs.map toStp) = R := ⟨_, rfl⟩
  rw [hR]
  rw [hN] at hlen HC ⊢
  have HN := Aside0.mk hN
  have HR := Aside0.mk hR
  clear hT hb hC hN hR
  go_enter Tryz.func17, Tryz.ntmps17
  go_wp2_with fail
  obtain ⟨b, hb⟩ : ∃ b, w.heap.size = b := ⟨_, rfl⟩
  have HBLD : Aside0 (Bld b b [] (w.alloc (.cells #[.pointer none, .slice none 0 0] 83))) := ⟨by
    rw [← hb]
    exact .inl ⟨Nat.le_refl _, _, blk_new w (.cells #[.pointer none, .slice none 0 0] 83 (0, 0)), ⟨rfl, .inl ⟨rfl, rfl⟩⟩, by simp [Value.ownBlock]⟩⟩
  have HB : Aside0 (Below b w (w.alloc (.cells #[.pointer none, .slice none 0 0] 83))) := ⟨by rw [← hb]; exact below_alloc (Below.refl _ _) _⟩
  have HBW : Aside0 (w.heap.size = b) := ⟨hb⟩
  rw [hb]
  clear hb
  go_loopg [11] (N + 1) (fun gf v11 wr => ∃ (k : Nat), v11 = .int .i64 k ∧ k ≤ N ∧ Aside0 (((xs.map toStp).take k).all rightB = true) ∧ Aside0 (Bld b b (showT ((xs.map toStp).take k)) wr) ∧ Aside0 (Below b w wr) ∧ N < k + gf)
  case atStart => exact ⟨0, rfl, by omega, ⟨rfl⟩, HBLD, HB, by omega⟩
  case round =>
    obtain ⟨k, rfl, hk, HA, HBLD, HB, hgf⟩ := hrel
    obtain ⟨n, rfl⟩ : ∃ n, gk = n + 1 := ⟨gk - 1, by omega⟩
    have HS : Aside0 (b ≤ wr.heap.size) := ⟨by have := HB.out.size; have := HBW.out; omega⟩
    have HBB : Aside0 (Below w.heap.size w wr) := ⟨HBW.out.symm ▸ HB.out⟩
    by_cases hlt : k < N
    · obtain ⟨ad, A6, c6, rfl, g0, g1, g2, g3, g4, g5, g6, hl6, hC6⟩ := atS (Kd.C_below HC.out HBB.out) (k : Int) (by omega) (by omega)
      rw [Int.toNat_natCast] at g0 g1 g2 g3 g4 g5 g6
      obtain ⟨x, hx⟩ : ∃ x, rdS xs (k : Int) = x := ⟨_, rfl⟩
      rw [hx] at g0 g1 g2 g3 g4 g5 g6 hl6 hC6
      have hk2 : k < xs.length := by rw [HN.out]; exact hlt
      have hx2 : xs[k] = x := by
        rw [← hx]
        unfold rdS
        rw [Int.toNat_natCast, List.getD_eq_getElem?_getD, List.getElem?_eq_getElem hk2]
        rfl
      have htk : (xs.map toStp).take (k + 1) = (xs.map toStp).take k ++ [toStp x] := by
        rw [List.take_succ_eq_append_getElem (by simpa using hk2), List.getElem_map, hx2]
      have HTK := Aside0.mk htk
      have HC6 := Aside0.mk hC6
      have HL6 := Aside0.mk hl6
      have hm2 : toStp x ∈ xs.map toStp := by rw [← hx2]; exact List.mem_map_of_mem (List.getElem_mem hk2)
      have HM2 := Aside0.mk hm2
      have HLN := fun W hW h6 => linex_calls x A6 c6 w0 W HT.out hW h6
      have hlx := showT_len ((xs.map toStp).take k) HA.out
      have hl1 : ((xs.map toStp).take k).length ≤ 40 := by rw [List.length_take]; omega
      have HLX : Aside0 ((showT ((xs.map toStp).take k)).length ≤ 40 * 3100001) := ⟨Nat.le_trans hlx (Nat.mul_le_mul_right _ hl1)⟩
      clear hx htk hC6 hl6 hk2 hx2 hm2 hlx hl1
      cases hrx : rightB (toStp x) with
      | false =>
        have e1 : lineS (toStp x) = [] := by unfold lineS; rw [hrx]; rfl
        have e2 : lineK (toStp x) = 1 := by unfold lineK; rw [hrx]; rfl
        rw [e1, e2] at HLN
        have HRX := Aside0.mk hrx
        clear hrx e1 e2
        have hfail : (showS (xs.map toStp)) = ([], 1) := by
          unfold showS
          rw [if_neg]
          intro h
          have := List.all_eq_true.1 h _ HM2.out
          rw [HRX.out] at this
          exact absurd this (by decide)
        have HRF : Aside0 (R = ([], 1)) := ⟨HR.out.symm.trans hfail⟩
        clear hfail
        go_wp2_with (go_at_call 8; (with_reducible refine (HLN _ (below_alloc (HB0.out.trans (HBB.out.mono HB0.out.size)) _) (Kd.C_below HC6.out (below_alloc (Below.refl _ _) _))).mono ?_); rintro e w1 ⟨rfl, h1⟩; have H1 : Aside0 (Below wr.heap.size wr w1) := ⟨(below_alloc (Below.refl _ _) _).trans (h1.mono (by simp))⟩; clear h1)
        rw [HRF.out]
        go_ret2
        exact ⟨rfl, HBB.out.trans (H1.out.mono HBB.out.size)⟩
      | true =>
        have e1 : lineS (toStp x) = line (toStp x) := by unfold lineS; rw [hrx]; rfl
        have e2 : lineK (toStp x) = 0 := by unfold lineK; rw [hrx]; rfl
        have hll := line_len hrx
        rw [e1, e2] at HLN
        obtain ⟨tB, htB⟩ : ∃ tB : ByteArray, (⟨(line (toStp x)).toArray⟩ : ByteArray) = tB := ⟨_, rfl⟩
        have htd : tB.data.toList = line (toStp x) := by rw [← htB]
        have hts : tB.size ≤ 3100000 := by rw [ba_size, htd]; omega
        have hadd : (9223372036854775807 < tB.size + 1) = False := by simp; omega
        rw [htB] at HLN
        have HLEN : Aside0 ((showT ((xs.map toStp).take k)).length + (tB ++ (⟨#[10]⟩ : ByteArray)).size ≤ 1000000000) := ⟨by
          have h1 : (tB ++ (⟨#[10]⟩ : ByteArray)).size = tB.size + 1 := by rw [ByteArray.size_append]; rfl
          have h2 := HLX.out
          have h3 : 40 * 3100001 = 124000040 := by decide
          rw [h1]
          omega⟩
        have HAPP : Aside0 ((tB ++ (⟨#[10]⟩ : ByteArray)).data.toList = line (toStp x) ++ [10]) := ⟨by rw [← htd]; simp⟩
        have HTD := Aside0.mk htd
        have HTS := Aside0.mk hts
        have HRX := Aside0.mk hrx
        clear hrx e1 e2 hll htB htd hts
        go_wp2_with (first
          | (go_at_call 8; (with_reducible refine (HLN _ (below_alloc (HB0.out.trans (HBB.out.mono HB0.out.size)) _) (Kd.C_below HC6.out (below_alloc (Below.refl _ _) _))).mono ?_); rintro e w1 ⟨rfl, h1⟩; have H1 : Aside0 (Below wr.heap.size wr w1) := ⟨(below_alloc (Below.refl _ _) _).trans (h1.mono (by simp))⟩; clear h1)
          | (go_at_call 41; (with_reducible refine (wstr_calls b b _ _ w1 (bld_below HBLD.out H1.out) HLEN.out (Nat.le_trans HS.out H1.out.size)).mono ?_); rintro e w2 ⟨rfl, h2, h3⟩; have H2 := Aside0.mk h2; have H3 := Aside0.mk h3; clear h2 h3))
        go_roundg n
        case measure => omega
        case rel => exact ⟨k + 1, by go_num, by omega, ⟨by rw [HTK.out, List.all_append, HA.out, List.all_cons, HRX.out]; rfl⟩, ⟨by rw [HTK.out, showT_snoc, ← HAPP.out]; exact H2.out⟩, ⟨HB.out.trans ((H1.out.mono HS.out).trans H3.out)⟩, by omega⟩
    · have hk2 : k = N := by omega
      have hu : (xs.map toStp).take k = xs.map toStp := by rw [List.take_of_length_le]; rw [List.length_map, HN.out]; omega
      have hs := bstr_calls b b (showT ((xs.map toStp).take k)) wr HBLD.out HS.out
      have hR2 : showS (xs.map toStp) = (showT (xs.map toStp), 0) := by
        unfold showS
        rw [if_pos (by rw [← hu]; exact HA.out)]
      rw [HR.out] at hR2
      rw [hu] at hs
      have HR2 := Aside0.mk hR2
      clear hu hR2
      go_wp2_with (go_at_call 42; (with_reducible refine hs.mono ?_); rintro e w9 ⟨rfl, h2⟩; have H2 := Aside0.mk h2; clear h2)
      rw [HR2.out]
      go_ret2
      exact ⟨rfl, by rw [HBW.out]; exact HB.out.trans H2.out⟩
end Go.Proofs.YtoajcijjkkkaaaaGreatDoor.K

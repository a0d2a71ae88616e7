/- relay: Put. -/
import Derived.Test.YtlcifnejpejhmaaRelD
namespace Go.Proofs.Ytlcifnejpejhmaa.K
open Go.RowKit Go.Proofs.YtlcifnejpejhmaaW.PrintWords Go.Proofs.YtlcifnejpejhmaaW.PrintLast Go.Proofs.YtlcifnejpejhmaaW.PrintMore
set_option linter.unusedVariables false
set_option linter.unusedSimpArgs false

/-- Put to all but the i-th that stand ahead of j. -/
def putTo (j i : Nat) (x : It) (qs : List (List It)) : List (List It) := qs.mapIdx (fun m q => if m < j ∧ m ≠ i then q ++ [x] else q)
theorem putTo_len (j i : Nat) (x : It) (qs : List (List It)) : (putTo j i x qs).length = qs.length := by simp [putTo]
theorem putTo_get (j i : Nat) (x : It) (qs : List (List It)) (m : Nat) (h : m < (putTo j i x qs).length) (h' : m < qs.length) : (putTo j i x qs)[m] = if m < j ∧ m ≠ i then qs[m] ++ [x] else qs[m] := by simp [putTo]
theorem putTo_zero (i : Nat) (x : It) (qs : List (List It)) : putTo 0 i x qs = qs := by
  apply List.ext_getElem (putTo_len _ _ _ _)
  intro m h1 h2
  rw [putTo_get _ _ _ _ _ h1 h2, if_neg (by omega)]
theorem putTo_self (i : Nat) (x : It) (qs : List (List It)) : putTo (i + 1) i x qs = putTo i i x qs := by
  apply List.ext_getElem (by rw [putTo_len, putTo_len])
  intro m h1 h2
  have h3 : m < qs.length := by rwa [putTo_len] at h1
  rw [putTo_get _ _ _ _ _ h1 h3, putTo_get _ _ _ _ _ h2 h3]
  congr 1
  apply propext
  omega
theorem putTo_step {j i : Nat} {x : It} {qs : List (List It)} (hj : j < (putTo j i x qs).length) (hji : j ≠ i) : (putTo j i x qs).set j ((putTo j i x qs)[j] ++ [x]) = putTo (j + 1) i x qs := by
  apply List.ext_getElem (by rw [List.length_set, putTo_len, putTo_len])
  intro m h1 h2
  have h3 : m < qs.length := by rwa [putTo_len] at h2
  rw [putTo_get _ _ _ _ _ h2 h3]
  by_cases hm : m = j
  · subst hm
    rw [List.getElem_set_self, putTo_get _ _ _ _ _ hj h3, if_neg (by omega), if_pos ⟨by omega, hji⟩]
  · rw [List.getElem_set_ne (Ne.symm hm), putTo_get _ _ _ _ _ (by rw [putTo_len]; exact h3) h3]
    congr 1
    apply propext
    omega

theorem Rel.recol' {W : World} {b0 g gq : Nat} {col : Nat → Nat} {vw : List It} {qs : List (List It)} (h : Rel W b0 g gq col vw qs) (c : Nat) : ∃ col', (∀ k, W.heap.size ≤ k → col' k = c) ∧ Rel W b0 g gq col' vw qs :=
  ⟨_, fun k hk => if_neg (by omega), h.recol c⟩
theorem Rel.drewN {W : World} {b0 g gq : Nat} {col : Nat → Nat} {vw : List It} {qs : List (List It)} (h : Rel W b0 g gq col vw qs) (m : Nat) : Rel (W.drewN m) b0 g gq col vw qs := h.below (pw_below_drewN (Below.refl _ _) m)

set_option maxRecDepth 100000 in
set_option maxHeartbeats 8000000 in
theorem rput_ok (g gq i : Nat) (col : Nat → Nat) (vw : List It) (qs : List (List It)) (vb : Value) (l : List Int) (w0 w : World) (hR : Rel w w0.heap.size g gq col vw qs) (hi : i < qs.length) (hn : qs.length ≤ 8)
    (hb : ∀ W, Below w0.heap.size w0 W → FrB w W → Rd W vb l) (hl : l.length ≤ 4000) (hv : vw.length < 5000) (hq : ∀ q ∈ qs, q.length ≤ 5000) (hB : Below w0.heap.size w0 w) :
    Calls Try.prog 23 #[.pointer (some ⟨g, 0, none⟩), .int .i64 i, vb] w fun e w' => e = .returned (.int .i64 0) ∧
      (∃ col', Rel w' w0.heap.size g gq col' (vw ++ [⟨l, false⟩]) (putTo qs.length i ⟨l, false⟩ qs)) ∧ Below w0.heap.size w0 w' ∧ FrB w w' := by
  obtain ⟨col, hcol, hR⟩ := hR.recol' 0
  have HCol := Aside0.mk hcol
  have HR := Aside0.mk hR
  obtain ⟨⟨vv, h1, h2⟩, hqb, hge⟩ := hR
  obtain ⟨Av, cv, rfl, hcv, hCv⟩ := Kd.R_reads h2
  obtain ⟨A2, c2, rfl, hc2, hC2⟩ := hb w hB (fun _ _ _ h => h)
  have Hb := Aside0.mk hb
  have HB := Aside0.mk hB
  have HQ := Aside0.mk hq
  have H1 := Aside0.mk h1
  have H2 := Aside0.mk h2
  have HL := Aside0.mk hl
  have HV := Aside0.mk hv
  obtain ⟨n, hnn⟩ : ∃ n, qs.length = n := ⟨_, rfl⟩
  obtain ⟨nv, hnv⟩ : ∃ n, vw.length = n := ⟨_, rfl⟩
  have HNN := Aside0.mk hnn
  have HNV := Aside0.mk hnv
  rw [hnn] at hi hn H1 ⊢
  rw [hnv] at hv H1 hcv H2
  have k1 : w.cell? ⟨g, 1, none⟩ = some (.slice Av nv cv) := (blk_cell H1.out 1).trans rfl
  have hi1 : (i : Int) < n := by omega
  have hl1 : decide ((4000 : Int) < l.length) = false := decide_eq_false (by omega)
  have hv1 : decide ((5000 : Int) ≤ nv) = false := decide_eq_false (by omega)
  have HF := Aside0.mk (show FrB w w from fun _ _ _ h => h)
  clear hb hB hq h1 h2 hqb hge hl hCv hC2 hnn hnv hcol
  go_enter Try.func23, Try.ntmps23
  go_wp2_with (first
    | ((with_reducible refine gate_dst (N := 14) rfl ?_); go_must (((try (refine gate_guard (by rfl) ?_; dsimp only)); refine goesL_ (some 14) rfl rfl Try.func58 (by kernel_rfl) rfl #[.pointer (some ⟨g, 0, none⟩), .int .i64 i] rfl ?hA ?_; (case hA => ((try simp only [List.map_toArray, List.map_cons, List.map_nil]); first | done | rfl)); refine (of_in g gq n i _ _ H1.out hi).mono ?_; rintro e w14 ⟨rfl, ⟨m14, rfl⟩⟩; refine ⟨_, rfl, ?_⟩; skip)))
    | (go_at_call 59; go_must ((refine (qput_calls g 1 99 0 col _ _ (.slice A2 l.length c2) l vw w0 (w.drewN m14) (by exact H1.out) rfl (by decide) (by exact Kd.R_drewN H2.out m14) (Hb.out (w.drewN m14) (pw_below_drewN HB.out m14) (fun _ _ _ h => h)) (fun k hk => HCol.out k hk) (pw_below_drewN HB.out m14) HR.out.ge.1 (by have := HV.out; omega) (by have := HL.out; omega)).mono ?_; rintro e w33 ⟨rfl, ⟨v33, hb33, hr33⟩, hB33, hF33⟩; have hR33 := (HR.out.drewN m14).turnV (by exact H1.out) hb33 hr33 hF33; have k33 : w33.cell? ⟨g, 0, none⟩ = some (.slice (some ⟨gq, 0, none⟩) n n) := (blk_cell hb33 0).trans rfl; have HR33 := Aside0.mk hR33; have HF33 : Aside0 (FrB w w33) := ⟨hF33.bytes (by exact H1.out) (by decide)⟩; have HB33 := Aside0.mk hB33; clear hb33 hr33 hB33 hF33 hR33))))
  clear HF HB
  have HF := HF33
  have HB := HB33
  go_loopg [39] n (fun g39 v39 wr => ∃ (j : Nat) (col : Nat → Nat), g39 = n - j ∧ v39 = .int .i64 j ∧ j ≤ n ∧ Aside0 (Rel wr w0.heap.size g gq col (vw ++ [⟨l, false⟩]) (putTo j i ⟨l, false⟩ qs)) ∧ Aside0 (Below w0.heap.size w0 wr) ∧ Aside0 (FrB w wr))
  case atStart => exact ⟨0, col, by simp, rfl, Nat.zero_le _, ⟨by rw [putTo_zero]; exact HR33.out⟩, HB33, HF33⟩
  case round =>
    clear HF HB HF33 HB33 HR33 k33
    obtain ⟨j, colj, rfl, rfl, hj, HRj, HB, HF⟩ := hrel
    obtain ⟨v1, g1, _⟩ := HRj.out.blk
    rw [putTo_len, HNN.out] at g1
    have k0 : wr.cell? ⟨g, 0, none⟩ = some (.slice (some ⟨gq, 0, none⟩) n n) := (blk_cell g1 0).trans rfl
    clear g1
    by_cases hjn : j < n
    · have hjn2 : (j : Int) < n := by omega
      have hj0 : (0 : Int) ≤ j := by omega
      by_cases hji : j = i
      · subst hji
        go_wp2
        go_roundg (n - (j + 1))
        case measure => omega
        case rel => exact ⟨j + 1, colj, rfl, by go_num, by omega, ⟨by rw [putTo_self]; exact HRj.out⟩, HB, HF⟩
      · have hne : ((j : Int) == i) = false := by simp; omega
        have hne2 : ¬ (j : Int) = i := by omega
        obtain ⟨col', hcol', hR'⟩ := HRj.out.recol' (j + 1)
        have hjl : j < (putTo j i ⟨l, false⟩ qs).length := by rw [putTo_len, HNN.out]; exact hjn
        obtain ⟨cs, h3, h4, h5⟩ := hR'.qb
        obtain ⟨v, e, r⟩ := h5 j hjl
        have hlen : (putTo j i ⟨l, false⟩ qs)[j].length ≤ 100000 := by
          have h7 : j < qs.length := by rw [HNN.out]; exact hjn
          rw [putTo_get _ _ _ _ _ hjl h7, if_neg (by omega)]
          have := HQ.out _ (List.getElem_mem h7)
          omega
        have HRR := Aside0.mk hR'
        have HCj := Aside0.mk hcol'
        have H3 := Aside0.mk h3
        have HE := Aside0.mk e
        have Hr := Aside0.mk r
        have HLen := Aside0.mk hlen
        have HJL := Aside0.mk hjl
        clear hcol' hR' h3 h4 h5 e r hlen
        go_wp2_with (first
          | (go_at_call 59; go_must ((refine (qput_calls gq j 97 (j + 1) col' cs v (.slice A2 l.length c2) l _ w0 wr H3.out HE.out (by decide) Hr.out (Hb.out wr HB.out HF.out) HCj.out HB.out HRR.out.ge.2 HLen.out (by have := HL.out; omega)).mono ?_; rintro e w52 ⟨rfl, ⟨v52, hb52, hr52⟩, hB52, hF52⟩; have HR52 := Aside0.mk (HRR.out.turnQ HJL.out H3.out hb52 hr52 hF52); have HF52 : Aside0 (FrB w w52) := ⟨HF.out.trans (hF52.bytes H3.out (by decide))⟩; have HB52 := Aside0.mk hB52; clear hb52 hr52 hB52 hF52))))
        go_roundg (n - (j + 1))
        case measure => omega
        case rel => exact ⟨j + 1, col', rfl, by go_num, by omega, ⟨by have := HR52.out; rw [putTo_step hjl hji] at this; exact this⟩, HB52, HF52⟩
    · obtain rfl : j = n := by omega
      go_wp2
      go_ret
      exact ⟨rfl, ⟨colj, HRj.out⟩, HB.out, HF.out⟩
end Go.Proofs.Ytlcifnejpejhmaa.K

/- cachetteref04.Max, Same, Compare, Less at what the stamps tell. -/
import Derived.Test.YtfingknhciogkaaSsI
namespace Go.Proofs.Ytfingknhciogkaa.K
open Go.RowKit Go.Shelf Go.Proofs.YtfingknhciogkaaW.PrintWords Go.Proofs.YtfingknhciogkaaW.PrintLast Go.Proofs.YtfingknhciogkaaW.PrintMore
set_option linter.unusedVariables false
set_option linter.unusedSimpArgs false

theorem fcompare_calls (a b c d : Int) (w : World) :
    Calls Try.prog 11 #[.agg #[.int .i64 a, .int .i64 b], .agg #[.int .i64 c, .int .i64 d]] w fun e w' => e = .returned (.int .i64 (cmpS a b c d)) ∧ Below w.heap.size w w' :=
  X.cachetteref04_Compare.calls a b c d _ w (by
    unfold X.cachetteref04_Compare.f X.cachetteref04_Less.f cmpS
    by_cases h1 : a < c
    · simp [h1]
    · by_cases h2 : c < a
      · have h3 : ¬ a = c := by omega
        simp [h1, h2, h3]
      · have h3 : a = c := by omega
        subst h3
        by_cases h4 : b < d
        · simp [h4]
        · by_cases h5 : d < b
          · simp [h4, h5]
          · simp [h4, h5])
theorem fless2_calls (a b c d : Int) (w : World) :
    Calls Try.prog 9 #[.agg #[.int .i64 a, .int .i64 b], .agg #[.int .i64 c, .int .i64 d]] w fun e w' => e = .returned (.bool (lessS a b c d)) ∧ Below w.heap.size w w' :=
  X.cachetteref04_Less.calls a b c d _ w (by
    unfold X.cachetteref04_Less.f lessS cmpS
    by_cases h1 : a < c
    · simp [h1]
    · by_cases h2 : c < a
      · have h3 : ¬ a = c := by omega
        simp [h1, h2, h3]
      · have h3 : a = c := by omega
        subst h3
        by_cases h4 : b < d
        · simp [h4]
        · by_cases h5 : d < b
          · simp [h4, h5]
          · simp [h4, h5])
theorem lessS_lt (x y : St) : lessS x.f0 x.f1 y.f0 y.f1 = true ↔ Lt x y := by
  unfold lessS cmpS Lt
  (repeat' split) <;> simp <;> omega
theorem stsame_l0 (x : List St) (hx : x.length ≤ 1000000) : ∀ (d k : Nat) (i : Int), 0 ≤ i → i ≤ x.length → (x.length : Int) - i ≤ d → d < k → X.cachetteref04_Same.l0 k x x i = some true := by
  intro d
  induction d with
  | zero =>
    intro k i h0 h1 h2 hk
    obtain ⟨k, rfl⟩ : ∃ j, k = j + 1 := ⟨k - 1, by omega⟩
    unfold X.cachetteref04_Same.l0
    rw [if_neg (by omega)]
  | succ d ih =>
    intro k i h0 h1 h2 hk
    obtain ⟨k, rfl⟩ : ∃ j, k = j + 1 := ⟨k - 1, by omega⟩
    unfold X.cachetteref04_Same.l0
    by_cases hi : i < x.length
    · rw [if_pos hi, if_pos h0, if_pos hi, if_neg (by simp)]
      have hw : wrap64 (i + 1) = i + 1 := by
        unfold wrap64
        omega
      rw [hw]
      exact ih k (i + 1) (by omega) (by omega) (by omega) (by omega)
    · rw [if_neg hi]
theorem stsame_calls (v v' : Value) (l : List St) (hl : l.length ≤ 1000000) (w : World) (h : SRd w v l) (h' : SRd w v' l) :
    Calls Try.prog 14 #[v, v'] w fun e w' => e = .returned (.bool true) ∧ Below w.heap.size w w' := by
  obtain ⟨A, c, rfl, hc, hC⟩ := h
  obtain ⟨A', c', rfl, hc', hC'⟩ := h'
  refine (X.cachetteref04_Same.calls (l.length + 1) A c l A' c' l true w hC hc hC' hc' ?_).mono fun e w' ⟨he, hd⟩ => ⟨he, ?_⟩
  · unfold X.cachetteref04_Same.f
    rw [if_pos rfl]
    exact stsame_l0 l hl l.length _ 0 (by omega) (by omega) (by omega) (by omega)
  · obtain ⟨k, rfl⟩ := hd
    exact pw_below_drewN (Below.refl _ _) k

theorem fsort_nil (v : Value) (w : World) (hv : SRd w v []) :
    Calls Try.prog 16 #[v] w fun e w' => ∃ A c, e = .returned (.slice A 0 c) ∧ Below w.heap.size w w' := by
  refine (fsort_calls v [] (by simp) w hv).mono ?_
  rintro e w' ⟨v', out, rfl, _, hm, _, ⟨A, c, rfl, _, _⟩, hb⟩
  have : out = [] := List.eq_nil_iff_forall_not_mem.2 (fun a ha => by simpa using (hm a).1 ha)
  subst this
  exact ⟨A, c, rfl, hb⟩
theorem fsort_last (v : Value) (zs : List St) (hlen : zs.length ≤ 100000) (hne : 0 < zs.length) (w : World) (hv : SRd w v zs) :
    Calls Try.prog 16 #[v] w fun e w' => ∃ ad p k c z, e = .returned (.slice (some ad) k c) ∧ k = p + 1 ∧ k ≤ c ∧ k ≤ 100000 ∧ w'.cell? (ad.add (p * 2)) = some (.int .i64 z.f0) ∧ w'.cell? ⟨(ad.add (p * 2)).block, (ad.add (p * 2)).off + 1, none⟩ = some (.int .i64 z.f1) ∧ maxL zs = z ∧ Below w.heap.size w w' := by
  refine (fsort_calls v zs hlen w hv).mono ?_
  rintro e w' ⟨v', out, rfl, hs, hm, hle, ⟨A, c, rfl, hc, hC⟩, hb⟩
  have h0 : 0 < out.length := by
    rcases Nat.eq_zero_or_pos out.length with h | h
    · have he := List.eq_nil_of_length_eq_zero h
      subst he
      exact absurd ((hm _).2 (List.getElem_mem hne)) (by simp)
    · exact h
  obtain ⟨ad, rfl, d0, d1⟩ := X.at_T23 hC ((out.length - 1 : Nat) : Int) (by omega) (by omega)
  rw [Int.toNat_natCast] at d0 d1
  obtain ⟨z, hz⟩ : ∃ z, z = X.rd_T23 out ((out.length - 1 : Nat) : Int) := ⟨_, rfl⟩
  rw [← hz] at d0 d1
  refine ⟨ad, out.length - 1, out.length, c, z, rfl, by omega, hc, by omega, d0, d1, max_last hs hm ?_, hb⟩
  rw [hz]
  unfold X.rd_T23
  rw [Int.toNat_natCast, List.getD_eq_getElem?_getD, List.getLast?_eq_getElem?, List.getElem?_eq_getElem (by omega)]
  rfl

set_option maxRecDepth 100000 in
set_option maxHeartbeats 4000000 in
theorem fmax_calls (v : Value) (xs : List St) (hlen : xs.length ≤ 100000) (w : World) (hr : SRd w v xs) :
    Calls Try.prog 13 #[v] w fun e w' => e = .returned (stV (maxL xs)) ∧ Below w.heap.size w w' := by
  have HR := Aside0.mk hr
  obtain ⟨A, c, rfl, hc, hC⟩ := hr
  have HB := Aside0.mk (Below.refl w.heap.size w)
  have hb0 := heap_alloc_new w (.cells #[.int .i64 0, .int .i64 0] 23)
  have HA := Aside0.mk hb0
  clear hC hc hb0
  rcases Nat.eq_zero_or_pos xs.length with h0 | h0
  · have he := List.eq_nil_of_length_eq_zero h0
    subst he
    clear h0 hlen
    go_enter Try.func13, Try.ntmps13
    go_wp2_with (first
      | ((with_reducible refine gate_dst (N := 5) rfl ?_); go_must (((try (refine gate_guard (by rfl) ?_; dsimp only)); refine goesL_ (some 5) rfl rfl Try.func16 (by kernel_rfl) rfl #[.slice A 0 c] rfl ?hA ?_; (case hA => ((try simp only [List.map_toArray, List.map_cons, List.map_nil]); first | done | rfl)); refine (fsort_nil _ _ (HR.out.below (by repeat (first | (with_reducible first | exact HB.out | apply below_alloc | apply pw_below_drewN | apply below_drew1) | exact HB.out)))).mono ?_; rintro e w5 ⟨A5, c5, rfl, hb⟩; refine ⟨_, rfl, ?_⟩; replace HA := Aside0.mk ((hb.block _ (blk_lt HA.out)).trans HA.out); have s0 : w5.cell? ⟨w.heap.size, 0, none⟩ = some (.int .i64 0) := (blk_cell HA.out 0).trans rfl; have s1 : w5.cell? ⟨w.heap.size, 1, none⟩ = some (.int .i64 0) := (blk_cell HA.out 1).trans rfl; have r0 : w5.frozen? ⟨w.heap.size, 0, none⟩ = false := blk_frozen HA.out 0; have r1 : w5.frozen? ⟨w.heap.size, 1, none⟩ = false := blk_frozen HA.out 1; replace HB := Aside0.mk (below_step (by repeat (first | (with_reducible first | exact HB.out | apply below_alloc | apply pw_below_drewN | apply below_drew1) | exact HB.out)) hb); clear hb))))
    have HR2 : ((w5.setCell ⟨w.heap.size, 0, none⟩ (.int .i64 0)).setCell ⟨w.heap.size, 1, none⟩ (.int .i64 0)).heap[w.heap.size]? = some (.cells #[.int .i64 0, .int .i64 0] 23 (0, 0)) := by
      simpa using blk_set (blk_set HA.out 0 (.int .i64 0)) 1 (.int .i64 0)
    have q0 := (blk_cell HR2 0).trans rfl
    have q1 := (blk_cell HR2 1).trans rfl
    exact bodyPost_ret (v := stV (maxL [])) (by simp [results, Try.results13, go_sem, q0, q1, maxL]) rfl ⟨rfl, (HB.out.setCell (p := ⟨w.heap.size, 0, none⟩) (Nat.le_refl _) _).setCell (p := ⟨w.heap.size, 1, none⟩) (Nat.le_refl _) _⟩
  · obtain ⟨n, hn⟩ : ∃ n, xs.length = n := ⟨_, rfl⟩
    have HRR : Aside0 (SRd w (.slice A n c) xs) := ⟨by rw [← hn]; exact HR.out⟩
    have H0 := Aside0.mk h0
    have HL := Aside0.mk hlen
    rw [hn]
    clear hn h0 hlen HR
    go_enter Try.func13, Try.ntmps13
    go_wp2_with (first
      | ((with_reducible refine gate_dst (N := 5) rfl ?_); go_must (((try (refine gate_guard (by rfl) ?_; dsimp only)); refine goesL_ (some 5) rfl rfl Try.func16 (by kernel_rfl) rfl #[.slice A n c] rfl ?hA ?_; (case hA => ((try simp only [List.map_toArray, List.map_cons, List.map_nil]); first | done | rfl)); refine (fsort_last _ xs HL.out H0.out _ (HRR.out.below (by repeat (first | (with_reducible first | exact HB.out | apply below_alloc | apply pw_below_drewN | apply below_drew1) | exact HB.out)))).mono ?_; rintro e w5 ⟨ad, p, k, c5, z, rfl, hkp, hkc, hkl, d0, d1, hz, hb⟩; refine ⟨_, rfl, ?_⟩; have HZ := Aside0.mk hz; have hwr : IntKind.i64.wrap ((k : Int) - 1) = (p : Int) := (by simp only [i64_w]; unfold wrap64; omega); have hk0 : ¬ (k : Int) = 0 := (by omega); have hp0 : (0 : Int) ≤ p := (by omega); have hpk : (p : Int) < k := (by omega); clear hkp hkl hz; replace HA := Aside0.mk ((hb.block _ (blk_lt HA.out)).trans HA.out); have s0 : w5.cell? ⟨w.heap.size, 0, none⟩ = some (.int .i64 0) := (blk_cell HA.out 0).trans rfl; have s1 : w5.cell? ⟨w.heap.size, 1, none⟩ = some (.int .i64 0) := (blk_cell HA.out 1).trans rfl; have r0 : w5.frozen? ⟨w.heap.size, 0, none⟩ = false := blk_frozen HA.out 0; have r1 : w5.frozen? ⟨w.heap.size, 1, none⟩ = false := blk_frozen HA.out 1; replace HB := Aside0.mk (below_step (by repeat (first | (with_reducible first | exact HB.out | apply below_alloc | apply pw_below_drewN | apply below_drew1) | exact HB.out)) hb); clear hb))))
    have HR2 : ((w5.setCell ⟨w.heap.size, 0, none⟩ (.int .i64 z.f0)).setCell ⟨w.heap.size, 1, none⟩ (.int .i64 z.f1)).heap[w.heap.size]? = some (.cells #[.int .i64 z.f0, .int .i64 z.f1] 23 (0, 0)) := by
      simpa using blk_set (blk_set HA.out 0 (.int .i64 z.f0)) 1 (.int .i64 z.f1)
    have q0 := (blk_cell HR2 0).trans rfl
    have q1 := (blk_cell HR2 1).trans rfl
    exact bodyPost_ret (v := stV z) (by simp [results, Try.results13, go_sem, q0, q1]) rfl ⟨by rw [HZ.out], (HB.out.setCell (p := ⟨w.heap.size, 0, none⟩) (Nat.le_refl _) _).setCell (p := ⟨w.heap.size, 1, none⟩) (Nat.le_refl _) _⟩
end Go.Proofs.Ytfingknhciogkaa.K

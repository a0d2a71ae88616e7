/- stamp.Max (slices.MaxFunc at stamp.Compare), and cachettelaw04.StampTotal: the walks. -/
import Derived.Test.YtfingknhciogkaaStamp
namespace Go.Proofs.Ytfingknhciogkaa.K
open Go.RowKit Go.Proofs.YtfingknhciogkaaW.PrintWords Go.Proofs.YtfingknhciogkaaW.PrintLast Go.Proofs.YtfingknhciogkaaW.PrintMore
set_option linter.unusedVariables false
set_option linter.unusedSimpArgs false

abbrev St := X.S23
/-- A slice that reads as stamps. -/
def SRd (W : World) (v : Value) (l : List St) : Prop := ∃ A c, v = .slice A l.length c ∧ l.length ≤ c ∧ Kd.C X.k23 W A l.length l
theorem SRd.below {W W1 : World} {v : Value} {l : List St} (h : SRd W v l) (hb : Below W.heap.size W W1) : SRd W1 v l := by
  obtain ⟨A, c, rfl, hc, hC⟩ := h
  exact ⟨A, c, rfl, hc, Kd.C_below hC hb⟩
def cmpT (x y : St) : Int := cmpS x.f0 x.f1 y.f0 y.f1
/-- The greatest; of equals the first. -/
def maxS : St → List St → St
  | m, [] => m
  | m, x :: r => maxS (if 0 < cmpT x m then x else m) r
abbrev stV (x : St) : Value := .agg #[.int .i64 x.f0, .int .i64 x.f1]

set_option maxRecDepth 100000 in
set_option maxHeartbeats 4000000 in
theorem maxfunc_calls (v : Value) (m0 : St) (xs : List St) (w : World) (hr : SRd w v (m0 :: xs)) :
    Calls Try.prog 27 #[v, .func (.func 10) #[] #[]] w fun e w' => e = .returned (stV (maxS m0 xs)) ∧ Below w.heap.size w w' := by
  obtain ⟨A, c, rfl, hc, hC⟩ := hr
  have HC := Aside0.mk hC
  have HB := Aside0.mk (Below.refl w.heap.size w)
  clear hC
  obtain ⟨ad, rfl, hx0, hx1⟩ := X.at_T23 HC.out 0 (by omega) (by simp)
  have e0 : ad.add (Int.toNat 0 * 2) = ad := by simp [Addr.add]
  rw [e0] at hx0 hx1
  have hm0 : X.rd_T23 (m0 :: xs) 0 = m0 := rfl
  rw [hm0] at hx0 hx1
  clear e0 hm0
  have hy0 := pw_cell_below (below_alloc (Below.refl w.heap.size w) (.cells #[.int .i64 0, .int .i64 0] 23)) hx0
  have hy1 := pw_cell_below (below_alloc (Below.refl w.heap.size w) (.cells #[.int .i64 0, .int .i64 0] 23)) hx1
  obtain ⟨n, hn⟩ : ∃ n, (m0 :: xs).length = n := ⟨_, rfl⟩
  have hn2 : 1 ≤ n := by rw [← hn]; simp
  rw [hn] at hc ⊢
  have HN := Aside0.mk hn
  have hmx : n ≤ 9223372036854775807 := by
    have := HC.out.2.1
    rw [hn] at this
    simpa [maxLen] using this
  clear hn
  go_enter Try.func27, Try.ntmps27
  go_wp2
  clear hx0 hx1 hy0 hy1
  go_loopw [6] (fun v6 wr => ∃ (i : Nat) (m : St), v6 = .int .i64 i ∧ 1 ≤ i ∧ i ≤ n ∧ Aside0 (maxS m ((m0 :: xs).drop i) = maxS m0 xs) ∧ Aside0 (wr.heap[w.heap.size + 1]? = some (.cells #[.int .i64 m.f0, .int .i64 m.f1] 23 (0, 0))) ∧ Aside0 (wr.heap[w.heap.size]? = some (.cells #[.int .i64 0, .int .i64 0] 23 (0, 0))) ∧ Aside0 (Below w.heap.size w wr)) (fun v6 _ => n - (intOf v6).toNat)
  case atStart =>
    refine ⟨1, m0, rfl, Nat.le_refl _, hn2, ⟨rfl⟩, ⟨?_⟩, ⟨?_⟩, ⟨?_⟩⟩
    · simpa using heap_alloc_new (w.alloc (.cells #[.int .i64 0, .int .i64 0] 23)) (.cells #[.int .i64 m0.f0, .int .i64 m0.f1] 23)
    · exact blk_alloc (heap_alloc_new w _) _
    · exact (by repeat (first | (with_reducible first | exact HB.out | apply below_alloc | apply pw_below_drewN | apply below_drew1) | exact HB.out))
  case round =>
    clear HB
    obtain ⟨i, m, rfl, hi1, hi, HM, HX, HR, HB⟩ := hrel
    have b0 : wr.cell? ⟨w.heap.size + 1, 0, none⟩ = some (.int .i64 m.f0) := (blk_cell HX.out 0).trans rfl
    have b1 : wr.cell? ⟨w.heap.size + 1, 1, none⟩ = some (.int .i64 m.f1) := (blk_cell HX.out 1).trans rfl
    have g0 : wr.frozen? ⟨w.heap.size + 1, 0, none⟩ = false := blk_frozen HX.out 0
    have g1 : wr.frozen? ⟨w.heap.size + 1, 1, none⟩ = false := blk_frozen HX.out 1
    by_cases hlt : i < n
    · have hlt2 : (i : Int) < n := by omega
      have hl0 : (0 : Int) ≤ i := by omega
      obtain ⟨ad', hae, hx0, hx1⟩ := X.at_T23 (Kd.C_below HC.out HB.out) i (by omega) (by rw [HN.out]; omega)
      obtain rfl : ad = ad' := by injection hae
      rw [Int.toNat_natCast] at hx0 hx1
      obtain ⟨x, hx⟩ : ∃ x, x = X.rd_T23 (m0 :: xs) i := ⟨_, rfl⟩
      rw [← hx] at hx0 hx1
      have HXX := Aside0.mk hx
      clear hx
      go_wp2
      go_region_held3 (fun w' => w'.cell? (ad.add (i * 2)) = some (.int .i64 x.f0) ∧ w'.cell? ⟨(ad.add (i * 2)).block, (ad.add (i * 2)).off + 1, none⟩ = some (.int .i64 x.f1) ∧ w'.cell? ⟨w.heap.size + 1, 0, none⟩ = some (.int .i64 m.f0) ∧ w'.cell? ⟨w.heap.size + 1, 1, none⟩ = some (.int .i64 m.f1))
        (first | exact ⟨hx0, hx1, b0, b1⟩ | exact ⟨pw_cell_below hb hx0, pw_cell_below hb hx1, pw_cell_below hb b0, pw_cell_below hb b1⟩)
        (first | (go_at_call 10; refine (compare_calls x.f0 x.f1 m.f0 m.f1 _).mono ?_; rintro e w26 ⟨rfl, hb⟩))
      obtain ⟨hx0', hx1', b0', b1'⟩ := ‹_ ∧ _ ∧ _ ∧ _›
      replace HX := Aside0.mk ((hb.block _ (blk_lt HX.out)).trans HX.out)
      replace HR := Aside0.mk ((hb.block _ (blk_lt HR.out)).trans HR.out)
      replace HB := Aside0.mk (below_step (below_drew1 HB.out) hb)
      clear hx0 hx1 b0 b1 g0 g1 hb
      have hd : (m0 :: xs).drop i = x :: (m0 :: xs).drop (i + 1) := by
        rw [List.drop_eq_getElem_cons (by rw [HN.out]; exact hlt), HXX.out]
        simp only [X.rd_T23, Int.toNat_natCast]
        rw [List.getD_eq_getElem?_getD, List.getElem?_eq_getElem (by rw [HN.out]; exact hlt)]
        rfl
      have HD := Aside0.mk hd
      clear hd
      by_cases hcm : 0 < cmpS x.f0 x.f1 m.f0 m.f1
      · have HM2 : Aside0 (maxS x ((m0 :: xs).drop (i + 1)) = maxS m0 xs) := ⟨by rw [← HM.out, HD.out, maxS, cmpT, if_pos hcm]⟩
        have g0 : w26.frozen? ⟨w.heap.size + 1, 0, none⟩ = false := blk_frozen HX.out 0
        have g1 : w26.frozen? ⟨w.heap.size + 1, 1, none⟩ = false := blk_frozen HX.out 1
        go_wp2
        go_roundw
        case rel =>
          refine ⟨i + 1, x, by go_num, by omega, by omega, HM2, ⟨?_⟩, ⟨?_⟩, ⟨?_⟩⟩
          · simpa using blk_set (blk_set HX.out 0 (.int .i64 x.f0)) 1 (.int .i64 x.f1)
          · rw [Below.heap_setCell _ _ _ _ (by simp), Below.heap_setCell _ _ _ _ (by simp)]
            exact HR.out
          · exact (HB.out.setCell (p := ⟨w.heap.size + 1, 0, none⟩) (by simp) _).setCell (p := ⟨w.heap.size + 1, 1, none⟩) (by simp) _
        case measure => simp [intOf]; omega
      · have HM2 : Aside0 (maxS m ((m0 :: xs).drop (i + 1)) = maxS m0 xs) := ⟨by rw [← HM.out, HD.out, maxS, cmpT, if_neg hcm]⟩
        go_wp2
        go_roundw
        case rel => exact ⟨i + 1, m, by go_num, by omega, by omega, HM2, HX, HR, HB⟩
        case measure => simp [intOf]; omega
    · have e : i = n := by omega
      subst e
      have r0 : wr.frozen? ⟨w.heap.size, 0, none⟩ = false := blk_frozen HR.out 0
      have r1 : wr.frozen? ⟨w.heap.size, 1, none⟩ = false := blk_frozen HR.out 1
      have s0 : wr.cell? ⟨w.heap.size, 0, none⟩ = some (.int .i64 0) := (blk_cell HR.out 0).trans rfl
      have s1 : wr.cell? ⟨w.heap.size, 1, none⟩ = some (.int .i64 0) := (blk_cell HR.out 1).trans rfl
      have hm : m = maxS m0 xs := by
        have := HM.out
        rw [List.drop_eq_nil_of_le (by rw [HN.out]; exact Nat.le_refl _)] at this
        exact this
      go_wp2
      have HR2 : ((wr.setCell ⟨w.heap.size, 0, none⟩ (.int .i64 (maxS m0 xs).f0)).setCell ⟨w.heap.size, 1, none⟩ (.int .i64 (maxS m0 xs).f1)).heap[w.heap.size]? = some (.cells #[.int .i64 (maxS m0 xs).f0, .int .i64 (maxS m0 xs).f1] 23 (0, 0)) := by
        simpa using blk_set (blk_set HR.out 0 (.int .i64 (maxS m0 xs).f0)) 1 (.int .i64 (maxS m0 xs).f1)
      have q0 := (blk_cell HR2 0).trans rfl
      have q1 := (blk_cell HR2 1).trans rfl
      exact bodyPost_ret (v := stV (maxS m0 xs)) (by simp [results, Try.results27, go_sem, q0, q1]) rfl ⟨rfl, (HB.out.setCell (p := ⟨w.heap.size, 0, none⟩) (Nat.le_refl _) _).setCell (p := ⟨w.heap.size, 1, none⟩) (Nat.le_refl _) _⟩

/-- What Max tells. -/
def maxL : List St → St
  | [] => ⟨0, 0⟩
  | m :: r => maxS m r

set_option maxRecDepth 100000 in
set_option maxHeartbeats 4000000 in
theorem max_calls (v : Value) (xs : List St) (w : World) (hr : SRd w v xs) :
    Calls Try.prog 12 #[v] w fun e w' => e = .returned (stV (maxL xs)) ∧ Below w.heap.size w w' := by
  have HR := Aside0.mk hr
  obtain ⟨A, c, rfl, hc, hC⟩ := hr
  have HB := Aside0.mk (Below.refl w.heap.size w)
  have hb0 := heap_alloc_new w (.cells #[.int .i64 0, .int .i64 0] 23)
  have HA := Aside0.mk hb0
  clear hC hc hb0
  cases xs with
  | nil =>
    go_enter Try.func12, Try.ntmps12
    go_wp2
    have q0 := (blk_cell HA.out 0).trans rfl
    have q1 := (blk_cell HA.out 1).trans rfl
    exact bodyPost_ret (v := stV (maxL [])) (by simp [results, Try.results12, go_sem, q0, q1, maxL]) rfl ⟨rfl, (by repeat (first | (with_reducible first | exact HB.out | apply below_alloc | apply pw_below_drewN | apply below_drew1) | exact HB.out))⟩
  | cons m0 r =>
    obtain ⟨n, hn⟩ : ∃ n, (m0 :: r).length = n := ⟨_, rfl⟩
    have hn2 : 0 < n := by rw [← hn]; simp
    have HRR : Aside0 (SRd w (.slice A n c) (m0 :: r)) := ⟨by rw [← hn]; exact HR.out⟩
    rw [hn]
    clear hn
    go_enter Try.func12, Try.ntmps12
    go_wp2_with (first
      | ((with_reducible refine gate_dst (N := 7) rfl ?_); go_must (((try (refine gate_guard (by rfl) ?_; dsimp only)); refine goesL_ (some 7) rfl rfl Try.func27 (by kernel_rfl) rfl #[.slice A n c, .func (.func 10) #[] #[]] rfl ?hA ?_; (case hA => ((try simp only [List.map_toArray, List.map_cons, List.map_nil]); first | done | rfl)); refine (maxfunc_calls _ m0 r _ (HRR.out.below (by repeat (first | (with_reducible first | exact HB.out | apply below_alloc | apply pw_below_drewN | apply below_drew1) | exact HB.out)))).mono ?_; rintro e w7 ⟨rfl, hb⟩; refine ⟨_, rfl, ?_⟩; replace HA := Aside0.mk ((hb.block _ (blk_lt HA.out)).trans HA.out); have s0 : w7.cell? ⟨w.heap.size, 0, none⟩ = some (.int .i64 0) := (blk_cell HA.out 0).trans rfl; have s1 : w7.cell? ⟨w.heap.size, 1, none⟩ = some (.int .i64 0) := (blk_cell HA.out 1).trans rfl; have r0 : w7.frozen? ⟨w.heap.size, 0, none⟩ = false := blk_frozen HA.out 0; have r1 : w7.frozen? ⟨w.heap.size, 1, none⟩ = false := blk_frozen HA.out 1; replace HB := Aside0.mk (below_step (by repeat (first | (with_reducible first | exact HB.out | apply below_alloc | apply pw_below_drewN | apply below_drew1) | exact HB.out)) hb); clear hb))))
    obtain ⟨x, hx⟩ : ∃ x, maxS m0 r = x := ⟨_, rfl⟩
    have HR2 : ((((w7.setCell ⟨w.heap.size, 0, none⟩ (.int .i64 x.f0)).setCell ⟨w.heap.size, 1, none⟩ (.int .i64 x.f1)).setCell ⟨w.heap.size, 0, none⟩ (.int .i64 x.f0)).setCell ⟨w.heap.size, 1, none⟩ (.int .i64 x.f1)).heap[w.heap.size]? = some (.cells #[.int .i64 x.f0, .int .i64 x.f1] 23 (0, 0)) := by
      simpa using blk_set (blk_set (blk_set (blk_set HA.out 0 (.int .i64 x.f0)) 1 (.int .i64 x.f1)) 0 (.int .i64 x.f0)) 1 (.int .i64 x.f1)
    have q0 := (blk_cell HR2 0).trans rfl
    have q1 := (blk_cell HR2 1).trans rfl
    rw [hx]
    exact bodyPost_ret (v := stV x) (by simp [results, Try.results12, go_sem, q0, q1]) rfl ⟨by rw [maxL, hx], (((HB.out.setCell (p := ⟨w.heap.size, 0, none⟩) (Nat.le_refl _) _).setCell (p := ⟨w.heap.size, 1, none⟩) (Nat.le_refl _) _).setCell (p := ⟨w.heap.size, 0, none⟩) (Nat.le_refl _) _).setCell (p := ⟨w.heap.size, 1, none⟩) (Nat.le_refl _) _⟩

theorem cmpS_cases (a b c d : Int) : cmpS a b c d = -1 ∨ cmpS a b c d = 0 ∨ cmpS a b c d = 1 := by
  unfold cmpS
  (repeat' split) <;> simp
theorem cmpS_turn (a b c d : Int) : cmpS c d a b = -cmpS a b c d := by
  unfold cmpS
  (repeat' split) <;> first | rfl | omega
theorem cmpS_zero (a b c d : Int) : (cmpS a b c d == 0) = (a == c && b == d) := by
  rw [Bool.eq_iff_iff]
  simp only [beq_iff_eq, Bool.and_eq_true]
  unfold cmpS
  (repeat' split) <;> omega
theorem cmpS_trans {a b c d e f : Int} (h1 : cmpS a b c d ≤ 0) (h2 : cmpS c d e f ≤ 0) : cmpS a b e f ≤ 0 := by
  unfold cmpS at *
  (repeat' split at h1) <;> (repeat' split at h2) <;> (repeat' split) <;> omega
theorem cmpT_pos (x y : St) : 0 < cmpT x y ↔ (y.f0 < x.f0 ∨ (y.f0 = x.f0 ∧ y.f1 < x.f1)) := by
  unfold cmpT cmpS
  (repeat' split) <;> simp <;> omega
theorem maxL_turn (a b c : St) : maxL [a, b, c] = maxL [c, a, b] := by
  simp only [maxL, maxS, cmpT_pos]
  obtain ⟨a0, a1⟩ := a
  obtain ⟨b0, b1⟩ := b
  obtain ⟨c0, c1⟩ := c
  by_cases h1 : a0 < b0 ∨ a0 = b0 ∧ a1 < b1 <;> by_cases h2 : c0 < a0 ∨ c0 = a0 ∧ c1 < a1 <;> simp only [h1, h2, if_true, if_false] <;> (repeat' split) <;> first | rfl | (simp only [X.S23.mk.injEq]; omega)
theorem heap_alloc_two (W : World) (o o' : Obj) : ((W.alloc o).alloc o').heap[W.heap.size + 1]? = some o' := by simpa using heap_alloc_new (W.alloc o) o'
theorem blk_step {W W1 : World} {g : Nat} {cs : Array Value} {t : TypeId} {f : Nat × Nat} (hb : Below W.heap.size W W1) (h : W.heap[g]? = some (.cells cs t f)) : W1.heap[g]? = some (.cells cs t f) := (hb.block _ (blk_lt h)).trans h
/-- Three stamps, new. -/
theorem srd_three {W : World} {g : Nat} (a b c : St) (h : W.heap[g]? = some (.cells #[.int .i64 a.f0, .int .i64 a.f1, .int .i64 b.f0, .int .i64 b.f1, .int .i64 c.f0, .int .i64 c.f1] 23 (0, 0))) : SRd W (.slice (some ⟨g, 0, none⟩) 3 3) [a, b, c] := by
  refine ⟨_, _, rfl, Nat.le_refl _, ⟨rfl, by simp [maxLen], fun _ => ⟨_, rfl, fun j p hj => ?_⟩⟩⟩
  have hc : ∀ k, W.cell? ⟨g, k, none⟩ = (#[Value.int .i64 a.f0, .int .i64 a.f1, .int .i64 b.f0, .int .i64 b.f1, .int .i64 c.f0, .int .i64 c.f1] : Array Value)[k]? := fun k => blk_cell h k
  have hlt := (List.getElem?_eq_some_iff.1 hj).1
  simp only [List.length_cons, List.length_nil] at hlt
  refine ⟨[.int .i64 p.f0, .int .i64 p.f1], rfl, X.k23_mk W p, fun i u hu => ?_⟩
  have h3 : j = 0 ∨ j = 1 ∨ j = 2 := by omega
  have hi : i = 0 ∨ i = 1 := by
    have := (List.getElem?_eq_some_iff.1 hu).1
    simp only [List.length_cons, List.length_nil] at this
    omega
  rcases h3 with rfl | rfl | rfl <;> (simp at hj; subst hj) <;> rcases hi with rfl | rfl <;> (simp at hu; subst hu) <;> first
    | exact (hc 0).trans rfl | exact (hc 1).trans rfl | exact (hc 2).trans rfl | exact (hc 3).trans rfl | exact (hc 4).trans rfl | exact (hc 5).trans rfl
    | (simpa [Addr.add, X.k23] using (hc 0).trans rfl) | (simpa [Addr.add] using (hc 1).trans rfl) | (simpa [Addr.add] using (hc 2).trans rfl) | (simpa [Addr.add] using (hc 3).trans rfl) | (simpa [Addr.add] using (hc 4).trans rfl) | (simpa [Addr.add] using (hc 5).trans rfl)
/- cachettelaw04.StampBack: the walk. -/
import Derived.Test.YtfingknhciogkaaSbA
import Derived.Test.YtfingknhciogkaaWTab
import Derived.Deep.LoopGhost
namespace Go.Proofs.Ytfingknhciogkaa.K
open Go.RowKit Go.Shelf Go.Proofs.YtfingknhciogkaaW.PrintWords Go.Proofs.YtfingknhciogkaaW.PrintLast Go.Proofs.YtfingknhciogkaaW.PrintMore
set_option linter.unusedVariables false
set_option linter.unusedSimpArgs false

def back_walk.T5 : Bool × List (List Nat × List Nat) := (true, [([], []), ([0], [0]), ([], []), ([1, 2], [1, 2]), ([3, 1], [3]), ([4], [4]), ([5, 4, 4], [4, 5]), ([4], [4]), ([7, 4], [4, 7]), ([6, 8, 4], [4, 6, 8]), ([4, 9], [4, 9])])
def back_walk.B5 : List Nat := [0, 1, 0, 7, 15, 31, 63, 31, 159, 511, 1023]
theorem back_walk.tab5 : rtab .any (opsOf Try.f4 5) = back_walk.T5 := by kernel_rfl
theorem back_walk.bits5 : waitsOk back_walk.T5.2 back_walk.B5 = true := by kernel_rfl
def back_walk.T11 : Bool × List (List Nat × List Nat) := (true, [([], []), ([], []), ([1], [1]), ([0, 2], [0, 2]), ([3], [3]), ([], []), ([], []), ([5, 6], [5, 6]), ([7], [7]), ([4, 8], [4, 8]), ([9], [9])])
def back_walk.B11 : List Nat := [0, 0, 2, 7, 15, 0, 0, 96, 224, 511, 1023]
theorem back_walk.tab11 : rtab .any (opsOf Try.f4 11) = back_walk.T11 := by kernel_rfl
theorem back_walk.bits11 : waitsOk back_walk.T11.2 back_walk.B11 = true := by kernel_rfl
def back_walk.T20 : Bool × List (List Nat × List Nat) := (true, [([], []), ([], []), ([0, 1], [0, 1]), ([2], [2]), ([], []), ([], []), ([4, 5], [4, 5]), ([6], [6]), ([3, 7], [3, 7])])
def back_walk.B20 : List Nat := [0, 0, 3, 7, 0, 0, 48, 112, 255]
theorem back_walk.tab20 : rtab .any (opsOf Try.f4 20) = back_walk.T20 := by kernel_rfl
theorem back_walk.bits20 : waitsOk back_walk.T20.2 back_walk.B20 = true := by kernel_rfl
theorem eq_neB (y x : St) : (y.f0 == x.f0 && y.f1 == x.f1) = !(neB y x) := by
  unfold neB
  split
  · split <;> simp [*]
  · simp [*]
open Go.Shelf in
theorem sget_put (g : Nat) (t a : Int) (R : List Int) (w0 w : World) (h1 : -9223372036854775808 ≤ t) (h2 : t ≤ 9223372036854775807) (h3 : 0 ≤ a) (h4 : a ≤ 7) (hI : Rdr 56 w0 w g (putS t a ++ R) 0) (hB : Below w0.heap.size w0 w) :
    Calls Try.prog 19 #[.pointer (some ⟨g, 0, none⟩)] w fun e w' => e = .returned (.agg #[.int .i64 t, .int .i64 a]) ∧ Rdr 56 w0 w' g R 0 ∧ Stp w0 w w' g := by
  have h := sget_calls g _ 0 w0 w hI hB
  rw [getS_put t a R h1 h2 h3 h4] at h
  exact h
theorem left_q (g q : Nat) (l : List Int) (w0 w : World) (hq : l.length = q) (hI : Rdr 56 w0 w g l 0) :
    Calls Try.prog 20 #[.pointer (some ⟨g, 0, none⟩)] w fun e w' => e = .returned (.int .i64 (q : Int)) ∧ Drawn0 w w' := by
  subst hq
  have h := left_calls g l 0 w0 w hI
  rw [if_pos rfl] at h
  exact h
attribute [local go_sem high] X.eqA23
set_option maxRecDepth 100000 in
set_option maxHeartbeats 32000000 in
theorem back_walk (t a : Int) (v1 : Value) (l1 : List Int) (v : Value) (zs : List St) (w : World) (hr1 : Rd w v1 l1) (hb1 : ∀ x ∈ l1, 0 ≤ x ∧ x ≤ 255) (hv : SRd w v zs)
    (h1 : -9223372036854775808 ≤ t) (h2 : t ≤ 9223372036854775807) :
    Calls Try.prog 4 #[.agg #[.int .i64 t, .int .i64 a], v1, v] w fun e w' => e = .returned (.bool true) ∧ Below w.heap.size w w' := by
  obtain ⟨A2, c2, rfl, hc2, hC2⟩ := hv
  have HR0 : Aside0 (SRd w (.slice A2 zs.length c2) zs) := ⟨⟨_, _, rfl, hc2, hC2⟩⟩
  obtain ⟨n, hn⟩ : ∃ n, zs.length = n := ⟨_, rfl⟩
  have HNZ := Aside0.mk hn
  rw [hn] at HR0 hC2 ⊢
  have HC2 := Aside0.mk hC2
  have HR1 := Aside0.mk hr1
  have HB1 := Aside0.mk hb1
  have H1 := Aside0.mk h1
  have H2 := Aside0.mk h2
  obtain ⟨A1, c1, rfl, hc1, hC1⟩ := hr1
  obtain ⟨q, hq⟩ : ∃ q, l1.length = q := ⟨_, rfl⟩
  have HQ := Aside0.mk hq
  have HRQ : Aside0 (Rd w (.slice A1 q c1) l1) := ⟨by rw [← hq]; exact HR1.out⟩
  rw [hq] at hc1 ⊢
  clear hC1 hC2 hn hq hb1 h1 h2 HR1
  have HB := Aside0.mk (below_alloc (Below.refl w.heap.size w) (.cells #[.int .i64 t, .int .i64 a] 23))
  have HX := Aside0.mk (blk_new w (.cells #[.int .i64 t, .int .i64 a] 23))
  by_cases hq0 : q > 300
  · have hg : (300 : Int) < q := by omega
    go_enter Try.func4, Try.ntmps4
    go_wp2_with (first
      | ((with_reducible refine gate_dst (N := 21) rfl ?_); go_must (((try (refine gate_guard (by rfl) ?_; dsimp only)); refine goesL_ (some 21) rfl rfl Try.func5 (by kernel_rfl) rfl #[] rfl ?hA ?_; (case hA => ((try simp only [List.map_toArray, List.map_cons, List.map_nil]); first | done | rfl)); refine (alive04_calls _).mono ?_; rintro e w21 ⟨rfl, hb⟩; refine ⟨_, rfl, ?_⟩; replace HB := Aside0.mk (below_step (by repeat (first | (with_reducible first | exact HB.out | apply below_alloc | apply pw_below_drewN | apply below_drew1) | exact HB.out)) hb); clear hb))))
    go_ret
    exact ⟨rfl, (by repeat (first | (with_reducible first | exact HB.out | apply below_alloc | apply pw_below_drewN | apply below_drew1) | exact HB.out))⟩
  · have hg : ¬ (300 : Int) < q := by omega
    by_cases hn0 : n > 200
    · have hg2 : (200 : Int) < n := by omega
      go_enter Try.func4, Try.ntmps4
      go_wp2_with (first
        | ((with_reducible refine gate_dst (N := 21) rfl ?_); go_must (((try (refine gate_guard (by rfl) ?_; dsimp only)); refine goesL_ (some 21) rfl rfl Try.func5 (by kernel_rfl) rfl #[] rfl ?hA ?_; (case hA => ((try simp only [List.map_toArray, List.map_cons, List.map_nil]); first | done | rfl)); refine (alive04_calls _).mono ?_; rintro e w21 ⟨rfl, hb⟩; refine ⟨_, rfl, ?_⟩; replace HB := Aside0.mk (below_step (by repeat (first | (with_reducible first | exact HB.out | apply below_alloc | apply pw_below_drewN | apply below_drew1) | exact HB.out)) hb); clear hb))))
      go_ret
      exact ⟨rfl, (by repeat (first | (with_reducible first | exact HB.out | apply below_alloc | apply pw_below_drewN | apply below_drew1) | exact HB.out))⟩
    · have hg2 : ¬ (200 : Int) < n := by omega
      have hnn : n ≤ 200 := by omega
      have HL : Aside0 (zs.length ≤ 100000) := ⟨by have := HNZ.out; omega⟩
      have x0 := (blk_cell HX.out 0).trans rfl
      have x1 := (blk_cell HX.out 1).trans rfl
      cases hrt : rightS t a with
      | false =>
        have HRT := Aside0.mk hrt
        clear hrt
        go_enter Try.func4, Try.ntmps4
        go_wp2_with (first
          | ((with_reducible refine gate_dst (N := 23) rfl ?_); go_must (((try (refine gate_guard (by rfl) ?_; dsimp only)); refine goesL_ (some 23) rfl rfl Try.func6 (by kernel_rfl) rfl #[.agg #[.int .i64 t, .int .i64 a]] rfl ?hA ?_; (case hA => ((try simp only [List.map_toArray, List.map_cons, List.map_nil]); first | done | rfl)); refine (right_calls t a _).mono ?_; rintro e w23 ⟨rfl, hb⟩; refine ⟨_, rfl, ?_⟩; rw [HRT.out]; have HB5 := Aside0.mk (below_step (by repeat (first | (with_reducible first | exact HB.out | apply below_alloc | apply pw_below_drewN | apply below_drew1) | exact HB.out)) hb); clear hb)))
          | ((with_reducible refine gate_dst (N := 41) rfl ?_); go_must (((try (refine gate_guard (by rfl) ?_; dsimp only)); refine goesL_ (some 41) rfl rfl Try.func15 (by kernel_rfl) rfl #[.slice A2 n c2] rfl ?hA ?_; (case hA => ((try simp only [List.map_toArray, List.map_cons, List.map_nil]); first | done | rfl)); refine (sort_calls _ zs HL.out _ (HR0.out.below (by repeat (first | (with_reducible first | exact HB5.out | apply below_alloc | apply pw_below_drewN | apply below_drew1) | exact HB5.out)))).mono ?_; rintro e w41 ⟨v41, ys, rfl, hp, ha, hr, hb⟩; refine ⟨_, rfl, ?_⟩; replace HB5 := Aside0.mk (below_step (by repeat (first | (with_reducible first | exact HB5.out | apply below_alloc | apply pw_below_drewN | apply below_drew1) | exact HB5.out)) hb); obtain ⟨ds, hds⟩ : ∃ ds, dd ys = ds := ⟨_, rfl⟩; rw [hds] at hr; have HST : Aside0 (Strict ds) := ⟨by rw [← hds]; exact (sorted_spec hp ha).1⟩; have HME : Aside0 (∀ a, a ∈ ds ↔ a ∈ zs) := ⟨by rw [← hds]; exact (sorted_spec hp ha).2⟩; have hle : ds.length ≤ zs.length := (by rw [← hds, ← hp.length_eq]; exact dd_len ys); obtain ⟨A8, c8, rfl, hc8, hC8⟩ := hr; obtain ⟨m, hm⟩ : ∃ m, ds.length = m := ⟨_, rfl⟩; have HMM := Aside0.mk hm; rw [hm] at hc8 hC8 hle ⊢; have HC8 := Aside0.mk hC8; have hmn : m ≤ n := (by have := HNZ.out; omega); clear hp ha hb hds hle hm hC8))))
        go_loopg [9] (m - 1) (fun g v9 wr => ∃ i : Nat, g = m - i ∧ v9 = .int .i64 i ∧ 1 ≤ i ∧ Aside0 (Below w41.heap.size w41 wr))
        case atStart => exact ⟨1, rfl, rfl, Nat.le_refl _, ⟨by repeat (first | exact Below.refl _ _ | apply pw_below_drewN | apply below_drew1)⟩⟩
        case round =>
          obtain ⟨i, rfl, rfl, hi, HBL⟩ := hrel
          by_cases him : i < m
          · have him2 : (i : Int) < m := by omega
            have hi0 : (0 : Int) ≤ i := by omega
            obtain ⟨p, hip, hwr⟩ := nat_pred (k := i) hi (by omega)
            have HIP := Aside0.mk hip
            have hp0 : (0 : Int) ≤ p := by omega
            have hpm : (p : Int) < m := by omega
            have hwr2 : wrap64 ((i : Int) - 1) = (p : Int) := by rw [← hwr, i64_w]
            have hC8 := HC8.out
            obtain ⟨ado, rfl, -, -⟩ := X.at_T23 hC8 (0 : Nat) (by omega) (by omega)
            replace HC8 := Aside0.mk hC8
            clear hC8
            obtain ⟨ado', hXd, d0, d1⟩ := X.at_T23 HC8.out (p : Nat) (by omega) (by omega)
            injection hXd with hXd
            subst hXd
            obtain ⟨x, hXe⟩ : ∃ x, x = X.rd_T23 ds (p : Nat) := ⟨_, rfl⟩
            rw [← hXe, Int.toNat_natCast] at d0 d1
            have hXz : ds[p]? = some x := by
              rw [hXe]
              unfold X.rd_T23
              rw [Int.toNat_natCast, List.getD_eq_getElem?_getD, List.getElem?_eq_getElem (by have := HMM.out; omega)]
              rfl
            have HX0 := Aside0.mk d0
            have HX1 := Aside0.mk d1
            have HXZ := Aside0.mk hXz
            clear d0 d1 hXe hXz
            obtain ⟨ado', hYd, d0, d1⟩ := X.at_T23 HC8.out (i : Nat) (by omega) (by omega)
            injection hYd with hYd
            subst hYd
            obtain ⟨y, hYe⟩ : ∃ y, y = X.rd_T23 ds (i : Nat) := ⟨_, rfl⟩
            rw [← hYe, Int.toNat_natCast] at d0 d1
            have hYz : ds[i]? = some y := by
              rw [hYe]
              unfold X.rd_T23
              rw [Int.toNat_natCast, List.getD_eq_getElem?_getD, List.getElem?_eq_getElem (by have := HMM.out; omega)]
              rfl
            have HY0 := Aside0.mk d0
            have HY1 := Aside0.mk d1
            have HYZ := Aside0.mk hYz
            clear d0 d1 hYe hYz
            have HLT : Aside0 (lessS x.f0 x.f1 y.f0 y.f1 = true) := ⟨(lessS_lt x y).2 (strict_at HST.out HXZ.out HYZ.out (by omega))⟩
            clear hip
            go_wp2
            go_upto_region 11 with fail
            refine gen_world (fun wx hwx => ?_)
            have HBX : Aside0 (Below w41.heap.size w41 wx) := ⟨by rw [hwx]; repeat (first | exact HBL.out | exact Below.refl _ _ | apply pw_below_drewN | apply below_drew1)⟩
            have x0 := pw_cell_below HBX.out HX0.out
            have x1 := pw_cell_below HBX.out HX1.out
            have y0 := pw_cell_below HBX.out HY0.out
            have y1 := pw_cell_below HBX.out HY1.out
            clear hwx
            refine start_ (n := 11) (S := fun w' => w'.cell? (ado.add (p * 2)) = some (.int .i64 x.f0) ∧ w'.cell? ⟨(ado.add (p * 2)).block, (ado.add (p * 2)).off + 1, none⟩ = some (.int .i64 x.f1) ∧ w'.cell? (ado.add (i * 2)) = some (.int .i64 y.f0) ∧ w'.cell? ⟨(ado.add (i * 2)).block, (ado.add (i * 2)).off + 1, none⟩ = some (.int .i64 y.f1)) (ds := []) #[false, false, false, false, false, false, false, false, false, false, false] (by kernel_rfl) rfl rfl ⟨x0, x1, y0, y1⟩ (fun hHeld => ?_)
            refine with_tabW back_walk.tab11 back_walk.bits11 (fun HT_ HW_ => ?_)
            refine pure_ (i := 0) (N := some 48) (v := ?_) (a' := ?_) #[true, false, false, false, false, false, false, false, false, false, false] rfl rfl (any_of HT_.out (by kernel_rfl)) (fun _ _ _ h => h) (Or.inl ⟨by rfl, ?_⟩) ?_ ?_
            rotate_left
            · intro w'
              go_simp
              with_reducible rfl
            rotate_left
            · simp only [Act.put, List.setIfInBounds_toArray, List.set_cons_zero, List.set_cons_succ, i64_w, i32_w]
              rfl
            refine pure_ (i := 1) (N := some 49) (v := ?_) (a' := ?_) #[true, true, false, false, false, false, false, false, false, false, false] rfl rfl (any_of HT_.out (by kernel_rfl)) (fun _ _ _ h => h) (Or.inl ⟨by rfl, ?_⟩) ?_ ?_
            rotate_left
            · intro w'
              go_simp
              with_reducible rfl
            rotate_left
            · simp only [Act.put, List.setIfInBounds_toArray, List.set_cons_zero, List.set_cons_succ, i64_w, i32_w]
              rfl
            refine pure_ (i := 2) (N := some 50) (v := ?_) (a' := ?_) #[true, true, true, false, false, false, false, false, false, false, false] rfl rfl (any_of HT_.out (by kernel_rfl)) (fun _ _ _ h => h) (Or.inl ⟨by rfl, ?_⟩) ?_ ?_
            rotate_left
            · intro w'
              go_simp
              with_reducible rfl
            rotate_left
            · simp only [Act.put, List.setIfInBounds_toArray, List.set_cons_zero, List.set_cons_succ, i64_w, i32_w]
              rfl
            refine pure_ (i := 3) (N := some 51) (v := ?_) (a' := ?_) #[true, true, true, true, false, false, false, false, false, false, false] rfl rfl (any_of HT_.out (by kernel_rfl)) (fun _ _ _ h => h) (Or.inl ⟨by rfl, ?_⟩) ?_ ?_
            rotate_left
            · intro w'
              go_simp
              with_reducible rfl
            rotate_left
            · simp only [Act.put, List.setIfInBounds_toArray, List.set_cons_zero, List.set_cons_succ, i64_w, i32_w]
              rfl
            refine pure_ (i := 5) (N := some 53) (v := ?_) (a' := ?_) #[true, true, true, true, false, true, false, false, false, false, false] rfl rfl (any_of HT_.out (by kernel_rfl)) (fun _ _ _ h => h) (Or.inl ⟨by rfl, ?_⟩) ?_ ?_
            rotate_left
            · intro w'
              go_simp
              with_reducible rfl
            rotate_left
            · simp only [Act.put, List.setIfInBounds_toArray, List.set_cons_zero, List.set_cons_succ, i64_w, i32_w]
              rfl
            refine pure_ (i := 6) (N := some 54) (v := ?_) (a' := ?_) #[true, true, true, true, false, true, true, false, false, false, false] rfl rfl (any_of HT_.out (by kernel_rfl)) (fun _ _ _ h => h) (Or.inl ⟨by rfl, ?_⟩) ?_ ?_
            rotate_left
            · intro w'
              go_simp
              with_reducible rfl
            rotate_left
            · simp only [Act.put, List.setIfInBounds_toArray, List.set_cons_zero, List.set_cons_succ, i64_w, i32_w]
              rfl
            refine pure_ (i := 7) (N := some 55) (v := ?_) (a' := ?_) #[true, true, true, true, false, true, true, true, false, false, false] rfl rfl (any_of HT_.out (by kernel_rfl)) (fun _ _ _ h => h) (Or.inl ⟨by rfl, ?_⟩) ?_ ?_
            rotate_left
            · intro w'
              go_simp
              with_reducible rfl
            rotate_left
            · simp only [Act.put, List.setIfInBounds_toArray, List.set_cons_zero, List.set_cons_succ, i64_w, i32_w]
              rfl
            refine take_ (i := 4) (N := some 52) (v := ?_) (a' := ?_) #[true, true, true, true, true, true, true, true, false, false, false] rfl rfl (take_ofW HT_.out HW_.out (by kernel_rfl)) (fun _ _ _ h => h) (Or.inl ⟨by rfl, ?_⟩) hHeld ?_ ?_
            rotate_left
            · rintro w' ⟨s0, s1, s2, s3⟩
              go_simp
              with_reducible rfl
            rotate_left
            · simp only [Act.put, List.setIfInBounds_toArray, List.set_cons_zero, List.set_cons_succ, i64_w, i32_w]
              rfl
            refine take_ (i := 8) (N := some 56) (v := ?_) (a' := ?_) #[true, true, true, true, true, true, true, true, true, false, false] rfl rfl (take_ofW HT_.out HW_.out (by kernel_rfl)) (fun _ _ _ h => h) (Or.inl ⟨by rfl, ?_⟩) hHeld ?_ ?_
            rotate_left
            · rintro w' ⟨s0, s1, s2, s3⟩
              go_simp
              with_reducible rfl
            rotate_left
            · simp only [Act.put, List.setIfInBounds_toArray, List.set_cons_zero, List.set_cons_succ, i64_w, i32_w]
              rfl
            refine one_ (i := 9) (N := some 57) #[true, true, true, true, true, true, true, true, true, true, false] rfl rfl (one_of HT_.out (by kernel_rfl)) (by decide) (fun K hK => ?_)
            refine goes_ Try.func8 (by kernel_rfl) rfl #[stV x, stV y] (by rfl) rfl rfl (by simp only [List.map_toArray, List.map_cons, List.map_nil]; rfl) ?_
            with_reducible refine (less_calls x.f0 x.f1 y.f0 y.f1 _).mono ?_
            rintro e w57 ⟨rfl, hb57⟩
            refine ⟨_, rfl, ?_⟩
            refine hK.out _ _ ⟨(pw_cell_below hb57 x0), (pw_cell_below hb57 x1), (pw_cell_below hb57 y0), (pw_cell_below hb57 y1)⟩ (fun hHeld => ?_)
            clear hK K
            refine norm_ (a' := ?_) ?_ ?_
            rotate_left
            · show Act.put _ (some 57) _ = _
              simp only [Act.put, List.setIfInBounds_toArray, List.set_cons_zero, List.set_cons_succ, i64_w, i32_w]
              rfl
            refine pure_ (i := 10) (N := some 58) (v := ?_) (a' := ?_) #[true, true, true, true, true, true, true, true, true, true, true] rfl rfl (any_of HT_.out (by kernel_rfl)) (fun _ _ _ h => h) (Or.inl ⟨by rfl, ?_⟩) ?_ ?_
            rotate_left
            · intro w'
              go_simp
              with_reducible rfl
            rotate_left
            · simp only [Act.put, List.setIfInBounds_toArray, List.set_cons_zero, List.set_cons_succ, i64_w, i32_w]
              rfl
            refine done_ (done_of HT_.out (by kernel_rfl)) ?_
            rw [HLT.out]
            go_wp2
            go_roundg (m - (i + 1))
            case measure => omega
            case rel => exact ⟨i + 1, rfl, by go_num, by omega, ⟨by repeat (first | exact below_step (below_drew1 HBX.out) hb57 | apply pw_below_drewN | apply below_drew1)⟩⟩
          · have him2 : ¬ (i : Int) < m := by omega
            go_wp2
            go_loopg [10] n (fun g v10 wr => ∃ i : Nat, g = n - i ∧ v10 = .int .i64 i ∧ i ≤ n ∧ Aside0 (Below w41.heap.size w41 wr))
            case atStart => exact ⟨0, by simp, rfl, Nat.zero_le _, ⟨by repeat (first | exact HBL.out | apply pw_below_drewN | apply below_drew1)⟩⟩
            case round =>
              clear him him2 hi HBL
              obtain ⟨i, rfl, rfl, hi, HBL⟩ := hrel
              by_cases hin : i < n
              · have hin2 : (i : Int) < n := by omega
                have hi0 : (0 : Int) ≤ i := by omega
                have hC2 := HC2.out
                obtain ⟨adl, rfl, -, -⟩ := X.at_T23 hC2 (0 : Nat) (by omega) (by omega)
                replace HC2 := Aside0.mk hC2
                clear hC2
                obtain ⟨adl', hXd, d0, d1⟩ := X.at_T23 HC2.out (i : Nat) (by omega) (by omega)
                injection hXd with hXd
                subst hXd
                obtain ⟨x, hXe⟩ : ∃ x, x = X.rd_T23 zs (i : Nat) := ⟨_, rfl⟩
                rw [← hXe, Int.toNat_natCast] at d0 d1
                have hXz : zs[i]? = some x := by
                  rw [hXe]
                  unfold X.rd_T23
                  rw [Int.toNat_natCast, List.getD_eq_getElem?_getD, List.getElem?_eq_getElem (by have := HNZ.out; omega)]
                  rfl
                have HX0 := Aside0.mk d0
                have HX1 := Aside0.mk d1
                have HXZ := Aside0.mk hXz
                clear d0 d1 hXe hXz
                have HXD : Aside0 (x ∈ ds) := ⟨(HME.out x).2 (List.mem_of_getElem? HXZ.out)⟩
                have hm0 : 0 < m := by
                  have := List.length_pos_of_mem HXD.out
                  have := HMM.out
                  omega
                have hC8 := HC8.out
                obtain ⟨ado, rfl, -, -⟩ := X.at_T23 hC8 (0 : Nat) (by omega) (by omega)
                replace HC8 := Aside0.mk hC8
                have HBLL := HBL
                clear hC8
                go_wp2
                go_loopg [11, 12] m (fun g v11 v12 wz => ∃ k : Nat, g = m - k ∧ v12 = .int .i64 k ∧ k ≤ m ∧ v11 = .int .i64 (cntS x (ds.take k) : Nat) ∧ Aside0 (Below w41.heap.size w41 wz))
                case atStart => exact ⟨0, by simp, rfl, Nat.zero_le _, rfl, ⟨by repeat (first | exact HBL.out | apply pw_below_drewN | apply below_drew1)⟩⟩
                case round =>
                  clear HBL HBLL
                  obtain ⟨k, rfl, rfl, hk, rfl, HBL⟩ := hrel
                  by_cases hkm : k < m
                  · have hkm2 : (k : Int) < m := by omega
                    have hk0 : (0 : Int) ≤ k := by omega
                    obtain ⟨ado', hYd, d0, d1⟩ := X.at_T23 HC8.out (k : Nat) (by omega) (by omega)
                    injection hYd with hYd
                    subst hYd
                    obtain ⟨y, hYe⟩ : ∃ y, y = X.rd_T23 ds (k : Nat) := ⟨_, rfl⟩
                    rw [← hYe, Int.toNat_natCast] at d0 d1
                    have hYz : ds[k]? = some y := by
                      rw [hYe]
                      unfold X.rd_T23
                      rw [Int.toNat_natCast, List.getD_eq_getElem?_getD, List.getElem?_eq_getElem (by have := HMM.out; omega)]
                      rfl
                    have HY0 := Aside0.mk d0
                    have HY1 := Aside0.mk d1
                    have HYZ := Aside0.mk hYz
                    clear d0 d1 hYe hYz
                    obtain ⟨c, hcc⟩ : ∃ c, cntS x (ds.take k) = c := ⟨_, rfl⟩
                    have hc9 : c ≤ 200 := by
                      have := cntS_le x (ds.take k)
                      rw [List.length_take] at this
                      omega
                    have HCC := Aside0.mk hcc
                    rw [hcc]
                    clear hcc
                    go_wp2
                    go_upto_region 20 with fail
                    refine gen_world (fun wx hwx => ?_)
                    have HBX : Aside0 (Below w41.heap.size w41 wx) := ⟨by rw [hwx]; repeat (first | exact HBL.out | exact Below.refl _ _ | apply pw_below_drewN | apply below_drew1)⟩
                    have x0 := pw_cell_below HBX.out (pw_cell_below HB5.out HX0.out)
                    have x1 := pw_cell_below HBX.out (pw_cell_below HB5.out HX1.out)
                    have y0 := pw_cell_below HBX.out HY0.out
                    have y1 := pw_cell_below HBX.out HY1.out
                    clear hwx
                    refine start_ (n := 9) (S := fun w' => w'.cell? (ado.add (k * 2)) = some (.int .i64 y.f0) ∧ w'.cell? ⟨(ado.add (k * 2)).block, (ado.add (k * 2)).off + 1, none⟩ = some (.int .i64 y.f1) ∧ w'.cell? (adl.add (i * 2)) = some (.int .i64 x.f0) ∧ w'.cell? ⟨(adl.add (i * 2)).block, (adl.add (i * 2)).off + 1, none⟩ = some (.int .i64 x.f1)) (ds := []) #[false, false, false, false, false, false, false, false, false] (by kernel_rfl) rfl rfl ⟨y0, y1, x0, x1⟩ (fun hHeld => ?_)
                    refine with_tabW back_walk.tab20 back_walk.bits20 (fun HT_ HW_ => ?_)
                    refine pure_ (i := 0) (N := some 71) (v := ?_) (a' := ?_) #[true, false, false, false, false, false, false, false, false] rfl rfl (any_of HT_.out (by kernel_rfl)) (fun _ _ _ h => h) (Or.inl ⟨by rfl, ?_⟩) ?_ ?_
                    rotate_left
                    · intro w'
                      go_simp
                      with_reducible rfl
                    rotate_left
                    · simp only [Act.put, List.setIfInBounds_toArray, List.set_cons_zero, List.set_cons_succ, i64_w, i32_w]
                      rfl
                    refine pure_ (i := 1) (N := some 72) (v := ?_) (a' := ?_) #[true, true, false, false, false, false, false, false, false] rfl rfl (any_of HT_.out (by kernel_rfl)) (fun _ _ _ h => h) (Or.inl ⟨by rfl, ?_⟩) ?_ ?_
                    rotate_left
                    · intro w'
                      go_simp
                      with_reducible rfl
                    rotate_left
                    · simp only [Act.put, List.setIfInBounds_toArray, List.set_cons_zero, List.set_cons_succ, i64_w, i32_w]
                      rfl
                    refine pure_ (i := 2) (N := some 73) (v := ?_) (a' := ?_) #[true, true, true, false, false, false, false, false, false] rfl rfl (any_of HT_.out (by kernel_rfl)) (fun _ _ _ h => h) (Or.inl ⟨by rfl, ?_⟩) ?_ ?_
                    rotate_left
                    · intro w'
                      go_simp
                      with_reducible rfl
                    rotate_left
                    · simp only [Act.put, List.setIfInBounds_toArray, List.set_cons_zero, List.set_cons_succ, i64_w, i32_w]
                      rfl
                    refine pure_ (i := 4) (N := some 75) (v := ?_) (a' := ?_) #[true, true, true, false, true, false, false, false, false] rfl rfl (any_of HT_.out (by kernel_rfl)) (fun _ _ _ h => h) (Or.inl ⟨by rfl, ?_⟩) ?_ ?_
                    rotate_left
                    · intro w'
                      go_simp
                      with_reducible rfl
                    rotate_left
                    · simp only [Act.put, List.setIfInBounds_toArray, List.set_cons_zero, List.set_cons_succ, i64_w, i32_w]
                      rfl
                    refine pure_ (i := 5) (N := some 76) (v := ?_) (a' := ?_) #[true, true, true, false, true, true, false, false, false] rfl rfl (any_of HT_.out (by kernel_rfl)) (fun _ _ _ h => h) (Or.inl ⟨by rfl, ?_⟩) ?_ ?_
                    rotate_left
                    · intro w'
                      go_simp
                      with_reducible rfl
                    rotate_left
                    · simp only [Act.put, List.setIfInBounds_toArray, List.set_cons_zero, List.set_cons_succ, i64_w, i32_w]
                      rfl
                    refine pure_ (i := 6) (N := some 77) (v := ?_) (a' := ?_) #[true, true, true, false, true, true, true, false, false] rfl rfl (any_of HT_.out (by kernel_rfl)) (fun _ _ _ h => h) (Or.inl ⟨by rfl, ?_⟩) ?_ ?_
                    rotate_left
                    · intro w'
                      go_simp
                      with_reducible rfl
                    rotate_left
                    · simp only [Act.put, List.setIfInBounds_toArray, List.set_cons_zero, List.set_cons_succ, i64_w, i32_w]
                      rfl
                    refine take_ (i := 3) (N := some 74) (v := ?_) (a' := ?_) #[true, true, true, true, true, true, true, false, false] rfl rfl (take_ofW HT_.out HW_.out (by kernel_rfl)) (fun _ _ _ h => h) (Or.inl ⟨by rfl, ?_⟩) hHeld ?_ ?_
                    rotate_left
                    · rintro w' ⟨s0, s1, s2, s3⟩
                      go_simp
                      with_reducible rfl
                    rotate_left
                    · simp only [Act.put, List.setIfInBounds_toArray, List.set_cons_zero, List.set_cons_succ, i64_w, i32_w]
                      rfl
                    refine take_ (i := 7) (N := some 78) (v := ?_) (a' := ?_) #[true, true, true, true, true, true, true, true, false] rfl rfl (take_ofW HT_.out HW_.out (by kernel_rfl)) (fun _ _ _ h => h) (Or.inl ⟨by rfl, ?_⟩) hHeld ?_ ?_
                    rotate_left
                    · rintro w' ⟨s0, s1, s2, s3⟩
                      go_simp
                      with_reducible rfl
                    rotate_left
                    · simp only [Act.put, List.setIfInBounds_toArray, List.set_cons_zero, List.set_cons_succ, i64_w, i32_w]
                      rfl
                    refine pure_ (i := 8) (N := some 79) (v := ?_) (a' := ?_) #[true, true, true, true, true, true, true, true, true] rfl rfl (any_of HT_.out (by kernel_rfl)) (fun _ _ _ h => h) (Or.inl ⟨by rfl, ?_⟩) ?_ ?_
                    rotate_left
                    · intro w'
                      go_simp
                      with_reducible rfl
                    rotate_left
                    · simp only [Act.put, List.setIfInBounds_toArray, List.set_cons_zero, List.set_cons_succ, i64_w, i32_w]
                      rfl
                    refine done_ (done_of HT_.out (by kernel_rfl)) ?_
                    rw [eq_neB]
                    have hne : neB y x = true ∨ neB y x = false := by cases neB y x <;> simp
                    rcases hne with hne | hne
                    · have HNE := Aside0.mk hne
                      rw [hne]
                      clear hne
                      go_wp2
                      go_roundg (m - (k + 1))
                      case measure => omega
                      case rel => exact ⟨k + 1, rfl, by go_num, by omega, by rw [take_next HYZ.out, cntS_append, HCC.out]; simp [cntS, HNE.out], ⟨by repeat (first | exact HBX.out | apply pw_below_drewN | apply below_drew1)⟩⟩
                    · have HNE := Aside0.mk hne
                      rw [hne]
                      clear hne
                      go_wp2
                      go_roundg (m - (k + 1))
                      case measure => omega
                      case rel => exact ⟨k + 1, rfl, by go_num, by omega, by rw [take_next HYZ.out, cntS_append, HCC.out, show cntS x [y] = 1 by simp [cntS, HNE.out]]; go_num, ⟨by repeat (first | exact HBX.out | apply pw_below_drewN | apply below_drew1)⟩⟩
                  · have hkm2 : ¬ (k : Int) < m := by omega
                    have hkm3 : k = m := by omega
                    have h1 : cntS x (ds.take k) = 1 := by
                      rw [hkm3, ← HMM.out, List.take_length]
                      exact cntS_one HST.out HXD.out
                    rw [h1]
                    clear h1 hkm3
                    go_wp2
                    go_roundg (n - (i + 1))
                    case measure => omega
                    case rel => exact ⟨i + 1, rfl, by go_num, by omega, ⟨by repeat (first | exact HBL.out | apply pw_below_drewN | apply below_drew1)⟩⟩
              · have hin2 : ¬ (i : Int) < n := by omega
                have hmn2 : (m : Int) ≤ n := by omega
                have HB6 : Aside0 (Below w.heap.size w wr) := ⟨below_step HB5.out HBL.out⟩
                go_wp2_with (first
                  | ((with_reducible refine gate_dst (N := 90) rfl ?_); go_must (((try (refine gate_guard (by rfl) ?_; dsimp only)); refine goesL_ (some 90) rfl rfl Try.func5 (by kernel_rfl) rfl #[] rfl ?hA ?_; (case hA => ((try simp only [List.map_toArray, List.map_cons, List.map_nil]); first | done | rfl)); refine (alive04_calls _).mono ?_; rintro e w90 ⟨rfl, hb⟩; refine ⟨_, rfl, ?_⟩; replace HB6 := Aside0.mk (below_step (by repeat (first | (with_reducible first | exact HB6.out | apply below_alloc | apply pw_below_drewN | apply below_drew1) | exact HB6.out)) hb); clear hb))))
                go_ret
                exact ⟨rfl, (by repeat (first | (with_reducible first | exact HB6.out | apply below_alloc | apply pw_below_drewN | apply below_drew1) | exact HB6.out))⟩
      | true =>
        have HRT := Aside0.mk hrt
        clear hrt
        go_enter Try.func4, Try.ntmps4
        go_wp2_with (first
          | ((with_reducible refine gate_dst (N := 23) rfl ?_); go_must (((try (refine gate_guard (by rfl) ?_; dsimp only)); refine goesL_ (some 23) rfl rfl Try.func6 (by kernel_rfl) rfl #[.agg #[.int .i64 t, .int .i64 a]] rfl ?hA ?_; (case hA => ((try simp only [List.map_toArray, List.map_cons, List.map_nil]); first | done | rfl)); refine (right_calls t a _).mono ?_; rintro e w23 ⟨rfl, hb⟩; refine ⟨_, rfl, ?_⟩; rw [HRT.out]; have HX23 := Aside0.mk (blk_below HX.out hb); have HB23 := Aside0.mk (below_step (by repeat (first | (with_reducible first | exact HB.out | apply below_alloc | apply pw_below_drewN | apply below_drew1) | exact HB.out)) hb); have HB3 := Aside0.mk (Below.refl w23.heap.size w23); have y0 := (blk_cell HX23.out 0).trans rfl; have y1 := (blk_cell HX23.out 1).trans rfl; clear hb)))
          | ((with_reducible refine gate_dst (N := 25) rfl ?_); go_must (((try (refine gate_guard (by rfl) ?_; dsimp only)); refine goesL_ (some 25) rfl rfl Try.func18 (by kernel_rfl) rfl #[.slice none 0 0, .agg #[.int .i64 t, .int .i64 a]] rfl ?hA ?_; (case hA => ((try simp only [List.map_toArray, List.map_cons, List.map_nil]); first | done | rfl)); refine (sput_calls _ [] t a _ (Rd.nil _) H1.out H2.out (by have := (rightS_true HRT.out).2.2.2; omega) (by simp)).mono ?_; rintro e w25 ⟨v25, rfl, ho, hb⟩; refine ⟨_, rfl, ?_⟩; have HO25 := Aside0.mk ho; replace HB3 := Aside0.mk (below_step (by repeat (first | (with_reducible first | exact HB3.out | apply below_alloc | apply pw_below_drewN | apply below_drew1) | exact HB3.out)) hb); clear ho hb)))
          | ((with_reducible refine gate_builtin (b := .append) (xs := #[.tmp 25, .tmp 26]) rfl ?_); at_builtin; go_must (((try (refine gate_guard (by rfl) ?_; dsimp only)); refine app_bytes (w0 := w23) (w23).heap.size rfl (.tmp 25) (.tmp 26) 33 rfl Try.underlying33 info5 _ _ ([] ++ putS t a) (l1) rfl rfl HO25.out ?aR HB3.out HB3.out.size ?aL ?_; (case aR => exact HRQ.out.below (below_step HB23.out HB3.out)); (case aL => (have h5 := putS_len H1.out H2.out (show a ≤ 9223372036854775807 by have := (rightS_true HRT.out).2.2.2; omega); have := HQ.out; simp only [List.nil_append]; omega)); intro vHO27 wHO27 ho hb hg; have HO27 := Aside0.mk ho; clear HB3; have HB3 := Aside0.mk hb; clear ho hb hg)))
          | ((with_reducible refine gate_dst (N := 28) rfl ?_); go_must (((try (refine gate_guard (by rfl) ?_; dsimp only)); refine goesL_ (some 28) rfl rfl Try.func17 (by kernel_rfl) rfl #[vHO27] rfl ?hA ?_; (case hA => ((try simp only [List.map_toArray, List.map_cons, List.map_nil]); first | done | rfl)); refine (read_calls _ (putS t a ++ l1) wHO27 _ (by exact HO27.out.rd) (putS_BL H1.out H2.out (by have := (rightS_true HRT.out).2.2.2; omega) HB1.out (by have := HQ.out; omega)) (Below.refl _ _)).mono ?_; rintro e w28 ⟨g, rfl, hr, hgl, hb⟩; refine ⟨_, rfl, ?_⟩; have HRG := Aside0.mk hr; have HX28 := Aside0.mk (blk_below (blk_below HX23.out HB3.out) hb); have HGA : Aside0 (w.heap.size ≠ g) := ⟨by have := blk_lt (blk_below HX23.out HB3.out); omega⟩; have HB28 := Aside0.mk hb; clear hr hgl hb))))
        have H3 : Aside0 (0 ≤ a) := ⟨(rightS_true HRT.out).2.2.1⟩
        have H4 : Aside0 (a ≤ 7) := ⟨by have := (rightS_true HRT.out).2.2.2; omega⟩
        have x0 := (blk_cell HX28.out 0).trans rfl
        have x1 := (blk_cell HX28.out 1).trans rfl
        clear y0 y1
        go_upto_region 5 with fail
        refine start_ (n := 11) (S := fun w' => w'.cell? ⟨w.heap.size, 0, none⟩ = some (.int .i64 t) ∧ w'.cell? ⟨w.heap.size, 1, none⟩ = some (.int .i64 a)) (ds := []) #[false, false, false, false, false, false, false, false, false, false, false] (by kernel_rfl) rfl rfl ⟨x0, x1⟩ (fun hHeld => ?_)
        refine with_tabW back_walk.tab5 back_walk.bits5 (fun HT_ HW_ => ?_)
        refine pure_ (i := 0) (N := some 29) (v := ?_) (a' := ?_) #[true, false, false, false, false, false, false, false, false, false, false] rfl rfl (any_of HT_.out (by kernel_rfl)) (fun _ _ _ h => h) (Or.inl ⟨by rfl, ?_⟩) ?_ ?_
        rotate_left
        · intro w'
          go_simp
          with_reducible rfl
        rotate_left
        · simp only [Act.put, List.setIfInBounds_toArray, List.set_cons_zero, List.set_cons_succ, i64_w, i32_w]
          rfl
        refine take_ (i := 2) (N := some 31) (v := ?_) (a' := ?_) #[true, false, true, false, false, false, false, false, false, false, false] rfl rfl (take_ofW HT_.out HW_.out (by kernel_rfl)) (fun _ _ _ h => h) (Or.inl ⟨by rfl, ?_⟩) hHeld ?_ ?_
        rotate_left
        · rintro w' ⟨s0, s1⟩
          go_simp
          with_reducible rfl
        rotate_left
        · simp only [Act.put, List.setIfInBounds_toArray, List.set_cons_zero, List.set_cons_succ, i64_w, i32_w]
          rfl
        refine one_ (i := 1) (N := some 30) #[true, true, true, false, false, false, false, false, false, false, false] rfl rfl (one_of HT_.out (by kernel_rfl)) (by decide) (fun K hK => ?_)
        refine goes_ Try.func19 (by kernel_rfl) rfl #[.pointer (some ⟨g, 0, none⟩)] (by rfl) rfl rfl (by simp only [List.map_toArray, List.map_cons, List.map_nil]; rfl) ?_
        with_reducible refine (sget_put g t a l1 wHO27 _ H1.out H2.out H3.out H4.out (HRG.out.below (below_drew1 (Below.refl _ _))) (by repeat (first | (with_reducible first | exact HB28.out | apply below_alloc | apply pw_below_drewN | apply below_drew1) | exact HB28.out))).mono ?_
        rintro e w30 ⟨rfl, hr30, hs30⟩
        refine ⟨_, rfl, ?_⟩
        have hx30 := hs30.keep.blk HX28.out HGA.out (by simp)
        refine hK.out _ _ ⟨((blk_cell hx30 0).trans rfl), ((blk_cell hx30 1).trans rfl)⟩ (fun hHeld => ?_)
        clear hK K
        refine norm_ (a' := ?_) ?_ ?_
        rotate_left
        · show Act.put _ (some 30) _ = _
          simp only [Act.put, List.setIfInBounds_toArray, List.set_cons_zero, List.set_cons_succ, i64_w, i32_w]
          rfl
        refine pure_ (i := 3) (N := some 32) (v := ?_) (a' := ?_) #[true, true, true, true, false, false, false, false, false, false, false] rfl rfl (any_of HT_.out (by kernel_rfl)) (fun _ _ _ h => h) (Or.inl ⟨by rfl, ?_⟩) ?_ ?_
        rotate_left
        · intro w'
          go_simp
          with_reducible rfl
        rotate_left
        · simp only [Act.put, List.setIfInBounds_toArray, List.set_cons_zero, List.set_cons_succ, i64_w, i32_w]
          rfl
        refine pure_ (i := 4) (N := some 33) (v := ?_) (a' := ?_) #[true, true, true, true, true, false, false, false, false, false, false] rfl rfl (any_of HT_.out (by kernel_rfl)) (fun _ _ _ h => h) (Or.inl ⟨by rfl, ?_⟩) ?_ ?_
        rotate_left
        · intro w'
          go_simp
          with_reducible rfl
        rotate_left
        · simp only [Act.put, List.setIfInBounds_toArray, List.set_cons_zero, List.set_cons_succ, i64_w, i32_w]
          rfl
        refine pure_ (i := 5) (N := some 34) (v := ?_) (a' := ?_) #[true, true, true, true, true, true, false, false, false, false, false] rfl rfl (any_of HT_.out (by kernel_rfl)) (fun _ _ _ h => h) (Or.inl ⟨by rfl, ?_⟩) ?_ ?_
        rotate_left
        · intro w'
          go_simp
          with_reducible rfl
        rotate_left
        · simp only [Act.put, List.setIfInBounds_toArray, List.set_cons_zero, List.set_cons_succ, i64_w, i32_w]
          rfl
        refine pure_ (i := 7) (N := some 36) (v := ?_) (a' := ?_) #[true, true, true, true, true, true, false, true, false, false, false] rfl rfl (any_of HT_.out (by kernel_rfl)) (fun _ _ _ h => h) (Or.inl ⟨by rfl, ?_⟩) ?_ ?_
        rotate_left
        · intro w'
          go_simp
          with_reducible rfl
        rotate_left
        · simp only [Act.put, List.setIfInBounds_toArray, List.set_cons_zero, List.set_cons_succ, i64_w, i32_w]
          rfl
        refine pure_ (i := 8) (N := some 37) (v := ?_) (a' := ?_) #[true, true, true, true, true, true, false, true, true, false, false] rfl rfl (any_of HT_.out (by kernel_rfl)) (fun _ _ _ h => h) (Or.inl ⟨by rfl, ?_⟩) ?_ ?_
        rotate_left
        · intro w'
          go_simp
          with_reducible rfl
        rotate_left
        · simp only [Act.put, List.setIfInBounds_toArray, List.set_cons_zero, List.set_cons_succ, i64_w, i32_w]
          rfl
        refine one_ (i := 6) (N := some 35) #[true, true, true, true, true, true, true, true, true, false, false] rfl rfl (one_of HT_.out (by kernel_rfl)) (by decide) (fun K hK => ?_)
        refine goes_ Try.func20 (by kernel_rfl) rfl #[.pointer (some ⟨g, 0, none⟩)] (by rfl) rfl rfl (by simp only [List.map_toArray, List.map_cons, List.map_nil]; rfl) ?_
        with_reducible refine (left_q g q l1 wHO27 _ HQ.out hr30).mono ?_
        rintro e w35 ⟨rfl, hd35⟩
        refine ⟨_, rfl, ?_⟩
        have hx35 := blk_below hx30 hd35.below
        refine hK.out _ _ ⟨((blk_cell hx35 0).trans rfl), ((blk_cell hx35 1).trans rfl)⟩ (fun hHeld => ?_)
        clear hK K
        refine norm_ (a' := ?_) ?_ ?_
        rotate_left
        · show Act.put _ (some 35) _ = _
          simp only [Act.put, List.setIfInBounds_toArray, List.set_cons_zero, List.set_cons_succ, i64_w, i32_w]
          rfl
        refine pure_ (i := 9) (N := some 38) (v := ?_) (a' := ?_) #[true, true, true, true, true, true, true, true, true, true, false] rfl rfl (any_of HT_.out (by kernel_rfl)) (fun _ _ _ h => h) (Or.inl ⟨by rfl, ?_⟩) ?_ ?_
        rotate_left
        · intro w'
          go_simp
          with_reducible rfl
        rotate_left
        · simp only [Act.put, List.setIfInBounds_toArray, List.set_cons_zero, List.set_cons_succ, i64_w, i32_w]
          rfl
        refine pure_ (i := 10) (N := some 39) (v := ?_) (a' := ?_) #[true, true, true, true, true, true, true, true, true, true, true] rfl rfl (any_of HT_.out (by kernel_rfl)) (fun _ _ _ h => h) (Or.inl ⟨by rfl, ?_⟩) ?_ ?_
        rotate_left
        · intro w'
          go_simp
          with_reducible rfl
        rotate_left
        · simp only [Act.put, List.setIfInBounds_toArray, List.set_cons_zero, List.set_cons_succ, i64_w, i32_w]
          rfl
        refine done_ (done_of HT_.out (by kernel_rfl)) ?_
        have HB5 : Aside0 (Below w.heap.size w w35) := ⟨below_step (below_step (below_step HB23.out HB3.out) hs30.below) hd35.below⟩
        go_wp2_with (first
          | ((with_reducible refine gate_dst (N := 41) rfl ?_); go_must (((try (refine gate_guard (by rfl) ?_; dsimp only)); refine goesL_ (some 41) rfl rfl Try.func15 (by kernel_rfl) rfl #[.slice A2 n c2] rfl ?hA ?_; (case hA => ((try simp only [List.map_toArray, List.map_cons, List.map_nil]); first | done | rfl)); refine (sort_calls _ zs HL.out _ (HR0.out.below (by repeat (first | (with_reducible first | exact HB5.out | apply below_alloc | apply pw_below_drewN | apply below_drew1) | exact HB5.out)))).mono ?_; rintro e w41 ⟨v41, ys, rfl, hp, ha, hr, hb⟩; refine ⟨_, rfl, ?_⟩; replace HB5 := Aside0.mk (below_step (by repeat (first | (with_reducible first | exact HB5.out | apply below_alloc | apply pw_below_drewN | apply below_drew1) | exact HB5.out)) hb); obtain ⟨ds, hds⟩ : ∃ ds, dd ys = ds := ⟨_, rfl⟩; rw [hds] at hr; have HST : Aside0 (Strict ds) := ⟨by rw [← hds]; exact (sorted_spec hp ha).1⟩; have HME : Aside0 (∀ a, a ∈ ds ↔ a ∈ zs) := ⟨by rw [← hds]; exact (sorted_spec hp ha).2⟩; have hle : ds.length ≤ zs.length := (by rw [← hds, ← hp.length_eq]; exact dd_len ys); obtain ⟨A8, c8, rfl, hc8, hC8⟩ := hr; obtain ⟨m, hm⟩ : ∃ m, ds.length = m := ⟨_, rfl⟩; have HMM := Aside0.mk hm; rw [hm] at hc8 hC8 hle ⊢; have HC8 := Aside0.mk hC8; have hmn : m ≤ n := (by have := HNZ.out; omega); clear hp ha hb hds hle hm hC8))))
        go_loopg [9] (m - 1) (fun g v9 wr => ∃ i : Nat, g = m - i ∧ v9 = .int .i64 i ∧ 1 ≤ i ∧ Aside0 (Below w41.heap.size w41 wr))
        case atStart => exact ⟨1, rfl, rfl, Nat.le_refl _, ⟨by repeat (first | exact Below.refl _ _ | apply pw_below_drewN | apply below_drew1)⟩⟩
        case round =>
          obtain ⟨i, rfl, rfl, hi, HBL⟩ := hrel
          by_cases him : i < m
          · have him2 : (i : Int) < m := by omega
            have hi0 : (0 : Int) ≤ i := by omega
            obtain ⟨p, hip, hwr⟩ := nat_pred (k := i) hi (by omega)
            have HIP := Aside0.mk hip
            have hp0 : (0 : Int) ≤ p := by omega
            have hpm : (p : Int) < m := by omega
            have hwr2 : wrap64 ((i : Int) - 1) = (p : Int) := by rw [← hwr, i64_w]
            have hC8 := HC8.out
            obtain ⟨ado, rfl, -, -⟩ := X.at_T23 hC8 (0 : Nat) (by omega) (by omega)
            replace HC8 := Aside0.mk hC8
            clear hC8
            obtain ⟨ado', hXd, d0, d1⟩ := X.at_T23 HC8.out (p : Nat) (by omega) (by omega)
            injection hXd with hXd
            subst hXd
            obtain ⟨x, hXe⟩ : ∃ x, x = X.rd_T23 ds (p : Nat) := ⟨_, rfl⟩
            rw [← hXe, Int.toNat_natCast] at d0 d1
            have hXz : ds[p]? = some x := by
              rw [hXe]
              unfold X.rd_T23
              rw [Int.toNat_natCast, List.getD_eq_getElem?_getD, List.getElem?_eq_getElem (by have := HMM.out; omega)]
              rfl
            have HX0 := Aside0.mk d0
            have HX1 := Aside0.mk d1
            have HXZ := Aside0.mk hXz
            clear d0 d1 hXe hXz
            obtain ⟨ado', hYd, d0, d1⟩ := X.at_T23 HC8.out (i : Nat) (by omega) (by omega)
            injection hYd with hYd
            subst hYd
            obtain ⟨y, hYe⟩ : ∃ y, y = X.rd_T23 ds (i : Nat) := ⟨_, rfl⟩
            rw [← hYe, Int.toNat_natCast] at d0 d1
            have hYz : ds[i]? = some y := by
              rw [hYe]
              unfold X.rd_T23
              rw [Int.toNat_natCast, List.getD_eq_getElem?_getD, List.getElem?_eq_getElem (by have := HMM.out; omega)]
              rfl
            have HY0 := Aside0.mk d0
            have HY1 := Aside0.mk d1
            have HYZ := Aside0.mk hYz
            clear d0 d1 hYe hYz
            have HLT : Aside0 (lessS x.f0 x.f1 y.f0 y.f1 = true) := ⟨(lessS_lt x y).2 (strict_at HST.out HXZ.out HYZ.out (by omega))⟩
            clear hip
            go_wp2
            go_upto_region 11 with fail
            refine gen_world (fun wx hwx => ?_)
            have HBX : Aside0 (Below w41.heap.size w41 wx) := ⟨by rw [hwx]; repeat (first | exact HBL.out | exact Below.refl _ _ | apply pw_below_drewN | apply below_drew1)⟩
            have x0 := pw_cell_below HBX.out HX0.out
            have x1 := pw_cell_below HBX.out HX1.out
            have y0 := pw_cell_below HBX.out HY0.out
            have y1 := pw_cell_below HBX.out HY1.out
            clear hwx
            refine start_ (n := 11) (S := fun w' => w'.cell? (ado.add (p * 2)) = some (.int .i64 x.f0) ∧ w'.cell? ⟨(ado.add (p * 2)).block, (ado.add (p * 2)).off + 1, none⟩ = some (.int .i64 x.f1) ∧ w'.cell? (ado.add (i * 2)) = some (.int .i64 y.f0) ∧ w'.cell? ⟨(ado.add (i * 2)).block, (ado.add (i * 2)).off + 1, none⟩ = some (.int .i64 y.f1)) (ds := []) #[false, false, false, false, false, false, false, false, false, false, false] (by kernel_rfl) rfl rfl ⟨x0, x1, y0, y1⟩ (fun hHeld => ?_)
            refine with_tabW back_walk.tab11 back_walk.bits11 (fun HT_ HW_ => ?_)
            refine pure_ (i := 0) (N := some 48) (v := ?_) (a' := ?_) #[true, false, false, false, false, false, false, false, false, false, false] rfl rfl (any_of HT_.out (by kernel_rfl)) (fun _ _ _ h => h) (Or.inl ⟨by rfl, ?_⟩) ?_ ?_
            rotate_left
            · intro w'
              go_simp
              with_reducible rfl
            rotate_left
            · simp only [Act.put, List.setIfInBounds_toArray, List.set_cons_zero, List.set_cons_succ, i64_w, i32_w]
              rfl
            refine pure_ (i := 1) (N := some 49) (v := ?_) (a' := ?_) #[true, true, false, false, false, false, false, false, false, false, false] rfl rfl (any_of HT_.out (by kernel_rfl)) (fun _ _ _ h => h) (Or.inl ⟨by rfl, ?_⟩) ?_ ?_
            rotate_left
            · intro w'
              go_simp
              with_reducible rfl
            rotate_left
            · simp only [Act.put, List.setIfInBounds_toArray, List.set_cons_zero, List.set_cons_succ, i64_w, i32_w]
              rfl
            refine pure_ (i := 2) (N := some 50) (v := ?_) (a' := ?_) #[true, true, true, false, false, false, false, false, false, false, false] rfl rfl (any_of HT_.out (by kernel_rfl)) (fun _ _ _ h => h) (Or.inl ⟨by rfl, ?_⟩) ?_ ?_
            rotate_left
            · intro w'
              go_simp
              with_reducible rfl
            rotate_left
            · simp only [Act.put, List.setIfInBounds_toArray, List.set_cons_zero, List.set_cons_succ, i64_w, i32_w]
              rfl
            refine pure_ (i := 3) (N := some 51) (v := ?_) (a' := ?_) #[true, true, true, true, false, false, false, false, false, false, false] rfl rfl (any_of HT_.out (by kernel_rfl)) (fun _ _ _ h => h) (Or.inl ⟨by rfl, ?_⟩) ?_ ?_
            rotate_left
            · intro w'
              go_simp
              with_reducible rfl
            rotate_left
            · simp only [Act.put, List.setIfInBounds_toArray, List.set_cons_zero, List.set_cons_succ, i64_w, i32_w]
              rfl
            refine pure_ (i := 5) (N := some 53) (v := ?_) (a' := ?_) #[true, true, true, true, false, true, false, false, false, false, false] rfl rfl (any_of HT_.out (by kernel_rfl)) (fun _ _ _ h => h) (Or.inl ⟨by rfl, ?_⟩) ?_ ?_
            rotate_left
            · intro w'
              go_simp
              with_reducible rfl
            rotate_left
            · simp only [Act.put, List.setIfInBounds_toArray, List.set_cons_zero, List.set_cons_succ, i64_w, i32_w]
              rfl
            refine pure_ (i := 6) (N := some 54) (v := ?_) (a' := ?_) #[true, true, true, true, false, true, true, false, false, false, false] rfl rfl (any_of HT_.out (by kernel_rfl)) (fun _ _ _ h => h) (Or.inl ⟨by rfl, ?_⟩) ?_ ?_
            rotate_left
            · intro w'
              go_simp
              with_reducible rfl
            rotate_left
            · simp only [Act.put, List.setIfInBounds_toArray, List.set_cons_zero, List.set_cons_succ, i64_w, i32_w]
              rfl
            refine pure_ (i := 7) (N := some 55) (v := ?_) (a' := ?_) #[true, true, true, true, false, true, true, true, false, false, false] rfl rfl (any_of HT_.out (by kernel_rfl)) (fun _ _ _ h => h) (Or.inl ⟨by rfl, ?_⟩) ?_ ?_
            rotate_left
            · intro w'
              go_simp
              with_reducible rfl
            rotate_left
            · simp only [Act.put, List.setIfInBounds_toArray, List.set_cons_zero, List.set_cons_succ, i64_w, i32_w]
              rfl
            refine take_ (i := 4) (N := some 52) (v := ?_) (a' := ?_) #[true, true, true, true, true, true, true, true, false, false, false] rfl rfl (take_ofW HT_.out HW_.out (by kernel_rfl)) (fun _ _ _ h => h) (Or.inl ⟨by rfl, ?_⟩) hHeld ?_ ?_
            rotate_left
            · rintro w' ⟨s0, s1, s2, s3⟩
              go_simp
              with_reducible rfl
            rotate_left
            · simp only [Act.put, List.setIfInBounds_toArray, List.set_cons_zero, List.set_cons_succ, i64_w, i32_w]
              rfl
            refine take_ (i := 8) (N := some 56) (v := ?_) (a' := ?_) #[true, true, true, true, true, true, true, true, true, false, false] rfl rfl (take_ofW HT_.out HW_.out (by kernel_rfl)) (fun _ _ _ h => h) (Or.inl ⟨by rfl, ?_⟩) hHeld ?_ ?_
            rotate_left
            · rintro w' ⟨s0, s1, s2, s3⟩
              go_simp
              with_reducible rfl
            rotate_left
            · simp only [Act.put, List.setIfInBounds_toArray, List.set_cons_zero, List.set_cons_succ, i64_w, i32_w]
              rfl
            refine one_ (i := 9) (N := some 57) #[true, true, true, true, true, true, true, true, true, true, false] rfl rfl (one_of HT_.out (by kernel_rfl)) (by decide) (fun K hK => ?_)
            refine goes_ Try.func8 (by kernel_rfl) rfl #[stV x, stV y] (by rfl) rfl rfl (by simp only [List.map_toArray, List.map_cons, List.map_nil]; rfl) ?_
            with_reducible refine (less_calls x.f0 x.f1 y.f0 y.f1 _).mono ?_
            rintro e w57 ⟨rfl, hb57⟩
            refine ⟨_, rfl, ?_⟩
            refine hK.out _ _ ⟨(pw_cell_below hb57 x0), (pw_cell_below hb57 x1), (pw_cell_below hb57 y0), (pw_cell_below hb57 y1)⟩ (fun hHeld => ?_)
            clear hK K
            refine norm_ (a' := ?_) ?_ ?_
            rotate_left
            · show Act.put _ (some 57) _ = _
              simp only [Act.put, List.setIfInBounds_toArray, List.set_cons_zero, List.set_cons_succ, i64_w, i32_w]
              rfl
            refine pure_ (i := 10) (N := some 58) (v := ?_) (a' := ?_) #[true, true, true, true, true, true, true, true, true, true, true] rfl rfl (any_of HT_.out (by kernel_rfl)) (fun _ _ _ h => h) (Or.inl ⟨by rfl, ?_⟩) ?_ ?_
            rotate_left
            · intro w'
              go_simp
              with_reducible rfl
            rotate_left
            · simp only [Act.put, List.setIfInBounds_toArray, List.set_cons_zero, List.set_cons_succ, i64_w, i32_w]
              rfl
            refine done_ (done_of HT_.out (by kernel_rfl)) ?_
            rw [HLT.out]
            go_wp2
            go_roundg (m - (i + 1))
            case measure => omega
            case rel => exact ⟨i + 1, rfl, by go_num, by omega, ⟨by repeat (first | exact below_step (below_drew1 HBX.out) hb57 | apply pw_below_drewN | apply below_drew1)⟩⟩
          · have him2 : ¬ (i : Int) < m := by omega
            go_wp2
            go_loopg [10] n (fun g v10 wr => ∃ i : Nat, g = n - i ∧ v10 = .int .i64 i ∧ i ≤ n ∧ Aside0 (Below w41.heap.size w41 wr))
            case atStart => exact ⟨0, by simp, rfl, Nat.zero_le _, ⟨by repeat (first | exact HBL.out | apply pw_below_drewN | apply below_drew1)⟩⟩
            case round =>
              clear him him2 hi HBL
              obtain ⟨i, rfl, rfl, hi, HBL⟩ := hrel
              by_cases hin : i < n
              · have hin2 : (i : Int) < n := by omega
                have hi0 : (0 : Int) ≤ i := by omega
                have hC2 := HC2.out
                obtain ⟨adl, rfl, -, -⟩ := X.at_T23 hC2 (0 : Nat) (by omega) (by omega)
                replace HC2 := Aside0.mk hC2
                clear hC2
                obtain ⟨adl', hXd, d0, d1⟩ := X.at_T23 HC2.out (i : Nat) (by omega) (by omega)
                injection hXd with hXd
                subst hXd
                obtain ⟨x, hXe⟩ : ∃ x, x = X.rd_T23 zs (i : Nat) := ⟨_, rfl⟩
                rw [← hXe, Int.toNat_natCast] at d0 d1
                have hXz : zs[i]? = some x := by
                  rw [hXe]
                  unfold X.rd_T23
                  rw [Int.toNat_natCast, List.getD_eq_getElem?_getD, List.getElem?_eq_getElem (by have := HNZ.out; omega)]
                  rfl
                have HX0 := Aside0.mk d0
                have HX1 := Aside0.mk d1
                have HXZ := Aside0.mk hXz
                clear d0 d1 hXe hXz
                have HXD : Aside0 (x ∈ ds) := ⟨(HME.out x).2 (List.mem_of_getElem? HXZ.out)⟩
                have hm0 : 0 < m := by
                  have := List.length_pos_of_mem HXD.out
                  have := HMM.out
                  omega
                have hC8 := HC8.out
                obtain ⟨ado, rfl, -, -⟩ := X.at_T23 hC8 (0 : Nat) (by omega) (by omega)
                replace HC8 := Aside0.mk hC8
                have HBLL := HBL
                clear hC8
                go_wp2
                go_loopg [11, 12] m (fun g v11 v12 wz => ∃ k : Nat, g = m - k ∧ v12 = .int .i64 k ∧ k ≤ m ∧ v11 = .int .i64 (cntS x (ds.take k) : Nat) ∧ Aside0 (Below w41.heap.size w41 wz))
                case atStart => exact ⟨0, by simp, rfl, Nat.zero_le _, rfl, ⟨by repeat (first | exact HBL.out | apply pw_below_drewN | apply below_drew1)⟩⟩
                case round =>
                  clear HBL HBLL
                  obtain ⟨k, rfl, rfl, hk, rfl, HBL⟩ := hrel
                  by_cases hkm : k < m
                  · have hkm2 : (k : Int) < m := by omega
                    have hk0 : (0 : Int) ≤ k := by omega
                    obtain ⟨ado', hYd, d0, d1⟩ := X.at_T23 HC8.out (k : Nat) (by omega) (by omega)
                    injection hYd with hYd
                    subst hYd
                    obtain ⟨y, hYe⟩ : ∃ y, y = X.rd_T23 ds (k : Nat) := ⟨_, rfl⟩
                    rw [← hYe, Int.toNat_natCast] at d0 d1
                    have hYz : ds[k]? = some y := by
                      rw [hYe]
                      unfold X.rd_T23
                      rw [Int.toNat_natCast, List.getD_eq_getElem?_getD, List.getElem?_eq_getElem (by have := HMM.out; omega)]
                      rfl
                    have HY0 := Aside0.mk d0
                    have HY1 := Aside0.mk d1
                    have HYZ := Aside0.mk hYz
                    clear d0 d1 hYe hYz
                    obtain ⟨c, hcc⟩ : ∃ c, cntS x (ds.take k) = c := ⟨_, rfl⟩
                    have hc9 : c ≤ 200 := by
                      have := cntS_le x (ds.take k)
                      rw [List.length_take] at this
                      omega
                    have HCC := Aside0.mk hcc
                    rw [hcc]
                    clear hcc
                    go_wp2
                    go_upto_region 20 with fail
                    refine gen_world (fun wx hwx => ?_)
                    have HBX : Aside0 (Below w41.heap.size w41 wx) := ⟨by rw [hwx]; repeat (first | exact HBL.out | exact Below.refl _ _ | apply pw_below_drewN | apply below_drew1)⟩
                    have x0 := pw_cell_below HBX.out (pw_cell_below HB5.out HX0.out)
                    have x1 := pw_cell_below HBX.out (pw_cell_below HB5.out HX1.out)
                    have y0 := pw_cell_below HBX.out HY0.out
                    have y1 := pw_cell_below HBX.out HY1.out
                    clear hwx
                    refine start_ (n := 9) (S := fun w' => w'.cell? (ado.add (k * 2)) = some (.int .i64 y.f0) ∧ w'.cell? ⟨(ado.add (k * 2)).block, (ado.add (k * 2)).off + 1, none⟩ = some (.int .i64 y.f1) ∧ w'.cell? (adl.add (i * 2)) = some (.int .i64 x.f0) ∧ w'.cell? ⟨(adl.add (i * 2)).block, (adl.add (i * 2)).off + 1, none⟩ = some (.int .i64 x.f1)) (ds := []) #[false, false, false, false, false, false, false, false, false] (by kernel_rfl) rfl rfl ⟨y0, y1, x0, x1⟩ (fun hHeld => ?_)
                    refine with_tabW back_walk.tab20 back_walk.bits20 (fun HT_ HW_ => ?_)
                    refine pure_ (i := 0) (N := some 71) (v := ?_) (a' := ?_) #[true, false, false, false, false, false, false, false, false] rfl rfl (any_of HT_.out (by kernel_rfl)) (fun _ _ _ h => h) (Or.inl ⟨by rfl, ?_⟩) ?_ ?_
                    rotate_left
                    · intro w'
                      go_simp
                      with_reducible rfl
                    rotate_left
                    · simp only [Act.put, List.setIfInBounds_toArray, List.set_cons_zero, List.set_cons_succ, i64_w, i32_w]
                      rfl
                    refine pure_ (i := 1) (N := some 72) (v := ?_) (a' := ?_) #[true, true, false, false, false, false, false, false, false] rfl rfl (any_of HT_.out (by kernel_rfl)) (fun _ _ _ h => h) (Or.inl ⟨by rfl, ?_⟩) ?_ ?_
                    rotate_left
                    · intro w'
                      go_simp
                      with_reducible rfl
                    rotate_left
                    · simp only [Act.put, List.setIfInBounds_toArray, List.set_cons_zero, List.set_cons_succ, i64_w, i32_w]
                      rfl
                    refine pure_ (i := 2) (N := some 73) (v := ?_) (a' := ?_) #[true, true, true, false, false, false, false, false, false] rfl rfl (any_of HT_.out (by kernel_rfl)) (fun _ _ _ h => h) (Or.inl ⟨by rfl, ?_⟩) ?_ ?_
                    rotate_left
                    · intro w'
                      go_simp
                      with_reducible rfl
                    rotate_left
                    · simp only [Act.put, List.setIfInBounds_toArray, List.set_cons_zero, List.set_cons_succ, i64_w, i32_w]
                      rfl
                    refine pure_ (i := 4) (N := some 75) (v := ?_) (a' := ?_) #[true, true, true, false, true, false, false, false, false] rfl rfl (any_of HT_.out (by kernel_rfl)) (fun _ _ _ h => h) (Or.inl ⟨by rfl, ?_⟩) ?_ ?_
                    rotate_left
                    · intro w'
                      go_simp
                      with_reducible rfl
                    rotate_left
                    · simp only [Act.put, List.setIfInBounds_toArray, List.set_cons_zero, List.set_cons_succ, i64_w, i32_w]
                      rfl
                    refine pure_ (i := 5) (N := some 76) (v := ?_) (a' := ?_) #[true, true, true, false, true, true, false, false, false] rfl rfl (any_of HT_.out (by kernel_rfl)) (fun _ _ _ h => h) (Or.inl ⟨by rfl, ?_⟩) ?_ ?_
                    rotate_left
                    · intro w'
                      go_simp
                      with_reducible rfl
                    rotate_left
                    · simp only [Act.put, List.setIfInBounds_toArray, List.set_cons_zero, List.set_cons_succ, i64_w, i32_w]
                      rfl
                    refine pure_ (i := 6) (N := some 77) (v := ?_) (a' := ?_) #[true, true, true, false, true, true, true, false, false] rfl rfl (any_of HT_.out (by kernel_rfl)) (fun _ _ _ h => h) (Or.inl ⟨by rfl, ?_⟩) ?_ ?_
                    rotate_left
                    · intro w'
                      go_simp
                      with_reducible rfl
                    rotate_left
                    · simp only [Act.put, List.setIfInBounds_toArray, List.set_cons_zero, List.set_cons_succ, i64_w, i32_w]
                      rfl
                    refine take_ (i := 3) (N := some 74) (v := ?_) (a' := ?_) #[true, true, true, true, true, true, true, false, false] rfl rfl (take_ofW HT_.out HW_.out (by kernel_rfl)) (fun _ _ _ h => h) (Or.inl ⟨by rfl, ?_⟩) hHeld ?_ ?_
                    rotate_left
                    · rintro w' ⟨s0, s1, s2, s3⟩
                      go_simp
                      with_reducible rfl
                    rotate_left
                    · simp only [Act.put, List.setIfInBounds_toArray, List.set_cons_zero, List.set_cons_succ, i64_w, i32_w]
                      rfl
                    refine take_ (i := 7) (N := some 78) (v := ?_) (a' := ?_) #[true, true, true, true, true, true, true, true, false] rfl rfl (take_ofW HT_.out HW_.out (by kernel_rfl)) (fun _ _ _ h => h) (Or.inl ⟨by rfl, ?_⟩) hHeld ?_ ?_
                    rotate_left
                    · rintro w' ⟨s0, s1, s2, s3⟩
                      go_simp
                      with_reducible rfl
                    rotate_left
                    · simp only [Act.put, List.setIfInBounds_toArray, List.set_cons_zero, List.set_cons_succ, i64_w, i32_w]
                      rfl
                    refine pure_ (i := 8) (N := some 79) (v := ?_) (a' := ?_) #[true, true, true, true, true, true, true, true, true] rfl rfl (any_of HT_.out (by kernel_rfl)) (fun _ _ _ h => h) (Or.inl ⟨by rfl, ?_⟩) ?_ ?_
                    rotate_left
                    · intro w'
                      go_simp
                      with_reducible rfl
                    rotate_left
                    · simp only [Act.put, List.setIfInBounds_toArray, List.set_cons_zero, List.set_cons_succ, i64_w, i32_w]
                      rfl
                    refine done_ (done_of HT_.out (by kernel_rfl)) ?_
                    rw [eq_neB]
                    have hne : neB y x = true ∨ neB y x = false := by cases neB y x <;> simp
                    rcases hne with hne | hne
                    · have HNE := Aside0.mk hne
                      rw [hne]
                      clear hne
                      go_wp2
                      go_roundg (m - (k + 1))
                      case measure => omega
                      case rel => exact ⟨k + 1, rfl, by go_num, by omega, by rw [take_next HYZ.out, cntS_append, HCC.out]; simp [cntS, HNE.out], ⟨by repeat (first | exact HBX.out | apply pw_below_drewN | apply below_drew1)⟩⟩
                    · have HNE := Aside0.mk hne
                      rw [hne]
                      clear hne
                      go_wp2
                      go_roundg (m - (k + 1))
                      case measure => omega
                      case rel => exact ⟨k + 1, rfl, by go_num, by omega, by rw [take_next HYZ.out, cntS_append, HCC.out, show cntS x [y] = 1 by simp [cntS, HNE.out]]; go_num, ⟨by repeat (first | exact HBX.out | apply pw_below_drewN | apply below_drew1)⟩⟩
                  · have hkm2 : ¬ (k : Int) < m := by omega
                    have hkm3 : k = m := by omega
                    have h1 : cntS x (ds.take k) = 1 := by
                      rw [hkm3, ← HMM.out, List.take_length]
                      exact cntS_one HST.out HXD.out
                    rw [h1]
                    clear h1 hkm3
                    go_wp2
                    go_roundg (n - (i + 1))
                    case measure => omega
                    case rel => exact ⟨i + 1, rfl, by go_num, by omega, ⟨by repeat (first | exact HBL.out | apply pw_below_drewN | apply below_drew1)⟩⟩
              · have hin2 : ¬ (i : Int) < n := by omega
                have hmn2 : (m : Int) ≤ n := by omega
                have HB6 : Aside0 (Below w.heap.size w wr) := ⟨below_step HB5.out HBL.out⟩
                go_wp2_with (first
                  | ((with_reducible refine gate_dst (N := 90) rfl ?_); go_must (((try (refine gate_guard (by rfl) ?_; dsimp only)); refine goesL_ (some 90) rfl rfl Try.func5 (by kernel_rfl) rfl #[] rfl ?hA ?_; (case hA => ((try simp only [List.map_toArray, List.map_cons, List.map_nil]); first | done | rfl)); refine (alive04_calls _).mono ?_; rintro e w90 ⟨rfl, hb⟩; refine ⟨_, rfl, ?_⟩; replace HB6 := Aside0.mk (below_step (by repeat (first | (with_reducible first | exact HB6.out | apply below_alloc | apply pw_below_drewN | apply below_drew1) | exact HB6.out)) hb); clear hb))))
                go_ret
                exact ⟨rfl, (by repeat (first | (with_reducible first | exact HB6.out | apply below_alloc | apply pw_below_drewN | apply below_drew1) | exact HB6.out))⟩
end Go.Proofs.Ytfingknhciogkaa.K

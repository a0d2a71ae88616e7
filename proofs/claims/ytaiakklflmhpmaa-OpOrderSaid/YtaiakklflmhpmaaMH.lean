/- The law OpOrder. -/
import Derived.Test.YtaiakklflmhpmaaMF
import Derived.Test.YtaiakklflmhpmaaMG
namespace Go.Proofs.Ytaiakklflmhpmaa.K
open Go.RowKit Go.Proofs.YtaiakklflmhpmaaW.PrintWords Go.Proofs.YtaiakklflmhpmaaW.PrintLast Go.Proofs.YtaiakklflmhpmaaW.PrintMore
set_option linter.unusedVariables false
set_option linter.unusedSimpArgs false

theorem oless_yes (p q : QP) (w : World) (hp : Rd w p.b p.e.f6) (hq : Rd w q.b q.e.f6) (h : ltO (kO p) (kO q)) :
    Calls Try.prog 8 #[.agg #[.int .i64 p.e.f0, .int .i64 p.e.f1.f0, .int .i64 p.e.f1.f1, .int .i64 p.e.f2.f0, .int .i64 p.e.f2.f1, .int .i64 p.e.f3.f0, .int .i64 p.e.f3.f1, .bool p.e.f4, .string p.e.f5, .slice p.A p.e.f6.length p.c], .agg #[.int .i64 q.e.f0, .int .i64 q.e.f1.f0, .int .i64 q.e.f1.f1, .int .i64 q.e.f2.f0, .int .i64 q.e.f2.f1, .int .i64 q.e.f3.f0, .int .i64 q.e.f3.f1, .bool q.e.f4, .string q.e.f5, .slice q.A q.e.f6.length q.c]] w fun e w' => e = .returned (.bool true) ∧ Below w.heap.size w w' := by
  obtain ⟨A, c, hv, hc, hC⟩ := hp
  injection hv with h1 h2 h3
  subst h1 h3
  obtain ⟨A, c, hv, hc', hC'⟩ := hq
  injection hv with h1 h2 h3
  subst h1 h3
  have hf : X.op_Less.f 3 p.e.f0 p.e.f1.f0 p.e.f1.f1 p.e.f2.f0 p.e.f2.f1 p.e.f3.f0 p.e.f3.f1 p.e.f4 p.e.f5 p.e.f6 q.e.f0 q.e.f1.f0 q.e.f1.f1 q.e.f2.f0 q.e.f2.f1 q.e.f3.f0 q.e.f3.f1 q.e.f4 q.e.f5 q.e.f6 = some true := by
    unfold X.op_Less.f X.op_compare.f
    rw [scompare_f]
    simp only [Option.bind_some]
    show some (decide (cmO p q < 0)) = some true
    rw [decide_eq_true ((cmO_lt p q).2 h)]
  refine (X.op_Less.calls 3 p.e.f0 p.e.f1.f0 p.e.f1.f1 p.e.f2.f0 p.e.f2.f1 p.e.f3.f0 p.e.f3.f1 p.e.f4 p.e.f5 p.A p.c p.e.f6 q.e.f0 q.e.f1.f0 q.e.f1.f1 q.e.f2.f0 q.e.f2.f1 q.e.f3.f0 q.e.f3.f1 q.e.f4 q.e.f5 q.A q.c q.e.f6 _ w hC hc hC' hc' hf).mono ?_
  rintro e w' ⟨h1, h2⟩
  exact ⟨h1, by first | exact h2 | exact h2.below⟩
theorem osort_own (base gr n cap : Nat) (ss : List QP) (w : World) (h : QlR w base (.slice (some ⟨gr, 0, none⟩) n cap) ss) (hn : ss.length = n) (hl : n ≤ 60) (hd : ∀ e ∈ ss.map (·.e), e.f6.length ≤ 500) :
    Calls Try.prog 7 #[.slice (some ⟨gr, 0, none⟩) n cap] w fun e w' => OSortP w (ss.map (·.e)) e w' := by
  subst hn
  obtain ⟨A1, c1, e1, hc1, hC1⟩ := h.reads
  injection e1 with e2 _ e3
  subst e2 e3
  have hl1 : (ss.map (·.e)).length = ss.length := List.length_map _
  have := osort_calls (some ⟨gr, 0, none⟩) cap (ss.map (·.e)) w hC1 (by rw [hl1]; exact hl) hd
  rw [hl1] at this
  exact this
theorem QlR.cells {w : World} {base gr n cap : Nat} {ss : List QP} (h : QlR w base (.slice (some ⟨gr, 0, none⟩) n cap) ss) {i : Nat} {p : QP} (hp : ss[i]? = some p) : w.cell? ⟨gr, i * 10, none⟩ = some (.int .i64 p.e.f0) ∧ w.cell? ⟨gr, i * 10 + 1, none⟩ = some (.int .i64 p.e.f1.f0) ∧ w.cell? ⟨gr, i * 10 + 2, none⟩ = some (.int .i64 p.e.f1.f1) ∧ w.cell? ⟨gr, i * 10 + 3, none⟩ = some (.int .i64 p.e.f2.f0) ∧ w.cell? ⟨gr, i * 10 + 4, none⟩ = some (.int .i64 p.e.f2.f1) ∧ w.cell? ⟨gr, i * 10 + 5, none⟩ = some (.int .i64 p.e.f3.f0) ∧ w.cell? ⟨gr, i * 10 + 6, none⟩ = some (.int .i64 p.e.f3.f1) ∧ w.cell? ⟨gr, i * 10 + 7, none⟩ = some (.bool p.e.f4) ∧ w.cell? ⟨gr, i * 10 + 8, none⟩ = some (.string p.e.f5) ∧ w.cell? ⟨gr, i * 10 + 9, none⟩ = some (.slice p.A p.e.f6.length p.c) := by
  rcases h.slice with ⟨h1, _⟩ | ⟨g, cap', cur, h1, hbg, hcur, hnc, hcm, hsz, htk⟩
  · cases h1
  injection h1 with h1 h3 h2
  injection h1 with h1
  injection h1 with h1
  subst h1 h2
  exact cells_atQ hcur htk hp
theorem all15_n (w : World) (b1 b2 : Nat) (A A' : Option Addr) (c c' n : Nat) (s t : List QP) (h : QlR w b1 (.slice A s.length c) s) (h' : QlR w b2 (.slice A' n c') t) (he : s.map (·.e) = t.map (·.e)) (hn : t.length = n) (hl : n ≤ 60) (hb : ∀ e ∈ t.map (·.e), e.f6.length ≤ 500) :
    Calls Try.prog 9 #[.slice A s.length c, .slice A' n c'] w fun e w' => e = .returned (.bool true) ∧ Below w.heap.size w w' := by
  subst hn
  exact all15_calls w b1 b2 A A' c c' s t h h' he (by omega) hb
def ord_walk.T7 : Bool × List (List Nat × List Nat) := (true, [([], []), ([], []), ([1], [1]), ([0, 2], [0, 2]), ([3], [3]), ([], []), ([], []), ([5, 6], [5, 6]), ([7], [7]), ([4, 8], [4, 8]), ([9], [9])])
def ord_walk.B7 : List Nat := [0, 0, 2, 7, 15, 0, 0, 96, 224, 511, 1023]
theorem ord_walk.tab7 : rtab .any (opsOf Try.f3 7) = ord_walk.T7 := by kernel_rfl
theorem ord_walk.bits7 : waitsOk ord_walk.T7.2 ord_walk.B7 = true := by kernel_rfl
def ord_walk.T16 : Bool × List (List Nat × List Nat) := (true, [([], []), ([0], [0]), ([1], [1]), ([1], [1]), ([2, 3, 1], [1, 2, 3]), ([4, 1], [1, 4]), ([5, 1], [1, 5]), ([1], [1]), ([1], [1]), ([7, 8, 1], [1, 7, 8]), ([9, 1], [1, 9]), ([10, 1], [1, 10]), ([6, 11, 1], [1, 6, 11]), ([1, 12], [1, 12]), ([13, 1, 0, 1, 2, 3, 4, 5, 6, 7, 8, 9, 10, 11, 12, 13], [0, 13])])
def ord_walk.B16 : List Nat := [0, 1, 3, 3, 15, 31, 63, 3, 3, 387, 899, 1923, 4095, 8191, 16383]
theorem ord_walk.tab16 : rtab .any (opsOf Try.f3 16) = ord_walk.T16 := by kernel_rfl
theorem ord_walk.bits16 : waitsOk ord_walk.T16.2 ord_walk.B16 = true := by kernel_rfl
attribute [local go_sem high] X.eqA28
set_option maxRecDepth 100000 in
set_option maxHeartbeats 16000000 in
theorem ord_walk (v : Value) (l : List Oe) (w : World) (hv : ∃ A c, v = .slice A l.length c ∧ l.length ≤ c ∧ Kd.C X.k31 w A l.length l) :
    Calls Try.prog 3 #[v] w fun e w' => e = .returned (.bool true) ∧ Below w.heap.size w w' := by
  have hu := Try.underlying28
  obtain ⟨A, c, rfl, hc, hC⟩ := hv
  obtain ⟨r, h60, hlc⟩ := light15_calls w A c l hC hc
  have HC := Aside0.mk hC
  have HLC := Aside0.mk hlc
  clear hlc hC hc
  cases r
  · clear h60
    go_enter Try.func3, Try.ntmps3
    go_wp2_with (first
      | (go_at_call 5; go_must (refine HLC.out.mono ?_; rintro e w1 ⟨rfl, hb⟩; have HW1 := Aside0.mk hb; clear hb))
      | (go_at_call 6; go_must (refine (alive15_calls _).mono ?_; rintro e wz ⟨rfl, hb⟩; have HBZ := Aside0.mk (HW1.out.trans (hb.mono HW1.out.size)); clear hb)))
    go_ret
    exact ⟨rfl, HBZ.out⟩
  · have HL60 : Aside0 (l.length ≤ 60 ∧ ∀ e ∈ l, e.f6.length ≤ 500) := ⟨h60 rfl⟩
    clear h60
    go_enter Try.func3, Try.ntmps3
    go_upto_region 4 with (first
      | (go_at_call 5; go_must (refine HLC.out.mono ?_; rintro e w1 ⟨rfl, hb⟩; have HW1 := Aside0.mk hb; clear hb))
      | (go_at_call 7; go_must (refine (osort_calls A c l _ (Kd.C_below HC.out HW1.out) HL60.out.1 HL60.out.2).mono ?_; rintro e w2 ⟨gr, cap, ss, rfl, h1, h2, h3⟩; have HS := Aside0.mk h1; have HW2 := Aside0.mk (HW1.out.trans (h2.mono HW1.out.size)); have HSD := Aside0.mk h3.sd; clear h1 h2 h3)))
    obtain ⟨n, hn⟩ : ∃ n, ss.length = n := ⟨_, rfl⟩
    obtain ⟨b0, hb0⟩ : ∃ b, b = w1.heap.size := ⟨_, rfl⟩
    obtain ⟨nl, hnl⟩ : ∃ nl, l.length = nl := ⟨_, rfl⟩
    rw [hn, ← hb0] at HS
    rw [hn, hnl]
    have HN := Aside0.mk hn
    have HNL := Aside0.mk hnl
    have HLE : Aside0 (n ≤ nl ∧ nl ≤ 60) := ⟨by have h1 := HSD.out.len; have h2 := HL60.out.1; omega⟩
    have HCL : Aside0 (Kd.C X.k31 w2 A nl l) := ⟨by rw [← hnl]; exact Kd.C_below HC.out HW2.out⟩
    clear hn hb0 hnl HW1 HLC
    go_wp2
    go_loopg [4] (n + 1) (fun gg v4 wr => ∃ i : Nat, gg = n + 2 - i ∧ v4 = .int .i64 i ∧ 1 ≤ i ∧ i ≤ n + 1 ∧ Aside0 (Below w2.heap.size w2 wr))
    case atStart => exact ⟨1, by omega, rfl, Nat.le_refl _, by omega, ⟨(by repeat (first | exact Below.refl _ _ | apply pw_below_drewN | apply below_drew1))⟩⟩
    case round =>
      obtain ⟨i, hg, rfl, hi1, hi2, HB⟩ := hrel
      have HG := Aside0.mk hg
      clear hg
      by_cases hlt : i < n
      · obtain ⟨j, hj⟩ : ∃ j, j = i - 1 := ⟨_, rfl⟩
        have hle := HLE.out
        have e1 : (i : Int) - 1 = (j : Int) := by omega
        have k1 : (-1000000 : Int) ≤ (j : Int) ∧ (j : Int) ≤ 1000000 := by omega
        have e2 : (i : Int) + 1 = ((i + 1 : Nat) : Int) := by omega
        have k2 : (-1000000 : Int) ≤ ((i + 1 : Nat) : Int) ∧ ((i + 1 : Nat) : Int) ≤ 1000000 := by omega
        have q1 : (0 : Int) ≤ i := by omega
        have q2 : (i : Int) < n := by omega
        have q3 : (0 : Int) ≤ j := by omega
        have q4 : (j : Int) < n := by omega
        obtain ⟨x, hx⟩ : ∃ x, ss[j]? = some x := ⟨_, List.getElem?_eq_getElem (by have := HN.out; omega)⟩
        obtain ⟨y, hy⟩ : ∃ y, ss[i]? = some y := ⟨_, List.getElem?_eq_getElem (by have := HN.out; omega)⟩
        have HX := Aside0.mk hx
        have HY := Aside0.mk hy
        have HLT : Aside0 (ltO (kO x) (kO y)) := ⟨HSD.out.st.at hx (by rw [hj, show i - 1 + 1 = i by omega]; exact hy)⟩
        have HE2 := Aside0.mk (And.intro e2 k2)
        have HIN : Aside0 (i < n) := ⟨hlt⟩
        have hw1 := iw e1 k1
        have hw2 := w64 e1 k1
        clear hj hle e1 k1 e2 k2 hi1 hi2 hlt hx hy
        go_upto_region 7 with fail
        refine gen_world (fun wx hwx => ?_)
        have HBX : Aside0 (Below w2.heap.size w2 wx) := ⟨by rw [hwx]; first | exact HB.out | exact below_step HB.out (by repeat (first | exact Below.refl _ _ | apply pw_below_drewN | apply below_drew1))⟩
        clear hwx
        have HSX := Aside0.mk (HS.out.below HBX.out)
        have HRX : Aside0 (Rd wx x.b x.e.f6) := ⟨Own.rd (HSX.out.bod x (List.mem_of_getElem? HX.out))⟩
        have HRY : Aside0 (Rd wx y.b y.e.f6) := ⟨Own.rd (HSX.out.bod y (List.mem_of_getElem? HY.out))⟩
        obtain ⟨x0, x1, x2, x3, x4, x5, x6, x7, x8, x9⟩ := HSX.out.cells HX.out
        obtain ⟨y0, y1, y2, y3, y4, y5, y6, y7, y8, y9⟩ := HSX.out.cells HY.out
        refine start_ (n := 11) (S := fun w' => w'.cell? ⟨gr, j * 10, none⟩ = some (.int .i64 x.e.f0) ∧ w'.cell? ⟨gr, j * 10 + 1, none⟩ = some (.int .i64 x.e.f1.f0) ∧ w'.cell? ⟨gr, j * 10 + 2, none⟩ = some (.int .i64 x.e.f1.f1) ∧ w'.cell? ⟨gr, j * 10 + 3, none⟩ = some (.int .i64 x.e.f2.f0) ∧ w'.cell? ⟨gr, j * 10 + 4, none⟩ = some (.int .i64 x.e.f2.f1) ∧ w'.cell? ⟨gr, j * 10 + 5, none⟩ = some (.int .i64 x.e.f3.f0) ∧ w'.cell? ⟨gr, j * 10 + 6, none⟩ = some (.int .i64 x.e.f3.f1) ∧ w'.cell? ⟨gr, j * 10 + 7, none⟩ = some (.bool x.e.f4) ∧ w'.cell? ⟨gr, j * 10 + 8, none⟩ = some (.string x.e.f5) ∧ w'.cell? ⟨gr, j * 10 + 9, none⟩ = some (.slice x.A x.e.f6.length x.c) ∧ w'.cell? ⟨gr, i * 10, none⟩ = some (.int .i64 y.e.f0) ∧ w'.cell? ⟨gr, i * 10 + 1, none⟩ = some (.int .i64 y.e.f1.f0) ∧ w'.cell? ⟨gr, i * 10 + 2, none⟩ = some (.int .i64 y.e.f1.f1) ∧ w'.cell? ⟨gr, i * 10 + 3, none⟩ = some (.int .i64 y.e.f2.f0) ∧ w'.cell? ⟨gr, i * 10 + 4, none⟩ = some (.int .i64 y.e.f2.f1) ∧ w'.cell? ⟨gr, i * 10 + 5, none⟩ = some (.int .i64 y.e.f3.f0) ∧ w'.cell? ⟨gr, i * 10 + 6, none⟩ = some (.int .i64 y.e.f3.f1) ∧ w'.cell? ⟨gr, i * 10 + 7, none⟩ = some (.bool y.e.f4) ∧ w'.cell? ⟨gr, i * 10 + 8, none⟩ = some (.string y.e.f5) ∧ w'.cell? ⟨gr, i * 10 + 9, none⟩ = some (.slice y.A y.e.f6.length y.c)) (ds := []) #[false, false, false, false, false, false, false, false, false, false, false] (by kernel_rfl) rfl rfl ⟨x0, x1, x2, x3, x4, x5, x6, x7, x8, x9, y0, y1, y2, y3, y4, y5, y6, y7, y8, y9⟩ (fun hHeld => ?_)
        refine with_tabW ord_walk.tab7 ord_walk.bits7 (fun HT_ HW_ => ?_)
        refine pure_ (i := 0) (N := some 20) (v := ?_) (a' := ?_) #[true, false, false, false, false, false, false, false, false, false, false] rfl rfl (any_of HT_.out (by kernel_rfl)) (fun _ _ _ h => h) (Or.inl ⟨by rfl, ?_⟩) ?_ ?_
        rotate_left
        · intro w'
          go_simp
          with_reducible rfl
        rotate_left
        · simp only [Act.put, List.setIfInBounds_toArray, List.set_cons_zero, List.set_cons_succ, i64_w, i32_w]
          rfl
        refine pure_ (i := 1) (N := some 21) (v := ?_) (a' := ?_) #[true, true, false, false, false, false, false, false, false, false, false] rfl rfl (any_of HT_.out (by kernel_rfl)) (fun _ _ _ h => h) (Or.inl ⟨by rfl, ?_⟩) ?_ ?_
        rotate_left
        · intro w'
          go_simp
          with_reducible rfl
        rotate_left
        · simp only [Act.put, List.setIfInBounds_toArray, List.set_cons_zero, List.set_cons_succ, i64_w, i32_w]
          rfl
        refine pure_ (i := 2) (N := some 22) (v := ?_) (a' := ?_) #[true, true, true, false, false, false, false, false, false, false, false] rfl rfl (any_of HT_.out (by kernel_rfl)) (fun _ _ _ h => h) (Or.inl ⟨by rfl, ?_⟩) ?_ ?_
        rotate_left
        · intro w'
          go_simp
          with_reducible rfl
        rotate_left
        · simp only [Act.put, List.setIfInBounds_toArray, List.set_cons_zero, List.set_cons_succ, i64_w, i32_w]
          rfl
        refine pure_ (i := 3) (N := some 23) (v := ?_) (a' := ?_) #[true, true, true, true, false, false, false, false, false, false, false] rfl rfl (any_of HT_.out (by kernel_rfl)) (fun _ _ _ h => h) (Or.inl ⟨by rfl, ?_⟩) ?_ ?_
        rotate_left
        · intro w'
          go_simp
          with_reducible rfl
        rotate_left
        · simp only [Act.put, List.setIfInBounds_toArray, List.set_cons_zero, List.set_cons_succ, i64_w, i32_w]
          rfl
        refine pure_ (i := 5) (N := some 25) (v := ?_) (a' := ?_) #[true, true, true, true, false, true, false, false, false, false, false] rfl rfl (any_of HT_.out (by kernel_rfl)) (fun _ _ _ h => h) (Or.inl ⟨by rfl, ?_⟩) ?_ ?_
        rotate_left
        · intro w'
          go_simp
          with_reducible rfl
        rotate_left
        · simp only [Act.put, List.setIfInBounds_toArray, List.set_cons_zero, List.set_cons_succ, i64_w, i32_w]
          rfl
        refine pure_ (i := 6) (N := some 26) (v := ?_) (a' := ?_) #[true, true, true, true, false, true, true, false, false, false, false] rfl rfl (any_of HT_.out (by kernel_rfl)) (fun _ _ _ h => h) (Or.inl ⟨by rfl, ?_⟩) ?_ ?_
        rotate_left
        · intro w'
          go_simp
          with_reducible rfl
        rotate_left
        · simp only [Act.put, List.setIfInBounds_toArray, List.set_cons_zero, List.set_cons_succ, i64_w, i32_w]
          rfl
        refine pure_ (i := 7) (N := some 27) (v := ?_) (a' := ?_) #[true, true, true, true, false, true, true, true, false, false, false] rfl rfl (any_of HT_.out (by kernel_rfl)) (fun _ _ _ h => h) (Or.inl ⟨by rfl, ?_⟩) ?_ ?_
        rotate_left
        · intro w'
          go_simp
          with_reducible rfl
        rotate_left
        · simp only [Act.put, List.setIfInBounds_toArray, List.set_cons_zero, List.set_cons_succ, i64_w, i32_w]
          rfl
        refine take_ (i := 4) (N := some 24) (v := ?_) (a' := ?_) #[true, true, true, true, true, true, true, true, false, false, false] rfl rfl (take_ofW HT_.out HW_.out (by kernel_rfl)) (fun _ _ _ h => h) (Or.inl ⟨by rfl, ?_⟩) hHeld ?_ ?_
        rotate_left
        · rintro w' ⟨s0, s1, s2, s3, s4, s5, s6, s7, s8, s9, s10, s11, s12, s13, s14, s15, s16, s17, s18, s19⟩
          go_simp
          with_reducible rfl
        rotate_left
        · simp only [Act.put, List.setIfInBounds_toArray, List.set_cons_zero, List.set_cons_succ, i64_w, i32_w]
          rfl
        refine take_ (i := 8) (N := some 28) (v := ?_) (a' := ?_) #[true, true, true, true, true, true, true, true, true, false, false] rfl rfl (take_ofW HT_.out HW_.out (by kernel_rfl)) (fun _ _ _ h => h) (Or.inl ⟨by rfl, ?_⟩) hHeld ?_ ?_
        rotate_left
        · rintro w' ⟨s0, s1, s2, s3, s4, s5, s6, s7, s8, s9, s10, s11, s12, s13, s14, s15, s16, s17, s18, s19⟩
          go_simp
          with_reducible rfl
        rotate_left
        · simp only [Act.put, List.setIfInBounds_toArray, List.set_cons_zero, List.set_cons_succ, i64_w, i32_w]
          rfl
        refine one_ (i := 9) (N := some 29) #[true, true, true, true, true, true, true, true, true, true, false] rfl rfl (one_of HT_.out (by kernel_rfl)) (by decide) (fun K hK => ?_)
        refine goes_ Try.func8 (by kernel_rfl) rfl #[.agg #[.int .i64 x.e.f0, .int .i64 x.e.f1.f0, .int .i64 x.e.f1.f1, .int .i64 x.e.f2.f0, .int .i64 x.e.f2.f1, .int .i64 x.e.f3.f0, .int .i64 x.e.f3.f1, .bool x.e.f4, .string x.e.f5, .slice x.A x.e.f6.length x.c], .agg #[.int .i64 y.e.f0, .int .i64 y.e.f1.f0, .int .i64 y.e.f1.f1, .int .i64 y.e.f2.f0, .int .i64 y.e.f2.f1, .int .i64 y.e.f3.f0, .int .i64 y.e.f3.f1, .bool y.e.f4, .string y.e.f5, .slice y.A y.e.f6.length y.c]] (by rfl) rfl rfl (by simp only [List.map_toArray, List.map_cons, List.map_nil]; rfl) ?_
        with_reducible refine (oless_yes x y _ (HRX.out.below (below_drew1 (Below.refl _ _))) (HRY.out.below (below_drew1 (Below.refl _ _))) HLT.out).mono ?_
        rintro e w3 ⟨rfl, hb3⟩
        refine ⟨_, rfl, ?_⟩
        refine hK.out _ _ ⟨(pw_cell_below hb3 x0), (pw_cell_below hb3 x1), (pw_cell_below hb3 x2), (pw_cell_below hb3 x3), (pw_cell_below hb3 x4), (pw_cell_below hb3 x5), (pw_cell_below hb3 x6), (pw_cell_below hb3 x7), (pw_cell_below hb3 x8), (pw_cell_below hb3 x9), (pw_cell_below hb3 y0), (pw_cell_below hb3 y1), (pw_cell_below hb3 y2), (pw_cell_below hb3 y3), (pw_cell_below hb3 y4), (pw_cell_below hb3 y5), (pw_cell_below hb3 y6), (pw_cell_below hb3 y7), (pw_cell_below hb3 y8), (pw_cell_below hb3 y9)⟩ (fun hHeld => ?_)
        clear hK K
        refine norm_ (a' := ?_) ?_ ?_
        rotate_left
        · show Act.put _ (some 29) _ = _
          simp only [Act.put, List.setIfInBounds_toArray, List.set_cons_zero, List.set_cons_succ, i64_w, i32_w]
          rfl
        refine pure_ (i := 10) (N := some 30) (v := ?_) (a' := ?_) #[true, true, true, true, true, true, true, true, true, true, true] rfl rfl (any_of HT_.out (by kernel_rfl)) (fun _ _ _ h => h) (Or.inl ⟨by rfl, ?_⟩) ?_ ?_
        rotate_left
        · intro w'
          go_simp
          with_reducible rfl
        rotate_left
        · simp only [Act.put, List.setIfInBounds_toArray, List.set_cons_zero, List.set_cons_succ, i64_w, i32_w]
          rfl
        refine done_ (done_of HT_.out (by kernel_rfl)) ?_
        have HB3 : Aside0 (Below w2.heap.size w2 w3) := ⟨below_step (below_drew1 HBX.out) hb3⟩
        clear hb3 HSX HRX HRY x0 x1 x2 x3 x4 x5 x6 x7 x8 x9 y0 y1 y2 y3 y4 y5 y6 y7 y8 y9 hw1 hw2 HBX HB
        have hw1 := iw HE2.out.1 HE2.out.2
        have hw2 := w64 HE2.out.1 HE2.out.2
        go_wp2
        clear hw1 hw2
        go_roundg (n + 2 - (i + 1))
        case measure => rw [HG.out]; have := HIN.out; omega
        case rel => exact ⟨i + 1, rfl, rfl, by omega, by have := HIN.out; omega, ⟨below_step HB3.out (by repeat (first | exact Below.refl _ _ | apply pw_below_drewN | apply below_drew1))⟩⟩
      · have q2 : ¬ (i : Int) < n := by omega
        clear hi1 hi2 hlt HG
        go_wp2
        clear q2
        go_loopg [5] nl (fun gg v5 wr => ∃ i : Nat, gg = nl - i ∧ v5 = .int .i64 i ∧ i ≤ nl ∧ Aside0 (Below w2.heap.size w2 wr))
        case atStart => exact ⟨0, rfl, rfl, Nat.zero_le _, ⟨below_step HB.out (by repeat (first | exact Below.refl _ _ | apply pw_below_drewN | apply below_drew1))⟩⟩
        case round =>
          clear HB
          obtain ⟨i, hg, rfl, hi, HB⟩ := hrel
          have HG := Aside0.mk hg
          clear hg
          by_cases hlt : i < nl
          · have hle := HLE.out
            have e2 : (i : Int) + 1 = ((i + 1 : Nat) : Int) := by omega
            have k2 : (-1000000 : Int) ≤ ((i + 1 : Nat) : Int) ∧ ((i + 1 : Nat) : Int) ≤ 1000000 := by omega
            have q1 : (0 : Int) ≤ i := by omega
            have q2 : (i : Int) < nl := by omega
            obtain ⟨ad, y, hA, hye, -, y0, y1, y2, y3, y4, y5, y6, y7, y8, y9⟩ := opq_at (by rw [HNL.out]; exact HCL.out) (i := i) (by rw [HNL.out]; exact hlt)
            subst hA
            have HYE := Aside0.mk hye
            have HE2 := Aside0.mk (And.intro e2 k2)
            have HIN : Aside0 (i < nl) := ⟨hlt⟩
            have HY1 := Aside0.mk y1
            have HY2 := Aside0.mk y2
            clear y0 y1 y2 y3 y4 y5 y6 y7 y8 y9 hle e2 k2 hi hlt hye
            go_wp2
            go_loopg [6, 7] n (fun gi v6 v7 wi => ∃ (k : Nat) (b : Bool), gi = n - k ∧ v6 = .bool b ∧ v7 = .int .i64 k ∧ k ≤ n ∧ Aside0 (b = false → ∀ (k' : Nat) (s : QP), k' < k → ss[k']? = some s → kO s ≠ keO y.e) ∧ Aside0 (Below w2.heap.size w2 wi))
            case atStart => exact ⟨0, false, rfl, rfl, rfl, Nat.zero_le _, ⟨fun _ k' s hk => absurd hk (Nat.not_lt_zero _)⟩, ⟨below_step HB.out (by repeat (first | exact Below.refl _ _ | apply pw_below_drewN | apply below_drew1))⟩⟩
            case round =>
              clear HB
              obtain ⟨k, b, hg2, rfl, rfl, hk, HK, HB⟩ := hrel
              have HG2 := Aside0.mk hg2
              clear hg2
              by_cases hkn : k < n
              · have hle := HLE.out
                have e3 : (k : Int) + 1 = ((k + 1 : Nat) : Int) := by omega
                have k3 : (-1000000 : Int) ≤ ((k + 1 : Nat) : Int) ∧ ((k + 1 : Nat) : Int) ≤ 1000000 := by omega
                have q3 : (0 : Int) ≤ k := by omega
                have q4 : (k : Int) < n := by omega
                have HE3 := Aside0.mk (And.intro e3 k3)
                have HKN : Aside0 (k < n) := ⟨hkn⟩
                obtain ⟨x, hx⟩ : ∃ x, ss[k]? = some x := ⟨_, List.getElem?_eq_getElem (by have := HN.out; omega)⟩
                have HX := Aside0.mk hx
                clear hle e3 k3 hk hkn hx
                cases b
                · go_upto_region 16 with fail
                  refine gen_world (fun wx hwx => ?_)
                  have HBX : Aside0 (Below w2.heap.size w2 wx) := ⟨by rw [hwx]; first | exact HB.out | exact below_step HB.out (by repeat (first | exact Below.refl _ _ | apply pw_below_drewN | apply below_drew1))⟩
                  clear hwx
                  obtain ⟨x0, x1, x2, x3, x4, x5, x6, x7, x8, x9⟩ := (HS.out.below HBX.out).cells HX.out
                  have y1 := pw_cell_below HBX.out HY1.out
                  have y2 := pw_cell_below HBX.out HY2.out
                  refine start_ (n := 15) (S := fun w' => w'.cell? ⟨gr, k * 10 + 1, none⟩ = some (.int .i64 x.e.f1.f0) ∧ w'.cell? ⟨gr, k * 10 + 2, none⟩ = some (.int .i64 x.e.f1.f1) ∧ w'.cell? ⟨(ad.add (i * 10)).block, (ad.add (i * 10)).off + 1, none⟩ = some (.int .i64 y.e.f1.f0) ∧ w'.cell? ⟨(ad.add (i * 10)).block, (ad.add (i * 10)).off + 2, none⟩ = some (.int .i64 y.e.f1.f1)) (ds := []) #[false, false, false, false, false, false, false, false, false, false, false, false, false, false, false] (by kernel_rfl) rfl rfl ⟨x1, x2, y1, y2⟩ (fun hHeld => ?_)
                  refine with_tabW ord_walk.tab16 ord_walk.bits16 (fun HT_ HW_ => ?_)
                  refine pure_ (i := 0) (N := some 43) (v := ?_) (a' := ?_) #[true, false, false, false, false, false, false, false, false, false, false, false, false, false, false] rfl rfl (any_of HT_.out (by kernel_rfl)) (fun _ _ _ h => h) (Or.inl ⟨by rfl, ?_⟩) ?_ ?_
                  rotate_left
                  · intro w'
                    go_simp
                    with_reducible rfl
                  rotate_left
                  · simp only [Act.put, List.setIfInBounds_toArray, List.set_cons_zero, List.set_cons_succ, i64_w, i32_w]
                    rfl
                  refine pure_ (i := 1) (N := some 44) (v := ?_) (a' := ?_) #[true, true, false, false, false, false, false, false, false, false, false, false, false, false, false] rfl rfl (any_of HT_.out (by kernel_rfl)) (fun _ _ _ h => h) (Or.inl ⟨by rfl, ?_⟩) ?_ ?_
                  rotate_left
                  · intro w'
                    go_simp
                    with_reducible rfl
                  rotate_left
                  · simp only [Act.put, List.setIfInBounds_toArray, List.set_cons_zero, List.set_cons_succ, i64_w, i32_w]
                    rfl
                  refine pure_ (i := 2) (N := some 45) (v := ?_) (a' := ?_) #[true, true, true, false, false, false, false, false, false, false, false, false, false, false, false] rfl rfl (any_of HT_.out (by kernel_rfl)) (fun _ _ _ h => h) (Or.inl ⟨by rfl, ?_⟩) ?_ ?_
                  rotate_left
                  · intro w'
                    go_simp
                    with_reducible rfl
                  rotate_left
                  · simp only [Act.put, List.setIfInBounds_toArray, List.set_cons_zero, List.set_cons_succ, i64_w, i32_w]
                    rfl
                  refine pure_ (i := 3) (N := some 46) (v := ?_) (a' := ?_) #[true, true, true, true, false, false, false, false, false, false, false, false, false, false, false] rfl rfl (any_of HT_.out (by kernel_rfl)) (fun _ _ _ h => h) (Or.inl ⟨by rfl, ?_⟩) ?_ ?_
                  rotate_left
                  · intro w'
                    go_simp
                    with_reducible rfl
                  rotate_left
                  · simp only [Act.put, List.setIfInBounds_toArray, List.set_cons_zero, List.set_cons_succ, i64_w, i32_w]
                    rfl
                  refine pure_ (i := 4) (N := some 47) (v := ?_) (a' := ?_) #[true, true, true, true, true, false, false, false, false, false, false, false, false, false, false] rfl rfl (any_of HT_.out (by kernel_rfl)) (fun _ _ _ h => h) (Or.inl ⟨by rfl, ?_⟩) ?_ ?_
                  rotate_left
                  · intro w'
                    go_simp
                    with_reducible rfl
                  rotate_left
                  · simp only [Act.put, List.setIfInBounds_toArray, List.set_cons_zero, List.set_cons_succ, i64_w, i32_w]
                    rfl
                  refine pure_ (i := 5) (N := some 48) (v := ?_) (a' := ?_) #[true, true, true, true, true, true, false, false, false, false, false, false, false, false, false] rfl rfl (any_of HT_.out (by kernel_rfl)) (fun _ _ _ h => h) (Or.inl ⟨by rfl, ?_⟩) ?_ ?_
                  rotate_left
                  · intro w'
                    go_simp
                    with_reducible rfl
                  rotate_left
                  · simp only [Act.put, List.setIfInBounds_toArray, List.set_cons_zero, List.set_cons_succ, i64_w, i32_w]
                    rfl
                  refine pure_ (i := 7) (N := some 50) (v := ?_) (a' := ?_) #[true, true, true, true, true, true, false, true, false, false, false, false, false, false, false] rfl rfl (any_of HT_.out (by kernel_rfl)) (fun _ _ _ h => h) (Or.inl ⟨by rfl, ?_⟩) ?_ ?_
                  rotate_left
                  · intro w'
                    go_simp
                    with_reducible rfl
                  rotate_left
                  · simp only [Act.put, List.setIfInBounds_toArray, List.set_cons_zero, List.set_cons_succ, i64_w, i32_w]
                    rfl
                  refine pure_ (i := 8) (N := some 51) (v := ?_) (a' := ?_) #[true, true, true, true, true, true, false, true, true, false, false, false, false, false, false] rfl rfl (any_of HT_.out (by kernel_rfl)) (fun _ _ _ h => h) (Or.inl ⟨by rfl, ?_⟩) ?_ ?_
                  rotate_left
                  · intro w'
                    go_simp
                    with_reducible rfl
                  rotate_left
                  · simp only [Act.put, List.setIfInBounds_toArray, List.set_cons_zero, List.set_cons_succ, i64_w, i32_w]
                    rfl
                  refine pure_ (i := 9) (N := some 52) (v := ?_) (a' := ?_) #[true, true, true, true, true, true, false, true, true, true, false, false, false, false, false] rfl rfl (any_of HT_.out (by kernel_rfl)) (fun _ _ _ h => h) (Or.inl ⟨by rfl, ?_⟩) ?_ ?_
                  rotate_left
                  · intro w'
                    go_simp
                    with_reducible rfl
                  rotate_left
                  · simp only [Act.put, List.setIfInBounds_toArray, List.set_cons_zero, List.set_cons_succ, i64_w, i32_w]
                    rfl
                  refine pure_ (i := 10) (N := some 53) (v := ?_) (a' := ?_) #[true, true, true, true, true, true, false, true, true, true, true, false, false, false, false] rfl rfl (any_of HT_.out (by kernel_rfl)) (fun _ _ _ h => h) (Or.inl ⟨by rfl, ?_⟩) ?_ ?_
                  rotate_left
                  · intro w'
                    go_simp
                    with_reducible rfl
                  rotate_left
                  · simp only [Act.put, List.setIfInBounds_toArray, List.set_cons_zero, List.set_cons_succ, i64_w, i32_w]
                    rfl
                  refine take_ (i := 6) (N := some 49) (v := ?_) (a' := ?_) #[true, true, true, true, true, true, true, true, true, true, true, false, false, false, false] rfl rfl (take_ofW HT_.out HW_.out (by kernel_rfl)) (fun _ _ _ h => h) (Or.inl ⟨by rfl, ?_⟩) hHeld ?_ ?_
                  rotate_left
                  · rintro w' ⟨s0, s1, s2, s3⟩
                    go_simp
                    with_reducible rfl
                  rotate_left
                  · simp only [Act.put, List.setIfInBounds_toArray, List.set_cons_zero, List.set_cons_succ, i64_w, i32_w]
                    rfl
                  refine take_ (i := 11) (N := some 54) (v := ?_) (a' := ?_) #[true, true, true, true, true, true, true, true, true, true, true, true, false, false, false] rfl rfl (take_ofW HT_.out HW_.out (by kernel_rfl)) (fun _ _ _ h => h) (Or.inl ⟨by rfl, ?_⟩) hHeld ?_ ?_
                  rotate_left
                  · rintro w' ⟨s0, s1, s2, s3⟩
                    go_simp
                    with_reducible rfl
                  rotate_left
                  · simp only [Act.put, List.setIfInBounds_toArray, List.set_cons_zero, List.set_cons_succ, i64_w, i32_w]
                    rfl
                  refine pure_ (i := 12) (N := some 55) (v := ?_) (a' := ?_) #[true, true, true, true, true, true, true, true, true, true, true, true, true, false, false] rfl rfl (any_of HT_.out (by kernel_rfl)) (fun _ _ _ h => h) (Or.inl ⟨by rfl, ?_⟩) ?_ ?_
                  rotate_left
                  · intro w'
                    go_simp
                    with_reducible rfl
                  rotate_left
                  · simp only [Act.put, List.setIfInBounds_toArray, List.set_cons_zero, List.set_cons_succ, i64_w, i32_w]
                    rfl
                  refine pure_ (i := 13) (N := some 56) (v := ?_) (a' := ?_) #[true, true, true, true, true, true, true, true, true, true, true, true, true, true, false] rfl rfl (any_of HT_.out (by kernel_rfl)) (fun _ _ _ h => h) (Or.inl ⟨by rfl, ?_⟩) ?_ ?_
                  rotate_left
                  · intro w'
                    go_simp
                    with_reducible rfl
                  rotate_left
                  · simp only [Act.put, List.setIfInBounds_toArray, List.set_cons_zero, List.set_cons_succ, i64_w, i32_w]
                    rfl
                  refine pure_ (i := 14) (N := some 6) (v := ?_) (a' := ?_) #[true, true, true, true, true, true, true, true, true, true, true, true, true, true, true] rfl rfl (any_of HT_.out (by kernel_rfl)) (fun _ _ _ h => h) (Or.inl ⟨by rfl, ?_⟩) ?_ ?_
                  rotate_left
                  · intro w'
                    go_simp
                    with_reducible rfl
                  rotate_left
                  · simp only [Act.put, List.setIfInBounds_toArray, List.set_cons_zero, List.set_cons_succ, i64_w, i32_w]
                    rfl
                  refine done_ (done_of HT_.out (by kernel_rfl)) ?_
                  clear x0 x3 x4 x5 x6 x7 x8 x9 x1 x2 y1 y2
                  have hw1 := iw HE3.out.1 HE3.out.2
                  have hw2 := w64 HE3.out.1 HE3.out.2
                  go_wp2
                  clear hw1 hw2
                  go_roundg (n - (k + 1))
                  case measure => rw [HG2.out]; have := HKN.out; omega
                  case rel => exact ⟨k + 1, (x.e.f1.f0 == y.e.f1.f0 && x.e.f1.f1 == y.e.f1.f1), rfl, rfl, rfl, by have := HKN.out; omega, ⟨fun hf k' s hk hs => by
                    by_cases hkk : k' = k
                    · rw [hkk, HX.out] at hs
                      injection hs with hs
                      rw [← hs]
                      intro e
                      simp only [kO, keO, Prod.mk.injEq] at e
                      simp [e.1, e.2] at hf
                    · exact HK.out (by trivial) k' s (by omega) hs⟩, ⟨below_step (below_drew1 HBX.out) (by repeat (first | exact Below.refl _ _ | apply pw_below_drewN | apply below_drew1))⟩⟩
                · go_upto_region 16 with fail
                  refine gen_world (fun wx hwx => ?_)
                  have HBX : Aside0 (Below w2.heap.size w2 wx) := ⟨by rw [hwx]; first | exact HB.out | exact below_step HB.out (by repeat (first | exact Below.refl _ _ | apply pw_below_drewN | apply below_drew1))⟩
                  clear hwx
                  refine start_ (n := 15) (S := fun w' => True) (ds := []) #[false, false, false, false, false, false, false, false, false, false, false, false, false, false, false] (by kernel_rfl) rfl rfl trivial (fun hHeld => ?_)
                  refine with_tabW ord_walk.tab16 ord_walk.bits16 (fun HT_ HW_ => ?_)
                  refine pure_ (i := 0) (N := some 43) (v := ?_) (a' := ?_) #[true, false, false, false, false, false, false, false, false, false, false, false, false, false, false] rfl rfl (any_of HT_.out (by kernel_rfl)) (fun _ _ _ h => h) (Or.inl ⟨by rfl, ?_⟩) ?_ ?_
                  rotate_left
                  · intro w'
                    go_simp
                    with_reducible rfl
                  rotate_left
                  · simp only [Act.put, List.setIfInBounds_toArray, List.set_cons_zero, List.set_cons_succ, i64_w, i32_w]
                    rfl
                  refine pure_ (i := 1) (N := some 44) (v := ?_) (a' := ?_) #[true, true, false, false, false, false, false, false, false, false, false, false, false, false, false] rfl rfl (any_of HT_.out (by kernel_rfl)) (fun _ _ _ h => h) (Or.inl ⟨by rfl, ?_⟩) ?_ ?_
                  rotate_left
                  · intro w'
                    go_simp
                    with_reducible rfl
                  rotate_left
                  · simp only [Act.put, List.setIfInBounds_toArray, List.set_cons_zero, List.set_cons_succ, i64_w, i32_w]
                    rfl
                  refine pure_ (i := 2) (N := some 45) (v := undef) (a' := ?_) #[true, true, true, false, false, false, false, false, false, false, false, false, false, false, false] rfl rfl (any_of HT_.out (by kernel_rfl)) (fun _ _ _ h => h) (Or.inr ⟨by rfl, rfl⟩) ?_ ?_
                  rotate_left
                  · simp only [Act.put, List.setIfInBounds_toArray, List.set_cons_zero, List.set_cons_succ, i64_w, i32_w]
                    rfl
                  refine pure_ (i := 3) (N := some 46) (v := undef) (a' := ?_) #[true, true, true, true, false, false, false, false, false, false, false, false, false, false, false] rfl rfl (any_of HT_.out (by kernel_rfl)) (fun _ _ _ h => h) (Or.inr ⟨by rfl, rfl⟩) ?_ ?_
                  rotate_left
                  · simp only [Act.put, List.setIfInBounds_toArray, List.set_cons_zero, List.set_cons_succ, i64_w, i32_w]
                    rfl
                  refine pure_ (i := 4) (N := some 47) (v := undef) (a' := ?_) #[true, true, true, true, true, false, false, false, false, false, false, false, false, false, false] rfl rfl (any_of HT_.out (by kernel_rfl)) (fun _ _ _ h => h) (Or.inr ⟨by rfl, rfl⟩) ?_ ?_
                  rotate_left
                  · simp only [Act.put, List.setIfInBounds_toArray, List.set_cons_zero, List.set_cons_succ, i64_w, i32_w]
                    rfl
                  refine pure_ (i := 5) (N := some 48) (v := undef) (a' := ?_) #[true, true, true, true, true, true, false, false, false, false, false, false, false, false, false] rfl rfl (any_of HT_.out (by kernel_rfl)) (fun _ _ _ h => h) (Or.inr ⟨by rfl, rfl⟩) ?_ ?_
                  rotate_left
                  · simp only [Act.put, List.setIfInBounds_toArray, List.set_cons_zero, List.set_cons_succ, i64_w, i32_w]
                    rfl
                  refine pure_ (i := 6) (N := some 49) (v := undef) (a' := ?_) #[true, true, true, true, true, true, true, false, false, false, false, false, false, false, false] rfl rfl (any_of HT_.out (by kernel_rfl)) (fun _ _ _ h => h) (Or.inr ⟨by rfl, rfl⟩) ?_ ?_
                  rotate_left
                  · simp only [Act.put, List.setIfInBounds_toArray, List.set_cons_zero, List.set_cons_succ, i64_w, i32_w]
                    rfl
                  refine pure_ (i := 7) (N := some 50) (v := undef) (a' := ?_) #[true, true, true, true, true, true, true, true, false, false, false, false, false, false, false] rfl rfl (any_of HT_.out (by kernel_rfl)) (fun _ _ _ h => h) (Or.inr ⟨by rfl, rfl⟩) ?_ ?_
                  rotate_left
                  · simp only [Act.put, List.setIfInBounds_toArray, List.set_cons_zero, List.set_cons_succ, i64_w, i32_w]
                    rfl
                  refine pure_ (i := 8) (N := some 51) (v := undef) (a' := ?_) #[true, true, true, true, true, true, true, true, true, false, false, false, false, false, false] rfl rfl (any_of HT_.out (by kernel_rfl)) (fun _ _ _ h => h) (Or.inr ⟨by rfl, rfl⟩) ?_ ?_
                  rotate_left
                  · simp only [Act.put, List.setIfInBounds_toArray, List.set_cons_zero, List.set_cons_succ, i64_w, i32_w]
                    rfl
                  refine pure_ (i := 9) (N := some 52) (v := undef) (a' := ?_) #[true, true, true, true, true, true, true, true, true, true, false, false, false, false, false] rfl rfl (any_of HT_.out (by kernel_rfl)) (fun _ _ _ h => h) (Or.inr ⟨by rfl, rfl⟩) ?_ ?_
                  rotate_left
                  · simp only [Act.put, List.setIfInBounds_toArray, List.set_cons_zero, List.set_cons_succ, i64_w, i32_w]
                    rfl
                  refine pure_ (i := 10) (N := some 53) (v := undef) (a' := ?_) #[true, true, true, true, true, true, true, true, true, true, true, false, false, false, false] rfl rfl (any_of HT_.out (by kernel_rfl)) (fun _ _ _ h => h) (Or.inr ⟨by rfl, rfl⟩) ?_ ?_
                  rotate_left
                  · simp only [Act.put, List.setIfInBounds_toArray, List.set_cons_zero, List.set_cons_succ, i64_w, i32_w]
                    rfl
                  refine pure_ (i := 11) (N := some 54) (v := undef) (a' := ?_) #[true, true, true, true, true, true, true, true, true, true, true, true, false, false, false] rfl rfl (any_of HT_.out (by kernel_rfl)) (fun _ _ _ h => h) (Or.inr ⟨by rfl, rfl⟩) ?_ ?_
                  rotate_left
                  · simp only [Act.put, List.setIfInBounds_toArray, List.set_cons_zero, List.set_cons_succ, i64_w, i32_w]
                    rfl
                  refine pure_ (i := 12) (N := some 55) (v := undef) (a' := ?_) #[true, true, true, true, true, true, true, true, true, true, true, true, true, false, false] rfl rfl (any_of HT_.out (by kernel_rfl)) (fun _ _ _ h => h) (Or.inr ⟨by rfl, rfl⟩) ?_ ?_
                  rotate_left
                  · simp only [Act.put, List.setIfInBounds_toArray, List.set_cons_zero, List.set_cons_succ, i64_w, i32_w]
                    rfl
                  refine pure_ (i := 13) (N := some 56) (v := ?_) (a' := ?_) #[true, true, true, true, true, true, true, true, true, true, true, true, true, true, false] rfl rfl (any_of HT_.out (by kernel_rfl)) (fun _ _ _ h => h) (Or.inl ⟨by rfl, ?_⟩) ?_ ?_
                  rotate_left
                  · intro w'
                    go_simp
                    with_reducible rfl
                  rotate_left
                  · simp only [Act.put, List.setIfInBounds_toArray, List.set_cons_zero, List.set_cons_succ, i64_w, i32_w]
                    rfl
                  refine pure_ (i := 14) (N := some 6) (v := ?_) (a' := ?_) #[true, true, true, true, true, true, true, true, true, true, true, true, true, true, true] rfl rfl (any_of HT_.out (by kernel_rfl)) (fun _ _ _ h => h) (Or.inl ⟨by rfl, ?_⟩) ?_ ?_
                  rotate_left
                  · intro w'
                    go_simp
                    with_reducible rfl
                  rotate_left
                  · simp only [Act.put, List.setIfInBounds_toArray, List.set_cons_zero, List.set_cons_succ, i64_w, i32_w]
                    rfl
                  refine done_ (done_of HT_.out (by kernel_rfl)) ?_
                  have hw1 := iw HE3.out.1 HE3.out.2
                  have hw2 := w64 HE3.out.1 HE3.out.2
                  go_wp2
                  clear hw1 hw2
                  go_roundg (n - (k + 1))
                  case measure => rw [HG2.out]; have := HKN.out; omega
                  case rel => exact ⟨k + 1, true, rfl, rfl, rfl, by have := HKN.out; omega, ⟨fun hf => Bool.noConfusion hf⟩, ⟨below_step (below_drew1 HBX.out) (by repeat (first | exact Below.refl _ _ | apply pw_below_drewN | apply below_drew1))⟩⟩
              · have q4 : ¬ (k : Int) < n := by omega
                have hbt : b = true := by
                  cases b
                  · exfalso
                    obtain ⟨s, hs, he⟩ := HSD.out.mem y.e (List.mem_of_getElem? HYE.out)
                    obtain ⟨k', hk', hs'⟩ := List.mem_iff_getElem.1 hs
                    exact HK.out (by trivial) k' s (by have := HN.out; omega) (by rw [List.getElem?_eq_getElem hk', hs']) he
                  · rfl
                subst hbt
                clear hk hkn
                have hw1 := iw HE2.out.1 HE2.out.2
                have hw2 := w64 HE2.out.1 HE2.out.2
                go_wp2
                clear hw1 hw2
                go_roundg (nl - (i + 1))
                case measure => rw [HG.out]; have := HIN.out; omega
                case rel => exact ⟨i + 1, rfl, rfl, by have := HIN.out; omega, ⟨below_step HB.out (by repeat (first | exact Below.refl _ _ | apply pw_below_drewN | apply below_drew1))⟩⟩
          · have q2 : ¬ (i : Int) < nl := by omega
            have hle := HLE.out
            have q3 : (n : Int) ≤ nl := by omega
            have q4 : n ≤ nl := hle.1
            have HDD : Aside0 (∀ e ∈ ss.map (·.e), e.f6.length ≤ 500) := ⟨fun e he => by
              obtain ⟨s, hs, rfl⟩ := List.mem_map.1 he
              exact HL60.out.2 _ (HSD.out.sub s hs)⟩
            have HN60 : Aside0 (n ≤ 60) := ⟨by omega⟩
            have HWR : Aside0 (Below w.heap.size w wr) := ⟨HW2.out.trans (HB.out.mono HW2.out.size)⟩
            clear hi hlt hle HG
            go_wp2_with (first
              | (go_at_call 7; go_must (refine (osort_own b0 gr n cap ss _ (by exact (HS.out.below HB.out).below (by repeat (first | exact Below.refl _ _ | apply pw_below_drewN | apply below_drew1))) HN.out HN60.out HDD.out).mono ?_; rintro e w5 ⟨g5, cap5, s5, rfl, h1, h2, h3⟩; have HS5 := Aside0.mk h1; have HB5 : Aside0 (Below wr.heap.size wr w5) := ⟨below_step (by repeat (first | exact Below.refl _ _ | apply pw_below_drewN | apply below_drew1)) h2⟩; have HEQ := Aside0.mk (h3.own HSD.out.st); clear h1 h2 h3))
              | (go_at_call 9; go_must (refine (all15_n _ _ b0 (some ⟨g5, 0, none⟩) (some ⟨gr, 0, none⟩) cap5 cap n s5 ss (by exact HS5.out.below (by repeat (first | exact Below.refl _ _ | apply pw_below_drewN | apply below_drew1))) (by exact ((HS.out.below HB.out).below HB5.out).below (by repeat (first | exact Below.refl _ _ | apply pw_below_drewN | apply below_drew1))) HEQ.out HN.out HN60.out HDD.out).mono ?_; rintro e w6 ⟨rfl, hb⟩; have HB6 : Aside0 (Below wr.heap.size wr w6) := ⟨below_step (below_step HB5.out (by repeat (first | exact Below.refl _ _ | apply pw_below_drewN | apply below_drew1))) hb⟩; clear hb))
              | (go_at_call 6; go_must (refine (alive15_calls _).mono ?_; rintro e wz ⟨rfl, hb⟩; have HBZ : Aside0 (Below wr.heap.size wr wz) := ⟨below_step (below_step HB6.out (by repeat (first | exact Below.refl _ _ | apply pw_below_drewN | apply below_drew1))) hb⟩; clear hb)))
            go_ret
            exact ⟨rfl, HWR.out.trans (HBZ.out.mono HWR.out.size)⟩
end Go.Proofs.Ytaiakklflmhpmaa.K

/- slices.symMergeCmpFunc, where one side is one operation. -/
import Derived.Test.YtaiakklflmhpmaaMA
namespace Go.Proofs.Ytaiakklflmhpmaa.K
open Go.RowKit Go.Proofs.YtaiakklflmhpmaaW.PrintWords Go.Proofs.YtaiakklflmhpmaaW.PrintLast Go.Proofs.YtaiakklflmhpmaaW.PrintMore
set_option linter.unusedVariables false
set_option linter.unusedSimpArgs false

theorem midw {x h : Int} (e : h = x / 2) (k : 0 ≤ x ∧ x ≤ 1000000) : wrap64 (IntKind.u64.wrap x / 2) = h := by
 have h1 : IntKind.u64.wrap x = x := by
  simp [IntKind.wrap, IntKind.bits, IntKind.signed]
  omega
 rw [h1]
 unfold wrap64
 omega
theorem insL_right {P S R : List QP} {x y : QP} {m : Nat} (hy : S[m]? = some y) : (insL P S R x m)[P.length + m + 1]? = some y := by
 obtain ⟨h1, h2⟩ := List.getElem?_eq_some_iff.1 hy
 have e : P.length + m + 1 = (P ++ S.take m ++ [x]).length := by simp only [List.length_append, List.length_take, List.length_cons, List.length_nil]; omega
 unfold insL
 rw [e, List.drop_eq_getElem_cons h1, h2]
 have h3 := get_mid (P ++ S.take m ++ [x]) (S.drop (m + 1) ++ R) y
 have e2 : P ++ S.take m ++ x :: y :: S.drop (m + 1) ++ R = (P ++ S.take m ++ [x]) ++ y :: (S.drop (m + 1) ++ R) := by simp
 rw [e2]
 exact h3
theorem insL_up {P S R : List QP} {x y : QP} {m : Nat} (hy : S[m]? = some y) : exP (insL P S R x m) (P.length + m) (P.length + m + 1) x y = insL P S R x (m + 1) := by
 obtain ⟨h1, h2⟩ := List.getElem?_eq_some_iff.1 hy
 have e1 : P.length + m = (P ++ S.take m).length := by simp only [List.length_append, List.length_take]; omega
 have e2 : P.length + m + 1 = (P ++ S.take m).length + 1 + ([] : List QP).length := by rw [← e1]; rfl
 have h3 := ex_mid (P ++ S.take m) [] (S.drop (m + 1) ++ R) x y
 unfold insL
 rw [e2, e1, List.drop_eq_getElem_cons h1, h2, List.take_succ_eq_append_getElem h1, h2]
 simpa using h3
def sym_left.T5 : Bool × List (List Nat × List Nat) := (true, [([], []), ([], []), ([], []), ([1, 2], [1, 2]), ([3], [3]), ([], []), ([], []), ([5, 6], [5, 6]), ([7], [7]), ([0, 4, 8], [0, 4, 8]), ([9], [9])])
def sym_left.B5 : List Nat := [0, 0, 0, 6, 14, 0, 0, 96, 224, 511, 1023]
theorem sym_left.tab5 : rtab .any (opsOf Try.f56 5) = sym_left.T5 := by kernel_rfl
theorem sym_left.bits5 : waitsOk sym_left.T5.2 sym_left.B5 = true := by kernel_rfl
def sym_left.T11 : Bool × List (List Nat × List Nat) := (true, [([], []), ([], []), ([], []), ([], []), ([3], [3]), ([], []), ([], []), ([6], [6]), ([5, 7], [5, 7]), ([8], [8]), ([], []), ([], []), ([10, 11], [10, 11]), ([12], [12]), ([0, 1, 0, 1, 5, 6, 7, 8, 9, 13], [0, 1]), ([14, 9, 0, 1, 5, 6, 7, 8, 9, 13], [9, 14]), ([2, 4, 0, 1, 2, 3, 4, 5, 6, 7, 8, 9, 10, 11, 12, 13, 14, 15], [2, 4]), ([16, 13, 15, 0, 1, 2, 3, 4, 5, 6, 7, 8, 9, 10, 11, 12, 13, 14, 15], [13, 16])])
def sym_left.B11 : List Nat := [0, 0, 0, 0, 8, 0, 0, 64, 224, 480, 0, 0, 3072, 7168, 16355, 32739, 65535, 131071]
theorem sym_left.tab11 : rtab .any (opsOf Try.f56 11) = sym_left.T11 := by kernel_rfl
theorem sym_left.bits11 : waitsOk sym_left.T11.2 sym_left.B11 = true := by kernel_rfl
def sym_right.T17 : Bool × List (List Nat × List Nat) := (true, [([], []), ([], []), ([], []), ([1, 2], [1, 2]), ([3], [3]), ([], []), ([], []), ([5, 6], [5, 6]), ([7], [7]), ([0, 4, 8], [0, 4, 8]), ([9], [9]), ([10], [10])])
def sym_right.B17 : List Nat := [0, 0, 0, 6, 14, 0, 0, 96, 224, 511, 1023, 2047]
theorem sym_right.tab17 : rtab .any (opsOf Try.f56 17) = sym_right.T17 := by kernel_rfl
theorem sym_right.bits17 : waitsOk sym_right.T17.2 sym_right.B17 = true := by kernel_rfl
def sym_right.T23 : Bool × List (List Nat × List Nat) := (true, [([], []), ([], []), ([], []), ([], []), ([3], [3]), ([], []), ([], []), ([6], [6]), ([5, 7], [5, 7]), ([8], [8]), ([], []), ([], []), ([10, 11], [10, 11]), ([12], [12]), ([0, 1, 0, 1, 5, 6, 7, 8, 9, 13], [0, 1]), ([14, 9, 0, 1, 5, 6, 7, 8, 9, 13], [9, 14]), ([2, 4, 0, 1, 2, 3, 4, 5, 6, 7, 8, 9, 10, 11, 12, 13, 14, 15], [2, 4]), ([16, 13, 15, 0, 1, 2, 3, 4, 5, 6, 7, 8, 9, 10, 11, 12, 13, 14, 15], [13, 16])])
def sym_right.B23 : List Nat := [0, 0, 0, 0, 8, 0, 0, 64, 224, 480, 0, 0, 3072, 7168, 16355, 32739, 65535, 131071]
theorem sym_right.tab23 : rtab .any (opsOf Try.f56 23) = sym_right.T23 := by kernel_rfl
theorem sym_right.bits23 : waitsOk sym_right.T23.2 sym_right.B23 = true := by kernel_rfl
set_option maxRecDepth 100000 in
set_option maxHeartbeats 16000000 in
theorem sym_left (base gr n cap a m b : Nat) (P S R : List QP) (x : QP) (w : World) (h : Srt w w base gr n cap (P ++ [x] ++ S ++ R)) (ha : P.length = a) (hm : P.length + 1 = m) (hb : m + S.length = b) (hS : sO kO S) (hn : n ≤ 100000) :
  Calls Try.prog 56 #[.slice (some ⟨gr, 0, none⟩) n cap, .int .i64 a, .int .i64 m, .int .i64 b, .func (.func 21) #[] #[]] w fun e w' => PartP w base gr n cap P ([x] ++ S) R e w' := by
 have HH : Aside0 (Srt w w base gr n cap (insL P S R x 0)) := ⟨by unfold insL; simpa using h⟩
 have HN : Aside0 (P.length = a ∧ m = a + 1 ∧ m + S.length = b ∧ P.length + 1 + S.length + R.length = n ∧ n ≤ 100000) := ⟨by have := h.len; simp only [List.length_append, List.length_cons, List.length_nil] at this; omega⟩
 have HSO := Aside0.mk hS
 have e1 : (m : Int) - (a : Int) = 1 := by omega
 have hw1 := iw e1 (by omega)
 have hw2 := w64 e1 (by omega)
 have HAX : Aside0 ((insL P S R x 0)[a]? = some x) := ⟨by have h := insL_at (P := P) (S := S) (R := R) (x := x) (m := 0) (Nat.zero_le _); rw [ha] at h; exact h⟩
 have q0 : (0 : Int) ≤ a := by omega
 have q1 : (a : Int) < n := by have := HN.out; omega
 clear h ha hm hb hS hn e1
 go_enter Try.func56, Try.ntmps56
 go_wp2
 clear hw1 hw2
 go_loopg [10, 11] (S.length + 1) (fun gg v10 v11 wr => ∃ (i j ii jj : Nat), gg = jj - ii + 1 ∧ v10 = .int .i64 i ∧ v11 = .int .i64 j ∧ i = m + ii ∧ j = m + jj ∧ ii ≤ jj ∧ jj ≤ S.length ∧ Aside0 (0 < ii → ∀ y, S[ii - 1]? = some y → ltO (kO y) (kO x)) ∧ Aside0 (∀ y, S[jj]? = some y → ¬ ltO (kO y) (kO x)) ∧ Aside0 (Srt w wr base gr n cap (insL P S R x 0)))
 case atStart => exact ⟨m, b, 0, S.length, by simp, rfl, rfl, rfl, HN.out.2.2.1.symm, Nat.zero_le _, Nat.le_refl _, ⟨fun h => absurd h (Nat.lt_irrefl 0)⟩, ⟨fun y hy => by simp at hy⟩, HH⟩
 case round =>
  clear HH
  obtain ⟨i, j, ii, jj, hg, rfl, rfl, hi, hj, hij, hjs, HI1, HI2, HS⟩ := hrel
  have HG := Aside0.mk hg
  have HIJ := Aside0.mk (And.intro hi (And.intro hj (And.intro hij hjs)))
  clear hg
  by_cases hlt : ii < jj
  ·obtain ⟨s, hs⟩ : ∃ s, s = i + j := ⟨_, rfl⟩
   obtain ⟨hh, hhh⟩ : ∃ hh, hh = (ii + jj) / 2 := ⟨_, rfl⟩
   obtain ⟨h, hhe⟩ : ∃ h, h = m + hh := ⟨_, rfl⟩
   have e1 : (i : Int) + (j : Int) = (s : Int) := by omega
   have k1 : (-1000000 : Int) ≤ (s : Int) ∧ (s : Int) ≤ 1000000 := by have := HN.out; omega
   have e2 : (h : Int) = (s : Int) / 2 := by omega
   have e3 : (h : Int) + 1 = ((h + 1 : Nat) : Int) := by omega
   have k3 : (-1000000 : Int) ≤ ((h + 1 : Nat) : Int) ∧ ((h + 1 : Nat) : Int) ≤ 1000000 := by have := HN.out; omega
   have k2 : (0 : Int) ≤ (s : Int) ∧ (s : Int) ≤ 1000000 := by omega
   have q2 : (0 : Int) ≤ h := by omega
   have q3 : (h : Int) < n := by have := HN.out; omega
   have q4 : (i : Int) < (j : Int) := by omega
   obtain ⟨y, hy⟩ : ∃ y, S[hh]? = some y := ⟨_, List.getElem?_eq_getElem (by omega)⟩
   have HY := Aside0.mk hy
   have HHY : Aside0 ((insL P S R x 0)[h]? = some y) := ⟨by
    have h1 := insL_right (P := P) (R := R) (x := x) (m := 0) (S := S.drop hh) (y := y) (by rw [List.getElem?_drop]; exact hy)
    have h2 : (insL P S R x 0)[P.length + 1 + hh]? = some y := by
     unfold insL
     simp only [List.take_zero, List.append_nil, List.drop_zero]
     rw [List.append_assoc, List.getElem?_append_right (by omega), show P.length + 1 + hh - P.length = hh + 1 by omega, List.cons_append, List.getElem?_cons_succ, List.getElem?_append_left (List.getElem?_eq_some_iff.1 hy).1]
     exact hy
    have h3 : h = P.length + 1 + hh := by have := HN.out; omega
    rw [h3]
    exact h2⟩
   have HHH : Aside0 (hh = (ii + jj) / 2 ∧ h = m + hh ∧ ii < jj) := ⟨hhh, hhe, hlt⟩
   have HE3 := Aside0.mk (And.intro e3 k3)
   have hw1 := iw e1 k1
   have hw2 := w64 e1 k1
   have hw3 := midw e2 k2
   have HM3 := Aside0.mk hw3
   clear e1 e2 e3 k1 k2 k3 hs hhh hhe hy hlt hi hj hij hjs
   go_upto_region 5 with fail
   refine gen_world (fun wx hwx => ?_)
   have HSX : Aside0 (Srt w wx base gr n cap (insL P S R x 0)) := ⟨by rw [hwx]; first | exact HS.out | exact HS.out.below (by repeat (first | exact Below.refl _ _ | apply pw_below_drewN | apply below_drew1))⟩
   clear hwx
   have HRX := Aside0.mk (HSX.out.rd HHY.out)
   have HRY := Aside0.mk (HSX.out.rd HAX.out)
   obtain ⟨x0, x1, x2, x3, x4, x5, x6, x7, x8, x9⟩ := HSX.out.cells HHY.out
   obtain ⟨y0, y1, y2, y3, y4, y5, y6, y7, y8, y9⟩ := HSX.out.cells HAX.out
   by_cases hlt : ltO (kO y) (kO x)
   ·have HLT := Aside0.mk hlt
    clear hlt
    refine start_ (n := 11) (S := fun w' => w'.cell? ⟨gr, h * 10, none⟩ = some (.int .i64 y.e.f0) ∧ w'.cell? ⟨gr, h * 10 + 1, none⟩ = some (.int .i64 y.e.f1.f0) ∧ w'.cell? ⟨gr, h * 10 + 2, none⟩ = some (.int .i64 y.e.f1.f1) ∧ w'.cell? ⟨gr, h * 10 + 3, none⟩ = some (.int .i64 y.e.f2.f0) ∧ w'.cell? ⟨gr, h * 10 + 4, none⟩ = some (.int .i64 y.e.f2.f1) ∧ w'.cell? ⟨gr, h * 10 + 5, none⟩ = some (.int .i64 y.e.f3.f0) ∧ w'.cell? ⟨gr, h * 10 + 6, none⟩ = some (.int .i64 y.e.f3.f1) ∧ w'.cell? ⟨gr, h * 10 + 7, none⟩ = some (.bool y.e.f4) ∧ w'.cell? ⟨gr, h * 10 + 8, none⟩ = some (.string y.e.f5) ∧ w'.cell? ⟨gr, h * 10 + 9, none⟩ = some (.slice y.A y.e.f6.length y.c) ∧ w'.cell? ⟨gr, a * 10, none⟩ = some (.int .i64 x.e.f0) ∧ w'.cell? ⟨gr, a * 10 + 1, none⟩ = some (.int .i64 x.e.f1.f0) ∧ w'.cell? ⟨gr, a * 10 + 2, none⟩ = some (.int .i64 x.e.f1.f1) ∧ w'.cell? ⟨gr, a * 10 + 3, none⟩ = some (.int .i64 x.e.f2.f0) ∧ w'.cell? ⟨gr, a * 10 + 4, none⟩ = some (.int .i64 x.e.f2.f1) ∧ w'.cell? ⟨gr, a * 10 + 5, none⟩ = some (.int .i64 x.e.f3.f0) ∧ w'.cell? ⟨gr, a * 10 + 6, none⟩ = some (.int .i64 x.e.f3.f1) ∧ w'.cell? ⟨gr, a * 10 + 7, none⟩ = some (.bool x.e.f4) ∧ w'.cell? ⟨gr, a * 10 + 8, none⟩ = some (.string x.e.f5) ∧ w'.cell? ⟨gr, a * 10 + 9, none⟩ = some (.slice x.A x.e.f6.length x.c)) (ds := []) #[false, false, false, false, false, false, false, false, false, false, false] (by kernel_rfl) rfl rfl ⟨x0, x1, x2, x3, x4, x5, x6, x7, x8, x9, y0, y1, y2, y3, y4, y5, y6, y7, y8, y9⟩ (fun hHeld => ?_)
    refine with_tabW sym_left.tab5 sym_left.bits5 (fun HT_ HW_ => ?_)
    refine pure_ (i := 0) (N := some 40) (v := ?_) (a' := ?_) #[true, false, false, false, false, false, false, false, false, false, false] rfl rfl (any_of HT_.out (by kernel_rfl)) (fun _ _ _ h => h) (Or.inl ⟨by rfl, ?_⟩) ?_ ?_
    rotate_left
    ·intro w'
     go_simp
     with_reducible rfl
    rotate_left
    ·simp only [Act.put, ta, tb, tc, i64_w, i32_w]
     rfl
    refine pure_ (i := 1) (N := some 41) (v := ?_) (a' := ?_) #[true, true, false, false, false, false, false, false, false, false, false] rfl rfl (any_of HT_.out (by kernel_rfl)) (fun _ _ _ h => h) (Or.inl ⟨by rfl, ?_⟩) ?_ ?_
    rotate_left
    ·intro w'
     go_simp
     with_reducible rfl
    rotate_left
    ·simp only [Act.put, ta, tb, tc, i64_w, i32_w]
     rfl
    refine pure_ (i := 2) (N := some 42) (v := ?_) (a' := ?_) #[true, true, true, false, false, false, false, false, false, false, false] rfl rfl (any_of HT_.out (by kernel_rfl)) (fun _ _ _ h => h) (Or.inl ⟨by rfl, ?_⟩) ?_ ?_
    rotate_left
    ·intro w'
     go_simp
     with_reducible rfl
    rotate_left
    ·simp only [Act.put, ta, tb, tc, i64_w, i32_w]
     rfl
    refine pure_ (i := 3) (N := some 43) (v := ?_) (a' := ?_) #[true, true, true, true, false, false, false, false, false, false, false] rfl rfl (any_of HT_.out (by kernel_rfl)) (fun _ _ _ h => h) (Or.inl ⟨by rfl, ?_⟩) ?_ ?_
    rotate_left
    ·intro w'
     go_simp
     with_reducible rfl
    rotate_left
    ·simp only [Act.put, ta, tb, tc, i64_w, i32_w]
     rfl
    refine pure_ (i := 5) (N := some 45) (v := ?_) (a' := ?_) #[true, true, true, true, false, true, false, false, false, false, false] rfl rfl (any_of HT_.out (by kernel_rfl)) (fun _ _ _ h => h) (Or.inl ⟨by rfl, ?_⟩) ?_ ?_
    rotate_left
    ·intro w'
     go_simp
     with_reducible rfl
    rotate_left
    ·simp only [Act.put, ta, tb, tc, i64_w, i32_w]
     rfl
    refine pure_ (i := 6) (N := some 46) (v := ?_) (a' := ?_) #[true, true, true, true, false, true, true, false, false, false, false] rfl rfl (any_of HT_.out (by kernel_rfl)) (fun _ _ _ h => h) (Or.inl ⟨by rfl, ?_⟩) ?_ ?_
    rotate_left
    ·intro w'
     go_simp
     with_reducible rfl
    rotate_left
    ·simp only [Act.put, ta, tb, tc, i64_w, i32_w]
     rfl
    refine pure_ (i := 7) (N := some 47) (v := ?_) (a' := ?_) #[true, true, true, true, false, true, true, true, false, false, false] rfl rfl (any_of HT_.out (by kernel_rfl)) (fun _ _ _ h => h) (Or.inl ⟨by rfl, ?_⟩) ?_ ?_
    rotate_left
    ·intro w'
     go_simp
     with_reducible rfl
    rotate_left
    ·simp only [Act.put, ta, tb, tc, i64_w, i32_w]
     rfl
    refine take_ (i := 4) (N := some 44) (v := ?_) (a' := ?_) #[true, true, true, true, true, true, true, true, false, false, false] rfl rfl (take_ofW HT_.out HW_.out (by kernel_rfl)) (fun _ _ _ h => h) (Or.inl ⟨by rfl, ?_⟩) hHeld ?_ ?_
    rotate_left
    ·rintro w' ⟨s0, s1, s2, s3, s4, s5, s6, s7, s8, s9, s10, s11, s12, s13, s14, s15, s16, s17, s18, s19⟩
     go_simp
     with_reducible rfl
    rotate_left
    ·simp only [Act.put, ta, tb, tc, i64_w, i32_w]
     rfl
    refine take_ (i := 8) (N := some 48) (v := ?_) (a' := ?_) #[true, true, true, true, true, true, true, true, true, false, false] rfl rfl (take_ofW HT_.out HW_.out (by kernel_rfl)) (fun _ _ _ h => h) (Or.inl ⟨by rfl, ?_⟩) hHeld ?_ ?_
    rotate_left
    ·rintro w' ⟨s0, s1, s2, s3, s4, s5, s6, s7, s8, s9, s10, s11, s12, s13, s14, s15, s16, s17, s18, s19⟩
     go_simp
     with_reducible rfl
    rotate_left
    ·simp only [Act.put, ta, tb, tc, i64_w, i32_w]
     rfl
    refine one_ (i := 9) (N := some 49) #[true, true, true, true, true, true, true, true, true, true, false] rfl rfl (one_of HT_.out (by kernel_rfl)) (by decide) (fun K hK => ?_)
    refine goesv_ Try.func21 (by kernel_rfl) rfl #[.agg #[.int .i64 y.e.f0, .int .i64 y.e.f1.f0, .int .i64 y.e.f1.f1, .int .i64 y.e.f2.f0, .int .i64 y.e.f2.f1, .int .i64 y.e.f3.f0, .int .i64 y.e.f3.f1, .bool y.e.f4, .string y.e.f5, .slice y.A y.e.f6.length y.c], .agg #[.int .i64 x.e.f0, .int .i64 x.e.f1.f0, .int .i64 x.e.f1.f1, .int .i64 x.e.f2.f0, .int .i64 x.e.f2.f1, .int .i64 x.e.f3.f0, .int .i64 x.e.f3.f1, .bool x.e.f4, .string x.e.f5, .slice x.A x.e.f6.length x.c]] (by rfl) rfl rfl (by rfl) (by simp only [List.map_toArray, List.map_cons, List.map_nil]; rfl) ?_
    with_reducible refine (cmpo_lt y x _ (HRX.out.below (below_drew1 (Below.refl _ _))) (HRY.out.below (below_drew1 (Below.refl _ _))) HLT.out).mono ?_
    rintro e w3 ⟨r, rfl, hr1, hr2, hb3⟩
    refine ⟨_, rfl, ?_⟩
    refine hK.out _ _ (lift20 hb3 x0 x1 x2 x3 x4 x5 x6 x7 x8 x9 y0 y1 y2 y3 y4 y5 y6 y7 y8 y9) (fun hHeld => ?_)
    clear hK K
    refine norm_ (a' := ?_) ?_ ?_
    rotate_left
    ·show Act.put _ (some 49) _ = _
     simp only [Act.put, ta, tb, tc, i64_w, i32_w]
     rfl
    refine pure_ (i := 10) (N := some 50) (v := ?_) (a' := ?_) #[true, true, true, true, true, true, true, true, true, true, true] rfl rfl (any_of HT_.out (by kernel_rfl)) (fun _ _ _ h => h) (Or.inl ⟨by rfl, ?_⟩) ?_ ?_
    rotate_left
    ·intro w'
     go_simp
     with_reducible rfl
    rotate_left
    ·simp only [Act.put, ta, tb, tc, i64_w, i32_w]
     rfl
    refine done_ (done_of HT_.out (by kernel_rfl)) ?_
    have HS3 : Aside0 (Srt w w3 base gr n cap (insL P S R x 0)) := ⟨HSX.out.below (below_step (below_drew1 (Below.refl _ _)) hb3)⟩
    clear hb3 HSX HRX HRY x0 x1 x2 x3 x4 x5 x6 x7 x8 x9 y0 y1 y2 y3 y4 y5 y6 y7 y8 y9 HS hw1 hw2 hw3
    have hw1 := iw HE3.out.1 HE3.out.2
    have hw2 := w64 HE3.out.1 HE3.out.2
    have HWP := Aside0.mk hw2
    go_wp2
    clear hw1 hw2
    go_roundg (jj - (hh + 1) + 1)
    case measure => rw [HG.out]; have := HHH.out; omega
    case rel => exact ⟨h + 1, j, hh + 1, jj, rfl, (by first | rfl | rw [HM3.out, HWP.out]), rfl, by have := HHH.out; omega, HIJ.out.2.1, by have := HHH.out; omega, HIJ.out.2.2.2, ⟨fun _ z hz => by rw [Nat.add_sub_cancel, HY.out] at hz; injection hz with hz; rw [← hz]; exact HLT.out⟩, HI2, ⟨HS3.out.below (by repeat (first | exact Below.refl _ _ | apply pw_below_drewN | apply below_drew1))⟩⟩
   ·have HLT := Aside0.mk hlt
    clear hlt
    refine start_ (n := 11) (S := fun w' => w'.cell? ⟨gr, h * 10, none⟩ = some (.int .i64 y.e.f0) ∧ w'.cell? ⟨gr, h * 10 + 1, none⟩ = some (.int .i64 y.e.f1.f0) ∧ w'.cell? ⟨gr, h * 10 + 2, none⟩ = some (.int .i64 y.e.f1.f1) ∧ w'.cell? ⟨gr, h * 10 + 3, none⟩ = some (.int .i64 y.e.f2.f0) ∧ w'.cell? ⟨gr, h * 10 + 4, none⟩ = some (.int .i64 y.e.f2.f1) ∧ w'.cell? ⟨gr, h * 10 + 5, none⟩ = some (.int .i64 y.e.f3.f0) ∧ w'.cell? ⟨gr, h * 10 + 6, none⟩ = some (.int .i64 y.e.f3.f1) ∧ w'.cell? ⟨gr, h * 10 + 7, none⟩ = some (.bool y.e.f4) ∧ w'.cell? ⟨gr, h * 10 + 8, none⟩ = some (.string y.e.f5) ∧ w'.cell? ⟨gr, h * 10 + 9, none⟩ = some (.slice y.A y.e.f6.length y.c) ∧ w'.cell? ⟨gr, a * 10, none⟩ = some (.int .i64 x.e.f0) ∧ w'.cell? ⟨gr, a * 10 + 1, none⟩ = some (.int .i64 x.e.f1.f0) ∧ w'.cell? ⟨gr, a * 10 + 2, none⟩ = some (.int .i64 x.e.f1.f1) ∧ w'.cell? ⟨gr, a * 10 + 3, none⟩ = some (.int .i64 x.e.f2.f0) ∧ w'.cell? ⟨gr, a * 10 + 4, none⟩ = some (.int .i64 x.e.f2.f1) ∧ w'.cell? ⟨gr, a * 10 + 5, none⟩ = some (.int .i64 x.e.f3.f0) ∧ w'.cell? ⟨gr, a * 10 + 6, none⟩ = some (.int .i64 x.e.f3.f1) ∧ w'.cell? ⟨gr, a * 10 + 7, none⟩ = some (.bool x.e.f4) ∧ w'.cell? ⟨gr, a * 10 + 8, none⟩ = some (.string x.e.f5) ∧ w'.cell? ⟨gr, a * 10 + 9, none⟩ = some (.slice x.A x.e.f6.length x.c)) (ds := []) #[false, false, false, false, false, false, false, false, false, false, false] (by kernel_rfl) rfl rfl ⟨x0, x1, x2, x3, x4, x5, x6, x7, x8, x9, y0, y1, y2, y3, y4, y5, y6, y7, y8, y9⟩ (fun hHeld => ?_)
    refine with_tabW sym_left.tab5 sym_left.bits5 (fun HT_ HW_ => ?_)
    refine pure_ (i := 0) (N := some 40) (v := ?_) (a' := ?_) #[true, false, false, false, false, false, false, false, false, false, false] rfl rfl (any_of HT_.out (by kernel_rfl)) (fun _ _ _ h => h) (Or.inl ⟨by rfl, ?_⟩) ?_ ?_
    rotate_left
    ·intro w'
     go_simp
     with_reducible rfl
    rotate_left
    ·simp only [Act.put, ta, tb, tc, i64_w, i32_w]
     rfl
    refine pure_ (i := 1) (N := some 41) (v := ?_) (a' := ?_) #[true, true, false, false, false, false, false, false, false, false, false] rfl rfl (any_of HT_.out (by kernel_rfl)) (fun _ _ _ h => h) (Or.inl ⟨by rfl, ?_⟩) ?_ ?_
    rotate_left
    ·intro w'
     go_simp
     with_reducible rfl
    rotate_left
    ·simp only [Act.put, ta, tb, tc, i64_w, i32_w]
     rfl
    refine pure_ (i := 2) (N := some 42) (v := ?_) (a' := ?_) #[true, true, true, false, false, false, false, false, false, false, false] rfl rfl (any_of HT_.out (by kernel_rfl)) (fun _ _ _ h => h) (Or.inl ⟨by rfl, ?_⟩) ?_ ?_
    rotate_left
    ·intro w'
     go_simp
     with_reducible rfl
    rotate_left
    ·simp only [Act.put, ta, tb, tc, i64_w, i32_w]
     rfl
    refine pure_ (i := 3) (N := some 43) (v := ?_) (a' := ?_) #[true, true, true, true, false, false, false, false, false, false, false] rfl rfl (any_of HT_.out (by kernel_rfl)) (fun _ _ _ h => h) (Or.inl ⟨by rfl, ?_⟩) ?_ ?_
    rotate_left
    ·intro w'
     go_simp
     with_reducible rfl
    rotate_left
    ·simp only [Act.put, ta, tb, tc, i64_w, i32_w]
     rfl
    refine pure_ (i := 5) (N := some 45) (v := ?_) (a' := ?_) #[true, true, true, true, false, true, false, false, false, false, false] rfl rfl (any_of HT_.out (by kernel_rfl)) (fun _ _ _ h => h) (Or.inl ⟨by rfl, ?_⟩) ?_ ?_
    rotate_left
    ·intro w'
     go_simp
     with_reducible rfl
    rotate_left
    ·simp only [Act.put, ta, tb, tc, i64_w, i32_w]
     rfl
    refine pure_ (i := 6) (N := some 46) (v := ?_) (a' := ?_) #[true, true, true, true, false, true, true, false, false, false, false] rfl rfl (any_of HT_.out (by kernel_rfl)) (fun _ _ _ h => h) (Or.inl ⟨by rfl, ?_⟩) ?_ ?_
    rotate_left
    ·intro w'
     go_simp
     with_reducible rfl
    rotate_left
    ·simp only [Act.put, ta, tb, tc, i64_w, i32_w]
     rfl
    refine pure_ (i := 7) (N := some 47) (v := ?_) (a' := ?_) #[true, true, true, true, false, true, true, true, false, false, false] rfl rfl (any_of HT_.out (by kernel_rfl)) (fun _ _ _ h => h) (Or.inl ⟨by rfl, ?_⟩) ?_ ?_
    rotate_left
    ·intro w'
     go_simp
     with_reducible rfl
    rotate_left
    ·simp only [Act.put, ta, tb, tc, i64_w, i32_w]
     rfl
    refine take_ (i := 4) (N := some 44) (v := ?_) (a' := ?_) #[true, true, true, true, true, true, true, true, false, false, false] rfl rfl (take_ofW HT_.out HW_.out (by kernel_rfl)) (fun _ _ _ h => h) (Or.inl ⟨by rfl, ?_⟩) hHeld ?_ ?_
    rotate_left
    ·rintro w' ⟨s0, s1, s2, s3, s4, s5, s6, s7, s8, s9, s10, s11, s12, s13, s14, s15, s16, s17, s18, s19⟩
     go_simp
     with_reducible rfl
    rotate_left
    ·simp only [Act.put, ta, tb, tc, i64_w, i32_w]
     rfl
    refine take_ (i := 8) (N := some 48) (v := ?_) (a' := ?_) #[true, true, true, true, true, true, true, true, true, false, false] rfl rfl (take_ofW HT_.out HW_.out (by kernel_rfl)) (fun _ _ _ h => h) (Or.inl ⟨by rfl, ?_⟩) hHeld ?_ ?_
    rotate_left
    ·rintro w' ⟨s0, s1, s2, s3, s4, s5, s6, s7, s8, s9, s10, s11, s12, s13, s14, s15, s16, s17, s18, s19⟩
     go_simp
     with_reducible rfl
    rotate_left
    ·simp only [Act.put, ta, tb, tc, i64_w, i32_w]
     rfl
    refine one_ (i := 9) (N := some 49) #[true, true, true, true, true, true, true, true, true, true, false] rfl rfl (one_of HT_.out (by kernel_rfl)) (by decide) (fun K hK => ?_)
    refine goesv_ Try.func21 (by kernel_rfl) rfl #[.agg #[.int .i64 y.e.f0, .int .i64 y.e.f1.f0, .int .i64 y.e.f1.f1, .int .i64 y.e.f2.f0, .int .i64 y.e.f2.f1, .int .i64 y.e.f3.f0, .int .i64 y.e.f3.f1, .bool y.e.f4, .string y.e.f5, .slice y.A y.e.f6.length y.c], .agg #[.int .i64 x.e.f0, .int .i64 x.e.f1.f0, .int .i64 x.e.f1.f1, .int .i64 x.e.f2.f0, .int .i64 x.e.f2.f1, .int .i64 x.e.f3.f0, .int .i64 x.e.f3.f1, .bool x.e.f4, .string x.e.f5, .slice x.A x.e.f6.length x.c]] (by rfl) rfl rfl (by rfl) (by simp only [List.map_toArray, List.map_cons, List.map_nil]; rfl) ?_
    with_reducible refine (cmpo_ge y x _ (HRX.out.below (below_drew1 (Below.refl _ _))) (HRY.out.below (below_drew1 (Below.refl _ _))) HLT.out).mono ?_
    rintro e w3 ⟨r, rfl, hr1, hr2, hb3⟩
    refine ⟨_, rfl, ?_⟩
    refine hK.out _ _ (lift20 hb3 x0 x1 x2 x3 x4 x5 x6 x7 x8 x9 y0 y1 y2 y3 y4 y5 y6 y7 y8 y9) (fun hHeld => ?_)
    clear hK K
    refine norm_ (a' := ?_) ?_ ?_
    rotate_left
    ·show Act.put _ (some 49) _ = _
     simp only [Act.put, ta, tb, tc, i64_w, i32_w]
     rfl
    refine pure_ (i := 10) (N := some 50) (v := ?_) (a' := ?_) #[true, true, true, true, true, true, true, true, true, true, true] rfl rfl (any_of HT_.out (by kernel_rfl)) (fun _ _ _ h => h) (Or.inl ⟨by rfl, ?_⟩) ?_ ?_
    rotate_left
    ·intro w'
     go_simp
     with_reducible rfl
    rotate_left
    ·simp only [Act.put, ta, tb, tc, i64_w, i32_w]
     rfl
    refine done_ (done_of HT_.out (by kernel_rfl)) ?_
    have HS3 : Aside0 (Srt w w3 base gr n cap (insL P S R x 0)) := ⟨HSX.out.below (below_step (below_drew1 (Below.refl _ _)) hb3)⟩
    clear hb3 HSX HRX HRY x0 x1 x2 x3 x4 x5 x6 x7 x8 x9 y0 y1 y2 y3 y4 y5 y6 y7 y8 y9 HS hw1 hw2 hw3
    go_wp2
    go_roundg (hh - ii + 1)
    case measure => rw [HG.out]; have := HHH.out; omega
    case rel => exact ⟨i, h, ii, hh, rfl, rfl, (by first | rfl | rw [HM3.out]), HIJ.out.1, HHH.out.2.1, by have := HHH.out; omega, by have := HHH.out; have := HIJ.out; omega, HI1, ⟨fun z hz => by rw [HY.out] at hz; injection hz with hz; rw [← hz]; exact HLT.out⟩, ⟨HS3.out.below (by repeat (first | exact Below.refl _ _ | apply pw_below_drewN | apply below_drew1))⟩⟩
  ·have hje : jj = ii := by omega
   subst hje
   have q4 : ¬ (i : Int) < (j : Int) := by omega
   have HE : Aside0 (i = m + jj ∧ jj ≤ S.length) := ⟨hi, hjs⟩
   obtain ⟨i1, hi1⟩ : ∃ i1, i1 = a + jj := ⟨_, rfl⟩
   have e1 : (i : Int) - 1 = (i1 : Int) := by have := HN.out; omega
   have k1 : (-1000000 : Int) ≤ (i1 : Int) ∧ (i1 : Int) ≤ 1000000 := by have := HN.out; omega
   have HI1E := Aside0.mk (And.intro hi1 (And.intro e1 k1))
   clear hi hj hij hjs hlt hi1 e1 k1
   go_wp2
   go_loopg [13] S.length (fun gz v13 wi => ∃ (k q : Nat), gz = S.length - q ∧ v13 = .int .i64 k ∧ k = a + q ∧ q ≤ jj ∧ Aside0 (Srt w wi base gr n cap (insL P S R x q)))
   case atStart => exact ⟨a, 0, by simp, rfl, rfl, Nat.zero_le _, ⟨HS.out.below (by repeat (first | exact Below.refl _ _ | apply pw_below_drewN | apply below_drew1))⟩⟩
   case round =>
    clear HS
    obtain ⟨k, q, hg2, rfl, hk, hq, HS⟩ := hrel
    have HG2 := Aside0.mk hg2
    have HKQ := Aside0.mk (And.intro hk hq)
    clear hg2
    by_cases hlt : q < jj
    ·obtain ⟨k1, hk1⟩ : ∃ k1, k1 = k + 1 := ⟨_, rfl⟩
     have q5 : (k : Int) < (i1 : Int) := by have := HI1E.out; omega
     have e2 : (k : Int) + 1 = (k1 : Int) := by omega
     have k2 : (-1000000 : Int) ≤ (k1 : Int) ∧ (k1 : Int) ≤ 1000000 := by have := HN.out; have := HE.out; omega
     have q6 : (0 : Int) ≤ k := by omega
     have q7 : (0 : Int) ≤ k1 := by omega
     have q8 : (k : Int) < n := by have := HN.out; have := HE.out; omega
     have q9 : (k1 : Int) < n := by have := HN.out; have := HE.out; omega
     obtain ⟨pi, hpi⟩ : ∃ p, p = x := ⟨_, rfl⟩
     obtain ⟨pj, hpj⟩ : ∃ p, S[q]? = some p := ⟨_, List.getElem?_eq_getElem (by have := HE.out; omega)⟩
     have HI : Aside0 ((insL P S R x q)[k]? = some pi) := ⟨by rw [hpi, hk, ← HN.out.1]; exact insL_at (by have := HE.out; omega)⟩
     have HJ : Aside0 ((insL P S R x q)[k1]? = some pj) := ⟨by rw [hk1, hk, ← HN.out.1]; exact insL_right hpj⟩
     have HPP := Aside0.mk (And.intro hpi (And.intro hpj (And.intro hk1 hlt)))
     have HE2 := Aside0.mk (And.intro e2 k2)
     have hw1 := iw HI1E.out.2.1 HI1E.out.2.2
     have hw2 := w64 HI1E.out.2.1 HI1E.out.2.2
     have hw3 := iw HE2.out.1 HE2.out.2
     have hw4 := w64 HE2.out.1 HE2.out.2
     clear hpi hpj hk1 hk hq hlt e2 k2
     go_upto_region 11 with fail
     refine gen_world (fun wx hwx => ?_)
     have HSX : Aside0 (Srt w wx base gr n cap (insL P S R x q)) := ⟨by rw [hwx]; first | exact HS.out | exact HS.out.below (by repeat (first | exact Below.refl _ _ | apply pw_below_drewN | apply below_drew1))⟩
     clear hwx HS hw1 hw2
     obtain ⟨cur, hbg, hcur, hnc, hcm, hsz, htk⟩ := HSX.out.parts
     have HCUR := Aside0.mk hcur
     have HPT := Aside0.mk (And.intro hbg (And.intro hnc (And.intro hcm (And.intro hsz htk))))
     have hil : k < n := HSX.out.lt HI.out
     have hjl : k1 < n := HSX.out.lt HJ.out
     obtain ⟨ci0, ci1, ci2, ci3, ci4, ci5, ci6, ci7, ci8, ci9⟩ := cells_atQ hcur htk HI.out
     obtain ⟨cj0, cj1, cj2, cj3, cj4, cj5, cj6, cj7, cj8, cj9⟩ := cells_atQ hcur htk HJ.out
     obtain ⟨_u0, _u1, _u2, _u3, _u4, _u5, _u6, _u7, _u8, _u9, _d0, _d1, _d2, _d3, _d4, _d5, _d6, _d7, _d8, _d9, z0, z1, z2, z3, z4, z5, z6, z7, z8, z9⟩ := cellsQ hcur (i := k) (by omega)
     clear _d0 _d1 _d2 _d3 _d4 _d5 _d6 _d7 _d8 _d9 _u0 _u1 _u2 _u3 _u4 _u5 _u6 _u7 _u8 _u9 hcur htk hbg hcm
     refine start_ (n := 18) (S := fun w' => w'.cell? ⟨gr, k1 * 10, none⟩ = some (.int .i64 pj.e.f0) ∧ w'.cell? ⟨gr, k1 * 10 + 1, none⟩ = some (.int .i64 pj.e.f1.f0) ∧ w'.cell? ⟨gr, k1 * 10 + 2, none⟩ = some (.int .i64 pj.e.f1.f1) ∧ w'.cell? ⟨gr, k1 * 10 + 3, none⟩ = some (.int .i64 pj.e.f2.f0) ∧ w'.cell? ⟨gr, k1 * 10 + 4, none⟩ = some (.int .i64 pj.e.f2.f1) ∧ w'.cell? ⟨gr, k1 * 10 + 5, none⟩ = some (.int .i64 pj.e.f3.f0) ∧ w'.cell? ⟨gr, k1 * 10 + 6, none⟩ = some (.int .i64 pj.e.f3.f1) ∧ w'.cell? ⟨gr, k1 * 10 + 7, none⟩ = some (.bool pj.e.f4) ∧ w'.cell? ⟨gr, k1 * 10 + 8, none⟩ = some (.string pj.e.f5) ∧ w'.cell? ⟨gr, k1 * 10 + 9, none⟩ = some (.slice pj.A pj.e.f6.length pj.c) ∧ w'.cell? ⟨gr, k * 10, none⟩ = some (.int .i64 pi.e.f0) ∧ w'.cell? ⟨gr, k * 10 + 1, none⟩ = some (.int .i64 pi.e.f1.f0) ∧ w'.cell? ⟨gr, k * 10 + 2, none⟩ = some (.int .i64 pi.e.f1.f1) ∧ w'.cell? ⟨gr, k * 10 + 3, none⟩ = some (.int .i64 pi.e.f2.f0) ∧ w'.cell? ⟨gr, k * 10 + 4, none⟩ = some (.int .i64 pi.e.f2.f1) ∧ w'.cell? ⟨gr, k * 10 + 5, none⟩ = some (.int .i64 pi.e.f3.f0) ∧ w'.cell? ⟨gr, k * 10 + 6, none⟩ = some (.int .i64 pi.e.f3.f1) ∧ w'.cell? ⟨gr, k * 10 + 7, none⟩ = some (.bool pi.e.f4) ∧ w'.cell? ⟨gr, k * 10 + 8, none⟩ = some (.string pi.e.f5) ∧ w'.cell? ⟨gr, k * 10 + 9, none⟩ = some (.slice pi.A pi.e.f6.length pi.c)) (ds := [15, 17]) #[false, false, false, false, false, false, false, false, false, false, false, false, false, false, false, false, false, false] (by kernel_rfl) rfl rfl ⟨cj0, cj1, cj2, cj3, cj4, cj5, cj6, cj7, cj8, cj9, ci0, ci1, ci2, ci3, ci4, ci5, ci6, ci7, ci8, ci9⟩ (fun hHeld => ?_)
     refine with_tabW sym_left.tab11 sym_left.bits11 (fun HT_ HW_ => ?_)
     refine pure_ (i := 0) (N := some 61) (v := ?_) (a' := ?_) #[true, false, false, false, false, false, false, false, false, false, false, false, false, false, false, false, false, false] rfl rfl (any_of HT_.out (by kernel_rfl)) (fun _ _ _ h => h) (Or.inl ⟨by rfl, ?_⟩) ?_ ?_
     rotate_left
     ·intro w'
      go_simp
      with_reducible rfl
     rotate_left
     ·simp only [Act.put, ta, tb, tc, i64_w, i32_w]
      rfl
     refine pure_ (i := 1) (N := some 62) (v := ?_) (a' := ?_) #[true, true, false, false, false, false, false, false, false, false, false, false, false, false, false, false, false, false] rfl rfl (any_of HT_.out (by kernel_rfl)) (fun _ _ _ h => h) (Or.inl ⟨by rfl, ?_⟩) ?_ ?_
     rotate_left
     ·intro w'
      go_simp
      with_reducible rfl
     rotate_left
     ·simp only [Act.put, ta, tb, tc, i64_w, i32_w]
      rfl
     refine pure_ (i := 2) (N := some 63) (v := ?_) (a' := ?_) #[true, true, true, false, false, false, false, false, false, false, false, false, false, false, false, false, false, false] rfl rfl (any_of HT_.out (by kernel_rfl)) (fun _ _ _ h => h) (Or.inl ⟨by rfl, ?_⟩) ?_ ?_
     rotate_left
     ·intro w'
      go_simp
      with_reducible rfl
     rotate_left
     ·simp only [Act.put, ta, tb, tc, i64_w, i32_w]
      rfl
     refine pure_ (i := 3) (N := some 64) (v := ?_) (a' := ?_) #[true, true, true, true, false, false, false, false, false, false, false, false, false, false, false, false, false, false] rfl rfl (any_of HT_.out (by kernel_rfl)) (fun _ _ _ h => h) (Or.inl ⟨by rfl, ?_⟩) ?_ ?_
     rotate_left
     ·intro w'
      go_simp
      with_reducible rfl
     rotate_left
     ·simp only [Act.put, ta, tb, tc, i64_w, i32_w]
      rfl
     refine pure_ (i := 4) (N := some 65) (v := ?_) (a' := ?_) #[true, true, true, true, true, false, false, false, false, false, false, false, false, false, false, false, false, false] rfl rfl (any_of HT_.out (by kernel_rfl)) (fun _ _ _ h => h) (Or.inl ⟨by rfl, ?_⟩) ?_ ?_
     rotate_left
     ·intro w'
      go_simp
      with_reducible rfl
     rotate_left
     ·simp only [Act.put, ta, tb, tc, i64_w, i32_w]
      rfl
     refine pure_ (i := 5) (N := some 66) (v := ?_) (a' := ?_) #[true, true, true, true, true, true, false, false, false, false, false, false, false, false, false, false, false, false] rfl rfl (any_of HT_.out (by kernel_rfl)) (fun _ _ _ h => h) (Or.inl ⟨by rfl, ?_⟩) ?_ ?_
     rotate_left
     ·intro w'
      go_simp
      with_reducible rfl
     rotate_left
     ·simp only [Act.put, ta, tb, tc, i64_w, i32_w]
      rfl
     refine pure_ (i := 6) (N := some 67) (v := ?_) (a' := ?_) #[true, true, true, true, true, true, true, false, false, false, false, false, false, false, false, false, false, false] rfl rfl (any_of HT_.out (by kernel_rfl)) (fun _ _ _ h => h) (Or.inl ⟨by rfl, ?_⟩) ?_ ?_
     rotate_left
     ·intro w'
      go_simp
      with_reducible rfl
     rotate_left
     ·simp only [Act.put, ta, tb, tc, i64_w, i32_w]
      rfl
     refine pure_ (i := 7) (N := some 68) (v := ?_) (a' := ?_) #[true, true, true, true, true, true, true, true, false, false, false, false, false, false, false, false, false, false] rfl rfl (any_of HT_.out (by kernel_rfl)) (fun _ _ _ h => h) (Or.inl ⟨by rfl, ?_⟩) ?_ ?_
     rotate_left
     ·intro w'
      go_simp
      with_reducible rfl
     rotate_left
     ·simp only [Act.put, ta, tb, tc, i64_w, i32_w]
      rfl
     refine pure_ (i := 8) (N := some 69) (v := ?_) (a' := ?_) #[true, true, true, true, true, true, true, true, true, false, false, false, false, false, false, false, false, false] rfl rfl (any_of HT_.out (by kernel_rfl)) (fun _ _ _ h => h) (Or.inl ⟨by rfl, ?_⟩) ?_ ?_
     rotate_left
     ·intro w'
      go_simp
      with_reducible rfl
     rotate_left
     ·simp only [Act.put, ta, tb, tc, i64_w, i32_w]
      rfl
     refine pure_ (i := 10) (N := some 71) (v := ?_) (a' := ?_) #[true, true, true, true, true, true, true, true, true, false, true, false, false, false, false, false, false, false] rfl rfl (any_of HT_.out (by kernel_rfl)) (fun _ _ _ h => h) (Or.inl ⟨by rfl, ?_⟩) ?_ ?_
     rotate_left
     ·intro w'
      go_simp
      with_reducible rfl
     rotate_left
     ·simp only [Act.put, ta, tb, tc, i64_w, i32_w]
      rfl
     refine pure_ (i := 11) (N := some 72) (v := ?_) (a' := ?_) #[true, true, true, true, true, true, true, true, true, false, true, true, false, false, false, false, false, false] rfl rfl (any_of HT_.out (by kernel_rfl)) (fun _ _ _ h => h) (Or.inl ⟨by rfl, ?_⟩) ?_ ?_
     rotate_left
     ·intro w'
      go_simp
      with_reducible rfl
     rotate_left
     ·simp only [Act.put, ta, tb, tc, i64_w, i32_w]
      rfl
     refine pure_ (i := 12) (N := some 73) (v := ?_) (a' := ?_) #[true, true, true, true, true, true, true, true, true, false, true, true, true, false, false, false, false, false] rfl rfl (any_of HT_.out (by kernel_rfl)) (fun _ _ _ h => h) (Or.inl ⟨by rfl, ?_⟩) ?_ ?_
     rotate_left
     ·intro w'
      go_simp
      with_reducible rfl
     rotate_left
     ·simp only [Act.put, ta, tb, tc, i64_w, i32_w]
      rfl
     refine take_ (i := 9) (N := some 70) (v := ?_) (a' := ?_) #[true, true, true, true, true, true, true, true, true, true, true, true, true, false, false, false, false, false] rfl rfl (take_ofW HT_.out HW_.out (by kernel_rfl)) (fun _ _ _ h => h) (Or.inl ⟨by rfl, ?_⟩) hHeld ?_ ?_
     rotate_left
     ·rintro w' ⟨s0, s1, s2, s3, s4, s5, s6, s7, s8, s9, s10, s11, s12, s13, s14, s15, s16, s17, s18, s19⟩
      go_simp
      with_reducible rfl
     rotate_left
     ·simp only [Act.put, ta, tb, tc, i64_w, i32_w]
      rfl
     refine take_ (i := 13) (N := some 74) (v := ?_) (a' := ?_) #[true, true, true, true, true, true, true, true, true, true, true, true, true, true, false, false, false, false] rfl rfl (take_ofW HT_.out HW_.out (by kernel_rfl)) (fun _ _ _ h => h) (Or.inl ⟨by rfl, ?_⟩) hHeld ?_ ?_
     rotate_left
     ·rintro w' ⟨s0, s1, s2, s3, s4, s5, s6, s7, s8, s9, s10, s11, s12, s13, s14, s15, s16, s17, s18, s19⟩
      go_simp
      with_reducible rfl
     rotate_left
     ·simp only [Act.put, ta, tb, tc, i64_w, i32_w]
      rfl
     refine pure_ (i := 14) (N := some 75) (v := ?_) (a' := ?_) #[true, true, true, true, true, true, true, true, true, true, true, true, true, true, true, false, false, false] rfl rfl (any_of HT_.out (by kernel_rfl)) (fun _ _ _ h => h) (Or.inl ⟨by rfl, ?_⟩) ?_ ?_
     rotate_left
     ·intro w'
      go_simp
      with_reducible rfl
     rotate_left
     ·simp only [Act.put, ta, tb, tc, i64_w, i32_w]
      rfl
     refine last_ (i := 15) (N := none) #[true, true, true, true, true, true, true, true, true, true, true, true, true, true, true, true, false, false] rfl rfl (one_of HT_.out (by kernel_rfl)) (by decide) (fun K hK => ?_)
     refine skip_ (w1 := ?_) (by rfl) rfl ?_ ?_
     rotate_left
     ·go_simp
      rfl
     refine gen_K (fun W1 hW1 => ?_)
     have hb1 : W1.heap[gr]? = some (.cells (setA cur (k * 10) (qC pj)) 31 (0, 0)) := by rw [hW1]; (try with_reducible refine blk_drew ?_); exact heap_set10 HCUR.out (k * 10) pj
     have hf1 : Fr wx W1 (fun k => k = gr) := by rw [hW1]; repeat (with_reducible first | exact Fr.refl _ _ | refine Fr.drew ?_ | refine Fr.setg ?_ _ _)
     have HB1 := Aside0.mk hb1
     have HF1 := Aside0.mk hf1
     obtain ⟨u0, u1, u2, u3, u4, u5, u6, u7, u8, u9, d0, d1, d2, d3, d4, d5, d6, d7, d8, d9, z0, z1, z2, z3, z4, z5, z6, z7, z8, z9⟩ := cellsQ hb1 (i := k1) (by rw [setA_size]; omega)
     clear hW1 hb1 hf1
     refine hK.out _ _ ?_
     clear hK K
     refine pure_ (i := 16) (N := some 76) (v := ?_) (a' := ?_) #[true, true, true, true, true, true, true, true, true, true, true, true, true, true, true, true, true, false] rfl rfl (any_of HT_.out (by kernel_rfl)) (fun _ _ _ h => h) (Or.inl ⟨by rfl, ?_⟩) ?_ ?_
     rotate_left
     ·intro w'
      go_simp
      with_reducible rfl
     rotate_left
     ·simp only [Act.put, ta, tb, tc, i64_w, i32_w]
      rfl
     refine last_ (i := 17) (N := none) #[true, true, true, true, true, true, true, true, true, true, true, true, true, true, true, true, true, true] rfl rfl (one_of HT_.out (by kernel_rfl)) (by decide) (fun K hK => ?_)
     refine skip_ (w1 := ?_) (by rfl) rfl ?_ ?_
     rotate_left
     ·go_simp
      rfl
     refine hK.out _ _ ?_
     clear hK K
     refine done_ (done_of HT_.out (by kernel_rfl)) ?_
     refine gen_K (fun W2 hW2 => ?_)
     have hb2 : W2.heap[gr]? = some (.cells (setA (setA cur (k * 10) (qC pj)) (k1 * 10) (qC pi)) 31 (0, 0)) := by rw [hW2]; (try with_reducible refine blk_drew ?_); exact heap_set10 HB1.out (k1 * 10) pi
     have hf2 : Fr wx W2 (fun k => k = gr) := by rw [hW2]; repeat (with_reducible first | exact HF1.out | refine Fr.drew ?_ | refine Fr.setg ?_ _ _)
     have HS2 := Aside0.mk (HSX.out.swapped HI.out HJ.out HPT.out.1 HCUR.out HPT.out.2.1 HPT.out.2.2.1 HPT.out.2.2.2.1 HPT.out.2.2.2.2 hb2 hf2)
     clear hW2 hb2 hf2 HB1 HF1 HCUR HPT hil hjl hnc hsz
     have HS5 : Aside0 (Srt w W2 base gr n cap (insL P S R x (q + 1))) := ⟨by
      have h := HS2.out
      rw [HPP.out.1, HPP.out.2.2.1, HKQ.out.1, ← HN.out.1, insL_up HPP.out.2.1] at h
      exact h⟩
     clear HS2 HSX HI HJ
     go_wp2
     clear hw3 hw4
     go_roundg (S.length - (q + 1))
     case measure => rw [HG2.out]; have := HPP.out.2.2.2; have := HE.out; omega
     case rel => exact ⟨k1, q + 1, rfl, rfl, by have := HPP.out.2.2.1; have := HKQ.out; omega, HPP.out.2.2.2, ⟨HS5.out.below (by repeat (first | exact Below.refl _ _ | apply pw_below_drewN | apply below_drew1))⟩⟩
    ·have q5 : ¬ (k : Int) < (i1 : Int) := by have := HI1E.out; omega
     have HQ : Aside0 (q = jj) := ⟨by omega⟩
     have hw1 := iw HI1E.out.2.1 HI1E.out.2.2
     have hw2 := w64 HI1E.out.2.1 HI1E.out.2.2
     clear hk hq hlt
     go_wp2
     go_end0
     obtain ⟨g1, g2⟩ := ins_left (key := kO) (r := S) (x := x) (i := jj) HSO.out HI1.out HI2.out HE.out.2
     refine ⟨rfl, S.take jj ++ x :: S.drop jj, ?_, g1, g2⟩
     have h := HS.out
     rw [HQ.out] at h
     unfold insL at h
     simpa using h
set_option maxRecDepth 100000 in
set_option maxHeartbeats 16000000 in
theorem sym_right (base gr n cap a m b : Nat) (P S R : List QP) (x : QP) (w : World) (h : Srt w w base gr n cap (P ++ S ++ [x] ++ R)) (ha : P.length = a) (hm : P.length + S.length = m) (hb : m + 1 = b) (hS : sO kO S) (hn : n ≤ 100000) (hne : S.length ≠ 1) :
  Calls Try.prog 56 #[.slice (some ⟨gr, 0, none⟩) n cap, .int .i64 a, .int .i64 m, .int .i64 b, .func (.func 21) #[] #[]] w fun e w' => PartP w base gr n cap P (S ++ [x]) R e w' := by
 have HH : Aside0 (Srt w w base gr n cap (insL P S R x S.length)) := ⟨by unfold insL; rw [List.take_of_length_le (Nat.le_refl _), List.drop_of_length_le (Nat.le_refl _)]; simpa using h⟩
 have HN : Aside0 (P.length = a ∧ m = a + S.length ∧ m + 1 = b ∧ P.length + 1 + S.length + R.length = n ∧ n ≤ 100000) := ⟨by have := h.len; simp only [List.length_append, List.length_cons, List.length_nil] at this; omega⟩
 have HSO := Aside0.mk hS
 obtain ⟨d, hd⟩ : ∃ d, d = S.length := ⟨_, rfl⟩
 have e1 : (m : Int) - (a : Int) = (d : Int) := by omega
 have k1 : (-1000000 : Int) ≤ (d : Int) ∧ (d : Int) ≤ 1000000 := by have := HN.out; omega
 have e0 : (b : Int) - (m : Int) = 1 := by omega
 have hw1 := iw e1 k1
 have hw2 := w64 e1 k1
 have hw3 := iw e0 (by omega)
 have hw4 := w64 e0 (by omega)
 have hd1 : ((d : Int) == 1) = false := by simp; omega
 have hd2 : (d == 1) = false := by simp; omega
 have HAX : Aside0 ((insL P S R x S.length)[m]? = some x) := ⟨by have h := insL_at (P := P) (S := S) (R := R) (x := x) (m := S.length) (Nat.le_refl _); rw [hm] at h; exact h⟩
 have q0 : (0 : Int) ≤ m := by omega
 have q1 : (m : Int) < n := by have := HN.out; omega
 clear h ha hm hb hS hn e1 e0 k1 hd hne
 go_enter Try.func56, Try.ntmps56
 go_wp2
 clear hw1 hw2 hw3 hw4 hd1 hd2
 go_loopg [14, 15] (S.length + 1) (fun gg v10 v11 wr => ∃ (i j ii jj : Nat), gg = jj - ii + 1 ∧ v10 = .int .i64 i ∧ v11 = .int .i64 j ∧ i = a + ii ∧ j = a + jj ∧ ii ≤ jj ∧ jj ≤ S.length ∧ Aside0 (0 < ii → ∀ y, S[ii - 1]? = some y → ¬ ltO (kO x) (kO y)) ∧ Aside0 (∀ y, S[jj]? = some y → ltO (kO x) (kO y)) ∧ Aside0 (Srt w wr base gr n cap (insL P S R x S.length)))
 case atStart => exact ⟨a, m, 0, S.length, by simp, rfl, rfl, rfl, HN.out.2.1, Nat.zero_le _, Nat.le_refl _, ⟨fun h => absurd h (Nat.lt_irrefl 0)⟩, ⟨fun y hy => by simp at hy⟩, HH⟩
 case round =>
  clear HH
  obtain ⟨i, j, ii, jj, hg, rfl, rfl, hi, hj, hij, hjs, HI1, HI2, HS⟩ := hrel
  have HG := Aside0.mk hg
  have HIJ := Aside0.mk (And.intro hi (And.intro hj (And.intro hij hjs)))
  clear hg
  by_cases hlt : ii < jj
  ·obtain ⟨s, hs⟩ : ∃ s, s = i + j := ⟨_, rfl⟩
   obtain ⟨hh, hhh⟩ : ∃ hh, hh = (ii + jj) / 2 := ⟨_, rfl⟩
   obtain ⟨h, hhe⟩ : ∃ h, h = a + hh := ⟨_, rfl⟩
   have e1 : (i : Int) + (j : Int) = (s : Int) := by omega
   have k1 : (-1000000 : Int) ≤ (s : Int) ∧ (s : Int) ≤ 1000000 := by have := HN.out; omega
   have e2 : (h : Int) = (s : Int) / 2 := by omega
   have e3 : (h : Int) + 1 = ((h + 1 : Nat) : Int) := by omega
   have k3 : (-1000000 : Int) ≤ ((h + 1 : Nat) : Int) ∧ ((h + 1 : Nat) : Int) ≤ 1000000 := by have := HN.out; omega
   have k2 : (0 : Int) ≤ (s : Int) ∧ (s : Int) ≤ 1000000 := by omega
   have q2 : (0 : Int) ≤ h := by omega
   have q3 : (h : Int) < n := by have := HN.out; omega
   have q4 : (i : Int) < (j : Int) := by omega
   obtain ⟨y, hy⟩ : ∃ y, S[hh]? = some y := ⟨_, List.getElem?_eq_getElem (by omega)⟩
   have HY := Aside0.mk hy
   have HHY : Aside0 ((insL P S R x S.length)[h]? = some y) := ⟨by
    have h1 := (List.getElem?_eq_some_iff.1 hy).1
    unfold insL
    rw [List.take_of_length_le (Nat.le_refl _), List.append_assoc, List.append_assoc, List.getElem?_append_right (by have := HN.out; omega), show h - P.length = hh by have := HN.out; omega, List.getElem?_append_left h1]
    exact hy⟩
   have HHH : Aside0 (hh = (ii + jj) / 2 ∧ h = a + hh ∧ ii < jj) := ⟨hhh, hhe, hlt⟩
   have HE3 := Aside0.mk (And.intro e3 k3)
   have hw1 := iw e1 k1
   have hw2 := w64 e1 k1
   have hw3 := midw e2 k2
   have HM3 := Aside0.mk hw3
   clear e1 e2 e3 k1 k2 k3 hs hhh hhe hy hlt hi hj hij hjs
   go_upto_region 17 with fail
   refine gen_world (fun wx hwx => ?_)
   have HSX : Aside0 (Srt w wx base gr n cap (insL P S R x S.length)) := ⟨by rw [hwx]; first | exact HS.out | exact HS.out.below (by repeat (first | exact Below.refl _ _ | apply pw_below_drewN | apply below_drew1))⟩
   clear hwx
   have HRX := Aside0.mk (HSX.out.rd HAX.out)
   have HRY := Aside0.mk (HSX.out.rd HHY.out)
   obtain ⟨x0, x1, x2, x3, x4, x5, x6, x7, x8, x9⟩ := HSX.out.cells HAX.out
   obtain ⟨y0, y1, y2, y3, y4, y5, y6, y7, y8, y9⟩ := HSX.out.cells HHY.out
   by_cases hlt : ltO (kO x) (kO y)
   ·have HLT := Aside0.mk hlt
    clear hlt
    refine start_ (n := 12) (S := fun w' => w'.cell? ⟨gr, m * 10, none⟩ = some (.int .i64 x.e.f0) ∧ w'.cell? ⟨gr, m * 10 + 1, none⟩ = some (.int .i64 x.e.f1.f0) ∧ w'.cell? ⟨gr, m * 10 + 2, none⟩ = some (.int .i64 x.e.f1.f1) ∧ w'.cell? ⟨gr, m * 10 + 3, none⟩ = some (.int .i64 x.e.f2.f0) ∧ w'.cell? ⟨gr, m * 10 + 4, none⟩ = some (.int .i64 x.e.f2.f1) ∧ w'.cell? ⟨gr, m * 10 + 5, none⟩ = some (.int .i64 x.e.f3.f0) ∧ w'.cell? ⟨gr, m * 10 + 6, none⟩ = some (.int .i64 x.e.f3.f1) ∧ w'.cell? ⟨gr, m * 10 + 7, none⟩ = some (.bool x.e.f4) ∧ w'.cell? ⟨gr, m * 10 + 8, none⟩ = some (.string x.e.f5) ∧ w'.cell? ⟨gr, m * 10 + 9, none⟩ = some (.slice x.A x.e.f6.length x.c) ∧ w'.cell? ⟨gr, h * 10, none⟩ = some (.int .i64 y.e.f0) ∧ w'.cell? ⟨gr, h * 10 + 1, none⟩ = some (.int .i64 y.e.f1.f0) ∧ w'.cell? ⟨gr, h * 10 + 2, none⟩ = some (.int .i64 y.e.f1.f1) ∧ w'.cell? ⟨gr, h * 10 + 3, none⟩ = some (.int .i64 y.e.f2.f0) ∧ w'.cell? ⟨gr, h * 10 + 4, none⟩ = some (.int .i64 y.e.f2.f1) ∧ w'.cell? ⟨gr, h * 10 + 5, none⟩ = some (.int .i64 y.e.f3.f0) ∧ w'.cell? ⟨gr, h * 10 + 6, none⟩ = some (.int .i64 y.e.f3.f1) ∧ w'.cell? ⟨gr, h * 10 + 7, none⟩ = some (.bool y.e.f4) ∧ w'.cell? ⟨gr, h * 10 + 8, none⟩ = some (.string y.e.f5) ∧ w'.cell? ⟨gr, h * 10 + 9, none⟩ = some (.slice y.A y.e.f6.length y.c)) (ds := []) #[false, false, false, false, false, false, false, false, false, false, false, false] (by kernel_rfl) rfl rfl ⟨x0, x1, x2, x3, x4, x5, x6, x7, x8, x9, y0, y1, y2, y3, y4, y5, y6, y7, y8, y9⟩ (fun hHeld => ?_)
    refine with_tabW sym_right.tab17 sym_right.bits17 (fun HT_ HW_ => ?_)
    refine pure_ (i := 0) (N := some 92) (v := ?_) (a' := ?_) #[true, false, false, false, false, false, false, false, false, false, false, false] rfl rfl (any_of HT_.out (by kernel_rfl)) (fun _ _ _ h => h) (Or.inl ⟨by rfl, ?_⟩) ?_ ?_
    rotate_left
    ·intro w'
     go_simp
     with_reducible rfl
    rotate_left
    ·simp only [Act.put, ta, tb, tc, i64_w, i32_w]
     rfl
    refine pure_ (i := 1) (N := some 93) (v := ?_) (a' := ?_) #[true, true, false, false, false, false, false, false, false, false, false, false] rfl rfl (any_of HT_.out (by kernel_rfl)) (fun _ _ _ h => h) (Or.inl ⟨by rfl, ?_⟩) ?_ ?_
    rotate_left
    ·intro w'
     go_simp
     with_reducible rfl
    rotate_left
    ·simp only [Act.put, ta, tb, tc, i64_w, i32_w]
     rfl
    refine pure_ (i := 2) (N := some 94) (v := ?_) (a' := ?_) #[true, true, true, false, false, false, false, false, false, false, false, false] rfl rfl (any_of HT_.out (by kernel_rfl)) (fun _ _ _ h => h) (Or.inl ⟨by rfl, ?_⟩) ?_ ?_
    rotate_left
    ·intro w'
     go_simp
     with_reducible rfl
    rotate_left
    ·simp only [Act.put, ta, tb, tc, i64_w, i32_w]
     rfl
    refine pure_ (i := 3) (N := some 95) (v := ?_) (a' := ?_) #[true, true, true, true, false, false, false, false, false, false, false, false] rfl rfl (any_of HT_.out (by kernel_rfl)) (fun _ _ _ h => h) (Or.inl ⟨by rfl, ?_⟩) ?_ ?_
    rotate_left
    ·intro w'
     go_simp
     with_reducible rfl
    rotate_left
    ·simp only [Act.put, ta, tb, tc, i64_w, i32_w]
     rfl
    refine pure_ (i := 5) (N := some 97) (v := ?_) (a' := ?_) #[true, true, true, true, false, true, false, false, false, false, false, false] rfl rfl (any_of HT_.out (by kernel_rfl)) (fun _ _ _ h => h) (Or.inl ⟨by rfl, ?_⟩) ?_ ?_
    rotate_left
    ·intro w'
     go_simp
     with_reducible rfl
    rotate_left
    ·simp only [Act.put, ta, tb, tc, i64_w, i32_w]
     rfl
    refine pure_ (i := 6) (N := some 98) (v := ?_) (a' := ?_) #[true, true, true, true, false, true, true, false, false, false, false, false] rfl rfl (any_of HT_.out (by kernel_rfl)) (fun _ _ _ h => h) (Or.inl ⟨by rfl, ?_⟩) ?_ ?_
    rotate_left
    ·intro w'
     go_simp
     with_reducible rfl
    rotate_left
    ·simp only [Act.put, ta, tb, tc, i64_w, i32_w]
     rfl
    refine pure_ (i := 7) (N := some 99) (v := ?_) (a' := ?_) #[true, true, true, true, false, true, true, true, false, false, false, false] rfl rfl (any_of HT_.out (by kernel_rfl)) (fun _ _ _ h => h) (Or.inl ⟨by rfl, ?_⟩) ?_ ?_
    rotate_left
    ·intro w'
     go_simp
     with_reducible rfl
    rotate_left
    ·simp only [Act.put, ta, tb, tc, i64_w, i32_w]
     rfl
    refine take_ (i := 4) (N := some 96) (v := ?_) (a' := ?_) #[true, true, true, true, true, true, true, true, false, false, false, false] rfl rfl (take_ofW HT_.out HW_.out (by kernel_rfl)) (fun _ _ _ h => h) (Or.inl ⟨by rfl, ?_⟩) hHeld ?_ ?_
    rotate_left
    ·rintro w' ⟨s0, s1, s2, s3, s4, s5, s6, s7, s8, s9, s10, s11, s12, s13, s14, s15, s16, s17, s18, s19⟩
     go_simp
     with_reducible rfl
    rotate_left
    ·simp only [Act.put, ta, tb, tc, i64_w, i32_w]
     rfl
    refine take_ (i := 8) (N := some 100) (v := ?_) (a' := ?_) #[true, true, true, true, true, true, true, true, true, false, false, false] rfl rfl (take_ofW HT_.out HW_.out (by kernel_rfl)) (fun _ _ _ h => h) (Or.inl ⟨by rfl, ?_⟩) hHeld ?_ ?_
    rotate_left
    ·rintro w' ⟨s0, s1, s2, s3, s4, s5, s6, s7, s8, s9, s10, s11, s12, s13, s14, s15, s16, s17, s18, s19⟩
     go_simp
     with_reducible rfl
    rotate_left
    ·simp only [Act.put, ta, tb, tc, i64_w, i32_w]
     rfl
    refine one_ (i := 9) (N := some 101) #[true, true, true, true, true, true, true, true, true, true, false, false] rfl rfl (one_of HT_.out (by kernel_rfl)) (by decide) (fun K hK => ?_)
    refine goesv_ Try.func21 (by kernel_rfl) rfl #[.agg #[.int .i64 x.e.f0, .int .i64 x.e.f1.f0, .int .i64 x.e.f1.f1, .int .i64 x.e.f2.f0, .int .i64 x.e.f2.f1, .int .i64 x.e.f3.f0, .int .i64 x.e.f3.f1, .bool x.e.f4, .string x.e.f5, .slice x.A x.e.f6.length x.c], .agg #[.int .i64 y.e.f0, .int .i64 y.e.f1.f0, .int .i64 y.e.f1.f1, .int .i64 y.e.f2.f0, .int .i64 y.e.f2.f1, .int .i64 y.e.f3.f0, .int .i64 y.e.f3.f1, .bool y.e.f4, .string y.e.f5, .slice y.A y.e.f6.length y.c]] (by rfl) rfl rfl (by rfl) (by simp only [List.map_toArray, List.map_cons, List.map_nil]; rfl) ?_
    with_reducible refine (cmpo_lt x y _ (HRX.out.below (below_drew1 (Below.refl _ _))) (HRY.out.below (below_drew1 (Below.refl _ _))) HLT.out).mono ?_
    rintro e w3 ⟨r, rfl, hr1, hr2, hb3⟩
    refine ⟨_, rfl, ?_⟩
    refine hK.out _ _ (lift20 hb3 x0 x1 x2 x3 x4 x5 x6 x7 x8 x9 y0 y1 y2 y3 y4 y5 y6 y7 y8 y9) (fun hHeld => ?_)
    clear hK K
    refine norm_ (a' := ?_) ?_ ?_
    rotate_left
    ·show Act.put _ (some 101) _ = _
     simp only [Act.put, ta, tb, tc, i64_w, i32_w]
     rfl
    refine pure_ (i := 10) (N := some 102) (v := ?_) (a' := ?_) #[true, true, true, true, true, true, true, true, true, true, true, false] rfl rfl (any_of HT_.out (by kernel_rfl)) (fun _ _ _ h => h) (Or.inl ⟨by rfl, ?_⟩) ?_ ?_
    rotate_left
    ·intro w'
     go_simp
     with_reducible rfl
    rotate_left
    ·simp only [Act.put, ta, tb, tc, i64_w, i32_w]
     rfl
    refine pure_ (i := 11) (N := some 103) (v := ?_) (a' := ?_) #[true, true, true, true, true, true, true, true, true, true, true, true] rfl rfl (any_of HT_.out (by kernel_rfl)) (fun _ _ _ h => h) (Or.inl ⟨by rfl, ?_⟩) ?_ ?_
    rotate_left
    ·intro w'
     go_simp
     with_reducible rfl
    rotate_left
    ·simp only [Act.put, ta, tb, tc, i64_w, i32_w]
     rfl
    refine done_ (done_of HT_.out (by kernel_rfl)) ?_
    have HS3 : Aside0 (Srt w w3 base gr n cap (insL P S R x S.length)) := ⟨HSX.out.below (below_step (below_drew1 (Below.refl _ _)) hb3)⟩
    clear hb3 HSX HRX HRY x0 x1 x2 x3 x4 x5 x6 x7 x8 x9 y0 y1 y2 y3 y4 y5 y6 y7 y8 y9 HS hw1 hw2 hw3
    go_wp2
    go_roundg (hh - ii + 1)
    case measure => rw [HG.out]; have := HHH.out; omega
    case rel => exact ⟨i, h, ii, hh, rfl, rfl, (by first | rfl | rw [HM3.out]), HIJ.out.1, HHH.out.2.1, by have := HHH.out; omega, by have := HHH.out; have := HIJ.out; omega, HI1, ⟨fun z hz => by rw [HY.out] at hz; injection hz with hz; rw [← hz]; exact HLT.out⟩, ⟨HS3.out.below (by repeat (first | exact Below.refl _ _ | apply pw_below_drewN | apply below_drew1))⟩⟩
   ·have HLT := Aside0.mk hlt
    clear hlt
    refine start_ (n := 12) (S := fun w' => w'.cell? ⟨gr, m * 10, none⟩ = some (.int .i64 x.e.f0) ∧ w'.cell? ⟨gr, m * 10 + 1, none⟩ = some (.int .i64 x.e.f1.f0) ∧ w'.cell? ⟨gr, m * 10 + 2, none⟩ = some (.int .i64 x.e.f1.f1) ∧ w'.cell? ⟨gr, m * 10 + 3, none⟩ = some (.int .i64 x.e.f2.f0) ∧ w'.cell? ⟨gr, m * 10 + 4, none⟩ = some (.int .i64 x.e.f2.f1) ∧ w'.cell? ⟨gr, m * 10 + 5, none⟩ = some (.int .i64 x.e.f3.f0) ∧ w'.cell? ⟨gr, m * 10 + 6, none⟩ = some (.int .i64 x.e.f3.f1) ∧ w'.cell? ⟨gr, m * 10 + 7, none⟩ = some (.bool x.e.f4) ∧ w'.cell? ⟨gr, m * 10 + 8, none⟩ = some (.string x.e.f5) ∧ w'.cell? ⟨gr, m * 10 + 9, none⟩ = some (.slice x.A x.e.f6.length x.c) ∧ w'.cell? ⟨gr, h * 10, none⟩ = some (.int .i64 y.e.f0) ∧ w'.cell? ⟨gr, h * 10 + 1, none⟩ = some (.int .i64 y.e.f1.f0) ∧ w'.cell? ⟨gr, h * 10 + 2, none⟩ = some (.int .i64 y.e.f1.f1) ∧ w'.cell? ⟨gr, h * 10 + 3, none⟩ = some (.int .i64 y.e.f2.f0) ∧ w'.cell? ⟨gr, h * 10 + 4, none⟩ = some (.int .i64 y.e.f2.f1) ∧ w'.cell? ⟨gr, h * 10 + 5, none⟩ = some (.int .i64 y.e.f3.f0) ∧ w'.cell? ⟨gr, h * 10 + 6, none⟩ = some (.int .i64 y.e.f3.f1) ∧ w'.cell? ⟨gr, h * 10 + 7, none⟩ = some (.bool y.e.f4) ∧ w'.cell? ⟨gr, h * 10 + 8, none⟩ = some (.string y.e.f5) ∧ w'.cell? ⟨gr, h * 10 + 9, none⟩ = some (.slice y.A y.e.f6.length y.c)) (ds := []) #[false, false, false, false, false, false, false, false, false, false, false, false] (by kernel_rfl) rfl rfl ⟨x0, x1, x2, x3, x4, x5, x6, x7, x8, x9, y0, y1, y2, y3, y4, y5, y6, y7, y8, y9⟩ (fun hHeld => ?_)
    refine with_tabW sym_right.tab17 sym_right.bits17 (fun HT_ HW_ => ?_)
    refine pure_ (i := 0) (N := some 92) (v := ?_) (a' := ?_) #[true, false, false, false, false, false, false, false, false, false, false, false] rfl rfl (any_of HT_.out (by kernel_rfl)) (fun _ _ _ h => h) (Or.inl ⟨by rfl, ?_⟩) ?_ ?_
    rotate_left
    ·intro w'
     go_simp
     with_reducible rfl
    rotate_left
    ·simp only [Act.put, ta, tb, tc, i64_w, i32_w]
     rfl
    refine pure_ (i := 1) (N := some 93) (v := ?_) (a' := ?_) #[true, true, false, false, false, false, false, false, false, false, false, false] rfl rfl (any_of HT_.out (by kernel_rfl)) (fun _ _ _ h => h) (Or.inl ⟨by rfl, ?_⟩) ?_ ?_
    rotate_left
    ·intro w'
     go_simp
     with_reducible rfl
    rotate_left
    ·simp only [Act.put, ta, tb, tc, i64_w, i32_w]
     rfl
    refine pure_ (i := 2) (N := some 94) (v := ?_) (a' := ?_) #[true, true, true, false, false, false, false, false, false, false, false, false] rfl rfl (any_of HT_.out (by kernel_rfl)) (fun _ _ _ h => h) (Or.inl ⟨by rfl, ?_⟩) ?_ ?_
    rotate_left
    ·intro w'
     go_simp
     with_reducible rfl
    rotate_left
    ·simp only [Act.put, ta, tb, tc, i64_w, i32_w]
     rfl
    refine pure_ (i := 3) (N := some 95) (v := ?_) (a' := ?_) #[true, true, true, true, false, false, false, false, false, false, false, false] rfl rfl (any_of HT_.out (by kernel_rfl)) (fun _ _ _ h => h) (Or.inl ⟨by rfl, ?_⟩) ?_ ?_
    rotate_left
    ·intro w'
     go_simp
     with_reducible rfl
    rotate_left
    ·simp only [Act.put, ta, tb, tc, i64_w, i32_w]
     rfl
    refine pure_ (i := 5) (N := some 97) (v := ?_) (a' := ?_) #[true, true, true, true, false, true, false, false, false, false, false, false] rfl rfl (any_of HT_.out (by kernel_rfl)) (fun _ _ _ h => h) (Or.inl ⟨by rfl, ?_⟩) ?_ ?_
    rotate_left
    ·intro w'
     go_simp
     with_reducible rfl
    rotate_left
    ·simp only [Act.put, ta, tb, tc, i64_w, i32_w]
     rfl
    refine pure_ (i := 6) (N := some 98) (v := ?_) (a' := ?_) #[true, true, true, true, false, true, true, false, false, false, false, false] rfl rfl (any_of HT_.out (by kernel_rfl)) (fun _ _ _ h => h) (Or.inl ⟨by rfl, ?_⟩) ?_ ?_
    rotate_left
    ·intro w'
     go_simp
     with_reducible rfl
    rotate_left
    ·simp only [Act.put, ta, tb, tc, i64_w, i32_w]
     rfl
    refine pure_ (i := 7) (N := some 99) (v := ?_) (a' := ?_) #[true, true, true, true, false, true, true, true, false, false, false, false] rfl rfl (any_of HT_.out (by kernel_rfl)) (fun _ _ _ h => h) (Or.inl ⟨by rfl, ?_⟩) ?_ ?_
    rotate_left
    ·intro w'
     go_simp
     with_reducible rfl
    rotate_left
    ·simp only [Act.put, ta, tb, tc, i64_w, i32_w]
     rfl
    refine take_ (i := 4) (N := some 96) (v := ?_) (a' := ?_) #[true, true, true, true, true, true, true, true, false, false, false, false] rfl rfl (take_ofW HT_.out HW_.out (by kernel_rfl)) (fun _ _ _ h => h) (Or.inl ⟨by rfl, ?_⟩) hHeld ?_ ?_
    rotate_left
    ·rintro w' ⟨s0, s1, s2, s3, s4, s5, s6, s7, s8, s9, s10, s11, s12, s13, s14, s15, s16, s17, s18, s19⟩
     go_simp
     with_reducible rfl
    rotate_left
    ·simp only [Act.put, ta, tb, tc, i64_w, i32_w]
     rfl
    refine take_ (i := 8) (N := some 100) (v := ?_) (a' := ?_) #[true, true, true, true, true, true, true, true, true, false, false, false] rfl rfl (take_ofW HT_.out HW_.out (by kernel_rfl)) (fun _ _ _ h => h) (Or.inl ⟨by rfl, ?_⟩) hHeld ?_ ?_
    rotate_left
    ·rintro w' ⟨s0, s1, s2, s3, s4, s5, s6, s7, s8, s9, s10, s11, s12, s13, s14, s15, s16, s17, s18, s19⟩
     go_simp
     with_reducible rfl
    rotate_left
    ·simp only [Act.put, ta, tb, tc, i64_w, i32_w]
     rfl
    refine one_ (i := 9) (N := some 101) #[true, true, true, true, true, true, true, true, true, true, false, false] rfl rfl (one_of HT_.out (by kernel_rfl)) (by decide) (fun K hK => ?_)
    refine goesv_ Try.func21 (by kernel_rfl) rfl #[.agg #[.int .i64 x.e.f0, .int .i64 x.e.f1.f0, .int .i64 x.e.f1.f1, .int .i64 x.e.f2.f0, .int .i64 x.e.f2.f1, .int .i64 x.e.f3.f0, .int .i64 x.e.f3.f1, .bool x.e.f4, .string x.e.f5, .slice x.A x.e.f6.length x.c], .agg #[.int .i64 y.e.f0, .int .i64 y.e.f1.f0, .int .i64 y.e.f1.f1, .int .i64 y.e.f2.f0, .int .i64 y.e.f2.f1, .int .i64 y.e.f3.f0, .int .i64 y.e.f3.f1, .bool y.e.f4, .string y.e.f5, .slice y.A y.e.f6.length y.c]] (by rfl) rfl rfl (by rfl) (by simp only [List.map_toArray, List.map_cons, List.map_nil]; rfl) ?_
    with_reducible refine (cmpo_ge x y _ (HRX.out.below (below_drew1 (Below.refl _ _))) (HRY.out.below (below_drew1 (Below.refl _ _))) HLT.out).mono ?_
    rintro e w3 ⟨r, rfl, hr1, hr2, hb3⟩
    refine ⟨_, rfl, ?_⟩
    refine hK.out _ _ (lift20 hb3 x0 x1 x2 x3 x4 x5 x6 x7 x8 x9 y0 y1 y2 y3 y4 y5 y6 y7 y8 y9) (fun hHeld => ?_)
    clear hK K
    refine norm_ (a' := ?_) ?_ ?_
    rotate_left
    ·show Act.put _ (some 101) _ = _
     simp only [Act.put, ta, tb, tc, i64_w, i32_w]
     rfl
    refine pure_ (i := 10) (N := some 102) (v := ?_) (a' := ?_) #[true, true, true, true, true, true, true, true, true, true, true, false] rfl rfl (any_of HT_.out (by kernel_rfl)) (fun _ _ _ h => h) (Or.inl ⟨by rfl, ?_⟩) ?_ ?_
    rotate_left
    ·intro w'
     go_simp
     with_reducible rfl
    rotate_left
    ·simp only [Act.put, ta, tb, tc, i64_w, i32_w]
     rfl
    refine pure_ (i := 11) (N := some 103) (v := ?_) (a' := ?_) #[true, true, true, true, true, true, true, true, true, true, true, true] rfl rfl (any_of HT_.out (by kernel_rfl)) (fun _ _ _ h => h) (Or.inl ⟨by rfl, ?_⟩) ?_ ?_
    rotate_left
    ·intro w'
     go_simp
     with_reducible rfl
    rotate_left
    ·simp only [Act.put, ta, tb, tc, i64_w, i32_w]
     rfl
    refine done_ (done_of HT_.out (by kernel_rfl)) ?_
    have HS3 : Aside0 (Srt w w3 base gr n cap (insL P S R x S.length)) := ⟨HSX.out.below (below_step (below_drew1 (Below.refl _ _)) hb3)⟩
    clear hb3 HSX HRX HRY x0 x1 x2 x3 x4 x5 x6 x7 x8 x9 y0 y1 y2 y3 y4 y5 y6 y7 y8 y9 HS hw1 hw2 hw3
    have hw1 := iw HE3.out.1 HE3.out.2
    have hw2 := w64 HE3.out.1 HE3.out.2
    have HWP := Aside0.mk hw2
    go_wp2
    clear hw1 hw2
    go_roundg (jj - (hh + 1) + 1)
    case measure => rw [HG.out]; have := HHH.out; omega
    case rel => exact ⟨h + 1, j, hh + 1, jj, rfl, (by first | rfl | rw [HM3.out, HWP.out]), rfl, by have := HHH.out; omega, HIJ.out.2.1, by have := HHH.out; omega, HIJ.out.2.2.2, ⟨fun _ z hz => by rw [Nat.add_sub_cancel, HY.out] at hz; injection hz with hz; rw [← hz]; exact HLT.out⟩, HI2, ⟨HS3.out.below (by repeat (first | exact Below.refl _ _ | apply pw_below_drewN | apply below_drew1))⟩⟩
  ·have hje : jj = ii := by omega
   subst hje
   have q4 : ¬ (i : Int) < (j : Int) := by omega
   have HE : Aside0 (i = a + jj ∧ jj ≤ S.length) := ⟨hi, hjs⟩
   clear hi hj hij hjs hlt
   go_wp2
   go_loopg [17] S.length (fun gz v17 wi => ∃ (k q : Nat), gz = q ∧ v17 = .int .i64 k ∧ k = a + q ∧ jj ≤ q ∧ q ≤ S.length ∧ Aside0 (Srt w wi base gr n cap (insL P S R x q)))
   case atStart => exact ⟨m, S.length, rfl, rfl, HN.out.2.1, HE.out.2, Nat.le_refl _, ⟨HS.out.below (by repeat (first | exact Below.refl _ _ | apply pw_below_drewN | apply below_drew1))⟩⟩
   case round =>
    clear HS
    obtain ⟨k, q, hg2, rfl, hk, hq, hqs, HS⟩ := hrel
    have HG2 := Aside0.mk hg2
    have HKQ := Aside0.mk (And.intro hk (And.intro hq hqs))
    clear hg2
    by_cases hlt : jj < q
    ·obtain ⟨q', rfl⟩ : ∃ q', q = q' + 1 := ⟨q - 1, by omega⟩
     obtain ⟨k1, hk1⟩ : ∃ k1, k1 = a + q' := ⟨_, rfl⟩
     have q5 : (i : Int) < (k : Int) := by have := HE.out; omega
     have e2 : (k : Int) - 1 = (k1 : Int) := by omega
     have k2 : (-1000000 : Int) ≤ (k1 : Int) ∧ (k1 : Int) ≤ 1000000 := by have := HN.out; have := HE.out; omega
     have q6 : (0 : Int) ≤ k := by omega
     have q7 : (0 : Int) ≤ k1 := by omega
     have q8 : (k : Int) < n := by have := HN.out; have := HE.out; omega
     have q9 : (k1 : Int) < n := by have := HN.out; have := HE.out; omega
     obtain ⟨pi, hpi⟩ : ∃ p, p = x := ⟨_, rfl⟩
     obtain ⟨pj, hpj⟩ : ∃ p, S[q']? = some p := ⟨_, List.getElem?_eq_getElem (by omega)⟩
     have HI : Aside0 ((insL P S R x (q' + 1))[k]? = some pi) := ⟨by rw [hpi, hk, ← HN.out.1]; exact insL_at (by omega)⟩
     have HJ : Aside0 ((insL P S R x (q' + 1))[k1]? = some pj) := ⟨by rw [hk1, ← HN.out.1]; exact insL_left hpj⟩
     have HPP := Aside0.mk (And.intro hpi (And.intro hpj (And.intro hk1 hlt)))
     have HE2 := Aside0.mk (And.intro e2 k2)
     have hw3 := iw HE2.out.1 HE2.out.2
     have hw4 := w64 HE2.out.1 HE2.out.2
     clear hpi hpj hk1 hk hq hqs hlt e2 k2
     go_upto_region 23 with fail
     refine gen_world (fun wx hwx => ?_)
     have HSX : Aside0 (Srt w wx base gr n cap (insL P S R x (q' + 1))) := ⟨by rw [hwx]; first | exact HS.out | exact HS.out.below (by repeat (first | exact Below.refl _ _ | apply pw_below_drewN | apply below_drew1))⟩
     clear hwx HS
     obtain ⟨cur, hbg, hcur, hnc, hcm, hsz, htk⟩ := HSX.out.parts
     have HCUR := Aside0.mk hcur
     have HPT := Aside0.mk (And.intro hbg (And.intro hnc (And.intro hcm (And.intro hsz htk))))
     have hil : k < n := HSX.out.lt HI.out
     have hjl : k1 < n := HSX.out.lt HJ.out
     obtain ⟨ci0, ci1, ci2, ci3, ci4, ci5, ci6, ci7, ci8, ci9⟩ := cells_atQ hcur htk HI.out
     obtain ⟨cj0, cj1, cj2, cj3, cj4, cj5, cj6, cj7, cj8, cj9⟩ := cells_atQ hcur htk HJ.out
     obtain ⟨_u0, _u1, _u2, _u3, _u4, _u5, _u6, _u7, _u8, _u9, _d0, _d1, _d2, _d3, _d4, _d5, _d6, _d7, _d8, _d9, z0, z1, z2, z3, z4, z5, z6, z7, z8, z9⟩ := cellsQ hcur (i := k) (by omega)
     clear _d0 _d1 _d2 _d3 _d4 _d5 _d6 _d7 _d8 _d9 _u0 _u1 _u2 _u3 _u4 _u5 _u6 _u7 _u8 _u9 hcur htk hbg hcm
     refine start_ (n := 18) (S := fun w' => w'.cell? ⟨gr, k1 * 10, none⟩ = some (.int .i64 pj.e.f0) ∧ w'.cell? ⟨gr, k1 * 10 + 1, none⟩ = some (.int .i64 pj.e.f1.f0) ∧ w'.cell? ⟨gr, k1 * 10 + 2, none⟩ = some (.int .i64 pj.e.f1.f1) ∧ w'.cell? ⟨gr, k1 * 10 + 3, none⟩ = some (.int .i64 pj.e.f2.f0) ∧ w'.cell? ⟨gr, k1 * 10 + 4, none⟩ = some (.int .i64 pj.e.f2.f1) ∧ w'.cell? ⟨gr, k1 * 10 + 5, none⟩ = some (.int .i64 pj.e.f3.f0) ∧ w'.cell? ⟨gr, k1 * 10 + 6, none⟩ = some (.int .i64 pj.e.f3.f1) ∧ w'.cell? ⟨gr, k1 * 10 + 7, none⟩ = some (.bool pj.e.f4) ∧ w'.cell? ⟨gr, k1 * 10 + 8, none⟩ = some (.string pj.e.f5) ∧ w'.cell? ⟨gr, k1 * 10 + 9, none⟩ = some (.slice pj.A pj.e.f6.length pj.c) ∧ w'.cell? ⟨gr, k * 10, none⟩ = some (.int .i64 pi.e.f0) ∧ w'.cell? ⟨gr, k * 10 + 1, none⟩ = some (.int .i64 pi.e.f1.f0) ∧ w'.cell? ⟨gr, k * 10 + 2, none⟩ = some (.int .i64 pi.e.f1.f1) ∧ w'.cell? ⟨gr, k * 10 + 3, none⟩ = some (.int .i64 pi.e.f2.f0) ∧ w'.cell? ⟨gr, k * 10 + 4, none⟩ = some (.int .i64 pi.e.f2.f1) ∧ w'.cell? ⟨gr, k * 10 + 5, none⟩ = some (.int .i64 pi.e.f3.f0) ∧ w'.cell? ⟨gr, k * 10 + 6, none⟩ = some (.int .i64 pi.e.f3.f1) ∧ w'.cell? ⟨gr, k * 10 + 7, none⟩ = some (.bool pi.e.f4) ∧ w'.cell? ⟨gr, k * 10 + 8, none⟩ = some (.string pi.e.f5) ∧ w'.cell? ⟨gr, k * 10 + 9, none⟩ = some (.slice pi.A pi.e.f6.length pi.c)) (ds := [15, 17]) #[false, false, false, false, false, false, false, false, false, false, false, false, false, false, false, false, false, false] (by kernel_rfl) rfl rfl ⟨cj0, cj1, cj2, cj3, cj4, cj5, cj6, cj7, cj8, cj9, ci0, ci1, ci2, ci3, ci4, ci5, ci6, ci7, ci8, ci9⟩ (fun hHeld => ?_)
     refine with_tabW sym_right.tab23 sym_right.bits23 (fun HT_ HW_ => ?_)
     refine pure_ (i := 0) (N := some 113) (v := ?_) (a' := ?_) #[true, false, false, false, false, false, false, false, false, false, false, false, false, false, false, false, false, false] rfl rfl (any_of HT_.out (by kernel_rfl)) (fun _ _ _ h => h) (Or.inl ⟨by rfl, ?_⟩) ?_ ?_
     rotate_left
     ·intro w'
      go_simp
      with_reducible rfl
     rotate_left
     ·simp only [Act.put, ta, tb, tc, i64_w, i32_w]
      rfl
     refine pure_ (i := 1) (N := some 114) (v := ?_) (a' := ?_) #[true, true, false, false, false, false, false, false, false, false, false, false, false, false, false, false, false, false] rfl rfl (any_of HT_.out (by kernel_rfl)) (fun _ _ _ h => h) (Or.inl ⟨by rfl, ?_⟩) ?_ ?_
     rotate_left
     ·intro w'
      go_simp
      with_reducible rfl
     rotate_left
     ·simp only [Act.put, ta, tb, tc, i64_w, i32_w]
      rfl
     refine pure_ (i := 2) (N := some 115) (v := ?_) (a' := ?_) #[true, true, true, false, false, false, false, false, false, false, false, false, false, false, false, false, false, false] rfl rfl (any_of HT_.out (by kernel_rfl)) (fun _ _ _ h => h) (Or.inl ⟨by rfl, ?_⟩) ?_ ?_
     rotate_left
     ·intro w'
      go_simp
      with_reducible rfl
     rotate_left
     ·simp only [Act.put, ta, tb, tc, i64_w, i32_w]
      rfl
     refine pure_ (i := 3) (N := some 116) (v := ?_) (a' := ?_) #[true, true, true, true, false, false, false, false, false, false, false, false, false, false, false, false, false, false] rfl rfl (any_of HT_.out (by kernel_rfl)) (fun _ _ _ h => h) (Or.inl ⟨by rfl, ?_⟩) ?_ ?_
     rotate_left
     ·intro w'
      go_simp
      with_reducible rfl
     rotate_left
     ·simp only [Act.put, ta, tb, tc, i64_w, i32_w]
      rfl
     refine pure_ (i := 4) (N := some 117) (v := ?_) (a' := ?_) #[true, true, true, true, true, false, false, false, false, false, false, false, false, false, false, false, false, false] rfl rfl (any_of HT_.out (by kernel_rfl)) (fun _ _ _ h => h) (Or.inl ⟨by rfl, ?_⟩) ?_ ?_
     rotate_left
     ·intro w'
      go_simp
      with_reducible rfl
     rotate_left
     ·simp only [Act.put, ta, tb, tc, i64_w, i32_w]
      rfl
     refine pure_ (i := 5) (N := some 118) (v := ?_) (a' := ?_) #[true, true, true, true, true, true, false, false, false, false, false, false, false, false, false, false, false, false] rfl rfl (any_of HT_.out (by kernel_rfl)) (fun _ _ _ h => h) (Or.inl ⟨by rfl, ?_⟩) ?_ ?_
     rotate_left
     ·intro w'
      go_simp
      with_reducible rfl
     rotate_left
     ·simp only [Act.put, ta, tb, tc, i64_w, i32_w]
      rfl
     refine pure_ (i := 6) (N := some 119) (v := ?_) (a' := ?_) #[true, true, true, true, true, true, true, false, false, false, false, false, false, false, false, false, false, false] rfl rfl (any_of HT_.out (by kernel_rfl)) (fun _ _ _ h => h) (Or.inl ⟨by rfl, ?_⟩) ?_ ?_
     rotate_left
     ·intro w'
      go_simp
      with_reducible rfl
     rotate_left
     ·simp only [Act.put, ta, tb, tc, i64_w, i32_w]
      rfl
     refine pure_ (i := 7) (N := some 120) (v := ?_) (a' := ?_) #[true, true, true, true, true, true, true, true, false, false, false, false, false, false, false, false, false, false] rfl rfl (any_of HT_.out (by kernel_rfl)) (fun _ _ _ h => h) (Or.inl ⟨by rfl, ?_⟩) ?_ ?_
     rotate_left
     ·intro w'
      go_simp
      with_reducible rfl
     rotate_left
     ·simp only [Act.put, ta, tb, tc, i64_w, i32_w]
      rfl
     refine pure_ (i := 8) (N := some 121) (v := ?_) (a' := ?_) #[true, true, true, true, true, true, true, true, true, false, false, false, false, false, false, false, false, false] rfl rfl (any_of HT_.out (by kernel_rfl)) (fun _ _ _ h => h) (Or.inl ⟨by rfl, ?_⟩) ?_ ?_
     rotate_left
     ·intro w'
      go_simp
      with_reducible rfl
     rotate_left
     ·simp only [Act.put, ta, tb, tc, i64_w, i32_w]
      rfl
     refine pure_ (i := 10) (N := some 123) (v := ?_) (a' := ?_) #[true, true, true, true, true, true, true, true, true, false, true, false, false, false, false, false, false, false] rfl rfl (any_of HT_.out (by kernel_rfl)) (fun _ _ _ h => h) (Or.inl ⟨by rfl, ?_⟩) ?_ ?_
     rotate_left
     ·intro w'
      go_simp
      with_reducible rfl
     rotate_left
     ·simp only [Act.put, ta, tb, tc, i64_w, i32_w]
      rfl
     refine pure_ (i := 11) (N := some 124) (v := ?_) (a' := ?_) #[true, true, true, true, true, true, true, true, true, false, true, true, false, false, false, false, false, false] rfl rfl (any_of HT_.out (by kernel_rfl)) (fun _ _ _ h => h) (Or.inl ⟨by rfl, ?_⟩) ?_ ?_
     rotate_left
     ·intro w'
      go_simp
      with_reducible rfl
     rotate_left
     ·simp only [Act.put, ta, tb, tc, i64_w, i32_w]
      rfl
     refine pure_ (i := 12) (N := some 125) (v := ?_) (a' := ?_) #[true, true, true, true, true, true, true, true, true, false, true, true, true, false, false, false, false, false] rfl rfl (any_of HT_.out (by kernel_rfl)) (fun _ _ _ h => h) (Or.inl ⟨by rfl, ?_⟩) ?_ ?_
     rotate_left
     ·intro w'
      go_simp
      with_reducible rfl
     rotate_left
     ·simp only [Act.put, ta, tb, tc, i64_w, i32_w]
      rfl
     refine take_ (i := 9) (N := some 122) (v := ?_) (a' := ?_) #[true, true, true, true, true, true, true, true, true, true, true, true, true, false, false, false, false, false] rfl rfl (take_ofW HT_.out HW_.out (by kernel_rfl)) (fun _ _ _ h => h) (Or.inl ⟨by rfl, ?_⟩) hHeld ?_ ?_
     rotate_left
     ·rintro w' ⟨s0, s1, s2, s3, s4, s5, s6, s7, s8, s9, s10, s11, s12, s13, s14, s15, s16, s17, s18, s19⟩
      go_simp
      with_reducible rfl
     rotate_left
     ·simp only [Act.put, ta, tb, tc, i64_w, i32_w]
      rfl
     refine take_ (i := 13) (N := some 126) (v := ?_) (a' := ?_) #[true, true, true, true, true, true, true, true, true, true, true, true, true, true, false, false, false, false] rfl rfl (take_ofW HT_.out HW_.out (by kernel_rfl)) (fun _ _ _ h => h) (Or.inl ⟨by rfl, ?_⟩) hHeld ?_ ?_
     rotate_left
     ·rintro w' ⟨s0, s1, s2, s3, s4, s5, s6, s7, s8, s9, s10, s11, s12, s13, s14, s15, s16, s17, s18, s19⟩
      go_simp
      with_reducible rfl
     rotate_left
     ·simp only [Act.put, ta, tb, tc, i64_w, i32_w]
      rfl
     refine pure_ (i := 14) (N := some 127) (v := ?_) (a' := ?_) #[true, true, true, true, true, true, true, true, true, true, true, true, true, true, true, false, false, false] rfl rfl (any_of HT_.out (by kernel_rfl)) (fun _ _ _ h => h) (Or.inl ⟨by rfl, ?_⟩) ?_ ?_
     rotate_left
     ·intro w'
      go_simp
      with_reducible rfl
     rotate_left
     ·simp only [Act.put, ta, tb, tc, i64_w, i32_w]
      rfl
     refine last_ (i := 15) (N := none) #[true, true, true, true, true, true, true, true, true, true, true, true, true, true, true, true, false, false] rfl rfl (one_of HT_.out (by kernel_rfl)) (by decide) (fun K hK => ?_)
     refine skip_ (w1 := ?_) (by rfl) rfl ?_ ?_
     rotate_left
     ·go_simp
      rfl
     refine gen_K (fun W1 hW1 => ?_)
     have hb1 : W1.heap[gr]? = some (.cells (setA cur (k * 10) (qC pj)) 31 (0, 0)) := by rw [hW1]; (try with_reducible refine blk_drew ?_); exact heap_set10 HCUR.out (k * 10) pj
     have hf1 : Fr wx W1 (fun k => k = gr) := by rw [hW1]; repeat (with_reducible first | exact Fr.refl _ _ | refine Fr.drew ?_ | refine Fr.setg ?_ _ _)
     have HB1 := Aside0.mk hb1
     have HF1 := Aside0.mk hf1
     obtain ⟨u0, u1, u2, u3, u4, u5, u6, u7, u8, u9, d0, d1, d2, d3, d4, d5, d6, d7, d8, d9, z0, z1, z2, z3, z4, z5, z6, z7, z8, z9⟩ := cellsQ hb1 (i := k1) (by rw [setA_size]; omega)
     clear hW1 hb1 hf1
     refine hK.out _ _ ?_
     clear hK K
     refine pure_ (i := 16) (N := some 128) (v := ?_) (a' := ?_) #[true, true, true, true, true, true, true, true, true, true, true, true, true, true, true, true, true, false] rfl rfl (any_of HT_.out (by kernel_rfl)) (fun _ _ _ h => h) (Or.inl ⟨by rfl, ?_⟩) ?_ ?_
     rotate_left
     ·intro w'
      go_simp
      with_reducible rfl
     rotate_left
     ·simp only [Act.put, ta, tb, tc, i64_w, i32_w]
      rfl
     refine last_ (i := 17) (N := none) #[true, true, true, true, true, true, true, true, true, true, true, true, true, true, true, true, true, true] rfl rfl (one_of HT_.out (by kernel_rfl)) (by decide) (fun K hK => ?_)
     refine skip_ (w1 := ?_) (by rfl) rfl ?_ ?_
     rotate_left
     ·go_simp
      rfl
     refine hK.out _ _ ?_
     clear hK K
     refine done_ (done_of HT_.out (by kernel_rfl)) ?_
     refine gen_K (fun W2 hW2 => ?_)
     have hb2 : W2.heap[gr]? = some (.cells (setA (setA cur (k * 10) (qC pj)) (k1 * 10) (qC pi)) 31 (0, 0)) := by rw [hW2]; (try with_reducible refine blk_drew ?_); exact heap_set10 HB1.out (k1 * 10) pi
     have hf2 : Fr wx W2 (fun k => k = gr) := by rw [hW2]; repeat (with_reducible first | exact HF1.out | refine Fr.drew ?_ | refine Fr.setg ?_ _ _)
     have HS2 := Aside0.mk (HSX.out.swapped HI.out HJ.out HPT.out.1 HCUR.out HPT.out.2.1 HPT.out.2.2.1 HPT.out.2.2.2.1 HPT.out.2.2.2.2 hb2 hf2)
     clear hW2 hb2 hf2 HB1 HF1 HCUR HPT hil hjl hnc hsz
     have HS5 : Aside0 (Srt w W2 base gr n cap (insL P S R x q')) := ⟨by
      have h := HS2.out
      rw [HPP.out.1, HPP.out.2.2.1, HKQ.out.1, ← HN.out.1, insL_swap HPP.out.2.1] at h
      exact h⟩
     clear HS2 HSX HI HJ
     go_wp2
     clear hw3 hw4
     go_roundg q'
     case measure => rw [HG2.out]; exact Nat.lt_succ_self _
     case rel => exact ⟨k1, q', rfl, rfl, HPP.out.2.2.1, by have := HPP.out.2.2.2; omega, by have := HKQ.out; omega, ⟨HS5.out.below (by repeat (first | exact Below.refl _ _ | apply pw_below_drewN | apply below_drew1))⟩⟩
    ·have q5 : ¬ (i : Int) < (k : Int) := by have := HE.out; omega
     have HQ : Aside0 (q = jj) := ⟨by omega⟩
     clear hk hq hqs hlt
     go_wp2
     go_end0
     obtain ⟨g1, g2⟩ := ins_right (key := kO) (l := S) (x := x) (i := jj) HSO.out HI1.out HI2.out HE.out.2
     refine ⟨rfl, S.take jj ++ x :: S.drop jj, ?_, g1, g2⟩
     have h := HS.out
     rw [HQ.out] at h
     unfold insL at h
     simpa using h
end Go.Proofs.Ytaiakklflmhpmaa.K

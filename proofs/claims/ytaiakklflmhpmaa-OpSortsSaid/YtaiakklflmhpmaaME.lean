/- slices.symMergeCmpFunc. -/
import Derived.Test.YtaiakklflmhpmaaMD
namespace Go.Proofs.Ytaiakklflmhpmaa.K
open Go.RowKit Go.Proofs.YtaiakklflmhpmaaW.PrintWords Go.Proofs.YtaiakklflmhpmaaW.PrintLast Go.Proofs.YtaiakklflmhpmaaW.PrintMore
set_option linter.unusedVariables false
set_option linter.unusedSimpArgs false

/-- symMerge at no more than M operations. -/
def SymC (base gr n cap M : Nat) : Prop := ∀ (a m b : Nat) (P l r R : List QP) (w : World), l.length + r.length ≤ M → Srt w w base gr n cap (P ++ l ++ r ++ R) → P.length = a → a + l.length = m → m + r.length = b → 0 < l.length → 0 < r.length → sO kO l → sO kO r → n ≤ 100000 →
 Calls Try.prog 56 #[.slice (some ⟨gr, 0, none⟩) n cap, .int .i64 a, .int .i64 m, .int .i64 b, .func (.func 21) #[] #[]] w fun e w' => PartP w base gr n cap P (l ++ r) R e w'
theorem sp0 (P l r R : List QP) (x k : Nat) : P ++ l ++ r ++ R = P ++ l.take x ++ l.drop x ++ r.take k ++ (r.drop k ++ R) :=
 calc P ++ l ++ r ++ R = P ++ (l.take x ++ l.drop x) ++ (r.take k ++ r.drop k) ++ R := by rw [List.take_append_drop, List.take_append_drop]
  _ = _ := by simp only [List.append_assoc]
theorem spL (P l r R : List QP) (x k : Nat) (hx : l.length ≤ x) : P ++ l ++ r ++ R = P ++ l.take x ++ r.take k ++ (l.drop x ++ r.drop k ++ R) :=
 calc P ++ l ++ r ++ R = P ++ l ++ (r.take k ++ r.drop k) ++ R := by rw [List.take_append_drop]
  _ = _ := by rw [List.take_of_length_le hx, List.drop_of_length_le hx]; simp only [List.append_assoc, List.nil_append]
theorem spH (P l r R : List QP) (x k : Nat) (hk : k = 0) : P ++ l ++ r ++ R = P ++ l.take x ++ r.take k ++ (l.drop x ++ r.drop k ++ R) :=
 calc P ++ l ++ r ++ R = P ++ (l.take x ++ l.drop x) ++ r ++ R := by rw [List.take_append_drop]
  _ = _ := by rw [hk, List.take_zero, List.drop_zero]; simp only [List.append_assoc, List.nil_append]
theorem s1_sorted {l r : List QP} {h x : Nat} (hl : sO kO l) (hr : sO kO r) (hx : x = 0 ∨ x = h) : sO kO (l.take x ++ r.take (h - x)) := by
 rcases hx with rfl | rfl
 ·rw [List.take_zero, List.nil_append]
  exact List.Pairwise.sublist (List.take_sublist _ _) hr
 ·rw [Nat.sub_self, List.take_zero, List.append_nil]
  exact List.Pairwise.sublist (List.take_sublist _ _) hl
theorem s2_sorted {l r : List QP} {h x : Nat} (hl : sO kO l) (hr : sO kO r) (hx : x = l.length ∨ h - x = r.length) : sO kO (l.drop x ++ r.drop (h - x)) := by
 rcases hx with rfl | hx
 ·rw [List.drop_length, List.nil_append]
  exact List.Pairwise.sublist (List.drop_sublist _ _) hr
 ·rw [hx, List.drop_length, List.append_nil]
  exact List.Pairwise.sublist (List.drop_sublist _ _) hl
theorem sym_fin {w W : World} {base gr n cap : Nat} {P l r R S1 S2 : List QP} {h x : Nat} (ok : SymOk kO l r h x) (hl : sO kO l) (hr : sO kO r) (h1 : sO kO S1) (h2 : sO kO S2) (c1 : Cl kO (l.take x ++ r.take (h - x)) S1) (c2 : Cl kO (l.drop x ++ r.drop (h - x)) S2)
  (hs : Srt w W base gr n cap (P ++ S1 ++ S2 ++ R)) : PartP w base gr n cap P (l ++ r) R (.returned (.tuple #[])) W := by
 obtain ⟨g1, g2⟩ := sym_done ok hl hr h1 h2 c1 c2
 exact ⟨rfl, S1 ++ S2, by have := hs; rw [← List.append_assoc]; exact this, g1, g2.symm.symm⟩
theorem midi {x h : Int} (e : h = x / 2) (k : 0 ≤ x ∧ x ≤ 1000000) : IntKind.i64.wrap (IntKind.u64.wrap x / 2) = h := by
 rw [i64_w]
 exact midw e k
def sym_rec.T35 : Bool × List (List Nat × List Nat) := (true, [([], []), ([], []), ([], []), ([], []), ([2, 3], [2, 3]), ([1, 4], [1, 4]), ([5], [5]), ([], []), ([], []), ([7, 8], [7, 8]), ([9], [9]), ([0, 6, 10], [0, 6, 10]), ([11], [11]), ([12], [12])])
def sym_rec.B35 : List Nat := [0, 0, 0, 0, 12, 30, 62, 0, 0, 384, 896, 2047, 4095, 8191]
theorem sym_rec.tab35 : rtab .any (opsOf Try.f56 35) = sym_rec.T35 := by kernel_rfl
theorem sym_rec.bits35 : waitsOk sym_rec.T35.2 sym_rec.B35 = true := by kernel_rfl
set_option maxRecDepth 100000 in
set_option maxHeartbeats 64000000 in
theorem sym_rec (base gr n cap M a m b : Nat) (P l r R : List QP) (w : World) (hIH : SymC base gr n cap M) (hM : l.length + r.length ≤ M + 1) (hS : Srt w w base gr n cap (P ++ l ++ r ++ R)) (ha : P.length = a) (hm : a + l.length = m) (hb : m + r.length = b) (hl2 : 2 ≤ l.length) (hr2 : 2 ≤ r.length) (hl : sO kO l) (hr : sO kO r) (hn : n ≤ 100000) :
  Calls Try.prog 56 #[.slice (some ⟨gr, 0, none⟩) n cap, .int .i64 a, .int .i64 m, .int .i64 b, .func (.func 21) #[] #[]] w fun e w' => PartP w base gr n cap P (l ++ r) R e w' := by
 have HIH := Aside0.mk hIH
 have HH := Aside0.mk hS
 have HSO := Aside0.mk (And.intro hl hr)
 have HN : Aside0 (P.length = a ∧ a + l.length = m ∧ m + r.length = b ∧ P.length + l.length + r.length + R.length = n ∧ b ≤ n ∧ n ≤ 100000) := ⟨by have := hS.len; simp only [List.length_append] at this; omega⟩
 have HLR : Aside0 (l.length + r.length ≤ M + 1 ∧ 2 ≤ l.length ∧ 2 ≤ r.length) := ⟨hM, hl2, hr2⟩
 obtain ⟨h, hh⟩ : ∃ h, h = (l.length + r.length) / 2 := ⟨_, rfl⟩
 obtain ⟨mid, hmid⟩ : ∃ mid, mid = a + h := ⟨_, rfl⟩
 have HMD : Aside0 (mid = a + h ∧ h = (l.length + r.length) / 2) := ⟨hmid, hh⟩
 obtain ⟨d, hd⟩ : ∃ d, d = l.length := ⟨_, rfl⟩
 obtain ⟨d2, hd2⟩ : ∃ d, d = r.length := ⟨_, rfl⟩
 obtain ⟨ab, hab⟩ : ∃ ab, ab = a + b := ⟨_, rfl⟩
 obtain ⟨nn, hnn⟩ : ∃ nn, nn = mid + m := ⟨_, rfl⟩
 obtain ⟨pp, hpp⟩ : ∃ pp, pp = nn - 1 := ⟨_, rfl⟩
 have hbn := HN.out.2.2.2.2.1
 have hnl := HN.out.2.2.2.2.2
 have e1 : (m : Int) - (a : Int) = (d : Int) := by omega
 have e2 : (b : Int) - (m : Int) = (d2 : Int) := by omega
 have e3 : (a : Int) + (b : Int) = (ab : Int) := by omega
 have e4 : (mid : Int) = (ab : Int) / 2 := by omega
 have e5 : (mid : Int) + (m : Int) = (nn : Int) := by omega
 have e6 : (nn : Int) - 1 = (pp : Int) := by omega
 have k1 : (-1000000 : Int) ≤ (d : Int) ∧ (d : Int) ≤ 1000000 := by omega
 have k2 : (-1000000 : Int) ≤ (d2 : Int) ∧ (d2 : Int) ≤ 1000000 := by omega
 have k3 : (-1000000 : Int) ≤ (ab : Int) ∧ (ab : Int) ≤ 1000000 := by omega
 have k4 : (0 : Int) ≤ (ab : Int) ∧ (ab : Int) ≤ 1000000 := by omega
 have k5 : (-1000000 : Int) ≤ (nn : Int) ∧ (nn : Int) ≤ 1000000 := by omega
 have k6 : (-1000000 : Int) ≤ (pp : Int) ∧ (pp : Int) ≤ 1000000 := by omega
 have hd1 : ((d : Int) == 1) = false := by simp; omega
 have hd3 : (d == 1) = false := by simp; omega
 have hd4 : ((d2 : Int) == 1) = false := by simp; omega
 have hd5 : (d2 == 1) = false := by simp; omega
 have HNP : Aside0 (nn = mid + m ∧ pp = nn - 1) := ⟨hnn, hpp⟩
 obtain ⟨lo, hi, st0, r0, hcase⟩ : ∃ lo hi st0 r0 : Nat, st0 = a + lo ∧ r0 = a + hi ∧ lo ≤ hi ∧ hi ≤ h ∧ hi ≤ l.length ∧ h ≤ lo + r.length ∧ ((mid < m ∧ lo + r.length = h ∧ hi = h) ∨ (¬ mid < m ∧ lo = 0 ∧ hi = l.length)) := by
  by_cases c : mid < m
  ·exact ⟨h - r.length, h, _, _, rfl, rfl, by omega, by omega, by omega, by omega, .inl ⟨c, by omega, rfl⟩⟩
  ·exact ⟨0, l.length, _, _, rfl, rfl, by omega, by omega, by omega, by omega, .inr ⟨c, rfl, rfl⟩⟩
 obtain ⟨c1, c2, c3, c4, c5, c6, c7⟩ := hcase
 have HCS : Aside0 (st0 = a + lo ∧ r0 = a + hi ∧ lo ≤ hi ∧ hi ≤ h ∧ hi ≤ l.length ∧ h ≤ lo + r.length ∧ (lo = 0 ∨ lo + r.length = h) ∧ (hi = h ∨ hi = l.length)) := ⟨c1, c2, c3, c4, c5, c6, by omega, by omega⟩
 have c8 : (mid < m ∧ (nn : Int) - (b : Int) = (st0 : Int) ∧ r0 = mid) ∨ (¬ mid < m ∧ st0 = a ∧ r0 = m) := by omega
 have k8 : (-1000000 : Int) ≤ (st0 : Int) ∧ (st0 : Int) ≤ 1000000 := by omega
 have HE := Aside0.mk (And.intro (And.intro e1 k1) (And.intro (And.intro e2 k2) (And.intro (And.intro e3 k3) (And.intro (And.intro e4 k4) (And.intro (And.intro e5 k5) (And.intro e6 k6))))))
 clear hS ha hm hb hl hr hn hIH hM hl2 hr2 hh hmid hd hd2 hab hnn hpp hbn hnl e1 e2 e3 e4 e5 e6 k1 k2 k3 k4 k5 k6 c1 c2 c3 c4 c5 c6 c7
 rcases c8 with ⟨c1, c2, c3⟩ | ⟨c1, c2, c3⟩
 ·have g0 : (mid : Int) < (m : Int) := by omega
  have g00 : mid < m := c1
  have HC1 : Aside0 (((nn : Int) - (b : Int) = (st0 : Int) ∧ -1000000 ≤ (st0 : Int) ∧ (st0 : Int) ≤ 1000000) ∧ r0 = mid) := ⟨⟨c2, k8⟩, c3⟩
  clear c1 c2 c3 k8
  have hw1 := iw HE.out.1.1 HE.out.1.2
  have hw2 := w64 HE.out.1.1 HE.out.1.2
  have hw3 := iw HE.out.2.1.1 HE.out.2.1.2
  have hw4 := w64 HE.out.2.1.1 HE.out.2.1.2
  have hw5 := iw HE.out.2.2.1.1 HE.out.2.2.1.2
  have hw6 := w64 HE.out.2.2.1.1 HE.out.2.2.1.2
  have hw7 := midi HE.out.2.2.2.1.1 HE.out.2.2.2.1.2
  have hw8 := midw HE.out.2.2.2.1.1 HE.out.2.2.2.1.2
  have hw9 := iw HE.out.2.2.2.2.1.1 HE.out.2.2.2.2.1.2
  have hw10 := w64 HE.out.2.2.2.2.1.1 HE.out.2.2.2.2.1.2
  have hw11 := iw HE.out.2.2.2.2.2.1 HE.out.2.2.2.2.2.2
  have hw12 := w64 HE.out.2.2.2.2.2.1 HE.out.2.2.2.2.2.2
  have hw13 := iw HC1.out.1.1 HC1.out.1.2
  have hw14 := w64 HC1.out.1.1 HC1.out.1.2
  go_enter Try.func56, Try.ntmps56
  go_wp2
  clear hw13 hw14 g0 g00
  clear hw1 hw2 hw3 hw4 hw5 hw6 hw7 hw8 hw9 hw10 hw11 hw12 hd1 hd3 hd4 hd5
  go_loopg [20, 21] (hi - lo + 1) (fun gg v20 v21 wr => ∃ (i j ii jj : Nat), gg = jj - ii + 1 ∧ v20 = .int .i64 i ∧ v21 = .int .i64 j ∧ i = a + ii ∧ j = a + jj ∧ lo ≤ ii ∧ ii ≤ jj ∧ jj ≤ hi ∧ Aside0 (lo < ii → ∀ u v, l[ii - 1]? = some u → r[h - ii]? = some v → ¬ ltO (kO v) (kO u)) ∧ Aside0 (jj < hi → ∀ u v, l[jj]? = some u → r[h - 1 - jj]? = some v → ltO (kO v) (kO u)) ∧ Aside0 (Srt w wr base gr n cap (P ++ l ++ r ++ R)))
  case atStart => exact ⟨st0, r0, lo, hi, rfl, (by first | rfl | rw [HC1.out.1]), (by first | rfl | rw [HC1.out.2]), HCS.out.1, HCS.out.2.1, Nat.le_refl _, HCS.out.2.2.1, Nat.le_refl _, ⟨fun h => absurd h (Nat.lt_irrefl _)⟩, ⟨fun h => absurd h (Nat.lt_irrefl _)⟩, HH⟩
  case round =>
   clear HH
   obtain ⟨i, j, ii, jj, hg, rfl, rfl, hi1, hj1, hlo, hij, hhi, HI1, HI2, HS⟩ := hrel
   have HG := Aside0.mk hg
   have HIJ := Aside0.mk (And.intro hi1 (And.intro hj1 (And.intro hlo (And.intro hij hhi))))
   clear hg
   by_cases hlt : ii < jj
   ·obtain ⟨s, hs⟩ : ∃ s, s = i + j := ⟨_, rfl⟩
    obtain ⟨cc, hcc⟩ : ∃ cc, cc = (ii + jj) / 2 := ⟨_, rfl⟩
    obtain ⟨c, hce⟩ : ∃ c, c = a + cc := ⟨_, rfl⟩
    have c4 := HCS.out.2.2.2.1
    have c5 := HCS.out.2.2.2.2.1
    have c6 := HCS.out.2.2.2.2.2.1
    have n0 := HN.out
    have n1 := HMD.out
    have n2 := HNP.out
    obtain ⟨vi, hvi⟩ : ∃ vi, vi = m + (h - 1 - cc) := ⟨_, rfl⟩
    have e1 : (i : Int) + (j : Int) = (s : Int) := by omega
    have k1 : (-1000000 : Int) ≤ (s : Int) ∧ (s : Int) ≤ 1000000 := by omega
    have e2 : (c : Int) = (s : Int) / 2 := by omega
    have k2 : (0 : Int) ≤ (s : Int) ∧ (s : Int) ≤ 1000000 := by omega
    have e3 : (c : Int) + 1 = ((c + 1 : Nat) : Int) := by omega
    have k3 : (-1000000 : Int) ≤ ((c + 1 : Nat) : Int) ∧ ((c + 1 : Nat) : Int) ≤ 1000000 := by omega
    have e4 : (pp : Int) - (c : Int) = (vi : Int) := by omega
    have k4 : (-1000000 : Int) ≤ (vi : Int) ∧ (vi : Int) ≤ 1000000 := by omega
    have q2 : (0 : Int) ≤ c := by omega
    have q3 : (c : Int) < n := by omega
    have q4 : (i : Int) < (j : Int) := by omega
    have q5 : (0 : Int) ≤ vi := by omega
    have q6 : (vi : Int) < n := by omega
    obtain ⟨y, hy⟩ : ∃ y, l[cc]? = some y := ⟨_, List.getElem?_eq_getElem (by omega)⟩
    obtain ⟨x, hx⟩ : ∃ x, r[h - 1 - cc]? = some x := ⟨_, List.getElem?_eq_getElem (by omega)⟩
    have HY := Aside0.mk hy
    have HX := Aside0.mk hx
    have HUI : Aside0 ((P ++ l ++ r ++ R)[c]? = some y) := ⟨by
     have h1 := (List.getElem?_eq_some_iff.1 hy).1
     rw [List.append_assoc, List.append_assoc, List.getElem?_append_right (by omega), show c - P.length = cc by omega, List.getElem?_append_left h1]
     exact hy⟩
    have HVI : Aside0 ((P ++ l ++ r ++ R)[vi]? = some x) := ⟨by
     have h1 := (List.getElem?_eq_some_iff.1 hx).1
     rw [List.append_assoc, List.getElem?_append_right (by rw [List.length_append]; omega), show vi - (P ++ l).length = h - 1 - cc by rw [List.length_append]; omega, List.getElem?_append_left h1]
     exact hx⟩
    have HHH : Aside0 (cc = (ii + jj) / 2 ∧ c = a + cc ∧ ii < jj) := ⟨hcc, hce, hlt⟩
    have HE3 := Aside0.mk (And.intro e3 k3)
    have hw1 := iw e1 k1
    have hw2 := w64 e1 k1
    have hw3 := midi e2 k2
    have hw4 := midw e2 k2
    have hw5 := iw e4 k4
    have hw6 := w64 e4 k4
    clear e1 e2 e3 e4 k1 k2 k3 k4 hs hcc hce hvi hy hx hlt hi1 hj1 hlo hij hhi c4 c5 c6 n0 n1 n2
    go_upto_region 35 with fail
    refine gen_world (fun wx hwx => ?_)
    have HSX : Aside0 (Srt w wx base gr n cap (P ++ l ++ r ++ R)) := ⟨by rw [hwx]; first | exact HS.out | exact HS.out.below (by repeat (first | exact Below.refl _ _ | apply pw_below_drewN | apply below_drew1))⟩
    clear hwx
    have HRX := Aside0.mk (HSX.out.rd HVI.out)
    have HRY := Aside0.mk (HSX.out.rd HUI.out)
    obtain ⟨x0, x1, x2, x3, x4, x5, x6, x7, x8, x9⟩ := HSX.out.cells HVI.out
    obtain ⟨y0, y1, y2, y3, y4, y5, y6, y7, y8, y9⟩ := HSX.out.cells HUI.out
    by_cases hlt : ltO (kO x) (kO y)
    ·have HLT := Aside0.mk hlt
     clear hlt
     refine start_ (n := 14) (S := fun w' => w'.cell? ⟨gr, vi * 10, none⟩ = some (.int .i64 x.e.f0) ∧ w'.cell? ⟨gr, vi * 10 + 1, none⟩ = some (.int .i64 x.e.f1.f0) ∧ w'.cell? ⟨gr, vi * 10 + 2, none⟩ = some (.int .i64 x.e.f1.f1) ∧ w'.cell? ⟨gr, vi * 10 + 3, none⟩ = some (.int .i64 x.e.f2.f0) ∧ w'.cell? ⟨gr, vi * 10 + 4, none⟩ = some (.int .i64 x.e.f2.f1) ∧ w'.cell? ⟨gr, vi * 10 + 5, none⟩ = some (.int .i64 x.e.f3.f0) ∧ w'.cell? ⟨gr, vi * 10 + 6, none⟩ = some (.int .i64 x.e.f3.f1) ∧ w'.cell? ⟨gr, vi * 10 + 7, none⟩ = some (.bool x.e.f4) ∧ w'.cell? ⟨gr, vi * 10 + 8, none⟩ = some (.string x.e.f5) ∧ w'.cell? ⟨gr, vi * 10 + 9, none⟩ = some (.slice x.A x.e.f6.length x.c) ∧ w'.cell? ⟨gr, c * 10, none⟩ = some (.int .i64 y.e.f0) ∧ w'.cell? ⟨gr, c * 10 + 1, none⟩ = some (.int .i64 y.e.f1.f0) ∧ w'.cell? ⟨gr, c * 10 + 2, none⟩ = some (.int .i64 y.e.f1.f1) ∧ w'.cell? ⟨gr, c * 10 + 3, none⟩ = some (.int .i64 y.e.f2.f0) ∧ w'.cell? ⟨gr, c * 10 + 4, none⟩ = some (.int .i64 y.e.f2.f1) ∧ w'.cell? ⟨gr, c * 10 + 5, none⟩ = some (.int .i64 y.e.f3.f0) ∧ w'.cell? ⟨gr, c * 10 + 6, none⟩ = some (.int .i64 y.e.f3.f1) ∧ w'.cell? ⟨gr, c * 10 + 7, none⟩ = some (.bool y.e.f4) ∧ w'.cell? ⟨gr, c * 10 + 8, none⟩ = some (.string y.e.f5) ∧ w'.cell? ⟨gr, c * 10 + 9, none⟩ = some (.slice y.A y.e.f6.length y.c)) (ds := []) #[false, false, false, false, false, false, false, false, false, false, false, false, false, false] (by kernel_rfl) rfl rfl ⟨x0, x1, x2, x3, x4, x5, x6, x7, x8, x9, y0, y1, y2, y3, y4, y5, y6, y7, y8, y9⟩ (fun hHeld => ?_)
     refine with_tabW sym_rec.tab35 sym_rec.bits35 (fun HT_ HW_ => ?_)
     refine pure_ (i := 0) (N := some 158) (v := ?_) (a' := ?_) #[true, false, false, false, false, false, false, false, false, false, false, false, false, false] rfl rfl (any_of HT_.out (by kernel_rfl)) (fun _ _ _ h => h) (Or.inl ⟨by rfl, ?_⟩) ?_ ?_
     rotate_left
     ·intro w'
      go_simp
      with_reducible rfl
     rotate_left
     ·simp only [Act.put, ta, tb, tc, i64_w, i32_w]
      rfl
     refine pure_ (i := 1) (N := some 159) (v := ?_) (a' := ?_) #[true, true, false, false, false, false, false, false, false, false, false, false, false, false] rfl rfl (any_of HT_.out (by kernel_rfl)) (fun _ _ _ h => h) (Or.inl ⟨by rfl, ?_⟩) ?_ ?_
     rotate_left
     ·intro w'
      go_simp
      with_reducible rfl
     rotate_left
     ·simp only [Act.put, ta, tb, tc, i64_w, i32_w]
      rfl
     refine pure_ (i := 2) (N := some 160) (v := ?_) (a' := ?_) #[true, true, true, false, false, false, false, false, false, false, false, false, false, false] rfl rfl (any_of HT_.out (by kernel_rfl)) (fun _ _ _ h => h) (Or.inl ⟨by rfl, ?_⟩) ?_ ?_
     rotate_left
     ·intro w'
      go_simp
      with_reducible rfl
     rotate_left
     ·simp only [Act.put, ta, tb, tc, i64_w, i32_w]
      rfl
     refine pure_ (i := 3) (N := some 161) (v := ?_) (a' := ?_) #[true, true, true, true, false, false, false, false, false, false, false, false, false, false] rfl rfl (any_of HT_.out (by kernel_rfl)) (fun _ _ _ h => h) (Or.inl ⟨by rfl, ?_⟩) ?_ ?_
     rotate_left
     ·intro w'
      go_simp
      with_reducible rfl
     rotate_left
     ·simp only [Act.put, ta, tb, tc, i64_w, i32_w]
      rfl
     refine pure_ (i := 4) (N := some 162) (v := ?_) (a' := ?_) #[true, true, true, true, true, false, false, false, false, false, false, false, false, false] rfl rfl (any_of HT_.out (by kernel_rfl)) (fun _ _ _ h => h) (Or.inl ⟨by rfl, ?_⟩) ?_ ?_
     rotate_left
     ·intro w'
      go_simp
      with_reducible rfl
     rotate_left
     ·simp only [Act.put, ta, tb, tc, i64_w, i32_w]
      rfl
     refine pure_ (i := 5) (N := some 163) (v := ?_) (a' := ?_) #[true, true, true, true, true, true, false, false, false, false, false, false, false, false] rfl rfl (any_of HT_.out (by kernel_rfl)) (fun _ _ _ h => h) (Or.inl ⟨by rfl, ?_⟩) ?_ ?_
     rotate_left
     ·intro w'
      go_simp
      with_reducible rfl
     rotate_left
     ·simp only [Act.put, ta, tb, tc, i64_w, i32_w]
      rfl
     refine pure_ (i := 7) (N := some 165) (v := ?_) (a' := ?_) #[true, true, true, true, true, true, false, true, false, false, false, false, false, false] rfl rfl (any_of HT_.out (by kernel_rfl)) (fun _ _ _ h => h) (Or.inl ⟨by rfl, ?_⟩) ?_ ?_
     rotate_left
     ·intro w'
      go_simp
      with_reducible rfl
     rotate_left
     ·simp only [Act.put, ta, tb, tc, i64_w, i32_w]
      rfl
     refine pure_ (i := 8) (N := some 166) (v := ?_) (a' := ?_) #[true, true, true, true, true, true, false, true, true, false, false, false, false, false] rfl rfl (any_of HT_.out (by kernel_rfl)) (fun _ _ _ h => h) (Or.inl ⟨by rfl, ?_⟩) ?_ ?_
     rotate_left
     ·intro w'
      go_simp
      with_reducible rfl
     rotate_left
     ·simp only [Act.put, ta, tb, tc, i64_w, i32_w]
      rfl
     refine pure_ (i := 9) (N := some 167) (v := ?_) (a' := ?_) #[true, true, true, true, true, true, false, true, true, true, false, false, false, false] rfl rfl (any_of HT_.out (by kernel_rfl)) (fun _ _ _ h => h) (Or.inl ⟨by rfl, ?_⟩) ?_ ?_
     rotate_left
     ·intro w'
      go_simp
      with_reducible rfl
     rotate_left
     ·simp only [Act.put, ta, tb, tc, i64_w, i32_w]
      rfl
     refine take_ (i := 6) (N := some 164) (v := ?_) (a' := ?_) #[true, true, true, true, true, true, true, true, true, true, false, false, false, false] rfl rfl (take_ofW HT_.out HW_.out (by kernel_rfl)) (fun _ _ _ h => h) (Or.inl ⟨by rfl, ?_⟩) hHeld ?_ ?_
     rotate_left
     ·rintro w' ⟨s0, s1, s2, s3, s4, s5, s6, s7, s8, s9, s10, s11, s12, s13, s14, s15, s16, s17, s18, s19⟩
      go_simp
      with_reducible rfl
     rotate_left
     ·simp only [Act.put, ta, tb, tc, i64_w, i32_w]
      rfl
     refine take_ (i := 10) (N := some 168) (v := ?_) (a' := ?_) #[true, true, true, true, true, true, true, true, true, true, true, false, false, false] rfl rfl (take_ofW HT_.out HW_.out (by kernel_rfl)) (fun _ _ _ h => h) (Or.inl ⟨by rfl, ?_⟩) hHeld ?_ ?_
     rotate_left
     ·rintro w' ⟨s0, s1, s2, s3, s4, s5, s6, s7, s8, s9, s10, s11, s12, s13, s14, s15, s16, s17, s18, s19⟩
      go_simp
      with_reducible rfl
     rotate_left
     ·simp only [Act.put, ta, tb, tc, i64_w, i32_w]
      rfl
     refine one_ (i := 11) (N := some 169) #[true, true, true, true, true, true, true, true, true, true, true, true, false, false] rfl rfl (one_of HT_.out (by kernel_rfl)) (by decide) (fun K hK => ?_)
     refine goesv_ Try.func21 (by kernel_rfl) rfl #[.agg #[.int .i64 x.e.f0, .int .i64 x.e.f1.f0, .int .i64 x.e.f1.f1, .int .i64 x.e.f2.f0, .int .i64 x.e.f2.f1, .int .i64 x.e.f3.f0, .int .i64 x.e.f3.f1, .bool x.e.f4, .string x.e.f5, .slice x.A x.e.f6.length x.c], .agg #[.int .i64 y.e.f0, .int .i64 y.e.f1.f0, .int .i64 y.e.f1.f1, .int .i64 y.e.f2.f0, .int .i64 y.e.f2.f1, .int .i64 y.e.f3.f0, .int .i64 y.e.f3.f1, .bool y.e.f4, .string y.e.f5, .slice y.A y.e.f6.length y.c]] (by rfl) rfl rfl (by rfl) (by simp only [List.map_toArray, List.map_cons, List.map_nil]; rfl) ?_
     with_reducible refine (cmpo_lt x y _ (HRX.out.below (below_drew1 (Below.refl _ _))) (HRY.out.below (below_drew1 (Below.refl _ _))) HLT.out).mono ?_
     rintro e w3 ⟨r3, rfl, hr1, hr2, hb3⟩
     refine ⟨_, rfl, ?_⟩
     refine hK.out _ _ (lift20 hb3 x0 x1 x2 x3 x4 x5 x6 x7 x8 x9 y0 y1 y2 y3 y4 y5 y6 y7 y8 y9) (fun hHeld => ?_)
     clear hK K
     refine norm_ (a' := ?_) ?_ ?_
     rotate_left
     ·show Act.put _ (some 169) _ = _
      simp only [Act.put, ta, tb, tc, i64_w, i32_w]
      rfl
     refine pure_ (i := 12) (N := some 170) (v := ?_) (a' := ?_) #[true, true, true, true, true, true, true, true, true, true, true, true, true, false] rfl rfl (any_of HT_.out (by kernel_rfl)) (fun _ _ _ h => h) (Or.inl ⟨by rfl, ?_⟩) ?_ ?_
     rotate_left
     ·intro w'
      go_simp
      with_reducible rfl
     rotate_left
     ·simp only [Act.put, ta, tb, tc, i64_w, i32_w]
      rfl
     refine pure_ (i := 13) (N := some 171) (v := ?_) (a' := ?_) #[true, true, true, true, true, true, true, true, true, true, true, true, true, true] rfl rfl (any_of HT_.out (by kernel_rfl)) (fun _ _ _ h => h) (Or.inl ⟨by rfl, ?_⟩) ?_ ?_
     rotate_left
     ·intro w'
      go_simp
      with_reducible rfl
     rotate_left
     ·simp only [Act.put, ta, tb, tc, i64_w, i32_w]
      rfl
     refine done_ (done_of HT_.out (by kernel_rfl)) ?_
     have HS3 : Aside0 (Srt w w3 base gr n cap (P ++ l ++ r ++ R)) := ⟨HSX.out.below (below_step (below_drew1 (Below.refl _ _)) hb3)⟩
     clear hb3 HSX HRX HRY x0 x1 x2 x3 x4 x5 x6 x7 x8 x9 y0 y1 y2 y3 y4 y5 y6 y7 y8 y9 HS hw1 hw2 hw3 hw4 hw5 hw6
     go_wp2
     go_roundg (cc - ii + 1)
     case measure => rw [HG.out]; have := HHH.out; omega
     case rel => exact ⟨i, c, ii, cc, rfl, rfl, rfl, HIJ.out.1, HHH.out.2.1, HIJ.out.2.2.1, by have := HHH.out; omega, by have := HHH.out; have := HIJ.out; omega, HI1, ⟨fun _ u v hu hv => by rw [HY.out] at hu; rw [HX.out] at hv; injection hu with hu; injection hv with hv; rw [← hu, ← hv]; exact HLT.out⟩, ⟨HS3.out.below (by repeat (first | exact Below.refl _ _ | apply pw_below_drewN | apply below_drew1))⟩⟩
    ·have HLT := Aside0.mk hlt
     clear hlt
     refine start_ (n := 14) (S := fun w' => w'.cell? ⟨gr, vi * 10, none⟩ = some (.int .i64 x.e.f0) ∧ w'.cell? ⟨gr, vi * 10 + 1, none⟩ = some (.int .i64 x.e.f1.f0) ∧ w'.cell? ⟨gr, vi * 10 + 2, none⟩ = some (.int .i64 x.e.f1.f1) ∧ w'.cell? ⟨gr, vi * 10 + 3, none⟩ = some (.int .i64 x.e.f2.f0) ∧ w'.cell? ⟨gr, vi * 10 + 4, none⟩ = some (.int .i64 x.e.f2.f1) ∧ w'.cell? ⟨gr, vi * 10 + 5, none⟩ = some (.int .i64 x.e.f3.f0) ∧ w'.cell? ⟨gr, vi * 10 + 6, none⟩ = some (.int .i64 x.e.f3.f1) ∧ w'.cell? ⟨gr, vi * 10 + 7, none⟩ = some (.bool x.e.f4) ∧ w'.cell? ⟨gr, vi * 10 + 8, none⟩ = some (.string x.e.f5) ∧ w'.cell? ⟨gr, vi * 10 + 9, none⟩ = some (.slice x.A x.e.f6.length x.c) ∧ w'.cell? ⟨gr, c * 10, none⟩ = some (.int .i64 y.e.f0) ∧ w'.cell? ⟨gr, c * 10 + 1, none⟩ = some (.int .i64 y.e.f1.f0) ∧ w'.cell? ⟨gr, c * 10 + 2, none⟩ = some (.int .i64 y.e.f1.f1) ∧ w'.cell? ⟨gr, c * 10 + 3, none⟩ = some (.int .i64 y.e.f2.f0) ∧ w'.cell? ⟨gr, c * 10 + 4, none⟩ = some (.int .i64 y.e.f2.f1) ∧ w'.cell? ⟨gr, c * 10 + 5, none⟩ = some (.int .i64 y.e.f3.f0) ∧ w'.cell? ⟨gr, c * 10 + 6, none⟩ = some (.int .i64 y.e.f3.f1) ∧ w'.cell? ⟨gr, c * 10 + 7, none⟩ = some (.bool y.e.f4) ∧ w'.cell? ⟨gr, c * 10 + 8, none⟩ = some (.string y.e.f5) ∧ w'.cell? ⟨gr, c * 10 + 9, none⟩ = some (.slice y.A y.e.f6.length y.c)) (ds := []) #[false, false, false, false, false, false, false, false, false, false, false, false, false, false] (by kernel_rfl) rfl rfl ⟨x0, x1, x2, x3, x4, x5, x6, x7, x8, x9, y0, y1, y2, y3, y4, y5, y6, y7, y8, y9⟩ (fun hHeld => ?_)
     refine with_tabW sym_rec.tab35 sym_rec.bits35 (fun HT_ HW_ => ?_)
     refine pure_ (i := 0) (N := some 158) (v := ?_) (a' := ?_) #[true, false, false, false, false, false, false, false, false, false, false, false, false, false] rfl rfl (any_of HT_.out (by kernel_rfl)) (fun _ _ _ h => h) (Or.inl ⟨by rfl, ?_⟩) ?_ ?_
     rotate_left
     ·intro w'
      go_simp
      with_reducible rfl
     rotate_left
     ·simp only [Act.put, ta, tb, tc, i64_w, i32_w]
      rfl
     refine pure_ (i := 1) (N := some 159) (v := ?_) (a' := ?_) #[true, true, false, false, false, false, false, false, false, false, false, false, false, false] rfl rfl (any_of HT_.out (by kernel_rfl)) (fun _ _ _ h => h) (Or.inl ⟨by rfl, ?_⟩) ?_ ?_
     rotate_left
     ·intro w'
      go_simp
      with_reducible rfl
     rotate_left
     ·simp only [Act.put, ta, tb, tc, i64_w, i32_w]
      rfl
     refine pure_ (i := 2) (N := some 160) (v := ?_) (a' := ?_) #[true, true, true, false, false, false, false, false, false, false, false, false, false, false] rfl rfl (any_of HT_.out (by kernel_rfl)) (fun _ _ _ h => h) (Or.inl ⟨by rfl, ?_⟩) ?_ ?_
     rotate_left
     ·intro w'
      go_simp
      with_reducible rfl
     rotate_left
     ·simp only [Act.put, ta, tb, tc, i64_w, i32_w]
      rfl
     refine pure_ (i := 3) (N := some 161) (v := ?_) (a' := ?_) #[true, true, true, true, false, false, false, false, false, false, false, false, false, false] rfl rfl (any_of HT_.out (by kernel_rfl)) (fun _ _ _ h => h) (Or.inl ⟨by rfl, ?_⟩) ?_ ?_
     rotate_left
     ·intro w'
      go_simp
      with_reducible rfl
     rotate_left
     ·simp only [Act.put, ta, tb, tc, i64_w, i32_w]
      rfl
     refine pure_ (i := 4) (N := some 162) (v := ?_) (a' := ?_) #[true, true, true, true, true, false, false, false, false, false, false, false, false, false] rfl rfl (any_of HT_.out (by kernel_rfl)) (fun _ _ _ h => h) (Or.inl ⟨by rfl, ?_⟩) ?_ ?_
     rotate_left
     ·intro w'
      go_simp
      with_reducible rfl
     rotate_left
     ·simp only [Act.put, ta, tb, tc, i64_w, i32_w]
      rfl
     refine pure_ (i := 5) (N := some 163) (v := ?_) (a' := ?_) #[true, true, true, true, true, true, false, false, false, false, false, false, false, false] rfl rfl (any_of HT_.out (by kernel_rfl)) (fun _ _ _ h => h) (Or.inl ⟨by rfl, ?_⟩) ?_ ?_
     rotate_left
     ·intro w'
      go_simp
      with_reducible rfl
     rotate_left
     ·simp only [Act.put, ta, tb, tc, i64_w, i32_w]
      rfl
     refine pure_ (i := 7) (N := some 165) (v := ?_) (a' := ?_) #[true, true, true, true, true, true, false, true, false, false, false, false, false, false] rfl rfl (any_of HT_.out (by kernel_rfl)) (fun _ _ _ h => h) (Or.inl ⟨by rfl, ?_⟩) ?_ ?_
     rotate_left
     ·intro w'
      go_simp
      with_reducible rfl
     rotate_left
     ·simp only [Act.put, ta, tb, tc, i64_w, i32_w]
      rfl
     refine pure_ (i := 8) (N := some 166) (v := ?_) (a' := ?_) #[true, true, true, true, true, true, false, true, true, false, false, false, false, false] rfl rfl (any_of HT_.out (by kernel_rfl)) (fun _ _ _ h => h) (Or.inl ⟨by rfl, ?_⟩) ?_ ?_
     rotate_left
     ·intro w'
      go_simp
      with_reducible rfl
     rotate_left
     ·simp only [Act.put, ta, tb, tc, i64_w, i32_w]
      rfl
     refine pure_ (i := 9) (N := some 167) (v := ?_) (a' := ?_) #[true, true, true, true, true, true, false, true, true, true, false, false, false, false] rfl rfl (any_of HT_.out (by kernel_rfl)) (fun _ _ _ h => h) (Or.inl ⟨by rfl, ?_⟩) ?_ ?_
     rotate_left
     ·intro w'
      go_simp
      with_reducible rfl
     rotate_left
     ·simp only [Act.put, ta, tb, tc, i64_w, i32_w]
      rfl
     refine take_ (i := 6) (N := some 164) (v := ?_) (a' := ?_) #[true, true, true, true, true, true, true, true, true, true, false, false, false, false] rfl rfl (take_ofW HT_.out HW_.out (by kernel_rfl)) (fun _ _ _ h => h) (Or.inl ⟨by rfl, ?_⟩) hHeld ?_ ?_
     rotate_left
     ·rintro w' ⟨s0, s1, s2, s3, s4, s5, s6, s7, s8, s9, s10, s11, s12, s13, s14, s15, s16, s17, s18, s19⟩
      go_simp
      with_reducible rfl
     rotate_left
     ·simp only [Act.put, ta, tb, tc, i64_w, i32_w]
      rfl
     refine take_ (i := 10) (N := some 168) (v := ?_) (a' := ?_) #[true, true, true, true, true, true, true, true, true, true, true, false, false, false] rfl rfl (take_ofW HT_.out HW_.out (by kernel_rfl)) (fun _ _ _ h => h) (Or.inl ⟨by rfl, ?_⟩) hHeld ?_ ?_
     rotate_left
     ·rintro w' ⟨s0, s1, s2, s3, s4, s5, s6, s7, s8, s9, s10, s11, s12, s13, s14, s15, s16, s17, s18, s19⟩
      go_simp
      with_reducible rfl
     rotate_left
     ·simp only [Act.put, ta, tb, tc, i64_w, i32_w]
      rfl
     refine one_ (i := 11) (N := some 169) #[true, true, true, true, true, true, true, true, true, true, true, true, false, false] rfl rfl (one_of HT_.out (by kernel_rfl)) (by decide) (fun K hK => ?_)
     refine goesv_ Try.func21 (by kernel_rfl) rfl #[.agg #[.int .i64 x.e.f0, .int .i64 x.e.f1.f0, .int .i64 x.e.f1.f1, .int .i64 x.e.f2.f0, .int .i64 x.e.f2.f1, .int .i64 x.e.f3.f0, .int .i64 x.e.f3.f1, .bool x.e.f4, .string x.e.f5, .slice x.A x.e.f6.length x.c], .agg #[.int .i64 y.e.f0, .int .i64 y.e.f1.f0, .int .i64 y.e.f1.f1, .int .i64 y.e.f2.f0, .int .i64 y.e.f2.f1, .int .i64 y.e.f3.f0, .int .i64 y.e.f3.f1, .bool y.e.f4, .string y.e.f5, .slice y.A y.e.f6.length y.c]] (by rfl) rfl rfl (by rfl) (by simp only [List.map_toArray, List.map_cons, List.map_nil]; rfl) ?_
     with_reducible refine (cmpo_ge x y _ (HRX.out.below (below_drew1 (Below.refl _ _))) (HRY.out.below (below_drew1 (Below.refl _ _))) HLT.out).mono ?_
     rintro e w3 ⟨r3, rfl, hr1, hr2, hb3⟩
     refine ⟨_, rfl, ?_⟩
     refine hK.out _ _ (lift20 hb3 x0 x1 x2 x3 x4 x5 x6 x7 x8 x9 y0 y1 y2 y3 y4 y5 y6 y7 y8 y9) (fun hHeld => ?_)
     clear hK K
     refine norm_ (a' := ?_) ?_ ?_
     rotate_left
     ·show Act.put _ (some 169) _ = _
      simp only [Act.put, ta, tb, tc, i64_w, i32_w]
      rfl
     refine pure_ (i := 12) (N := some 170) (v := ?_) (a' := ?_) #[true, true, true, true, true, true, true, true, true, true, true, true, true, false] rfl rfl (any_of HT_.out (by kernel_rfl)) (fun _ _ _ h => h) (Or.inl ⟨by rfl, ?_⟩) ?_ ?_
     rotate_left
     ·intro w'
      go_simp
      with_reducible rfl
     rotate_left
     ·simp only [Act.put, ta, tb, tc, i64_w, i32_w]
      rfl
     refine pure_ (i := 13) (N := some 171) (v := ?_) (a' := ?_) #[true, true, true, true, true, true, true, true, true, true, true, true, true, true] rfl rfl (any_of HT_.out (by kernel_rfl)) (fun _ _ _ h => h) (Or.inl ⟨by rfl, ?_⟩) ?_ ?_
     rotate_left
     ·intro w'
      go_simp
      with_reducible rfl
     rotate_left
     ·simp only [Act.put, ta, tb, tc, i64_w, i32_w]
      rfl
     refine done_ (done_of HT_.out (by kernel_rfl)) ?_
     have HS3 : Aside0 (Srt w w3 base gr n cap (P ++ l ++ r ++ R)) := ⟨HSX.out.below (below_step (below_drew1 (Below.refl _ _)) hb3)⟩
     clear hb3 HSX HRX HRY x0 x1 x2 x3 x4 x5 x6 x7 x8 x9 y0 y1 y2 y3 y4 y5 y6 y7 y8 y9 HS hw1 hw2 hw3 hw4 hw5 hw6
     have hw1 := iw HE3.out.1 HE3.out.2
     have hw2 := w64 HE3.out.1 HE3.out.2
     go_wp2
     clear hw1 hw2
     go_roundg (jj - (cc + 1) + 1)
     case measure => rw [HG.out]; have := HHH.out; omega
     case rel => exact ⟨c + 1, j, cc + 1, jj, rfl, rfl, rfl, by have := HHH.out; omega, HIJ.out.2.1, by have := HHH.out; have := HIJ.out; omega, by have := HHH.out; omega, HIJ.out.2.2.2.2, ⟨fun _ u v hu hv => by rw [Nat.add_sub_cancel, HY.out] at hu; rw [show h - (cc + 1) = h - 1 - cc by omega, HX.out] at hv; injection hu with hu; injection hv with hv; rw [← hu, ← hv]; exact HLT.out⟩, HI2, ⟨HS3.out.below (by repeat (first | exact Below.refl _ _ | apply pw_below_drewN | apply below_drew1))⟩⟩
   ·obtain ⟨x, hxe⟩ : ∃ x, x = ii := ⟨_, rfl⟩
    obtain ⟨st, hst⟩ : ∃ st, st = i := ⟨_, rfl⟩
    have hje : jj = x := by omega
    obtain ⟨en, hen⟩ : ∃ en, en = m + h - x := ⟨_, rfl⟩
    have q4 : ¬ (i : Int) < (j : Int) := by omega
    have c4 := HCS.out
    have HOK : Aside0 (SymOk kO l r h x) := ⟨sym_ok (lo := lo) (hi := hi) HSO.out.1 HSO.out.2 (by omega) (by omega) c4.2.2.2.2.2.2.1 c4.2.2.2.2.2.2.2 (by omega) (by omega) (by omega) (fun h0 u v hu hv => by rw [hxe] at h0 hu hv; exact HI1.out h0 u v hu hv) (fun h0 u v hu hv => by rw [← hje] at h0 hu hv; exact HI2.out h0 u v hu hv)⟩
    have HST : Aside0 (st = a + x ∧ en = m + h - x) := ⟨by omega, hen⟩
    have n1 := HMD.out
    have n2 := HNP.out
    have n0 := HN.out
    have k1 := HOK.out.xh
    have HEN : Aside0 ((nn : Int) - (i : Int) = (en : Int) ∧ (-1000000 : Int) ≤ (en : Int) ∧ (en : Int) ≤ 1000000) := ⟨by omega, by omega, by omega⟩
    rw [← hst] at HEN q4 ⊢
    clear hi1 hj1 hlo hij hhi hlt hxe hst hje hen c4 n0 n1 n2 k1 HI1 HI2 HIJ HG
    have hL : P.length = a ∧ a + l.length = m ∧ m + r.length = b ∧ l.length + r.length ≤ M + 1 ∧ 2 ≤ l.length ∧ 2 ≤ r.length := ⟨HN.out.1, HN.out.2.1, HN.out.2.2.1, HLR.out.1, HLR.out.2.1, HLR.out.2.2⟩
    have hA : st = a + x ∧ en = m + h - x ∧ mid = a + h ∧ h = (l.length + r.length) / 2 := ⟨HST.out.1, HST.out.2, HMD.out.1, HMD.out.2⟩
    have hok1 := HOK.out.xl
    have hok2 := HOK.out.xh
    have hok3 := HOK.out.hr
    by_cases t2 : x < h
    ·by_cases t1 : x < l.length
     ·by_cases t3 : 0 < x
      ·by_cases t4 : h - x < r.length
       ·have g11 : decide ((st : Int) < (m : Int)) = true := decide_eq_true (by omega)
        have g12 : decide (st < m) = true := decide_eq_true (by omega)
        have g13 : (st : Int) < (m : Int) := by omega
        have g21 : decide ((m : Int) < (en : Int)) = true := decide_eq_true (by omega)
        have g22 : decide (m < en) = true := decide_eq_true (by omega)
        have g23 : (m : Int) < (en : Int) := by omega
        have g31 : decide ((a : Int) < (st : Int)) = true := decide_eq_true (by omega)
        have g32 : decide (a < st) = true := decide_eq_true (by omega)
        have g33 : (a : Int) < (st : Int) := by omega
        have g41 : decide ((st : Int) < (mid : Int)) = true := decide_eq_true (by omega)
        have g42 : decide (st < mid) = true := decide_eq_true (by omega)
        have g43 : (st : Int) < (mid : Int) := by omega
        have g51 : decide ((mid : Int) < (en : Int)) = true := decide_eq_true (by omega)
        have g52 : decide (mid < en) = true := decide_eq_true (by omega)
        have g53 : (mid : Int) < (en : Int) := by omega
        have g61 : decide ((en : Int) < (b : Int)) = true := decide_eq_true (by omega)
        have g62 : decide (en < b) = true := decide_eq_true (by omega)
        have g63 : (en : Int) < (b : Int) := by omega
        have HROT : Aside0 (Srt wr wr base gr n cap (P ++ l.take x ++ l.drop x ++ r.take (h - x) ++ (r.drop (h - x) ++ R)) ∧ (P ++ l.take x).length = st ∧ (P ++ l.take x).length + (l.drop x).length = m ∧ (P ++ l.take x).length + (l.drop x).length + (r.take (h - x)).length = en ∧ 0 < (l.drop x).length ∧ 0 < (r.take (h - x)).length) := ⟨by have g := HS.out.self; rw [sp0 P l r R x (h - x)] at g; exact g, by simp only [List.length_append, List.length_take]; omega, by simp only [List.length_append, List.length_take, List.length_drop]; omega, by simp only [List.length_append, List.length_take, List.length_drop]; omega, by rw [List.length_drop]; omega, by rw [List.length_take]; omega⟩
        have HLQ : Aside0 ((l.take x).length + (r.take (h - x)).length = h) := ⟨by rw [List.length_take, List.length_take]; omega⟩
        have HLFT : Aside0 ((l.take x).length + (r.take (h - x)).length ≤ M ∧ P.length = a ∧ a + (l.take x).length = st ∧ st + (r.take (h - x)).length = mid ∧ 0 < (l.take x).length ∧ 0 < (r.take (h - x)).length ∧ sO kO (l.take x) ∧ sO kO (r.take (h - x))) := ⟨by rw [List.length_take, List.length_take]; omega, by omega, by rw [List.length_take]; omega, by rw [List.length_take]; omega, by rw [List.length_take]; omega, by rw [List.length_take]; omega, List.Pairwise.sublist (List.take_sublist _ _) HSO.out.1, List.Pairwise.sublist (List.take_sublist _ _) HSO.out.2⟩
        have HRGT : Aside0 ((l.drop x).length + (r.drop (h - x)).length ≤ M ∧ P.length + h = mid ∧ mid + (l.drop x).length = en ∧ en + (r.drop (h - x)).length = b ∧ 0 < (l.drop x).length ∧ 0 < (r.drop (h - x)).length ∧ sO kO (l.drop x) ∧ sO kO (r.drop (h - x))) := ⟨by rw [List.length_drop, List.length_drop]; omega, by omega, by rw [List.length_drop]; omega, by rw [List.length_drop]; omega, by rw [List.length_drop]; omega, by rw [List.length_drop]; omega, List.Pairwise.sublist (List.drop_sublist _ _) HSO.out.1, List.Pairwise.sublist (List.drop_sublist _ _) HSO.out.2⟩
        clear t1 t2 t3 t4 hL hA hok1 hok2 hok3
        have hw1 := iw HEN.out.1 HEN.out.2
        have hw2 := w64 HEN.out.1 HEN.out.2
        go_wp2_with (first
         | (go_at_call 67; go_must (refine (rot_calls base gr n cap st m en (P ++ l.take x) (l.drop x) (r.take (h - x)) (r.drop (h - x) ++ R) _ (by exact HROT.out.1.below (by repeat (first | exact Below.refl _ _ | apply pw_below_drewN | apply below_drew1))) HROT.out.2.1 HROT.out.2.2.1 HROT.out.2.2.2.1 HROT.out.2.2.2.2.1 HROT.out.2.2.2.2.2 HN.out.2.2.2.2.2).mono ?_; rintro e w7 ⟨rfl, hs⟩; have HS7 : Aside0 (Srt w w7 base gr n cap (P ++ l.take x ++ r.take (h - x) ++ (l.drop x ++ r.drop (h - x) ++ R))) := (Aside0.mk (by have h := (HS.out.below (by repeat (first | exact Below.refl _ _ | apply pw_below_drewN | apply below_drew1))).next hs; simpa using h)); clear hs))
         | (go_at_call 56; (first | (have g8 := HS8; clear g8; go_must (refine (HIH.out mid en b (P ++ S1) (l.drop x) (r.drop (h - x)) R _ HRGT.out.1 (by have h := (HS8.out.self).below (by repeat (first | exact Below.refl _ _ | apply pw_below_drewN | apply below_drew1)); simpa using h) (by rw [List.length_append, HL1.out]; exact HRGT.out.2.1) HRGT.out.2.2.1 HRGT.out.2.2.2.1 HRGT.out.2.2.2.2.1 HRGT.out.2.2.2.2.2.1 HRGT.out.2.2.2.2.2.2.1 HRGT.out.2.2.2.2.2.2.2 HN.out.2.2.2.2.2).mono ?_; rintro e w9 ⟨rfl, S2, hs, ho, hc⟩; have HS9 : Aside0 (Srt w w9 base gr n cap (P ++ S1 ++ S2 ++ R)) := (Aside0.mk (((show Srt w _ base gr n cap (P ++ S1 ++ l.drop x ++ r.drop (h - x) ++ R) from (by have h := HS8.out; simpa using h)).below (by repeat (first | exact Below.refl _ _ | apply pw_below_drewN | apply below_drew1))).next hs)); have HO2 := Aside0.mk ho; have HC2 := Aside0.mk hc; clear hs ho hc)) | (go_must (refine (HIH.out a st mid P (l.take x) (r.take (h - x)) (l.drop x ++ r.drop (h - x) ++ R) _ HLFT.out.1 (by exact (HS7.out.self).below (by repeat (first | exact Below.refl _ _ | apply pw_below_drewN | apply below_drew1))) HLFT.out.2.1 HLFT.out.2.2.1 HLFT.out.2.2.2.1 HLFT.out.2.2.2.2.1 HLFT.out.2.2.2.2.2.1 HLFT.out.2.2.2.2.2.2.1 HLFT.out.2.2.2.2.2.2.2 HN.out.2.2.2.2.2).mono ?_; rintro e w8 ⟨rfl, S1, hs, ho, hc⟩; have HS8 : Aside0 (Srt w w8 base gr n cap (P ++ S1 ++ (l.drop x ++ r.drop (h - x) ++ R))) := (Aside0.mk (((HS7.out.below (by repeat (first | exact Below.refl _ _ | apply pw_below_drewN | apply below_drew1))).next hs))); have HO1 := Aside0.mk ho; have HC1 := Aside0.mk hc; have HL1 : Aside0 (S1.length = h) := ⟨hc.1.length_eq.symm.trans (List.length_append.trans HLQ.out)⟩; clear hs ho hc)))))
        go_end0
        exact sym_fin HOK.out HSO.out.1 HSO.out.2 HO1.out HO2.out HC1.out HC2.out (by have h := HS9.out; first | exact h | simpa using h)
       ·have g11 : decide ((st : Int) < (m : Int)) = true := decide_eq_true (by omega)
        have g12 : decide (st < m) = true := decide_eq_true (by omega)
        have g13 : (st : Int) < (m : Int) := by omega
        have g21 : decide ((m : Int) < (en : Int)) = true := decide_eq_true (by omega)
        have g22 : decide (m < en) = true := decide_eq_true (by omega)
        have g23 : (m : Int) < (en : Int) := by omega
        have g31 : decide ((a : Int) < (st : Int)) = true := decide_eq_true (by omega)
        have g32 : decide (a < st) = true := decide_eq_true (by omega)
        have g33 : (a : Int) < (st : Int) := by omega
        have g41 : decide ((st : Int) < (mid : Int)) = true := decide_eq_true (by omega)
        have g42 : decide (st < mid) = true := decide_eq_true (by omega)
        have g43 : (st : Int) < (mid : Int) := by omega
        have g51 : decide ((mid : Int) < (en : Int)) = true := decide_eq_true (by omega)
        have g52 : decide (mid < en) = true := decide_eq_true (by omega)
        have g53 : (mid : Int) < (en : Int) := by omega
        have g61 : decide ((en : Int) < (b : Int)) = false := decide_eq_false (by omega)
        have g62 : decide (en < b) = false := decide_eq_false (by omega)
        have g63 : ¬ (en : Int) < (b : Int) := by omega
        have HROT : Aside0 (Srt wr wr base gr n cap (P ++ l.take x ++ l.drop x ++ r.take (h - x) ++ (r.drop (h - x) ++ R)) ∧ (P ++ l.take x).length = st ∧ (P ++ l.take x).length + (l.drop x).length = m ∧ (P ++ l.take x).length + (l.drop x).length + (r.take (h - x)).length = en ∧ 0 < (l.drop x).length ∧ 0 < (r.take (h - x)).length) := ⟨by have g := HS.out.self; rw [sp0 P l r R x (h - x)] at g; exact g, by simp only [List.length_append, List.length_take]; omega, by simp only [List.length_append, List.length_take, List.length_drop]; omega, by simp only [List.length_append, List.length_take, List.length_drop]; omega, by rw [List.length_drop]; omega, by rw [List.length_take]; omega⟩
        have HLQ : Aside0 ((l.take x).length + (r.take (h - x)).length = h) := ⟨by rw [List.length_take, List.length_take]; omega⟩
        have HLFT : Aside0 ((l.take x).length + (r.take (h - x)).length ≤ M ∧ P.length = a ∧ a + (l.take x).length = st ∧ st + (r.take (h - x)).length = mid ∧ 0 < (l.take x).length ∧ 0 < (r.take (h - x)).length ∧ sO kO (l.take x) ∧ sO kO (r.take (h - x))) := ⟨by rw [List.length_take, List.length_take]; omega, by omega, by rw [List.length_take]; omega, by rw [List.length_take]; omega, by rw [List.length_take]; omega, by rw [List.length_take]; omega, List.Pairwise.sublist (List.take_sublist _ _) HSO.out.1, List.Pairwise.sublist (List.take_sublist _ _) HSO.out.2⟩
        have HX2 : Aside0 (x = l.length ∨ h - x = r.length) := ⟨.inr (by omega)⟩
        clear t1 t2 t3 t4 hL hA hok1 hok2 hok3
        have hw1 := iw HEN.out.1 HEN.out.2
        have hw2 := w64 HEN.out.1 HEN.out.2
        go_wp2_with (first
         | (go_at_call 67; go_must (refine (rot_calls base gr n cap st m en (P ++ l.take x) (l.drop x) (r.take (h - x)) (r.drop (h - x) ++ R) _ (by exact HROT.out.1.below (by repeat (first | exact Below.refl _ _ | apply pw_below_drewN | apply below_drew1))) HROT.out.2.1 HROT.out.2.2.1 HROT.out.2.2.2.1 HROT.out.2.2.2.2.1 HROT.out.2.2.2.2.2 HN.out.2.2.2.2.2).mono ?_; rintro e w7 ⟨rfl, hs⟩; have HS7 : Aside0 (Srt w w7 base gr n cap (P ++ l.take x ++ r.take (h - x) ++ (l.drop x ++ r.drop (h - x) ++ R))) := (Aside0.mk (by have h := (HS.out.below (by repeat (first | exact Below.refl _ _ | apply pw_below_drewN | apply below_drew1))).next hs; simpa using h)); clear hs))
         | (go_at_call 56; (first | (go_must (refine (HIH.out a st mid P (l.take x) (r.take (h - x)) (l.drop x ++ r.drop (h - x) ++ R) _ HLFT.out.1 (by exact (HS7.out.self).below (by repeat (first | exact Below.refl _ _ | apply pw_below_drewN | apply below_drew1))) HLFT.out.2.1 HLFT.out.2.2.1 HLFT.out.2.2.2.1 HLFT.out.2.2.2.2.1 HLFT.out.2.2.2.2.2.1 HLFT.out.2.2.2.2.2.2.1 HLFT.out.2.2.2.2.2.2.2 HN.out.2.2.2.2.2).mono ?_; rintro e w8 ⟨rfl, S1, hs, ho, hc⟩; have HS8 : Aside0 (Srt w w8 base gr n cap (P ++ S1 ++ (l.drop x ++ r.drop (h - x) ++ R))) := (Aside0.mk (((HS7.out.below (by repeat (first | exact Below.refl _ _ | apply pw_below_drewN | apply below_drew1))).next hs))); have HO1 := Aside0.mk ho; have HC1 := Aside0.mk hc; have HL1 : Aside0 (S1.length = h) := ⟨hc.1.length_eq.symm.trans (List.length_append.trans HLQ.out)⟩; clear hs ho hc)))))
        go_end0
        exact sym_fin HOK.out HSO.out.1 HSO.out.2 HO1.out (s2_sorted HSO.out.1 HSO.out.2 HX2.out) HC1.out (Cl.refl _) (by have h := HS8.out; first | exact h | simpa using h)
      ·by_cases t4 : h - x < r.length
       ·have g11 : decide ((st : Int) < (m : Int)) = true := decide_eq_true (by omega)
        have g12 : decide (st < m) = true := decide_eq_true (by omega)
        have g13 : (st : Int) < (m : Int) := by omega
        have g21 : decide ((m : Int) < (en : Int)) = true := decide_eq_true (by omega)
        have g22 : decide (m < en) = true := decide_eq_true (by omega)
        have g23 : (m : Int) < (en : Int) := by omega
        have g31 : decide ((a : Int) < (st : Int)) = false := decide_eq_false (by omega)
        have g32 : decide (a < st) = false := decide_eq_false (by omega)
        have g33 : ¬ (a : Int) < (st : Int) := by omega
        have g41 : decide ((st : Int) < (mid : Int)) = true := decide_eq_true (by omega)
        have g42 : decide (st < mid) = true := decide_eq_true (by omega)
        have g43 : (st : Int) < (mid : Int) := by omega
        have g51 : decide ((mid : Int) < (en : Int)) = true := decide_eq_true (by omega)
        have g52 : decide (mid < en) = true := decide_eq_true (by omega)
        have g53 : (mid : Int) < (en : Int) := by omega
        have g61 : decide ((en : Int) < (b : Int)) = true := decide_eq_true (by omega)
        have g62 : decide (en < b) = true := decide_eq_true (by omega)
        have g63 : (en : Int) < (b : Int) := by omega
        have HROT : Aside0 (Srt wr wr base gr n cap (P ++ l.take x ++ l.drop x ++ r.take (h - x) ++ (r.drop (h - x) ++ R)) ∧ (P ++ l.take x).length = st ∧ (P ++ l.take x).length + (l.drop x).length = m ∧ (P ++ l.take x).length + (l.drop x).length + (r.take (h - x)).length = en ∧ 0 < (l.drop x).length ∧ 0 < (r.take (h - x)).length) := ⟨by have g := HS.out.self; rw [sp0 P l r R x (h - x)] at g; exact g, by simp only [List.length_append, List.length_take]; omega, by simp only [List.length_append, List.length_take, List.length_drop]; omega, by simp only [List.length_append, List.length_take, List.length_drop]; omega, by rw [List.length_drop]; omega, by rw [List.length_take]; omega⟩
        have HX1 : Aside0 (x = 0 ∨ x = h) := ⟨.inl (by omega)⟩
        have HRGT : Aside0 ((l.drop x).length + (r.drop (h - x)).length ≤ M ∧ P.length + h = mid ∧ mid + (l.drop x).length = en ∧ en + (r.drop (h - x)).length = b ∧ 0 < (l.drop x).length ∧ 0 < (r.drop (h - x)).length ∧ sO kO (l.drop x) ∧ sO kO (r.drop (h - x))) := ⟨by rw [List.length_drop, List.length_drop]; omega, by omega, by rw [List.length_drop]; omega, by rw [List.length_drop]; omega, by rw [List.length_drop]; omega, by rw [List.length_drop]; omega, List.Pairwise.sublist (List.drop_sublist _ _) HSO.out.1, List.Pairwise.sublist (List.drop_sublist _ _) HSO.out.2⟩
        clear t1 t2 t3 t4 hL hA hok1 hok2 hok3
        have hw1 := iw HEN.out.1 HEN.out.2
        have hw2 := w64 HEN.out.1 HEN.out.2
        have HLZ : Aside0 ((l.take x ++ r.take (h - x)).length = h) := ⟨by rw [List.length_append, List.length_take, List.length_take]; have := HOK.out.xl; have := HOK.out.xh; have := HOK.out.hr; omega⟩
        go_wp2_with (first
         | (go_at_call 67; go_must (refine (rot_calls base gr n cap st m en (P ++ l.take x) (l.drop x) (r.take (h - x)) (r.drop (h - x) ++ R) _ (by exact HROT.out.1.below (by repeat (first | exact Below.refl _ _ | apply pw_below_drewN | apply below_drew1))) HROT.out.2.1 HROT.out.2.2.1 HROT.out.2.2.2.1 HROT.out.2.2.2.2.1 HROT.out.2.2.2.2.2 HN.out.2.2.2.2.2).mono ?_; rintro e w7 ⟨rfl, hs⟩; have HS7 : Aside0 (Srt w w7 base gr n cap (P ++ l.take x ++ r.take (h - x) ++ (l.drop x ++ r.drop (h - x) ++ R))) := (Aside0.mk (by have h := (HS.out.below (by repeat (first | exact Below.refl _ _ | apply pw_below_drewN | apply below_drew1))).next hs; simpa using h)); clear hs))
         | (go_at_call 56; (first | (go_must (refine (HIH.out mid en b (P ++ (l.take x ++ r.take (h - x))) (l.drop x) (r.drop (h - x)) R _ HRGT.out.1 (by have h := ((show Srt w _ base gr n cap (P ++ l.take x ++ r.take (h - x) ++ (l.drop x ++ r.drop (h - x) ++ R)) from HS7.out).self).below (by repeat (first | exact Below.refl _ _ | apply pw_below_drewN | apply below_drew1)); simpa using h) (by rw [List.length_append, HLZ.out]; exact HRGT.out.2.1) HRGT.out.2.2.1 HRGT.out.2.2.2.1 HRGT.out.2.2.2.2.1 HRGT.out.2.2.2.2.2.1 HRGT.out.2.2.2.2.2.2.1 HRGT.out.2.2.2.2.2.2.2 HN.out.2.2.2.2.2).mono ?_; rintro e w9 ⟨rfl, S2, hs, ho, hc⟩; have HS9 : Aside0 (Srt w w9 base gr n cap (P ++ (l.take x ++ r.take (h - x)) ++ S2 ++ R)) := (Aside0.mk (((show Srt w _ base gr n cap (P ++ (l.take x ++ r.take (h - x)) ++ (l.drop x) ++ (r.drop (h - x)) ++ R) from (by have h := HS7.out; simpa using h)).below (by repeat (first | exact Below.refl _ _ | apply pw_below_drewN | apply below_drew1))).next hs)); have HO2 := Aside0.mk ho; have HC2 := Aside0.mk hc; clear hs ho hc)))))
        go_end0
        exact sym_fin HOK.out HSO.out.1 HSO.out.2 (s1_sorted HSO.out.1 HSO.out.2 HX1.out) HO2.out (Cl.refl _) HC2.out (by have h := HS9.out; first | exact h | simpa using h)
       ·have g11 : decide ((st : Int) < (m : Int)) = true := decide_eq_true (by omega)
        have g12 : decide (st < m) = true := decide_eq_true (by omega)
        have g13 : (st : Int) < (m : Int) := by omega
        have g21 : decide ((m : Int) < (en : Int)) = true := decide_eq_true (by omega)
        have g22 : decide (m < en) = true := decide_eq_true (by omega)
        have g23 : (m : Int) < (en : Int) := by omega
        have g31 : decide ((a : Int) < (st : Int)) = false := decide_eq_false (by omega)
        have g32 : decide (a < st) = false := decide_eq_false (by omega)
        have g33 : ¬ (a : Int) < (st : Int) := by omega
        have g41 : decide ((st : Int) < (mid : Int)) = true := decide_eq_true (by omega)
        have g42 : decide (st < mid) = true := decide_eq_true (by omega)
        have g43 : (st : Int) < (mid : Int) := by omega
        have g51 : decide ((mid : Int) < (en : Int)) = true := decide_eq_true (by omega)
        have g52 : decide (mid < en) = true := decide_eq_true (by omega)
        have g53 : (mid : Int) < (en : Int) := by omega
        have g61 : decide ((en : Int) < (b : Int)) = false := decide_eq_false (by omega)
        have g62 : decide (en < b) = false := decide_eq_false (by omega)
        have g63 : ¬ (en : Int) < (b : Int) := by omega
        have HROT : Aside0 (Srt wr wr base gr n cap (P ++ l.take x ++ l.drop x ++ r.take (h - x) ++ (r.drop (h - x) ++ R)) ∧ (P ++ l.take x).length = st ∧ (P ++ l.take x).length + (l.drop x).length = m ∧ (P ++ l.take x).length + (l.drop x).length + (r.take (h - x)).length = en ∧ 0 < (l.drop x).length ∧ 0 < (r.take (h - x)).length) := ⟨by have g := HS.out.self; rw [sp0 P l r R x (h - x)] at g; exact g, by simp only [List.length_append, List.length_take]; omega, by simp only [List.length_append, List.length_take, List.length_drop]; omega, by simp only [List.length_append, List.length_take, List.length_drop]; omega, by rw [List.length_drop]; omega, by rw [List.length_take]; omega⟩
        have HX1 : Aside0 (x = 0 ∨ x = h) := ⟨.inl (by omega)⟩
        have HX2 : Aside0 (x = l.length ∨ h - x = r.length) := ⟨.inr (by omega)⟩
        clear t1 t2 t3 t4 hL hA hok1 hok2 hok3
        have hw1 := iw HEN.out.1 HEN.out.2
        have hw2 := w64 HEN.out.1 HEN.out.2
        have HLZ : Aside0 ((l.take x ++ r.take (h - x)).length = h) := ⟨by rw [List.length_append, List.length_take, List.length_take]; have := HOK.out.xl; have := HOK.out.xh; have := HOK.out.hr; omega⟩
        go_wp2_with (first
         | (go_at_call 67; go_must (refine (rot_calls base gr n cap st m en (P ++ l.take x) (l.drop x) (r.take (h - x)) (r.drop (h - x) ++ R) _ (by exact HROT.out.1.below (by repeat (first | exact Below.refl _ _ | apply pw_below_drewN | apply below_drew1))) HROT.out.2.1 HROT.out.2.2.1 HROT.out.2.2.2.1 HROT.out.2.2.2.2.1 HROT.out.2.2.2.2.2 HN.out.2.2.2.2.2).mono ?_; rintro e w7 ⟨rfl, hs⟩; have HS7 : Aside0 (Srt w w7 base gr n cap (P ++ l.take x ++ r.take (h - x) ++ (l.drop x ++ r.drop (h - x) ++ R))) := (Aside0.mk (by have h := (HS.out.below (by repeat (first | exact Below.refl _ _ | apply pw_below_drewN | apply below_drew1))).next hs; simpa using h)); clear hs)))
        go_end0
        exact sym_fin HOK.out HSO.out.1 HSO.out.2 (s1_sorted HSO.out.1 HSO.out.2 HX1.out) (s2_sorted HSO.out.1 HSO.out.2 HX2.out) (Cl.refl _) (Cl.refl _) (by have h := HS7.out; first | exact h | simpa using h)
     ·have g11 : decide ((st : Int) < (m : Int)) = false := decide_eq_false (by omega)
      have g12 : decide (st < m) = false := decide_eq_false (by omega)
      have g13 : ¬ (st : Int) < (m : Int) := by omega
      have g31 : decide ((a : Int) < (st : Int)) = true := decide_eq_true (by omega)
      have g32 : decide (a < st) = true := decide_eq_true (by omega)
      have g33 : (a : Int) < (st : Int) := by omega
      have g41 : decide ((st : Int) < (mid : Int)) = true := decide_eq_true (by omega)
      have g42 : decide (st < mid) = true := decide_eq_true (by omega)
      have g43 : (st : Int) < (mid : Int) := by omega
      have g51 : decide ((mid : Int) < (en : Int)) = false := decide_eq_false (by omega)
      have g52 : decide (mid < en) = false := decide_eq_false (by omega)
      have g53 : ¬ (mid : Int) < (en : Int) := by omega
      have HEQ : Aside0 (P ++ l ++ r ++ R = P ++ l.take x ++ r.take (h - x) ++ (l.drop x ++ r.drop (h - x) ++ R)) := ⟨spL P l r R x (h - x) (by omega)⟩
      have HLQ : Aside0 ((l.take x).length + (r.take (h - x)).length = h) := ⟨by rw [List.length_take, List.length_take]; omega⟩
      have HLFT : Aside0 ((l.take x).length + (r.take (h - x)).length ≤ M ∧ P.length = a ∧ a + (l.take x).length = st ∧ st + (r.take (h - x)).length = mid ∧ 0 < (l.take x).length ∧ 0 < (r.take (h - x)).length ∧ sO kO (l.take x) ∧ sO kO (r.take (h - x))) := ⟨by rw [List.length_take, List.length_take]; omega, by omega, by rw [List.length_take]; omega, by rw [List.length_take]; omega, by rw [List.length_take]; omega, by rw [List.length_take]; omega, List.Pairwise.sublist (List.take_sublist _ _) HSO.out.1, List.Pairwise.sublist (List.take_sublist _ _) HSO.out.2⟩
      have HX2 : Aside0 (x = l.length ∨ h - x = r.length) := ⟨.inl (by omega)⟩
      clear t1 t2 hL hA hok1 hok2 hok3
      have HS7 : Aside0 (Srt w wr base gr n cap (P ++ l.take x ++ r.take (h - x) ++ (l.drop x ++ r.drop (h - x) ++ R))) := ⟨by have h := HS.out; rw [HEQ.out] at h; exact h⟩
      have hw1 := iw HEN.out.1 HEN.out.2
      have hw2 := w64 HEN.out.1 HEN.out.2
      go_wp2_with (first
       | (go_at_call 56; (first | (go_must (refine (HIH.out a st mid P (l.take x) (r.take (h - x)) (l.drop x ++ r.drop (h - x) ++ R) _ HLFT.out.1 (by exact (HS7.out.self).below (by repeat (first | exact Below.refl _ _ | apply pw_below_drewN | apply below_drew1))) HLFT.out.2.1 HLFT.out.2.2.1 HLFT.out.2.2.2.1 HLFT.out.2.2.2.2.1 HLFT.out.2.2.2.2.2.1 HLFT.out.2.2.2.2.2.2.1 HLFT.out.2.2.2.2.2.2.2 HN.out.2.2.2.2.2).mono ?_; rintro e w8 ⟨rfl, S1, hs, ho, hc⟩; have HS8 : Aside0 (Srt w w8 base gr n cap (P ++ S1 ++ (l.drop x ++ r.drop (h - x) ++ R))) := (Aside0.mk (((HS7.out.below (by repeat (first | exact Below.refl _ _ | apply pw_below_drewN | apply below_drew1))).next hs))); have HO1 := Aside0.mk ho; have HC1 := Aside0.mk hc; have HL1 : Aside0 (S1.length = h) := ⟨hc.1.length_eq.symm.trans (List.length_append.trans HLQ.out)⟩; clear hs ho hc)))))
      go_end0
      exact sym_fin HOK.out HSO.out.1 HSO.out.2 HO1.out (s2_sorted HSO.out.1 HSO.out.2 HX2.out) HC1.out (Cl.refl _) (by have h := HS8.out; first | exact h | simpa using h)
    ·by_cases t1 : x < l.length
     ·have g11 : decide ((st : Int) < (m : Int)) = true := decide_eq_true (by omega)
      have g12 : decide (st < m) = true := decide_eq_true (by omega)
      have g13 : (st : Int) < (m : Int) := by omega
      have g21 : decide ((m : Int) < (en : Int)) = false := decide_eq_false (by omega)
      have g22 : decide (m < en) = false := decide_eq_false (by omega)
      have g23 : ¬ (m : Int) < (en : Int) := by omega
      have g31 : decide ((a : Int) < (st : Int)) = true := decide_eq_true (by omega)
      have g32 : decide (a < st) = true := decide_eq_true (by omega)
      have g33 : (a : Int) < (st : Int) := by omega
      have g41 : decide ((st : Int) < (mid : Int)) = false := decide_eq_false (by omega)
      have g42 : decide (st < mid) = false := decide_eq_false (by omega)
      have g43 : ¬ (st : Int) < (mid : Int) := by omega
      have g51 : decide ((mid : Int) < (en : Int)) = true := decide_eq_true (by omega)
      have g52 : decide (mid < en) = true := decide_eq_true (by omega)
      have g53 : (mid : Int) < (en : Int) := by omega
      have g61 : decide ((en : Int) < (b : Int)) = true := decide_eq_true (by omega)
      have g62 : decide (en < b) = true := decide_eq_true (by omega)
      have g63 : (en : Int) < (b : Int) := by omega
      have HEQ : Aside0 (P ++ l ++ r ++ R = P ++ l.take x ++ r.take (h - x) ++ (l.drop x ++ r.drop (h - x) ++ R)) := ⟨spH P l r R x (h - x) (by omega)⟩
      have HX1 : Aside0 (x = 0 ∨ x = h) := ⟨.inr (by omega)⟩
      have HRGT : Aside0 ((l.drop x).length + (r.drop (h - x)).length ≤ M ∧ P.length + h = mid ∧ mid + (l.drop x).length = en ∧ en + (r.drop (h - x)).length = b ∧ 0 < (l.drop x).length ∧ 0 < (r.drop (h - x)).length ∧ sO kO (l.drop x) ∧ sO kO (r.drop (h - x))) := ⟨by rw [List.length_drop, List.length_drop]; omega, by omega, by rw [List.length_drop]; omega, by rw [List.length_drop]; omega, by rw [List.length_drop]; omega, by rw [List.length_drop]; omega, List.Pairwise.sublist (List.drop_sublist _ _) HSO.out.1, List.Pairwise.sublist (List.drop_sublist _ _) HSO.out.2⟩
      clear t1 t2 hL hA hok1 hok2 hok3
      have HS7 : Aside0 (Srt w wr base gr n cap (P ++ l.take x ++ r.take (h - x) ++ (l.drop x ++ r.drop (h - x) ++ R))) := ⟨by have h := HS.out; rw [HEQ.out] at h; exact h⟩
      have hw1 := iw HEN.out.1 HEN.out.2
      have hw2 := w64 HEN.out.1 HEN.out.2
      have HLZ : Aside0 ((l.take x ++ r.take (h - x)).length = h) := ⟨by rw [List.length_append, List.length_take, List.length_take]; have := HOK.out.xl; have := HOK.out.xh; have := HOK.out.hr; omega⟩
      go_wp2_with (first
       | (go_at_call 56; (first | (go_must (refine (HIH.out mid en b (P ++ (l.take x ++ r.take (h - x))) (l.drop x) (r.drop (h - x)) R _ HRGT.out.1 (by have h := ((show Srt w _ base gr n cap (P ++ l.take x ++ r.take (h - x) ++ (l.drop x ++ r.drop (h - x) ++ R)) from HS7.out).self).below (by repeat (first | exact Below.refl _ _ | apply pw_below_drewN | apply below_drew1)); simpa using h) (by rw [List.length_append, HLZ.out]; exact HRGT.out.2.1) HRGT.out.2.2.1 HRGT.out.2.2.2.1 HRGT.out.2.2.2.2.1 HRGT.out.2.2.2.2.2.1 HRGT.out.2.2.2.2.2.2.1 HRGT.out.2.2.2.2.2.2.2 HN.out.2.2.2.2.2).mono ?_; rintro e w9 ⟨rfl, S2, hs, ho, hc⟩; have HS9 : Aside0 (Srt w w9 base gr n cap (P ++ (l.take x ++ r.take (h - x)) ++ S2 ++ R)) := (Aside0.mk (((show Srt w _ base gr n cap (P ++ (l.take x ++ r.take (h - x)) ++ (l.drop x) ++ (r.drop (h - x)) ++ R) from (by have h := HS7.out; simpa using h)).below (by repeat (first | exact Below.refl _ _ | apply pw_below_drewN | apply below_drew1))).next hs)); have HO2 := Aside0.mk ho; have HC2 := Aside0.mk hc; clear hs ho hc)))))
      go_end0
      exact sym_fin HOK.out HSO.out.1 HSO.out.2 (s1_sorted HSO.out.1 HSO.out.2 HX1.out) HO2.out (Cl.refl _) HC2.out (by have h := HS9.out; first | exact h | simpa using h)
     ·have g11 : decide ((st : Int) < (m : Int)) = false := decide_eq_false (by omega)
      have g12 : decide (st < m) = false := decide_eq_false (by omega)
      have g13 : ¬ (st : Int) < (m : Int) := by omega
      have g21 : decide ((m : Int) < (en : Int)) = false := decide_eq_false (by omega)
      have g22 : decide (m < en) = false := decide_eq_false (by omega)
      have g23 : ¬ (m : Int) < (en : Int) := by omega
      have g31 : decide ((a : Int) < (st : Int)) = true := decide_eq_true (by omega)
      have g32 : decide (a < st) = true := decide_eq_true (by omega)
      have g33 : (a : Int) < (st : Int) := by omega
      have g41 : decide ((st : Int) < (mid : Int)) = false := decide_eq_false (by omega)
      have g42 : decide (st < mid) = false := decide_eq_false (by omega)
      have g43 : ¬ (st : Int) < (mid : Int) := by omega
      have g51 : decide ((mid : Int) < (en : Int)) = false := decide_eq_false (by omega)
      have g52 : decide (mid < en) = false := decide_eq_false (by omega)
      have g53 : ¬ (mid : Int) < (en : Int) := by omega
      have g61 : decide ((en : Int) < (b : Int)) = true := decide_eq_true (by omega)
      have g62 : decide (en < b) = true := decide_eq_true (by omega)
      have g63 : (en : Int) < (b : Int) := by omega
      have HEQ : Aside0 (P ++ l ++ r ++ R = P ++ l.take x ++ r.take (h - x) ++ (l.drop x ++ r.drop (h - x) ++ R)) := ⟨spH P l r R x (h - x) (by omega)⟩
      have HX1 : Aside0 (x = 0 ∨ x = h) := ⟨.inr (by omega)⟩
      have HX2 : Aside0 (x = l.length ∨ h - x = r.length) := ⟨.inl (by omega)⟩
      clear t1 t2 hL hA hok1 hok2 hok3
      have HS7 : Aside0 (Srt w wr base gr n cap (P ++ l.take x ++ r.take (h - x) ++ (l.drop x ++ r.drop (h - x) ++ R))) := ⟨by have h := HS.out; rw [HEQ.out] at h; exact h⟩
      have hw1 := iw HEN.out.1 HEN.out.2
      have hw2 := w64 HEN.out.1 HEN.out.2
      have HLZ : Aside0 ((l.take x ++ r.take (h - x)).length = h) := ⟨by rw [List.length_append, List.length_take, List.length_take]; have := HOK.out.xl; have := HOK.out.xh; have := HOK.out.hr; omega⟩
      go_wp2_with fail
      go_end0
      exact sym_fin HOK.out HSO.out.1 HSO.out.2 (s1_sorted HSO.out.1 HSO.out.2 HX1.out) (s2_sorted HSO.out.1 HSO.out.2 HX2.out) (Cl.refl _) (Cl.refl _) (by have h := HS7.out; first | exact h | simpa using h)
 ·have g0 : ¬ (mid : Int) < (m : Int) := by omega
  have g00 : ¬ mid < m := c1
  have HC1 : Aside0 (st0 = a ∧ r0 = m) := ⟨c2, c3⟩
  clear c1 c2 c3 k8
  have hw1 := iw HE.out.1.1 HE.out.1.2
  have hw2 := w64 HE.out.1.1 HE.out.1.2
  have hw3 := iw HE.out.2.1.1 HE.out.2.1.2
  have hw4 := w64 HE.out.2.1.1 HE.out.2.1.2
  have hw5 := iw HE.out.2.2.1.1 HE.out.2.2.1.2
  have hw6 := w64 HE.out.2.2.1.1 HE.out.2.2.1.2
  have hw7 := midi HE.out.2.2.2.1.1 HE.out.2.2.2.1.2
  have hw8 := midw HE.out.2.2.2.1.1 HE.out.2.2.2.1.2
  have hw9 := iw HE.out.2.2.2.2.1.1 HE.out.2.2.2.2.1.2
  have hw10 := w64 HE.out.2.2.2.2.1.1 HE.out.2.2.2.2.1.2
  have hw11 := iw HE.out.2.2.2.2.2.1 HE.out.2.2.2.2.2.2
  have hw12 := w64 HE.out.2.2.2.2.2.1 HE.out.2.2.2.2.2.2
  go_enter Try.func56, Try.ntmps56
  go_wp2
  clear g0 g00
  clear hw1 hw2 hw3 hw4 hw5 hw6 hw7 hw8 hw9 hw10 hw11 hw12 hd1 hd3 hd4 hd5
  go_loopg [20, 21] (hi - lo + 1) (fun gg v20 v21 wr => ∃ (i j ii jj : Nat), gg = jj - ii + 1 ∧ v20 = .int .i64 i ∧ v21 = .int .i64 j ∧ i = a + ii ∧ j = a + jj ∧ lo ≤ ii ∧ ii ≤ jj ∧ jj ≤ hi ∧ Aside0 (lo < ii → ∀ u v, l[ii - 1]? = some u → r[h - ii]? = some v → ¬ ltO (kO v) (kO u)) ∧ Aside0 (jj < hi → ∀ u v, l[jj]? = some u → r[h - 1 - jj]? = some v → ltO (kO v) (kO u)) ∧ Aside0 (Srt w wr base gr n cap (P ++ l ++ r ++ R)))
  case atStart => exact ⟨st0, r0, lo, hi, rfl, (by first | rfl | rw [HC1.out.1]), (by first | rfl | rw [HC1.out.2]), HCS.out.1, HCS.out.2.1, Nat.le_refl _, HCS.out.2.2.1, Nat.le_refl _, ⟨fun h => absurd h (Nat.lt_irrefl _)⟩, ⟨fun h => absurd h (Nat.lt_irrefl _)⟩, HH⟩
  case round =>
   clear HH
   obtain ⟨i, j, ii, jj, hg, rfl, rfl, hi1, hj1, hlo, hij, hhi, HI1, HI2, HS⟩ := hrel
   have HG := Aside0.mk hg
   have HIJ := Aside0.mk (And.intro hi1 (And.intro hj1 (And.intro hlo (And.intro hij hhi))))
   clear hg
   by_cases hlt : ii < jj
   ·obtain ⟨s, hs⟩ : ∃ s, s = i + j := ⟨_, rfl⟩
    obtain ⟨cc, hcc⟩ : ∃ cc, cc = (ii + jj) / 2 := ⟨_, rfl⟩
    obtain ⟨c, hce⟩ : ∃ c, c = a + cc := ⟨_, rfl⟩
    have c4 := HCS.out.2.2.2.1
    have c5 := HCS.out.2.2.2.2.1
    have c6 := HCS.out.2.2.2.2.2.1
    have n0 := HN.out
    have n1 := HMD.out
    have n2 := HNP.out
    obtain ⟨vi, hvi⟩ : ∃ vi, vi = m + (h - 1 - cc) := ⟨_, rfl⟩
    have e1 : (i : Int) + (j : Int) = (s : Int) := by omega
    have k1 : (-1000000 : Int) ≤ (s : Int) ∧ (s : Int) ≤ 1000000 := by omega
    have e2 : (c : Int) = (s : Int) / 2 := by omega
    have k2 : (0 : Int) ≤ (s : Int) ∧ (s : Int) ≤ 1000000 := by omega
    have e3 : (c : Int) + 1 = ((c + 1 : Nat) : Int) := by omega
    have k3 : (-1000000 : Int) ≤ ((c + 1 : Nat) : Int) ∧ ((c + 1 : Nat) : Int) ≤ 1000000 := by omega
    have e4 : (pp : Int) - (c : Int) = (vi : Int) := by omega
    have k4 : (-1000000 : Int) ≤ (vi : Int) ∧ (vi : Int) ≤ 1000000 := by omega
    have q2 : (0 : Int) ≤ c := by omega
    have q3 : (c : Int) < n := by omega
    have q4 : (i : Int) < (j : Int) := by omega
    have q5 : (0 : Int) ≤ vi := by omega
    have q6 : (vi : Int) < n := by omega
    obtain ⟨y, hy⟩ : ∃ y, l[cc]? = some y := ⟨_, List.getElem?_eq_getElem (by omega)⟩
    obtain ⟨x, hx⟩ : ∃ x, r[h - 1 - cc]? = some x := ⟨_, List.getElem?_eq_getElem (by omega)⟩
    have HY := Aside0.mk hy
    have HX := Aside0.mk hx
    have HUI : Aside0 ((P ++ l ++ r ++ R)[c]? = some y) := ⟨by
     have h1 := (List.getElem?_eq_some_iff.1 hy).1
     rw [List.append_assoc, List.append_assoc, List.getElem?_append_right (by omega), show c - P.length = cc by omega, List.getElem?_append_left h1]
     exact hy⟩
    have HVI : Aside0 ((P ++ l ++ r ++ R)[vi]? = some x) := ⟨by
     have h1 := (List.getElem?_eq_some_iff.1 hx).1
     rw [List.append_assoc, List.getElem?_append_right (by rw [List.length_append]; omega), show vi - (P ++ l).length = h - 1 - cc by rw [List.length_append]; omega, List.getElem?_append_left h1]
     exact hx⟩
    have HHH : Aside0 (cc = (ii + jj) / 2 ∧ c = a + cc ∧ ii < jj) := ⟨hcc, hce, hlt⟩
    have HE3 := Aside0.mk (And.intro e3 k3)
    have hw1 := iw e1 k1
    have hw2 := w64 e1 k1
    have hw3 := midi e2 k2
    have hw4 := midw e2 k2
    have hw5 := iw e4 k4
    have hw6 := w64 e4 k4
    clear e1 e2 e3 e4 k1 k2 k3 k4 hs hcc hce hvi hy hx hlt hi1 hj1 hlo hij hhi c4 c5 c6 n0 n1 n2
    go_upto_region 35 with fail
    refine gen_world (fun wx hwx => ?_)
    have HSX : Aside0 (Srt w wx base gr n cap (P ++ l ++ r ++ R)) := ⟨by rw [hwx]; first | exact HS.out | exact HS.out.below (by repeat (first | exact Below.refl _ _ | apply pw_below_drewN | apply below_drew1))⟩
    clear hwx
    have HRX := Aside0.mk (HSX.out.rd HVI.out)
    have HRY := Aside0.mk (HSX.out.rd HUI.out)
    obtain ⟨x0, x1, x2, x3, x4, x5, x6, x7, x8, x9⟩ := HSX.out.cells HVI.out
    obtain ⟨y0, y1, y2, y3, y4, y5, y6, y7, y8, y9⟩ := HSX.out.cells HUI.out
    by_cases hlt : ltO (kO x) (kO y)
    ·have HLT := Aside0.mk hlt
     clear hlt
     refine start_ (n := 14) (S := fun w' => w'.cell? ⟨gr, vi * 10, none⟩ = some (.int .i64 x.e.f0) ∧ w'.cell? ⟨gr, vi * 10 + 1, none⟩ = some (.int .i64 x.e.f1.f0) ∧ w'.cell? ⟨gr, vi * 10 + 2, none⟩ = some (.int .i64 x.e.f1.f1) ∧ w'.cell? ⟨gr, vi * 10 + 3, none⟩ = some (.int .i64 x.e.f2.f0) ∧ w'.cell? ⟨gr, vi * 10 + 4, none⟩ = some (.int .i64 x.e.f2.f1) ∧ w'.cell? ⟨gr, vi * 10 + 5, none⟩ = some (.int .i64 x.e.f3.f0) ∧ w'.cell? ⟨gr, vi * 10 + 6, none⟩ = some (.int .i64 x.e.f3.f1) ∧ w'.cell? ⟨gr, vi * 10 + 7, none⟩ = some (.bool x.e.f4) ∧ w'.cell? ⟨gr, vi * 10 + 8, none⟩ = some (.string x.e.f5) ∧ w'.cell? ⟨gr, vi * 10 + 9, none⟩ = some (.slice x.A x.e.f6.length x.c) ∧ w'.cell? ⟨gr, c * 10, none⟩ = some (.int .i64 y.e.f0) ∧ w'.cell? ⟨gr, c * 10 + 1, none⟩ = some (.int .i64 y.e.f1.f0) ∧ w'.cell? ⟨gr, c * 10 + 2, none⟩ = some (.int .i64 y.e.f1.f1) ∧ w'.cell? ⟨gr, c * 10 + 3, none⟩ = some (.int .i64 y.e.f2.f0) ∧ w'.cell? ⟨gr, c * 10 + 4, none⟩ = some (.int .i64 y.e.f2.f1) ∧ w'.cell? ⟨gr, c * 10 + 5, none⟩ = some (.int .i64 y.e.f3.f0) ∧ w'.cell? ⟨gr, c * 10 + 6, none⟩ = some (.int .i64 y.e.f3.f1) ∧ w'.cell? ⟨gr, c * 10 + 7, none⟩ = some (.bool y.e.f4) ∧ w'.cell? ⟨gr, c * 10 + 8, none⟩ = some (.string y.e.f5) ∧ w'.cell? ⟨gr, c * 10 + 9, none⟩ = some (.slice y.A y.e.f6.length y.c)) (ds := []) #[false, false, false, false, false, false, false, false, false, false, false, false, false, false] (by kernel_rfl) rfl rfl ⟨x0, x1, x2, x3, x4, x5, x6, x7, x8, x9, y0, y1, y2, y3, y4, y5, y6, y7, y8, y9⟩ (fun hHeld => ?_)
     refine with_tabW sym_rec.tab35 sym_rec.bits35 (fun HT_ HW_ => ?_)
     refine pure_ (i := 0) (N := some 158) (v := ?_) (a' := ?_) #[true, false, false, false, false, false, false, false, false, false, false, false, false, false] rfl rfl (any_of HT_.out (by kernel_rfl)) (fun _ _ _ h => h) (Or.inl ⟨by rfl, ?_⟩) ?_ ?_
     rotate_left
     ·intro w'
      go_simp
      with_reducible rfl
     rotate_left
     ·simp only [Act.put, ta, tb, tc, i64_w, i32_w]
      rfl
     refine pure_ (i := 1) (N := some 159) (v := ?_) (a' := ?_) #[true, true, false, false, false, false, false, false, false, false, false, false, false, false] rfl rfl (any_of HT_.out (by kernel_rfl)) (fun _ _ _ h => h) (Or.inl ⟨by rfl, ?_⟩) ?_ ?_
     rotate_left
     ·intro w'
      go_simp
      with_reducible rfl
     rotate_left
     ·simp only [Act.put, ta, tb, tc, i64_w, i32_w]
      rfl
     refine pure_ (i := 2) (N := some 160) (v := ?_) (a' := ?_) #[true, true, true, false, false, false, false, false, false, false, false, false, false, false] rfl rfl (any_of HT_.out (by kernel_rfl)) (fun _ _ _ h => h) (Or.inl ⟨by rfl, ?_⟩) ?_ ?_
     rotate_left
     ·intro w'
      go_simp
      with_reducible rfl
     rotate_left
     ·simp only [Act.put, ta, tb, tc, i64_w, i32_w]
      rfl
     refine pure_ (i := 3) (N := some 161) (v := ?_) (a' := ?_) #[true, true, true, true, false, false, false, false, false, false, false, false, false, false] rfl rfl (any_of HT_.out (by kernel_rfl)) (fun _ _ _ h => h) (Or.inl ⟨by rfl, ?_⟩) ?_ ?_
     rotate_left
     ·intro w'
      go_simp
      with_reducible rfl
     rotate_left
     ·simp only [Act.put, ta, tb, tc, i64_w, i32_w]
      rfl
     refine pure_ (i := 4) (N := some 162) (v := ?_) (a' := ?_) #[true, true, true, true, true, false, false, false, false, false, false, false, false, false] rfl rfl (any_of HT_.out (by kernel_rfl)) (fun _ _ _ h => h) (Or.inl ⟨by rfl, ?_⟩) ?_ ?_
     rotate_left
     ·intro w'
      go_simp
      with_reducible rfl
     rotate_left
     ·simp only [Act.put, ta, tb, tc, i64_w, i32_w]
      rfl
     refine pure_ (i := 5) (N := some 163) (v := ?_) (a' := ?_) #[true, true, true, true, true, true, false, false, false, false, false, false, false, false] rfl rfl (any_of HT_.out (by kernel_rfl)) (fun _ _ _ h => h) (Or.inl ⟨by rfl, ?_⟩) ?_ ?_
     rotate_left
     ·intro w'
      go_simp
      with_reducible rfl
     rotate_left
     ·simp only [Act.put, ta, tb, tc, i64_w, i32_w]
      rfl
     refine pure_ (i := 7) (N := some 165) (v := ?_) (a' := ?_) #[true, true, true, true, true, true, false, true, false, false, false, false, false, false] rfl rfl (any_of HT_.out (by kernel_rfl)) (fun _ _ _ h => h) (Or.inl ⟨by rfl, ?_⟩) ?_ ?_
     rotate_left
     ·intro w'
      go_simp
      with_reducible rfl
     rotate_left
     ·simp only [Act.put, ta, tb, tc, i64_w, i32_w]
      rfl
     refine pure_ (i := 8) (N := some 166) (v := ?_) (a' := ?_) #[true, true, true, true, true, true, false, true, true, false, false, false, false, false] rfl rfl (any_of HT_.out (by kernel_rfl)) (fun _ _ _ h => h) (Or.inl ⟨by rfl, ?_⟩) ?_ ?_
     rotate_left
     ·intro w'
      go_simp
      with_reducible rfl
     rotate_left
     ·simp only [Act.put, ta, tb, tc, i64_w, i32_w]
      rfl
     refine pure_ (i := 9) (N := some 167) (v := ?_) (a' := ?_) #[true, true, true, true, true, true, false, true, true, true, false, false, false, false] rfl rfl (any_of HT_.out (by kernel_rfl)) (fun _ _ _ h => h) (Or.inl ⟨by rfl, ?_⟩) ?_ ?_
     rotate_left
     ·intro w'
      go_simp
      with_reducible rfl
     rotate_left
     ·simp only [Act.put, ta, tb, tc, i64_w, i32_w]
      rfl
     refine take_ (i := 6) (N := some 164) (v := ?_) (a' := ?_) #[true, true, true, true, true, true, true, true, true, true, false, false, false, false] rfl rfl (take_ofW HT_.out HW_.out (by kernel_rfl)) (fun _ _ _ h => h) (Or.inl ⟨by rfl, ?_⟩) hHeld ?_ ?_
     rotate_left
     ·rintro w' ⟨s0, s1, s2, s3, s4, s5, s6, s7, s8, s9, s10, s11, s12, s13, s14, s15, s16, s17, s18, s19⟩
      go_simp
      with_reducible rfl
     rotate_left
     ·simp only [Act.put, ta, tb, tc, i64_w, i32_w]
      rfl
     refine take_ (i := 10) (N := some 168) (v := ?_) (a' := ?_) #[true, true, true, true, true, true, true, true, true, true, true, false, false, false] rfl rfl (take_ofW HT_.out HW_.out (by kernel_rfl)) (fun _ _ _ h => h) (Or.inl ⟨by rfl, ?_⟩) hHeld ?_ ?_
     rotate_left
     ·rintro w' ⟨s0, s1, s2, s3, s4, s5, s6, s7, s8, s9, s10, s11, s12, s13, s14, s15, s16, s17, s18, s19⟩
      go_simp
      with_reducible rfl
     rotate_left
     ·simp only [Act.put, ta, tb, tc, i64_w, i32_w]
      rfl
     refine one_ (i := 11) (N := some 169) #[true, true, true, true, true, true, true, true, true, true, true, true, false, false] rfl rfl (one_of HT_.out (by kernel_rfl)) (by decide) (fun K hK => ?_)
     refine goesv_ Try.func21 (by kernel_rfl) rfl #[.agg #[.int .i64 x.e.f0, .int .i64 x.e.f1.f0, .int .i64 x.e.f1.f1, .int .i64 x.e.f2.f0, .int .i64 x.e.f2.f1, .int .i64 x.e.f3.f0, .int .i64 x.e.f3.f1, .bool x.e.f4, .string x.e.f5, .slice x.A x.e.f6.length x.c], .agg #[.int .i64 y.e.f0, .int .i64 y.e.f1.f0, .int .i64 y.e.f1.f1, .int .i64 y.e.f2.f0, .int .i64 y.e.f2.f1, .int .i64 y.e.f3.f0, .int .i64 y.e.f3.f1, .bool y.e.f4, .string y.e.f5, .slice y.A y.e.f6.length y.c]] (by rfl) rfl rfl (by rfl) (by simp only [List.map_toArray, List.map_cons, List.map_nil]; rfl) ?_
     with_reducible refine (cmpo_lt x y _ (HRX.out.below (below_drew1 (Below.refl _ _))) (HRY.out.below (below_drew1 (Below.refl _ _))) HLT.out).mono ?_
     rintro e w3 ⟨r3, rfl, hr1, hr2, hb3⟩
     refine ⟨_, rfl, ?_⟩
     refine hK.out _ _ (lift20 hb3 x0 x1 x2 x3 x4 x5 x6 x7 x8 x9 y0 y1 y2 y3 y4 y5 y6 y7 y8 y9) (fun hHeld => ?_)
     clear hK K
     refine norm_ (a' := ?_) ?_ ?_
     rotate_left
     ·show Act.put _ (some 169) _ = _
      simp only [Act.put, ta, tb, tc, i64_w, i32_w]
      rfl
     refine pure_ (i := 12) (N := some 170) (v := ?_) (a' := ?_) #[true, true, true, true, true, true, true, true, true, true, true, true, true, false] rfl rfl (any_of HT_.out (by kernel_rfl)) (fun _ _ _ h => h) (Or.inl ⟨by rfl, ?_⟩) ?_ ?_
     rotate_left
     ·intro w'
      go_simp
      with_reducible rfl
     rotate_left
     ·simp only [Act.put, ta, tb, tc, i64_w, i32_w]
      rfl
     refine pure_ (i := 13) (N := some 171) (v := ?_) (a' := ?_) #[true, true, true, true, true, true, true, true, true, true, true, true, true, true] rfl rfl (any_of HT_.out (by kernel_rfl)) (fun _ _ _ h => h) (Or.inl ⟨by rfl, ?_⟩) ?_ ?_
     rotate_left
     ·intro w'
      go_simp
      with_reducible rfl
     rotate_left
     ·simp only [Act.put, ta, tb, tc, i64_w, i32_w]
      rfl
     refine done_ (done_of HT_.out (by kernel_rfl)) ?_
     have HS3 : Aside0 (Srt w w3 base gr n cap (P ++ l ++ r ++ R)) := ⟨HSX.out.below (below_step (below_drew1 (Below.refl _ _)) hb3)⟩
     clear hb3 HSX HRX HRY x0 x1 x2 x3 x4 x5 x6 x7 x8 x9 y0 y1 y2 y3 y4 y5 y6 y7 y8 y9 HS hw1 hw2 hw3 hw4 hw5 hw6
     go_wp2
     go_roundg (cc - ii + 1)
     case measure => rw [HG.out]; have := HHH.out; omega
     case rel => exact ⟨i, c, ii, cc, rfl, rfl, rfl, HIJ.out.1, HHH.out.2.1, HIJ.out.2.2.1, by have := HHH.out; omega, by have := HHH.out; have := HIJ.out; omega, HI1, ⟨fun _ u v hu hv => by rw [HY.out] at hu; rw [HX.out] at hv; injection hu with hu; injection hv with hv; rw [← hu, ← hv]; exact HLT.out⟩, ⟨HS3.out.below (by repeat (first | exact Below.refl _ _ | apply pw_below_drewN | apply below_drew1))⟩⟩
    ·have HLT := Aside0.mk hlt
     clear hlt
     refine start_ (n := 14) (S := fun w' => w'.cell? ⟨gr, vi * 10, none⟩ = some (.int .i64 x.e.f0) ∧ w'.cell? ⟨gr, vi * 10 + 1, none⟩ = some (.int .i64 x.e.f1.f0) ∧ w'.cell? ⟨gr, vi * 10 + 2, none⟩ = some (.int .i64 x.e.f1.f1) ∧ w'.cell? ⟨gr, vi * 10 + 3, none⟩ = some (.int .i64 x.e.f2.f0) ∧ w'.cell? ⟨gr, vi * 10 + 4, none⟩ = some (.int .i64 x.e.f2.f1) ∧ w'.cell? ⟨gr, vi * 10 + 5, none⟩ = some (.int .i64 x.e.f3.f0) ∧ w'.cell? ⟨gr, vi * 10 + 6, none⟩ = some (.int .i64 x.e.f3.f1) ∧ w'.cell? ⟨gr, vi * 10 + 7, none⟩ = some (.bool x.e.f4) ∧ w'.cell? ⟨gr, vi * 10 + 8, none⟩ = some (.string x.e.f5) ∧ w'.cell? ⟨gr, vi * 10 + 9, none⟩ = some (.slice x.A x.e.f6.length x.c) ∧ w'.cell? ⟨gr, c * 10, none⟩ = some (.int .i64 y.e.f0) ∧ w'.cell? ⟨gr, c * 10 + 1, none⟩ = some (.int .i64 y.e.f1.f0) ∧ w'.cell? ⟨gr, c * 10 + 2, none⟩ = some (.int .i64 y.e.f1.f1) ∧ w'.cell? ⟨gr, c * 10 + 3, none⟩ = some (.int .i64 y.e.f2.f0) ∧ w'.cell? ⟨gr, c * 10 + 4, none⟩ = some (.int .i64 y.e.f2.f1) ∧ w'.cell? ⟨gr, c * 10 + 5, none⟩ = some (.int .i64 y.e.f3.f0) ∧ w'.cell? ⟨gr, c * 10 + 6, none⟩ = some (.int .i64 y.e.f3.f1) ∧ w'.cell? ⟨gr, c * 10 + 7, none⟩ = some (.bool y.e.f4) ∧ w'.cell? ⟨gr, c * 10 + 8, none⟩ = some (.string y.e.f5) ∧ w'.cell? ⟨gr, c * 10 + 9, none⟩ = some (.slice y.A y.e.f6.length y.c)) (ds := []) #[false, false, false, false, false, false, false, false, false, false, false, false, false, false] (by kernel_rfl) rfl rfl ⟨x0, x1, x2, x3, x4, x5, x6, x7, x8, x9, y0, y1, y2, y3, y4, y5, y6, y7, y8, y9⟩ (fun hHeld => ?_)
     refine with_tabW sym_rec.tab35 sym_rec.bits35 (fun HT_ HW_ => ?_)
     refine pure_ (i := 0) (N := some 158) (v := ?_) (a' := ?_) #[true, false, false, false, false, false, false, false, false, false, false, false, false, false] rfl rfl (any_of HT_.out (by kernel_rfl)) (fun _ _ _ h => h) (Or.inl ⟨by rfl, ?_⟩) ?_ ?_
     rotate_left
     ·intro w'
      go_simp
      with_reducible rfl
     rotate_left
     ·simp only [Act.put, ta, tb, tc, i64_w, i32_w]
      rfl
     refine pure_ (i := 1) (N := some 159) (v := ?_) (a' := ?_) #[true, true, false, false, false, false, false, false, false, false, false, false, false, false] rfl rfl (any_of HT_.out (by kernel_rfl)) (fun _ _ _ h => h) (Or.inl ⟨by rfl, ?_⟩) ?_ ?_
     rotate_left
     ·intro w'
      go_simp
      with_reducible rfl
     rotate_left
     ·simp only [Act.put, ta, tb, tc, i64_w, i32_w]
      rfl
     refine pure_ (i := 2) (N := some 160) (v := ?_) (a' := ?_) #[true, true, true, false, false, false, false, false, false, false, false, false, false, false] rfl rfl (any_of HT_.out (by kernel_rfl)) (fun _ _ _ h => h) (Or.inl ⟨by rfl, ?_⟩) ?_ ?_
     rotate_left
     ·intro w'
      go_simp
      with_reducible rfl
     rotate_left
     ·simp only [Act.put, ta, tb, tc, i64_w, i32_w]
      rfl
     refine pure_ (i := 3) (N := some 161) (v := ?_) (a' := ?_) #[true, true, true, true, false, false, false, false, false, false, false, false, false, false] rfl rfl (any_of HT_.out (by kernel_rfl)) (fun _ _ _ h => h) (Or.inl ⟨by rfl, ?_⟩) ?_ ?_
     rotate_left
     ·intro w'
      go_simp
      with_reducible rfl
     rotate_left
     ·simp only [Act.put, ta, tb, tc, i64_w, i32_w]
      rfl
     refine pure_ (i := 4) (N := some 162) (v := ?_) (a' := ?_) #[true, true, true, true, true, false, false, false, false, false, false, false, false, false] rfl rfl (any_of HT_.out (by kernel_rfl)) (fun _ _ _ h => h) (Or.inl ⟨by rfl, ?_⟩) ?_ ?_
     rotate_left
     ·intro w'
      go_simp
      with_reducible rfl
     rotate_left
     ·simp only [Act.put, ta, tb, tc, i64_w, i32_w]
      rfl
     refine pure_ (i := 5) (N := some 163) (v := ?_) (a' := ?_) #[true, true, true, true, true, true, false, false, false, false, false, false, false, false] rfl rfl (any_of HT_.out (by kernel_rfl)) (fun _ _ _ h => h) (Or.inl ⟨by rfl, ?_⟩) ?_ ?_
     rotate_left
     ·intro w'
      go_simp
      with_reducible rfl
     rotate_left
     ·simp only [Act.put, ta, tb, tc, i64_w, i32_w]
      rfl
     refine pure_ (i := 7) (N := some 165) (v := ?_) (a' := ?_) #[true, true, true, true, true, true, false, true, false, false, false, false, false, false] rfl rfl (any_of HT_.out (by kernel_rfl)) (fun _ _ _ h => h) (Or.inl ⟨by rfl, ?_⟩) ?_ ?_
     rotate_left
     ·intro w'
      go_simp
      with_reducible rfl
     rotate_left
     ·simp only [Act.put, ta, tb, tc, i64_w, i32_w]
      rfl
     refine pure_ (i := 8) (N := some 166) (v := ?_) (a' := ?_) #[true, true, true, true, true, true, false, true, true, false, false, false, false, false] rfl rfl (any_of HT_.out (by kernel_rfl)) (fun _ _ _ h => h) (Or.inl ⟨by rfl, ?_⟩) ?_ ?_
     rotate_left
     ·intro w'
      go_simp
      with_reducible rfl
     rotate_left
     ·simp only [Act.put, ta, tb, tc, i64_w, i32_w]
      rfl
     refine pure_ (i := 9) (N := some 167) (v := ?_) (a' := ?_) #[true, true, true, true, true, true, false, true, true, true, false, false, false, false] rfl rfl (any_of HT_.out (by kernel_rfl)) (fun _ _ _ h => h) (Or.inl ⟨by rfl, ?_⟩) ?_ ?_
     rotate_left
     ·intro w'
      go_simp
      with_reducible rfl
     rotate_left
     ·simp only [Act.put, ta, tb, tc, i64_w, i32_w]
      rfl
     refine take_ (i := 6) (N := some 164) (v := ?_) (a' := ?_) #[true, true, true, true, true, true, true, true, true, true, false, false, false, false] rfl rfl (take_ofW HT_.out HW_.out (by kernel_rfl)) (fun _ _ _ h => h) (Or.inl ⟨by rfl, ?_⟩) hHeld ?_ ?_
     rotate_left
     ·rintro w' ⟨s0, s1, s2, s3, s4, s5, s6, s7, s8, s9, s10, s11, s12, s13, s14, s15, s16, s17, s18, s19⟩
      go_simp
      with_reducible rfl
     rotate_left
     ·simp only [Act.put, ta, tb, tc, i64_w, i32_w]
      rfl
     refine take_ (i := 10) (N := some 168) (v := ?_) (a' := ?_) #[true, true, true, true, true, true, true, true, true, true, true, false, false, false] rfl rfl (take_ofW HT_.out HW_.out (by kernel_rfl)) (fun _ _ _ h => h) (Or.inl ⟨by rfl, ?_⟩) hHeld ?_ ?_
     rotate_left
     ·rintro w' ⟨s0, s1, s2, s3, s4, s5, s6, s7, s8, s9, s10, s11, s12, s13, s14, s15, s16, s17, s18, s19⟩
      go_simp
      with_reducible rfl
     rotate_left
     ·simp only [Act.put, ta, tb, tc, i64_w, i32_w]
      rfl
     refine one_ (i := 11) (N := some 169) #[true, true, true, true, true, true, true, true, true, true, true, true, false, false] rfl rfl (one_of HT_.out (by kernel_rfl)) (by decide) (fun K hK => ?_)
     refine goesv_ Try.func21 (by kernel_rfl) rfl #[.agg #[.int .i64 x.e.f0, .int .i64 x.e.f1.f0, .int .i64 x.e.f1.f1, .int .i64 x.e.f2.f0, .int .i64 x.e.f2.f1, .int .i64 x.e.f3.f0, .int .i64 x.e.f3.f1, .bool x.e.f4, .string x.e.f5, .slice x.A x.e.f6.length x.c], .agg #[.int .i64 y.e.f0, .int .i64 y.e.f1.f0, .int .i64 y.e.f1.f1, .int .i64 y.e.f2.f0, .int .i64 y.e.f2.f1, .int .i64 y.e.f3.f0, .int .i64 y.e.f3.f1, .bool y.e.f4, .string y.e.f5, .slice y.A y.e.f6.length y.c]] (by rfl) rfl rfl (by rfl) (by simp only [List.map_toArray, List.map_cons, List.map_nil]; rfl) ?_
     with_reducible refine (cmpo_ge x y _ (HRX.out.below (below_drew1 (Below.refl _ _))) (HRY.out.below (below_drew1 (Below.refl _ _))) HLT.out).mono ?_
     rintro e w3 ⟨r3, rfl, hr1, hr2, hb3⟩
     refine ⟨_, rfl, ?_⟩
     refine hK.out _ _ (lift20 hb3 x0 x1 x2 x3 x4 x5 x6 x7 x8 x9 y0 y1 y2 y3 y4 y5 y6 y7 y8 y9) (fun hHeld => ?_)
     clear hK K
     refine norm_ (a' := ?_) ?_ ?_
     rotate_left
     ·show Act.put _ (some 169) _ = _
      simp only [Act.put, ta, tb, tc, i64_w, i32_w]
      rfl
     refine pure_ (i := 12) (N := some 170) (v := ?_) (a' := ?_) #[true, true, true, true, true, true, true, true, true, true, true, true, true, false] rfl rfl (any_of HT_.out (by kernel_rfl)) (fun _ _ _ h => h) (Or.inl ⟨by rfl, ?_⟩) ?_ ?_
     rotate_left
     ·intro w'
      go_simp
      with_reducible rfl
     rotate_left
     ·simp only [Act.put, ta, tb, tc, i64_w, i32_w]
      rfl
     refine pure_ (i := 13) (N := some 171) (v := ?_) (a' := ?_) #[true, true, true, true, true, true, true, true, true, true, true, true, true, true] rfl rfl (any_of HT_.out (by kernel_rfl)) (fun _ _ _ h => h) (Or.inl ⟨by rfl, ?_⟩) ?_ ?_
     rotate_left
     ·intro w'
      go_simp
      with_reducible rfl
     rotate_left
     ·simp only [Act.put, ta, tb, tc, i64_w, i32_w]
      rfl
     refine done_ (done_of HT_.out (by kernel_rfl)) ?_
     have HS3 : Aside0 (Srt w w3 base gr n cap (P ++ l ++ r ++ R)) := ⟨HSX.out.below (below_step (below_drew1 (Below.refl _ _)) hb3)⟩
     clear hb3 HSX HRX HRY x0 x1 x2 x3 x4 x5 x6 x7 x8 x9 y0 y1 y2 y3 y4 y5 y6 y7 y8 y9 HS hw1 hw2 hw3 hw4 hw5 hw6
     have hw1 := iw HE3.out.1 HE3.out.2
     have hw2 := w64 HE3.out.1 HE3.out.2
     go_wp2
     clear hw1 hw2
     go_roundg (jj - (cc + 1) + 1)
     case measure => rw [HG.out]; have := HHH.out; omega
     case rel => exact ⟨c + 1, j, cc + 1, jj, rfl, rfl, rfl, by have := HHH.out; omega, HIJ.out.2.1, by have := HHH.out; have := HIJ.out; omega, by have := HHH.out; omega, HIJ.out.2.2.2.2, ⟨fun _ u v hu hv => by rw [Nat.add_sub_cancel, HY.out] at hu; rw [show h - (cc + 1) = h - 1 - cc by omega, HX.out] at hv; injection hu with hu; injection hv with hv; rw [← hu, ← hv]; exact HLT.out⟩, HI2, ⟨HS3.out.below (by repeat (first | exact Below.refl _ _ | apply pw_below_drewN | apply below_drew1))⟩⟩
   ·obtain ⟨x, hxe⟩ : ∃ x, x = ii := ⟨_, rfl⟩
    obtain ⟨st, hst⟩ : ∃ st, st = i := ⟨_, rfl⟩
    have hje : jj = x := by omega
    obtain ⟨en, hen⟩ : ∃ en, en = m + h - x := ⟨_, rfl⟩
    have q4 : ¬ (i : Int) < (j : Int) := by omega
    have c4 := HCS.out
    have HOK : Aside0 (SymOk kO l r h x) := ⟨sym_ok (lo := lo) (hi := hi) HSO.out.1 HSO.out.2 (by omega) (by omega) c4.2.2.2.2.2.2.1 c4.2.2.2.2.2.2.2 (by omega) (by omega) (by omega) (fun h0 u v hu hv => by rw [hxe] at h0 hu hv; exact HI1.out h0 u v hu hv) (fun h0 u v hu hv => by rw [← hje] at h0 hu hv; exact HI2.out h0 u v hu hv)⟩
    have HST : Aside0 (st = a + x ∧ en = m + h - x) := ⟨by omega, hen⟩
    have n1 := HMD.out
    have n2 := HNP.out
    have n0 := HN.out
    have k1 := HOK.out.xh
    have HEN : Aside0 ((nn : Int) - (i : Int) = (en : Int) ∧ (-1000000 : Int) ≤ (en : Int) ∧ (en : Int) ≤ 1000000) := ⟨by omega, by omega, by omega⟩
    rw [← hst] at HEN q4 ⊢
    clear hi1 hj1 hlo hij hhi hlt hxe hst hje hen c4 n0 n1 n2 k1 HI1 HI2 HIJ HG
    have hL : P.length = a ∧ a + l.length = m ∧ m + r.length = b ∧ l.length + r.length ≤ M + 1 ∧ 2 ≤ l.length ∧ 2 ≤ r.length := ⟨HN.out.1, HN.out.2.1, HN.out.2.2.1, HLR.out.1, HLR.out.2.1, HLR.out.2.2⟩
    have hA : st = a + x ∧ en = m + h - x ∧ mid = a + h ∧ h = (l.length + r.length) / 2 := ⟨HST.out.1, HST.out.2, HMD.out.1, HMD.out.2⟩
    have hok1 := HOK.out.xl
    have hok2 := HOK.out.xh
    have hok3 := HOK.out.hr
    by_cases t2 : x < h
    ·by_cases t1 : x < l.length
     ·by_cases t3 : 0 < x
      ·by_cases t4 : h - x < r.length
       ·have g11 : decide ((st : Int) < (m : Int)) = true := decide_eq_true (by omega)
        have g12 : decide (st < m) = true := decide_eq_true (by omega)
        have g13 : (st : Int) < (m : Int) := by omega
        have g21 : decide ((m : Int) < (en : Int)) = true := decide_eq_true (by omega)
        have g22 : decide (m < en) = true := decide_eq_true (by omega)
        have g23 : (m : Int) < (en : Int) := by omega
        have g31 : decide ((a : Int) < (st : Int)) = true := decide_eq_true (by omega)
        have g32 : decide (a < st) = true := decide_eq_true (by omega)
        have g33 : (a : Int) < (st : Int) := by omega
        have g41 : decide ((st : Int) < (mid : Int)) = true := decide_eq_true (by omega)
        have g42 : decide (st < mid) = true := decide_eq_true (by omega)
        have g43 : (st : Int) < (mid : Int) := by omega
        have g51 : decide ((mid : Int) < (en : Int)) = true := decide_eq_true (by omega)
        have g52 : decide (mid < en) = true := decide_eq_true (by omega)
        have g53 : (mid : Int) < (en : Int) := by omega
        have g61 : decide ((en : Int) < (b : Int)) = true := decide_eq_true (by omega)
        have g62 : decide (en < b) = true := decide_eq_true (by omega)
        have g63 : (en : Int) < (b : Int) := by omega
        have HROT : Aside0 (Srt wr wr base gr n cap (P ++ l.take x ++ l.drop x ++ r.take (h - x) ++ (r.drop (h - x) ++ R)) ∧ (P ++ l.take x).length = st ∧ (P ++ l.take x).length + (l.drop x).length = m ∧ (P ++ l.take x).length + (l.drop x).length + (r.take (h - x)).length = en ∧ 0 < (l.drop x).length ∧ 0 < (r.take (h - x)).length) := ⟨by have g := HS.out.self; rw [sp0 P l r R x (h - x)] at g; exact g, by simp only [List.length_append, List.length_take]; omega, by simp only [List.length_append, List.length_take, List.length_drop]; omega, by simp only [List.length_append, List.length_take, List.length_drop]; omega, by rw [List.length_drop]; omega, by rw [List.length_take]; omega⟩
        have HLQ : Aside0 ((l.take x).length + (r.take (h - x)).length = h) := ⟨by rw [List.length_take, List.length_take]; omega⟩
        have HLFT : Aside0 ((l.take x).length + (r.take (h - x)).length ≤ M ∧ P.length = a ∧ a + (l.take x).length = st ∧ st + (r.take (h - x)).length = mid ∧ 0 < (l.take x).length ∧ 0 < (r.take (h - x)).length ∧ sO kO (l.take x) ∧ sO kO (r.take (h - x))) := ⟨by rw [List.length_take, List.length_take]; omega, by omega, by rw [List.length_take]; omega, by rw [List.length_take]; omega, by rw [List.length_take]; omega, by rw [List.length_take]; omega, List.Pairwise.sublist (List.take_sublist _ _) HSO.out.1, List.Pairwise.sublist (List.take_sublist _ _) HSO.out.2⟩
        have HRGT : Aside0 ((l.drop x).length + (r.drop (h - x)).length ≤ M ∧ P.length + h = mid ∧ mid + (l.drop x).length = en ∧ en + (r.drop (h - x)).length = b ∧ 0 < (l.drop x).length ∧ 0 < (r.drop (h - x)).length ∧ sO kO (l.drop x) ∧ sO kO (r.drop (h - x))) := ⟨by rw [List.length_drop, List.length_drop]; omega, by omega, by rw [List.length_drop]; omega, by rw [List.length_drop]; omega, by rw [List.length_drop]; omega, by rw [List.length_drop]; omega, List.Pairwise.sublist (List.drop_sublist _ _) HSO.out.1, List.Pairwise.sublist (List.drop_sublist _ _) HSO.out.2⟩
        clear t1 t2 t3 t4 hL hA hok1 hok2 hok3
        have hw1 := iw HEN.out.1 HEN.out.2
        have hw2 := w64 HEN.out.1 HEN.out.2
        go_wp2_with (first
         | (go_at_call 67; go_must (refine (rot_calls base gr n cap st m en (P ++ l.take x) (l.drop x) (r.take (h - x)) (r.drop (h - x) ++ R) _ (by exact HROT.out.1.below (by repeat (first | exact Below.refl _ _ | apply pw_below_drewN | apply below_drew1))) HROT.out.2.1 HROT.out.2.2.1 HROT.out.2.2.2.1 HROT.out.2.2.2.2.1 HROT.out.2.2.2.2.2 HN.out.2.2.2.2.2).mono ?_; rintro e w7 ⟨rfl, hs⟩; have HS7 : Aside0 (Srt w w7 base gr n cap (P ++ l.take x ++ r.take (h - x) ++ (l.drop x ++ r.drop (h - x) ++ R))) := (Aside0.mk (by have h := (HS.out.below (by repeat (first | exact Below.refl _ _ | apply pw_below_drewN | apply below_drew1))).next hs; simpa using h)); clear hs))
         | (go_at_call 56; (first | (have g8 := HS8; clear g8; go_must (refine (HIH.out mid en b (P ++ S1) (l.drop x) (r.drop (h - x)) R _ HRGT.out.1 (by have h := (HS8.out.self).below (by repeat (first | exact Below.refl _ _ | apply pw_below_drewN | apply below_drew1)); simpa using h) (by rw [List.length_append, HL1.out]; exact HRGT.out.2.1) HRGT.out.2.2.1 HRGT.out.2.2.2.1 HRGT.out.2.2.2.2.1 HRGT.out.2.2.2.2.2.1 HRGT.out.2.2.2.2.2.2.1 HRGT.out.2.2.2.2.2.2.2 HN.out.2.2.2.2.2).mono ?_; rintro e w9 ⟨rfl, S2, hs, ho, hc⟩; have HS9 : Aside0 (Srt w w9 base gr n cap (P ++ S1 ++ S2 ++ R)) := (Aside0.mk (((show Srt w _ base gr n cap (P ++ S1 ++ l.drop x ++ r.drop (h - x) ++ R) from (by have h := HS8.out; simpa using h)).below (by repeat (first | exact Below.refl _ _ | apply pw_below_drewN | apply below_drew1))).next hs)); have HO2 := Aside0.mk ho; have HC2 := Aside0.mk hc; clear hs ho hc)) | (go_must (refine (HIH.out a st mid P (l.take x) (r.take (h - x)) (l.drop x ++ r.drop (h - x) ++ R) _ HLFT.out.1 (by exact (HS7.out.self).below (by repeat (first | exact Below.refl _ _ | apply pw_below_drewN | apply below_drew1))) HLFT.out.2.1 HLFT.out.2.2.1 HLFT.out.2.2.2.1 HLFT.out.2.2.2.2.1 HLFT.out.2.2.2.2.2.1 HLFT.out.2.2.2.2.2.2.1 HLFT.out.2.2.2.2.2.2.2 HN.out.2.2.2.2.2).mono ?_; rintro e w8 ⟨rfl, S1, hs, ho, hc⟩; have HS8 : Aside0 (Srt w w8 base gr n cap (P ++ S1 ++ (l.drop x ++ r.drop (h - x) ++ R))) := (Aside0.mk (((HS7.out.below (by repeat (first | exact Below.refl _ _ | apply pw_below_drewN | apply below_drew1))).next hs))); have HO1 := Aside0.mk ho; have HC1 := Aside0.mk hc; have HL1 : Aside0 (S1.length = h) := ⟨hc.1.length_eq.symm.trans (List.length_append.trans HLQ.out)⟩; clear hs ho hc)))))
        go_end0
        exact sym_fin HOK.out HSO.out.1 HSO.out.2 HO1.out HO2.out HC1.out HC2.out (by have h := HS9.out; first | exact h | simpa using h)
       ·have g11 : decide ((st : Int) < (m : Int)) = true := decide_eq_true (by omega)
        have g12 : decide (st < m) = true := decide_eq_true (by omega)
        have g13 : (st : Int) < (m : Int) := by omega
        have g21 : decide ((m : Int) < (en : Int)) = true := decide_eq_true (by omega)
        have g22 : decide (m < en) = true := decide_eq_true (by omega)
        have g23 : (m : Int) < (en : Int) := by omega
        have g31 : decide ((a : Int) < (st : Int)) = true := decide_eq_true (by omega)
        have g32 : decide (a < st) = true := decide_eq_true (by omega)
        have g33 : (a : Int) < (st : Int) := by omega
        have g41 : decide ((st : Int) < (mid : Int)) = true := decide_eq_true (by omega)
        have g42 : decide (st < mid) = true := decide_eq_true (by omega)
        have g43 : (st : Int) < (mid : Int) := by omega
        have g51 : decide ((mid : Int) < (en : Int)) = true := decide_eq_true (by omega)
        have g52 : decide (mid < en) = true := decide_eq_true (by omega)
        have g53 : (mid : Int) < (en : Int) := by omega
        have g61 : decide ((en : Int) < (b : Int)) = false := decide_eq_false (by omega)
        have g62 : decide (en < b) = false := decide_eq_false (by omega)
        have g63 : ¬ (en : Int) < (b : Int) := by omega
        have HROT : Aside0 (Srt wr wr base gr n cap (P ++ l.take x ++ l.drop x ++ r.take (h - x) ++ (r.drop (h - x) ++ R)) ∧ (P ++ l.take x).length = st ∧ (P ++ l.take x).length + (l.drop x).length = m ∧ (P ++ l.take x).length + (l.drop x).length + (r.take (h - x)).length = en ∧ 0 < (l.drop x).length ∧ 0 < (r.take (h - x)).length) := ⟨by have g := HS.out.self; rw [sp0 P l r R x (h - x)] at g; exact g, by simp only [List.length_append, List.length_take]; omega, by simp only [List.length_append, List.length_take, List.length_drop]; omega, by simp only [List.length_append, List.length_take, List.length_drop]; omega, by rw [List.length_drop]; omega, by rw [List.length_take]; omega⟩
        have HLQ : Aside0 ((l.take x).length + (r.take (h - x)).length = h) := ⟨by rw [List.length_take, List.length_take]; omega⟩
        have HLFT : Aside0 ((l.take x).length + (r.take (h - x)).length ≤ M ∧ P.length = a ∧ a + (l.take x).length = st ∧ st + (r.take (h - x)).length = mid ∧ 0 < (l.take x).length ∧ 0 < (r.take (h - x)).length ∧ sO kO (l.take x) ∧ sO kO (r.take (h - x))) := ⟨by rw [List.length_take, List.length_take]; omega, by omega, by rw [List.length_take]; omega, by rw [List.length_take]; omega, by rw [List.length_take]; omega, by rw [List.length_take]; omega, List.Pairwise.sublist (List.take_sublist _ _) HSO.out.1, List.Pairwise.sublist (List.take_sublist _ _) HSO.out.2⟩
        have HX2 : Aside0 (x = l.length ∨ h - x = r.length) := ⟨.inr (by omega)⟩
        clear t1 t2 t3 t4 hL hA hok1 hok2 hok3
        have hw1 := iw HEN.out.1 HEN.out.2
        have hw2 := w64 HEN.out.1 HEN.out.2
        go_wp2_with (first
         | (go_at_call 67; go_must (refine (rot_calls base gr n cap st m en (P ++ l.take x) (l.drop x) (r.take (h - x)) (r.drop (h - x) ++ R) _ (by exact HROT.out.1.below (by repeat (first | exact Below.refl _ _ | apply pw_below_drewN | apply below_drew1))) HROT.out.2.1 HROT.out.2.2.1 HROT.out.2.2.2.1 HROT.out.2.2.2.2.1 HROT.out.2.2.2.2.2 HN.out.2.2.2.2.2).mono ?_; rintro e w7 ⟨rfl, hs⟩; have HS7 : Aside0 (Srt w w7 base gr n cap (P ++ l.take x ++ r.take (h - x) ++ (l.drop x ++ r.drop (h - x) ++ R))) := (Aside0.mk (by have h := (HS.out.below (by repeat (first | exact Below.refl _ _ | apply pw_below_drewN | apply below_drew1))).next hs; simpa using h)); clear hs))
         | (go_at_call 56; (first | (go_must (refine (HIH.out a st mid P (l.take x) (r.take (h - x)) (l.drop x ++ r.drop (h - x) ++ R) _ HLFT.out.1 (by exact (HS7.out.self).below (by repeat (first | exact Below.refl _ _ | apply pw_below_drewN | apply below_drew1))) HLFT.out.2.1 HLFT.out.2.2.1 HLFT.out.2.2.2.1 HLFT.out.2.2.2.2.1 HLFT.out.2.2.2.2.2.1 HLFT.out.2.2.2.2.2.2.1 HLFT.out.2.2.2.2.2.2.2 HN.out.2.2.2.2.2).mono ?_; rintro e w8 ⟨rfl, S1, hs, ho, hc⟩; have HS8 : Aside0 (Srt w w8 base gr n cap (P ++ S1 ++ (l.drop x ++ r.drop (h - x) ++ R))) := (Aside0.mk (((HS7.out.below (by repeat (first | exact Below.refl _ _ | apply pw_below_drewN | apply below_drew1))).next hs))); have HO1 := Aside0.mk ho; have HC1 := Aside0.mk hc; have HL1 : Aside0 (S1.length = h) := ⟨hc.1.length_eq.symm.trans (List.length_append.trans HLQ.out)⟩; clear hs ho hc)))))
        go_end0
        exact sym_fin HOK.out HSO.out.1 HSO.out.2 HO1.out (s2_sorted HSO.out.1 HSO.out.2 HX2.out) HC1.out (Cl.refl _) (by have h := HS8.out; first | exact h | simpa using h)
      ·by_cases t4 : h - x < r.length
       ·have g11 : decide ((st : Int) < (m : Int)) = true := decide_eq_true (by omega)
        have g12 : decide (st < m) = true := decide_eq_true (by omega)
        have g13 : (st : Int) < (m : Int) := by omega
        have g21 : decide ((m : Int) < (en : Int)) = true := decide_eq_true (by omega)
        have g22 : decide (m < en) = true := decide_eq_true (by omega)
        have g23 : (m : Int) < (en : Int) := by omega
        have g31 : decide ((a : Int) < (st : Int)) = false := decide_eq_false (by omega)
        have g32 : decide (a < st) = false := decide_eq_false (by omega)
        have g33 : ¬ (a : Int) < (st : Int) := by omega
        have g41 : decide ((st : Int) < (mid : Int)) = true := decide_eq_true (by omega)
        have g42 : decide (st < mid) = true := decide_eq_true (by omega)
        have g43 : (st : Int) < (mid : Int) := by omega
        have g51 : decide ((mid : Int) < (en : Int)) = true := decide_eq_true (by omega)
        have g52 : decide (mid < en) = true := decide_eq_true (by omega)
        have g53 : (mid : Int) < (en : Int) := by omega
        have g61 : decide ((en : Int) < (b : Int)) = true := decide_eq_true (by omega)
        have g62 : decide (en < b) = true := decide_eq_true (by omega)
        have g63 : (en : Int) < (b : Int) := by omega
        have HROT : Aside0 (Srt wr wr base gr n cap (P ++ l.take x ++ l.drop x ++ r.take (h - x) ++ (r.drop (h - x) ++ R)) ∧ (P ++ l.take x).length = st ∧ (P ++ l.take x).length + (l.drop x).length = m ∧ (P ++ l.take x).length + (l.drop x).length + (r.take (h - x)).length = en ∧ 0 < (l.drop x).length ∧ 0 < (r.take (h - x)).length) := ⟨by have g := HS.out.self; rw [sp0 P l r R x (h - x)] at g; exact g, by simp only [List.length_append, List.length_take]; omega, by simp only [List.length_append, List.length_take, List.length_drop]; omega, by simp only [List.length_append, List.length_take, List.length_drop]; omega, by rw [List.length_drop]; omega, by rw [List.length_take]; omega⟩
        have HX1 : Aside0 (x = 0 ∨ x = h) := ⟨.inl (by omega)⟩
        have HRGT : Aside0 ((l.drop x).length + (r.drop (h - x)).length ≤ M ∧ P.length + h = mid ∧ mid + (l.drop x).length = en ∧ en + (r.drop (h - x)).length = b ∧ 0 < (l.drop x).length ∧ 0 < (r.drop (h - x)).length ∧ sO kO (l.drop x) ∧ sO kO (r.drop (h - x))) := ⟨by rw [List.length_drop, List.length_drop]; omega, by omega, by rw [List.length_drop]; omega, by rw [List.length_drop]; omega, by rw [List.length_drop]; omega, by rw [List.length_drop]; omega, List.Pairwise.sublist (List.drop_sublist _ _) HSO.out.1, List.Pairwise.sublist (List.drop_sublist _ _) HSO.out.2⟩
        clear t1 t2 t3 t4 hL hA hok1 hok2 hok3
        have hw1 := iw HEN.out.1 HEN.out.2
        have hw2 := w64 HEN.out.1 HEN.out.2
        have HLZ : Aside0 ((l.take x ++ r.take (h - x)).length = h) := ⟨by rw [List.length_append, List.length_take, List.length_take]; have := HOK.out.xl; have := HOK.out.xh; have := HOK.out.hr; omega⟩
        go_wp2_with (first
         | (go_at_call 67; go_must (refine (rot_calls base gr n cap st m en (P ++ l.take x) (l.drop x) (r.take (h - x)) (r.drop (h - x) ++ R) _ (by exact HROT.out.1.below (by repeat (first | exact Below.refl _ _ | apply pw_below_drewN | apply below_drew1))) HROT.out.2.1 HROT.out.2.2.1 HROT.out.2.2.2.1 HROT.out.2.2.2.2.1 HROT.out.2.2.2.2.2 HN.out.2.2.2.2.2).mono ?_; rintro e w7 ⟨rfl, hs⟩; have HS7 : Aside0 (Srt w w7 base gr n cap (P ++ l.take x ++ r.take (h - x) ++ (l.drop x ++ r.drop (h - x) ++ R))) := (Aside0.mk (by have h := (HS.out.below (by repeat (first | exact Below.refl _ _ | apply pw_below_drewN | apply below_drew1))).next hs; simpa using h)); clear hs))
         | (go_at_call 56; (first | (go_must (refine (HIH.out mid en b (P ++ (l.take x ++ r.take (h - x))) (l.drop x) (r.drop (h - x)) R _ HRGT.out.1 (by have h := ((show Srt w _ base gr n cap (P ++ l.take x ++ r.take (h - x) ++ (l.drop x ++ r.drop (h - x) ++ R)) from HS7.out).self).below (by repeat (first | exact Below.refl _ _ | apply pw_below_drewN | apply below_drew1)); simpa using h) (by rw [List.length_append, HLZ.out]; exact HRGT.out.2.1) HRGT.out.2.2.1 HRGT.out.2.2.2.1 HRGT.out.2.2.2.2.1 HRGT.out.2.2.2.2.2.1 HRGT.out.2.2.2.2.2.2.1 HRGT.out.2.2.2.2.2.2.2 HN.out.2.2.2.2.2).mono ?_; rintro e w9 ⟨rfl, S2, hs, ho, hc⟩; have HS9 : Aside0 (Srt w w9 base gr n cap (P ++ (l.take x ++ r.take (h - x)) ++ S2 ++ R)) := (Aside0.mk (((show Srt w _ base gr n cap (P ++ (l.take x ++ r.take (h - x)) ++ (l.drop x) ++ (r.drop (h - x)) ++ R) from (by have h := HS7.out; simpa using h)).below (by repeat (first | exact Below.refl _ _ | apply pw_below_drewN | apply below_drew1))).next hs)); have HO2 := Aside0.mk ho; have HC2 := Aside0.mk hc; clear hs ho hc)))))
        go_end0
        exact sym_fin HOK.out HSO.out.1 HSO.out.2 (s1_sorted HSO.out.1 HSO.out.2 HX1.out) HO2.out (Cl.refl _) HC2.out (by have h := HS9.out; first | exact h | simpa using h)
       ·have g11 : decide ((st : Int) < (m : Int)) = true := decide_eq_true (by omega)
        have g12 : decide (st < m) = true := decide_eq_true (by omega)
        have g13 : (st : Int) < (m : Int) := by omega
        have g21 : decide ((m : Int) < (en : Int)) = true := decide_eq_true (by omega)
        have g22 : decide (m < en) = true := decide_eq_true (by omega)
        have g23 : (m : Int) < (en : Int) := by omega
        have g31 : decide ((a : Int) < (st : Int)) = false := decide_eq_false (by omega)
        have g32 : decide (a < st) = false := decide_eq_false (by omega)
        have g33 : ¬ (a : Int) < (st : Int) := by omega
        have g41 : decide ((st : Int) < (mid : Int)) = true := decide_eq_true (by omega)
        have g42 : decide (st < mid) = true := decide_eq_true (by omega)
        have g43 : (st : Int) < (mid : Int) := by omega
        have g51 : decide ((mid : Int) < (en : Int)) = true := decide_eq_true (by omega)
        have g52 : decide (mid < en) = true := decide_eq_true (by omega)
        have g53 : (mid : Int) < (en : Int) := by omega
        have g61 : decide ((en : Int) < (b : Int)) = false := decide_eq_false (by omega)
        have g62 : decide (en < b) = false := decide_eq_false (by omega)
        have g63 : ¬ (en : Int) < (b : Int) := by omega
        have HROT : Aside0 (Srt wr wr base gr n cap (P ++ l.take x ++ l.drop x ++ r.take (h - x) ++ (r.drop (h - x) ++ R)) ∧ (P ++ l.take x).length = st ∧ (P ++ l.take x).length + (l.drop x).length = m ∧ (P ++ l.take x).length + (l.drop x).length + (r.take (h - x)).length = en ∧ 0 < (l.drop x).length ∧ 0 < (r.take (h - x)).length) := ⟨by have g := HS.out.self; rw [sp0 P l r R x (h - x)] at g; exact g, by simp only [List.length_append, List.length_take]; omega, by simp only [List.length_append, List.length_take, List.length_drop]; omega, by simp only [List.length_append, List.length_take, List.length_drop]; omega, by rw [List.length_drop]; omega, by rw [List.length_take]; omega⟩
        have HX1 : Aside0 (x = 0 ∨ x = h) := ⟨.inl (by omega)⟩
        have HX2 : Aside0 (x = l.length ∨ h - x = r.length) := ⟨.inr (by omega)⟩
        clear t1 t2 t3 t4 hL hA hok1 hok2 hok3
        have hw1 := iw HEN.out.1 HEN.out.2
        have hw2 := w64 HEN.out.1 HEN.out.2
        have HLZ : Aside0 ((l.take x ++ r.take (h - x)).length = h) := ⟨by rw [List.length_append, List.length_take, List.length_take]; have := HOK.out.xl; have := HOK.out.xh; have := HOK.out.hr; omega⟩
        go_wp2_with (first
         | (go_at_call 67; go_must (refine (rot_calls base gr n cap st m en (P ++ l.take x) (l.drop x) (r.take (h - x)) (r.drop (h - x) ++ R) _ (by exact HROT.out.1.below (by repeat (first | exact Below.refl _ _ | apply pw_below_drewN | apply below_drew1))) HROT.out.2.1 HROT.out.2.2.1 HROT.out.2.2.2.1 HROT.out.2.2.2.2.1 HROT.out.2.2.2.2.2 HN.out.2.2.2.2.2).mono ?_; rintro e w7 ⟨rfl, hs⟩; have HS7 : Aside0 (Srt w w7 base gr n cap (P ++ l.take x ++ r.take (h - x) ++ (l.drop x ++ r.drop (h - x) ++ R))) := (Aside0.mk (by have h := (HS.out.below (by repeat (first | exact Below.refl _ _ | apply pw_below_drewN | apply below_drew1))).next hs; simpa using h)); clear hs)))
        go_end0
        exact sym_fin HOK.out HSO.out.1 HSO.out.2 (s1_sorted HSO.out.1 HSO.out.2 HX1.out) (s2_sorted HSO.out.1 HSO.out.2 HX2.out) (Cl.refl _) (Cl.refl _) (by have h := HS7.out; first | exact h | simpa using h)
     ·have g11 : decide ((st : Int) < (m : Int)) = false := decide_eq_false (by omega)
      have g12 : decide (st < m) = false := decide_eq_false (by omega)
      have g13 : ¬ (st : Int) < (m : Int) := by omega
      have g31 : decide ((a : Int) < (st : Int)) = true := decide_eq_true (by omega)
      have g32 : decide (a < st) = true := decide_eq_true (by omega)
      have g33 : (a : Int) < (st : Int) := by omega
      have g41 : decide ((st : Int) < (mid : Int)) = true := decide_eq_true (by omega)
      have g42 : decide (st < mid) = true := decide_eq_true (by omega)
      have g43 : (st : Int) < (mid : Int) := by omega
      have g51 : decide ((mid : Int) < (en : Int)) = false := decide_eq_false (by omega)
      have g52 : decide (mid < en) = false := decide_eq_false (by omega)
      have g53 : ¬ (mid : Int) < (en : Int) := by omega
      have HEQ : Aside0 (P ++ l ++ r ++ R = P ++ l.take x ++ r.take (h - x) ++ (l.drop x ++ r.drop (h - x) ++ R)) := ⟨spL P l r R x (h - x) (by omega)⟩
      have HLQ : Aside0 ((l.take x).length + (r.take (h - x)).length = h) := ⟨by rw [List.length_take, List.length_take]; omega⟩
      have HLFT : Aside0 ((l.take x).length + (r.take (h - x)).length ≤ M ∧ P.length = a ∧ a + (l.take x).length = st ∧ st + (r.take (h - x)).length = mid ∧ 0 < (l.take x).length ∧ 0 < (r.take (h - x)).length ∧ sO kO (l.take x) ∧ sO kO (r.take (h - x))) := ⟨by rw [List.length_take, List.length_take]; omega, by omega, by rw [List.length_take]; omega, by rw [List.length_take]; omega, by rw [List.length_take]; omega, by rw [List.length_take]; omega, List.Pairwise.sublist (List.take_sublist _ _) HSO.out.1, List.Pairwise.sublist (List.take_sublist _ _) HSO.out.2⟩
      have HX2 : Aside0 (x = l.length ∨ h - x = r.length) := ⟨.inl (by omega)⟩
      clear t1 t2 hL hA hok1 hok2 hok3
      have HS7 : Aside0 (Srt w wr base gr n cap (P ++ l.take x ++ r.take (h - x) ++ (l.drop x ++ r.drop (h - x) ++ R))) := ⟨by have h := HS.out; rw [HEQ.out] at h; exact h⟩
      have hw1 := iw HEN.out.1 HEN.out.2
      have hw2 := w64 HEN.out.1 HEN.out.2
      go_wp2_with (first
       | (go_at_call 56; (first | (go_must (refine (HIH.out a st mid P (l.take x) (r.take (h - x)) (l.drop x ++ r.drop (h - x) ++ R) _ HLFT.out.1 (by exact (HS7.out.self).below (by repeat (first | exact Below.refl _ _ | apply pw_below_drewN | apply below_drew1))) HLFT.out.2.1 HLFT.out.2.2.1 HLFT.out.2.2.2.1 HLFT.out.2.2.2.2.1 HLFT.out.2.2.2.2.2.1 HLFT.out.2.2.2.2.2.2.1 HLFT.out.2.2.2.2.2.2.2 HN.out.2.2.2.2.2).mono ?_; rintro e w8 ⟨rfl, S1, hs, ho, hc⟩; have HS8 : Aside0 (Srt w w8 base gr n cap (P ++ S1 ++ (l.drop x ++ r.drop (h - x) ++ R))) := (Aside0.mk (((HS7.out.below (by repeat (first | exact Below.refl _ _ | apply pw_below_drewN | apply below_drew1))).next hs))); have HO1 := Aside0.mk ho; have HC1 := Aside0.mk hc; have HL1 : Aside0 (S1.length = h) := ⟨hc.1.length_eq.symm.trans (List.length_append.trans HLQ.out)⟩; clear hs ho hc)))))
      go_end0
      exact sym_fin HOK.out HSO.out.1 HSO.out.2 HO1.out (s2_sorted HSO.out.1 HSO.out.2 HX2.out) HC1.out (Cl.refl _) (by have h := HS8.out; first | exact h | simpa using h)
    ·by_cases t1 : x < l.length
     ·have g11 : decide ((st : Int) < (m : Int)) = true := decide_eq_true (by omega)
      have g12 : decide (st < m) = true := decide_eq_true (by omega)
      have g13 : (st : Int) < (m : Int) := by omega
      have g21 : decide ((m : Int) < (en : Int)) = false := decide_eq_false (by omega)
      have g22 : decide (m < en) = false := decide_eq_false (by omega)
      have g23 : ¬ (m : Int) < (en : Int) := by omega
      have g31 : decide ((a : Int) < (st : Int)) = true := decide_eq_true (by omega)
      have g32 : decide (a < st) = true := decide_eq_true (by omega)
      have g33 : (a : Int) < (st : Int) := by omega
      have g41 : decide ((st : Int) < (mid : Int)) = false := decide_eq_false (by omega)
      have g42 : decide (st < mid) = false := decide_eq_false (by omega)
      have g43 : ¬ (st : Int) < (mid : Int) := by omega
      have g51 : decide ((mid : Int) < (en : Int)) = true := decide_eq_true (by omega)
      have g52 : decide (mid < en) = true := decide_eq_true (by omega)
      have g53 : (mid : Int) < (en : Int) := by omega
      have g61 : decide ((en : Int) < (b : Int)) = true := decide_eq_true (by omega)
      have g62 : decide (en < b) = true := decide_eq_true (by omega)
      have g63 : (en : Int) < (b : Int) := by omega
      have HEQ : Aside0 (P ++ l ++ r ++ R = P ++ l.take x ++ r.take (h - x) ++ (l.drop x ++ r.drop (h - x) ++ R)) := ⟨spH P l r R x (h - x) (by omega)⟩
      have HX1 : Aside0 (x = 0 ∨ x = h) := ⟨.inr (by omega)⟩
      have HRGT : Aside0 ((l.drop x).length + (r.drop (h - x)).length ≤ M ∧ P.length + h = mid ∧ mid + (l.drop x).length = en ∧ en + (r.drop (h - x)).length = b ∧ 0 < (l.drop x).length ∧ 0 < (r.drop (h - x)).length ∧ sO kO (l.drop x) ∧ sO kO (r.drop (h - x))) := ⟨by rw [List.length_drop, List.length_drop]; omega, by omega, by rw [List.length_drop]; omega, by rw [List.length_drop]; omega, by rw [List.length_drop]; omega, by rw [List.length_drop]; omega, List.Pairwise.sublist (List.drop_sublist _ _) HSO.out.1, List.Pairwise.sublist (List.drop_sublist _ _) HSO.out.2⟩
      clear t1 t2 hL hA hok1 hok2 hok3
      have HS7 : Aside0 (Srt w wr base gr n cap (P ++ l.take x ++ r.take (h - x) ++ (l.drop x ++ r.drop (h - x) ++ R))) := ⟨by have h := HS.out; rw [HEQ.out] at h; exact h⟩
      have hw1 := iw HEN.out.1 HEN.out.2
      have hw2 := w64 HEN.out.1 HEN.out.2
      have HLZ : Aside0 ((l.take x ++ r.take (h - x)).length = h) := ⟨by rw [List.length_append, List.length_take, List.length_take]; have := HOK.out.xl; have := HOK.out.xh; have := HOK.out.hr; omega⟩
      go_wp2_with (first
       | (go_at_call 56; (first | (go_must (refine (HIH.out mid en b (P ++ (l.take x ++ r.take (h - x))) (l.drop x) (r.drop (h - x)) R _ HRGT.out.1 (by have h := ((show Srt w _ base gr n cap (P ++ l.take x ++ r.take (h - x) ++ (l.drop x ++ r.drop (h - x) ++ R)) from HS7.out).self).below (by repeat (first | exact Below.refl _ _ | apply pw_below_drewN | apply below_drew1)); simpa using h) (by rw [List.length_append, HLZ.out]; exact HRGT.out.2.1) HRGT.out.2.2.1 HRGT.out.2.2.2.1 HRGT.out.2.2.2.2.1 HRGT.out.2.2.2.2.2.1 HRGT.out.2.2.2.2.2.2.1 HRGT.out.2.2.2.2.2.2.2 HN.out.2.2.2.2.2).mono ?_; rintro e w9 ⟨rfl, S2, hs, ho, hc⟩; have HS9 : Aside0 (Srt w w9 base gr n cap (P ++ (l.take x ++ r.take (h - x)) ++ S2 ++ R)) := (Aside0.mk (((show Srt w _ base gr n cap (P ++ (l.take x ++ r.take (h - x)) ++ (l.drop x) ++ (r.drop (h - x)) ++ R) from (by have h := HS7.out; simpa using h)).below (by repeat (first | exact Below.refl _ _ | apply pw_below_drewN | apply below_drew1))).next hs)); have HO2 := Aside0.mk ho; have HC2 := Aside0.mk hc; clear hs ho hc)))))
      go_end0
      exact sym_fin HOK.out HSO.out.1 HSO.out.2 (s1_sorted HSO.out.1 HSO.out.2 HX1.out) HO2.out (Cl.refl _) HC2.out (by have h := HS9.out; first | exact h | simpa using h)
     ·have g11 : decide ((st : Int) < (m : Int)) = false := decide_eq_false (by omega)
      have g12 : decide (st < m) = false := decide_eq_false (by omega)
      have g13 : ¬ (st : Int) < (m : Int) := by omega
      have g21 : decide ((m : Int) < (en : Int)) = false := decide_eq_false (by omega)
      have g22 : decide (m < en) = false := decide_eq_false (by omega)
      have g23 : ¬ (m : Int) < (en : Int) := by omega
      have g31 : decide ((a : Int) < (st : Int)) = true := decide_eq_true (by omega)
      have g32 : decide (a < st) = true := decide_eq_true (by omega)
      have g33 : (a : Int) < (st : Int) := by omega
      have g41 : decide ((st : Int) < (mid : Int)) = false := decide_eq_false (by omega)
      have g42 : decide (st < mid) = false := decide_eq_false (by omega)
      have g43 : ¬ (st : Int) < (mid : Int) := by omega
      have g51 : decide ((mid : Int) < (en : Int)) = false := decide_eq_false (by omega)
      have g52 : decide (mid < en) = false := decide_eq_false (by omega)
      have g53 : ¬ (mid : Int) < (en : Int) := by omega
      have g61 : decide ((en : Int) < (b : Int)) = true := decide_eq_true (by omega)
      have g62 : decide (en < b) = true := decide_eq_true (by omega)
      have g63 : (en : Int) < (b : Int) := by omega
      have HEQ : Aside0 (P ++ l ++ r ++ R = P ++ l.take x ++ r.take (h - x) ++ (l.drop x ++ r.drop (h - x) ++ R)) := ⟨spH P l r R x (h - x) (by omega)⟩
      have HX1 : Aside0 (x = 0 ∨ x = h) := ⟨.inr (by omega)⟩
      have HX2 : Aside0 (x = l.length ∨ h - x = r.length) := ⟨.inl (by omega)⟩
      clear t1 t2 hL hA hok1 hok2 hok3
      have HS7 : Aside0 (Srt w wr base gr n cap (P ++ l.take x ++ r.take (h - x) ++ (l.drop x ++ r.drop (h - x) ++ R))) := ⟨by have h := HS.out; rw [HEQ.out] at h; exact h⟩
      have hw1 := iw HEN.out.1 HEN.out.2
      have hw2 := w64 HEN.out.1 HEN.out.2
      have HLZ : Aside0 ((l.take x ++ r.take (h - x)).length = h) := ⟨by rw [List.length_append, List.length_take, List.length_take]; have := HOK.out.xl; have := HOK.out.xh; have := HOK.out.hr; omega⟩
      go_wp2_with fail
      go_end0
      exact sym_fin HOK.out HSO.out.1 HSO.out.2 (s1_sorted HSO.out.1 HSO.out.2 HX1.out) (s2_sorted HSO.out.1 HSO.out.2 HX2.out) (Cl.refl _) (Cl.refl _) (by have h := HS7.out; first | exact h | simpa using h)
end Go.Proofs.Ytaiakklflmhpmaa.K

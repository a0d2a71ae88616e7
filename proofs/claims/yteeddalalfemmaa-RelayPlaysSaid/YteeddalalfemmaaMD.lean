/- cachetteref22: Again. cachetteref22: refusals. cachetteref22: an append to a queue in its place; the view. cachetteref22: Put. cachetteref22: Rewind. cachetteref22: laws for Forge and Turn. cachetteref22: Forge. -/
import Derived.Test.YteeddalalfemmaaMC
import Derived.Test.YteeddalalfemmaaMB
namespace Go.Proofs.Yteeddalalfemmaa.K
open Go.RowKit Go.Proofs.YteeddalalfemmaaW.PrintWords Go.Proofs.YteeddalalfemmaaW.PrintLast Go.Proofs.YteeddalalfemmaaW.PrintMore
set_option linter.unusedVariables false
set_option linter.unusedSimpArgs false

theorem src_item {P : Program} {W : World} {tx e' t b : Nat} {x y : Value} (hk : P.underlying tx = some (.slice e')) (h : W.heap[b]? = some (.cells #[x, y] t (0, 0))) (hx : x.oneCell' = true) (hy : y.oneCell' = true) : Src P 2 tx (.slice (some ⟨b, 0, none⟩) 1 1) 1 [x, y] W :=
  Src.ofSlice W hk ⟨b, 0, none⟩ 1 1 [x, y] rfl (fun j u hu => by
    rw [Addr.add_lit, Nat.zero_add, blk_cell h j]
    simpa using hu) (fun u hu => by
    simp at hu
    rcases hu with rfl | rfl
    · exact hx
    · exact hy)

def magain_ok.T3 : Bool × List (List Nat × List Nat) := (true, [([], []), ([0], [0]), ([1], [1]), ([2], [2]), ([], []), ([], []), ([], []), ([6], [6]), ([7], [7]), ([8], [8]), ([], []), ([9, 10], [9, 10]), ([11], [11]), ([5, 12], [5, 12]), ([], []), ([14], [14]), ([15], [15]), ([16], [16]), ([], []), ([17, 18], [17, 18]), ([19], [19]), ([], []), ([20, 21], [20, 21]), ([22], [22]), ([23], [23]), ([13, 24, 13], [13, 24]), ([3, 4, 0, 1, 2, 3, 4, 5, 6, 7, 8, 9, 10, 11, 12, 13, 14, 15, 16, 17, 18, 19, 20, 21, 22, 23, 24, 25], [3, 4]), ([26, 25, 25, 0, 1, 2, 3, 4, 5, 6, 7, 8, 9, 10, 11, 12, 13, 14, 15, 16, 17, 18, 19, 20, 21, 22, 23, 24, 25], [25, 26])])
def magain_ok.B3 : List Nat := [0, 1, 3, 7, 0, 0, 0, 64, 192, 448, 0, 1984, 4032, 8160, 0, 16384, 49152, 114688, 0, 507904, 1032192, 0, 4177920, 8372224, 16760832, 33554400, 67108863, 134217727]
theorem magain_ok.tab3 : rtab .any (opsOf Try.f20 3) = magain_ok.T3 := by kernel_rfl
theorem magain_ok.bits3 : waitsOk magain_ok.T3.2 magain_ok.B3 = true := by kernel_rfl
set_option maxRecDepth 100000 in
set_option maxHeartbeats 8000000 in
theorem magain_ok (g gq m j : Nat) (col : Nat → Nat) (vw : List It) (qs : List (List It)) (xs : List It) (x : It) (w0 w : World) (hR : Mel w w0.heap.size g gq col vw qs) (hm : m < qs.length) (hxs : qs[m] = xs) (hj : j < xs.length) (hx : xs[j] = x) (hq9 : xs.length ≤ 90000) (hB : Below w0.heap.size w0 w) :
    Calls Try.prog 20 #[.pointer (some ⟨g, 0, none⟩), .int .i64 m, .int .i64 j] w fun e w' => e = .returned (.bool true) ∧ Mid w0 w w' g gq col vw (qs.set m (xs ++ [x])) := by
  obtain ⟨cA, hcol, hR, hLA⟩ := hR.recol' (11 + m)
  obtain ⟨vv, pv, h1, _⟩ := hR.blk
  obtain ⟨cs, v, ps, h3, h4, e, r, e2, gg⟩ := hR.queue m hm _ hxs
  have hpl : ps.length = xs.length := by rw [← e2]; simp
  obtain ⟨b, off, cap, rfl, hcap, hok, hat, hsp⟩ := r.at (by omega)
  obtain ⟨n, hn⟩ : ∃ n, ps.length = n := ⟨_, rfl⟩
  rw [hn] at r e hcap
  obtain ⟨p, hp⟩ : ∃ p, ps[j]? = some p := ⟨ps[j], List.getElem?_eq_getElem (by omega)⟩
  have hpx : p.2 = x := by
    have h7 : (ps.map Prod.snd)[j]? = some p.2 := by rw [List.getElem?_map, hp]; rfl
    rw [e2, List.getElem?_eq_getElem hj] at h7
    injection h7 with h7
    rw [← h7, hx]
  have hgp : Bs w w0.heap.size cA p.1 p.2.f0 := gg p (List.mem_of_getElem? hp)
  obtain ⟨Ab, cb, hpv, hcb, _⟩ := Kd.R_reads hgp
  obtain ⟨fl0, fl1⟩ := flat_at ps j p hp
  obtain ⟨la, hla⟩ : ∃ la, p.2.f0.length = la := ⟨_, rfl⟩
  obtain ⟨pt, hpt⟩ : ∃ pt, p.2.f1 = pt := ⟨_, rfl⟩
  rw [hla] at hpv
  have c0 : w.cell? ⟨g, 0, none⟩ = some (.slice (some ⟨gq, 0, none⟩) qs.length qs.length) := (blk_cell h1 0).trans rfl
  have c1 : w.cell? ⟨gq, m, none⟩ = some (.slice (some ⟨b, off, none⟩) n cap) := (blk_cell h3 m).trans e
  have c2 : w.cell? ⟨b, off + j * 2, none⟩ = some (.slice Ab la cb) := by rw [hat _ (by omega), fl0, hpv]
  have c3 : w.cell? ⟨b, off + j * 2 + 1, none⟩ = some (.bool pt) := by rw [Nat.add_assoc, hat _ (by omega), fl1, hpt]
  have hfl : flat (ps ++ [p]) = flat ps ++ [.slice Ab la cb, .bool pt] := by
    rw [flat_append]
    simp [flat, hpv, hpt]
  have HFL := Aside0.mk hfl
  have HD : Aside0 (decide (hasQ qs (m : Int) (j : Int)) = true) := ⟨decide_eq_true ⟨by simpa using hm, by omega, by omega, by simpa [hxs] using hj⟩⟩
  have hm0 : (0 : Int) ≤ m := by omega
  have hm1 : (m : Int) < qs.length := by omega
  have hj0 : (0 : Int) ≤ j := by omega
  have hjn : j < n := by omega
  have hj1 : (j : Int) < n := by omega
  have hn9 : n ≤ 90000 := by omega
  have hnc : (n : Int) ≤ cap := by omega
  have HR := Aside0.mk hR
  have Hr := Aside0.mk r
  have HB := Aside0.mk hB
  have H1 := Aside0.mk h1
  have H3 := Aside0.mk h3
  have HGG := Aside0.mk gg
  have HM := Aside0.mk hm
  have HE := Aside0.mk e2
  have HN := Aside0.mk hn
  have HC := Aside0.mk hcol
  have HLA := Aside0.mk hLA
  have HP := Aside0.mk (List.mem_of_getElem? hp)
  have HX := Aside0.mk hpx
  clear hq9 hR r hB h1 h3 h4 gg hm e2 e hat hsp hok hn hcol hLA hpl hxs hj hfl hpv hcb fl0 fl1 hla hpt hp hgp hpx hx
  go_enter Try.func20, Try.ntmps20
  go_wp2_with (first
    | ((with_reducible refine gate_dst (N := 10) rfl ?_); go_must (((try (refine gate_guard (by rfl) ?_; dsimp only)); refine goesL_ (some 10) rfl rfl Try.func36 (by kernel_rfl) rfl #[.pointer (some ⟨g, 0, none⟩), .int .i64 m, .int .i64 j] rfl ?hA ?_; (case hA => ((try simp only [List.map_toArray, List.map_cons, List.map_nil]); first | done | rfl)); refine (mhas_calls g gq m j cA vw qs _ _ HR.out).mono ?_; rintro e w9 ⟨rfl, ⟨m9, rfl⟩⟩; refine ⟨_, rfl, ?_⟩; rw [HD.out]))))
  refine start_ (n := 28) (S := fun w' => w'.cell? ⟨g, 0, none⟩ = some (.slice (some ⟨gq, 0, none⟩) qs.length qs.length) ∧ w'.cell? ⟨gq, m, none⟩ = some (.slice (some ⟨b, off, none⟩) n cap) ∧ w'.cell? ⟨b, off + j * 2, none⟩ = some (.slice Ab la cb) ∧ w'.cell? ⟨b, off + j * 2 + 1, none⟩ = some (.bool pt)) (ds := [27]) #[false, false, false, false, false, false, false, false, false, false, false, false, false, false, false, false, false, false, false, false, false, false, false, false, false, false, false, false] (by kernel_rfl) rfl rfl ⟨c0, c1, c2, c3⟩ (fun hHeld => ?_)
  refine with_tabW magain_ok.tab3 magain_ok.bits3 (fun HT_ HW_ => ?_)
  refine pure_ (i := 0) (N := some 12) (v := ?_) (a' := ?_) #[true, false, false, false, false, false, false, false, false, false, false, false, false, false, false, false, false, false, false, false, false, false, false, false, false, false, false, false] rfl rfl (any_of HT_.out (by kernel_rfl)) (fun _ _ _ h => h) (Or.inl ⟨by rfl, ?_⟩) ?_ ?_
  rotate_left
  · intro w'
    go_simp
    with_reducible rfl
  rotate_left
  · simp only [Act.put, List.setIfInBounds_toArray, List.set_cons_zero, List.set_cons_succ, i64_w, i32_w]
    rfl
  refine pure_ (i := 1) (N := some 13) (v := ?_) (a' := ?_) #[true, true, false, false, false, false, false, false, false, false, false, false, false, false, false, false, false, false, false, false, false, false, false, false, false, false, false, false] rfl rfl (any_of HT_.out (by kernel_rfl)) (fun _ _ _ h => h) (Or.inl ⟨by rfl, ?_⟩) ?_ ?_
  rotate_left
  · intro w'
    go_simp
    with_reducible rfl
  rotate_left
  · simp only [Act.put, List.setIfInBounds_toArray, List.set_cons_zero, List.set_cons_succ, i64_w, i32_w]
    rfl
  refine pure_ (i := 2) (N := some 14) (v := ?_) (a' := ?_) #[true, true, true, false, false, false, false, false, false, false, false, false, false, false, false, false, false, false, false, false, false, false, false, false, false, false, false, false] rfl rfl (any_of HT_.out (by kernel_rfl)) (fun _ _ _ h => h) (Or.inl ⟨by rfl, ?_⟩) ?_ ?_
  rotate_left
  · intro w'
    go_simp
    with_reducible rfl
  rotate_left
  · simp only [Act.put, List.setIfInBounds_toArray, List.set_cons_zero, List.set_cons_succ, i64_w, i32_w]
    rfl
  refine pure_ (i := 4) (N := some 16) (v := ?_) (a' := ?_) #[true, true, true, false, true, false, false, false, false, false, false, false, false, false, false, false, false, false, false, false, false, false, false, false, false, false, false, false] rfl rfl (any_of HT_.out (by kernel_rfl)) (fun _ _ _ h => h) (Or.inl ⟨by rfl, ?_⟩) ?_ ?_
  rotate_left
  · intro w'
    go_simp
    with_reducible rfl
  rotate_left
  · simp only [Act.put, List.setIfInBounds_toArray, List.set_cons_zero, List.set_cons_succ, i64_w, i32_w]
    rfl
  refine pure_ (i := 6) (N := some 18) (v := ?_) (a' := ?_) #[true, true, true, false, true, false, true, false, false, false, false, false, false, false, false, false, false, false, false, false, false, false, false, false, false, false, false, false] rfl rfl (any_of HT_.out (by kernel_rfl)) (fun _ _ _ h => h) (Or.inl ⟨by rfl, ?_⟩) ?_ ?_
  rotate_left
  · intro w'
    go_simp
    with_reducible rfl
  rotate_left
  · simp only [Act.put, List.setIfInBounds_toArray, List.set_cons_zero, List.set_cons_succ, i64_w, i32_w]
    rfl
  refine pure_ (i := 7) (N := some 19) (v := ?_) (a' := ?_) #[true, true, true, false, true, false, true, true, false, false, false, false, false, false, false, false, false, false, false, false, false, false, false, false, false, false, false, false] rfl rfl (any_of HT_.out (by kernel_rfl)) (fun _ _ _ h => h) (Or.inl ⟨by rfl, ?_⟩) ?_ ?_
  rotate_left
  · intro w'
    go_simp
    with_reducible rfl
  rotate_left
  · simp only [Act.put, List.setIfInBounds_toArray, List.set_cons_zero, List.set_cons_succ, i64_w, i32_w]
    rfl
  refine pure_ (i := 8) (N := some 20) (v := ?_) (a' := ?_) #[true, true, true, false, true, false, true, true, true, false, false, false, false, false, false, false, false, false, false, false, false, false, false, false, false, false, false, false] rfl rfl (any_of HT_.out (by kernel_rfl)) (fun _ _ _ h => h) (Or.inl ⟨by rfl, ?_⟩) ?_ ?_
  rotate_left
  · intro w'
    go_simp
    with_reducible rfl
  rotate_left
  · simp only [Act.put, List.setIfInBounds_toArray, List.set_cons_zero, List.set_cons_succ, i64_w, i32_w]
    rfl
  refine pure_ (i := 10) (N := some 22) (v := ?_) (a' := ?_) #[true, true, true, false, true, false, true, true, true, false, true, false, false, false, false, false, false, false, false, false, false, false, false, false, false, false, false, false] rfl rfl (any_of HT_.out (by kernel_rfl)) (fun _ _ _ h => h) (Or.inl ⟨by rfl, ?_⟩) ?_ ?_
  rotate_left
  · intro w'
    go_simp
    with_reducible rfl
  rotate_left
  · simp only [Act.put, List.setIfInBounds_toArray, List.set_cons_zero, List.set_cons_succ, i64_w, i32_w]
    rfl
  refine pure_ (i := 14) (N := some 26) (v := ?_) (a' := ?_) #[true, true, true, false, true, false, true, true, true, false, true, false, false, false, true, false, false, false, false, false, false, false, false, false, false, false, false, false] rfl rfl (any_of HT_.out (by kernel_rfl)) (fun _ _ _ h => h) (Or.inl ⟨by rfl, ?_⟩) ?_ ?_
  rotate_left
  · intro w'
    go_simp
    with_reducible rfl
  rotate_left
  · simp only [Act.put, List.setIfInBounds_toArray, List.set_cons_zero, List.set_cons_succ, i64_w, i32_w]
    rfl
  refine pure_ (i := 15) (N := some 27) (v := ?_) (a' := ?_) #[true, true, true, false, true, false, true, true, true, false, true, false, false, false, true, true, false, false, false, false, false, false, false, false, false, false, false, false] rfl rfl (any_of HT_.out (by kernel_rfl)) (fun _ _ _ h => h) (Or.inl ⟨by rfl, ?_⟩) ?_ ?_
  rotate_left
  · intro w'
    go_simp
    with_reducible rfl
  rotate_left
  · simp only [Act.put, List.setIfInBounds_toArray, List.set_cons_zero, List.set_cons_succ, i64_w, i32_w]
    rfl
  refine pure_ (i := 16) (N := some 28) (v := ?_) (a' := ?_) #[true, true, true, false, true, false, true, true, true, false, true, false, false, false, true, true, true, false, false, false, false, false, false, false, false, false, false, false] rfl rfl (any_of HT_.out (by kernel_rfl)) (fun _ _ _ h => h) (Or.inl ⟨by rfl, ?_⟩) ?_ ?_
  rotate_left
  · intro w'
    go_simp
    with_reducible rfl
  rotate_left
  · simp only [Act.put, List.setIfInBounds_toArray, List.set_cons_zero, List.set_cons_succ, i64_w, i32_w]
    rfl
  refine pure_ (i := 18) (N := some 30) (v := ?_) (a' := ?_) #[true, true, true, false, true, false, true, true, true, false, true, false, false, false, true, true, true, false, true, false, false, false, false, false, false, false, false, false] rfl rfl (any_of HT_.out (by kernel_rfl)) (fun _ _ _ h => h) (Or.inl ⟨by rfl, ?_⟩) ?_ ?_
  rotate_left
  · intro w'
    go_simp
    with_reducible rfl
  rotate_left
  · simp only [Act.put, List.setIfInBounds_toArray, List.set_cons_zero, List.set_cons_succ, i64_w, i32_w]
    rfl
  refine pure_ (i := 21) (N := some 33) (v := ?_) (a' := ?_) #[true, true, true, false, true, false, true, true, true, false, true, false, false, false, true, true, true, false, true, false, false, true, false, false, false, false, false, false] rfl rfl (any_of HT_.out (by kernel_rfl)) (fun _ _ _ h => h) (Or.inl ⟨by rfl, ?_⟩) ?_ ?_
  rotate_left
  · intro w'
    go_simp
    with_reducible rfl
  rotate_left
  · simp only [Act.put, List.setIfInBounds_toArray, List.set_cons_zero, List.set_cons_succ, i64_w, i32_w]
    rfl
  refine take_ (i := 3) (N := some 15) (v := ?_) (a' := ?_) #[true, true, true, true, true, false, true, true, true, false, true, false, false, false, true, true, true, false, true, false, false, true, false, false, false, false, false, false] rfl rfl (take_ofW HT_.out HW_.out (by kernel_rfl)) (fun _ _ _ h => h) (Or.inl ⟨by rfl, ?_⟩) hHeld ?_ ?_
  rotate_left
  · rintro w' ⟨s0, s1, s2, s3⟩
    go_simp
    with_reducible rfl
  rotate_left
  · simp only [Act.put, List.setIfInBounds_toArray, List.set_cons_zero, List.set_cons_succ, i64_w, i32_w]
    rfl
  refine take_ (i := 9) (N := some 21) (v := ?_) (a' := ?_) #[true, true, true, true, true, false, true, true, true, true, true, false, false, false, true, true, true, false, true, false, false, true, false, false, false, false, false, false] rfl rfl (take_ofW HT_.out HW_.out (by kernel_rfl)) (fun _ _ _ h => h) (Or.inl ⟨by rfl, ?_⟩) hHeld ?_ ?_
  rotate_left
  · rintro w' ⟨s0, s1, s2, s3⟩
    go_simp
    with_reducible rfl
  rotate_left
  · simp only [Act.put, List.setIfInBounds_toArray, List.set_cons_zero, List.set_cons_succ, i64_w, i32_w]
    rfl
  refine pure_ (i := 11) (N := some 23) (v := ?_) (a' := ?_) #[true, true, true, true, true, false, true, true, true, true, true, true, false, false, true, true, true, false, true, false, false, true, false, false, false, false, false, false] rfl rfl (any_of HT_.out (by kernel_rfl)) (fun _ _ _ h => h) (Or.inl ⟨by rfl, ?_⟩) ?_ ?_
  rotate_left
  · intro w'
    go_simp
    with_reducible rfl
  rotate_left
  · simp only [Act.put, List.setIfInBounds_toArray, List.set_cons_zero, List.set_cons_succ, i64_w, i32_w]
    rfl
  refine take_ (i := 12) (N := some 24) (v := ?_) (a' := ?_) #[true, true, true, true, true, false, true, true, true, true, true, true, true, false, true, true, true, false, true, false, false, true, false, false, false, false, false, false] rfl rfl (take_ofW HT_.out HW_.out (by kernel_rfl)) (fun _ _ _ h => h) (Or.inl ⟨by rfl, ?_⟩) hHeld ?_ ?_
  rotate_left
  · rintro w' ⟨s0, s1, s2, s3⟩
    go_simp
    with_reducible rfl
  rotate_left
  · simp only [Act.put, List.setIfInBounds_toArray, List.set_cons_zero, List.set_cons_succ, i64_w, i32_w]
    rfl
  refine take_ (i := 17) (N := some 29) (v := ?_) (a' := ?_) #[true, true, true, true, true, false, true, true, true, true, true, true, true, false, true, true, true, true, true, false, false, true, false, false, false, false, false, false] rfl rfl (take_ofW HT_.out HW_.out (by kernel_rfl)) (fun _ _ _ h => h) (Or.inl ⟨by rfl, ?_⟩) hHeld ?_ ?_
  rotate_left
  · rintro w' ⟨s0, s1, s2, s3⟩
    go_simp
    with_reducible rfl
  rotate_left
  · simp only [Act.put, List.setIfInBounds_toArray, List.set_cons_zero, List.set_cons_succ, i64_w, i32_w]
    rfl
  refine pure_ (i := 19) (N := some 31) (v := ?_) (a' := ?_) #[true, true, true, true, true, false, true, true, true, true, true, true, true, false, true, true, true, true, true, true, false, true, false, false, false, false, false, false] rfl rfl (any_of HT_.out (by kernel_rfl)) (fun _ _ _ h => h) (Or.inl ⟨by rfl, ?_⟩) ?_ ?_
  rotate_left
  · intro w'
    go_simp
    with_reducible rfl
  rotate_left
  · simp only [Act.put, List.setIfInBounds_toArray, List.set_cons_zero, List.set_cons_succ, i64_w, i32_w]
    rfl
  refine take_ (i := 20) (N := some 32) (v := ?_) (a' := ?_) #[true, true, true, true, true, false, true, true, true, true, true, true, true, false, true, true, true, true, true, true, true, true, false, false, false, false, false, false] rfl rfl (take_ofW HT_.out HW_.out (by kernel_rfl)) (fun _ _ _ h => h) (Or.inl ⟨by rfl, ?_⟩) hHeld ?_ ?_
  rotate_left
  · rintro w' ⟨s0, s1, s2, s3⟩
    go_simp
    with_reducible rfl
  rotate_left
  · simp only [Act.put, List.setIfInBounds_toArray, List.set_cons_zero, List.set_cons_succ, i64_w, i32_w]
    rfl
  refine pure_ (i := 22) (N := some 34) (v := ?_) (a' := ?_) #[true, true, true, true, true, false, true, true, true, true, true, true, true, false, true, true, true, true, true, true, true, true, true, false, false, false, false, false] rfl rfl (any_of HT_.out (by kernel_rfl)) (fun _ _ _ h => h) (Or.inl ⟨by rfl, ?_⟩) ?_ ?_
  rotate_left
  · intro w'
    go_simp
    with_reducible rfl
  rotate_left
  · simp only [Act.put, List.setIfInBounds_toArray, List.set_cons_zero, List.set_cons_succ, i64_w, i32_w]
    rfl
  refine take_ (i := 23) (N := some 35) (v := ?_) (a' := ?_) #[true, true, true, true, true, false, true, true, true, true, true, true, true, false, true, true, true, true, true, true, true, true, true, true, false, false, false, false] rfl rfl (take_ofW HT_.out HW_.out (by kernel_rfl)) (fun _ _ _ h => h) (Or.inl ⟨by rfl, ?_⟩) hHeld ?_ ?_
  rotate_left
  · rintro w' ⟨s0, s1, s2, s3⟩
    go_simp
    with_reducible rfl
  rotate_left
  · simp only [Act.put, List.setIfInBounds_toArray, List.set_cons_zero, List.set_cons_succ, i64_w, i32_w]
    rfl
  refine join_ (σ := Nat × Value × Nat) 3 #[true, true, true, true, true, true, true, true, true, true, true, true, true, true, true, true, true, true, true, true, true, true, true, true, true, false, false, false] (fun s => [(17, .slice (some ⟨s.1, 0, none⟩) 0 0), (25, s.2.1), (36, .slice (some ⟨s.2.2, 0, none⟩) 1 1)]) (fun s w' => (Row w' 2 (fun k => w.heap.size ≤ k) s.2.1 n (flat ps) ∧ w'.heap[s.2.2]? = some (.cells #[.slice Ab la cb, .bool pt] 69 (0, 0)) ∧ Below w.heap.size w w') ∧ w'.cell? ⟨g, 0, none⟩ = some (.slice (some ⟨gq, 0, none⟩) qs.length qs.length) ∧ w'.cell? ⟨gq, m, none⟩ = some (.slice (some ⟨b, off, none⟩) n cap) ∧ w'.cell? ⟨b, off + j * 2, none⟩ = some (.slice Ab la cb) ∧ w'.cell? ⟨b, off + j * 2 + 1, none⟩ = some (.bool pt)) ?_ ?_
  rotate_left
  · intro hCont
    refine two_ (i := 5) (j := 24) (Ni := some 17) (Nj := some 36) #[true, true, true, true, true, true, true, true, true, true, true, true, true, false, true, true, true, true, true, true, true, true, true, true, false, false, false, false] #[true, true, true, true, true, false, true, true, true, true, true, true, true, false, true, true, true, true, true, true, true, true, true, true, true, false, false, false] rfl rfl rfl rfl (two_of HT_.out (by kernel_rfl)) (by decide) (by decide) (fun K hK => ?_) (fun K hK => ?_)
    · skip
      refine value_ (w1 := ?_) (v := ?_) (by rfl) rfl ?_ ?_
      rotate_left 2
      · go_simp
        constructor
        · rfl
        · rfl
      refine hK.out _ _ ⟨(pw_cell_below (by repeat (first | exact Below.refl _ _ | exact hb25 | apply below_alloc | apply pw_below_drewN | apply below_drew1)) c0), (pw_cell_below (by repeat (first | exact Below.refl _ _ | exact hb25 | apply below_alloc | apply pw_below_drewN | apply below_drew1)) c1), (pw_cell_below (by repeat (first | exact Below.refl _ _ | exact hb25 | apply below_alloc | apply pw_below_drewN | apply below_drew1)) c2), (pw_cell_below (by repeat (first | exact Below.refl _ _ | exact hb25 | apply below_alloc | apply pw_below_drewN | apply below_drew1)) c3)⟩ (fun hHeld => ?_)
      clear hK K
      refine norm_ (a' := ?_) ?_ ?_
      rotate_left
      · show Act.put _ (some 17) _ = _
        simp only [Act.put, List.setIfInBounds_toArray, List.set_cons_zero, List.set_cons_succ, i64_w, i32_w]
        rfl
      refine two_ (i := 13) (j := 24) (Ni := some 25) (Nj := some 36) #[true, true, true, true, true, true, true, true, true, true, true, true, true, true, true, true, true, true, true, true, true, true, true, true, false, false, false, false] #[true, true, true, true, true, true, true, true, true, true, true, true, true, false, true, true, true, true, true, true, true, true, true, true, true, false, false, false] rfl rfl rfl rfl (two_of HT_.out (by kernel_rfl)) (by decide) (by decide) (fun K hK => ?_) (fun K hK => ?_)
      · skip
        refine row_step (by rfl) (.tmp 17) (.tmp 24) 43 43 69 (.agg #[.slice none 0 0, .bool false]) 2 32 rfl Try.underlying43 infoIm rfl (by decide) (by decide) _ (.slice (some ⟨b, off, none⟩) n cap) 0 n [] (flat ps) (fun _ => False) rfl rfl (Row.nil _ _ _ _) ?_ ?_ ?_
        · exact Row.src (Hr.out.below (by decide) (by repeat (first | exact Below.refl _ _ | exact hb25 | apply below_alloc | apply pw_below_drewN | apply below_drew1))) Try.underlying43 (Good.one HGG.out)
        · omega
        intro v25 w25 hr25 hl25
        obtain ⟨hr25, hb25⟩ := row_first (w := w) (by repeat (first | exact Below.refl _ _ | exact hb25 | apply below_alloc | apply pw_below_drewN | apply below_drew1)) hr25 hl25
        refine hK.out _ _ ⟨(pw_cell_below hb25 c0), (pw_cell_below hb25 c1), (pw_cell_below hb25 c2), (pw_cell_below hb25 c3)⟩ (fun hHeld => ?_)
        clear hK K
        refine norm_ (a' := ?_) ?_ ?_
        rotate_left
        · show Act.put _ (some 25) _ = _
          simp only [Act.put, List.setIfInBounds_toArray, List.set_cons_zero, List.set_cons_succ, i64_w, i32_w]
          rfl
        refine one_ (i := 24) (N := some 36) #[true, true, true, true, true, true, true, true, true, true, true, true, true, true, true, true, true, true, true, true, true, true, true, true, true, false, false, false] rfl rfl (one_of HT_.out (by kernel_rfl)) (by decide) (fun K hK => ?_)
        refine value_ (w1 := ?_) (v := ?_) (by rfl) rfl ?_ ?_
        rotate_left 2
        · go_simp
          constructor
          · rfl
          · rfl
        refine hK.out _ _ ⟨(pw_cell_below (by repeat (first | exact Below.refl _ _ | exact hb25 | apply below_alloc | apply pw_below_drewN | apply below_drew1)) c0), (pw_cell_below (by repeat (first | exact Below.refl _ _ | exact hb25 | apply below_alloc | apply pw_below_drewN | apply below_drew1)) c1), (pw_cell_below (by repeat (first | exact Below.refl _ _ | exact hb25 | apply below_alloc | apply pw_below_drewN | apply below_drew1)) c2), (pw_cell_below (by repeat (first | exact Below.refl _ _ | exact hb25 | apply below_alloc | apply pw_below_drewN | apply below_drew1)) c3)⟩ (fun hHeld => ?_)
        clear hK K
        refine norm_ (a' := ?_) ?_ ?_
        rotate_left
        · show Act.put _ (some 36) _ = _
          simp only [Act.put, List.setIfInBounds_toArray, List.set_cons_zero, List.set_cons_succ, i64_w, i32_w]
          rfl
        exact norm_ (by simp only [putAll, Act.put, List.setIfInBounds_toArray, List.set_cons_zero, List.set_cons_succ]) (hCont (w.heap.size, v25, w25.heap.size) _ ⟨⟨hr25.below (by decide) (below_alloc (Below.refl _ _) _), blk_new w25 _, below_alloc hb25 _⟩, pw_cell_below (by repeat (first | exact Below.refl _ _ | exact hb25 | apply below_alloc | apply pw_below_drewN | apply below_drew1)) c0, pw_cell_below (by repeat (first | exact Below.refl _ _ | exact hb25 | apply below_alloc | apply pw_below_drewN | apply below_drew1)) c1, pw_cell_below (by repeat (first | exact Below.refl _ _ | exact hb25 | apply below_alloc | apply pw_below_drewN | apply below_drew1)) c2, pw_cell_below (by repeat (first | exact Below.refl _ _ | exact hb25 | apply below_alloc | apply pw_below_drewN | apply below_drew1)) c3⟩)
      · skip
        refine value_ (w1 := ?_) (v := ?_) (by rfl) rfl ?_ ?_
        rotate_left 2
        · go_simp
          constructor
          · rfl
          · rfl
        refine hK.out _ _ ⟨(pw_cell_below (by repeat (first | exact Below.refl _ _ | exact hb25 | apply below_alloc | apply pw_below_drewN | apply below_drew1)) c0), (pw_cell_below (by repeat (first | exact Below.refl _ _ | exact hb25 | apply below_alloc | apply pw_below_drewN | apply below_drew1)) c1), (pw_cell_below (by repeat (first | exact Below.refl _ _ | exact hb25 | apply below_alloc | apply pw_below_drewN | apply below_drew1)) c2), (pw_cell_below (by repeat (first | exact Below.refl _ _ | exact hb25 | apply below_alloc | apply pw_below_drewN | apply below_drew1)) c3)⟩ (fun hHeld => ?_)
        clear hK K
        refine norm_ (a' := ?_) ?_ ?_
        rotate_left
        · show Act.put _ (some 36) _ = _
          simp only [Act.put, List.setIfInBounds_toArray, List.set_cons_zero, List.set_cons_succ, i64_w, i32_w]
          rfl
        refine one_ (i := 13) (N := some 25) #[true, true, true, true, true, true, true, true, true, true, true, true, true, true, true, true, true, true, true, true, true, true, true, true, true, false, false, false] rfl rfl (one_of HT_.out (by kernel_rfl)) (by decide) (fun K hK => ?_)
        refine row_step (by rfl) (.tmp 17) (.tmp 24) 43 43 69 (.agg #[.slice none 0 0, .bool false]) 2 32 rfl Try.underlying43 infoIm rfl (by decide) (by decide) _ (.slice (some ⟨b, off, none⟩) n cap) 0 n [] (flat ps) (fun _ => False) rfl rfl (Row.nil _ _ _ _) ?_ ?_ ?_
        · exact Row.src (Hr.out.below (by decide) (by repeat (first | exact Below.refl _ _ | exact hb25 | apply below_alloc | apply pw_below_drewN | apply below_drew1))) Try.underlying43 (Good.one HGG.out)
        · omega
        intro v25 w25 hr25 hl25
        have hx25 := blk_below (blk_new _ _) hl25.new
        obtain ⟨hr25, hb25⟩ := row_first (w := w) (by repeat (first | exact Below.refl _ _ | exact hb25 | apply below_alloc | apply pw_below_drewN | apply below_drew1)) hr25 hl25
        refine hK.out _ _ ⟨(pw_cell_below hb25 c0), (pw_cell_below hb25 c1), (pw_cell_below hb25 c2), (pw_cell_below hb25 c3)⟩ (fun hHeld => ?_)
        clear hK K
        refine norm_ (a' := ?_) ?_ ?_
        rotate_left
        · show Act.put _ (some 25) _ = _
          simp only [Act.put, List.setIfInBounds_toArray, List.set_cons_zero, List.set_cons_succ, i64_w, i32_w]
          rfl
        exact norm_ (by simp only [putAll, Act.put, List.setIfInBounds_toArray, List.set_cons_zero, List.set_cons_succ]) (hCont (w.heap.size, v25, (w.heap.size + 1)) _ ⟨⟨hr25, by simpa using hx25, hb25⟩, pw_cell_below (by repeat (first | exact Below.refl _ _ | exact hb25 | apply below_alloc | apply pw_below_drewN | apply below_drew1)) c0, pw_cell_below (by repeat (first | exact Below.refl _ _ | exact hb25 | apply below_alloc | apply pw_below_drewN | apply below_drew1)) c1, pw_cell_below (by repeat (first | exact Below.refl _ _ | exact hb25 | apply below_alloc | apply pw_below_drewN | apply below_drew1)) c2, pw_cell_below (by repeat (first | exact Below.refl _ _ | exact hb25 | apply below_alloc | apply pw_below_drewN | apply below_drew1)) c3⟩)
    · skip
      refine value_ (w1 := ?_) (v := ?_) (by rfl) rfl ?_ ?_
      rotate_left 2
      · go_simp
        constructor
        · rfl
        · rfl
      refine hK.out _ _ ⟨(pw_cell_below (by repeat (first | exact Below.refl _ _ | exact hb25 | apply below_alloc | apply pw_below_drewN | apply below_drew1)) c0), (pw_cell_below (by repeat (first | exact Below.refl _ _ | exact hb25 | apply below_alloc | apply pw_below_drewN | apply below_drew1)) c1), (pw_cell_below (by repeat (first | exact Below.refl _ _ | exact hb25 | apply below_alloc | apply pw_below_drewN | apply below_drew1)) c2), (pw_cell_below (by repeat (first | exact Below.refl _ _ | exact hb25 | apply below_alloc | apply pw_below_drewN | apply below_drew1)) c3)⟩ (fun hHeld => ?_)
      clear hK K
      refine norm_ (a' := ?_) ?_ ?_
      rotate_left
      · show Act.put _ (some 36) _ = _
        simp only [Act.put, List.setIfInBounds_toArray, List.set_cons_zero, List.set_cons_succ, i64_w, i32_w]
        rfl
      refine one_ (i := 5) (N := some 17) #[true, true, true, true, true, true, true, true, true, true, true, true, true, false, true, true, true, true, true, true, true, true, true, true, true, false, false, false] rfl rfl (one_of HT_.out (by kernel_rfl)) (by decide) (fun K hK => ?_)
      refine value_ (w1 := ?_) (v := ?_) (by rfl) rfl ?_ ?_
      rotate_left 2
      · go_simp
        constructor
        · rfl
        · rfl
      refine hK.out _ _ ⟨(pw_cell_below (by repeat (first | exact Below.refl _ _ | exact hb25 | apply below_alloc | apply pw_below_drewN | apply below_drew1)) c0), (pw_cell_below (by repeat (first | exact Below.refl _ _ | exact hb25 | apply below_alloc | apply pw_below_drewN | apply below_drew1)) c1), (pw_cell_below (by repeat (first | exact Below.refl _ _ | exact hb25 | apply below_alloc | apply pw_below_drewN | apply below_drew1)) c2), (pw_cell_below (by repeat (first | exact Below.refl _ _ | exact hb25 | apply below_alloc | apply pw_below_drewN | apply below_drew1)) c3)⟩ (fun hHeld => ?_)
      clear hK K
      refine norm_ (a' := ?_) ?_ ?_
      rotate_left
      · show Act.put _ (some 17) _ = _
        simp only [Act.put, List.setIfInBounds_toArray, List.set_cons_zero, List.set_cons_succ, i64_w, i32_w]
        rfl
      refine one_ (i := 13) (N := some 25) #[true, true, true, true, true, true, true, true, true, true, true, true, true, true, true, true, true, true, true, true, true, true, true, true, true, false, false, false] rfl rfl (one_of HT_.out (by kernel_rfl)) (by decide) (fun K hK => ?_)
      refine row_step (by rfl) (.tmp 17) (.tmp 24) 43 43 69 (.agg #[.slice none 0 0, .bool false]) 2 32 rfl Try.underlying43 infoIm rfl (by decide) (by decide) _ (.slice (some ⟨b, off, none⟩) n cap) 0 n [] (flat ps) (fun _ => False) rfl rfl (Row.nil _ _ _ _) ?_ ?_ ?_
      · exact Row.src (Hr.out.below (by decide) (by repeat (first | exact Below.refl _ _ | exact hb25 | apply below_alloc | apply pw_below_drewN | apply below_drew1))) Try.underlying43 (Good.one HGG.out)
      · omega
      intro v25 w25 hr25 hl25
      have hx25 := blk_below (blk_alloc (blk_new _ _) _) hl25.new
      obtain ⟨hr25, hb25⟩ := row_first (w := w) (by repeat (first | exact Below.refl _ _ | exact hb25 | apply below_alloc | apply pw_below_drewN | apply below_drew1)) hr25 hl25
      refine hK.out _ _ ⟨(pw_cell_below hb25 c0), (pw_cell_below hb25 c1), (pw_cell_below hb25 c2), (pw_cell_below hb25 c3)⟩ (fun hHeld => ?_)
      clear hK K
      refine norm_ (a' := ?_) ?_ ?_
      rotate_left
      · show Act.put _ (some 25) _ = _
        simp only [Act.put, List.setIfInBounds_toArray, List.set_cons_zero, List.set_cons_succ, i64_w, i32_w]
        rfl
      exact norm_ (by simp only [putAll, Act.put, List.setIfInBounds_toArray, List.set_cons_zero, List.set_cons_succ]) (hCont ((w.heap.size + 1), v25, w.heap.size) _ ⟨⟨hr25, hx25, hb25⟩, pw_cell_below (by repeat (first | exact Below.refl _ _ | exact hb25 | apply below_alloc | apply pw_below_drewN | apply below_drew1)) c0, pw_cell_below (by repeat (first | exact Below.refl _ _ | exact hb25 | apply below_alloc | apply pw_below_drewN | apply below_drew1)) c1, pw_cell_below (by repeat (first | exact Below.refl _ _ | exact hb25 | apply below_alloc | apply pw_below_drewN | apply below_drew1)) c2, pw_cell_below (by repeat (first | exact Below.refl _ _ | exact hb25 | apply below_alloc | apply pw_below_drewN | apply below_drew1)) c3⟩)
  rintro ⟨a17, v25, b36⟩ w36 ⟨⟨hr25, hx36, hb36⟩, s0, s1, s2, s3⟩
  change Row w36 2 _ v25 n (flat ps) at hr25
  change w36.heap[b36]? = _ at hx36
  have hHeld := And.intro s0 (And.intro s1 (And.intro s2 s3))
  refine norm_ (a' := ?_) ?_ ?_
  rotate_left
  · simp only [putAll, Act.put, List.setIfInBounds_toArray, List.set_cons_zero, List.set_cons_succ]
    rfl
  refine one_ (i := 25) (N := some 37) #[true, true, true, true, true, true, true, true, true, true, true, true, true, true, true, true, true, true, true, true, true, true, true, true, true, true, false, false] rfl rfl (one_of HT_.out (by kernel_rfl)) (by decide) (fun K hK => ?_)
  refine row_step (by rfl) (.tmp 25) (.tmp 36) 43 43 69 (.agg #[.slice none 0 0, .bool false]) 2 32 rfl Try.underlying43 infoIm rfl (by decide) (by decide) v25 (.slice (some ⟨b36, 0, none⟩) 1 1) n 1 (flat ps) [.slice Ab la cb, .bool pt] (fun k => w.heap.size ≤ k) rfl rfl hr25 ?_ ?_ ?_
  · exact src_item Try.underlying43 hx36 rfl rfl
  · omega
  intro v37 w37 hr37 hl37
  obtain ⟨hr37, hb37⟩ := row_more hb36 hr37 hl37
  obtain ⟨A37, c37, rfl, _⟩ := hr37.shape
  have f37 := blk_frozen (blk_below H3.out hb37) m
  refine hK.out _ _ ⟨(pw_cell_below hb37 c0), (pw_cell_below hb37 c1), (pw_cell_below hb37 c2), (pw_cell_below hb37 c3)⟩ (fun hHeld => ?_)
  clear hK K
  refine norm_ (a' := ?_) ?_ ?_
  rotate_left
  · show Act.put _ (some 37) _ = _
    simp only [Act.put, List.setIfInBounds_toArray, List.set_cons_zero, List.set_cons_succ, i64_w, i32_w]
    rfl
  refine pure_ (i := 26) (N := some 38) (v := ?_) (a' := ?_) #[true, true, true, true, true, true, true, true, true, true, true, true, true, true, true, true, true, true, true, true, true, true, true, true, true, true, true, false] rfl rfl (any_of HT_.out (by kernel_rfl)) (fun _ _ _ h => h) (Or.inl ⟨by rfl, ?_⟩) ?_ ?_
  rotate_left
  · intro w'
    go_simp
    with_reducible rfl
  rotate_left
  · simp only [Act.put, List.setIfInBounds_toArray, List.set_cons_zero, List.set_cons_succ, i64_w, i32_w]
    rfl
  refine last_ (i := 27) (N := none) #[true, true, true, true, true, true, true, true, true, true, true, true, true, true, true, true, true, true, true, true, true, true, true, true, true, true, true, true] rfl rfl (one_of HT_.out (by kernel_rfl)) (by decide) (fun K hK => ?_)
  have e37 := pw_cell_below hb37 c1
  refine skip_ (w1 := ?_) (by rfl) rfl ?_ ?_
  rotate_left
  · go_simp
    rfl
  refine hK.out _ _ ?_
  clear hK K
  refine done_ (done_of HT_.out (by kernel_rfl)) ?_
  go_wp2
  go_ret
  refine ⟨rfl, ?_⟩
  have hlen : (ps ++ [p]).length = n + 1 := by
    have := HN.out
    simp
    omega
  have hr' : Row w37 2 (fun k => w.heap.size ≤ k) (.slice A37 (n + 1) c37) (ps ++ [p]).length (flat (ps ++ [p])) := by
    rw [hlen, HFL.out]
    exact hr37
  have key := mid_row HR.out HLA.out HC.out HM.out H3.out HB.out hb37 _ hr' (fun _ h => h) (fun q hq => (HGG.out q (by
    rcases List.mem_append.1 hq with hq | hq
    · exact hq
    · simp at hq
      rw [hq]
      exact HP.out)).below hb37)
  rw [List.map_append, HE.out, List.map_cons, List.map_nil, HX.out] at key
  exact key
end Go.Proofs.Yteeddalalfemmaa.K

namespace Go.Proofs.Yteeddalalfemmaa.K
open Go.RowKit Go.Proofs.YteeddalalfemmaaW.PrintWords Go.Proofs.YteeddalalfemmaaW.PrintLast Go.Proofs.YteeddalalfemmaaW.PrintMore
set_option linter.unusedVariables false
set_option linter.unusedSimpArgs false

set_option maxRecDepth 100000 in
set_option maxHeartbeats 2000000 in
theorem mdrop_no (g gq : Nat) (i j : Int) (col : Nat → Nat) (vw : List It) (qs : List (List It)) (b0 : Nat) (w : World) (hR : Mel w b0 g gq col vw qs) (hn : ¬ hasQ qs i j) :
    Calls Try.prog 18 #[.pointer (some ⟨g, 0, none⟩), .int .i64 i, .int .i64 j] w fun e w' => e = .returned (.bool false) ∧ Below w.heap.size w w' := by
  have HR := Aside0.mk hR
  have HD : Aside0 (decide (hasQ qs i j) = false) := ⟨decide_eq_false hn⟩
  clear hR hn
  go_enter Try.func18, Try.ntmps18
  go_wp2_with (first
    | ((with_reducible refine gate_dst (N := 10) rfl ?_); go_must (((try (refine gate_guard (by rfl) ?_; dsimp only)); refine goesL_ (some 10) rfl rfl Try.func36 (by kernel_rfl) rfl #[.pointer (some ⟨g, 0, none⟩), .int .i64 i, .int .i64 j] rfl ?hA ?_; (case hA => ((try simp only [List.map_toArray, List.map_cons, List.map_nil]); first | done | rfl)); refine (mhas_calls g gq i j col vw qs _ _ HR.out).mono ?_; rintro e w9 ⟨rfl, ⟨m9, rfl⟩⟩; refine ⟨_, rfl, ?_⟩; rw [HD.out]))))
  go_ret
  exact ⟨rfl, pw_below_drewN (Below.refl _ _) _⟩

set_option maxRecDepth 100000 in
set_option maxHeartbeats 2000000 in
theorem magain_no (g gq : Nat) (i j : Int) (col : Nat → Nat) (vw : List It) (qs : List (List It)) (b0 : Nat) (w : World) (hR : Mel w b0 g gq col vw qs) (hn : ¬ hasQ qs i j) :
    Calls Try.prog 20 #[.pointer (some ⟨g, 0, none⟩), .int .i64 i, .int .i64 j] w fun e w' => e = .returned (.bool false) ∧ Below w.heap.size w w' := by
  have HR := Aside0.mk hR
  have HD : Aside0 (decide (hasQ qs i j) = false) := ⟨decide_eq_false hn⟩
  clear hR hn
  go_enter Try.func20, Try.ntmps20
  go_wp2_with (first
    | ((with_reducible refine gate_dst (N := 10) rfl ?_); go_must (((try (refine gate_guard (by rfl) ?_; dsimp only)); refine goesL_ (some 10) rfl rfl Try.func36 (by kernel_rfl) rfl #[.pointer (some ⟨g, 0, none⟩), .int .i64 i, .int .i64 j] rfl ?hA ?_; (case hA => ((try simp only [List.map_toArray, List.map_cons, List.map_nil]); first | done | rfl)); refine (mhas_calls g gq i j col vw qs _ _ HR.out).mono ?_; rintro e w9 ⟨rfl, ⟨m9, rfl⟩⟩; refine ⟨_, rfl, ?_⟩; rw [HD.out]))))
  go_ret
  exact ⟨rfl, pw_below_drewN (Below.refl _ _) _⟩

set_option maxRecDepth 100000 in
set_option maxHeartbeats 2000000 in
theorem mswap_no (g gq : Nat) (i j k : Int) (col : Nat → Nat) (vw : List It) (qs : List (List It)) (b0 : Nat) (w : World) (hR : Mel w b0 g gq col vw qs) (hn : ¬ hasQ qs i j ∨ ¬ hasQ qs i k) :
    Calls Try.prog 22 #[.pointer (some ⟨g, 0, none⟩), .int .i64 i, .int .i64 j, .int .i64 k] w fun e w' => e = .returned (.bool false) ∧ Below w.heap.size w w' := by
  have HR := Aside0.mk hR
  by_cases h1 : hasQ qs i j
  · have h2 : ¬ hasQ qs i k := by
      rcases hn with h | h
      · exact absurd h1 h
      · exact h
    have HD : Aside0 (decide (hasQ qs i j) = true) := ⟨decide_eq_true h1⟩
    have HD2 : Aside0 (decide (hasQ qs i k) = false) := ⟨decide_eq_false h2⟩
    clear hR hn h1 h2
    go_enter Try.func22, Try.ntmps22
    go_wp2_with (first
      | ((with_reducible refine gate_dst (N := 14) rfl ?_); go_must (((try (refine gate_guard (by rfl) ?_; dsimp only)); refine goesL_ (some 14) rfl rfl Try.func36 (by kernel_rfl) rfl #[.pointer (some ⟨g, 0, none⟩), .int .i64 i, .int .i64 j] rfl ?hA ?_; (case hA => ((try simp only [List.map_toArray, List.map_cons, List.map_nil]); first | done | rfl)); refine (mhas_calls g gq i j col vw qs _ _ HR.out).mono ?_; rintro e w9 ⟨rfl, ⟨m9, rfl⟩⟩; refine ⟨_, rfl, ?_⟩; rw [HD.out])))
      | ((with_reducible refine gate_dst (N := 20) rfl ?_); go_must (((try (refine gate_guard (by rfl) ?_; dsimp only)); refine goesL_ (some 20) rfl rfl Try.func36 (by kernel_rfl) rfl #[.pointer (some ⟨g, 0, none⟩), .int .i64 i, .int .i64 k] rfl ?hA ?_; (case hA => ((try simp only [List.map_toArray, List.map_cons, List.map_nil]); first | done | rfl)); refine (mhas_calls g gq i k col vw qs _ _ (HR.out.below (pw_below_drewN (Below.refl _ _) m9))).mono ?_; rintro e w9 ⟨rfl, ⟨n9, rfl⟩⟩; refine ⟨_, rfl, ?_⟩; rw [HD2.out]))))
    go_ret
    exact ⟨rfl, by repeat (first | exact Below.refl _ _ | apply pw_below_drewN)⟩
  · have HD : Aside0 (decide (hasQ qs i j) = false) := ⟨decide_eq_false h1⟩
    clear hR hn h1
    go_enter Try.func22, Try.ntmps22
    go_wp2_with (first
      | ((with_reducible refine gate_dst (N := 14) rfl ?_); go_must (((try (refine gate_guard (by rfl) ?_; dsimp only)); refine goesL_ (some 14) rfl rfl Try.func36 (by kernel_rfl) rfl #[.pointer (some ⟨g, 0, none⟩), .int .i64 i, .int .i64 j] rfl ?hA ?_; (case hA => ((try simp only [List.map_toArray, List.map_cons, List.map_nil]); first | done | rfl)); refine (mhas_calls g gq i j col vw qs _ _ HR.out).mono ?_; rintro e w9 ⟨rfl, ⟨m9, rfl⟩⟩; refine ⟨_, rfl, ?_⟩; rw [HD.out]))))
    go_ret
    exact ⟨rfl, by repeat (first | exact Below.refl _ _ | apply pw_below_drewN)⟩

set_option maxRecDepth 100000 in
set_option maxHeartbeats 2000000 in
theorem mput_bad (g gq : Nat) (i : Int) (vb : Value) (col : Nat → Nat) (vw : List It) (qs : List (List It)) (b0 : Nat) (w : World) (hR : Mel w b0 g gq col vw qs) (hn : i < 0 ∨ (qs.length : Int) ≤ i) :
    Calls Try.prog 14 #[.pointer (some ⟨g, 0, none⟩), .int .i64 i, vb] w fun e w' => e = .returned (.int .i64 1) ∧ Below w.heap.size w w' := by
  obtain ⟨vv, pv, h1, _⟩ := hR.blk
  have H1 := Aside0.mk h1
  have HD : Aside0 (decide (0 ≤ i ∧ i < (qs.length : Int)) = false) := ⟨decide_eq_false (by omega)⟩
  clear hR hn h1
  go_enter Try.func14, Try.ntmps14
  go_wp2_with (first
    | ((with_reducible refine gate_dst (N := 11) rfl ?_); go_must (((try (refine gate_guard (by rfl) ?_; dsimp only)); refine goesL_ (some 11) rfl rfl Try.func35 (by kernel_rfl) rfl #[.pointer (some ⟨g, 0, none⟩), .int .i64 i] rfl ?hA ?_; (case hA => ((try simp only [List.map_toArray, List.map_cons, List.map_nil]); first | done | rfl)); refine (mreader_calls g gq _ i vv _ H1.out).mono ?_; rintro e w9 ⟨rfl, ⟨m9, rfl⟩⟩; refine ⟨_, rfl, ?_⟩; rw [HD.out]))))
  go_ret
  exact ⟨rfl, by repeat (first | exact Below.refl _ _ | apply pw_below_drewN)⟩

set_option maxRecDepth 100000 in
set_option maxHeartbeats 2000000 in
theorem mput_large (g gq : Nat) (i n c : Nat) (A : Option Addr) (col : Nat → Nat) (vw : List It) (qs : List (List It)) (b0 : Nat) (w : World) (hR : Mel w b0 g gq col vw qs) (hi : i < qs.length) (hl : 4000 < n) :
    Calls Try.prog 14 #[.pointer (some ⟨g, 0, none⟩), .int .i64 i, .slice A n c] w fun e w' => e = .returned (.int .i64 3) ∧ Below w.heap.size w w' := by
  obtain ⟨vv, pv, h1, _⟩ := hR.blk
  have H1 := Aside0.mk h1
  have HD : Aside0 (decide (0 ≤ (i : Int) ∧ (i : Int) < (qs.length : Int)) = true) := ⟨decide_eq_true (by omega)⟩
  have hl1 : (4000 : Int) < n := by omega
  clear hR hi h1 hl
  go_enter Try.func14, Try.ntmps14
  go_wp2_with (first
    | ((with_reducible refine gate_dst (N := 11) rfl ?_); go_must (((try (refine gate_guard (by rfl) ?_; dsimp only)); refine goesL_ (some 11) rfl rfl Try.func35 (by kernel_rfl) rfl #[.pointer (some ⟨g, 0, none⟩), .int .i64 i] rfl ?hA ?_; (case hA => ((try simp only [List.map_toArray, List.map_cons, List.map_nil]); first | done | rfl)); refine (mreader_calls g gq _ i vv _ H1.out).mono ?_; rintro e w9 ⟨rfl, ⟨m9, rfl⟩⟩; refine ⟨_, rfl, ?_⟩; rw [HD.out]))))
  go_ret
  exact ⟨rfl, by repeat (first | exact Below.refl _ _ | apply pw_below_drewN)⟩

set_option maxRecDepth 100000 in
set_option maxHeartbeats 2000000 in
theorem mforge_bad (g gq : Nat) (i : Int) (vb : Value) (col : Nat → Nat) (vw : List It) (qs : List (List It)) (b0 : Nat) (w : World) (hR : Mel w b0 g gq col vw qs) (hn : i < 0 ∨ (qs.length : Int) ≤ i) :
    Calls Try.prog 26 #[.pointer (some ⟨g, 0, none⟩), .int .i64 i, vb] w fun e w' => e = .returned (.int .i64 1) ∧ Below w.heap.size w w' := by
  obtain ⟨vv, pv, h1, _⟩ := hR.blk
  have H1 := Aside0.mk h1
  have HD : Aside0 (decide (0 ≤ i ∧ i < (qs.length : Int)) = false) := ⟨decide_eq_false (by omega)⟩
  clear hR hn h1
  go_enter Try.func26, Try.ntmps26
  go_wp2_with (first
    | ((with_reducible refine gate_dst (N := 9) rfl ?_); go_must (((try (refine gate_guard (by rfl) ?_; dsimp only)); refine goesL_ (some 9) rfl rfl Try.func35 (by kernel_rfl) rfl #[.pointer (some ⟨g, 0, none⟩), .int .i64 i] rfl ?hA ?_; (case hA => ((try simp only [List.map_toArray, List.map_cons, List.map_nil]); first | done | rfl)); refine (mreader_calls g gq _ i vv _ H1.out).mono ?_; rintro e w9 ⟨rfl, ⟨m9, rfl⟩⟩; refine ⟨_, rfl, ?_⟩; rw [HD.out]))))
  go_ret
  exact ⟨rfl, by repeat (first | exact Below.refl _ _ | apply pw_below_drewN)⟩

set_option maxRecDepth 100000 in
set_option maxHeartbeats 2000000 in
theorem mforge_large (g gq : Nat) (i n c : Nat) (A : Option Addr) (col : Nat → Nat) (vw : List It) (qs : List (List It)) (b0 : Nat) (w : World) (hR : Mel w b0 g gq col vw qs) (hi : i < qs.length) (hl : 4000 < n) :
    Calls Try.prog 26 #[.pointer (some ⟨g, 0, none⟩), .int .i64 i, .slice A n c] w fun e w' => e = .returned (.int .i64 3) ∧ Below w.heap.size w w' := by
  obtain ⟨vv, pv, h1, _⟩ := hR.blk
  have H1 := Aside0.mk h1
  have HD : Aside0 (decide (0 ≤ (i : Int) ∧ (i : Int) < (qs.length : Int)) = true) := ⟨decide_eq_true (by omega)⟩
  have hl1 : (4000 : Int) < n := by omega
  clear hR hi h1 hl
  go_enter Try.func26, Try.ntmps26
  go_wp2_with (first
    | ((with_reducible refine gate_dst (N := 9) rfl ?_); go_must (((try (refine gate_guard (by rfl) ?_; dsimp only)); refine goesL_ (some 9) rfl rfl Try.func35 (by kernel_rfl) rfl #[.pointer (some ⟨g, 0, none⟩), .int .i64 i] rfl ?hA ?_; (case hA => ((try simp only [List.map_toArray, List.map_cons, List.map_nil]); first | done | rfl)); refine (mreader_calls g gq _ i vv _ H1.out).mono ?_; rintro e w9 ⟨rfl, ⟨m9, rfl⟩⟩; refine ⟨_, rfl, ?_⟩; rw [HD.out]))))
  go_ret
  exact ⟨rfl, by repeat (first | exact Below.refl _ _ | apply pw_below_drewN)⟩

set_option maxRecDepth 100000 in
set_option maxHeartbeats 2000000 in
theorem mrewind_no (g gq : Nat) (i : Int) (col : Nat → Nat) (vw : List It) (qs : List (List It)) (b0 : Nat) (w : World) (hR : Mel w b0 g gq col vw qs) (hn : i < 0 ∨ (qs.length : Int) ≤ i) :
    Calls Try.prog 28 #[.pointer (some ⟨g, 0, none⟩), .int .i64 i] w fun e w' => e = .returned (.int .i64 0) ∧ Below w.heap.size w w' := by
  obtain ⟨vv, pv, h1, _⟩ := hR.blk
  have H1 := Aside0.mk h1
  have HD : Aside0 (decide (0 ≤ i ∧ i < (qs.length : Int)) = false) := ⟨decide_eq_false (by omega)⟩
  clear hR hn h1
  go_enter Try.func28, Try.ntmps28
  go_wp2_with (first
    | ((with_reducible refine gate_dst (N := 9) rfl ?_); go_must (((try (refine gate_guard (by rfl) ?_; dsimp only)); refine goesL_ (some 9) rfl rfl Try.func35 (by kernel_rfl) rfl #[.pointer (some ⟨g, 0, none⟩), .int .i64 i] rfl ?hA ?_; (case hA => ((try simp only [List.map_toArray, List.map_cons, List.map_nil]); first | done | rfl)); refine (mreader_calls g gq _ i vv _ H1.out).mono ?_; rintro e w9 ⟨rfl, ⟨m9, rfl⟩⟩; refine ⟨_, rfl, ?_⟩; rw [HD.out]))))
  go_ret
  exact ⟨rfl, by repeat (first | exact Below.refl _ _ | apply pw_below_drewN)⟩
end Go.Proofs.Yteeddalalfemmaa.K

namespace Go.Proofs.Yteeddalalfemmaa.K
open Go.RowKit Go.Proofs.YteeddalalfemmaaW.PrintWords Go.Proofs.YteeddalalfemmaaW.PrintLast Go.Proofs.YteeddalalfemmaaW.PrintMore
set_option linter.unusedVariables false
set_option linter.unusedSimpArgs false

theorem mel_put {w0 wr W64 w64 : World} {g gq j N : Nat} {col : Nat → Nat} {vw : List It} {qs : List (List It)} {cs : Array Value} {v : Value} {ps : List (Value × It)} {l2 : List Value} (hR : Mel wr w0.heap.size g gq col vw qs) (hcol : ∀ k, wr.heap.size ≤ k → col k = 11 + j) (hj : j < qs.length)
    (h3 : wr.heap[gq]? = some (.cells cs 43 (0, 0))) (hB : Below w0.heap.size w0 wr) (hb : Below wr.heap.size wr W64) (hlen : ps.length = N) (hfl : flat ps = l2)
    (hr : Row w64 2 (fun k => (w0.heap.size ≤ k ∧ col k = 11 + j) ∨ W64.heap.size ≤ k) v N l2) (hl : Lv W64 w64 (fun k => w0.heap.size ≤ k ∧ col k = 11 + j)) (hg : Good wr w0.heap.size col ps) :
    Mel (w64.setCell ⟨gq, j, none⟩ v) w0.heap.size g gq col vw (qs.set j (ps.map Prod.snd)) ∧ Lef wr (w64.setCell ⟨gq, j, none⟩ v) col col ∧ Below w0.heap.size w0 (w64.setCell ⟨gq, j, none⟩ v) ∧ ∀ k, k < wr.heap.size → col k = 9 → (w64.setCell ⟨gq, j, none⟩ v).heap[k]? = wr.heap[k]? := by
  subst hlen hfl
  have hgc := hR.ge
  have hs := hb.size
  have hs2 := hl.size
  have hs0 := hB.size
  have hsz : (w64.setCell ⟨gq, j, none⟩ v).heap.size = w64.heap.size := by simp [World.setCell]
  have hne : ∀ q, q ≠ gq → (w64.setCell ⟨gq, j, none⟩ v).heap[q]? = w64.heap[q]? := fun q hq => Below.heap_setCell _ _ _ _ hq
  have hold : ∀ q, q < wr.heap.size → col q ≠ 11 + j → w64.heap[q]? = wr.heap[q]? := fun q hq hc => (hl.block q (by omega) (fun h => hc h.2)).trans (hb.block q hq)
  have h3' : w64.heap[gq]? = some (.cells cs 43 (0, 0)) := (hold gq hgc.2.2.2.1 (by omega)).trans h3
  refine ⟨hR.turnQ hj h3 (by omega) (fun q hq _ hc hn => (hne q hn).trans (hold q hq hc)) (blk_set h3' j _) ?_ (fun p hp => (hg p hp).step (fun q hq h9 => (hne q (by rintro rfl; omega)).trans (hold q hq (by omega))) (fun _ _ => rfl)), ⟨by omega, fun _ _ => rfl, fun q hq h9 => (hne q (by rintro rfl; omega)).trans (hold q hq (by omega))⟩, ?_, fun q hq h9 => (hne q (by rintro rfl; omega)).trans (hold q hq (by omega))⟩
  · refine (hr.step (by omega) (fun q hq ho => hne q ?_)).mono (fun k hk => ?_)
    · rintro rfl
      rcases ho with ho | ho <;> omega
    · rcases hk with hk | hk
      · exact hk
      · exact ⟨by omega, hcol k (by omega)⟩
  · exact (hl.below (below_step hB hb) (fun k hk => hk.1)).setCell (by show w0.heap.size ≤ gq; omega) _
theorem mel_put_cells {w0 wr W64 w64 : World} {g gq j : Nat} {col : Nat → Nat} {vw : List It} {qs : List (List It)} {cs : Array Value} (hR : Mel wr w0.heap.size g gq col vw qs) (hj : j < qs.length)
    (h3 : wr.heap[gq]? = some (.cells cs 43 (0, 0))) (hb : Below wr.heap.size wr W64) (hl : Lv W64 w64 (fun k => w0.heap.size ≤ k ∧ col k = 11 + j)) :
    (∀ i, w64.frozen? ⟨gq, i, none⟩ = false) ∧ (∀ i, w64.cell? ⟨gq, i, none⟩ = wr.cell? ⟨gq, i, none⟩) ∧ (∀ i, w64.cell? ⟨g, i, none⟩ = wr.cell? ⟨g, i, none⟩) := by
  have hgc := hR.ge
  have hs := hb.size
  have hold : ∀ q, q < wr.heap.size → col q ≠ 11 + j → w64.heap[q]? = wr.heap[q]? := fun q hq hc => (hl.block q (by omega) (fun h => hc h.2)).trans (hb.block q hq)
  have h3' : w64.heap[gq]? = some (.cells cs 43 (0, 0)) := (hold gq hgc.2.2.2.1 (by omega)).trans h3
  exact ⟨fun i => blk_frozen h3' i, fun i => World.cell?_of_block (a := ⟨gq, i, none⟩) (hold gq hgc.2.2.2.1 (by omega)), fun i => World.cell?_of_block (a := ⟨g, i, none⟩) (hold g hgc.2.2.1 (by omega))⟩
/-- The view is another. -/
theorem mel_view {w0 wr W34 w34 : World} {g gq N : Nat} {col : Nat → Nat} {vw : List It} {qs : List (List It)} {v vv : Value} {pv : List (Value × It)} {l2 : List Value} (hR : Mel wr w0.heap.size g gq col vw qs) (hcol : ∀ k, wr.heap.size ≤ k → col k = 10)
    (h1 : wr.heap[g]? = some (.cells #[.slice (some ⟨gq, 0, none⟩) qs.length qs.length, vv] 41 (0, 0))) (hB : Below w0.heap.size w0 wr) (hb : Below wr.heap.size wr W34) (hlen : pv.length = N) (hfl : pv.map Prod.fst = l2)
    (hr : Row w34 1 (fun k => (w0.heap.size ≤ k ∧ col k = 10) ∨ W34.heap.size ≤ k) v N l2) (hl : Lv W34 w34 (fun k => w0.heap.size ≤ k ∧ col k = 10)) (hg : Good wr w0.heap.size col pv) :
    Mel (w34.setCell ⟨g, 1, none⟩ v) w0.heap.size g gq col (pv.map Prod.snd) qs ∧ Lef wr (w34.setCell ⟨g, 1, none⟩ v) col col ∧ Below w0.heap.size w0 (w34.setCell ⟨g, 1, none⟩ v) ∧ (∀ k, k < wr.heap.size → col k = 9 → (w34.setCell ⟨g, 1, none⟩ v).heap[k]? = wr.heap[k]?) ∧ (∀ i, w34.frozen? ⟨g, i, none⟩ = false) ∧ (∀ i, w34.cell? ⟨g, i, none⟩ = wr.cell? ⟨g, i, none⟩) := by
  subst hlen hfl
  obtain ⟨⟨vv0, pv0, h10, h2, h30, h4⟩, ⟨cs0, h5, h6, h7⟩, h8, h9, ha, hb', hgc, hqc, hn8⟩ := hR
  have hs := hb.size
  have hs2 := hl.size
  have hs0 := hB.size
  have hsz : (w34.setCell ⟨g, 1, none⟩ v).heap.size = w34.heap.size := by simp [World.setCell]
  have hne : ∀ q, q ≠ g → (w34.setCell ⟨g, 1, none⟩ v).heap[q]? = w34.heap[q]? := fun q hq => Below.heap_setCell _ _ _ _ hq
  have hold : ∀ q, q < wr.heap.size → col q ≠ 10 → w34.heap[q]? = wr.heap[q]? := fun q hq hc => (hl.block q (by omega) (fun h => hc h.2)).trans (hb.block q hq)
  have h1' : w34.heap[g]? = some (.cells #[.slice (some ⟨gq, 0, none⟩) qs.length qs.length, vv] 41 (0, 0)) := (hold g ha (by omega)).trans h1
  have ngq : g ≠ gq := blk_ne h1 h5 (by decide)
  have hboth : ∀ q, q < wr.heap.size → col q ≠ 10 → q ≠ g → (w34.setCell ⟨g, 1, none⟩ v).heap[q]? = wr.heap[q]? := fun q hq hc hn => (hne q hn).trans (hold q hq hc)
  have gd : ∀ {ps : List (Value × It)}, Good wr w0.heap.size col ps → Good (w34.setCell ⟨g, 1, none⟩ v) w0.heap.size col ps := fun hg p hp => (hg p hp).step (fun k hk h9 => hboth k hk (by omega) (by rintro rfl; omega)) (fun _ _ => rfl)
  refine ⟨⟨⟨v, pv, blk_set h1' 1 v, ?_, rfl, gd hg⟩, ⟨cs0, (hboth gq hb' (by omega) (Ne.symm ngq)).trans h5, h6, fun m hm => ?_⟩, h8, h9, by omega, by omega, hgc, hqc, hn8⟩, ⟨by omega, fun _ _ => rfl, fun q hq h9 => hboth q hq (by omega) (by rintro rfl; omega)⟩, ?_, fun q hq h9 => hboth q hq (by omega) (by rintro rfl; omega), fun i => blk_frozen h1' i, fun i => World.cell?_of_block (a := ⟨g, i, none⟩) (hold g ha (by omega))⟩
  · refine (hr.step (by omega) (fun q hq ho => hne q ?_)).mono (fun k hk => ?_)
    · rintro rfl
      rcases ho with ho | ho <;> omega
    · rcases hk with hk | hk
      · exact hk
      · exact ⟨by omega, hcol k (by omega)⟩
  · obtain ⟨v2, ps2, e, r, e2, gg⟩ := h7 m hm
    exact ⟨v2, ps2, e, r.step (by omega) (fun q hlt hk => hboth q hlt (by omega) (by rintro rfl; omega)), e2, gd gg⟩
  · exact (hl.below (below_step hB hb) (fun k hk => hk.1)).setCell (by show w0.heap.size ≤ g; omega) _
end Go.Proofs.Yteeddalalfemmaa.K

namespace Go.Proofs.Yteeddalalfemmaa.K
open Go.RowKit Go.Proofs.YteeddalalfemmaaW.PrintWords Go.Proofs.YteeddalalfemmaaW.PrintLast Go.Proofs.YteeddalalfemmaaW.PrintMore
set_option linter.unusedVariables false
set_option linter.unusedSimpArgs false

theorem infoBs : (Try.prog.info? 33).map (fun i => (i.zero, i.size, i.bytes)) = some (some (.slice none 0 0), 1, 24) := by kernel_rfl
theorem Row.recol {W W' : World} {size b0 c n : Nat} {cA cB : Nat → Nat} {v : Value} {olds : List Value} (h : Row W size (fun k => b0 ≤ k ∧ cA k = c) v n olds) (hs : 0 < size) (hb : Below W.heap.size W W') (hc : ∀ k, k < W.heap.size → cB k = cA k) : Row W' size (fun k => b0 ≤ k ∧ cB k = c) v n olds :=
  ((h.bound hs).mono (ok' := fun k => (b0 ≤ k ∧ cB k = c)) (fun k hk => ⟨hk.1.1, by rw [hc k hk.2]; exact hk.1.2⟩)).below hs hb
theorem Good.recol {W W' : World} {b0 : Nat} {cA cB : Nat → Nat} {ps : List (Value × It)} (h : Good W b0 cA ps) (hb : Below W.heap.size W W') (hc : ∀ k, k < W.heap.size → cB k = cA k) : Good W' b0 cB ps := fun p hp => (h p hp).step (fun k hk _ => hb.block k hk) hc
theorem good_snoc {W : World} {b0 : Nat} {col : Nat → Nat} {ps : List (Value × It)} {v : Value} {x : It} (h : Good W b0 col ps) (hb : Bs W b0 col v x.f0) : Good W b0 col (ps ++ [(v, x)]) := by
  intro p hp
  rcases List.mem_append.1 hp with hp | hp
  · exact h p hp
  · simp at hp
    rw [hp]
    exact hb
theorem src_one {P : Program} {W : World} {tx e' t b : Nat} {x : Value} (hk : P.underlying tx = some (.slice e')) (h : W.heap[b]? = some (.cells #[x] t (0, 0))) (hx : x.oneCell' = true) : Src P 1 tx (.slice (some ⟨b, 0, none⟩) 1 1) 1 [x] W :=
  Src.ofSlice W hk ⟨b, 0, none⟩ 1 1 [x] rfl (fun j u hu => by
    rw [Addr.add_lit, Nat.zero_add, blk_cell h j]
    simpa using hu) (fun u hu => by
    simp at hu
    rw [hu]
    exact hx)

def mput_ok.T11 : Bool × List (List Nat × List Nat) := (true, [([], []), ([0], [0]), ([1], [1]), ([2], [2]), ([], []), ([], []), ([5], [5]), ([6], [6]), ([7], [7]), ([], []), ([8, 9], [8, 9]), ([10], [10]), ([], []), ([12], [12]), ([13], [13]), ([11, 14], [11, 14]), ([3, 4, 0, 1, 2, 3, 4, 5, 6, 7, 8, 9, 10, 11, 12, 13, 14, 15], [3, 4]), ([16, 15, 15, 0, 1, 2, 3, 4, 5, 6, 7, 8, 9, 10, 11, 12, 13, 14, 15], [15, 16])])
def mput_ok.B11 : List Nat := [0, 1, 3, 7, 0, 0, 32, 96, 224, 0, 992, 2016, 0, 4096, 12288, 32736, 65535, 131071]
theorem mput_ok.tab11 : rtab .any (opsOf Try.f14 11) = mput_ok.T11 := by kernel_rfl
theorem mput_ok.bits11 : waitsOk mput_ok.T11.2 mput_ok.B11 = true := by kernel_rfl
set_option maxRecDepth 100000 in
set_option maxHeartbeats 8000000 in
theorem mput_ok (g gq i : Nat) (col : Nat → Nat) (vw : List It) (qs : List (List It)) (vb : Value) (l : List Int) (w0 w : World) (hR : Mel w w0.heap.size g gq col vw qs) (hi : i < qs.length)
    (hb : Rd w vb l) (hl : l.length ≤ 4000) (hv : vw.length < 5000) (hq : ∀ q ∈ qs, q.length ≤ 90000) (hB : Below w0.heap.size w0 w) :
    Calls Try.prog 14 #[.pointer (some ⟨g, 0, none⟩), .int .i64 i, vb] w fun e w' => e = .returned (.int .i64 0) ∧ Mid w0 w w' g gq col (vw ++ [⟨l, false⟩]) (putTo qs.length i ⟨l, false⟩ qs) := by
  obtain ⟨cA, hcol, hR, hLA⟩ := hR.recol' 9
  have HR := Aside0.mk hR
  obtain ⟨vv, pv, h1, h2, hpv, hgv⟩ := hR.blk
  obtain ⟨Av, cv, rfl, hcv⟩ := h2.shape
  obtain ⟨A2, c2, rfl, hc2, hC2⟩ := hb
  have HRb : Aside0 (Rd w (.slice A2 l.length c2) l) := ⟨A2, c2, rfl, hc2, hC2⟩
  obtain ⟨n, hnn⟩ : ∃ n, qs.length = n := ⟨_, rfl⟩
  obtain ⟨nv, hnv⟩ : ∃ n, pv.length = n := ⟨_, rfl⟩
  have hpl : pv.length = vw.length := by rw [← hpv]; simp
  have H1 := Aside0.mk h1
  have hn8 : n ≤ 8 := by have := hR.ge; omega
  rw [hnn] at hi h1
  rw [hnv] at h1 h2
  have k0 : w.cell? ⟨g, 0, none⟩ = some (.slice (some ⟨gq, 0, none⟩) n n) := (blk_cell h1 0).trans rfl
  have k1 : w.cell? ⟨g, 1, none⟩ = some (.slice Av nv cv) := (blk_cell h1 1).trans rfl
  have HG1 := Aside0.mk h1
  have hi1 : (i : Int) < n := by omega
  have hl1 : decide ((4000 : Int) < l.length) = false := decide_eq_false (by omega)
  have hv1 : decide ((5000 : Int) ≤ nv) = false := decide_eq_false (by omega)
  have hnv5 : nv < 5000 := by omega
  have HD : Aside0 (decide (0 ≤ (i : Int) ∧ (i : Int) < (n : Int)) = true) := ⟨decide_eq_true (by omega)⟩
  have HB := Aside0.mk (Below.refl w.heap.size w)
  have HBB := Aside0.mk hB
  have HQ := Aside0.mk hq
  have H2 := Aside0.mk h2
  have HL := Aside0.mk hl
  have HLA := Aside0.mk hLA
  have HNN := Aside0.mk hnn
  have HNV := Aside0.mk hnv
  have HPV := Aside0.mk hpv
  have HGV := Aside0.mk hgv
  have HCol := Aside0.mk hcol
  clear hR h1 h2 hpv hgv hcv hc2 hC2 hnn hnv hpl hB hq hl hLA hcol hv
  go_enter Try.func14, Try.ntmps14
  go_wp2_with (first
    | ((with_reducible refine gate_dst (N := 11) rfl ?_); go_must (((try (refine gate_guard (by rfl) ?_; dsimp only)); refine goesL_ (some 11) rfl rfl Try.func35 (by kernel_rfl) rfl #[.pointer (some ⟨g, 0, none⟩), .int .i64 i] rfl ?hA ?_; (case hA => ((try simp only [List.map_toArray, List.map_cons, List.map_nil]); first | done | rfl)); refine (mreader_calls g gq n i _ _ HG1.out).mono ?_; rintro e w11 ⟨rfl, ⟨m11, rfl⟩⟩; refine ⟨_, rfl, ?_⟩; rw [HD.out]; replace HB := Aside0.mk (pw_below_drewN HB.out m11))))
    | ((with_reducible refine gate_dst (N := 24) rfl ?_); go_must (((try (refine gate_guard (by rfl) ?_; dsimp only)); refine lit_bytes (w0 := w) (w).heap.size 24 ?hg ?hd ([]) ?hr ?hm HB.out HB.out.size ?_; (case hd => rfl); (case hg => rfl); (case hr => first | (go_simp; done) | (go_simp; rfl)); (case hm => simp); intro vHO24 wHO24 ho hb hbw; have HO24 := Aside0.mk ho; clear HB; have HB := Aside0.mk hb; clear ho hb hbw)))
    | (((with_reducible refine gate_builtin (b := .append) (xs := #[.tmp 24, .tmp 25]) rfl ?_); at_builtin; go_must (((try (refine gate_guard (by rfl) ?_; dsimp only)); refine app_bytes (w0 := w) (w).heap.size rfl (.tmp 24) (.tmp 25) 33 rfl Try.underlying33 info5 _ _ ([]) (l) rfl rfl HO24.out ?aR HB.out HB.out.size ?aL ?_; (case aR => exact HRb.out.below HB.out); (case aL => (have := HL.out; simp; omega)); intro vHO26 wHO26 ho hb hg; have HO26 := Aside0.mk ho; clear HB; have HB := Aside0.mk hb; clear ho hb hg))); rw [List.nil_append] at HO26; obtain ⟨A7, c7, h7, _, _⟩ := Kd.R_reads HO26.out; subst h7; have x0 := pw_cell_below HB.out k0; have x1 := pw_cell_below HB.out k1)
    | ((with_reducible refine gate_builtin (b := .append) (xs := #[.tmp 31, .tmp 33]) rfl ?_); at_builtin; obtain ⟨cB, hcB, hMB, hLB⟩ := (HR.out.below HB.out).recol' 10; have hM9 : Bs wHO26 w0.heap.size cB (.slice A7 l.length c7) l := Bs.step (W := wHO26) (col := cA) (Kd.R_lower (own_bytes HO26.out (fun k hk _ => HCol.out k hk)) HBB.out.size) (fun _ _ _ => rfl) hLB.2.1; go_must ((refine row_plain rfl (.tmp 31) (.tmp 33) 37 37 33 (.slice none 0 0) 1 24 rfl Try.underlying37 infoBs rfl (by decide) (by decide) (.slice Av nv cv) (.slice (some ⟨wHO26.heap.size, 0, none⟩) 1 1) nv 1 (pv.map Prod.fst) [.slice A7 l.length c7] (fun k => w0.heap.size ≤ k ∧ cB k = 10) rfl rfl ((H2.out.recol (by decide) HB.out (fun k hk => hLB.2.1 k (Nat.lt_of_lt_of_le hk HB.out.size))).below (by decide) (below_alloc (Below.refl _ _) _)) (src_one Try.underlying37 (blk_new wHO26 _) hM9.one) (by omega) ?_; intro v34 w34 hr34 hl34; obtain ⟨A34, c34, rfl, _⟩ := hr34.shape; have hv34 := mel_view hMB hcB (blk_below H1.out HB.out) (below_step HBB.out HB.out) (below_alloc (Below.refl _ _) (.cells #[.slice A7 l.length c7] 33)) (pv := pv ++ [((.slice A7 l.length c7 : Value), (⟨l, false⟩ : It))]) (N := nv + 1) (by simp [HNV.out]) (by simp) hr34 hl34 (good_snoc (HGV.out.recol HB.out (fun k hk => hLB.2.1 k (Nat.lt_of_lt_of_le hk HB.out.size))) hM9); have f34 := hv34.2.2.2.2.1 1; have e34 := (hv34.2.2.2.2.2 1).trans x1; have HV34 := Aside0.mk hv34; have HLB := Aside0.mk ((HLA.out.trans (Lef.below cA HB.out)).trans (hLB.trans hv34.2.1)); have H9 := Aside0.mk (hM9.step hv34.2.2.2.1 (fun _ _ => rfl)); clear hv34 hr34 hl34 hM9 hLB hMB hcB))))
  go_loopg [8] n (fun g39 v39 wr => ∃ (j : Nat) (cJ : Nat → Nat), g39 = n - j ∧ v39 = .int .i64 j ∧ j ≤ n ∧ Aside0 (Mel wr w0.heap.size g gq cJ (vw ++ [⟨l, false⟩]) (putTo j i ⟨l, false⟩ qs)) ∧ Aside0 (Below w0.heap.size w0 wr) ∧ Aside0 (Lef w wr col cJ) ∧ Aside0 (Bs wr w0.heap.size cJ (.slice A7 l.length c7) l))
  case atStart => exact ⟨0, cB, by simp, rfl, Nat.zero_le _, ⟨by rw [putTo_zero]; have := HV34.out.1; rw [List.map_append, HPV.out] at this; exact this⟩, ⟨HV34.out.2.2.1⟩, HLB, H9⟩
  case round =>
    clear HV34 HLB H9 f34 e34 x0 x1 k0 k1
    obtain ⟨j, colj, rfl, rfl, hj, HRj, HBj, HLj, H9j⟩ := hrel
    obtain ⟨v1, p1, g1, _⟩ := HRj.out.blk
    rw [putTo_len, HNN.out] at g1
    have k0 : wr.cell? ⟨g, 0, none⟩ = some (.slice (some ⟨gq, 0, none⟩) n n) := (blk_cell g1 0).trans rfl
    clear g1
    by_cases hjn : j < n
    · have hjn2 : (j : Int) < n := by omega
      have hj0 : (0 : Int) ≤ j := by omega
      by_cases hji : j = i
      · subst hji
        go_wp2
        go_roundg (n - (j + 1))
        case measure => omega
        case rel => exact ⟨j + 1, colj, rfl, by go_num, by omega, ⟨by rw [putTo_self]; exact HRj.out⟩, HBj, HLj, H9j⟩
      · have hne : ((j : Int) == i) = false := by simp; omega
        have hne2 : ¬ (j : Int) = i := by omega
        obtain ⟨col', hcol', hR', hL'⟩ := HRj.out.recol' (11 + j)
        have HL' := Aside0.mk (HLj.out.trans hL')
        have hjl : j < (putTo j i ⟨l, false⟩ qs).length := by rw [putTo_len, HNN.out]; exact hjn
        obtain ⟨cs, v, ps, h3, h4, e, r, e2, gg⟩ := hR'.queue j hjl _ rfl
        obtain ⟨Aj, cj, rfl, hcj⟩ := r.shape
        obtain ⟨nj, hnj⟩ : ∃ nj, ps.length = nj := ⟨_, rfl⟩
        have hlen : nj ≤ 90000 := by
          have h7 : j < qs.length := by rw [HNN.out]; exact hjn
          have h8 := congrArg List.length e2
          rw [putTo_get _ _ _ _ _ hjl h7, if_neg (by omega), List.length_map] at h8
          have := HQ.out _ (List.getElem_mem h7)
          omega
        rw [hnj] at r e hcj
        have k1 : wr.cell? ⟨gq, j, none⟩ = some (.slice Aj nj cj) := (blk_cell h3 j).trans e
        have HLen : Aside0 ((ps ++ [((.slice A7 l.length c7 : Value), (⟨l, false⟩ : It))]).length = nj + 1) := ⟨by simp [hnj]⟩
        have HFL : Aside0 (flat (ps ++ [((.slice A7 l.length c7 : Value), (⟨l, false⟩ : It))]) = flat ps ++ [.slice A7 l.length c7, .bool false]) := ⟨by rw [flat_append]; rfl⟩
        have HGG : Aside0 (Good wr w0.heap.size col' (ps ++ [((.slice A7 l.length c7 : Value), (⟨l, false⟩ : It))])) := ⟨fun p hp => by
          rcases List.mem_append.1 hp with hp | hp
          · exact gg p hp
          · simp at hp
            rw [hp]
            exact H9j.out.step (fun _ _ _ => rfl) hL'.2.1⟩
        have H9' := Aside0.mk (H9j.out.step (W' := wr) (fun _ _ _ => rfl) hL'.2.1)
        have HRR := Aside0.mk hR'
        have HCj := Aside0.mk hcol'
        have H3 := Aside0.mk h3
        have HE2 := Aside0.mk e2
        have Hr := Aside0.mk r
        have HJL := Aside0.mk hjl
        clear hcol' hR' hL' h3 h4 e r gg hcj hnj
        go_wp2
        refine start_ (n := 18) (S := fun w' => w'.cell? ⟨g, 0, none⟩ = some (.slice (some ⟨gq, 0, none⟩) n n) ∧ w'.cell? ⟨gq, j, none⟩ = some (.slice Aj nj cj)) (ds := [17]) #[false, false, false, false, false, false, false, false, false, false, false, false, false, false, false, false, false, false] (by kernel_rfl) rfl rfl ⟨k0, k1⟩ (fun hHeld => ?_)
        refine with_tabW mput_ok.tab11 mput_ok.bits11 (fun HT_ HW_ => ?_)
        refine pure_ (i := 0) (N := some 49) (v := ?_) (a' := ?_) #[true, false, false, false, false, false, false, false, false, false, false, false, false, false, false, false, false, false] rfl rfl (any_of HT_.out (by kernel_rfl)) (fun _ _ _ h => h) (Or.inl ⟨by rfl, ?_⟩) ?_ ?_
        rotate_left
        · intro w'
          go_simp
          with_reducible rfl
        rotate_left
        · simp only [Act.put, List.setIfInBounds_toArray, List.set_cons_zero, List.set_cons_succ, i64_w, i32_w]
          rfl
        refine pure_ (i := 1) (N := some 50) (v := ?_) (a' := ?_) #[true, true, false, false, false, false, false, false, false, false, false, false, false, false, false, false, false, false] rfl rfl (any_of HT_.out (by kernel_rfl)) (fun _ _ _ h => h) (Or.inl ⟨by rfl, ?_⟩) ?_ ?_
        rotate_left
        · intro w'
          go_simp
          with_reducible rfl
        rotate_left
        · simp only [Act.put, List.setIfInBounds_toArray, List.set_cons_zero, List.set_cons_succ, i64_w, i32_w]
          rfl
        refine pure_ (i := 2) (N := some 51) (v := ?_) (a' := ?_) #[true, true, true, false, false, false, false, false, false, false, false, false, false, false, false, false, false, false] rfl rfl (any_of HT_.out (by kernel_rfl)) (fun _ _ _ h => h) (Or.inl ⟨by rfl, ?_⟩) ?_ ?_
        rotate_left
        · intro w'
          go_simp
          with_reducible rfl
        rotate_left
        · simp only [Act.put, List.setIfInBounds_toArray, List.set_cons_zero, List.set_cons_succ, i64_w, i32_w]
          rfl
        refine pure_ (i := 4) (N := some 53) (v := ?_) (a' := ?_) #[true, true, true, false, true, false, false, false, false, false, false, false, false, false, false, false, false, false] rfl rfl (any_of HT_.out (by kernel_rfl)) (fun _ _ _ h => h) (Or.inl ⟨by rfl, ?_⟩) ?_ ?_
        rotate_left
        · intro w'
          go_simp
          with_reducible rfl
        rotate_left
        · simp only [Act.put, List.setIfInBounds_toArray, List.set_cons_zero, List.set_cons_succ, i64_w, i32_w]
          rfl
        refine pure_ (i := 5) (N := some 54) (v := ?_) (a' := ?_) #[true, true, true, false, true, true, false, false, false, false, false, false, false, false, false, false, false, false] rfl rfl (any_of HT_.out (by kernel_rfl)) (fun _ _ _ h => h) (Or.inl ⟨by rfl, ?_⟩) ?_ ?_
        rotate_left
        · intro w'
          go_simp
          with_reducible rfl
        rotate_left
        · simp only [Act.put, List.setIfInBounds_toArray, List.set_cons_zero, List.set_cons_succ, i64_w, i32_w]
          rfl
        refine pure_ (i := 6) (N := some 55) (v := ?_) (a' := ?_) #[true, true, true, false, true, true, true, false, false, false, false, false, false, false, false, false, false, false] rfl rfl (any_of HT_.out (by kernel_rfl)) (fun _ _ _ h => h) (Or.inl ⟨by rfl, ?_⟩) ?_ ?_
        rotate_left
        · intro w'
          go_simp
          with_reducible rfl
        rotate_left
        · simp only [Act.put, List.setIfInBounds_toArray, List.set_cons_zero, List.set_cons_succ, i64_w, i32_w]
          rfl
        refine pure_ (i := 7) (N := some 56) (v := ?_) (a' := ?_) #[true, true, true, false, true, true, true, true, false, false, false, false, false, false, false, false, false, false] rfl rfl (any_of HT_.out (by kernel_rfl)) (fun _ _ _ h => h) (Or.inl ⟨by rfl, ?_⟩) ?_ ?_
        rotate_left
        · intro w'
          go_simp
          with_reducible rfl
        rotate_left
        · simp only [Act.put, List.setIfInBounds_toArray, List.set_cons_zero, List.set_cons_succ, i64_w, i32_w]
          rfl
        refine pure_ (i := 9) (N := some 58) (v := ?_) (a' := ?_) #[true, true, true, false, true, true, true, true, false, true, false, false, false, false, false, false, false, false] rfl rfl (any_of HT_.out (by kernel_rfl)) (fun _ _ _ h => h) (Or.inl ⟨by rfl, ?_⟩) ?_ ?_
        rotate_left
        · intro w'
          go_simp
          with_reducible rfl
        rotate_left
        · simp only [Act.put, List.setIfInBounds_toArray, List.set_cons_zero, List.set_cons_succ, i64_w, i32_w]
          rfl
        refine pure_ (i := 12) (N := some 61) (v := ?_) (a' := ?_) #[true, true, true, false, true, true, true, true, false, true, false, false, true, false, false, false, false, false] rfl rfl (any_of HT_.out (by kernel_rfl)) (fun _ _ _ h => h) (Or.inl ⟨by rfl, ?_⟩) ?_ ?_
        rotate_left
        · intro w'
          go_simp
          with_reducible rfl
        rotate_left
        · simp only [Act.put, List.setIfInBounds_toArray, List.set_cons_zero, List.set_cons_succ, i64_w, i32_w]
          rfl
        refine pure_ (i := 13) (N := some 62) (v := ?_) (a' := ?_) #[true, true, true, false, true, true, true, true, false, true, false, false, true, true, false, false, false, false] rfl rfl (any_of HT_.out (by kernel_rfl)) (fun _ _ _ h => h) (Or.inl ⟨by rfl, ?_⟩) ?_ ?_
        rotate_left
        · intro w'
          go_simp
          with_reducible rfl
        rotate_left
        · simp only [Act.put, List.setIfInBounds_toArray, List.set_cons_zero, List.set_cons_succ, i64_w, i32_w]
          rfl
        refine take_ (i := 3) (N := some 52) (v := ?_) (a' := ?_) #[true, true, true, true, true, true, true, true, false, true, false, false, true, true, false, false, false, false] rfl rfl (take_ofW HT_.out HW_.out (by kernel_rfl)) (fun _ _ _ h => h) (Or.inl ⟨by rfl, ?_⟩) hHeld ?_ ?_
        rotate_left
        · rintro w' ⟨s0, s1⟩
          go_simp
          with_reducible rfl
        rotate_left
        · simp only [Act.put, List.setIfInBounds_toArray, List.set_cons_zero, List.set_cons_succ, i64_w, i32_w]
          rfl
        refine take_ (i := 8) (N := some 57) (v := ?_) (a' := ?_) #[true, true, true, true, true, true, true, true, true, true, false, false, true, true, false, false, false, false] rfl rfl (take_ofW HT_.out HW_.out (by kernel_rfl)) (fun _ _ _ h => h) (Or.inl ⟨by rfl, ?_⟩) hHeld ?_ ?_
        rotate_left
        · rintro w' ⟨s0, s1⟩
          go_simp
          with_reducible rfl
        rotate_left
        · simp only [Act.put, List.setIfInBounds_toArray, List.set_cons_zero, List.set_cons_succ, i64_w, i32_w]
          rfl
        refine pure_ (i := 10) (N := some 59) (v := ?_) (a' := ?_) #[true, true, true, true, true, true, true, true, true, true, true, false, true, true, false, false, false, false] rfl rfl (any_of HT_.out (by kernel_rfl)) (fun _ _ _ h => h) (Or.inl ⟨by rfl, ?_⟩) ?_ ?_
        rotate_left
        · intro w'
          go_simp
          with_reducible rfl
        rotate_left
        · simp only [Act.put, List.setIfInBounds_toArray, List.set_cons_zero, List.set_cons_succ, i64_w, i32_w]
          rfl
        refine take_ (i := 11) (N := some 60) (v := ?_) (a' := ?_) #[true, true, true, true, true, true, true, true, true, true, true, true, true, true, false, false, false, false] rfl rfl (take_ofW HT_.out HW_.out (by kernel_rfl)) (fun _ _ _ h => h) (Or.inl ⟨by rfl, ?_⟩) hHeld ?_ ?_
        rotate_left
        · rintro w' ⟨s0, s1⟩
          go_simp
          with_reducible rfl
        rotate_left
        · simp only [Act.put, List.setIfInBounds_toArray, List.set_cons_zero, List.set_cons_succ, i64_w, i32_w]
          rfl
        refine one_ (i := 14) (N := some 63) #[true, true, true, true, true, true, true, true, true, true, true, true, true, true, true, false, false, false] rfl rfl (one_of HT_.out (by kernel_rfl)) (by decide) (fun K hK => ?_)
        refine value_ (w1 := ?_) (v := ?_) (by rfl) rfl ?_ ?_
        rotate_left 2
        · go_simp
          constructor
          · rfl
          · rfl
        refine hK.out _ _ ⟨(pw_cell_below (by repeat (first | exact Below.refl _ _ | apply below_alloc | apply pw_below_drewN | apply below_drew1)) k0), (pw_cell_below (by repeat (first | exact Below.refl _ _ | apply below_alloc | apply pw_below_drewN | apply below_drew1)) k1)⟩ (fun hHeld => ?_)
        clear hK K
        refine norm_ (a' := ?_) ?_ ?_
        rotate_left
        · show Act.put _ (some 63) _ = _
          simp only [Act.put, List.setIfInBounds_toArray, List.set_cons_zero, List.set_cons_succ, i64_w, i32_w]
          rfl
        refine one_ (i := 15) (N := some 64) #[true, true, true, true, true, true, true, true, true, true, true, true, true, true, true, true, false, false] rfl rfl (one_of HT_.out (by kernel_rfl)) (by decide) (fun K hK => ?_)
        refine row_step (by rfl) (.tmp 60) (.tmp 63) 43 43 69 (.agg #[.slice none 0 0, .bool false]) 2 32 rfl Try.underlying43 infoIm rfl (by decide) (by decide) (.slice Aj nj cj) _ nj 1 (flat ps) [.slice A7 l.length c7, .bool false] _ rfl rfl (Hr.out.below (by decide) (by repeat (first | exact Below.refl _ _ | apply below_alloc | apply pw_below_drewN | apply below_drew1))) (src_item Try.underlying43 (blk_new _ _) rfl rfl) ?_ ?_
        · omega
        intro v64 w64 hr64 hl64
        have hb64 : Below wr.heap.size wr (wr.drew.alloc (.cells #[.slice A7 l.length c7, .bool false] 69)) := below_alloc (below_drew1 (Below.refl _ _)) _
        obtain ⟨A64, c64, rfl, _⟩ := hr64.shape
        have hm64 := mel_put HRR.out HCj.out HJL.out H3.out HBj.out hb64 HLen.out HFL.out hr64 hl64 HGG.out
        obtain ⟨f64, e64, d64⟩ := mel_put_cells HRR.out HJL.out H3.out hb64 hl64
        refine hK.out _ _ ⟨((d64 0).trans k0), ((e64 j).trans k1)⟩ (fun hHeld => ?_)
        clear hK K
        refine norm_ (a' := ?_) ?_ ?_
        rotate_left
        · show Act.put _ (some 64) _ = _
          simp only [Act.put, List.setIfInBounds_toArray, List.set_cons_zero, List.set_cons_succ, i64_w, i32_w]
          rfl
        refine pure_ (i := 16) (N := some 65) (v := ?_) (a' := ?_) #[true, true, true, true, true, true, true, true, true, true, true, true, true, true, true, true, true, false] rfl rfl (any_of HT_.out (by kernel_rfl)) (fun _ _ _ h => h) (Or.inl ⟨by rfl, ?_⟩) ?_ ?_
        rotate_left
        · intro w'
          go_simp
          with_reducible rfl
        rotate_left
        · simp only [Act.put, List.setIfInBounds_toArray, List.set_cons_zero, List.set_cons_succ, i64_w, i32_w]
          rfl
        refine last_ (i := 17) (N := none) #[true, true, true, true, true, true, true, true, true, true, true, true, true, true, true, true, true, true] rfl rfl (one_of HT_.out (by kernel_rfl)) (by decide) (fun K hK => ?_)
        have f64j := f64 j
        have e64j := (e64 j).trans k1
        refine skip_ (w1 := ?_) (by rfl) rfl ?_ ?_
        rotate_left
        · go_simp
          rfl
        refine hK.out _ _ ?_
        clear hK K
        refine done_ (done_of HT_.out (by kernel_rfl)) ?_
        go_wp2
        go_roundg (n - (j + 1))
        case measure => omega
        case rel =>
          refine ⟨j + 1, col', rfl, by go_num, by omega, ⟨?_⟩, ⟨hm64.2.2.1⟩, ⟨HL'.out.trans hm64.2.1⟩, ⟨H9'.out.step hm64.2.2.2 (fun _ _ => rfl)⟩⟩
          have h7 := hm64.1
          rw [List.map_append, HE2.out, List.map_cons, List.map_nil, putTo_step HJL.out hji] at h7
          exact h7
    · obtain rfl : j = n := by omega
      go_wp2
      go_ret
      refine ⟨rfl, ⟨colj, ?_, HLj.out⟩, HBj.out⟩
      rw [HNN.out]
      exact HRj.out
end Go.Proofs.Yteeddalalfemmaa.K

namespace Go.Proofs.Yteeddalalfemmaa.K
open Go.RowKit Go.Proofs.YteeddalalfemmaaW.PrintWords Go.Proofs.YteeddalalfemmaaW.PrintLast Go.Proofs.YteeddalalfemmaaW.PrintMore
set_option linter.unusedVariables false
set_option linter.unusedSimpArgs false

/-- An element of the view, as an item. -/
def clr' (p : Value × It) : Value × It := (p.1, clr p.2)

set_option maxRecDepth 100000 in
set_option maxHeartbeats 8000000 in
theorem mrewind_ok (g gq m : Nat) (col : Nat → Nat) (vw : List It) (qs : List (List It)) (w0 w : World) (hR : Mel w w0.heap.size g gq col vw qs) (hm : m < qs.length) (hv : vw.length ≤ 5000) (hB : Below w0.heap.size w0 w) :
    Calls Try.prog 28 #[.pointer (some ⟨g, 0, none⟩), .int .i64 m] w fun e w' => e = .returned (.int .i64 vw.length) ∧ Mid w0 w w' g gq col vw (qs.set m (vw.map clr)) := by
  obtain ⟨cA, hcol, hR, hLA⟩ := hR.recol' (11 + m)
  have HR := Aside0.mk hR
  obtain ⟨vv, pv, h1, h2, hpv, hgv⟩ := hR.blk
  obtain ⟨cs, v, ps, h3, h4, e, r, _, _⟩ := hR.queue m hm _ rfl
  obtain ⟨Aq, cq, rfl, hcq⟩ := r.shape
  obtain ⟨Av, cv, rfl, hcv⟩ := h2.shape
  have hpl : pv.length = vw.length := by rw [← hpv]; simp
  rw [← hpl]
  obtain ⟨n, hnn⟩ : ∃ n, qs.length = n := ⟨_, rfl⟩
  obtain ⟨nv, hnv⟩ : ∃ n, pv.length = n := ⟨_, rfl⟩
  have H1 := Aside0.mk h1
  rw [hnv] at h1 h2 hcv ⊢
  rw [hnn] at h1
  have HG1 := Aside0.mk h1
  have ngq : ¬ g = gq := blk_ne h1 h3 (by decide)
  have ngq2 : ¬ gq = g := fun h => ngq h.symm
  have HD : Aside0 (decide (0 ≤ (m : Int) ∧ (m : Int) < (n : Int)) = true) := ⟨decide_eq_true (by omega)⟩
  have hm0 : (0 : Int) ≤ m := by omega
  have hm1 : (m : Int) < n := by omega
  have hm2 : m < n := by omega
  have hnv5 : nv ≤ 5000 := by omega
  have HBB := Aside0.mk hB
  have H2 := Aside0.mk h2
  have H3 := Aside0.mk h3
  have HE := Aside0.mk e
  have HM := Aside0.mk hm
  have HLA := Aside0.mk hLA
  have HNV := Aside0.mk hnv
  have HPV := Aside0.mk hpv
  have HGV := Aside0.mk hgv
  have HCol := Aside0.mk hcol
  clear hR h1 h2 hpv hgv hcv hnn hnv hpl hB hLA hcol hv h3 h4 e r hcq
  go_enter Try.func28, Try.ntmps28
  go_wp2_with (first
    | ((with_reducible refine gate_dst (N := 9) rfl ?_); go_must (((try (refine gate_guard (by rfl) ?_; dsimp only)); refine goesL_ (some 9) rfl rfl Try.func35 (by kernel_rfl) rfl #[.pointer (some ⟨g, 0, none⟩), .int .i64 m] rfl ?hA ?_; (case hA => ((try simp only [List.map_toArray, List.map_cons, List.map_nil]); first | done | rfl)); refine (mreader_calls g gq n m _ _ HG1.out).mono ?_; rintro e w9 ⟨rfl, ⟨m9, rfl⟩⟩; refine ⟨_, rfl, ?_⟩; rw [HD.out]))))
  go_loopg [5, 6] nv (fun g39 v5 v6 wr => ∃ j : Nat, g39 = nv - j ∧ v6 = .int .i64 j ∧ j ≤ nv ∧ Aside0 (Row wr 2 (fun k => w.heap.size ≤ k) v5 j (flat ((pv.take j).map clr'))) ∧ Aside0 (Below w.heap.size w wr))
  case atStart => exact ⟨0, by simp, rfl, Nat.zero_le _, ⟨Row.nil _ _ _ _⟩, ⟨pw_below_drewN (Below.refl _ _) _⟩⟩
  case round =>
    obtain ⟨j, rfl, rfl, hj, HRj, HBj⟩ := hrel
    have k1 : wr.cell? ⟨g, 1, none⟩ = some (.slice Av nv cv) := (blk_cell (blk_below HG1.out HBj.out) 1).trans rfl
    by_cases hjn : j < nv
    · have hjn2 : (j : Int) < nv := by omega
      have hj0 : (0 : Int) ≤ j := by omega
      obtain ⟨vb, voff, cap, hvv, hcap, _, hat, _⟩ := H2.out.at (by omega)
      injection hvv with e1 _ e3
      subst e1 e3
      have hjp : j < pv.length := by have := HNV.out; omega
      obtain ⟨p, hp⟩ : ∃ p, pv[j] = p := ⟨_, rfl⟩
      have hg : Bs w w0.heap.size cA p.1 p.2.f0 := HGV.out p (by rw [← hp]; exact List.getElem_mem hjp)
      obtain ⟨Ax, cx, hpx, _, _⟩ := Kd.R_reads hg
      obtain ⟨lx, hlx⟩ : ∃ lx, p.2.f0.length = lx := ⟨_, rfl⟩
      rw [hlx] at hpx
      have kx : wr.cell? ⟨vb, voff + j, none⟩ = some (.slice Ax lx cx) := by
        refine pw_cell_below HBj.out ((hat j (by omega)).trans ?_)
        rw [List.getElem?_map, List.getElem?_eq_getElem hjp, hp, ← hpx]
        rfl
      have hnx : flat ((pv.take (j + 1)).map clr') = flat ((pv.take j).map clr') ++ [.slice Ax lx cx, .bool false] := by
        rw [List.take_succ_eq_append_getElem hjp, List.map_append, flat_append, hp, ← hpx]
        rfl
      have HNX := Aside0.mk hnx
      clear hnx hg hpx hlx hp hat hcap hjp
      go_wp2_with (first
        | ((with_reducible refine gate_builtin (b := .append) (xs := #[.tmp 20, .tmp 29]) rfl ?_); at_builtin; go_must ((refine row_plain rfl (.tmp 20) (.tmp 29) 43 43 69 (.agg #[.slice none 0 0, .bool false]) 2 32 rfl Try.underlying43 infoIm rfl (by decide) (by decide) _ (.slice (some ⟨wr.heap.size, 0, none⟩) 1 1) j 1 (flat ((pv.take j).map clr')) [.slice Ax lx cx, .bool false] (fun k => w.heap.size ≤ k) rfl rfl (HRj.out.below (by decide) (below_alloc (Below.refl _ _) _)) (src_item Try.underlying43 (blk_new wr _) rfl rfl) (by omega) ?_; intro v30 w30 hr30 hl30; obtain ⟨hr30, hb30⟩ := row_more (w := w) (below_alloc HBj.out (.cells #[.slice Ax lx cx, .bool false] 69)) hr30 hl30; have HR30 := Aside0.mk hr30; have HB30 := Aside0.mk hb30; clear hr30 hl30 hb30))))
      go_roundg (nv - (j + 1))
      case measure => omega
      case rel => exact ⟨j + 1, rfl, by go_num, by omega, ⟨by rw [HNX.out]; exact HR30.out⟩, HB30⟩
    · obtain rfl : j = nv := by omega
      obtain ⟨A5, c5, rfl, _⟩ := HRj.out.shape
      have k0 : wr.cell? ⟨g, 0, none⟩ = some (.slice (some ⟨gq, 0, none⟩) n n) := (blk_cell (blk_below HG1.out HBj.out) 0).trans rfl
      have h35 := blk_below H3.out HBj.out
      have k2 : wr.cell? ⟨gq, m, none⟩ = _ := (blk_cell h35 m).trans HE.out
      have f2 := blk_frozen h35 m
      clear h35
      go_wp2
      go_ret
      refine ⟨rfl, ?_⟩
      have hlen : (pv.map clr').length = j := by rw [List.length_map, HNV.out]
      have htk : pv.take j = pv := List.take_of_length_le (by have := HNV.out; omega)
      have hr5 := HRj.out
      rw [htk] at hr5
      have hr' : Row wr 2 (fun k => w.heap.size ≤ k) (.slice A5 j c5) (pv.map clr').length (flat (pv.map clr')) := by
        rw [hlen]
        exact hr5
      have key := mid_row HR.out HLA.out HCol.out HM.out H3.out HBB.out HBj.out _ hr' (fun _ h => h) (fun q hq => by
        obtain ⟨q', hq', rfl⟩ := List.mem_map.1 hq
        exact (HGV.out q' hq').below HBj.out)
      have hmm : (pv.map clr').map Prod.snd = vw.map clr := by
        rw [← HPV.out, List.map_map, List.map_map]
        rfl
      rw [hmm] at key
      exact key
end Go.Proofs.Yteeddalalfemmaa.K

namespace Go.Proofs.Yteeddalalfemmaa.K
open Go.RowKit Go.Proofs.YteeddalalfemmaaW.PrintWords Go.Proofs.YteeddalalfemmaaW.PrintLast Go.Proofs.YteeddalalfemmaaW.PrintMore
set_option linter.unusedVariables false
set_option linter.unusedSimpArgs false

section
variable {P : Program} {ops : Array Oper} {o : Oper} {a : Act} {Q : Exit → Act → World → Prop} {Kc : Act → World → Prop} {w0 W : World}
/-- An append of bytes in a region of open order. -/
theorem app_bytes_step (base : Nat) (hw : Region.wanted o (yielded ops a.tmps) = true) (s x : Operand) (t : TypeId)
    (ho : o.op = .call { callee := .builtin .append, args := #[s, x], argTypes := #[t, t] }) (ht : P.underlying t = some (.slice 5))
    (hinfo : (P.info? 5).map (fun i => (i.zero, i.size, i.bytes)) = some (some (.int .u8 0), 1, 1))
    (v xv : Value) (xs ys : List Int) (ok : Nat → Prop) (hs : a.eval s = v) (hx : a.eval x = xv)
    (HO : Kd.R (Kd.int .u8) 5 W base ok v xs) (HR : Rd W xv ys) (hfresh : ∀ k, W.heap.size ≤ k → ok k) (HB : Below base w0 W) (hbase : base ≤ W.heap.size) (hl : xs.length + ys.length ≤ 140737488355328)
    (h : ∀ v1 w1, Kd.R (Kd.int .u8) 5 w1 base ok v1 (xs ++ ys) → Below base w0 w1 → W.grownBy w1 v.ownBlock → Kc (a.put o.dst v1) w1) :
    if Region.wanted o (yielded ops a.tmps) = true then Oper.wp P o a W Kc Q else Kc (a.put o.dst undef) W := by
  obtain ⟨A, c, rfl, hc, hC⟩ := HR
  exact Kd.R_append_rows_step B base hw s x t 5 (.int .u8 0) 1 ho ht hinfo rfl (by decide) (by omega) v xs ys A _ c ok (fun _ => False) hs hx HO hC (fun _ _ h => h) (fun _ h => h.elim) hfresh HB hbase (by omega) (fun v1 w1 h1 h2 h3 _ => h v1 w1 h1 h2 h3)
end
theorem bytes_none {W : World} {base b : Nat} {ok : Nat → Prop} (h : W.heap[b]? = some (.cells #[] 5 (0, 0))) (hb : base ≤ b) (hok : ok b) : Kd.R (Kd.int .u8) 5 W base ok (.slice (some ⟨b, 0, none⟩) 0 0) [] :=
  ⟨fun k hk => by injection hk with hk; rw [← hk]; exact hok, [], ⟨rfl, .inr ⟨b, 0, #[], rfl, hb, h, Nat.le_refl _, by decide, by simp, rfl⟩⟩, Reps.none _ _⟩
theorem row_first2 {w W w' : World} {size n b : Nat} {v : Value} {l : List Value} (hs : 0 < size) (hb : Below w.heap.size w W) (h : Row w' size (fun j => False ∨ W.heap.size ≤ j) v (0 + n) ([] ++ l)) (hbW : b < W.heap.size ∨ w'.heap.size ≤ b) : Row w' size (fun k => w.heap.size ≤ k ∧ k ≠ b) v n l := by
  have h2 := (h.bound hs).mono (ok' := fun k => w.heap.size ≤ k ∧ k ≠ b) (fun k hk => by
    have := hb.size
    obtain ⟨h1, h2⟩ := hk
    rcases h1 with h1 | h1
    · exact h1.elim
    · exact ⟨by omega, by omega⟩)
  rw [Nat.zero_add] at h2
  exact h2
/-- What a method that lays a new row into queue m leaves, the new blocks coloured by cN. -/
theorem mid_row2 {w0 w w1 : World} {g gq m : Nat} {col cN : Nat → Nat} {vw : List It} {qs : List (List It)} {cs : Array Value} {v : Value} {ps : List (Value × It)} (hR : Mel w w0.heap.size g gq cN vw qs) (hL : Lef w w col cN) (hm : m < qs.length)
    (h3 : w.heap[gq]? = some (.cells cs 43 (0, 0))) (hB : Below w0.heap.size w0 w) (hb : Below w.heap.size w w1) (ok : Nat → Prop) (hr : Row w1 2 ok v ps.length (flat ps)) (hok : ∀ k, ok k → k < w1.heap.size → w.heap.size ≤ k ∧ cN k = 11 + m) (hg : Good w1 w0.heap.size cN ps) : Mid w0 w (w1.setCell ⟨gq, m, none⟩ v) g gq col vw (qs.set m (ps.map Prod.snd)) := by
  have hr := (hr.bound (by omega)).mono (ok' := fun k => w.heap.size ≤ k ∧ cN k = 11 + m) (fun k hk => hok k hk.1 hk.2)
  have hne : ∀ q, q ≠ gq → (w1.setCell ⟨gq, m, none⟩ v).heap[q]? = w1.heap[q]? := fun q hq => Below.heap_setCell _ _ _ _ hq
  have hgc := hR.ge
  have hs := hb.size
  have hs0 := hB.size
  have h35 := blk_below h3 hb
  have hm4 := (hR.below hb).turnQ (W' := w1.setCell ⟨gq, m, none⟩ v) hm h35 (by simp [World.setCell]) (fun q _ _ _ hq => hne q hq) (blk_set h35 m _)
    ((hr.step (by omega) (fun q _ hq => hne q (by rintro rfl; have := hq.1; omega))).mono (fun k hk => ⟨by have := hk.1; omega, hk.2⟩))
    (fun p hp => (hg p hp).step (fun q _ hq => hne q (by rintro rfl; omega)) (fun _ _ => rfl))
  refine ⟨⟨cN, hm4, Nat.le_trans hs (by simp [World.setCell]), hL.2.1, fun q hq h9 => ?_⟩, (below_step hB hb).setCell (by show w0.heap.size ≤ gq; omega) _⟩
  rw [hne q (by rintro rfl; have := hL.2.1 q hq; omega)]
  exact hb.block q hq
/-- Forge: the new blocks: b and what lies from lo up to hi are bytes, the others the queue's. -/
theorem forge_end {w0 w w1 wF : World} {g gq m b hi : Nat} {col : Nat → Nat} {vw : List It} {qs : List (List It)} {cs : Array Value} {v vb : Value} {ps : List (Value × It)} {l : List Int} {n : Nat} {l2 : List Value} (hR : Mel w w0.heap.size g gq col vw qs) (hm : m < qs.length)
    (h3 : w.heap[gq]? = some (.cells cs 43 (0, 0))) (hB : Below w0.heap.size w0 w) (hb : Below w.heap.size w w1) (hlo : w.heap.size ≤ wF.heap.size) (hle : w.heap.size ≤ b)
    (hr : Row w1 2 (fun k => ((w.heap.size ≤ k ∧ k ≠ b) ∧ k < wF.heap.size) ∨ hi ≤ k) v n l2) (hhi : wF.heap.size ≤ hi) (hbh : b < hi) (hn : (ps ++ [(vb, (⟨l, false⟩ : It))]).length = n) (hfl : flat (ps ++ [(vb, (⟨l, false⟩ : It))]) = l2) (hg : Good w w0.heap.size col ps)
    (hx : Kd.R (Kd.int .u8) 5 w1 w.heap.size (fun k => (k = b ∨ wF.heap.size ≤ k) ∧ k < hi) vb l) : Mid w0 w (w1.setCell ⟨gq, m, none⟩ v) g gq col vw (qs.set m (ps.map Prod.snd ++ [⟨l, false⟩])) := by
  subst hn hfl
  obtain ⟨cN, hcN⟩ : ∃ cN : Nat → Nat, cN = fun k => if k < w.heap.size then col k else if (k = b ∨ wF.heap.size ≤ k) ∧ k < hi then 9 else 11 + m := ⟨_, rfl⟩
  have hold : ∀ k, k < w.heap.size → cN k = col k := fun k hk => by rw [hcN]; exact if_pos hk
  have hM := hR.step (W' := w) (col' := cN) (Nat.le_refl _) (fun _ _ _ => rfl) hold
  have key := mid_row2 hM ⟨Nat.le_refl _, hold, fun _ _ _ => rfl⟩ hm h3 hB hb _ hr (fun k hk _ => by
    have h1 : w.heap.size ≤ k := by rcases hk with hk | hk <;> omega
    refine ⟨h1, ?_⟩
    rw [hcN]
    show (if k < w.heap.size then col k else if (k = b ∨ wF.heap.size ≤ k) ∧ k < hi then 9 else 11 + m) = _
    rw [if_neg (by omega), if_neg (by rcases hk with hk | hk <;> omega)]) (good_snoc (hg.recol hb hold) (Kd.R_mono (Kd.R_lower (Kd.R_bound hx) hB.size) (fun k hk => by
    rw [hcN]
    show (if k < w.heap.size then col k else if (k = b ∨ wF.heap.size ≤ k) ∧ k < hi then 9 else 11 + m) = 9
    have h1 := hk.1
    rw [if_neg (by omega), if_pos h1])))
  rw [List.map_append, List.map_cons, List.map_nil] at key
  exact key
end Go.Proofs.Yteeddalalfemmaa.K

namespace Go.Proofs.Yteeddalalfemmaa.K
open Go.RowKit Go.Proofs.YteeddalalfemmaaW.PrintWords Go.Proofs.YteeddalalfemmaaW.PrintLast Go.Proofs.YteeddalalfemmaaW.PrintMore
set_option linter.unusedVariables false
set_option linter.unusedSimpArgs false

def mforge_ok.T5 : Bool × List (List Nat × List Nat) := (true, [([], []), ([0], [0]), ([1], [1]), ([2], [2]), ([], []), ([], []), ([], []), ([6], [6]), ([7], [7]), ([8], [8]), ([], []), ([9, 10], [9, 10]), ([11], [11]), ([5, 12], [5, 12]), ([], []), ([], []), ([14, 15, 13], [14, 15]), ([16], [16]), ([17], [17]), ([13, 18, 16], [13, 18]), ([3, 4, 0, 1, 2, 3, 4, 5, 6, 7, 8, 9, 10, 11, 12, 13, 14, 15, 16, 17, 18, 19], [3, 4]), ([20, 19, 19, 0, 1, 2, 3, 4, 5, 6, 7, 8, 9, 10, 11, 12, 13, 14, 15, 16, 17, 18, 19], [19, 20])])
def mforge_ok.B5 : List Nat := [0, 1, 3, 7, 0, 0, 0, 64, 192, 448, 0, 1984, 4032, 8160, 0, 0, 65504, 131040, 262112, 524256, 1048575, 2097151]
theorem mforge_ok.tab5 : rtab .any (opsOf Try.f26 5) = mforge_ok.T5 := by kernel_rfl
theorem mforge_ok.bits5 : waitsOk mforge_ok.T5.2 mforge_ok.B5 = true := by kernel_rfl
set_option maxRecDepth 100000 in
set_option maxHeartbeats 8000000 in
theorem mforge_ok (g gq m : Nat) (col : Nat → Nat) (vw : List It) (qs : List (List It)) (xs : List It) (vb : Value) (l : List Int) (w0 w : World) (hR : Mel w w0.heap.size g gq col vw qs) (hm : m < qs.length) (hxs : qs[m] = xs) (hb : Rd w vb l) (hl : l.length ≤ 4000) (hq9 : xs.length < 5000) (hB : Below w0.heap.size w0 w) :
    Calls Try.prog 26 #[.pointer (some ⟨g, 0, none⟩), .int .i64 m, vb] w fun e w' => e = .returned (.int .i64 0) ∧ Mid w0 w w' g gq col vw (qs.set m (xs ++ [⟨l, false⟩])) := by
  obtain ⟨vv, pv, h1, _⟩ := hR.blk
  obtain ⟨cs, v, ps, h3, h4, e, r, e2, gg⟩ := hR.queue m hm _ hxs
  have hpl : ps.length = xs.length := by rw [← e2]; simp
  obtain ⟨Am, cm, rfl, hcm⟩ := r.shape
  obtain ⟨n, hn⟩ : ∃ n, ps.length = n := ⟨_, rfl⟩
  obtain ⟨q8, hq8⟩ : ∃ q, qs.length = q := ⟨_, rfl⟩
  obtain ⟨A2, c2, rfl, hc2, hC2⟩ := hb
  have HRb : Aside0 (Rd w (.slice A2 l.length c2) l) := ⟨A2, c2, rfl, hc2, hC2⟩
  rw [hn] at r e hcm
  have H1' := Aside0.mk h1
  rw [hq8] at h1
  have H1 := Aside0.mk h1
  have c0 : w.cell? ⟨g, 0, none⟩ = some (.slice (some ⟨gq, 0, none⟩) q8 q8) := (blk_cell h1 0).trans rfl
  have c1 : w.cell? ⟨gq, m, none⟩ = some (.slice Am n cm) := (blk_cell h3 m).trans e
  have HD : Aside0 (decide (0 ≤ (m : Int) ∧ (m : Int) < (q8 : Int)) = true) := ⟨decide_eq_true (by omega)⟩
  have hm0 : (0 : Int) ≤ m := by omega
  have hm1 : (m : Int) < q8 := by omega
  have hn9 : n < 5000 := by omega
  have hl1 : decide ((4000 : Int) < l.length) = false := decide_eq_false (by omega)
  have hn1 : decide ((5000 : Int) ≤ n) = false := decide_eq_false (by omega)
  have HR := Aside0.mk hR
  have Hr := Aside0.mk r
  have HB := Aside0.mk hB
  have H3 := Aside0.mk h3
  have HL := Aside0.mk hl
  have HGG := Aside0.mk gg
  have HM := Aside0.mk hm
  have HE := Aside0.mk e2
  have HN := Aside0.mk hn
  clear hR r hB h1 h3 h4 gg hm e2 e hn hpl hxs hq9 hcm hc2 hC2 hl hq8
  go_enter Try.func26, Try.ntmps26
  go_wp2_with (first
    | ((with_reducible refine gate_dst (N := 9) rfl ?_); go_must (((try (refine gate_guard (by rfl) ?_; dsimp only)); refine goesL_ (some 9) rfl rfl Try.func35 (by kernel_rfl) rfl #[.pointer (some ⟨g, 0, none⟩), .int .i64 m] rfl ?hA ?_; (case hA => ((try simp only [List.map_toArray, List.map_cons, List.map_nil]); first | done | rfl)); refine (mreader_calls g gq q8 m _ _ H1.out).mono ?_; rintro e w9 ⟨rfl, ⟨m9, rfl⟩⟩; refine ⟨_, rfl, ?_⟩; rw [HD.out]))))
  refine start_ (n := 22) (S := fun w' => w'.cell? ⟨g, 0, none⟩ = some (.slice (some ⟨gq, 0, none⟩) q8 q8) ∧ w'.cell? ⟨gq, m, none⟩ = some (.slice Am n cm)) (ds := [21]) #[false, false, false, false, false, false, false, false, false, false, false, false, false, false, false, false, false, false, false, false, false, false] (by kernel_rfl) rfl rfl ⟨c0, c1⟩ (fun hHeld => ?_)
  refine with_tabW mforge_ok.tab5 mforge_ok.bits5 (fun HT_ HW_ => ?_)
  refine pure_ (i := 0) (N := some 25) (v := ?_) (a' := ?_) #[true, false, false, false, false, false, false, false, false, false, false, false, false, false, false, false, false, false, false, false, false, false] rfl rfl (any_of HT_.out (by kernel_rfl)) (fun _ _ _ h => h) (Or.inl ⟨by rfl, ?_⟩) ?_ ?_
  rotate_left
  · intro w'
    go_simp
    with_reducible rfl
  rotate_left
  · simp only [Act.put, List.setIfInBounds_toArray, List.set_cons_zero, List.set_cons_succ, i64_w, i32_w]
    rfl
  refine pure_ (i := 1) (N := some 26) (v := ?_) (a' := ?_) #[true, true, false, false, false, false, false, false, false, false, false, false, false, false, false, false, false, false, false, false, false, false] rfl rfl (any_of HT_.out (by kernel_rfl)) (fun _ _ _ h => h) (Or.inl ⟨by rfl, ?_⟩) ?_ ?_
  rotate_left
  · intro w'
    go_simp
    with_reducible rfl
  rotate_left
  · simp only [Act.put, List.setIfInBounds_toArray, List.set_cons_zero, List.set_cons_succ, i64_w, i32_w]
    rfl
  refine pure_ (i := 2) (N := some 27) (v := ?_) (a' := ?_) #[true, true, true, false, false, false, false, false, false, false, false, false, false, false, false, false, false, false, false, false, false, false] rfl rfl (any_of HT_.out (by kernel_rfl)) (fun _ _ _ h => h) (Or.inl ⟨by rfl, ?_⟩) ?_ ?_
  rotate_left
  · intro w'
    go_simp
    with_reducible rfl
  rotate_left
  · simp only [Act.put, List.setIfInBounds_toArray, List.set_cons_zero, List.set_cons_succ, i64_w, i32_w]
    rfl
  refine pure_ (i := 4) (N := some 29) (v := ?_) (a' := ?_) #[true, true, true, false, true, false, false, false, false, false, false, false, false, false, false, false, false, false, false, false, false, false] rfl rfl (any_of HT_.out (by kernel_rfl)) (fun _ _ _ h => h) (Or.inl ⟨by rfl, ?_⟩) ?_ ?_
  rotate_left
  · intro w'
    go_simp
    with_reducible rfl
  rotate_left
  · simp only [Act.put, List.setIfInBounds_toArray, List.set_cons_zero, List.set_cons_succ, i64_w, i32_w]
    rfl
  refine pure_ (i := 6) (N := some 31) (v := ?_) (a' := ?_) #[true, true, true, false, true, false, true, false, false, false, false, false, false, false, false, false, false, false, false, false, false, false] rfl rfl (any_of HT_.out (by kernel_rfl)) (fun _ _ _ h => h) (Or.inl ⟨by rfl, ?_⟩) ?_ ?_
  rotate_left
  · intro w'
    go_simp
    with_reducible rfl
  rotate_left
  · simp only [Act.put, List.setIfInBounds_toArray, List.set_cons_zero, List.set_cons_succ, i64_w, i32_w]
    rfl
  refine pure_ (i := 7) (N := some 32) (v := ?_) (a' := ?_) #[true, true, true, false, true, false, true, true, false, false, false, false, false, false, false, false, false, false, false, false, false, false] rfl rfl (any_of HT_.out (by kernel_rfl)) (fun _ _ _ h => h) (Or.inl ⟨by rfl, ?_⟩) ?_ ?_
  rotate_left
  · intro w'
    go_simp
    with_reducible rfl
  rotate_left
  · simp only [Act.put, List.setIfInBounds_toArray, List.set_cons_zero, List.set_cons_succ, i64_w, i32_w]
    rfl
  refine pure_ (i := 8) (N := some 33) (v := ?_) (a' := ?_) #[true, true, true, false, true, false, true, true, true, false, false, false, false, false, false, false, false, false, false, false, false, false] rfl rfl (any_of HT_.out (by kernel_rfl)) (fun _ _ _ h => h) (Or.inl ⟨by rfl, ?_⟩) ?_ ?_
  rotate_left
  · intro w'
    go_simp
    with_reducible rfl
  rotate_left
  · simp only [Act.put, List.setIfInBounds_toArray, List.set_cons_zero, List.set_cons_succ, i64_w, i32_w]
    rfl
  refine pure_ (i := 10) (N := some 35) (v := ?_) (a' := ?_) #[true, true, true, false, true, false, true, true, true, false, true, false, false, false, false, false, false, false, false, false, false, false] rfl rfl (any_of HT_.out (by kernel_rfl)) (fun _ _ _ h => h) (Or.inl ⟨by rfl, ?_⟩) ?_ ?_
  rotate_left
  · intro w'
    go_simp
    with_reducible rfl
  rotate_left
  · simp only [Act.put, List.setIfInBounds_toArray, List.set_cons_zero, List.set_cons_succ, i64_w, i32_w]
    rfl
  refine pure_ (i := 15) (N := some 40) (v := ?_) (a' := ?_) #[true, true, true, false, true, false, true, true, true, false, true, false, false, false, false, true, false, false, false, false, false, false] rfl rfl (any_of HT_.out (by kernel_rfl)) (fun _ _ _ h => h) (Or.inl ⟨by rfl, ?_⟩) ?_ ?_
  rotate_left
  · intro w'
    go_simp
    with_reducible rfl
  rotate_left
  · simp only [Act.put, List.setIfInBounds_toArray, List.set_cons_zero, List.set_cons_succ, i64_w, i32_w]
    rfl
  refine take_ (i := 3) (N := some 28) (v := ?_) (a' := ?_) #[true, true, true, true, true, false, true, true, true, false, true, false, false, false, false, true, false, false, false, false, false, false] rfl rfl (take_ofW HT_.out HW_.out (by kernel_rfl)) (fun _ _ _ h => h) (Or.inl ⟨by rfl, ?_⟩) hHeld ?_ ?_
  rotate_left
  · rintro w' ⟨s0, s1⟩
    go_simp
    with_reducible rfl
  rotate_left
  · simp only [Act.put, List.setIfInBounds_toArray, List.set_cons_zero, List.set_cons_succ, i64_w, i32_w]
    rfl
  refine take_ (i := 9) (N := some 34) (v := ?_) (a' := ?_) #[true, true, true, true, true, false, true, true, true, true, true, false, false, false, false, true, false, false, false, false, false, false] rfl rfl (take_ofW HT_.out HW_.out (by kernel_rfl)) (fun _ _ _ h => h) (Or.inl ⟨by rfl, ?_⟩) hHeld ?_ ?_
  rotate_left
  · rintro w' ⟨s0, s1⟩
    go_simp
    with_reducible rfl
  rotate_left
  · simp only [Act.put, List.setIfInBounds_toArray, List.set_cons_zero, List.set_cons_succ, i64_w, i32_w]
    rfl
  refine pure_ (i := 11) (N := some 36) (v := ?_) (a' := ?_) #[true, true, true, true, true, false, true, true, true, true, true, true, false, false, false, true, false, false, false, false, false, false] rfl rfl (any_of HT_.out (by kernel_rfl)) (fun _ _ _ h => h) (Or.inl ⟨by rfl, ?_⟩) ?_ ?_
  rotate_left
  · intro w'
    go_simp
    with_reducible rfl
  rotate_left
  · simp only [Act.put, List.setIfInBounds_toArray, List.set_cons_zero, List.set_cons_succ, i64_w, i32_w]
    rfl
  refine take_ (i := 12) (N := some 37) (v := ?_) (a' := ?_) #[true, true, true, true, true, false, true, true, true, true, true, true, true, false, false, true, false, false, false, false, false, false] rfl rfl (take_ofW HT_.out HW_.out (by kernel_rfl)) (fun _ _ _ h => h) (Or.inl ⟨by rfl, ?_⟩) hHeld ?_ ?_
  rotate_left
  · rintro w' ⟨s0, s1⟩
    go_simp
    with_reducible rfl
  rotate_left
  · simp only [Act.put, List.setIfInBounds_toArray, List.set_cons_zero, List.set_cons_succ, i64_w, i32_w]
    rfl
  refine join_ (σ := Nat × Value × Nat) 6 #[true, true, true, true, true, true, true, true, true, true, true, true, true, true, true, true, false, false, false, false, false, false] (fun s => [(30, .slice (some ⟨s.1, 0, none⟩) 0 0), (38, s.2.1), (39, .slice (some ⟨s.2.2, 0, none⟩) 0 0)]) (fun s w' => (Row w' 2 (fun k => w.heap.size ≤ k ∧ k ≠ s.2.2) s.2.1 n (flat ps) ∧ w'.heap[s.2.2]? = some (.cells #[] 5 (0, 0)) ∧ w.heap.size ≤ s.2.2 ∧ Below w.heap.size w w') ∧ w'.cell? ⟨g, 0, none⟩ = some (.slice (some ⟨gq, 0, none⟩) q8 q8) ∧ w'.cell? ⟨gq, m, none⟩ = some (.slice Am n cm)) ?_ ?_
  rotate_left
  · intro hCont
    refine two_ (i := 5) (j := 14) (Ni := some 30) (Nj := some 39) #[true, true, true, true, true, true, true, true, true, true, true, true, true, false, false, true, false, false, false, false, false, false] #[true, true, true, true, true, false, true, true, true, true, true, true, true, false, true, true, false, false, false, false, false, false] rfl rfl rfl rfl (two_of HT_.out (by kernel_rfl)) (by decide) (by decide) (fun K hK => ?_) (fun K hK => ?_)
    · skip
      refine value_ (w1 := ?_) (v := ?_) (by rfl) rfl ?_ ?_
      rotate_left 2
      · go_simp
        constructor
        · rfl
        · rfl
      refine hK.out _ _ ⟨(pw_cell_below (by repeat (first | exact Below.refl _ _ | exact hb38 | apply below_alloc | apply pw_below_drewN | apply below_drew1)) c0), (pw_cell_below (by repeat (first | exact Below.refl _ _ | exact hb38 | apply below_alloc | apply pw_below_drewN | apply below_drew1)) c1)⟩ (fun hHeld => ?_)
      clear hK K
      refine norm_ (a' := ?_) ?_ ?_
      rotate_left
      · show Act.put _ (some 30) _ = _
        simp only [Act.put, List.setIfInBounds_toArray, List.set_cons_zero, List.set_cons_succ, i64_w, i32_w]
        rfl
      refine two_ (i := 13) (j := 14) (Ni := some 38) (Nj := some 39) #[true, true, true, true, true, true, true, true, true, true, true, true, true, true, false, true, false, false, false, false, false, false] #[true, true, true, true, true, true, true, true, true, true, true, true, true, false, true, true, false, false, false, false, false, false] rfl rfl rfl rfl (two_of HT_.out (by kernel_rfl)) (by decide) (by decide) (fun K hK => ?_) (fun K hK => ?_)
      · skip
        refine row_step (by rfl) (.tmp 30) (.tmp 37) 43 43 69 (.agg #[.slice none 0 0, .bool false]) 2 32 rfl Try.underlying43 infoIm rfl (by decide) (by decide) _ (.slice Am n cm) 0 n [] (flat ps) (fun _ => False) rfl rfl (Row.nil _ _ _ _) ?_ ?_ ?_
        · exact Row.src (Hr.out.below (by decide) (by repeat (first | exact Below.refl _ _ | exact hb38 | apply below_alloc | apply pw_below_drewN | apply below_drew1))) Try.underlying43 (Good.one HGG.out)
        · omega
        intro v38 w38 hr38 hl38
        have hr38' := row_first2 (w := w) (b := w38.heap.size) (by decide) (by repeat (first | exact Below.refl _ _ | exact hb38 | apply below_alloc | apply pw_below_drewN | apply below_drew1)) hr38 (.inr (Nat.le_refl _))
        obtain ⟨_, hb38⟩ := row_first (w := w) (by repeat (first | exact Below.refl _ _ | exact hb38 | apply below_alloc | apply pw_below_drewN | apply below_drew1)) hr38 hl38
        refine hK.out _ _ ⟨(pw_cell_below hb38 c0), (pw_cell_below hb38 c1)⟩ (fun hHeld => ?_)
        clear hK K
        refine norm_ (a' := ?_) ?_ ?_
        rotate_left
        · show Act.put _ (some 38) _ = _
          simp only [Act.put, List.setIfInBounds_toArray, List.set_cons_zero, List.set_cons_succ, i64_w, i32_w]
          rfl
        refine one_ (i := 14) (N := some 39) #[true, true, true, true, true, true, true, true, true, true, true, true, true, true, true, true, false, false, false, false, false, false] rfl rfl (one_of HT_.out (by kernel_rfl)) (by decide) (fun K hK => ?_)
        refine value_ (w1 := ?_) (v := ?_) (by rfl) rfl ?_ ?_
        rotate_left 2
        · go_simp
          constructor
          · rfl
          · rfl
        refine hK.out _ _ ⟨(pw_cell_below (by repeat (first | exact Below.refl _ _ | exact hb38 | apply below_alloc | apply pw_below_drewN | apply below_drew1)) c0), (pw_cell_below (by repeat (first | exact Below.refl _ _ | exact hb38 | apply below_alloc | apply pw_below_drewN | apply below_drew1)) c1)⟩ (fun hHeld => ?_)
        clear hK K
        refine norm_ (a' := ?_) ?_ ?_
        rotate_left
        · show Act.put _ (some 39) _ = _
          simp only [Act.put, List.setIfInBounds_toArray, List.set_cons_zero, List.set_cons_succ, i64_w, i32_w]
          rfl
        exact norm_ (by simp only [putAll, Act.put, List.setIfInBounds_toArray, List.set_cons_zero, List.set_cons_succ]) (hCont (w.heap.size, v38, w38.heap.size) _ ⟨⟨hr38'.below (by decide) (below_alloc (Below.refl _ _) _), blk_new w38 _, hb38.size, below_alloc hb38 _⟩, pw_cell_below (by repeat (first | exact Below.refl _ _ | exact hb38 | apply below_alloc | apply pw_below_drewN | apply below_drew1)) c0, pw_cell_below (by repeat (first | exact Below.refl _ _ | exact hb38 | apply below_alloc | apply pw_below_drewN | apply below_drew1)) c1⟩)
      · skip
        refine value_ (w1 := ?_) (v := ?_) (by rfl) rfl ?_ ?_
        rotate_left 2
        · go_simp
          constructor
          · rfl
          · rfl
        refine hK.out _ _ ⟨(pw_cell_below (by repeat (first | exact Below.refl _ _ | exact hb38 | apply below_alloc | apply pw_below_drewN | apply below_drew1)) c0), (pw_cell_below (by repeat (first | exact Below.refl _ _ | exact hb38 | apply below_alloc | apply pw_below_drewN | apply below_drew1)) c1)⟩ (fun hHeld => ?_)
        clear hK K
        refine norm_ (a' := ?_) ?_ ?_
        rotate_left
        · show Act.put _ (some 39) _ = _
          simp only [Act.put, List.setIfInBounds_toArray, List.set_cons_zero, List.set_cons_succ, i64_w, i32_w]
          rfl
        refine one_ (i := 13) (N := some 38) #[true, true, true, true, true, true, true, true, true, true, true, true, true, true, true, true, false, false, false, false, false, false] rfl rfl (one_of HT_.out (by kernel_rfl)) (by decide) (fun K hK => ?_)
        refine row_step (by rfl) (.tmp 30) (.tmp 37) 43 43 69 (.agg #[.slice none 0 0, .bool false]) 2 32 rfl Try.underlying43 infoIm rfl (by decide) (by decide) _ (.slice Am n cm) 0 n [] (flat ps) (fun _ => False) rfl rfl (Row.nil _ _ _ _) ?_ ?_ ?_
        · exact Row.src (Hr.out.below (by decide) (by repeat (first | exact Below.refl _ _ | exact hb38 | apply below_alloc | apply pw_below_drewN | apply below_drew1))) Try.underlying43 (Good.one HGG.out)
        · omega
        intro v38 w38 hr38 hl38
        have hx38 := blk_below (blk_new _ _) hl38.new
        have hr38' := row_first2 (w := w) (b := (w.heap.size + 1)) (by decide) (by repeat (first | exact Below.refl _ _ | exact hb38 | apply below_alloc | apply pw_below_drewN | apply below_drew1)) hr38 (.inl (by simp <;> omega))
        obtain ⟨_, hb38⟩ := row_first (w := w) (by repeat (first | exact Below.refl _ _ | exact hb38 | apply below_alloc | apply pw_below_drewN | apply below_drew1)) hr38 hl38
        refine hK.out _ _ ⟨(pw_cell_below hb38 c0), (pw_cell_below hb38 c1)⟩ (fun hHeld => ?_)
        clear hK K
        refine norm_ (a' := ?_) ?_ ?_
        rotate_left
        · show Act.put _ (some 38) _ = _
          simp only [Act.put, List.setIfInBounds_toArray, List.set_cons_zero, List.set_cons_succ, i64_w, i32_w]
          rfl
        exact norm_ (by simp only [putAll, Act.put, List.setIfInBounds_toArray, List.set_cons_zero, List.set_cons_succ]) (hCont (w.heap.size, v38, w.heap.size + 1) _ ⟨⟨hr38', by simpa using hx38, by simp, hb38⟩, pw_cell_below (by repeat (first | exact Below.refl _ _ | exact hb38 | apply below_alloc | apply pw_below_drewN | apply below_drew1)) c0, pw_cell_below (by repeat (first | exact Below.refl _ _ | exact hb38 | apply below_alloc | apply pw_below_drewN | apply below_drew1)) c1⟩)
    · skip
      refine value_ (w1 := ?_) (v := ?_) (by rfl) rfl ?_ ?_
      rotate_left 2
      · go_simp
        constructor
        · rfl
        · rfl
      refine hK.out _ _ ⟨(pw_cell_below (by repeat (first | exact Below.refl _ _ | exact hb38 | apply below_alloc | apply pw_below_drewN | apply below_drew1)) c0), (pw_cell_below (by repeat (first | exact Below.refl _ _ | exact hb38 | apply below_alloc | apply pw_below_drewN | apply below_drew1)) c1)⟩ (fun hHeld => ?_)
      clear hK K
      refine norm_ (a' := ?_) ?_ ?_
      rotate_left
      · show Act.put _ (some 39) _ = _
        simp only [Act.put, List.setIfInBounds_toArray, List.set_cons_zero, List.set_cons_succ, i64_w, i32_w]
        rfl
      refine one_ (i := 5) (N := some 30) #[true, true, true, true, true, true, true, true, true, true, true, true, true, false, true, true, false, false, false, false, false, false] rfl rfl (one_of HT_.out (by kernel_rfl)) (by decide) (fun K hK => ?_)
      refine value_ (w1 := ?_) (v := ?_) (by rfl) rfl ?_ ?_
      rotate_left 2
      · go_simp
        constructor
        · rfl
        · rfl
      refine hK.out _ _ ⟨(pw_cell_below (by repeat (first | exact Below.refl _ _ | exact hb38 | apply below_alloc | apply pw_below_drewN | apply below_drew1)) c0), (pw_cell_below (by repeat (first | exact Below.refl _ _ | exact hb38 | apply below_alloc | apply pw_below_drewN | apply below_drew1)) c1)⟩ (fun hHeld => ?_)
      clear hK K
      refine norm_ (a' := ?_) ?_ ?_
      rotate_left
      · show Act.put _ (some 30) _ = _
        simp only [Act.put, List.setIfInBounds_toArray, List.set_cons_zero, List.set_cons_succ, i64_w, i32_w]
        rfl
      refine one_ (i := 13) (N := some 38) #[true, true, true, true, true, true, true, true, true, true, true, true, true, true, true, true, false, false, false, false, false, false] rfl rfl (one_of HT_.out (by kernel_rfl)) (by decide) (fun K hK => ?_)
      refine row_step (by rfl) (.tmp 30) (.tmp 37) 43 43 69 (.agg #[.slice none 0 0, .bool false]) 2 32 rfl Try.underlying43 infoIm rfl (by decide) (by decide) _ (.slice Am n cm) 0 n [] (flat ps) (fun _ => False) rfl rfl (Row.nil _ _ _ _) ?_ ?_ ?_
      · exact Row.src (Hr.out.below (by decide) (by repeat (first | exact Below.refl _ _ | exact hb38 | apply below_alloc | apply pw_below_drewN | apply below_drew1))) Try.underlying43 (Good.one HGG.out)
      · omega
      intro v38 w38 hr38 hl38
      have hx38 := blk_below (blk_alloc (blk_new _ _) _) hl38.new
      have hr38' := row_first2 (w := w) (b := w.heap.size) (by decide) (by repeat (first | exact Below.refl _ _ | exact hb38 | apply below_alloc | apply pw_below_drewN | apply below_drew1)) hr38 (.inl (by simp <;> omega))
      obtain ⟨_, hb38⟩ := row_first (w := w) (by repeat (first | exact Below.refl _ _ | exact hb38 | apply below_alloc | apply pw_below_drewN | apply below_drew1)) hr38 hl38
      refine hK.out _ _ ⟨(pw_cell_below hb38 c0), (pw_cell_below hb38 c1)⟩ (fun hHeld => ?_)
      clear hK K
      refine norm_ (a' := ?_) ?_ ?_
      rotate_left
      · show Act.put _ (some 38) _ = _
        simp only [Act.put, List.setIfInBounds_toArray, List.set_cons_zero, List.set_cons_succ, i64_w, i32_w]
        rfl
      exact norm_ (by simp only [putAll, Act.put, List.setIfInBounds_toArray, List.set_cons_zero, List.set_cons_succ]) (hCont (w.heap.size + 1, v38, w.heap.size) _ ⟨⟨hr38', hx38, Nat.le_refl _, hb38⟩, pw_cell_below (by repeat (first | exact Below.refl _ _ | exact hb38 | apply below_alloc | apply pw_below_drewN | apply below_drew1)) c0, pw_cell_below (by repeat (first | exact Below.refl _ _ | exact hb38 | apply below_alloc | apply pw_below_drewN | apply below_drew1)) c1⟩)
  rintro ⟨a30, v38, b39⟩ wF ⟨⟨hr38, hx39, hle39, hbF⟩, s0, s1⟩
  change Row wF 2 (fun k => w.heap.size ≤ k ∧ k ≠ b39) v38 n (flat ps) at hr38
  change wF.heap[b39]? = _ at hx39
  change w.heap.size ≤ b39 at hle39
  have hHeld := And.intro s0 s1
  refine norm_ (a' := ?_) ?_ ?_
  rotate_left
  · simp only [putAll, Act.put, List.setIfInBounds_toArray, List.set_cons_zero, List.set_cons_succ]
    rfl
  refine one_ (i := 16) (N := some 41) #[true, true, true, true, true, true, true, true, true, true, true, true, true, true, true, true, true, false, false, false, false, false] rfl rfl (one_of HT_.out (by kernel_rfl)) (by decide) (fun K hK => ?_)
  refine app_bytes_step (w0 := w) w.heap.size (by rfl) (.tmp 39) (.tmp 40) 33 rfl Try.underlying33 info5 (.slice (some ⟨b39, 0, none⟩) 0 0) (.slice A2 l.length c2) [] l (fun k => k = b39 ∨ wF.heap.size ≤ k) rfl rfl (bytes_none hx39 hle39 (.inl rfl)) (HRb.out.below hbF) (fun k hk => .inr hk) hbF hbF.size (by have := HL.out; simp; omega) ?_
  intro v41 w41 hr41 hb41 hg41
  rw [List.nil_append] at hr41
  obtain ⟨A41, c41, h41, _, _⟩ := Kd.R_reads hr41
  subst h41
  have hr38b := (hr38.bound (by decide)).step (W' := w41) (by decide) (fun k hlt hk => hg41.block k hlt (fun e => hk.1.2 (by injection e)))
  refine hK.out _ _ ⟨(pw_cell_below hb41 c0), (pw_cell_below hb41 c1)⟩ (fun hHeld => ?_)
  clear hK K
  refine norm_ (a' := ?_) ?_ ?_
  rotate_left
  · show Act.put _ (some 41) _ = _
    simp only [Act.put, List.setIfInBounds_toArray, List.set_cons_zero, List.set_cons_succ, i64_w, i32_w]
    rfl
  refine pure_ (i := 17) (N := some 42) (v := ?_) (a' := ?_) #[true, true, true, true, true, true, true, true, true, true, true, true, true, true, true, true, true, true, false, false, false, false] rfl rfl (any_of HT_.out (by kernel_rfl)) (fun _ _ _ h => h) (Or.inl ⟨by rfl, ?_⟩) ?_ ?_
  rotate_left
  · intro w'
    go_simp
    with_reducible rfl
  rotate_left
  · simp only [Act.put, List.setIfInBounds_toArray, List.set_cons_zero, List.set_cons_succ, i64_w, i32_w]
    rfl
  refine one_ (i := 18) (N := some 43) #[true, true, true, true, true, true, true, true, true, true, true, true, true, true, true, true, true, true, true, false, false, false] rfl rfl (one_of HT_.out (by kernel_rfl)) (by decide) (fun K hK => ?_)
  refine value_ (w1 := ?_) (v := ?_) (by rfl) rfl ?_ ?_
  rotate_left 2
  · go_simp
    constructor
    · rfl
    · rfl
  refine hK.out _ _ ⟨(pw_cell_below (below_alloc hb41 _) c0), (pw_cell_below (below_alloc hb41 _) c1)⟩ (fun hHeld => ?_)
  clear hK K
  refine norm_ (a' := ?_) ?_ ?_
  rotate_left
  · show Act.put _ (some 43) _ = _
    simp only [Act.put, List.setIfInBounds_toArray, List.set_cons_zero, List.set_cons_succ, i64_w, i32_w]
    rfl
  refine one_ (i := 19) (N := some 44) #[true, true, true, true, true, true, true, true, true, true, true, true, true, true, true, true, true, true, true, true, false, false] rfl rfl (one_of HT_.out (by kernel_rfl)) (by decide) (fun K hK => ?_)
  refine row_step (by rfl) (.tmp 38) (.tmp 43) 43 43 69 (.agg #[.slice none 0 0, .bool false]) 2 32 rfl Try.underlying43 infoIm rfl (by decide) (by decide) v38 (.slice (some ⟨w41.heap.size, 0, none⟩) 1 1) n 1 (flat ps) [.slice A41 l.length c41, .bool false] _ rfl rfl (hr38b.below (by decide) (below_alloc (Below.refl _ _) _)) (src_item Try.underlying43 (blk_new w41 _) rfl rfl) (by omega) ?_
  intro v44 w44 hr44 hl44
  have hb43 : Below w.heap.size w (w41.alloc (.cells #[.slice A41 l.length c41, .bool false] 69)) := below_alloc hb41 _
  have hb44 := hl44.below hb43 (fun k hk => hk.1.1)
  obtain ⟨A44, c44, rfl, _⟩ := hr44.shape
  have f44 := blk_frozen (blk_below H3.out hb44) m
  have e44 := pw_cell_below hb44 c1
  refine hK.out _ _ ⟨(pw_cell_below hb44 c0), (pw_cell_below hb44 c1)⟩ (fun hHeld => ?_)
  clear hK K
  refine norm_ (a' := ?_) ?_ ?_
  rotate_left
  · show Act.put _ (some 44) _ = _
    simp only [Act.put, List.setIfInBounds_toArray, List.set_cons_zero, List.set_cons_succ, i64_w, i32_w]
    rfl
  refine pure_ (i := 20) (N := some 45) (v := ?_) (a' := ?_) #[true, true, true, true, true, true, true, true, true, true, true, true, true, true, true, true, true, true, true, true, true, false] rfl rfl (any_of HT_.out (by kernel_rfl)) (fun _ _ _ h => h) (Or.inl ⟨by rfl, ?_⟩) ?_ ?_
  rotate_left
  · intro w'
    go_simp
    with_reducible rfl
  rotate_left
  · simp only [Act.put, List.setIfInBounds_toArray, List.set_cons_zero, List.set_cons_succ, i64_w, i32_w]
    rfl
  refine last_ (i := 21) (N := none) #[true, true, true, true, true, true, true, true, true, true, true, true, true, true, true, true, true, true, true, true, true, true] rfl rfl (one_of HT_.out (by kernel_rfl)) (by decide) (fun K hK => ?_)
  refine skip_ (w1 := ?_) (by rfl) rfl ?_ ?_
  rotate_left
  · go_simp
    rfl
  refine hK.out _ _ ?_
  clear hK K
  refine done_ (done_of HT_.out (by kernel_rfl)) ?_
  go_wp2
  go_ret
  refine ⟨rfl, ?_⟩
  have hs41 := hb41.size
  have hx1 : Kd.R (Kd.int .u8) 5 w41 w.heap.size (fun k => (k = b39 ∨ wF.heap.size ≤ k) ∧ k < w41.heap.size) (.slice A41 l.length c41) l := Kd.R_mono (Kd.R_bound hr41) (fun k hk => ⟨hk.1, hk.2.2.1⟩)
  have hx2 : Kd.R (Kd.int .u8) 5 w44 w.heap.size (fun k => (k = b39 ∨ wF.heap.size ≤ k) ∧ k < w41.heap.size) (.slice A41 l.length c41) l := Kd.R_step hx1 (fun k hk hlt => (hl44.block k (by simp; omega) (fun h => by
    have h1 := hk.1
    obtain ⟨⟨_, h2⟩, h3⟩ := h
    omega)).trans ((below_alloc (Below.refl _ w41) _).block k hlt))
  have key := forge_end (wF := wF) (hi := (w41.alloc (.cells #[.slice A41 l.length c41, .bool false] 69)).heap.size) (ps := ps) (l := l) HR.out HM.out H3.out HB.out hb44 hbF.size hle39 hr44 (by have := hg41.size; simp; omega) (by have := blk_lt hx39; have := hg41.size; simp; omega) (by simp [HN.out]) (by rw [flat_append]; rfl) HGG.out
    (Kd.R_mono hx2 (fun k hk => ⟨hk.1, by have := hk.2; simp; omega⟩))
  rw [HE.out] at key
  exact key
end Go.Proofs.Yteeddalalfemmaa.K

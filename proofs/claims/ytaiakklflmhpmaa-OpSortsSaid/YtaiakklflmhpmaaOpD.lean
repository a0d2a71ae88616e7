/- op.Text. -/
import Derived.Test.YtaiakklflmhpmaaOpC
namespace Go.Proofs.Ytaiakklflmhpmaa.K
open Go.RowKit Go.Proofs.YtaiakklflmhpmaaW.PrintWords Go.Proofs.YtaiakklflmhpmaaW.PrintLast Go.Proofs.YtaiakklflmhpmaaW.PrintMore
set_option linter.unusedVariables false
set_option linter.unusedSimpArgs false

theorem putS_len {t a : Int} (h1 : -9223372036854775808 ≤ t) (h2 : t ≤ 9223372036854775807) (h3 : a ≤ 9223372036854775807) : (putS t a).length ≤ 20 := by
 unfold putS
 have e1 := numL_le (zz t) (zz_lt h1 h2)
 have e2 := numL_le (max a 0).toNat (by omega)
 rw [List.length_append]
 omega
theorem rightS_le {t a : Int} (h : rightS t a = true) : -9223372036854775808 ≤ t ∧ t ≤ 9223372036854775807 ∧ a ≤ 9223372036854775807 := by
 simp [rightS] at h
 omega
theorem placeS_le {t a : Int} (h : placeS t a = true) : -9223372036854775808 ≤ t ∧ t ≤ 9223372036854775807 ∧ a ≤ 9223372036854775807 := by
 simp [placeS] at h
 rcases h with ⟨rfl, rfl⟩ | h
 ·omega
 ·exact rightS_le h
theorem Wtr.below {w0 W W1 : World} {g : Nat} {l : List Int} {k t a u b p c : Int} {d : Bool} {s : ByteArray} {v : Value} (h : Wtr w0 W g l k t a u b p c d s v) (hb : Below W.heap.size W W1) : Wtr w0 W1 g l k t a u b p c d s v := by
 obtain ⟨vb, h1, h2, h3⟩ := h
 exact ⟨vb, blk_below h1 hb, h2, h3.below hb⟩
theorem num0_calls (k : Nat) (kk : Int) (w : World) (h : kk = k) (hk : k < 128) :
  Calls Try.prog 26 #[.slice none 0 0, .int .u64 kk] w fun e w' => ∃ v, e = .returned v ∧ Own w' w.heap.size v (numL k) ∧ Below w.heap.size w w' := by
 subst h
 exact num_calls _ [] k _ (Rd.nil _) (by rw [numL_small hk]; simp)
theorem numL_1 (n : Nat) (h : n < 128) : (numL n).length = 1 := by rw [numL_small h]; rfl

theorem parts1_calls (g : Nat) (w : World) (h0 : w.cell? ⟨g, 1, none⟩ = some (.int .i64 1)) :
  Calls Try.prog 27 #[.pointer (some ⟨g, 0, none⟩)] w fun e w' => e = .returned (.slice (some ⟨w.heap.size, 0, none⟩) 3 3) ∧ w'.heap[w.heap.size]? = some (.cells #[.func (.func 43) #[.pointer (some ⟨g, 0, none⟩)] #[], .func (.func 44) #[.pointer (some ⟨g, 0, none⟩)] #[], .func (.func 45) #[.pointer (some ⟨g, 0, none⟩)] #[]] 1 (0, 0)) ∧ Below w.heap.size w w' := by
 have hu1 := Try.underlying53
 have hu2 := Try.underlying31
 go_enter Try.func27, Try.ntmps27
 go_wp2
 go_ret
 exact ⟨rfl, blk_new w _, below_alloc (Below.refl _ _) _⟩
/-- What has been put behind i closures. -/
def tx1 (u b p c : Int) (d : Bool) (s : ByteArray) (l : List Int) : Nat → List Int
 | 0 => numL 1
 | 1 => numL 1 ++ putS p c
 | 2 => numL 1 ++ putS p c ++ [dirI d]
 | _ => numL 1 ++ putS p c ++ [dirI d] ++ numL s.size ++ bytesOf s

def otext1.T3 : Bool × List (List Nat × List Nat) := (true, [([], []), ([0], [0]), ([1], [1]), ([2], [2]), ([], []), ([3, 4], [3, 4]), ([5], [5]), ([6, 3, 0, 1, 2, 3, 4, 5, 6], [6])])
def otext1.B3 : List Nat := [0, 1, 3, 7, 0, 31, 63, 127]
theorem otext1.tab3 : rtab .any (opsOf Try.f14 3) = otext1.T3 := by kernel_rfl
theorem otext1.bits3 : waitsOk otext1.T3.2 otext1.B3 = true := by kernel_rfl
set_option maxRecDepth 100000 in
set_option maxHeartbeats 8000000 in
theorem text1_calls (t a u b p c : Int) (d : Bool) (s : ByteArray) (v : Value) (l : List Int) (w : World) (hr : Rd w v l) (hR : rightO 1 t a u b p c d s l.length = true) (hp : placeS p c = true) (hs : s.size ≤ 24) :
  Calls Try.prog 14 #[.agg #[.int .i64 1, .int .i64 t, .int .i64 a, .int .i64 u, .int .i64 b, .int .i64 p, .int .i64 c, .bool d, .string s, v]] w fun e w' => ∃ v', e = .returned (.tuple #[v', .int .i64 0]) ∧ Rd w' v' (tx1 u b p c d s l 3) ∧ Below w.heap.size w w' := by
 obtain ⟨A, c0, rfl, hc0, hC0⟩ := hr
 have hr : Rd w (.slice A l.length c0) l := ⟨A, c0, rfl, hc0, hC0⟩
 obtain ⟨v, hv⟩ : ∃ v, v = Value.slice A l.length c0 := ⟨_, rfl⟩
 rw [← hv] at hr ⊢
 have HRd := Aside0.mk hr
 clear hc0 hC0 hv
 obtain ⟨p1, p2, p3⟩ := placeS_le hp
 have HPL := Aside0.mk (putS_len p1 p2 p3)
 have HSL := Aside0.mk (numL_1 s.size (by omega))
 clear hp
 have HN1 := Aside0.mk (numL_1 1 (by decide))
 have hu1 := Try.underlying53
 have hu2 := Try.underlying31
 have hu3 := Try.underlying28
 have HB := Aside0.mk (Below.refl w.heap.size w)
 have BK := Aside0.mk (blk_new w (.cells #[.int .i64 1, .int .i64 t, .int .i64 a, .int .i64 u, .int .i64 b, .int .i64 p, .int .i64 c, .bool d, .string s, v] 31 (0, 0)))
 have HR := Aside0.mk hR
 clear hR
 go_enter Try.func14, Try.ntmps14
 go_wp2_with (first
  | (go_at_call 25; go_must (refine (oright_calls _ _ _ _ _ _ _ _ _ _ l _ (by exact HRd.out.below (below_alloc (Below.refl _ _) _))).mono ?_; rw [HR.out]; rintro e wq ⟨rfl, hb⟩; have hk := blk_below BK.out hb; replace BK := Aside0.mk hk; replace HB := Aside0.mk (below_step (by repeat (first | (with_reducible first | exact HB.out | apply below_alloc | apply pw_below_drewN | apply below_drew1) | exact HB.out)) hb); clear hb hk)))
 replace BK := Aside0.mk (blk_drew BK.out)
 replace HB := Aside0.mk (below_drew1 HB.out)
 refine start_ (n := 8) (S := fun w' => w'.cell? ⟨w.heap.size, 0, none⟩ = some (.int .i64 1) ∧ w'.cell? ⟨w.heap.size, 1, none⟩ = some (.int .i64 t) ∧ w'.cell? ⟨w.heap.size, 2, none⟩ = some (.int .i64 a) ∧ w'.cell? ⟨w.heap.size, 3, none⟩ = some (.int .i64 u) ∧ w'.cell? ⟨w.heap.size, 4, none⟩ = some (.int .i64 b) ∧ w'.cell? ⟨w.heap.size, 5, none⟩ = some (.int .i64 p) ∧ w'.cell? ⟨w.heap.size, 6, none⟩ = some (.int .i64 c) ∧ w'.cell? ⟨w.heap.size, 7, none⟩ = some (.bool d) ∧ w'.cell? ⟨w.heap.size, 8, none⟩ = some (.string s) ∧ w'.cell? ⟨w.heap.size, 9, none⟩ = some (v)) (ds := [6]) #[false, false, false, false, false, false, false, false] (by kernel_rfl) rfl rfl ⟨(blk_cell BK.out 0).trans rfl, (blk_cell BK.out 1).trans rfl, (blk_cell BK.out 2).trans rfl, (blk_cell BK.out 3).trans rfl, (blk_cell BK.out 4).trans rfl, (blk_cell BK.out 5).trans rfl, (blk_cell BK.out 6).trans rfl, (blk_cell BK.out 7).trans rfl, (blk_cell BK.out 8).trans rfl, (blk_cell BK.out 9).trans rfl⟩ (fun hHeld => ?_)
 generalize wq.drew = w5 at BK HB hHeld ⊢
 refine with_tabW otext1.tab3 otext1.bits3 (fun HT_ HW_ => ?_)
 refine pure_ (i := 0) (N := some 10) (v := ?_) (a' := ?_) #[true, false, false, false, false, false, false, false] rfl rfl (any_of HT_.out (by kernel_rfl)) (fun _ _ _ h => h) (Or.inl ⟨by rfl, ?_⟩) ?_ ?_
 rotate_left
 ·intro w'
  go_simp
  with_reducible rfl
 rotate_left
 ·simp only [Act.put, ta, tb, tc, i64_w, i32_w]
  rfl
 refine take_ (i := 1) (N := some 11) (v := ?_) (a' := ?_) #[true, true, false, false, false, false, false, false] rfl rfl (take_ofW HT_.out HW_.out (by kernel_rfl)) (fun _ _ _ h => h) (Or.inl ⟨by rfl, ?_⟩) hHeld ?_ ?_
 rotate_left
 ·rintro w' ⟨s0, s1, s2, s3, s4, s5, s6, s7, s8, s9⟩
  go_simp
  with_reducible rfl
 rotate_left
 ·simp only [Act.put, ta, tb, tc, i64_w, i32_w]
  rfl
 refine pure_ (i := 2) (N := some 12) (v := ?_) (a' := ?_) #[true, true, true, false, false, false, false, false] rfl rfl (any_of HT_.out (by kernel_rfl)) (fun _ _ _ h => h) (Or.inl ⟨by rfl, ?_⟩) ?_ ?_
 rotate_left
 ·intro w'
  go_simp
  with_reducible rfl
 rotate_left
 ·simp only [Act.put, ta, tb, tc, i64_w, i32_w]
  rfl
 refine take_ (i := 4) (N := some 14) (v := ?_) (a' := ?_) #[true, true, true, false, true, false, false, false] rfl rfl (take_ofW HT_.out HW_.out (by kernel_rfl)) (fun _ _ _ h => h) (Or.inl ⟨by rfl, ?_⟩) hHeld ?_ ?_
 rotate_left
 ·rintro w' ⟨s0, s1, s2, s3, s4, s5, s6, s7, s8, s9⟩
  go_simp
  with_reducible rfl
 rotate_left
 ·simp only [Act.put, ta, tb, tc, i64_w, i32_w]
  rfl
 refine one_ (i := 3) (N := some 13) #[true, true, true, true, true, false, false, false] rfl rfl (one_of HT_.out (by kernel_rfl)) (by decide) (fun K hK => ?_)
 refine goes_ Try.func26 (by kernel_rfl) rfl #[.slice none 0 0, .int .u64 1] (by rfl) rfl rfl (by (try simp only [List.map_toArray, List.map_cons, List.map_nil]); first | done | rfl) ?_
 with_reducible refine (num0_calls 1 1 _ rfl (by decide)).mono ?_
 rintro e w8 ⟨v8, rfl, ho, hb⟩
 refine ⟨_, rfl, ?_⟩
 replace ho : Own w8 _ v8 (numL 1) := ho
 obtain ⟨A8, c8, rfl, -, -⟩ := ho.rd
 replace BK := Aside0.mk (blk_below BK.out hb)
 replace HB := Aside0.mk (below_step HB.out hb)
 have HO := Aside0.mk ho
 clear hb ho
 refine hK.out _ _ ⟨(blk_cell BK.out 0).trans rfl, (blk_cell BK.out 1).trans rfl, (blk_cell BK.out 2).trans rfl, (blk_cell BK.out 3).trans rfl, (blk_cell BK.out 4).trans rfl, (blk_cell BK.out 5).trans rfl, (blk_cell BK.out 6).trans rfl, (blk_cell BK.out 7).trans rfl, (blk_cell BK.out 8).trans rfl, (blk_cell BK.out 9).trans rfl⟩ (fun hHeld => ?_)
 clear hK K
 refine norm_ (a' := ?_) ?_ ?_
 rotate_left
 ·show Act.put _ (some 13) _ = _
  simp only [Act.put, ta, tb, tc, i64_w, i32_w]
  rfl
 refine pure_ (i := 5) (N := some 15) (v := ?_) (a' := ?_) #[true, true, true, true, true, true, false, false] rfl rfl (any_of HT_.out (by kernel_rfl)) (fun _ _ _ h => h) (Or.inl ⟨by rfl, ?_⟩) ?_ ?_
 rotate_left
 ·intro w'
  go_simp
  with_reducible rfl
 rotate_left
 ·simp only [Act.put, ta, tb, tc, i64_w, i32_w]
  rfl
 refine last_ (i := 6) (N := some 16) #[true, true, true, true, true, true, true, false] rfl rfl (one_of HT_.out (by kernel_rfl)) (by decide) (fun K hK => ?_)
 refine value_ (w1 := ?_) (v := ?_) (by rfl) rfl ?_ ?_
 rotate_left 2
 ·go_simp
  constructor
  ·rfl
  ·rfl
 refine hK.out _ _ ?_
 clear hK K
 refine norm_ (a' := ?_) ?_ ?_
 rotate_left
 ·show Act.put _ (some 16) _ = _
  simp only [Act.put, ta, tb, tc, i64_w, i32_w]
  rfl
 refine pure_ (i := 7) (N := some 4) (v := ?_) (a' := ?_) #[true, true, true, true, true, true, true, true] rfl rfl (any_of HT_.out (by kernel_rfl)) (fun _ _ _ h => h) (Or.inl ⟨by rfl, ?_⟩) ?_ ?_
 rotate_left
 ·intro w'
  go_simp
  with_reducible rfl
 rotate_left
 ·simp only [Act.put, ta, tb, tc, i64_w, i32_w]
  rfl
 refine done_ (done_of HT_.out (by kernel_rfl)) ?_
 have hge : w.heap.size ≤ w8.heap.size := HB.out.size
 have HW : Aside0 (Wtr w (w8.alloc (.cells #[.slice A8 (numL 1).length c8, .int .i64 1, .int .i64 t, .int .i64 a, .int .i64 u, .int .i64 b, .int .i64 p, .int .i64 c, .bool d, .string s, v] 53)) w8.heap.size (tx1 u b p c d s l 0) 1 t a u b p c d s v) := ⟨⟨_, blk_new w8 _, hge, HO.out.rd.below (below_alloc (Below.refl _ _) _)⟩⟩
 replace HB := Aside0.mk (HB.out.alloc hge (.cells #[.slice A8 (numL 1).length c8, .int .i64 1, .int .i64 t, .int .i64 a, .int .i64 u, .int .i64 b, .int .i64 p, .int .i64 c, .bool d, .string s, v] 53))
 clear BK HO HR
 have HG := Aside0.mk hge
 clear hge
 obtain ⟨g, hg⟩ : ∃ g, g = w8.heap.size := ⟨_, rfl⟩
 rw [← hg] at HW ⊢
 have Hg := Aside0.mk hg
 clear hg HT_ HW_ hHeld
 go_wp2_with (first
  | (go_at_call 27; go_must ((refine (parts1_calls g _ (by exact ((blk_cell HW.out.choose_spec.1 1).trans rfl))).mono ?_; rintro e wp ⟨rfl, hp, hb⟩; have HP := Aside0.mk hp; have HNE : Aside0 (g < (w8.alloc (.cells #[.slice A8 (numL 1).length c8, .int .i64 1, .int .i64 t, .int .i64 a, .int .i64 u, .int .i64 b, .int .i64 p, .int .i64 c, .bool d, .string s, v] 53)).heap.size) := ⟨blk_lt HW.out.choose_spec.1⟩; replace HW := Aside0.mk (Wtr.below HW.out hb); replace HB := Aside0.mk (below_step HB.out hb); clear hb hp))))
 clear Hg
 obtain ⟨gp, hgp⟩ : ∃ gp, gp = (w8.alloc (.cells #[.slice A8 (numL 1).length c8, .int .i64 1, .int .i64 t, .int .i64 a, .int .i64 u, .int .i64 b, .int .i64 p, .int .i64 c, .bool d, .string s, v] 53)).heap.size := ⟨_, rfl⟩
 have hgp2 : w8.heap.size + 1 = gp := by rw [hgp]; simp
 rw [← hgp] at HP HNE
 (try rw [← hgp]); (try rw [hgp2])
 clear hgp hgp2
 have HNE2 : Aside0 (g ≠ gp) := ⟨by have := HNE.out; omega⟩
 go_loopw [6, 20, 21, 22, 23, 24, 25, 26] (fun _ v20 _ _ _ _ _ _ wr => ∃ i : Nat, v20 = .int .i64 i ∧ i ≤ 3 ∧ Aside0 (Wtr w wr g (tx1 u b p c d s l i) 1 t a u b p c d s v) ∧ Aside0 (Below w.heap.size w wr) ∧ Aside0 (wr.heap[gp]? = some (.cells #[.func (.func 43) #[.pointer (some ⟨g, 0, none⟩)] #[], .func (.func 44) #[.pointer (some ⟨g, 0, none⟩)] #[], .func (.func 45) #[.pointer (some ⟨g, 0, none⟩)] #[]] 1 (0, 0)))) (fun _ v20 _ _ _ _ _ _ _ => 3 - (intOf v20).toNat)
 case atStart => exact ⟨0, rfl, by omega, HW, HB, HP⟩
 case round =>
  clear HW HB HP
  obtain ⟨i, rfl, hi, HW, HB, HP⟩ := hrel
  rcases i with _ | _ | _ | i
  ·have q0 : wr.cell? ⟨gp, 0, none⟩ = some (.func (.func 43) #[.pointer (some ⟨g, 0, none⟩)] #[]) := (blk_cell HP.out 0).trans rfl
   go_wp2_with (first
    | (go_at_call 43; go_must ((refine (wparent_calls _ (tx1 u b p c d s l 0) 1 t a u b p c d s v w _ (by exact HW.out) (by exact HB.out) p1 p2 p3 (by have := HPL.out; have := HSL.out; have := HN1.out; simp only [tx1, List.length_append, List.length_cons, List.length_nil]; omega)).mono ?_; rintro e wz ⟨rfl, hw, hs⟩; replace HP := Aside0.mk (hs.keep.blk HP.out (Ne.symm HNE2.out) (by simp)); replace HW := Aside0.mk hw; replace HB := Aside0.mk hs.below; clear hw hs))))
   go_roundw
   case rel => exact ⟨1, by go_num, by omega, HW, HB, HP⟩
   case measure => simp [intOf] <;> omega
  ·have q0 : wr.cell? ⟨gp, 1, none⟩ = some (.func (.func 44) #[.pointer (some ⟨g, 0, none⟩)] #[]) := (blk_cell HP.out 1).trans rfl
   go_wp2_with (first
    | (go_at_call 44; go_must ((refine (wdir_calls _ (tx1 u b p c d s l 1) 1 t a u b p c d s v w _ (by exact HW.out) (by exact HB.out) (by have := HPL.out; have := HSL.out; have := HN1.out; simp only [tx1, List.length_append, List.length_cons, List.length_nil]; omega)).mono ?_; rintro e wz ⟨rfl, hw, hs⟩; replace HP := Aside0.mk (hs.keep.blk HP.out (Ne.symm HNE2.out) (by simp)); replace HW := Aside0.mk hw; replace HB := Aside0.mk hs.below; clear hw hs))))
   go_roundw
   case rel => exact ⟨2, by go_num, by omega, HW, HB, HP⟩
   case measure => simp [intOf] <;> omega
  ·have q0 : wr.cell? ⟨gp, 2, none⟩ = some (.func (.func 45) #[.pointer (some ⟨g, 0, none⟩)] #[]) := (blk_cell HP.out 2).trans rfl
   go_wp2_with (first
    | (go_at_call 45; go_must ((refine (wname_calls _ (tx1 u b p c d s l 2) 1 t a u b p c d s v w _ (by exact HW.out) (by exact HB.out) (by have := HPL.out; have := HSL.out; have := HN1.out; simp only [tx1, List.length_append, List.length_cons, List.length_nil]; omega)).mono ?_; rintro e wz ⟨rfl, hw, hs⟩; replace HP := Aside0.mk (hs.keep.blk HP.out (Ne.symm HNE2.out) (by simp)); replace HW := Aside0.mk hw; replace HB := Aside0.mk hs.below; clear hw hs))))
   go_roundw
   case rel => exact ⟨3, by go_num, by omega, HW, HB, HP⟩
   case measure => simp [intOf] <;> omega
  ·obtain rfl : i = 0 := by omega
   obtain ⟨vb, hb, hg2, hrv⟩ := HW.out
   have q0 : wr.cell? ⟨g, 0, none⟩ = some vb := (blk_cell hb 0).trans rfl
   have HV := Aside0.mk hrv
   clear hb hg2 hrv
   go_wp2
   go_ret2
   exact ⟨_, rfl, HV.out, HB.out⟩

/-- What has been put behind i closures. -/
def tx2 (u b p c : Int) (d : Bool) (s : ByteArray) (l : List Int) : Nat → List Int
 | 0 => numL 2
 | 1 => numL 2 ++ putS u b
 | 2 => numL 2 ++ putS u b ++ putS p c
 | _ => numL 2 ++ putS u b ++ putS p c ++ numL s.size ++ bytesOf s

def otext2.T3 : Bool × List (List Nat × List Nat) := (true, [([], []), ([0], [0]), ([1], [1]), ([2], [2]), ([], []), ([3, 4], [3, 4]), ([5], [5]), ([6, 3, 0, 1, 2, 3, 4, 5, 6], [6])])
def otext2.B3 : List Nat := [0, 1, 3, 7, 0, 31, 63, 127]
theorem otext2.tab3 : rtab .any (opsOf Try.f14 3) = otext2.T3 := by kernel_rfl
theorem otext2.bits3 : waitsOk otext2.T3.2 otext2.B3 = true := by kernel_rfl
/-- What has been put behind i closures. -/
def tx3 (u b p c : Int) (d : Bool) (s : ByteArray) (l : List Int) : Nat → List Int
 | 0 => numL 3
 | _ => numL 3 ++ putS u b

def otext3.T3 : Bool × List (List Nat × List Nat) := (true, [([], []), ([0], [0]), ([1], [1]), ([2], [2]), ([], []), ([3, 4], [3, 4]), ([5], [5]), ([6, 3, 0, 1, 2, 3, 4, 5, 6], [6])])
def otext3.B3 : List Nat := [0, 1, 3, 7, 0, 31, 63, 127]
theorem otext3.tab3 : rtab .any (opsOf Try.f14 3) = otext3.T3 := by kernel_rfl
theorem otext3.bits3 : waitsOk otext3.T3.2 otext3.B3 = true := by kernel_rfl
/-- What has been put behind i closures. -/
def tx4 (u b p c : Int) (d : Bool) (s : ByteArray) (l : List Int) : Nat → List Int
 | 0 => numL 4
 | 1 => numL 4 ++ putS u b
 | _ => numL 4 ++ putS u b ++ numL l.length ++ l

def otext4.T3 : Bool × List (List Nat × List Nat) := (true, [([], []), ([0], [0]), ([1], [1]), ([2], [2]), ([], []), ([3, 4], [3, 4]), ([5], [5]), ([6, 3, 0, 1, 2, 3, 4, 5, 6], [6])])
def otext4.B3 : List Nat := [0, 1, 3, 7, 0, 31, 63, 127]
theorem otext4.tab3 : rtab .any (opsOf Try.f14 3) = otext4.T3 := by kernel_rfl
theorem otext4.bits3 : waitsOk otext4.T3.2 otext4.B3 = true := by kernel_rfl
end Go.Proofs.Ytaiakklflmhpmaa.K

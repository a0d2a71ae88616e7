/- cachetteref04.Sort. -/
import Derived.Test.YtfingknhciogkaaSsH
import Derived.Test.YtfingknhciogkaaWTab
import Derived.Deep.LoopGhost
namespace Go.Proofs.Ytfingknhciogkaa.K
open Go.RowKit Go.Shelf Go.Proofs.YtfingknhciogkaaW.PrintWords Go.Proofs.YtfingknhciogkaaW.PrintLast Go.Proofs.YtfingknhciogkaaW.PrintMore
set_option linter.unusedVariables false
set_option linter.unusedSimpArgs false

theorem gen_world {P : Program} {C : Code} {Q : Exit → Act → World → Prop} {a : Act} {w : World} (h : ∀ W, W = w → C.wp P Q a W) : C.wp P Q a w := h w rfl
theorem infoSt2 : (Try.prog.info? 23).map (fun i => (i.zero, i.size, i.bytes)) = some (some (.agg #[.int .i64 0, .int .i64 0]), 2, 16) := by kernel_rfl
theorem flatS_append (a b : List St) : flatS (a ++ b) = flatS a ++ flatS b := by simp [flatS]
theorem flatS_length (a : List St) : (flatS a).length = a.length * 2 := by
  induction a with
  | nil => rfl
  | cons x r ih =>
    have e : flatS (x :: r) = [.int .i64 x.f0, .int .i64 x.f1] ++ flatS r := by simp [flatS]
    rw [e, List.length_append, ih]
    simp
    omega
theorem flatS_take (a : List St) (k : Nat) (hk : k ≤ a.length) : (flatS a).take (k * 2) = flatS (a.take k) := by
  have h := congrArg (fun l => l.take (k * 2)) (show flatS a = flatS (a.take k) ++ flatS (a.drop k) by rw [← flatS_append, List.take_append_drop])
  rw [h, List.take_append_of_le_length (by rw [flatS_length, List.length_take]; omega), List.take_of_length_le (by rw [flatS_length, List.length_take]; omega)]
theorem flatS_drop (a : List St) (k : Nat) (hk : k ≤ a.length) : (flatS a).drop (k * 2) = flatS (a.drop k) := by
  have h := congrArg (fun l => l.drop (k * 2)) (show flatS a = flatS (a.take k) ++ flatS (a.drop k) by rw [← flatS_append, List.take_append_drop])
  have hl : (flatS (a.take k)).length = k * 2 := by rw [flatS_length, List.length_take]; omega
  rw [h, ← hl, List.drop_left]
theorem flatS_one (a : List St) : ∀ u ∈ flatS a, u.oneCell' = true := by
  intro u hu
  simp only [flatS, List.mem_flatMap, List.mem_cons, List.not_mem_nil, or_false] at hu
  obtain ⟨x, _, rfl | rfl⟩ := hu <;> rfl
/-- cachetteref04.Less. -/
def ltB (x y : St) : Bool := if x.f0 < y.f0 then true else if x.f0 = y.f0 then decide (x.f1 < y.f1) else false
theorem ltB_iff (x y : St) : ltB x y = true ↔ Lt x y := by
  unfold ltB Lt
  split
  · simp [*]
  · split
    · simp [*]
    · constructor
      · intro h; cases h
      · intro h; omega
theorem fless_calls (x y : St) (w : World) : Calls Try.prog 9 #[stV x, stV y] w fun e w' => e = .returned (.bool (ltB x y)) ∧ Below w.heap.size w w' :=
  X.cachetteref04_Less.calls x.f0 x.f1 y.f0 y.f1 _ w (by
    unfold X.cachetteref04_Less.f ltB
    split
    · rfl
    · split <;> rfl)
def neB (x y : St) : Bool := if x.f0 = y.f0 then if x.f1 = y.f1 then false else true else true
theorem neB_false {x y : St} (h : neB x y = false) : x = y := by
  unfold neB at h
  split at h
  · split at h
    · exact st_ext ‹_› ‹_›
    · cases h
  · cases h
theorem neB_true {x y : St} (h : neB x y = true) : x ≠ y := by
  rintro rfl
  simp [neB] at h
section
variable {P : Program}
theorem src_take {W : World} {ok : Nat → Prop} {ad : Addr} {n c : Nat} {out : List St} {tx e' : TypeId} (hk : P.underlying tx = some (.slice e')) (hl : out.length = n) (h : Row W 2 ok (.slice (some ad) n c) n (flatS out)) (hn : 0 < n) (k : Nat) (hkn : k ≤ n) : Src P 2 tx (.slice (some ad) k c) k (flatS (out.take k)) W := by
  obtain ⟨b, off, cap, hv, _⟩ := h.at hn
  injection hv with e1 e2 e3
  injection e1 with e1
  subst e1
  rw [← flatS_take out k (by omega)]
  refine (h.take k hkn hn).src hk ?_
  intro u hu
  exact flatS_one out u (List.mem_of_mem_take hu)
theorem src_drop {W : World} {ok : Nat → Prop} {ad : Addr} {n c : Nat} {out : List St} {tx e' : TypeId} (hk : P.underlying tx = some (.slice e')) (hl : out.length = n) (h : Row W 2 ok (.slice (some ad) n c) n (flatS out)) (hn : 0 < n) (k : Nat) (hkn : k < n) : Src P 2 tx (.slice (some (ad.add (k * 2))) (n - k) (c - k)) (n - k) (flatS (out.drop k)) W := by
  obtain ⟨b, off, cap, hv, hc, _⟩ := h.at hn
  injection hv with e1 e2 e3
  injection e1 with e1
  subst e1
  rw [← flatS_drop out k (by omega)]
  have h2 := h.drop k (by omega) hn
  rw [if_neg (by omega)] at h2
  rw [Addr.add_lit]
  exact h2.src hk (fun u hu => flatS_one out u (List.mem_of_mem_drop hu))
theorem src_zero {W : World} {tx e' : TypeId} (hk : P.underlying tx = some (.slice e')) (p : Prop) [Decidable p] (a b : Addr) (c : Nat) : Src P 2 tx (.slice (if p then some a else some b) 0 c) 0 [] W := by
  split
  · exact Src.ofSlice W hk a 0 c [] (by simp) (by intro j u hu; simp at hu) (by simp)
  · exact Src.ofSlice W hk b 0 c [] (by simp) (by intro j u hu; simp at hu) (by simp)
end
/-- What Sort has so far. -/
def Out (w W : World) (v : Value) (out : List St) : Prop := (out = [] ∧ v = .slice none 0 0) ∨ (0 < out.length ∧ Row W 2 (fun k => w.heap.size ≤ k) v out.length (flatS out))
theorem Out.below {w W W' : World} {v : Value} {out : List St} (h : Out w W v out) (hb : Below W.heap.size W W') : Out w W' v out := h.imp id (fun ⟨h1, h2⟩ => ⟨h1, h2.below (by decide) hb⟩)
theorem Out.srd {w W : World} {v : Value} {out : List St} (h : Out w W v out) : SRd W v out := by
  rcases h with ⟨rfl, rfl⟩ | ⟨h0, hr⟩
  · exact ⟨none, 0, rfl, Nat.le_refl _, Kd.C_nil _ _⟩
  · rcases hr with ⟨h, _⟩ | ⟨b, off, cap, rfl, h2, h3, h4, h5, h6, h7, h8⟩
    · omega
    · refine ⟨_, _, rfl, h3, ⟨rfl, Nat.le_trans h3 h4, fun hp => ⟨_, rfl, fun j x hx => ?_⟩⟩⟩
      obtain ⟨f0, f1⟩ := flatS_at out j x hx
      have hj := (List.getElem?_eq_some_iff.1 hx).1
      refine ⟨[.int .i64 x.f0, .int .i64 x.f1], rfl, X.k23_mk W x, fun q u hu => ?_⟩
      match q, hu with
      | 0, hu =>
        simp at hu
        subst hu
        rw [Addr.add_lit, show X.k23.sz = 2 from rfl]
        exact (h7 _ (by omega)).trans f0
      | 1, hu =>
        simp at hu
        subst hu
        rw [Addr.add_lit, show X.k23.sz = 2 from rfl]
        exact (h7 _ (by omega)).trans f1

def fsort_calls.T9 : Bool × List (List Nat × List Nat) := (true, [([], []), ([], []), ([], []), ([1, 2], [1, 2]), ([0, 3], [0, 3]), ([], []), ([], []), ([5, 6], [5, 6]), ([7], [7]), ([8], [8]), ([4, 9, 4], [4, 9]), ([], []), ([], []), ([11, 12], [11, 12]), ([10, 13, 10], [10, 13]), ([14, 14, 0, 1, 2, 3, 4, 5, 6, 7, 8, 9, 10, 11, 12, 13, 14], [1, 11, 14])])
def fsort_calls.B9 : List Nat := [0, 0, 0, 6, 15, 0, 0, 96, 224, 480, 1023, 0, 0, 6144, 16383, 32767]
theorem fsort_calls.tab9 : rtab .any (opsOf Try.f16 9) = fsort_calls.T9 := by kernel_rfl
theorem fsort_calls.bits9 : waitsOk fsort_calls.T9.2 fsort_calls.B9 = true := by kernel_rfl
def fsort_calls.T6 : Bool × List (List Nat × List Nat) := (true, [([], []), ([], []), ([1], [1]), ([0, 2], [0, 2]), ([3], [3]), ([4], [4]), ([4], [4]), ([5, 6, 4], [4, 5, 6]), ([7, 4], [4, 7]), ([4], [4]), ([4], [4]), ([9, 10, 4], [4, 9, 10]), ([11, 4], [4, 11]), ([8, 12, 4, 4], [4, 8, 12]), ([4, 13], [4, 13])])
def fsort_calls.B6 : List Nat := [0, 0, 2, 7, 15, 31, 31, 127, 255, 31, 31, 1567, 3615, 8191, 16383]
theorem fsort_calls.tab6 : rtab .any (opsOf Try.f16 6) = fsort_calls.T6 := by kernel_rfl
theorem fsort_calls.bits6 : waitsOk fsort_calls.T6.2 fsort_calls.B6 = true := by kernel_rfl
def fsort_calls.T8 : Bool × List (List Nat × List Nat) := (true, [([], []), ([], []), ([1], [1]), ([0, 2], [0, 2]), ([3], [3]), ([4], [4]), ([4], [4]), ([5, 6, 4], [4, 5, 6]), ([7, 4], [4, 7]), ([4], [4]), ([4], [4]), ([9, 10, 4], [4, 9, 10]), ([11, 4], [4, 11]), ([8, 12, 4], [4, 8, 12]), ([4, 13], [4, 13])])
def fsort_calls.B8 : List Nat := [0, 0, 2, 7, 15, 31, 31, 127, 255, 31, 31, 1567, 3615, 8191, 16383]
theorem fsort_calls.tab8 : rtab .any (opsOf Try.f16 8) = fsort_calls.T8 := by kernel_rfl
theorem fsort_calls.bits8 : waitsOk fsort_calls.T8.2 fsort_calls.B8 = true := by kernel_rfl
set_option maxRecDepth 100000 in
set_option maxHeartbeats 16000000 in
theorem fsort_calls (v : Value) (zs : List St) (hlen : zs.length ≤ 100000) (w : World) (hv : SRd w v zs) :
    Calls Try.prog 16 #[v] w fun e w' => ∃ v' out, e = .returned v' ∧ Strict out ∧ (∀ a, a ∈ out ↔ a ∈ zs) ∧ out.length ≤ zs.length ∧ SRd w' v' out ∧ Below w.heap.size w w' := by
  obtain ⟨A2, c2, rfl, hc2, hC2⟩ := hv
  obtain ⟨nl, hnl⟩ : ∃ nl, zs.length = nl := ⟨_, rfl⟩
  have HC2 := Aside0.mk hC2
  have HNL := Aside0.mk hnl
  rw [hnl] at hc2 hlen HC2 ⊢
  have hc22 : (nl : Int) ≤ c2 := by omega
  clear hC2 hnl
  go_enter Try.func16, Try.ntmps16
  go_wp2
  go_loopg [3, 4] nl (fun g v3 v4 wr => ∃ (i : Nat) (out : List St), g = nl - i ∧ v4 = .int .i64 i ∧ i ≤ nl ∧ Aside0 (Strict out) ∧ Aside0 (∀ a, a ∈ out ↔ a ∈ zs.take i) ∧ Aside0 (out.length ≤ i) ∧ Aside0 (Out w wr v3 out) ∧ Aside0 (Below w.heap.size w wr))
  case atStart => exact ⟨0, [], by simp, rfl, Nat.zero_le _, ⟨List.Pairwise.nil⟩, ⟨by simp⟩, ⟨Nat.le_refl _⟩, ⟨.inl ⟨rfl, rfl⟩⟩, ⟨by repeat (first | exact Below.refl _ _ | apply pw_below_drewN)⟩⟩
  case round =>
    obtain ⟨i, out, rfl, rfl, hi, HS, HM, HL, HO, HB⟩ := hrel
    by_cases hin : i < nl
    · have hin2 : (i : Int) < nl := by omega
      have hi0 : (0 : Int) ≤ i := by omega
      obtain ⟨ad, rfl, d0, d1⟩ := X.at_T23 HC2.out i (by omega) (by omega)
      obtain ⟨x, hxe⟩ : ∃ x, x = X.rd_T23 zs i := ⟨_, rfl⟩
      rw [← hxe, Int.toNat_natCast] at d0 d1
      have hzx : zs[i]? = some x := by
        rw [hxe]
        unfold X.rd_T23
        rw [Int.toNat_natCast, List.getD_eq_getElem?_getD, List.getElem?_eq_getElem (by have := HNL.out; omega)]
        rfl
      have HX0 := Aside0.mk d0
      have HX1 := Aside0.mk d1
      have HTK : Aside0 (zs.take (i + 1) = zs.take i ++ [x]) := ⟨take_next hzx⟩
      clear d0 d1 hxe hzx
      have HNX : Aside0 (∀ (k r : Nat) {out' : List St} {wx w58 : World} {A58 : Option Addr} {c58 : Nat} {l : List Value}, Below w.heap.size w wx → Row w58 2 (fun k => wx.heap.size ≤ k) (.slice A58 (k + 1 + r) c58) (k + 1 + r) l → flatS out' = l → out'.length = k + 1 + r → Aside0 (Out w w58 (.slice A58 (k + 1 + r) c58) out')) := by
        refine ⟨?_⟩
        intro k r out' wx w58 A58 c58 l hb hr hf hn
        refine ⟨.inr ⟨by omega, ?_⟩⟩
        rw [hf, hn]
        exact hr.mono (fun q hq => Nat.le_trans hb.size hq)
      by_cases hn0 : out = []
      · obtain rfl : u3 = .slice none 0 0 := by
          rcases HO.out with ⟨_, h⟩ | ⟨h, _⟩
          · exact h
          · rw [hn0] at h
            simp at h
        have HN0 := Aside0.mk hn0
        clear hn0
        go_wp2
        go_loopg [5] 0 (fun g5 v5 wz => v5 = .int .i64 0 ∧ Aside0 (Below w.heap.size w wz))
        case atStart => exact ⟨rfl, ⟨by repeat (first | exact HB.out | apply pw_below_drewN)⟩⟩
        case round =>
          clear HB HO
          obtain ⟨rfl, HB⟩ := hrel
          go_wp2
          go_quiet (fail)
          go_wp2
          go_quiet (fail)
          go_upto_region 9 with fail
          refine gen_world (fun wx hwx => ?_)
          have HBX : Aside0 (Below w.heap.size w wx) := ⟨by rw [hwx]; repeat (first | exact HB.out | exact Below.refl _ _ | apply pw_below_drewN | apply below_drew1)⟩
          have x0 := pw_cell_below HBX.out HX0.out
          have x1 := pw_cell_below HBX.out HX1.out
          clear HB hwx
          refine start_ (n := 16) (S := fun w' => w'.cell? (ad.add (i * 2)) = some (.int .i64 x.f0) ∧ w'.cell? ⟨(ad.add (i * 2)).block, (ad.add (i * 2)).off + 1, none⟩ = some (.int .i64 x.f1)) (ds := []) #[false, false, false, false, false, false, false, false, false, false, false, false, false, false, false, false] (by kernel_rfl) rfl rfl ⟨x0, x1⟩ (fun hHeld => ?_)
          refine with_tabW fsort_calls.tab9 fsort_calls.bits9 (fun HT_ HW_ => ?_)
          refine pure_ (i := 1) (N := some 45) (v := ?_) (a' := ?_) #[false, true, false, false, false, false, false, false, false, false, false, false, false, false, false, false] rfl rfl (any_of HT_.out (by kernel_rfl)) (fun _ _ _ h => h) (Or.inl ⟨by rfl, ?_⟩) ?_ ?_
          rotate_left
          · intro w'
            go_simp
            with_reducible rfl
          rotate_left
          · simp only [Act.put, List.setIfInBounds_toArray, List.set_cons_zero, List.set_cons_succ, i64_w, i32_w]
            rfl
          refine pure_ (i := 2) (N := some 46) (v := ?_) (a' := ?_) #[false, true, true, false, false, false, false, false, false, false, false, false, false, false, false, false] rfl rfl (any_of HT_.out (by kernel_rfl)) (fun _ _ _ h => h) (Or.inl ⟨by rfl, ?_⟩) ?_ ?_
          rotate_left
          · intro w'
            go_simp
            with_reducible rfl
          rotate_left
          · simp only [Act.put, List.setIfInBounds_toArray, List.set_cons_zero, List.set_cons_succ, i64_w, i32_w]
            rfl
          refine pure_ (i := 3) (N := some 47) (v := ?_) (a' := ?_) #[false, true, true, true, false, false, false, false, false, false, false, false, false, false, false, false] rfl rfl (any_of HT_.out (by kernel_rfl)) (fun _ _ _ h => h) (Or.inl ⟨by rfl, ?_⟩) ?_ ?_
          rotate_left
          · intro w'
            go_simp
            with_reducible rfl
          rotate_left
          · simp only [Act.put, List.setIfInBounds_toArray, List.set_cons_zero, List.set_cons_succ, i64_w, i32_w]
            rfl
          refine pure_ (i := 5) (N := some 49) (v := ?_) (a' := ?_) #[false, true, true, true, false, true, false, false, false, false, false, false, false, false, false, false] rfl rfl (any_of HT_.out (by kernel_rfl)) (fun _ _ _ h => h) (Or.inl ⟨by rfl, ?_⟩) ?_ ?_
          rotate_left
          · intro w'
            go_simp
            with_reducible rfl
          rotate_left
          · simp only [Act.put, List.setIfInBounds_toArray, List.set_cons_zero, List.set_cons_succ, i64_w, i32_w]
            rfl
          refine pure_ (i := 6) (N := some 50) (v := ?_) (a' := ?_) #[false, true, true, true, false, true, true, false, false, false, false, false, false, false, false, false] rfl rfl (any_of HT_.out (by kernel_rfl)) (fun _ _ _ h => h) (Or.inl ⟨by rfl, ?_⟩) ?_ ?_
          rotate_left
          · intro w'
            go_simp
            with_reducible rfl
          rotate_left
          · simp only [Act.put, List.setIfInBounds_toArray, List.set_cons_zero, List.set_cons_succ, i64_w, i32_w]
            rfl
          refine pure_ (i := 7) (N := some 51) (v := ?_) (a' := ?_) #[false, true, true, true, false, true, true, true, false, false, false, false, false, false, false, false] rfl rfl (any_of HT_.out (by kernel_rfl)) (fun _ _ _ h => h) (Or.inl ⟨by rfl, ?_⟩) ?_ ?_
          rotate_left
          · intro w'
            go_simp
            with_reducible rfl
          rotate_left
          · simp only [Act.put, List.setIfInBounds_toArray, List.set_cons_zero, List.set_cons_succ, i64_w, i32_w]
            rfl
          refine pure_ (i := 11) (N := some 55) (v := ?_) (a' := ?_) #[false, true, true, true, false, true, true, true, false, false, false, true, false, false, false, false] rfl rfl (any_of HT_.out (by kernel_rfl)) (fun _ _ _ h => h) (Or.inl ⟨by rfl, ?_⟩) ?_ ?_
          rotate_left
          · intro w'
            go_simp
            with_reducible rfl
          rotate_left
          · simp only [Act.put, List.setIfInBounds_toArray, List.set_cons_zero, List.set_cons_succ, i64_w, i32_w]
            rfl
          refine pure_ (i := 12) (N := some 56) (v := ?_) (a' := ?_) #[false, true, true, true, false, true, true, true, false, false, false, true, true, false, false, false] rfl rfl (any_of HT_.out (by kernel_rfl)) (fun _ _ _ h => h) (Or.inl ⟨by rfl, ?_⟩) ?_ ?_
          rotate_left
          · intro w'
            go_simp
            with_reducible rfl
          rotate_left
          · simp only [Act.put, List.setIfInBounds_toArray, List.set_cons_zero, List.set_cons_succ, i64_w, i32_w]
            rfl
          refine pure_ (i := 13) (N := some 57) (v := ?_) (a' := ?_) #[false, true, true, true, false, true, true, true, false, false, false, true, true, true, false, false] rfl rfl (any_of HT_.out (by kernel_rfl)) (fun _ _ _ h => h) (Or.inl ⟨by rfl, ?_⟩) ?_ ?_
          rotate_left
          · intro w'
            go_simp
            with_reducible rfl
          rotate_left
          · simp only [Act.put, List.setIfInBounds_toArray, List.set_cons_zero, List.set_cons_succ, i64_w, i32_w]
            rfl
          refine take_ (i := 8) (N := some 52) (v := ?_) (a' := ?_) #[false, true, true, true, false, true, true, true, true, false, false, true, true, true, false, false] rfl rfl (take_ofW HT_.out HW_.out (by kernel_rfl)) (fun _ _ _ h => h) (Or.inl ⟨by rfl, ?_⟩) hHeld ?_ ?_
          rotate_left
          · rintro w' ⟨s0, s1⟩
            go_simp
            with_reducible rfl
          rotate_left
          · simp only [Act.put, List.setIfInBounds_toArray, List.set_cons_zero, List.set_cons_succ, i64_w, i32_w]
            rfl
          refine join_ (σ := Nat × Value × Nat) 3 #[true, true, true, true, true, true, true, true, true, true, false, true, true, true, false, false] (fun s => [(44, .slice (some ⟨s.1, 0, none⟩) 0 0), (48, s.2.1), (53, .slice (some ⟨s.2.2, 0, none⟩) 1 1)]) (fun s w' => (Row w' 2 (fun k => wx.heap.size ≤ k) s.2.1 0 ([]) ∧ w'.heap[s.2.2]? = some (.cells #[.int .i64 x.f0, .int .i64 x.f1] 23 (0, 0)) ∧ Below wx.heap.size wx w') ∧ w'.cell? (ad.add (i * 2)) = some (.int .i64 x.f0) ∧ w'.cell? ⟨(ad.add (i * 2)).block, (ad.add (i * 2)).off + 1, none⟩ = some (.int .i64 x.f1)) ?_ ?_
          rotate_left
          · intro hCont
            refine two_ (i := 0) (j := 9) (Ni := some 44) (Nj := some 53) #[true, true, true, true, false, true, true, true, true, false, false, true, true, true, false, false] #[false, true, true, true, false, true, true, true, true, true, false, true, true, true, false, false] rfl rfl rfl rfl (two_of HT_.out (by kernel_rfl)) (by decide) (by decide) (fun K hK => ?_) (fun K hK => ?_)
            · skip
              refine value_ (w1 := ?_) (v := ?_) (by rfl) rfl ?_ ?_
              rotate_left 2
              · go_simp
                constructor
                · rfl
                · rfl
              refine hK.out _ _ ⟨(pw_cell_below (by repeat (first | exact Below.refl _ _ | exact hb48 | apply below_alloc | apply pw_below_drewN | apply below_drew1)) x0), (pw_cell_below (by repeat (first | exact Below.refl _ _ | exact hb48 | apply below_alloc | apply pw_below_drewN | apply below_drew1)) x1)⟩ (fun hHeld => ?_)
              clear hK K
              refine norm_ (a' := ?_) ?_ ?_
              rotate_left
              · show Act.put _ (some 44) _ = _
                simp only [Act.put, List.setIfInBounds_toArray, List.set_cons_zero, List.set_cons_succ, i64_w, i32_w]
                rfl
              refine two_ (i := 4) (j := 9) (Ni := some 48) (Nj := some 53) #[true, true, true, true, true, true, true, true, true, false, false, true, true, true, false, false] #[true, true, true, true, false, true, true, true, true, true, false, true, true, true, false, false] rfl rfl rfl rfl (two_of HT_.out (by kernel_rfl)) (by decide) (by decide) (fun K hK => ?_) (fun K hK => ?_)
              · skip
                refine row_step (by rfl) (.tmp 44) (.tmp 47) 24 24 23 (.agg #[.int .i64 0, .int .i64 0]) 2 16 rfl Try.underlying24 infoSt2 rfl (by decide) (by decide) _ (.slice none 0 0) 0 0 [] [] (fun _ => False) rfl rfl (Row.nil _ _ _ _) ?_ ?_ ?_
                · exact Row.src (Row.nil _ 2 (fun _ => True) none) Try.underlying24 (by simp)
                · omega
                intro v48 w48 hr48 hl48
                obtain ⟨hr48, hb48⟩ := row_first (w := wx) (by repeat (first | exact Below.refl _ _ | exact hb48 | apply below_alloc | apply pw_below_drewN | apply below_drew1)) hr48 hl48
                refine hK.out _ _ ⟨(pw_cell_below hb48 x0), (pw_cell_below hb48 x1)⟩ (fun hHeld => ?_)
                clear hK K
                refine norm_ (a' := ?_) ?_ ?_
                rotate_left
                · show Act.put _ (some 48) _ = _
                  simp only [Act.put, List.setIfInBounds_toArray, List.set_cons_zero, List.set_cons_succ, i64_w, i32_w]
                  rfl
                refine one_ (i := 9) (N := some 53) #[true, true, true, true, true, true, true, true, true, true, false, true, true, true, false, false] rfl rfl (one_of HT_.out (by kernel_rfl)) (by decide) (fun K hK => ?_)
                refine value_ (w1 := ?_) (v := ?_) (by rfl) rfl ?_ ?_
                rotate_left 2
                · go_simp
                  constructor
                  · rfl
                  · rfl
                refine hK.out _ _ ⟨(pw_cell_below (by repeat (first | exact Below.refl _ _ | exact hb48 | apply below_alloc | apply pw_below_drewN | apply below_drew1)) x0), (pw_cell_below (by repeat (first | exact Below.refl _ _ | exact hb48 | apply below_alloc | apply pw_below_drewN | apply below_drew1)) x1)⟩ (fun hHeld => ?_)
                clear hK K
                refine norm_ (a' := ?_) ?_ ?_
                rotate_left
                · show Act.put _ (some 53) _ = _
                  simp only [Act.put, List.setIfInBounds_toArray, List.set_cons_zero, List.set_cons_succ, i64_w, i32_w]
                  rfl
                exact norm_ (by simp only [putAll, Act.put, List.setIfInBounds_toArray, List.set_cons_zero, List.set_cons_succ]) (hCont (wx.heap.size, v48, w48.heap.size) _ ⟨⟨hr48.below (by decide) (below_alloc (Below.refl _ _) _), blk_new w48 _, below_alloc hb48 _⟩, pw_cell_below (by repeat (first | exact Below.refl _ _ | exact hb48 | apply below_alloc | apply pw_below_drewN | apply below_drew1)) x0, pw_cell_below (by repeat (first | exact Below.refl _ _ | exact hb48 | apply below_alloc | apply pw_below_drewN | apply below_drew1)) x1⟩)
              · skip
                refine value_ (w1 := ?_) (v := ?_) (by rfl) rfl ?_ ?_
                rotate_left 2
                · go_simp
                  constructor
                  · rfl
                  · rfl
                refine hK.out _ _ ⟨(pw_cell_below (by repeat (first | exact Below.refl _ _ | exact hb48 | apply below_alloc | apply pw_below_drewN | apply below_drew1)) x0), (pw_cell_below (by repeat (first | exact Below.refl _ _ | exact hb48 | apply below_alloc | apply pw_below_drewN | apply below_drew1)) x1)⟩ (fun hHeld => ?_)
                clear hK K
                refine norm_ (a' := ?_) ?_ ?_
                rotate_left
                · show Act.put _ (some 53) _ = _
                  simp only [Act.put, List.setIfInBounds_toArray, List.set_cons_zero, List.set_cons_succ, i64_w, i32_w]
                  rfl
                refine one_ (i := 4) (N := some 48) #[true, true, true, true, true, true, true, true, true, true, false, true, true, true, false, false] rfl rfl (one_of HT_.out (by kernel_rfl)) (by decide) (fun K hK => ?_)
                refine row_step (by rfl) (.tmp 44) (.tmp 47) 24 24 23 (.agg #[.int .i64 0, .int .i64 0]) 2 16 rfl Try.underlying24 infoSt2 rfl (by decide) (by decide) _ (.slice none 0 0) 0 0 [] [] (fun _ => False) rfl rfl (Row.nil _ _ _ _) ?_ ?_ ?_
                · exact Row.src (Row.nil _ 2 (fun _ => True) none) Try.underlying24 (by simp)
                · omega
                intro v48 w48 hr48 hl48
                have hx48 := blk_below (blk_drew (blk_new _ _)) hl48.new
                obtain ⟨hr48, hb48⟩ := row_first (w := wx) (by repeat (first | exact Below.refl _ _ | exact hb48 | apply below_alloc | apply pw_below_drewN | apply below_drew1)) hr48 hl48
                refine hK.out _ _ ⟨(pw_cell_below hb48 x0), (pw_cell_below hb48 x1)⟩ (fun hHeld => ?_)
                clear hK K
                refine norm_ (a' := ?_) ?_ ?_
                rotate_left
                · show Act.put _ (some 48) _ = _
                  simp only [Act.put, List.setIfInBounds_toArray, List.set_cons_zero, List.set_cons_succ, i64_w, i32_w]
                  rfl
                exact norm_ (by simp only [putAll, Act.put, List.setIfInBounds_toArray, List.set_cons_zero, List.set_cons_succ]) (hCont (wx.heap.size, v48, (wx.heap.size + 1)) _ ⟨⟨hr48, by simpa using hx48, hb48⟩, pw_cell_below (by repeat (first | exact Below.refl _ _ | exact hb48 | apply below_alloc | apply pw_below_drewN | apply below_drew1)) x0, pw_cell_below (by repeat (first | exact Below.refl _ _ | exact hb48 | apply below_alloc | apply pw_below_drewN | apply below_drew1)) x1⟩)
            · skip
              refine value_ (w1 := ?_) (v := ?_) (by rfl) rfl ?_ ?_
              rotate_left 2
              · go_simp
                constructor
                · rfl
                · rfl
              refine hK.out _ _ ⟨(pw_cell_below (by repeat (first | exact Below.refl _ _ | exact hb48 | apply below_alloc | apply pw_below_drewN | apply below_drew1)) x0), (pw_cell_below (by repeat (first | exact Below.refl _ _ | exact hb48 | apply below_alloc | apply pw_below_drewN | apply below_drew1)) x1)⟩ (fun hHeld => ?_)
              clear hK K
              refine norm_ (a' := ?_) ?_ ?_
              rotate_left
              · show Act.put _ (some 53) _ = _
                simp only [Act.put, List.setIfInBounds_toArray, List.set_cons_zero, List.set_cons_succ, i64_w, i32_w]
                rfl
              refine one_ (i := 0) (N := some 44) #[true, true, true, true, false, true, true, true, true, true, false, true, true, true, false, false] rfl rfl (one_of HT_.out (by kernel_rfl)) (by decide) (fun K hK => ?_)
              refine value_ (w1 := ?_) (v := ?_) (by rfl) rfl ?_ ?_
              rotate_left 2
              · go_simp
                constructor
                · rfl
                · rfl
              refine hK.out _ _ ⟨(pw_cell_below (by repeat (first | exact Below.refl _ _ | exact hb48 | apply below_alloc | apply pw_below_drewN | apply below_drew1)) x0), (pw_cell_below (by repeat (first | exact Below.refl _ _ | exact hb48 | apply below_alloc | apply pw_below_drewN | apply below_drew1)) x1)⟩ (fun hHeld => ?_)
              clear hK K
              refine norm_ (a' := ?_) ?_ ?_
              rotate_left
              · show Act.put _ (some 44) _ = _
                simp only [Act.put, List.setIfInBounds_toArray, List.set_cons_zero, List.set_cons_succ, i64_w, i32_w]
                rfl
              refine one_ (i := 4) (N := some 48) #[true, true, true, true, true, true, true, true, true, true, false, true, true, true, false, false] rfl rfl (one_of HT_.out (by kernel_rfl)) (by decide) (fun K hK => ?_)
              refine row_step (by rfl) (.tmp 44) (.tmp 47) 24 24 23 (.agg #[.int .i64 0, .int .i64 0]) 2 16 rfl Try.underlying24 infoSt2 rfl (by decide) (by decide) _ (.slice none 0 0) 0 0 [] [] (fun _ => False) rfl rfl (Row.nil _ _ _ _) ?_ ?_ ?_
              · exact Row.src (Row.nil _ 2 (fun _ => True) none) Try.underlying24 (by simp)
              · omega
              intro v48 w48 hr48 hl48
              have hx48 := blk_below (blk_drew (blk_alloc (blk_new _ _) _)) hl48.new
              obtain ⟨hr48, hb48⟩ := row_first (w := wx) (by repeat (first | exact Below.refl _ _ | exact hb48 | apply below_alloc | apply pw_below_drewN | apply below_drew1)) hr48 hl48
              refine hK.out _ _ ⟨(pw_cell_below hb48 x0), (pw_cell_below hb48 x1)⟩ (fun hHeld => ?_)
              clear hK K
              refine norm_ (a' := ?_) ?_ ?_
              rotate_left
              · show Act.put _ (some 48) _ = _
                simp only [Act.put, List.setIfInBounds_toArray, List.set_cons_zero, List.set_cons_succ, i64_w, i32_w]
                rfl
              exact norm_ (by simp only [putAll, Act.put, List.setIfInBounds_toArray, List.set_cons_zero, List.set_cons_succ]) (hCont ((wx.heap.size + 1), v48, wx.heap.size) _ ⟨⟨hr48, hx48, hb48⟩, pw_cell_below (by repeat (first | exact Below.refl _ _ | exact hb48 | apply below_alloc | apply pw_below_drewN | apply below_drew1)) x0, pw_cell_below (by repeat (first | exact Below.refl _ _ | exact hb48 | apply below_alloc | apply pw_below_drewN | apply below_drew1)) x1⟩)
          rintro ⟨a44, v48, b53⟩ w53 ⟨⟨hr48, hx53, hb53⟩, s0, s1⟩
          change Row w53 2 _ v48 0 ([]) at hr48
          change w53.heap[b53]? = _ at hx53
          have hHeld := And.intro s0 s1
          refine norm_ (a' := ?_) ?_ ?_
          rotate_left
          · simp only [putAll, Act.put, List.setIfInBounds_toArray, List.set_cons_zero, List.set_cons_succ]
            rfl
          refine one_ (i := 10) (N := some 54) #[true, true, true, true, true, true, true, true, true, true, true, true, true, true, false, false] rfl rfl (one_of HT_.out (by kernel_rfl)) (by decide) (fun K hK => ?_)
          refine row_step (by rfl) (.tmp 48) (.tmp 53) 24 24 23 (.agg #[.int .i64 0, .int .i64 0]) 2 16 rfl Try.underlying24 infoSt2 rfl (by decide) (by decide) v48 (.slice (some ⟨b53, 0, none⟩) 1 1) 0 1 ([]) [.int .i64 x.f0, .int .i64 x.f1] (fun k => wx.heap.size ≤ k) rfl rfl hr48 ?_ ?_ ?_
          · exact src_item Try.underlying24 hx53 rfl rfl
          · omega
          intro v54 w54 hr54 hl54
          obtain ⟨hr54, hb54⟩ := row_more hb53 hr54 hl54
          refine hK.out _ _ ⟨(pw_cell_below hb54 x0), (pw_cell_below hb54 x1)⟩ (fun hHeld => ?_)
          clear hK K
          refine norm_ (a' := ?_) ?_ ?_
          rotate_left
          · show Act.put _ (some 54) _ = _
            simp only [Act.put, List.setIfInBounds_toArray, List.set_cons_zero, List.set_cons_succ, i64_w, i32_w]
            rfl
          refine one_ (i := 14) (N := some 58) #[true, true, true, true, true, true, true, true, true, true, true, true, true, true, true, false] rfl rfl (one_of HT_.out (by kernel_rfl)) (by decide) (fun K hK => ?_)
          refine row_step (by rfl) (.tmp 54) (.tmp 57) 24 24 23 (.agg #[.int .i64 0, .int .i64 0]) 2 16 rfl Try.underlying24 infoSt2 rfl (by decide) (by decide) v54 (.slice none 0 0) (0 + 1) 0 ([] ++ [.int .i64 x.f0, .int .i64 x.f1]) [] (fun k => wx.heap.size ≤ k) rfl rfl hr54 ?_ ?_ ?_
          · exact Row.src (Row.nil _ 2 (fun _ => True) none) Try.underlying24 (by simp)
          · omega
          intro v58 w58 hr58 hl58
          obtain ⟨hr58, hb58⟩ := row_more hb54 hr58 hl58
          obtain ⟨A58, c58, rfl, _⟩ := hr58.shape
          refine hK.out _ _ ⟨(pw_cell_below hb58 x0), (pw_cell_below hb58 x1)⟩ (fun hHeld => ?_)
          clear hK K
          refine norm_ (a' := ?_) ?_ ?_
          rotate_left
          · show Act.put _ (some 58) _ = _
            simp only [Act.put, List.setIfInBounds_toArray, List.set_cons_zero, List.set_cons_succ, i64_w, i32_w]
            rfl
          refine pure_ (i := 15) (N := some 3) (v := ?_) (a' := ?_) #[true, true, true, true, true, true, true, true, true, true, true, true, true, true, true, true] rfl rfl (any_of HT_.out (by kernel_rfl)) (fun _ _ _ h => h) (Or.inl ⟨by rfl, ?_⟩) ?_ ?_
          rotate_left
          · intro w'
            go_simp
            with_reducible rfl
          rotate_left
          · simp only [Act.put, List.setIfInBounds_toArray, List.set_cons_zero, List.set_cons_succ, i64_w, i32_w]
            rfl
          refine done_ (done_of HT_.out (by kernel_rfl)) ?_
          have HST : Aside0 (Strict [x]) := ⟨by simp [Strict]⟩
          have HME : Aside0 (∀ a, a ∈ [x] ↔ a ∈ zs.take (i + 1)) := ⟨fun a => by
            have := HM.out a
            rw [HN0.out] at this
            rw [HTK.out, List.mem_append, ← this]
            simp⟩
          have HLE : Aside0 ([x].length ≤ i + 1) := ⟨by simp⟩
          have HFL : flatS [x] = [] ++ [.int .i64 x.f0, .int .i64 x.f1] ++ [] := by simp [flatS]
          have HNN : [x].length = 0 + 1 + 0 := rfl
          go_wp2
          all_goals
            go_roundg (nl - (i + 1))
            case measure => omega
            case rel => exact ⟨i + 1, [x], rfl, by go_num, by omega, HST, HME, HLE, HNX.out 0 0 HBX.out hr58 HFL HNN, ⟨below_step HBX.out hb58⟩⟩
      · obtain ⟨wo, hwo⟩ : ∃ wo, wo = wr := ⟨_, rfl⟩
        subst hwo
        obtain ⟨hn1, hr1⟩ : 0 < out.length ∧ Row wo 2 (fun k => w.heap.size ≤ k) u3 out.length (flatS out) := by
          rcases HO.out with ⟨h, _⟩ | h
          · exact absurd h hn0
          · exact h
        obtain ⟨A3, c3, rfl, hc3, hC3⟩ := HO.out.srd
        obtain ⟨n, hn⟩ : ∃ n, out.length = n := ⟨_, rfl⟩
        have HNO := Aside0.mk hn
        have hni : n ≤ i := by rw [← hn]; exact HL.out
        rw [hn] at hn1 hc3 hr1 hC3 ⊢
        obtain ⟨ado, rfl, -, -⟩ := X.at_T23 hC3 (0 : Nat) (by omega) (by omega)
        have HR := Aside0.mk hr1
        have HC3 := Aside0.mk hC3
        have hc33 : (n : Int) ≤ c3 := by omega
        clear hn hr1 hC3 hn0 HO
        go_wp2
        go_loopg [5] n (fun g v5 wz => ∃ k : Nat, g = n - k ∧ v5 = .int .i64 k ∧ k ≤ n ∧ Aside0 (∀ y ∈ out.take k, Lt y x) ∧ Aside0 (Below w.heap.size w wz) ∧ Aside0 (Below wo.heap.size wo wz))
        case atStart => exact ⟨0, by simp, rfl, Nat.zero_le _, ⟨by simp⟩, ⟨by repeat (first | exact HB.out | apply pw_below_drewN)⟩, ⟨by repeat (first | exact Below.refl _ _ | apply pw_below_drewN)⟩⟩
        case round =>
          clear HB
          obtain ⟨k, rfl, rfl, hk, HT, HB, HBR⟩ := hrel
          by_cases hkn : k < n
          · have hkn2 : (k : Int) < n := by omega
            have hk0 : (0 : Int) ≤ k := by omega
            obtain ⟨ado', hado, d0, d1⟩ := X.at_T23 HC3.out k (by omega) (by omega)
            injection hado with hado
            subst hado
            obtain ⟨y, hye⟩ : ∃ y, y = X.rd_T23 out k := ⟨_, rfl⟩
            rw [← hye, Int.toNat_natCast] at d0 d1
            have hzy : out[k]? = some y := by
              rw [hye]
              unfold X.rd_T23
              rw [Int.toNat_natCast, List.getD_eq_getElem?_getD, List.getElem?_eq_getElem (by have := HNO.out; omega)]
              rfl
            have HY0 := Aside0.mk d0
            have HY1 := Aside0.mk d1
            have HZY := Aside0.mk hzy
            clear d0 d1 hye hzy
            have hkb : decide ((k : Int) < (n : Int)) = true := by simpa using hkn
            go_upto_region 6 with fail
            refine gen_world (fun wx hwx => ?_)
            have HBX : Aside0 (Below w.heap.size w wx) := ⟨by rw [hwx]; repeat (first | exact Below.refl _ _ | apply pw_below_drewN | apply below_drew1 | exact HB.out)⟩
            have HBR2 : Aside0 (Below wo.heap.size wo wx) := ⟨by rw [hwx]; repeat (first | exact Below.refl _ _ | apply pw_below_drewN | apply below_drew1 | exact HBR.out)⟩
            have x0 := pw_cell_below HBX.out HX0.out
            have x1 := pw_cell_below HBX.out HX1.out
            have y0 := pw_cell_below HBR2.out HY0.out
            have y1 := pw_cell_below HBR2.out HY1.out
            clear hwx
            refine start_ (n := 15) (S := fun w' => w'.cell? (ado.add (k * 2)) = some (.int .i64 y.f0) ∧ w'.cell? ⟨(ado.add (k * 2)).block, (ado.add (k * 2)).off + 1, none⟩ = some (.int .i64 y.f1) ∧ w'.cell? (ad.add (i * 2)) = some (.int .i64 x.f0) ∧ w'.cell? ⟨(ad.add (i * 2)).block, (ad.add (i * 2)).off + 1, none⟩ = some (.int .i64 x.f1)) (ds := []) #[false, false, false, false, false, false, false, false, false, false, false, false, false, false, false] (by kernel_rfl) rfl rfl ⟨y0, y1, x0, x1⟩ (fun hHeld => ?_)
            refine with_tabW fsort_calls.tab6 fsort_calls.bits6 (fun HT_ HW_ => ?_)
            refine pure_ (i := 0) (N := some 12) (v := ?_) (a' := ?_) #[true, false, false, false, false, false, false, false, false, false, false, false, false, false, false] rfl rfl (any_of HT_.out (by kernel_rfl)) (fun _ _ _ h => h) (Or.inl ⟨by rfl, ?_⟩) ?_ ?_
            rotate_left
            · intro w'
              go_simp
              with_reducible rfl
            rotate_left
            · simp only [Act.put, List.setIfInBounds_toArray, List.set_cons_zero, List.set_cons_succ, i64_w, i32_w]
              rfl
            refine pure_ (i := 1) (N := some 13) (v := ?_) (a' := ?_) #[true, true, false, false, false, false, false, false, false, false, false, false, false, false, false] rfl rfl (any_of HT_.out (by kernel_rfl)) (fun _ _ _ h => h) (Or.inl ⟨by rfl, ?_⟩) ?_ ?_
            rotate_left
            · intro w'
              go_simp
              with_reducible rfl
            rotate_left
            · simp only [Act.put, List.setIfInBounds_toArray, List.set_cons_zero, List.set_cons_succ, i64_w, i32_w]
              rfl
            refine pure_ (i := 2) (N := some 14) (v := ?_) (a' := ?_) #[true, true, true, false, false, false, false, false, false, false, false, false, false, false, false] rfl rfl (any_of HT_.out (by kernel_rfl)) (fun _ _ _ h => h) (Or.inl ⟨by rfl, ?_⟩) ?_ ?_
            rotate_left
            · intro w'
              go_simp
              with_reducible rfl
            rotate_left
            · simp only [Act.put, List.setIfInBounds_toArray, List.set_cons_zero, List.set_cons_succ, i64_w, i32_w]
              rfl
            refine pure_ (i := 3) (N := some 15) (v := ?_) (a' := ?_) #[true, true, true, true, false, false, false, false, false, false, false, false, false, false, false] rfl rfl (any_of HT_.out (by kernel_rfl)) (fun _ _ _ h => h) (Or.inl ⟨by rfl, ?_⟩) ?_ ?_
            rotate_left
            · intro w'
              go_simp
              with_reducible rfl
            rotate_left
            · simp only [Act.put, List.setIfInBounds_toArray, List.set_cons_zero, List.set_cons_succ, i64_w, i32_w]
              rfl
            refine pure_ (i := 4) (N := some 16) (v := ?_) (a' := ?_) #[true, true, true, true, true, false, false, false, false, false, false, false, false, false, false] rfl rfl (any_of HT_.out (by kernel_rfl)) (fun _ _ _ h => h) (Or.inl ⟨by rfl, ?_⟩) ?_ ?_
            rotate_left
            · intro w'
              go_simp
              with_reducible rfl
            rotate_left
            · simp only [Act.put, List.setIfInBounds_toArray, List.set_cons_zero, List.set_cons_succ, i64_w, i32_w]
              rfl
            refine pure_ (i := 5) (N := some 17) (v := ?_) (a' := ?_) #[true, true, true, true, true, true, false, false, false, false, false, false, false, false, false] rfl rfl (any_of HT_.out (by kernel_rfl)) (fun _ _ _ h => h) (Or.inl ⟨by rfl, ?_⟩) ?_ ?_
            rotate_left
            · intro w'
              go_simp
              with_reducible rfl
            rotate_left
            · simp only [Act.put, List.setIfInBounds_toArray, List.set_cons_zero, List.set_cons_succ, i64_w, i32_w]
              rfl
            refine pure_ (i := 6) (N := some 18) (v := ?_) (a' := ?_) #[true, true, true, true, true, true, true, false, false, false, false, false, false, false, false] rfl rfl (any_of HT_.out (by kernel_rfl)) (fun _ _ _ h => h) (Or.inl ⟨by rfl, ?_⟩) ?_ ?_
            rotate_left
            · intro w'
              go_simp
              with_reducible rfl
            rotate_left
            · simp only [Act.put, List.setIfInBounds_toArray, List.set_cons_zero, List.set_cons_succ, i64_w, i32_w]
              rfl
            refine pure_ (i := 7) (N := some 19) (v := ?_) (a' := ?_) #[true, true, true, true, true, true, true, true, false, false, false, false, false, false, false] rfl rfl (any_of HT_.out (by kernel_rfl)) (fun _ _ _ h => h) (Or.inl ⟨by rfl, ?_⟩) ?_ ?_
            rotate_left
            · intro w'
              go_simp
              with_reducible rfl
            rotate_left
            · simp only [Act.put, List.setIfInBounds_toArray, List.set_cons_zero, List.set_cons_succ, i64_w, i32_w]
              rfl
            refine pure_ (i := 9) (N := some 21) (v := ?_) (a' := ?_) #[true, true, true, true, true, true, true, true, false, true, false, false, false, false, false] rfl rfl (any_of HT_.out (by kernel_rfl)) (fun _ _ _ h => h) (Or.inl ⟨by rfl, ?_⟩) ?_ ?_
            rotate_left
            · intro w'
              go_simp
              with_reducible rfl
            rotate_left
            · simp only [Act.put, List.setIfInBounds_toArray, List.set_cons_zero, List.set_cons_succ, i64_w, i32_w]
              rfl
            refine pure_ (i := 10) (N := some 22) (v := ?_) (a' := ?_) #[true, true, true, true, true, true, true, true, false, true, true, false, false, false, false] rfl rfl (any_of HT_.out (by kernel_rfl)) (fun _ _ _ h => h) (Or.inl ⟨by rfl, ?_⟩) ?_ ?_
            rotate_left
            · intro w'
              go_simp
              with_reducible rfl
            rotate_left
            · simp only [Act.put, List.setIfInBounds_toArray, List.set_cons_zero, List.set_cons_succ, i64_w, i32_w]
              rfl
            refine pure_ (i := 11) (N := some 23) (v := ?_) (a' := ?_) #[true, true, true, true, true, true, true, true, false, true, true, true, false, false, false] rfl rfl (any_of HT_.out (by kernel_rfl)) (fun _ _ _ h => h) (Or.inl ⟨by rfl, ?_⟩) ?_ ?_
            rotate_left
            · intro w'
              go_simp
              with_reducible rfl
            rotate_left
            · simp only [Act.put, List.setIfInBounds_toArray, List.set_cons_zero, List.set_cons_succ, i64_w, i32_w]
              rfl
            refine take_ (i := 8) (N := some 20) (v := ?_) (a' := ?_) #[true, true, true, true, true, true, true, true, true, true, true, true, false, false, false] rfl rfl (take_ofW HT_.out HW_.out (by kernel_rfl)) (fun _ _ _ h => h) (Or.inl ⟨by rfl, ?_⟩) hHeld ?_ ?_
            rotate_left
            · rintro w' ⟨s0, s1, s2, s3⟩
              go_simp
              with_reducible rfl
            rotate_left
            · simp only [Act.put, List.setIfInBounds_toArray, List.set_cons_zero, List.set_cons_succ, i64_w, i32_w]
              rfl
            refine take_ (i := 12) (N := some 24) (v := ?_) (a' := ?_) #[true, true, true, true, true, true, true, true, true, true, true, true, true, false, false] rfl rfl (take_ofW HT_.out HW_.out (by kernel_rfl)) (fun _ _ _ h => h) (Or.inl ⟨by rfl, ?_⟩) hHeld ?_ ?_
            rotate_left
            · rintro w' ⟨s0, s1, s2, s3⟩
              go_simp
              with_reducible rfl
            rotate_left
            · simp only [Act.put, List.setIfInBounds_toArray, List.set_cons_zero, List.set_cons_succ, i64_w, i32_w]
              rfl
            refine one_ (i := 13) (N := some 25) #[true, true, true, true, true, true, true, true, true, true, true, true, true, true, false] rfl rfl (one_of HT_.out (by kernel_rfl)) (by decide) (fun K hK => ?_)
            refine goes_ Try.func9 (by kernel_rfl) rfl #[stV y, stV x] (by rfl) rfl rfl (by simp only [List.map_toArray, List.map_cons, List.map_nil]; rfl) ?_
            with_reducible refine (fless_calls y x _).mono ?_
            rintro e w3 ⟨rfl, hb3⟩
            refine ⟨_, rfl, ?_⟩
            refine hK.out _ _ ⟨(pw_cell_below hb3 y0), (pw_cell_below hb3 y1), (pw_cell_below hb3 x0), (pw_cell_below hb3 x1)⟩ (fun hHeld => ?_)
            clear hK K
            refine norm_ (a' := ?_) ?_ ?_
            rotate_left
            · show Act.put _ (some 25) _ = _
              simp only [Act.put, List.setIfInBounds_toArray, List.set_cons_zero, List.set_cons_succ, i64_w, i32_w]
              rfl
            refine pure_ (i := 14) (N := some 26) (v := ?_) (a' := ?_) #[true, true, true, true, true, true, true, true, true, true, true, true, true, true, true] rfl rfl (any_of HT_.out (by kernel_rfl)) (fun _ _ _ h => h) (Or.inl ⟨by rfl, ?_⟩) ?_ ?_
            rotate_left
            · intro w'
              go_simp
              with_reducible rfl
            rotate_left
            · simp only [Act.put, List.setIfInBounds_toArray, List.set_cons_zero, List.set_cons_succ, i64_w, i32_w]
              rfl
            refine done_ (done_of HT_.out (by kernel_rfl)) ?_
            have hlt : ltB y x = true ∨ ltB y x = false := by cases ltB y x <;> simp
            rcases hlt with hlt | hlt
            · have HLT := Aside0.mk hlt
              rw [hlt]
              clear hlt
              go_wp2
              go_roundg (n - (k + 1))
              case measure => omega
              case rel => exact ⟨k + 1, rfl, by go_num, by omega, ⟨by
                intro y' hy'
                rw [take_next HZY.out, List.mem_append] at hy'
                rcases hy' with hy' | hy'
                · exact HT.out y' hy'
                · have : y' = y := by simpa using hy'
                  rw [this]
                  exact (ltB_iff y x).1 HLT.out⟩, ⟨by repeat (first | exact below_step (below_drew1 HBX.out) hb3 | apply pw_below_drewN)⟩, ⟨by repeat (first | exact below_step (below_drew1 HBR2.out) hb3 | apply pw_below_drewN)⟩⟩
            · have HLTN := Aside0.mk hlt
              rw [hlt]
              clear hlt
              go_wp2
              have HB3 : Aside0 (Below w.heap.size w w3) := ⟨below_step (below_drew1 HBX.out) hb3⟩
              have HBR3 : Aside0 (Below wo.heap.size wo w3) := ⟨below_step (below_drew1 HBR2.out) hb3⟩
              clear hb3 HBX HBR2 HB HBR
              have hkb2 : ((k : Int) == (n : Int)) = false := by simp; omega
              go_upto_region 8 with fail
              refine gen_world (fun wx hwx => ?_)
              have HBX : Aside0 (Below w.heap.size w wx) := ⟨by rw [hwx]; repeat (first | exact Below.refl _ _ | apply pw_below_drewN | apply below_drew1 | exact HB3.out)⟩
              have HBR2 : Aside0 (Below wo.heap.size wo wx) := ⟨by rw [hwx]; repeat (first | exact Below.refl _ _ | apply pw_below_drewN | apply below_drew1 | exact HBR3.out)⟩
              have x0 := pw_cell_below HBX.out HX0.out
              have x1 := pw_cell_below HBX.out HX1.out
              have y0 := pw_cell_below HBR2.out HY0.out
              have y1 := pw_cell_below HBR2.out HY1.out
              clear hwx
              refine start_ (n := 15) (S := fun w' => w'.cell? (ado.add (k * 2)) = some (.int .i64 y.f0) ∧ w'.cell? ⟨(ado.add (k * 2)).block, (ado.add (k * 2)).off + 1, none⟩ = some (.int .i64 y.f1) ∧ w'.cell? (ad.add (i * 2)) = some (.int .i64 x.f0) ∧ w'.cell? ⟨(ad.add (i * 2)).block, (ad.add (i * 2)).off + 1, none⟩ = some (.int .i64 x.f1)) (ds := []) #[false, false, false, false, false, false, false, false, false, false, false, false, false, false, false] (by kernel_rfl) rfl rfl ⟨y0, y1, x0, x1⟩ (fun hHeld => ?_)
              refine with_tabW fsort_calls.tab8 fsort_calls.bits8 (fun HT_ HW_ => ?_)
              refine pure_ (i := 0) (N := some 29) (v := ?_) (a' := ?_) #[true, false, false, false, false, false, false, false, false, false, false, false, false, false, false] rfl rfl (any_of HT_.out (by kernel_rfl)) (fun _ _ _ h => h) (Or.inl ⟨by rfl, ?_⟩) ?_ ?_
              rotate_left
              · intro w'
                go_simp
                with_reducible rfl
              rotate_left
              · simp only [Act.put, List.setIfInBounds_toArray, List.set_cons_zero, List.set_cons_succ, i64_w, i32_w]
                rfl
              refine pure_ (i := 1) (N := some 30) (v := ?_) (a' := ?_) #[true, true, false, false, false, false, false, false, false, false, false, false, false, false, false] rfl rfl (any_of HT_.out (by kernel_rfl)) (fun _ _ _ h => h) (Or.inl ⟨by rfl, ?_⟩) ?_ ?_
              rotate_left
              · intro w'
                go_simp
                with_reducible rfl
              rotate_left
              · simp only [Act.put, List.setIfInBounds_toArray, List.set_cons_zero, List.set_cons_succ, i64_w, i32_w]
                rfl
              refine pure_ (i := 2) (N := some 31) (v := ?_) (a' := ?_) #[true, true, true, false, false, false, false, false, false, false, false, false, false, false, false] rfl rfl (any_of HT_.out (by kernel_rfl)) (fun _ _ _ h => h) (Or.inl ⟨by rfl, ?_⟩) ?_ ?_
              rotate_left
              · intro w'
                go_simp
                with_reducible rfl
              rotate_left
              · simp only [Act.put, List.setIfInBounds_toArray, List.set_cons_zero, List.set_cons_succ, i64_w, i32_w]
                rfl
              refine pure_ (i := 3) (N := some 32) (v := ?_) (a' := ?_) #[true, true, true, true, false, false, false, false, false, false, false, false, false, false, false] rfl rfl (any_of HT_.out (by kernel_rfl)) (fun _ _ _ h => h) (Or.inl ⟨by rfl, ?_⟩) ?_ ?_
              rotate_left
              · intro w'
                go_simp
                with_reducible rfl
              rotate_left
              · simp only [Act.put, List.setIfInBounds_toArray, List.set_cons_zero, List.set_cons_succ, i64_w, i32_w]
                rfl
              refine pure_ (i := 4) (N := some 33) (v := ?_) (a' := ?_) #[true, true, true, true, true, false, false, false, false, false, false, false, false, false, false] rfl rfl (any_of HT_.out (by kernel_rfl)) (fun _ _ _ h => h) (Or.inl ⟨by rfl, ?_⟩) ?_ ?_
              rotate_left
              · intro w'
                go_simp
                with_reducible rfl
              rotate_left
              · simp only [Act.put, List.setIfInBounds_toArray, List.set_cons_zero, List.set_cons_succ, i64_w, i32_w]
                rfl
              refine pure_ (i := 5) (N := some 34) (v := ?_) (a' := ?_) #[true, true, true, true, true, true, false, false, false, false, false, false, false, false, false] rfl rfl (any_of HT_.out (by kernel_rfl)) (fun _ _ _ h => h) (Or.inl ⟨by rfl, ?_⟩) ?_ ?_
              rotate_left
              · intro w'
                go_simp
                with_reducible rfl
              rotate_left
              · simp only [Act.put, List.setIfInBounds_toArray, List.set_cons_zero, List.set_cons_succ, i64_w, i32_w]
                rfl
              refine pure_ (i := 6) (N := some 35) (v := ?_) (a' := ?_) #[true, true, true, true, true, true, true, false, false, false, false, false, false, false, false] rfl rfl (any_of HT_.out (by kernel_rfl)) (fun _ _ _ h => h) (Or.inl ⟨by rfl, ?_⟩) ?_ ?_
              rotate_left
              · intro w'
                go_simp
                with_reducible rfl
              rotate_left
              · simp only [Act.put, List.setIfInBounds_toArray, List.set_cons_zero, List.set_cons_succ, i64_w, i32_w]
                rfl
              refine pure_ (i := 7) (N := some 36) (v := ?_) (a' := ?_) #[true, true, true, true, true, true, true, true, false, false, false, false, false, false, false] rfl rfl (any_of HT_.out (by kernel_rfl)) (fun _ _ _ h => h) (Or.inl ⟨by rfl, ?_⟩) ?_ ?_
              rotate_left
              · intro w'
                go_simp
                with_reducible rfl
              rotate_left
              · simp only [Act.put, List.setIfInBounds_toArray, List.set_cons_zero, List.set_cons_succ, i64_w, i32_w]
                rfl
              refine pure_ (i := 9) (N := some 38) (v := ?_) (a' := ?_) #[true, true, true, true, true, true, true, true, false, true, false, false, false, false, false] rfl rfl (any_of HT_.out (by kernel_rfl)) (fun _ _ _ h => h) (Or.inl ⟨by rfl, ?_⟩) ?_ ?_
              rotate_left
              · intro w'
                go_simp
                with_reducible rfl
              rotate_left
              · simp only [Act.put, List.setIfInBounds_toArray, List.set_cons_zero, List.set_cons_succ, i64_w, i32_w]
                rfl
              refine pure_ (i := 10) (N := some 39) (v := ?_) (a' := ?_) #[true, true, true, true, true, true, true, true, false, true, true, false, false, false, false] rfl rfl (any_of HT_.out (by kernel_rfl)) (fun _ _ _ h => h) (Or.inl ⟨by rfl, ?_⟩) ?_ ?_
              rotate_left
              · intro w'
                go_simp
                with_reducible rfl
              rotate_left
              · simp only [Act.put, List.setIfInBounds_toArray, List.set_cons_zero, List.set_cons_succ, i64_w, i32_w]
                rfl
              refine pure_ (i := 11) (N := some 40) (v := ?_) (a' := ?_) #[true, true, true, true, true, true, true, true, false, true, true, true, false, false, false] rfl rfl (any_of HT_.out (by kernel_rfl)) (fun _ _ _ h => h) (Or.inl ⟨by rfl, ?_⟩) ?_ ?_
              rotate_left
              · intro w'
                go_simp
                with_reducible rfl
              rotate_left
              · simp only [Act.put, List.setIfInBounds_toArray, List.set_cons_zero, List.set_cons_succ, i64_w, i32_w]
                rfl
              refine take_ (i := 8) (N := some 37) (v := ?_) (a' := ?_) #[true, true, true, true, true, true, true, true, true, true, true, true, false, false, false] rfl rfl (take_ofW HT_.out HW_.out (by kernel_rfl)) (fun _ _ _ h => h) (Or.inl ⟨by rfl, ?_⟩) hHeld ?_ ?_
              rotate_left
              · rintro w' ⟨s0, s1, s2, s3⟩
                go_simp
                with_reducible rfl
              rotate_left
              · simp only [Act.put, List.setIfInBounds_toArray, List.set_cons_zero, List.set_cons_succ, i64_w, i32_w]
                rfl
              refine take_ (i := 12) (N := some 41) (v := ?_) (a' := ?_) #[true, true, true, true, true, true, true, true, true, true, true, true, true, false, false] rfl rfl (take_ofW HT_.out HW_.out (by kernel_rfl)) (fun _ _ _ h => h) (Or.inl ⟨by rfl, ?_⟩) hHeld ?_ ?_
              rotate_left
              · rintro w' ⟨s0, s1, s2, s3⟩
                go_simp
                with_reducible rfl
              rotate_left
              · simp only [Act.put, List.setIfInBounds_toArray, List.set_cons_zero, List.set_cons_succ, i64_w, i32_w]
                rfl
              refine one_ (i := 13) (N := some 42) #[true, true, true, true, true, true, true, true, true, true, true, true, true, true, false] rfl rfl (one_of HT_.out (by kernel_rfl)) (by decide) (fun K hK => ?_)
              refine value_ (w1 := ?_) (v := .bool (neB y x)) (by rfl) rfl ?_ ?_
              rotate_left 1
              · go_simp
                unfold neB
                split
                · split
                  · first | rfl | (constructor <;> rfl)
                  · first | rfl | (constructor <;> rfl)
                · first | rfl | (constructor <;> rfl)
              refine hK.out _ _ ⟨y0, y1, x0, x1⟩ (fun hHeld => ?_)
              clear hK K
              refine norm_ (a' := ?_) ?_ ?_
              rotate_left
              · show Act.put _ (some 42) _ = _
                simp only [Act.put, List.setIfInBounds_toArray, List.set_cons_zero, List.set_cons_succ, i64_w, i32_w]
                rfl
              refine pure_ (i := 14) (N := some 43) (v := ?_) (a' := ?_) #[true, true, true, true, true, true, true, true, true, true, true, true, true, true, true] rfl rfl (any_of HT_.out (by kernel_rfl)) (fun _ _ _ h => h) (Or.inl ⟨by rfl, ?_⟩) ?_ ?_
              rotate_left
              · intro w'
                go_simp
                with_reducible rfl
              rotate_left
              · simp only [Act.put, List.setIfInBounds_toArray, List.set_cons_zero, List.set_cons_succ, i64_w, i32_w]
                rfl
              refine done_ (done_of HT_.out (by kernel_rfl)) ?_
              have hne : neB y x = true ∨ neB y x = false := by cases neB y x <;> simp
              rcases hne with hne | hne
              · have HNE := Aside0.mk hne
                rw [hne]
                clear hne
                go_wp2
                have hkc : k ≤ c3 := by omega
                have hck : ¬ c3 = k := by omega
                go_upto_region 9 with fail
                refine gen_world (fun wx hwx => ?_)
                have HBX : Aside0 (Below w.heap.size w wx) := ⟨by rw [hwx]; repeat (first | exact Below.refl _ _ | apply pw_below_drewN | apply below_drew1 | exact HBX.out)⟩
                have HBR2 : Aside0 (Below wo.heap.size wo wx) := ⟨by rw [hwx]; repeat (first | exact Below.refl _ _ | apply pw_below_drewN | apply below_drew1 | exact HBR2.out)⟩
                have x0 := pw_cell_below HBX.out HX0.out
                have x1 := pw_cell_below HBX.out HX1.out
                clear hwx
                refine start_ (n := 16) (S := fun w' => w'.cell? (ad.add (i * 2)) = some (.int .i64 x.f0) ∧ w'.cell? ⟨(ad.add (i * 2)).block, (ad.add (i * 2)).off + 1, none⟩ = some (.int .i64 x.f1)) (ds := []) #[false, false, false, false, false, false, false, false, false, false, false, false, false, false, false, false] (by kernel_rfl) rfl rfl ⟨x0, x1⟩ (fun hHeld => ?_)
                refine with_tabW fsort_calls.tab9 fsort_calls.bits9 (fun HT_ HW_ => ?_)
                refine pure_ (i := 1) (N := some 45) (v := ?_) (a' := ?_) #[false, true, false, false, false, false, false, false, false, false, false, false, false, false, false, false] rfl rfl (any_of HT_.out (by kernel_rfl)) (fun _ _ _ h => h) (Or.inl ⟨by rfl, ?_⟩) ?_ ?_
                rotate_left
                · intro w'
                  go_simp
                  with_reducible rfl
                rotate_left
                · simp only [Act.put, List.setIfInBounds_toArray, List.set_cons_zero, List.set_cons_succ, i64_w, i32_w]
                  rfl
                refine pure_ (i := 2) (N := some 46) (v := ?_) (a' := ?_) #[false, true, true, false, false, false, false, false, false, false, false, false, false, false, false, false] rfl rfl (any_of HT_.out (by kernel_rfl)) (fun _ _ _ h => h) (Or.inl ⟨by rfl, ?_⟩) ?_ ?_
                rotate_left
                · intro w'
                  go_simp
                  with_reducible rfl
                rotate_left
                · simp only [Act.put, List.setIfInBounds_toArray, List.set_cons_zero, List.set_cons_succ, i64_w, i32_w]
                  rfl
                refine pure_ (i := 3) (N := some 47) (v := ?_) (a' := ?_) #[false, true, true, true, false, false, false, false, false, false, false, false, false, false, false, false] rfl rfl (any_of HT_.out (by kernel_rfl)) (fun _ _ _ h => h) (Or.inl ⟨by rfl, ?_⟩) ?_ ?_
                rotate_left
                · intro w'
                  go_simp
                  with_reducible rfl
                rotate_left
                · simp only [Act.put, List.setIfInBounds_toArray, List.set_cons_zero, List.set_cons_succ, i64_w, i32_w]
                  rfl
                refine pure_ (i := 5) (N := some 49) (v := ?_) (a' := ?_) #[false, true, true, true, false, true, false, false, false, false, false, false, false, false, false, false] rfl rfl (any_of HT_.out (by kernel_rfl)) (fun _ _ _ h => h) (Or.inl ⟨by rfl, ?_⟩) ?_ ?_
                rotate_left
                · intro w'
                  go_simp
                  with_reducible rfl
                rotate_left
                · simp only [Act.put, List.setIfInBounds_toArray, List.set_cons_zero, List.set_cons_succ, i64_w, i32_w]
                  rfl
                refine pure_ (i := 6) (N := some 50) (v := ?_) (a' := ?_) #[false, true, true, true, false, true, true, false, false, false, false, false, false, false, false, false] rfl rfl (any_of HT_.out (by kernel_rfl)) (fun _ _ _ h => h) (Or.inl ⟨by rfl, ?_⟩) ?_ ?_
                rotate_left
                · intro w'
                  go_simp
                  with_reducible rfl
                rotate_left
                · simp only [Act.put, List.setIfInBounds_toArray, List.set_cons_zero, List.set_cons_succ, i64_w, i32_w]
                  rfl
                refine pure_ (i := 7) (N := some 51) (v := ?_) (a' := ?_) #[false, true, true, true, false, true, true, true, false, false, false, false, false, false, false, false] rfl rfl (any_of HT_.out (by kernel_rfl)) (fun _ _ _ h => h) (Or.inl ⟨by rfl, ?_⟩) ?_ ?_
                rotate_left
                · intro w'
                  go_simp
                  with_reducible rfl
                rotate_left
                · simp only [Act.put, List.setIfInBounds_toArray, List.set_cons_zero, List.set_cons_succ, i64_w, i32_w]
                  rfl
                refine pure_ (i := 11) (N := some 55) (v := ?_) (a' := ?_) #[false, true, true, true, false, true, true, true, false, false, false, true, false, false, false, false] rfl rfl (any_of HT_.out (by kernel_rfl)) (fun _ _ _ h => h) (Or.inl ⟨by rfl, ?_⟩) ?_ ?_
                rotate_left
                · intro w'
                  go_simp
                  with_reducible rfl
                rotate_left
                · simp only [Act.put, List.setIfInBounds_toArray, List.set_cons_zero, List.set_cons_succ, i64_w, i32_w]
                  rfl
                refine pure_ (i := 12) (N := some 56) (v := ?_) (a' := ?_) #[false, true, true, true, false, true, true, true, false, false, false, true, true, false, false, false] rfl rfl (any_of HT_.out (by kernel_rfl)) (fun _ _ _ h => h) (Or.inl ⟨by rfl, ?_⟩) ?_ ?_
                rotate_left
                · intro w'
                  go_simp
                  with_reducible rfl
                rotate_left
                · simp only [Act.put, List.setIfInBounds_toArray, List.set_cons_zero, List.set_cons_succ, i64_w, i32_w]
                  rfl
                refine pure_ (i := 13) (N := some 57) (v := ?_) (a' := ?_) #[false, true, true, true, false, true, true, true, false, false, false, true, true, true, false, false] rfl rfl (any_of HT_.out (by kernel_rfl)) (fun _ _ _ h => h) (Or.inl ⟨by rfl, ?_⟩) ?_ ?_
                rotate_left
                · intro w'
                  go_simp
                  with_reducible rfl
                rotate_left
                · simp only [Act.put, List.setIfInBounds_toArray, List.set_cons_zero, List.set_cons_succ, i64_w, i32_w]
                  rfl
                refine take_ (i := 8) (N := some 52) (v := ?_) (a' := ?_) #[false, true, true, true, false, true, true, true, true, false, false, true, true, true, false, false] rfl rfl (take_ofW HT_.out HW_.out (by kernel_rfl)) (fun _ _ _ h => h) (Or.inl ⟨by rfl, ?_⟩) hHeld ?_ ?_
                rotate_left
                · rintro w' ⟨s0, s1⟩
                  go_simp
                  with_reducible rfl
                rotate_left
                · simp only [Act.put, List.setIfInBounds_toArray, List.set_cons_zero, List.set_cons_succ, i64_w, i32_w]
                  rfl
                refine join_ (σ := Nat × Value × Nat) 3 #[true, true, true, true, true, true, true, true, true, true, false, true, true, true, false, false] (fun s => [(44, .slice (some ⟨s.1, 0, none⟩) 0 0), (48, s.2.1), (53, .slice (some ⟨s.2.2, 0, none⟩) 1 1)]) (fun s w' => (Row w' 2 (fun k => wx.heap.size ≤ k) s.2.1 k ((flatS (out.take k))) ∧ w'.heap[s.2.2]? = some (.cells #[.int .i64 x.f0, .int .i64 x.f1] 23 (0, 0)) ∧ Below wx.heap.size wx w') ∧ w'.cell? (ad.add (i * 2)) = some (.int .i64 x.f0) ∧ w'.cell? ⟨(ad.add (i * 2)).block, (ad.add (i * 2)).off + 1, none⟩ = some (.int .i64 x.f1)) ?_ ?_
                rotate_left
                · intro hCont
                  refine two_ (i := 0) (j := 9) (Ni := some 44) (Nj := some 53) #[true, true, true, true, false, true, true, true, true, false, false, true, true, true, false, false] #[false, true, true, true, false, true, true, true, true, true, false, true, true, true, false, false] rfl rfl rfl rfl (two_of HT_.out (by kernel_rfl)) (by decide) (by decide) (fun K hK => ?_) (fun K hK => ?_)
                  · skip
                    refine value_ (w1 := ?_) (v := ?_) (by rfl) rfl ?_ ?_
                    rotate_left 2
                    · go_simp
                      constructor
                      · rfl
                      · rfl
                    refine hK.out _ _ ⟨(pw_cell_below (by repeat (first | exact Below.refl _ _ | exact hb48 | apply below_alloc | apply pw_below_drewN | apply below_drew1)) x0), (pw_cell_below (by repeat (first | exact Below.refl _ _ | exact hb48 | apply below_alloc | apply pw_below_drewN | apply below_drew1)) x1)⟩ (fun hHeld => ?_)
                    clear hK K
                    refine norm_ (a' := ?_) ?_ ?_
                    rotate_left
                    · show Act.put _ (some 44) _ = _
                      simp only [Act.put, List.setIfInBounds_toArray, List.set_cons_zero, List.set_cons_succ, i64_w, i32_w]
                      rfl
                    refine two_ (i := 4) (j := 9) (Ni := some 48) (Nj := some 53) #[true, true, true, true, true, true, true, true, true, false, false, true, true, true, false, false] #[true, true, true, true, false, true, true, true, true, true, false, true, true, true, false, false] rfl rfl rfl rfl (two_of HT_.out (by kernel_rfl)) (by decide) (by decide) (fun K hK => ?_) (fun K hK => ?_)
                    · skip
                      refine row_step (by rfl) (.tmp 44) (.tmp 47) 24 24 23 (.agg #[.int .i64 0, .int .i64 0]) 2 16 rfl Try.underlying24 infoSt2 rfl (by decide) (by decide) _ _ 0 k [] (flatS (out.take k)) (fun _ => False) rfl rfl (Row.nil _ _ _ _) ?_ ?_ ?_
                      · exact src_take Try.underlying24 HNO.out (HR.out.below (by decide) (below_step HBR2.out (by repeat (first | exact Below.refl _ _ | exact hb48 | apply below_alloc | apply pw_below_drewN | apply below_drew1)))) hn1 k (by omega)
                      · omega
                      intro v48 w48 hr48 hl48
                      obtain ⟨hr48, hb48⟩ := row_first (w := wx) (by repeat (first | exact Below.refl _ _ | exact hb48 | apply below_alloc | apply pw_below_drewN | apply below_drew1)) hr48 hl48
                      refine hK.out _ _ ⟨(pw_cell_below hb48 x0), (pw_cell_below hb48 x1)⟩ (fun hHeld => ?_)
                      clear hK K
                      refine norm_ (a' := ?_) ?_ ?_
                      rotate_left
                      · show Act.put _ (some 48) _ = _
                        simp only [Act.put, List.setIfInBounds_toArray, List.set_cons_zero, List.set_cons_succ, i64_w, i32_w]
                        rfl
                      refine one_ (i := 9) (N := some 53) #[true, true, true, true, true, true, true, true, true, true, false, true, true, true, false, false] rfl rfl (one_of HT_.out (by kernel_rfl)) (by decide) (fun K hK => ?_)
                      refine value_ (w1 := ?_) (v := ?_) (by rfl) rfl ?_ ?_
                      rotate_left 2
                      · go_simp
                        constructor
                        · rfl
                        · rfl
                      refine hK.out _ _ ⟨(pw_cell_below (by repeat (first | exact Below.refl _ _ | exact hb48 | apply below_alloc | apply pw_below_drewN | apply below_drew1)) x0), (pw_cell_below (by repeat (first | exact Below.refl _ _ | exact hb48 | apply below_alloc | apply pw_below_drewN | apply below_drew1)) x1)⟩ (fun hHeld => ?_)
                      clear hK K
                      refine norm_ (a' := ?_) ?_ ?_
                      rotate_left
                      · show Act.put _ (some 53) _ = _
                        simp only [Act.put, List.setIfInBounds_toArray, List.set_cons_zero, List.set_cons_succ, i64_w, i32_w]
                        rfl
                      exact norm_ (by simp only [putAll, Act.put, List.setIfInBounds_toArray, List.set_cons_zero, List.set_cons_succ]) (hCont (wx.heap.size, v48, w48.heap.size) _ ⟨⟨hr48.below (by decide) (below_alloc (Below.refl _ _) _), blk_new w48 _, below_alloc hb48 _⟩, pw_cell_below (by repeat (first | exact Below.refl _ _ | exact hb48 | apply below_alloc | apply pw_below_drewN | apply below_drew1)) x0, pw_cell_below (by repeat (first | exact Below.refl _ _ | exact hb48 | apply below_alloc | apply pw_below_drewN | apply below_drew1)) x1⟩)
                    · skip
                      refine value_ (w1 := ?_) (v := ?_) (by rfl) rfl ?_ ?_
                      rotate_left 2
                      · go_simp
                        constructor
                        · rfl
                        · rfl
                      refine hK.out _ _ ⟨(pw_cell_below (by repeat (first | exact Below.refl _ _ | exact hb48 | apply below_alloc | apply pw_below_drewN | apply below_drew1)) x0), (pw_cell_below (by repeat (first | exact Below.refl _ _ | exact hb48 | apply below_alloc | apply pw_below_drewN | apply below_drew1)) x1)⟩ (fun hHeld => ?_)
                      clear hK K
                      refine norm_ (a' := ?_) ?_ ?_
                      rotate_left
                      · show Act.put _ (some 53) _ = _
                        simp only [Act.put, List.setIfInBounds_toArray, List.set_cons_zero, List.set_cons_succ, i64_w, i32_w]
                        rfl
                      refine one_ (i := 4) (N := some 48) #[true, true, true, true, true, true, true, true, true, true, false, true, true, true, false, false] rfl rfl (one_of HT_.out (by kernel_rfl)) (by decide) (fun K hK => ?_)
                      refine row_step (by rfl) (.tmp 44) (.tmp 47) 24 24 23 (.agg #[.int .i64 0, .int .i64 0]) 2 16 rfl Try.underlying24 infoSt2 rfl (by decide) (by decide) _ _ 0 k [] (flatS (out.take k)) (fun _ => False) rfl rfl (Row.nil _ _ _ _) ?_ ?_ ?_
                      · exact src_take Try.underlying24 HNO.out (HR.out.below (by decide) (below_step HBR2.out (by repeat (first | exact Below.refl _ _ | exact hb48 | apply below_alloc | apply pw_below_drewN | apply below_drew1)))) hn1 k (by omega)
                      · omega
                      intro v48 w48 hr48 hl48
                      have hx48 := blk_below (blk_drew (blk_new _ _)) hl48.new
                      obtain ⟨hr48, hb48⟩ := row_first (w := wx) (by repeat (first | exact Below.refl _ _ | exact hb48 | apply below_alloc | apply pw_below_drewN | apply below_drew1)) hr48 hl48
                      refine hK.out _ _ ⟨(pw_cell_below hb48 x0), (pw_cell_below hb48 x1)⟩ (fun hHeld => ?_)
                      clear hK K
                      refine norm_ (a' := ?_) ?_ ?_
                      rotate_left
                      · show Act.put _ (some 48) _ = _
                        simp only [Act.put, List.setIfInBounds_toArray, List.set_cons_zero, List.set_cons_succ, i64_w, i32_w]
                        rfl
                      exact norm_ (by simp only [putAll, Act.put, List.setIfInBounds_toArray, List.set_cons_zero, List.set_cons_succ]) (hCont (wx.heap.size, v48, (wx.heap.size + 1)) _ ⟨⟨hr48, by simpa using hx48, hb48⟩, pw_cell_below (by repeat (first | exact Below.refl _ _ | exact hb48 | apply below_alloc | apply pw_below_drewN | apply below_drew1)) x0, pw_cell_below (by repeat (first | exact Below.refl _ _ | exact hb48 | apply below_alloc | apply pw_below_drewN | apply below_drew1)) x1⟩)
                  · skip
                    refine value_ (w1 := ?_) (v := ?_) (by rfl) rfl ?_ ?_
                    rotate_left 2
                    · go_simp
                      constructor
                      · rfl
                      · rfl
                    refine hK.out _ _ ⟨(pw_cell_below (by repeat (first | exact Below.refl _ _ | exact hb48 | apply below_alloc | apply pw_below_drewN | apply below_drew1)) x0), (pw_cell_below (by repeat (first | exact Below.refl _ _ | exact hb48 | apply below_alloc | apply pw_below_drewN | apply below_drew1)) x1)⟩ (fun hHeld => ?_)
                    clear hK K
                    refine norm_ (a' := ?_) ?_ ?_
                    rotate_left
                    · show Act.put _ (some 53) _ = _
                      simp only [Act.put, List.setIfInBounds_toArray, List.set_cons_zero, List.set_cons_succ, i64_w, i32_w]
                      rfl
                    refine one_ (i := 0) (N := some 44) #[true, true, true, true, false, true, true, true, true, true, false, true, true, true, false, false] rfl rfl (one_of HT_.out (by kernel_rfl)) (by decide) (fun K hK => ?_)
                    refine value_ (w1 := ?_) (v := ?_) (by rfl) rfl ?_ ?_
                    rotate_left 2
                    · go_simp
                      constructor
                      · rfl
                      · rfl
                    refine hK.out _ _ ⟨(pw_cell_below (by repeat (first | exact Below.refl _ _ | exact hb48 | apply below_alloc | apply pw_below_drewN | apply below_drew1)) x0), (pw_cell_below (by repeat (first | exact Below.refl _ _ | exact hb48 | apply below_alloc | apply pw_below_drewN | apply below_drew1)) x1)⟩ (fun hHeld => ?_)
                    clear hK K
                    refine norm_ (a' := ?_) ?_ ?_
                    rotate_left
                    · show Act.put _ (some 44) _ = _
                      simp only [Act.put, List.setIfInBounds_toArray, List.set_cons_zero, List.set_cons_succ, i64_w, i32_w]
                      rfl
                    refine one_ (i := 4) (N := some 48) #[true, true, true, true, true, true, true, true, true, true, false, true, true, true, false, false] rfl rfl (one_of HT_.out (by kernel_rfl)) (by decide) (fun K hK => ?_)
                    refine row_step (by rfl) (.tmp 44) (.tmp 47) 24 24 23 (.agg #[.int .i64 0, .int .i64 0]) 2 16 rfl Try.underlying24 infoSt2 rfl (by decide) (by decide) _ _ 0 k [] (flatS (out.take k)) (fun _ => False) rfl rfl (Row.nil _ _ _ _) ?_ ?_ ?_
                    · exact src_take Try.underlying24 HNO.out (HR.out.below (by decide) (below_step HBR2.out (by repeat (first | exact Below.refl _ _ | exact hb48 | apply below_alloc | apply pw_below_drewN | apply below_drew1)))) hn1 k (by omega)
                    · omega
                    intro v48 w48 hr48 hl48
                    have hx48 := blk_below (blk_drew (blk_alloc (blk_new _ _) _)) hl48.new
                    obtain ⟨hr48, hb48⟩ := row_first (w := wx) (by repeat (first | exact Below.refl _ _ | exact hb48 | apply below_alloc | apply pw_below_drewN | apply below_drew1)) hr48 hl48
                    refine hK.out _ _ ⟨(pw_cell_below hb48 x0), (pw_cell_below hb48 x1)⟩ (fun hHeld => ?_)
                    clear hK K
                    refine norm_ (a' := ?_) ?_ ?_
                    rotate_left
                    · show Act.put _ (some 48) _ = _
                      simp only [Act.put, List.setIfInBounds_toArray, List.set_cons_zero, List.set_cons_succ, i64_w, i32_w]
                      rfl
                    exact norm_ (by simp only [putAll, Act.put, List.setIfInBounds_toArray, List.set_cons_zero, List.set_cons_succ]) (hCont ((wx.heap.size + 1), v48, wx.heap.size) _ ⟨⟨hr48, hx48, hb48⟩, pw_cell_below (by repeat (first | exact Below.refl _ _ | exact hb48 | apply below_alloc | apply pw_below_drewN | apply below_drew1)) x0, pw_cell_below (by repeat (first | exact Below.refl _ _ | exact hb48 | apply below_alloc | apply pw_below_drewN | apply below_drew1)) x1⟩)
                rintro ⟨a44, v48, b53⟩ w53 ⟨⟨hr48, hx53, hb53⟩, s0, s1⟩
                change Row w53 2 _ v48 k ((flatS (out.take k))) at hr48
                change w53.heap[b53]? = _ at hx53
                have hHeld := And.intro s0 s1
                refine norm_ (a' := ?_) ?_ ?_
                rotate_left
                · simp only [putAll, Act.put, List.setIfInBounds_toArray, List.set_cons_zero, List.set_cons_succ]
                  rfl
                refine one_ (i := 10) (N := some 54) #[true, true, true, true, true, true, true, true, true, true, true, true, true, true, false, false] rfl rfl (one_of HT_.out (by kernel_rfl)) (by decide) (fun K hK => ?_)
                refine row_step (by rfl) (.tmp 48) (.tmp 53) 24 24 23 (.agg #[.int .i64 0, .int .i64 0]) 2 16 rfl Try.underlying24 infoSt2 rfl (by decide) (by decide) v48 (.slice (some ⟨b53, 0, none⟩) 1 1) k 1 ((flatS (out.take k))) [.int .i64 x.f0, .int .i64 x.f1] (fun k => wx.heap.size ≤ k) rfl rfl hr48 ?_ ?_ ?_
                · exact src_item Try.underlying24 hx53 rfl rfl
                · omega
                intro v54 w54 hr54 hl54
                obtain ⟨hr54, hb54⟩ := row_more hb53 hr54 hl54
                refine hK.out _ _ ⟨(pw_cell_below hb54 x0), (pw_cell_below hb54 x1)⟩ (fun hHeld => ?_)
                clear hK K
                refine norm_ (a' := ?_) ?_ ?_
                rotate_left
                · show Act.put _ (some 54) _ = _
                  simp only [Act.put, List.setIfInBounds_toArray, List.set_cons_zero, List.set_cons_succ, i64_w, i32_w]
                  rfl
                refine one_ (i := 14) (N := some 58) #[true, true, true, true, true, true, true, true, true, true, true, true, true, true, true, false] rfl rfl (one_of HT_.out (by kernel_rfl)) (by decide) (fun K hK => ?_)
                refine row_step (by rfl) (.tmp 54) (.tmp 57) 24 24 23 (.agg #[.int .i64 0, .int .i64 0]) 2 16 rfl Try.underlying24 infoSt2 rfl (by decide) (by decide) v54 _ (k + 1) (n - k) ((flatS (out.take k)) ++ [.int .i64 x.f0, .int .i64 x.f1]) (flatS (out.drop k)) (fun k => wx.heap.size ≤ k) rfl rfl hr54 ?_ ?_ ?_
                · exact src_drop Try.underlying24 HNO.out (HR.out.below (by decide) (below_step HBR2.out hb54)) hn1 k hkn
                · omega
                intro v58 w58 hr58 hl58
                obtain ⟨hr58, hb58⟩ := row_more hb54 hr58 hl58
                obtain ⟨A58, c58, rfl, _⟩ := hr58.shape
                refine hK.out _ _ ⟨(pw_cell_below hb58 x0), (pw_cell_below hb58 x1)⟩ (fun hHeld => ?_)
                clear hK K
                refine norm_ (a' := ?_) ?_ ?_
                rotate_left
                · show Act.put _ (some 58) _ = _
                  simp only [Act.put, List.setIfInBounds_toArray, List.set_cons_zero, List.set_cons_succ, i64_w, i32_w]
                  rfl
                refine pure_ (i := 15) (N := some 3) (v := ?_) (a' := ?_) #[true, true, true, true, true, true, true, true, true, true, true, true, true, true, true, true] rfl rfl (any_of HT_.out (by kernel_rfl)) (fun _ _ _ h => h) (Or.inl ⟨by rfl, ?_⟩) ?_ ?_
                rotate_left
                · intro w'
                  go_simp
                  with_reducible rfl
                rotate_left
                · simp only [Act.put, List.setIfInBounds_toArray, List.set_cons_zero, List.set_cons_succ, i64_w, i32_w]
                  rfl
                refine done_ (done_of HT_.out (by kernel_rfl)) ?_
                have HIS := ins_spec HS.out (x := x) (k := k) (by have := HNO.out; omega) HT.out (fun y' hy' => by
                  rw [HZY.out] at hy'
                  injection hy' with hy'
                  rw [← hy']
                  exact ⟨fun h => Bool.noConfusion (((ltB_iff y x).2 h).symm.trans HLTN.out), neB_true HNE.out⟩)
                have HST := Aside0.mk HIS.1
                have HME : Aside0 (∀ a, a ∈ out.take k ++ [x] ++ out.drop k ↔ a ∈ zs.take (i + 1)) := ⟨fun a => by
                  rw [HIS.2 a, HTK.out, List.mem_append, ← HM.out a]
                  simp⟩
                have HNN : (out.take k ++ [x] ++ out.drop k).length = k + 1 + (n - k) := by
                  simp only [List.length_append, List.length_take, List.length_drop, List.length_cons, List.length_nil]
                  have := HNO.out
                  omega
                have HLE : Aside0 ((out.take k ++ [x] ++ out.drop k).length ≤ i + 1) := ⟨by rw [HNN]; omega⟩
                have HFL : flatS (out.take k ++ [x] ++ out.drop k) = flatS (out.take k) ++ [.int .i64 x.f0, .int .i64 x.f1] ++ flatS (out.drop k) := by simp [flatS]
                clear HIS
                go_wp2
                all_goals
                  go_roundg (nl - (i + 1))
                  case measure => omega
                  case rel => exact ⟨i + 1, (out.take k ++ [x] ++ out.drop k), rfl, by go_num, by omega, HST, HME, HLE, HNX.out k (n - k) HBX.out hr58 HFL HNN, ⟨below_step HBX.out hb58⟩⟩
              · have HNE := Aside0.mk hne
                rw [hne]
                clear hne
                go_wp2
                go_roundg (nl - (i + 1))
                case measure => omega
                case rel => exact ⟨i + 1, out, rfl, by go_num, by omega, HS, ⟨fun a => by
                  rw [HTK.out, List.mem_append, ← HM.out a]
                  constructor
                  · exact .inl
                  · rintro (h | h)
                    · exact h
                    · have : a = x := by simpa using h
                      rw [this, ← neB_false HNE.out]
                      exact List.mem_of_getElem? HZY.out⟩, ⟨by have := HL.out; omega⟩, ⟨.inr ⟨by rw [HNO.out]; exact hn1, by rw [HNO.out]; exact (HR.out.below (by decide) HBR2.out).below (by decide) (by repeat (first | exact Below.refl _ _ | apply pw_below_drewN | apply below_drew1))⟩⟩, ⟨by repeat (first | exact HBX.out | apply pw_below_drewN | apply below_drew1)⟩⟩
          · have hkn3 : n = k := by omega
            subst hkn3
            have hkb : decide ((n : Int) < (n : Int)) = false := by simp
            go_upto_region 6 with fail
            refine gen_world (fun wx hwx => ?_)
            have HBX : Aside0 (Below w.heap.size w wx) := ⟨by rw [hwx]; repeat (first | exact Below.refl _ _ | apply pw_below_drewN | apply below_drew1 | exact HB.out)⟩
            have HBR2 : Aside0 (Below wo.heap.size wo wx) := ⟨by rw [hwx]; repeat (first | exact Below.refl _ _ | apply pw_below_drewN | apply below_drew1 | exact HBR.out)⟩
            have x0 := pw_cell_below HBX.out HX0.out
            have x1 := pw_cell_below HBX.out HX1.out
            clear hwx
            refine start_ (n := 15) (S := fun w' => True) (ds := []) #[false, false, false, false, false, false, false, false, false, false, false, false, false, false, false] (by kernel_rfl) rfl rfl trivial (fun hHeld => ?_)
            refine with_tabW fsort_calls.tab6 fsort_calls.bits6 (fun HT_ HW_ => ?_)
            refine pure_ (i := 0) (N := some 12) (v := ?_) (a' := ?_) #[true, false, false, false, false, false, false, false, false, false, false, false, false, false, false] rfl rfl (any_of HT_.out (by kernel_rfl)) (fun _ _ _ h => h) (Or.inl ⟨by rfl, ?_⟩) ?_ ?_
            rotate_left
            · intro w'
              go_simp
              with_reducible rfl
            rotate_left
            · simp only [Act.put, List.setIfInBounds_toArray, List.set_cons_zero, List.set_cons_succ, i64_w, i32_w]
              rfl
            refine pure_ (i := 1) (N := some 13) (v := ?_) (a' := ?_) #[true, true, false, false, false, false, false, false, false, false, false, false, false, false, false] rfl rfl (any_of HT_.out (by kernel_rfl)) (fun _ _ _ h => h) (Or.inl ⟨by rfl, ?_⟩) ?_ ?_
            rotate_left
            · intro w'
              go_simp
              with_reducible rfl
            rotate_left
            · simp only [Act.put, List.setIfInBounds_toArray, List.set_cons_zero, List.set_cons_succ, i64_w, i32_w]
              rfl
            refine pure_ (i := 2) (N := some 14) (v := ?_) (a' := ?_) #[true, true, true, false, false, false, false, false, false, false, false, false, false, false, false] rfl rfl (any_of HT_.out (by kernel_rfl)) (fun _ _ _ h => h) (Or.inl ⟨by rfl, ?_⟩) ?_ ?_
            rotate_left
            · intro w'
              go_simp
              with_reducible rfl
            rotate_left
            · simp only [Act.put, List.setIfInBounds_toArray, List.set_cons_zero, List.set_cons_succ, i64_w, i32_w]
              rfl
            refine pure_ (i := 3) (N := some 15) (v := ?_) (a' := ?_) #[true, true, true, true, false, false, false, false, false, false, false, false, false, false, false] rfl rfl (any_of HT_.out (by kernel_rfl)) (fun _ _ _ h => h) (Or.inl ⟨by rfl, ?_⟩) ?_ ?_
            rotate_left
            · intro w'
              go_simp
              with_reducible rfl
            rotate_left
            · simp only [Act.put, List.setIfInBounds_toArray, List.set_cons_zero, List.set_cons_succ, i64_w, i32_w]
              rfl
            refine pure_ (i := 4) (N := some 16) (v := ?_) (a' := ?_) #[true, true, true, true, true, false, false, false, false, false, false, false, false, false, false] rfl rfl (any_of HT_.out (by kernel_rfl)) (fun _ _ _ h => h) (Or.inl ⟨by rfl, ?_⟩) ?_ ?_
            rotate_left
            · intro w'
              go_simp
              with_reducible rfl
            rotate_left
            · simp only [Act.put, List.setIfInBounds_toArray, List.set_cons_zero, List.set_cons_succ, i64_w, i32_w]
              rfl
            refine pure_ (i := 5) (N := some 17) (v := undef) (a' := ?_) #[true, true, true, true, true, true, false, false, false, false, false, false, false, false, false] rfl rfl (any_of HT_.out (by kernel_rfl)) (fun _ _ _ h => h) (Or.inr ⟨by rfl, rfl⟩) ?_ ?_
            rotate_left
            · simp only [Act.put, List.setIfInBounds_toArray, List.set_cons_zero, List.set_cons_succ, i64_w, i32_w]
              rfl
            refine pure_ (i := 6) (N := some 18) (v := undef) (a' := ?_) #[true, true, true, true, true, true, true, false, false, false, false, false, false, false, false] rfl rfl (any_of HT_.out (by kernel_rfl)) (fun _ _ _ h => h) (Or.inr ⟨by rfl, rfl⟩) ?_ ?_
            rotate_left
            · simp only [Act.put, List.setIfInBounds_toArray, List.set_cons_zero, List.set_cons_succ, i64_w, i32_w]
              rfl
            refine pure_ (i := 7) (N := some 19) (v := undef) (a' := ?_) #[true, true, true, true, true, true, true, true, false, false, false, false, false, false, false] rfl rfl (any_of HT_.out (by kernel_rfl)) (fun _ _ _ h => h) (Or.inr ⟨by rfl, rfl⟩) ?_ ?_
            rotate_left
            · simp only [Act.put, List.setIfInBounds_toArray, List.set_cons_zero, List.set_cons_succ, i64_w, i32_w]
              rfl
            refine pure_ (i := 8) (N := some 20) (v := undef) (a' := ?_) #[true, true, true, true, true, true, true, true, true, false, false, false, false, false, false] rfl rfl (any_of HT_.out (by kernel_rfl)) (fun _ _ _ h => h) (Or.inr ⟨by rfl, rfl⟩) ?_ ?_
            rotate_left
            · simp only [Act.put, List.setIfInBounds_toArray, List.set_cons_zero, List.set_cons_succ, i64_w, i32_w]
              rfl
            refine pure_ (i := 9) (N := some 21) (v := undef) (a' := ?_) #[true, true, true, true, true, true, true, true, true, true, false, false, false, false, false] rfl rfl (any_of HT_.out (by kernel_rfl)) (fun _ _ _ h => h) (Or.inr ⟨by rfl, rfl⟩) ?_ ?_
            rotate_left
            · simp only [Act.put, List.setIfInBounds_toArray, List.set_cons_zero, List.set_cons_succ, i64_w, i32_w]
              rfl
            refine pure_ (i := 10) (N := some 22) (v := undef) (a' := ?_) #[true, true, true, true, true, true, true, true, true, true, true, false, false, false, false] rfl rfl (any_of HT_.out (by kernel_rfl)) (fun _ _ _ h => h) (Or.inr ⟨by rfl, rfl⟩) ?_ ?_
            rotate_left
            · simp only [Act.put, List.setIfInBounds_toArray, List.set_cons_zero, List.set_cons_succ, i64_w, i32_w]
              rfl
            refine pure_ (i := 11) (N := some 23) (v := undef) (a' := ?_) #[true, true, true, true, true, true, true, true, true, true, true, true, false, false, false] rfl rfl (any_of HT_.out (by kernel_rfl)) (fun _ _ _ h => h) (Or.inr ⟨by rfl, rfl⟩) ?_ ?_
            rotate_left
            · simp only [Act.put, List.setIfInBounds_toArray, List.set_cons_zero, List.set_cons_succ, i64_w, i32_w]
              rfl
            refine pure_ (i := 12) (N := some 24) (v := undef) (a' := ?_) #[true, true, true, true, true, true, true, true, true, true, true, true, true, false, false] rfl rfl (any_of HT_.out (by kernel_rfl)) (fun _ _ _ h => h) (Or.inr ⟨by rfl, rfl⟩) ?_ ?_
            rotate_left
            · simp only [Act.put, List.setIfInBounds_toArray, List.set_cons_zero, List.set_cons_succ, i64_w, i32_w]
              rfl
            refine pure_ (i := 13) (N := some 25) (v := undef) (a' := ?_) #[true, true, true, true, true, true, true, true, true, true, true, true, true, true, false] rfl rfl (any_of HT_.out (by kernel_rfl)) (fun _ _ _ h => h) (Or.inr ⟨by rfl, rfl⟩) ?_ ?_
            rotate_left
            · simp only [Act.put, List.setIfInBounds_toArray, List.set_cons_zero, List.set_cons_succ, i64_w, i32_w]
              rfl
            refine pure_ (i := 14) (N := some 26) (v := ?_) (a' := ?_) #[true, true, true, true, true, true, true, true, true, true, true, true, true, true, true] rfl rfl (any_of HT_.out (by kernel_rfl)) (fun _ _ _ h => h) (Or.inl ⟨by rfl, ?_⟩) ?_ ?_
            rotate_left
            · intro w'
              go_simp
              with_reducible rfl
            rotate_left
            · simp only [Act.put, List.setIfInBounds_toArray, List.set_cons_zero, List.set_cons_succ, i64_w, i32_w]
              rfl
            refine done_ (done_of HT_.out (by kernel_rfl)) ?_
            go_wp2
            have hkb2 : ((n : Int) == (n : Int)) = true := by simp
            go_upto_region 8 with fail
            refine gen_world (fun wx hwx => ?_)
            have HBX : Aside0 (Below w.heap.size w wx) := ⟨by rw [hwx]; repeat (first | exact Below.refl _ _ | apply pw_below_drewN | apply below_drew1 | exact HBX.out)⟩
            have HBR2 : Aside0 (Below wo.heap.size wo wx) := ⟨by rw [hwx]; repeat (first | exact Below.refl _ _ | apply pw_below_drewN | apply below_drew1 | exact HBR2.out)⟩
            have x0 := pw_cell_below HBX.out HX0.out
            have x1 := pw_cell_below HBX.out HX1.out
            clear hwx
            refine start_ (n := 15) (S := fun w' => True) (ds := []) #[false, false, false, false, false, false, false, false, false, false, false, false, false, false, false] (by kernel_rfl) rfl rfl trivial (fun hHeld => ?_)
            refine with_tabW fsort_calls.tab8 fsort_calls.bits8 (fun HT_ HW_ => ?_)
            refine pure_ (i := 0) (N := some 29) (v := ?_) (a' := ?_) #[true, false, false, false, false, false, false, false, false, false, false, false, false, false, false] rfl rfl (any_of HT_.out (by kernel_rfl)) (fun _ _ _ h => h) (Or.inl ⟨by rfl, ?_⟩) ?_ ?_
            rotate_left
            · intro w'
              go_simp
              with_reducible rfl
            rotate_left
            · simp only [Act.put, List.setIfInBounds_toArray, List.set_cons_zero, List.set_cons_succ, i64_w, i32_w]
              rfl
            refine pure_ (i := 1) (N := some 30) (v := ?_) (a' := ?_) #[true, true, false, false, false, false, false, false, false, false, false, false, false, false, false] rfl rfl (any_of HT_.out (by kernel_rfl)) (fun _ _ _ h => h) (Or.inl ⟨by rfl, ?_⟩) ?_ ?_
            rotate_left
            · intro w'
              go_simp
              with_reducible rfl
            rotate_left
            · simp only [Act.put, List.setIfInBounds_toArray, List.set_cons_zero, List.set_cons_succ, i64_w, i32_w]
              rfl
            refine pure_ (i := 2) (N := some 31) (v := ?_) (a' := ?_) #[true, true, true, false, false, false, false, false, false, false, false, false, false, false, false] rfl rfl (any_of HT_.out (by kernel_rfl)) (fun _ _ _ h => h) (Or.inl ⟨by rfl, ?_⟩) ?_ ?_
            rotate_left
            · intro w'
              go_simp
              with_reducible rfl
            rotate_left
            · simp only [Act.put, List.setIfInBounds_toArray, List.set_cons_zero, List.set_cons_succ, i64_w, i32_w]
              rfl
            refine pure_ (i := 3) (N := some 32) (v := ?_) (a' := ?_) #[true, true, true, true, false, false, false, false, false, false, false, false, false, false, false] rfl rfl (any_of HT_.out (by kernel_rfl)) (fun _ _ _ h => h) (Or.inl ⟨by rfl, ?_⟩) ?_ ?_
            rotate_left
            · intro w'
              go_simp
              with_reducible rfl
            rotate_left
            · simp only [Act.put, List.setIfInBounds_toArray, List.set_cons_zero, List.set_cons_succ, i64_w, i32_w]
              rfl
            refine pure_ (i := 4) (N := some 33) (v := ?_) (a' := ?_) #[true, true, true, true, true, false, false, false, false, false, false, false, false, false, false] rfl rfl (any_of HT_.out (by kernel_rfl)) (fun _ _ _ h => h) (Or.inl ⟨by rfl, ?_⟩) ?_ ?_
            rotate_left
            · intro w'
              go_simp
              with_reducible rfl
            rotate_left
            · simp only [Act.put, List.setIfInBounds_toArray, List.set_cons_zero, List.set_cons_succ, i64_w, i32_w]
              rfl
            refine pure_ (i := 5) (N := some 34) (v := undef) (a' := ?_) #[true, true, true, true, true, true, false, false, false, false, false, false, false, false, false] rfl rfl (any_of HT_.out (by kernel_rfl)) (fun _ _ _ h => h) (Or.inr ⟨by rfl, rfl⟩) ?_ ?_
            rotate_left
            · simp only [Act.put, List.setIfInBounds_toArray, List.set_cons_zero, List.set_cons_succ, i64_w, i32_w]
              rfl
            refine pure_ (i := 6) (N := some 35) (v := undef) (a' := ?_) #[true, true, true, true, true, true, true, false, false, false, false, false, false, false, false] rfl rfl (any_of HT_.out (by kernel_rfl)) (fun _ _ _ h => h) (Or.inr ⟨by rfl, rfl⟩) ?_ ?_
            rotate_left
            · simp only [Act.put, List.setIfInBounds_toArray, List.set_cons_zero, List.set_cons_succ, i64_w, i32_w]
              rfl
            refine pure_ (i := 7) (N := some 36) (v := undef) (a' := ?_) #[true, true, true, true, true, true, true, true, false, false, false, false, false, false, false] rfl rfl (any_of HT_.out (by kernel_rfl)) (fun _ _ _ h => h) (Or.inr ⟨by rfl, rfl⟩) ?_ ?_
            rotate_left
            · simp only [Act.put, List.setIfInBounds_toArray, List.set_cons_zero, List.set_cons_succ, i64_w, i32_w]
              rfl
            refine pure_ (i := 8) (N := some 37) (v := undef) (a' := ?_) #[true, true, true, true, true, true, true, true, true, false, false, false, false, false, false] rfl rfl (any_of HT_.out (by kernel_rfl)) (fun _ _ _ h => h) (Or.inr ⟨by rfl, rfl⟩) ?_ ?_
            rotate_left
            · simp only [Act.put, List.setIfInBounds_toArray, List.set_cons_zero, List.set_cons_succ, i64_w, i32_w]
              rfl
            refine pure_ (i := 9) (N := some 38) (v := undef) (a' := ?_) #[true, true, true, true, true, true, true, true, true, true, false, false, false, false, false] rfl rfl (any_of HT_.out (by kernel_rfl)) (fun _ _ _ h => h) (Or.inr ⟨by rfl, rfl⟩) ?_ ?_
            rotate_left
            · simp only [Act.put, List.setIfInBounds_toArray, List.set_cons_zero, List.set_cons_succ, i64_w, i32_w]
              rfl
            refine pure_ (i := 10) (N := some 39) (v := undef) (a' := ?_) #[true, true, true, true, true, true, true, true, true, true, true, false, false, false, false] rfl rfl (any_of HT_.out (by kernel_rfl)) (fun _ _ _ h => h) (Or.inr ⟨by rfl, rfl⟩) ?_ ?_
            rotate_left
            · simp only [Act.put, List.setIfInBounds_toArray, List.set_cons_zero, List.set_cons_succ, i64_w, i32_w]
              rfl
            refine pure_ (i := 11) (N := some 40) (v := undef) (a' := ?_) #[true, true, true, true, true, true, true, true, true, true, true, true, false, false, false] rfl rfl (any_of HT_.out (by kernel_rfl)) (fun _ _ _ h => h) (Or.inr ⟨by rfl, rfl⟩) ?_ ?_
            rotate_left
            · simp only [Act.put, List.setIfInBounds_toArray, List.set_cons_zero, List.set_cons_succ, i64_w, i32_w]
              rfl
            refine pure_ (i := 12) (N := some 41) (v := undef) (a' := ?_) #[true, true, true, true, true, true, true, true, true, true, true, true, true, false, false] rfl rfl (any_of HT_.out (by kernel_rfl)) (fun _ _ _ h => h) (Or.inr ⟨by rfl, rfl⟩) ?_ ?_
            rotate_left
            · simp only [Act.put, List.setIfInBounds_toArray, List.set_cons_zero, List.set_cons_succ, i64_w, i32_w]
              rfl
            refine pure_ (i := 13) (N := some 42) (v := undef) (a' := ?_) #[true, true, true, true, true, true, true, true, true, true, true, true, true, true, false] rfl rfl (any_of HT_.out (by kernel_rfl)) (fun _ _ _ h => h) (Or.inr ⟨by rfl, rfl⟩) ?_ ?_
            rotate_left
            · simp only [Act.put, List.setIfInBounds_toArray, List.set_cons_zero, List.set_cons_succ, i64_w, i32_w]
              rfl
            refine pure_ (i := 14) (N := some 43) (v := ?_) (a' := ?_) #[true, true, true, true, true, true, true, true, true, true, true, true, true, true, true] rfl rfl (any_of HT_.out (by kernel_rfl)) (fun _ _ _ h => h) (Or.inl ⟨by rfl, ?_⟩) ?_ ?_
            rotate_left
            · intro w'
              go_simp
              with_reducible rfl
            rotate_left
            · simp only [Act.put, List.setIfInBounds_toArray, List.set_cons_zero, List.set_cons_succ, i64_w, i32_w]
              rfl
            refine done_ (done_of HT_.out (by kernel_rfl)) ?_
            go_wp2
            go_upto_region 9 with fail
            refine gen_world (fun wx hwx => ?_)
            have HBX : Aside0 (Below w.heap.size w wx) := ⟨by rw [hwx]; repeat (first | exact Below.refl _ _ | apply pw_below_drewN | apply below_drew1 | exact HBX.out)⟩
            have HBR2 : Aside0 (Below wo.heap.size wo wx) := ⟨by rw [hwx]; repeat (first | exact Below.refl _ _ | apply pw_below_drewN | apply below_drew1 | exact HBR2.out)⟩
            have x0 := pw_cell_below HBX.out HX0.out
            have x1 := pw_cell_below HBX.out HX1.out
            clear hwx
            refine start_ (n := 16) (S := fun w' => w'.cell? (ad.add (i * 2)) = some (.int .i64 x.f0) ∧ w'.cell? ⟨(ad.add (i * 2)).block, (ad.add (i * 2)).off + 1, none⟩ = some (.int .i64 x.f1)) (ds := []) #[false, false, false, false, false, false, false, false, false, false, false, false, false, false, false, false] (by kernel_rfl) rfl rfl ⟨x0, x1⟩ (fun hHeld => ?_)
            refine with_tabW fsort_calls.tab9 fsort_calls.bits9 (fun HT_ HW_ => ?_)
            refine pure_ (i := 1) (N := some 45) (v := ?_) (a' := ?_) #[false, true, false, false, false, false, false, false, false, false, false, false, false, false, false, false] rfl rfl (any_of HT_.out (by kernel_rfl)) (fun _ _ _ h => h) (Or.inl ⟨by rfl, ?_⟩) ?_ ?_
            rotate_left
            · intro w'
              go_simp
              with_reducible rfl
            rotate_left
            · simp only [Act.put, List.setIfInBounds_toArray, List.set_cons_zero, List.set_cons_succ, i64_w, i32_w]
              rfl
            refine pure_ (i := 2) (N := some 46) (v := ?_) (a' := ?_) #[false, true, true, false, false, false, false, false, false, false, false, false, false, false, false, false] rfl rfl (any_of HT_.out (by kernel_rfl)) (fun _ _ _ h => h) (Or.inl ⟨by rfl, ?_⟩) ?_ ?_
            rotate_left
            · intro w'
              go_simp
              with_reducible rfl
            rotate_left
            · simp only [Act.put, List.setIfInBounds_toArray, List.set_cons_zero, List.set_cons_succ, i64_w, i32_w]
              rfl
            refine pure_ (i := 3) (N := some 47) (v := ?_) (a' := ?_) #[false, true, true, true, false, false, false, false, false, false, false, false, false, false, false, false] rfl rfl (any_of HT_.out (by kernel_rfl)) (fun _ _ _ h => h) (Or.inl ⟨by rfl, ?_⟩) ?_ ?_
            rotate_left
            · intro w'
              go_simp
              with_reducible rfl
            rotate_left
            · simp only [Act.put, List.setIfInBounds_toArray, List.set_cons_zero, List.set_cons_succ, i64_w, i32_w]
              rfl
            refine pure_ (i := 5) (N := some 49) (v := ?_) (a' := ?_) #[false, true, true, true, false, true, false, false, false, false, false, false, false, false, false, false] rfl rfl (any_of HT_.out (by kernel_rfl)) (fun _ _ _ h => h) (Or.inl ⟨by rfl, ?_⟩) ?_ ?_
            rotate_left
            · intro w'
              go_simp
              with_reducible rfl
            rotate_left
            · simp only [Act.put, List.setIfInBounds_toArray, List.set_cons_zero, List.set_cons_succ, i64_w, i32_w]
              rfl
            refine pure_ (i := 6) (N := some 50) (v := ?_) (a' := ?_) #[false, true, true, true, false, true, true, false, false, false, false, false, false, false, false, false] rfl rfl (any_of HT_.out (by kernel_rfl)) (fun _ _ _ h => h) (Or.inl ⟨by rfl, ?_⟩) ?_ ?_
            rotate_left
            · intro w'
              go_simp
              with_reducible rfl
            rotate_left
            · simp only [Act.put, List.setIfInBounds_toArray, List.set_cons_zero, List.set_cons_succ, i64_w, i32_w]
              rfl
            refine pure_ (i := 7) (N := some 51) (v := ?_) (a' := ?_) #[false, true, true, true, false, true, true, true, false, false, false, false, false, false, false, false] rfl rfl (any_of HT_.out (by kernel_rfl)) (fun _ _ _ h => h) (Or.inl ⟨by rfl, ?_⟩) ?_ ?_
            rotate_left
            · intro w'
              go_simp
              with_reducible rfl
            rotate_left
            · simp only [Act.put, List.setIfInBounds_toArray, List.set_cons_zero, List.set_cons_succ, i64_w, i32_w]
              rfl
            refine pure_ (i := 11) (N := some 55) (v := ?_) (a' := ?_) #[false, true, true, true, false, true, true, true, false, false, false, true, false, false, false, false] rfl rfl (any_of HT_.out (by kernel_rfl)) (fun _ _ _ h => h) (Or.inl ⟨by rfl, ?_⟩) ?_ ?_
            rotate_left
            · intro w'
              go_simp
              with_reducible rfl
            rotate_left
            · simp only [Act.put, List.setIfInBounds_toArray, List.set_cons_zero, List.set_cons_succ, i64_w, i32_w]
              rfl
            refine pure_ (i := 12) (N := some 56) (v := ?_) (a' := ?_) #[false, true, true, true, false, true, true, true, false, false, false, true, true, false, false, false] rfl rfl (any_of HT_.out (by kernel_rfl)) (fun _ _ _ h => h) (Or.inl ⟨by rfl, ?_⟩) ?_ ?_
            rotate_left
            · intro w'
              go_simp
              with_reducible rfl
            rotate_left
            · simp only [Act.put, List.setIfInBounds_toArray, List.set_cons_zero, List.set_cons_succ, i64_w, i32_w]
              rfl
            refine pure_ (i := 13) (N := some 57) (v := ?_) (a' := ?_) #[false, true, true, true, false, true, true, true, false, false, false, true, true, true, false, false] rfl rfl (any_of HT_.out (by kernel_rfl)) (fun _ _ _ h => h) (Or.inl ⟨by rfl, ?_⟩) ?_ ?_
            rotate_left
            · intro w'
              go_simp
              with_reducible rfl
            rotate_left
            · simp only [Act.put, List.setIfInBounds_toArray, List.set_cons_zero, List.set_cons_succ, i64_w, i32_w]
              rfl
            refine take_ (i := 8) (N := some 52) (v := ?_) (a' := ?_) #[false, true, true, true, false, true, true, true, true, false, false, true, true, true, false, false] rfl rfl (take_ofW HT_.out HW_.out (by kernel_rfl)) (fun _ _ _ h => h) (Or.inl ⟨by rfl, ?_⟩) hHeld ?_ ?_
            rotate_left
            · rintro w' ⟨s0, s1⟩
              go_simp
              with_reducible rfl
            rotate_left
            · simp only [Act.put, List.setIfInBounds_toArray, List.set_cons_zero, List.set_cons_succ, i64_w, i32_w]
              rfl
            refine join_ (σ := Nat × Value × Nat) 3 #[true, true, true, true, true, true, true, true, true, true, false, true, true, true, false, false] (fun s => [(44, .slice (some ⟨s.1, 0, none⟩) 0 0), (48, s.2.1), (53, .slice (some ⟨s.2.2, 0, none⟩) 1 1)]) (fun s w' => (Row w' 2 (fun k => wx.heap.size ≤ k) s.2.1 n ((flatS (out.take n))) ∧ w'.heap[s.2.2]? = some (.cells #[.int .i64 x.f0, .int .i64 x.f1] 23 (0, 0)) ∧ Below wx.heap.size wx w') ∧ w'.cell? (ad.add (i * 2)) = some (.int .i64 x.f0) ∧ w'.cell? ⟨(ad.add (i * 2)).block, (ad.add (i * 2)).off + 1, none⟩ = some (.int .i64 x.f1)) ?_ ?_
            rotate_left
            · intro hCont
              refine two_ (i := 0) (j := 9) (Ni := some 44) (Nj := some 53) #[true, true, true, true, false, true, true, true, true, false, false, true, true, true, false, false] #[false, true, true, true, false, true, true, true, true, true, false, true, true, true, false, false] rfl rfl rfl rfl (two_of HT_.out (by kernel_rfl)) (by decide) (by decide) (fun K hK => ?_) (fun K hK => ?_)
              · skip
                refine value_ (w1 := ?_) (v := ?_) (by rfl) rfl ?_ ?_
                rotate_left 2
                · go_simp
                  constructor
                  · rfl
                  · rfl
                refine hK.out _ _ ⟨(pw_cell_below (by repeat (first | exact Below.refl _ _ | exact hb48 | apply below_alloc | apply pw_below_drewN | apply below_drew1)) x0), (pw_cell_below (by repeat (first | exact Below.refl _ _ | exact hb48 | apply below_alloc | apply pw_below_drewN | apply below_drew1)) x1)⟩ (fun hHeld => ?_)
                clear hK K
                refine norm_ (a' := ?_) ?_ ?_
                rotate_left
                · show Act.put _ (some 44) _ = _
                  simp only [Act.put, List.setIfInBounds_toArray, List.set_cons_zero, List.set_cons_succ, i64_w, i32_w]
                  rfl
                refine two_ (i := 4) (j := 9) (Ni := some 48) (Nj := some 53) #[true, true, true, true, true, true, true, true, true, false, false, true, true, true, false, false] #[true, true, true, true, false, true, true, true, true, true, false, true, true, true, false, false] rfl rfl rfl rfl (two_of HT_.out (by kernel_rfl)) (by decide) (by decide) (fun K hK => ?_) (fun K hK => ?_)
                · skip
                  refine row_step (by rfl) (.tmp 44) (.tmp 47) 24 24 23 (.agg #[.int .i64 0, .int .i64 0]) 2 16 rfl Try.underlying24 infoSt2 rfl (by decide) (by decide) _ _ 0 n [] (flatS (out.take n)) (fun _ => False) rfl rfl (Row.nil _ _ _ _) ?_ ?_ ?_
                  · exact src_take Try.underlying24 HNO.out (HR.out.below (by decide) (below_step HBR2.out (by repeat (first | exact Below.refl _ _ | exact hb48 | apply below_alloc | apply pw_below_drewN | apply below_drew1)))) hn1 n (Nat.le_refl _)
                  · omega
                  intro v48 w48 hr48 hl48
                  obtain ⟨hr48, hb48⟩ := row_first (w := wx) (by repeat (first | exact Below.refl _ _ | exact hb48 | apply below_alloc | apply pw_below_drewN | apply below_drew1)) hr48 hl48
                  refine hK.out _ _ ⟨(pw_cell_below hb48 x0), (pw_cell_below hb48 x1)⟩ (fun hHeld => ?_)
                  clear hK K
                  refine norm_ (a' := ?_) ?_ ?_
                  rotate_left
                  · show Act.put _ (some 48) _ = _
                    simp only [Act.put, List.setIfInBounds_toArray, List.set_cons_zero, List.set_cons_succ, i64_w, i32_w]
                    rfl
                  refine one_ (i := 9) (N := some 53) #[true, true, true, true, true, true, true, true, true, true, false, true, true, true, false, false] rfl rfl (one_of HT_.out (by kernel_rfl)) (by decide) (fun K hK => ?_)
                  refine value_ (w1 := ?_) (v := ?_) (by rfl) rfl ?_ ?_
                  rotate_left 2
                  · go_simp
                    constructor
                    · rfl
                    · rfl
                  refine hK.out _ _ ⟨(pw_cell_below (by repeat (first | exact Below.refl _ _ | exact hb48 | apply below_alloc | apply pw_below_drewN | apply below_drew1)) x0), (pw_cell_below (by repeat (first | exact Below.refl _ _ | exact hb48 | apply below_alloc | apply pw_below_drewN | apply below_drew1)) x1)⟩ (fun hHeld => ?_)
                  clear hK K
                  refine norm_ (a' := ?_) ?_ ?_
                  rotate_left
                  · show Act.put _ (some 53) _ = _
                    simp only [Act.put, List.setIfInBounds_toArray, List.set_cons_zero, List.set_cons_succ, i64_w, i32_w]
                    rfl
                  exact norm_ (by simp only [putAll, Act.put, List.setIfInBounds_toArray, List.set_cons_zero, List.set_cons_succ]) (hCont (wx.heap.size, v48, w48.heap.size) _ ⟨⟨hr48.below (by decide) (below_alloc (Below.refl _ _) _), blk_new w48 _, below_alloc hb48 _⟩, pw_cell_below (by repeat (first | exact Below.refl _ _ | exact hb48 | apply below_alloc | apply pw_below_drewN | apply below_drew1)) x0, pw_cell_below (by repeat (first | exact Below.refl _ _ | exact hb48 | apply below_alloc | apply pw_below_drewN | apply below_drew1)) x1⟩)
                · skip
                  refine value_ (w1 := ?_) (v := ?_) (by rfl) rfl ?_ ?_
                  rotate_left 2
                  · go_simp
                    constructor
                    · rfl
                    · rfl
                  refine hK.out _ _ ⟨(pw_cell_below (by repeat (first | exact Below.refl _ _ | exact hb48 | apply below_alloc | apply pw_below_drewN | apply below_drew1)) x0), (pw_cell_below (by repeat (first | exact Below.refl _ _ | exact hb48 | apply below_alloc | apply pw_below_drewN | apply below_drew1)) x1)⟩ (fun hHeld => ?_)
                  clear hK K
                  refine norm_ (a' := ?_) ?_ ?_
                  rotate_left
                  · show Act.put _ (some 53) _ = _
                    simp only [Act.put, List.setIfInBounds_toArray, List.set_cons_zero, List.set_cons_succ, i64_w, i32_w]
                    rfl
                  refine one_ (i := 4) (N := some 48) #[true, true, true, true, true, true, true, true, true, true, false, true, true, true, false, false] rfl rfl (one_of HT_.out (by kernel_rfl)) (by decide) (fun K hK => ?_)
                  refine row_step (by rfl) (.tmp 44) (.tmp 47) 24 24 23 (.agg #[.int .i64 0, .int .i64 0]) 2 16 rfl Try.underlying24 infoSt2 rfl (by decide) (by decide) _ _ 0 n [] (flatS (out.take n)) (fun _ => False) rfl rfl (Row.nil _ _ _ _) ?_ ?_ ?_
                  · exact src_take Try.underlying24 HNO.out (HR.out.below (by decide) (below_step HBR2.out (by repeat (first | exact Below.refl _ _ | exact hb48 | apply below_alloc | apply pw_below_drewN | apply below_drew1)))) hn1 n (Nat.le_refl _)
                  · omega
                  intro v48 w48 hr48 hl48
                  have hx48 := blk_below (blk_drew (blk_new _ _)) hl48.new
                  obtain ⟨hr48, hb48⟩ := row_first (w := wx) (by repeat (first | exact Below.refl _ _ | exact hb48 | apply below_alloc | apply pw_below_drewN | apply below_drew1)) hr48 hl48
                  refine hK.out _ _ ⟨(pw_cell_below hb48 x0), (pw_cell_below hb48 x1)⟩ (fun hHeld => ?_)
                  clear hK K
                  refine norm_ (a' := ?_) ?_ ?_
                  rotate_left
                  · show Act.put _ (some 48) _ = _
                    simp only [Act.put, List.setIfInBounds_toArray, List.set_cons_zero, List.set_cons_succ, i64_w, i32_w]
                    rfl
                  exact norm_ (by simp only [putAll, Act.put, List.setIfInBounds_toArray, List.set_cons_zero, List.set_cons_succ]) (hCont (wx.heap.size, v48, (wx.heap.size + 1)) _ ⟨⟨hr48, by simpa using hx48, hb48⟩, pw_cell_below (by repeat (first | exact Below.refl _ _ | exact hb48 | apply below_alloc | apply pw_below_drewN | apply below_drew1)) x0, pw_cell_below (by repeat (first | exact Below.refl _ _ | exact hb48 | apply below_alloc | apply pw_below_drewN | apply below_drew1)) x1⟩)
              · skip
                refine value_ (w1 := ?_) (v := ?_) (by rfl) rfl ?_ ?_
                rotate_left 2
                · go_simp
                  constructor
                  · rfl
                  · rfl
                refine hK.out _ _ ⟨(pw_cell_below (by repeat (first | exact Below.refl _ _ | exact hb48 | apply below_alloc | apply pw_below_drewN | apply below_drew1)) x0), (pw_cell_below (by repeat (first | exact Below.refl _ _ | exact hb48 | apply below_alloc | apply pw_below_drewN | apply below_drew1)) x1)⟩ (fun hHeld => ?_)
                clear hK K
                refine norm_ (a' := ?_) ?_ ?_
                rotate_left
                · show Act.put _ (some 53) _ = _
                  simp only [Act.put, List.setIfInBounds_toArray, List.set_cons_zero, List.set_cons_succ, i64_w, i32_w]
                  rfl
                refine one_ (i := 0) (N := some 44) #[true, true, true, true, false, true, true, true, true, true, false, true, true, true, false, false] rfl rfl (one_of HT_.out (by kernel_rfl)) (by decide) (fun K hK => ?_)
                refine value_ (w1 := ?_) (v := ?_) (by rfl) rfl ?_ ?_
                rotate_left 2
                · go_simp
                  constructor
                  · rfl
                  · rfl
                refine hK.out _ _ ⟨(pw_cell_below (by repeat (first | exact Below.refl _ _ | exact hb48 | apply below_alloc | apply pw_below_drewN | apply below_drew1)) x0), (pw_cell_below (by repeat (first | exact Below.refl _ _ | exact hb48 | apply below_alloc | apply pw_below_drewN | apply below_drew1)) x1)⟩ (fun hHeld => ?_)
                clear hK K
                refine norm_ (a' := ?_) ?_ ?_
                rotate_left
                · show Act.put _ (some 44) _ = _
                  simp only [Act.put, List.setIfInBounds_toArray, List.set_cons_zero, List.set_cons_succ, i64_w, i32_w]
                  rfl
                refine one_ (i := 4) (N := some 48) #[true, true, true, true, true, true, true, true, true, true, false, true, true, true, false, false] rfl rfl (one_of HT_.out (by kernel_rfl)) (by decide) (fun K hK => ?_)
                refine row_step (by rfl) (.tmp 44) (.tmp 47) 24 24 23 (.agg #[.int .i64 0, .int .i64 0]) 2 16 rfl Try.underlying24 infoSt2 rfl (by decide) (by decide) _ _ 0 n [] (flatS (out.take n)) (fun _ => False) rfl rfl (Row.nil _ _ _ _) ?_ ?_ ?_
                · exact src_take Try.underlying24 HNO.out (HR.out.below (by decide) (below_step HBR2.out (by repeat (first | exact Below.refl _ _ | exact hb48 | apply below_alloc | apply pw_below_drewN | apply below_drew1)))) hn1 n (Nat.le_refl _)
                · omega
                intro v48 w48 hr48 hl48
                have hx48 := blk_below (blk_drew (blk_alloc (blk_new _ _) _)) hl48.new
                obtain ⟨hr48, hb48⟩ := row_first (w := wx) (by repeat (first | exact Below.refl _ _ | exact hb48 | apply below_alloc | apply pw_below_drewN | apply below_drew1)) hr48 hl48
                refine hK.out _ _ ⟨(pw_cell_below hb48 x0), (pw_cell_below hb48 x1)⟩ (fun hHeld => ?_)
                clear hK K
                refine norm_ (a' := ?_) ?_ ?_
                rotate_left
                · show Act.put _ (some 48) _ = _
                  simp only [Act.put, List.setIfInBounds_toArray, List.set_cons_zero, List.set_cons_succ, i64_w, i32_w]
                  rfl
                exact norm_ (by simp only [putAll, Act.put, List.setIfInBounds_toArray, List.set_cons_zero, List.set_cons_succ]) (hCont ((wx.heap.size + 1), v48, wx.heap.size) _ ⟨⟨hr48, hx48, hb48⟩, pw_cell_below (by repeat (first | exact Below.refl _ _ | exact hb48 | apply below_alloc | apply pw_below_drewN | apply below_drew1)) x0, pw_cell_below (by repeat (first | exact Below.refl _ _ | exact hb48 | apply below_alloc | apply pw_below_drewN | apply below_drew1)) x1⟩)
            rintro ⟨a44, v48, b53⟩ w53 ⟨⟨hr48, hx53, hb53⟩, s0, s1⟩
            change Row w53 2 _ v48 n ((flatS (out.take n))) at hr48
            change w53.heap[b53]? = _ at hx53
            have hHeld := And.intro s0 s1
            refine norm_ (a' := ?_) ?_ ?_
            rotate_left
            · simp only [putAll, Act.put, List.setIfInBounds_toArray, List.set_cons_zero, List.set_cons_succ]
              rfl
            refine one_ (i := 10) (N := some 54) #[true, true, true, true, true, true, true, true, true, true, true, true, true, true, false, false] rfl rfl (one_of HT_.out (by kernel_rfl)) (by decide) (fun K hK => ?_)
            refine row_step (by rfl) (.tmp 48) (.tmp 53) 24 24 23 (.agg #[.int .i64 0, .int .i64 0]) 2 16 rfl Try.underlying24 infoSt2 rfl (by decide) (by decide) v48 (.slice (some ⟨b53, 0, none⟩) 1 1) n 1 ((flatS (out.take n))) [.int .i64 x.f0, .int .i64 x.f1] (fun k => wx.heap.size ≤ k) rfl rfl hr48 ?_ ?_ ?_
            · exact src_item Try.underlying24 hx53 rfl rfl
            · omega
            intro v54 w54 hr54 hl54
            obtain ⟨hr54, hb54⟩ := row_more hb53 hr54 hl54
            refine hK.out _ _ ⟨(pw_cell_below hb54 x0), (pw_cell_below hb54 x1)⟩ (fun hHeld => ?_)
            clear hK K
            refine norm_ (a' := ?_) ?_ ?_
            rotate_left
            · show Act.put _ (some 54) _ = _
              simp only [Act.put, List.setIfInBounds_toArray, List.set_cons_zero, List.set_cons_succ, i64_w, i32_w]
              rfl
            refine one_ (i := 14) (N := some 58) #[true, true, true, true, true, true, true, true, true, true, true, true, true, true, true, false] rfl rfl (one_of HT_.out (by kernel_rfl)) (by decide) (fun K hK => ?_)
            refine row_step (by rfl) (.tmp 54) (.tmp 57) 24 24 23 (.agg #[.int .i64 0, .int .i64 0]) 2 16 rfl Try.underlying24 infoSt2 rfl (by decide) (by decide) v54 _ (n + 1) 0 ((flatS (out.take n)) ++ [.int .i64 x.f0, .int .i64 x.f1]) [] (fun k => wx.heap.size ≤ k) rfl rfl hr54 ?_ ?_ ?_
            · exact src_zero Try.underlying24 _ _ _ _
            · omega
            intro v58 w58 hr58 hl58
            obtain ⟨hr58, hb58⟩ := row_more hb54 hr58 hl58
            obtain ⟨A58, c58, rfl, _⟩ := hr58.shape
            refine hK.out _ _ ⟨(pw_cell_below hb58 x0), (pw_cell_below hb58 x1)⟩ (fun hHeld => ?_)
            clear hK K
            refine norm_ (a' := ?_) ?_ ?_
            rotate_left
            · show Act.put _ (some 58) _ = _
              simp only [Act.put, List.setIfInBounds_toArray, List.set_cons_zero, List.set_cons_succ, i64_w, i32_w]
              rfl
            refine pure_ (i := 15) (N := some 3) (v := ?_) (a' := ?_) #[true, true, true, true, true, true, true, true, true, true, true, true, true, true, true, true] rfl rfl (any_of HT_.out (by kernel_rfl)) (fun _ _ _ h => h) (Or.inl ⟨by rfl, ?_⟩) ?_ ?_
            rotate_left
            · intro w'
              go_simp
              with_reducible rfl
            rotate_left
            · simp only [Act.put, List.setIfInBounds_toArray, List.set_cons_zero, List.set_cons_succ, i64_w, i32_w]
              rfl
            refine done_ (done_of HT_.out (by kernel_rfl)) ?_
            have HIS := ins_spec HS.out (x := x) (k := n) (by have := HNO.out; omega) HT.out (fun y' hy' => by
              have h1 := (List.getElem?_eq_some_iff.1 hy').1
              have := HNO.out
              omega)
            have htn : out.take n = out := by rw [← HNO.out]; exact List.take_length
            have hdn : out.drop n = [] := by rw [← HNO.out]; exact List.drop_length
            rw [htn, hdn, List.append_nil] at HIS
            have HST := Aside0.mk HIS.1
            have HME : Aside0 (∀ a, a ∈ out ++ [x] ↔ a ∈ zs.take (i + 1)) := ⟨fun a => by
              rw [HIS.2 a, HTK.out, List.mem_append, ← HM.out a]
              simp⟩
            have HNN : (out ++ [x]).length = n + 1 + 0 := by
              simp only [List.length_append, List.length_cons, List.length_nil]
              have := HNO.out
              omega
            have HLE : Aside0 ((out ++ [x]).length ≤ i + 1) := ⟨by rw [HNN]; omega⟩
            have HFL : flatS (out ++ [x]) = flatS (out.take n) ++ [.int .i64 x.f0, .int .i64 x.f1] ++ [] := by rw [htn]; simp [flatS]
            clear HIS htn hdn
            go_wp2
            all_goals
              go_roundg (nl - (i + 1))
              case measure => omega
              case rel => exact ⟨i + 1, (out ++ [x]), rfl, by go_num, by omega, HST, HME, HLE, HNX.out n 0 HBX.out hr58 HFL HNN, ⟨below_step HBX.out hb58⟩⟩
    · have hie : i = nl := by omega
      have ht : zs.take i = zs := by rw [hie, ← HNL.out]; exact List.take_length
      have HT := Aside0.mk ht
      have HII := Aside0.mk hie
      clear ht hie
      have hin2 : ¬ (i : Int) < nl := by omega
      go_wp2
      go_ret
      exact ⟨_, rfl, out, HS.out, fun a => by rw [← HT.out]; exact HM.out a, by rw [← HII.out]; exact HL.out, HO.out.srd, by repeat (first | exact HB.out | apply pw_below_drewN)⟩
end Go.Proofs.Ytfingknhciogkaa.K

/- An operation's text as plain law: what is put is read; what is read is put; cut off it is none. -/
import Derived.Test.YtginodjiaohcmaaOpT
import Derived.Test.YtginodjiaohcmaaOpF
import Derived.Test.YtginodjiaohcmaaPure01
import Derived.Laws.Strings
namespace Go.Proofs.Ytginodjiaohcmaa.K
open Go.RowKit Go.Proofs.YtginodjiaohcmaaW.PrintWords Go.Proofs.YtginodjiaohcmaaW.PrintLast Go.Proofs.YtginodjiaohcmaaW.PrintMore
set_option linter.unusedVariables false
set_option linter.unusedSimpArgs false

theorem countR_put' (n : Nat) (most : Int) (R : List Int) (hm : (n : Int) ≤ most) (hn : n < 4611686018427387904) : countR most (numL n ++ R) 0 = ((n : Int), R, 0) := by
  unfold countR
  rw [numR_put n R (by omega)]
  dsimp only
  rw [if_neg (by decide), if_neg (by omega)]
theorem getS_put (t a : Int) (R : List Int) (h1 : -9223372036854775808 ≤ t) (h2 : t ≤ 9223372036854775807) (h3 : 0 ≤ a) (h4 : a ≤ 7) : getS (putS t a ++ R) 0 = (t, a, R, 0) := by
  obtain ⟨n, rfl⟩ : ∃ n : Nat, a = n := ⟨a.toNat, by omega⟩
  have e : (max ((n : Nat) : Int) 0).toNat = n := by omega
  unfold getS putS
  rw [e, List.append_assoc, numR_put _ _ (zz_lt h1 h2)]
  dsimp only
  rw [countR_put' n 7 R h4 (by omega), unzz_zz]
theorem boolR_put (d : Bool) (R : List Int) : boolR (dirI d :: R) 0 = (d, R, 0) := by
  rw [boolR_cons]
  cases d <;> simp [dirI]
theorem bytesR_put' (x R : List Int) (most : Int) (hm : (x.length : Int) ≤ most) (hx : x.length < 4611686018427387904) : bytesR most (numL x.length ++ (x ++ R)) 0 = (x, R, 0) := by
  unfold bytesR
  rw [countR_put' x.length most _ hm hx]
  dsimp only
  rw [Int.toNat_natCast]
  unfold takeR
  simp
theorem ofNat_id (b : UInt8) : UInt8.ofNat ((b.toNat : Int).toNat) = b := by
  rw [Int.toNat_natCast]
  exact UInt8.ofNat_toNat
theorem str_bytes (s : ByteArray) : strOfNums (bytesOf s) = s := by
  have h : (strOfNums (bytesOf s)).data.toList = s.data.toList := by
    rw [strOfNums_data, bytesOf, List.map_map]
    conv => rhs; rw [← List.map_id s.data.toList]
    exact List.map_congr_left fun b _ => ofNat_id b
  exact WideShapes.bytes_inj h
theorem bytes_str (l : List Int) (h : ∀ x ∈ l, 0 ≤ x ∧ x ≤ 255) : bytesOf (strOfNums l) = l := by
  rw [bytesOf, strOfNums_data, List.map_map]
  conv => rhs; rw [← List.map_id l]
  refine List.map_congr_left fun x hx => ?_
  have := h x hx
  show ((UInt8.ofNat x.toNat).toNat : Int) = x
  rw [UInt8.toNat_ofNat']
  omega
theorem bytesOf_rng (s : ByteArray) : ∀ x ∈ bytesOf s, 0 ≤ x ∧ x ≤ 255 := by
  intro x hx
  obtain ⟨b, _, rfl⟩ := List.mem_map.1 hx
  have := b.toNat_lt
  omega
theorem rightS_rng {t a : Int} (h : rightS t a = true) : -9223372036854775808 ≤ t ∧ t ≤ 9223372036854775807 ∧ 0 ≤ a ∧ a ≤ 7 := by
  simp [rightS] at h
  omega
theorem placeS_rng {t a : Int} (h : placeS t a = true) : -9223372036854775808 ≤ t ∧ t ≤ 9223372036854775807 ∧ 0 ≤ a ∧ a ≤ 7 := by
  simp [placeS] at h
  rcases h with ⟨rfl, rfl⟩ | h
  · omega
  · exact rightS_rng h
theorem empty_of {s : ByteArray} (h : s.toList = []) : s = ⟨#[]⟩ := by
  rw [ByteArray.toList_eq] at h
  exact WideShapes.bytes_inj (by rw [h])
theorem readK_1 (t a : Int) (l1 : List Int) (k1 p c : Int) (l2 : List Int) (k2 : Int) (d : Bool) (l3 : List Int) (k3 : Int) (n l4 : List Int) (k4 : Int) (h1 : getS l1 k1 = (p, c, l2, k2)) (h2 : boolR l2 k2 = (d, l3, k3)) (h3 : bytesR 24 l3 k3 = (n, l4, k4)) :
    readK t a (1, l1, k1) = ⟨1, t, a, p, c, d, strOfNums n, [], l4, k4⟩ := by simp only [readK, if_true, h1, h2, h3]
theorem readK_2 (t a : Int) (l1 : List Int) (k1 u b : Int) (l2 : List Int) (k2 p c : Int) (l3 : List Int) (k3 : Int) (n l4 : List Int) (k4 : Int) (h1 : getS l1 k1 = (u, b, l2, k2)) (h2 : getS l2 k2 = (p, c, l3, k3)) (h3 : bytesR 24 l3 k3 = (n, l4, k4)) :
    readK t a (2, l1, k1) = ⟨2, u, b, p, c, false, strOfNums n, [], l4, k4⟩ := by simp only [readK, show ((2 : Int) = 1) = False from by decide, if_true, if_false, h1, h2, h3]
theorem readK_3 (t a : Int) (l1 : List Int) (k1 u b : Int) (l2 : List Int) (k2 : Int) (h1 : getS l1 k1 = (u, b, l2, k2)) :
    readK t a (3, l1, k1) = ⟨3, u, b, 0, 0, false, ⟨#[]⟩, [], l2, k2⟩ := by simp only [readK, show ((3 : Int) = 1) = False from by decide, show ((3 : Int) = 2) = False from by decide, if_true, if_false, h1]
theorem readK_4 (t a : Int) (l1 : List Int) (k1 u b : Int) (l2 : List Int) (k2 : Int) (n l3 : List Int) (k3 : Int) (h1 : getS l1 k1 = (u, b, l2, k2)) (h2 : bytesR 400 l2 k2 = (n, l3, k3)) :
    readK t a (4, l1, k1) = ⟨4, u, b, 0, 0, false, ⟨#[]⟩, n, l3, k3⟩ := by simp only [readK, show ((4 : Int) = 1) = False from by decide, show ((4 : Int) = 2) = False from by decide, show ((4 : Int) = 3) = False from by decide, if_true, if_false, h1, h2]

/-- What is put is read, whatever is behind it. -/
theorem read_text {k t a u b p c : Int} {d : Bool} {s : ByteArray} {l : List Int} (R : List Int) (h : rightO k t a u b p c d s l.length = true) :
    readR t a (textO k u b p c d s l ++ R) = ⟨k, u, b, p, c, d, s, l, R, 0⟩ := by
  obtain ⟨ht, hu, h | h | h | h⟩ := right_cases h
  · obtain ⟨rfl, hn, hp, hs, rfl, rfl⟩ := h
    obtain rfl := List.length_eq_zero_iff.1 hn
    obtain ⟨p1, p2, p3, p4⟩ := placeS_rng hp
    have hs2 := nameB_le hs
    have e : textO 1 u b p c d s [] ++ R = numL 1 ++ (putS p c ++ (dirI d :: (numL (bytesOf s).length ++ (bytesOf s ++ R)))) := by
      rw [textO_1, bytesOf_length]
      simp [tx1]
    unfold readR
    rw [e, countR_put' 1 4 _ (by decide) (by decide)]
    rw [show ((1 : Nat) : Int) = 1 from rfl, readK_1 _ _ _ _ _ _ _ _ _ _ _ _ _ _ (getS_put p c _ p1 p2 p3 p4) (boolR_put d _) (bytesR_put' (bytesOf s) R 24 (by rw [bytesOf_length]; omega) (by rw [bytesOf_length]; omega)), str_bytes]
  · obtain ⟨rfl, hn, rfl, hp, hs⟩ := h
    obtain rfl := List.length_eq_zero_iff.1 hn
    obtain ⟨p1, p2, p3, p4⟩ := placeS_rng hp
    obtain ⟨u1, u2, u3, u4⟩ := rightS_rng hu
    have hs2 := nameB_le hs
    have e : textO 2 u b p c false s [] ++ R = numL 2 ++ (putS u b ++ (putS p c ++ (numL (bytesOf s).length ++ (bytesOf s ++ R)))) := by
      rw [textO_2, bytesOf_length]
      simp [tx2]
    unfold readR
    rw [e, countR_put' 2 4 _ (by decide) (by decide)]
    rw [show ((2 : Nat) : Int) = 2 from rfl, readK_2 _ _ _ _ _ _ _ _ _ _ _ _ _ _ _ (getS_put u b _ u1 u2 u3 u4) (getS_put p c _ p1 p2 p3 p4) (bytesR_put' (bytesOf s) R 24 (by rw [bytesOf_length]; omega) (by rw [bytesOf_length]; omega)), str_bytes]
  · obtain ⟨rfl, hn, rfl, rfl, rfl, hs⟩ := h
    obtain rfl := List.length_eq_zero_iff.1 hn
    obtain rfl := empty_of hs
    obtain ⟨u1, u2, u3, u4⟩ := rightS_rng hu
    have e : textO 3 u b 0 0 false ⟨#[]⟩ [] ++ R = numL 3 ++ (putS u b ++ R) := by
      rw [textO_3]
      simp [tx3]
    unfold readR
    rw [e, countR_put' 3 4 _ (by decide) (by decide)]
    rw [show ((3 : Nat) : Int) = 3 from rfl, readK_3 _ _ _ _ _ _ _ _ (getS_put u b _ u1 u2 u3 u4)]
  · obtain ⟨rfl, hn, rfl, rfl, rfl, hs⟩ := h
    obtain rfl := empty_of hs
    obtain ⟨u1, u2, u3, u4⟩ := rightS_rng hu
    have e : textO 4 u b 0 0 false ⟨#[]⟩ l ++ R = numL 4 ++ (putS u b ++ (numL l.length ++ (l ++ R))) := by
      rw [textO_4]
      simp [tx4]
    unfold readR
    rw [e, countR_put' 4 4 _ (by decide) (by decide)]
    rw [show ((4 : Nat) : Int) = 4 from rfl, readK_4 _ _ _ _ _ _ _ _ _ _ _ (getS_put u b _ u1 u2 u3 u4) (bytesR_put' l R 400 (by omega) (by omega))]
theorem read_textE {k t a u b p c : Int} {d : Bool} {s : ByteArray} {l : List Int} (h : rightO k t a u b p c d s l.length = true) :
    readE t a (textO k u b p c d s l) = 0 ∧ readR t a (textO k u b p c d s l) = ⟨k, u, b, p, c, d, s, l, [], 0⟩ := by
  have h1 := read_text [] h
  rw [List.append_nil] at h1
  refine ⟨?_, h1⟩
  unfold readE
  rw [h1]
  dsimp only
  rw [if_neg (by simp [doneR]), if_pos h]

theorem bytesR_zero {most : Int} {l : List Int} {k : Int} (h : (bytesR most l k).2.2 = 0) : k = 0 := by
  unfold bytesR at h
  exact numR_zero (countR_zero (takeR_zero h).1).1
theorem boolR_form {l : List Int} {k : Int} (hb : ∀ x ∈ l, 0 ≤ x ∧ x ≤ 255) (h : (boolR l k).2.2 = 0) : k = 0 ∧ l = dirI (boolR l k).1 :: (boolR l k).2.1 := by
  by_cases hk : k = 0
  · subst hk
    refine ⟨rfl, ?_⟩
    rcases l with _ | ⟨y, r⟩
    · rw [boolR_nil] at h
      exact absurd h (by decide)
    · have hy := hb y (by simp)
      rw [boolR_cons] at h ⊢
      by_cases h1 : 1 < y
      · rw [if_pos h1] at h
        exact absurd h (by decide)
      · rw [if_neg h1]
        rcases (by omega : y = 0 ∨ y = 1) with rfl | rfl <;> rfl
  · rw [boolR_k hk] at h
    exact absurd h hk
theorem countR_form {most : Int} {l : List Int} {k : Int} (hb : ∀ x ∈ l, 0 ≤ x ∧ x ≤ 255) (h : (countR most l k).2.2 = 0) : k = 0 ∧ 0 ≤ (countR most l k).1 ∧ l = numL (countR most l k).1.toNat ++ (countR most l k).2.1 := by
  obtain ⟨h1, h2, h3, h4⟩ := countR_zero h
  have hk := numR_zero h1
  subst hk
  refine ⟨rfl, countR_nonneg _ _ _, ?_⟩
  rw [h2, h3, Int.toNat_natCast]
  exact numR_form hb h1
theorem getS_form {l : List Int} {k : Int} (hb : ∀ x ∈ l, 0 ≤ x ∧ x ≤ 255) (h : (getS l k).2.2.2 = 0) : k = 0 ∧ l = putS (getS l k).1 (getS l k).2.1 ++ (getS l k).2.2.1 := by
  unfold getS at h ⊢
  dsimp only at h ⊢
  have h1 := (countR_zero h).1
  have hk1 := numR_zero h1
  have hk := numR_zero hk1
  subst hk
  have f1 := numR_form hb hk1
  have hb1 : ∀ x ∈ (numR l 0).2.1, 0 ≤ x ∧ x ≤ 255 := fun x hx => hb x (by rw [f1]; exact List.mem_append_right _ hx)
  obtain ⟨_, g2, g3⟩ := countR_form hb1 h
  refine ⟨rfl, ?_⟩
  have e : (max (countR 7 (numR l 0).2.1 (numR l 0).2.2).1 0).toNat = (countR 7 (numR l 0).2.1 (numR l 0).2.2).1.toNat := by omega
  unfold putS
  rw [zz_unzz, e, List.append_assoc, ← g3]
  exact f1
theorem sub_rng {l x r : List Int} (hb : ∀ x ∈ l, 0 ≤ x ∧ x ≤ 255) (h : l = x ++ r) : (∀ y ∈ x, 0 ≤ y ∧ y ≤ 255) ∧ ∀ y ∈ r, 0 ≤ y ∧ y ≤ 255 :=
  ⟨fun y hy => hb y (by rw [h]; exact List.mem_append_left _ hy), fun y hy => hb y (by rw [h]; exact List.mem_append_right _ hy)⟩

/-- What is read is put. -/
theorem text_read {t a : Int} {l : List Int} (hb : ∀ x ∈ l, 0 ≤ x ∧ x ≤ 255) (h : readE t a l = 0) :
    rightO (readR t a l).k t a (readR t a l).u (readR t a l).b (readR t a l).p (readR t a l).c (readR t a l).d (readR t a l).s (readR t a l).dt.length = true ∧
    textO (readR t a l).k (readR t a l).u (readR t a l).b (readR t a l).p (readR t a l).c (readR t a l).d (readR t a l).s (readR t a l).dt = l := by
  unfold readE at h
  by_cases hd : doneR (readR t a l).rest (readR t a l).err ≠ 0
  · rw [if_pos hd] at h
    exact absurd h hd
  · rw [if_neg hd] at h
    by_cases hr : rightO (readR t a l).k t a (readR t a l).u (readR t a l).b (readR t a l).p (readR t a l).c (readR t a l).d (readR t a l).s (readR t a l).dt.length = true
    · refine ⟨hr, ?_⟩
      obtain ⟨he, hrest⟩ := done_ok (Classical.not_not.1 hd)
      obtain ⟨k, l1, k1, hk⟩ : ∃ k l1 k1, countR 4 l 0 = (k, l1, k1) := ⟨_, _, _, rfl⟩
      have hR : readR t a l = readK t a (k, l1, k1) := by unfold readR; rw [hk]
      have hC : k1 = 0 → 0 ≤ k ∧ l = numL k.toNat ++ l1 := fun h0 => by
        have := countR_form (most := 4) (k := 0) hb (by rw [hk]; exact h0)
        rw [hk] at this
        exact this.2
      obtain ⟨p0, c0, l2, k2, g1⟩ : ∃ x y l2 k2, getS l1 k1 = (x, y, l2, k2) := ⟨_, _, _, _, rfl⟩
      have hG1 : k2 = 0 → k1 = 0 ∧ ((∀ x ∈ l1, 0 ≤ x ∧ x ≤ 255) → l1 = putS p0 c0 ++ l2) := fun h0 => by
        refine ⟨?_, fun hb1 => ?_⟩
        · unfold getS at g1
          injection g1 with _ g1
          injection g1 with _ g1
          injection g1 with _ g1
          rw [h0] at g1
          exact numR_zero (numR_zero (countR_zero g1).1)
        · have := getS_form (k := k1) hb1 (by rw [g1]; exact h0)
          rw [g1] at this
          exact this.2
      by_cases n1 : k = 1
      · subst n1
        obtain ⟨d0, l3, k3, g2⟩ : ∃ x l3 k3, boolR l2 k2 = (x, l3, k3) := ⟨_, _, _, rfl⟩
        obtain ⟨n, l4, k4, g3⟩ : ∃ x l4 k4, bytesR 24 l3 k3 = (x, l4, k4) := ⟨_, _, _, rfl⟩
        rw [readK_1 t a l1 k1 p0 c0 l2 k2 d0 l3 k3 n l4 k4 g1 g2 g3] at hR
        rw [hR] at he hrest ⊢
        dsimp only at he hrest ⊢
        subst he hrest
        have z3 : k3 = 0 := bytesR_zero (most := 24) (l := l3) (k := k3) (by rw [g3])
        subst z3
        have z2 : k2 = 0 := by
          by_cases hk2 : k2 = 0
          · exact hk2
          · rw [boolR_k hk2] at g2
            injection g2 with _ g2
            injection g2 with _ g2
            all_goals exact absurd g2 hk2
        obtain ⟨z1, f1⟩ := hG1 z2
        obtain ⟨_, f0⟩ := hC z1
        have b1 := (sub_rng hb f0).2
        have e1 := f1 b1
        have b2 := (sub_rng b1 e1).2
        have e2 := (boolR_form (k := k2) b2 (by rw [g2])).2
        rw [g2] at e2
        dsimp only at e2
        have b3 : ∀ y ∈ l3, 0 ≤ y ∧ y ≤ 255 := fun y hy => b2 y (by rw [e2]; exact List.mem_cons_of_mem _ hy)
        have e3 := (bytesR_form (most := 24) b3 (by rw [g3])).1
        rw [g3] at e3
        dsimp only at e3
        rw [List.append_nil] at e3
        have b4 := (sub_rng b3 e3).2
        rw [textO_1]
        simp only [tx1]
        rw [bytes_str n b4, strOfNums_size, f0, e1, e2, e3]
        simp
      · by_cases n2 : k = 2
        · subst n2
          obtain ⟨p1, c1, l3, k3, g2⟩ : ∃ x y l3 k3, getS l2 k2 = (x, y, l3, k3) := ⟨_, _, _, _, rfl⟩
          obtain ⟨n, l4, k4, g3⟩ : ∃ x l4 k4, bytesR 24 l3 k3 = (x, l4, k4) := ⟨_, _, _, rfl⟩
          rw [readK_2 t a l1 k1 p0 c0 l2 k2 p1 c1 l3 k3 n l4 k4 g1 g2 g3] at hR
          rw [hR] at he hrest ⊢
          dsimp only at he hrest ⊢
          subst he hrest
          have z3 : k3 = 0 := bytesR_zero (most := 24) (l := l3) (k := k3) (by rw [g3])
          subst z3
          have z2 : k2 = 0 := by
            unfold getS at g2
            injection g2 with _ g2
            injection g2 with _ g2
            injection g2 with _ g2
            exact numR_zero (numR_zero (countR_zero g2).1)
          obtain ⟨z1, f1⟩ := hG1 z2
          obtain ⟨_, f0⟩ := hC z1
          have b1 := (sub_rng hb f0).2
          have e1 := f1 b1
          have b2 := (sub_rng b1 e1).2
          have e2 := (getS_form (k := k2) b2 (by rw [g2])).2
          rw [g2] at e2
          dsimp only at e2
          have b3 := (sub_rng b2 e2).2
          have e3 := (bytesR_form (most := 24) b3 (by rw [g3])).1
          rw [g3] at e3
          dsimp only at e3
          rw [List.append_nil] at e3
          have b4 := (sub_rng b3 e3).2
          rw [textO_2]
          simp only [tx2]
          rw [bytes_str n b4, strOfNums_size, f0, e1, e2, e3]
          try simp
        · by_cases n3 : k = 3
          · subst n3
            rw [readK_3 t a l1 k1 p0 c0 l2 k2 g1] at hR
            rw [hR] at he hrest ⊢
            dsimp only at he hrest ⊢
            subst he hrest
            obtain ⟨z1, f1⟩ := hG1 rfl
            obtain ⟨_, f0⟩ := hC z1
            have e1 := f1 (sub_rng hb f0).2
            rw [textO_3]
            simp only [tx3]
            rw [f0, e1]
            simp
          · by_cases n4 : k = 4
            · subst n4
              obtain ⟨n, l3, k3, g2⟩ : ∃ x l3 k3, bytesR 400 l2 k2 = (x, l3, k3) := ⟨_, _, _, rfl⟩
              rw [readK_4 t a l1 k1 p0 c0 l2 k2 n l3 k3 g1 g2] at hR
              rw [hR] at he hrest ⊢
              dsimp only at he hrest ⊢
              subst he hrest
              have z2 : k2 = 0 := bytesR_zero (most := 400) (l := l2) (k := k2) (by rw [g2])
              subst z2
              obtain ⟨z1, f1⟩ := hG1 rfl
              obtain ⟨_, f0⟩ := hC z1
              have b1 := (sub_rng hb f0).2
              have e1 := f1 b1
              have b2 := (sub_rng b1 e1).2
              have e3 := (bytesR_form (most := 400) b2 (by rw [g2])).1
              rw [g2] at e3
              dsimp only at e3
              rw [List.append_nil] at e3
              rw [textO_4]
              simp only [tx4]
              rw [f0, e1]
              conv => rhs; rw [e3]
              try simp
            · have hk5 : (readR t a l).k = k := by rw [hR]; simp only [readK, n1, n2, n3, n4, if_false]
              obtain ⟨_, _, h5 | h5 | h5 | h5⟩ := right_cases hr
              · exact absurd (hk5.symm.trans h5.1) n1
              · exact absurd (hk5.symm.trans h5.1) n2
              · exact absurd (hk5.symm.trans h5.1) n3
              · exact absurd (hk5.symm.trans h5.1) n4
    · rw [if_neg hr] at h
      exact absurd h (by decide)
theorem putS_rng (t a : Int) : ∀ x ∈ putS t a, 0 ≤ x ∧ x ≤ 255 := by
  intro x hx
  rcases List.mem_append.1 hx with h | h <;> exact numL_BL _ x h
theorem dirI_rng (d : Bool) : 0 ≤ dirI d ∧ dirI d ≤ 255 := by cases d <;> simp [dirI]
theorem app_rng {x y : List Int} (hx : ∀ z ∈ x, 0 ≤ z ∧ z ≤ 255) (hy : ∀ z ∈ y, 0 ≤ z ∧ z ≤ 255) : ∀ z ∈ x ++ y, 0 ≤ z ∧ z ≤ 255 := fun z hz => by
  rcases List.mem_append.1 hz with h | h
  · exact hx z h
  · exact hy z h
theorem textO_BL {k t a u b p c : Int} {d : Bool} {s : ByteArray} {l : List Int} (h : rightO k t a u b p c d s l.length = true) (hb : ∀ x ∈ l, 0 ≤ x ∧ x ≤ 255) : BL (textO k u b p c d s l) := by
  have one : ∀ z ∈ [dirI d], 0 ≤ z ∧ z ≤ 255 := fun z hz => by rw [List.mem_singleton.1 hz]; exact dirI_rng d
  obtain ⟨ht, hu, h | h | h | h⟩ := right_cases h
  · obtain ⟨rfl, hn, hp, hs, rfl, rfl⟩ := h
    obtain ⟨p1, p2, p3⟩ := placeS_le hp
    have q1 := putS_len p1 p2 p3
    have q2 := nameB_le hs
    have q3 := numL_1 s.size (by omega)
    have q4 := numL_1 1 (by decide)
    rw [textO_1]
    refine ⟨app_rng (app_rng (app_rng (app_rng (numL_BL _) (putS_rng _ _)) one) (numL_BL _)) (bytesOf_rng s), ?_⟩
    simp only [tx1, List.length_append, List.length_cons, List.length_nil, bytesOf_length]
    omega
  · obtain ⟨rfl, hn, rfl, hp, hs⟩ := h
    obtain ⟨p1, p2, p3⟩ := placeS_le hp
    obtain ⟨u1, u2, u3⟩ := rightS_le hu
    have q1 := putS_len p1 p2 p3
    have q5 := putS_len u1 u2 u3
    have q2 := nameB_le hs
    have q3 := numL_1 s.size (by omega)
    have q4 := numL_1 2 (by decide)
    rw [textO_2]
    refine ⟨app_rng (app_rng (app_rng (app_rng (numL_BL _) (putS_rng _ _)) (putS_rng _ _)) (numL_BL _)) (bytesOf_rng s), ?_⟩
    simp only [tx2, List.length_append, List.length_cons, List.length_nil, bytesOf_length]
    omega
  · obtain ⟨rfl, hn, rfl, rfl, rfl, hs⟩ := h
    obtain ⟨u1, u2, u3⟩ := rightS_le hu
    have q5 := putS_len u1 u2 u3
    have q4 := numL_1 3 (by decide)
    rw [textO_3]
    refine ⟨app_rng (numL_BL _) (putS_rng _ _), ?_⟩
    simp only [tx3, List.length_append]
    omega
  · obtain ⟨rfl, hn, rfl, rfl, rfl, hs⟩ := h
    obtain ⟨u1, u2, u3⟩ := rightS_le hu
    have q5 := putS_len u1 u2 u3
    have q4 := numL_1 4 (by decide)
    have q6 := numL_len l.length 1 (by omega)
    rw [textO_4]
    refine ⟨app_rng (app_rng (app_rng (numL_BL _) (putS_rng _ _)) (numL_BL _)) hb, ?_⟩
    simp only [tx4, List.length_append]
    omega
/-- Cut off it is none. -/
theorem text_cut {k t a u b p c : Int} {d : Bool} {s : ByteArray} {l : List Int} (h : rightO k t a u b p c d s l.length = true) (hb : ∀ x ∈ l, 0 ≤ x ∧ x ≤ 255) (j : Nat) (hj : j < (textO k u b p c d s l).length) :
    readE t a ((textO k u b p c d s l).take j) ≠ 0 := by
  intro h0
  have hBL := textO_BL h hb
  obtain ⟨g1, g2⟩ := text_read (t := t) (a := a) (fun x hx => hBL.1 x (List.mem_of_mem_take hx)) h0
  have e := read_text ((textO k u b p c d s l).drop j) g1
  rw [g2, List.take_append_drop, (read_textE h).2] at e
  injection e with _ _ _ _ _ _ _ _ e9 _
  have := congrArg List.length e9
  rw [List.length_drop] at this
  simp only [List.length_nil] at this
  omega
end Go.Proofs.Ytginodjiaohcmaa.K

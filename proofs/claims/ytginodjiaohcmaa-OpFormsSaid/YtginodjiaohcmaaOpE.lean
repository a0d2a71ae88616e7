/- cachetteref15.Text. -/
import Derived.Test.YtginodjiaohcmaaOpD
import Derived.Test.YtginodjiaohcmaaOpBf
import Derived.Laws.AppendOwn
namespace Go.Proofs.Ytginodjiaohcmaa.K
open Go.RowKit Go.Proofs.YtginodjiaohcmaaW.PrintWords Go.Proofs.YtginodjiaohcmaaW.PrintLast Go.Proofs.YtginodjiaohcmaaW.PrintMore
set_option linter.unusedVariables false
set_option linter.unusedSimpArgs false

/-- A row beside one that is appended to. -/
theorem Own.over {W W1 : World} {b b' : Nat} {u v : Value} {l : List Int} (h : Own W b u l) (hlt : ∀ k, v.ownBlock = some k → k < b) (hg : W.grownBy W1 v.ownBlock) : Own W1 b u l :=
  Kd.R_grown2 h rfl hg (fun k hk e => by have h1 := Kd.R_base h k e.symm; have h2 := hlt k hk; omega)
theorem fnum0_calls (k : Nat) (kk : Int) (w : World) (h : kk = k) (hk : k < 128) :
    Calls Try.prog 22 #[.int .u64 kk] w fun e w' => ∃ v, e = .returned v ∧ Own w' w.heap.size v (numL k) ∧ Below w.heap.size w w' := by
  subst h
  exact fnum_calls k _ (by omega) (by rw [numL_small hk]; simp)
theorem rd_bytesWorld (W : World) (s : ByteArray) (hs : s.size ≤ 9223372036854775807) : Rd (Lib.bytesWorld W 5 s) (.slice (some ⟨W.heap.size, 0, none⟩) s.size (grownCap W s.size 0 5)) (bytesOf s) := by
  have h := rd_of_ints (bytes_reads W 5 s hs) (c := grownCap W s.size 0 5) (by rw [bytesOf_length]; exact grownCap_ge _ _ _ _)
  exact h

set_option maxHeartbeats 1000000 in
theorem fbytes_str (s : ByteArray) (v : Value) (w : World) (hr : Rd w v (bytesOf s)) (hs : s.size ≤ 24) :
    Calls Try.prog 25 #[v] w fun e w' => ∃ v, e = .returned v ∧ Own w' w.heap.size v (numL s.size ++ bytesOf s) ∧ Below w.heap.size w w' := by
  have h := fbytes_calls v (bytesOf s) w hr (by rw [bytesOf_length, numL_1 s.size (by omega)]; omega)
  rwa [bytesOf_length] at h

set_option maxRecDepth 100000 in
set_option maxHeartbeats 2000000 in
theorem ftext_bad (k t a u b p c : Int) (d : Bool) (s : ByteArray) (v : Value) (l : List Int) (w : World) (hr : Rd w v l) (hR : rightO k t a u b p c d s l.length = false) :
    Calls Try.prog 9 #[.agg #[.int .i64 k, .int .i64 t, .int .i64 a, .int .i64 u, .int .i64 b, .int .i64 p, .int .i64 c, .bool d, .string s, v]] w fun e w' => e = .returned (.tuple #[.slice none 0 0, .int .i64 1]) ∧ Below w.heap.size w w' := by
  have HB := Aside0.mk (Below.refl w.heap.size w)
  have HRd := Aside0.mk hr
  have HR := Aside0.mk hR
  have hu2 := Try.underlying26
  have hu3 := Try.underlying23
  obtain ⟨A, c0, rfl, hc0, hC0⟩ := hr
  clear hR hc0 hC0
  go_enter Try.func9, Try.ntmps9
  go_wp2_with (first
    | (go_at_call 15; go_must (refine (fright_calls _ _ _ _ _ _ _ _ _ _ l _ (by exact HRd.out.below (below_alloc (Below.refl _ _) _))).mono ?_; rw [HR.out]; rintro e wq ⟨rfl, hb⟩; replace HB := Aside0.mk (below_step (by repeat (first | (with_reducible first | exact HB.out | apply below_alloc | apply pw_below_drewN | apply below_drew1) | exact HB.out)) hb); clear hb)))
  go_ret2
  exact ⟨rfl, HB.out⟩

set_option maxRecDepth 100000 in
set_option maxHeartbeats 8000000 in
theorem ftext1_calls (t a u b p c : Int) (d : Bool) (s : ByteArray) (v : Value) (l : List Int) (w : World) (hr : Rd w v l) (hR : rightO 1 t a u b p c d s l.length = true) (hp : placeS p c = true) (hs : s.size ≤ 24) :
    Calls Try.prog 9 #[.agg #[.int .i64 1, .int .i64 t, .int .i64 a, .int .i64 u, .int .i64 b, .int .i64 p, .int .i64 c, .bool d, .string s, v]] w fun e w' => ∃ v', e = .returned (.tuple #[v', .int .i64 0]) ∧ Rd w' v' (tx1 u b p c d s l 3) ∧ Below w.heap.size w w' := by
  obtain ⟨A, c0, rfl, hc0, hC0⟩ := hr
  have hr : Rd w (.slice A l.length c0) l := ⟨A, c0, rfl, hc0, hC0⟩
  obtain ⟨v, hv⟩ : ∃ v, v = Value.slice A l.length c0 := ⟨_, rfl⟩
  rw [← hv] at hr ⊢
  have HRd := Aside0.mk hr
  clear hc0 hC0 hv hr
  obtain ⟨p1, p2, p3⟩ := placeS_le hp
  have HPL := Aside0.mk (putS_len p1 p2 p3)
  have HSL := Aside0.mk (numL_1 s.size (by omega))
  have kb := fun W => print_bytes (P := Try.prog) 9 24 5 Try.underlying9 Try.underlying24 Try.underlying5 s W
  clear hp
  have HN1 := Aside0.mk (numL_1 1 (by decide))
  have hu2 := Try.underlying26
  have hu3 := Try.underlying23
  have HB := Aside0.mk (Below.refl w.heap.size w)
  obtain ⟨q0, q1, q2, q3, q4, q5, q6, q7, q8, q9⟩ := trues10
  have BK := Aside0.mk (blk_new w (.cells #[.int .i64 1, .int .i64 t, .int .i64 a, .int .i64 u, .int .i64 b, .int .i64 p, .int .i64 c, .bool d, .string s, v] 26 (0, 0)))
  have HR := Aside0.mk hR
  clear hR
  go_enter Try.func9, Try.ntmps9
  go_wp2_with (first
    | (go_at_call 15; go_must (refine (fright_calls _ _ _ _ _ _ _ _ _ _ l _ (by exact HRd.out.below (below_alloc (Below.refl _ _) _))).mono ?_; rw [HR.out]; rintro e wq ⟨rfl, hb⟩; have hk := blk_below BK.out hb; clear q0 q1 q2 q3 q4 q5 q6 q7 q8 q9; obtain ⟨q0, q1, q2, q3, q4, q5, q6, q7, q8, q9⟩ := cells10 hk; clear BK; replace HB := Aside0.mk (below_step (by repeat (first | (with_reducible first | exact HB.out | apply below_alloc | apply pw_below_drewN | apply below_drew1) | exact HB.out)) hb); have HW0 := HB; clear HB; have HB := Aside0.mk (Below.refl wq.heap.size wq); replace HRd := Aside0.mk (HRd.out.below HW0.out); clear hb hk))
    | (go_at_call 22; go_must (refine (fnum0_calls 1 1 _ rfl (by decide)).mono ?_; rintro e w4 ⟨v4, rfl, ho, hb⟩; have y0 := pw_cell_below hb q0; have y1 := pw_cell_below hb q1; have y2 := pw_cell_below hb q2; have y3 := pw_cell_below hb q3; have y4 := pw_cell_below hb q4; have y5 := pw_cell_below hb q5; have y6 := pw_cell_below hb q6; have y7 := pw_cell_below hb q7; have y8 := pw_cell_below hb q8; have y9 := pw_cell_below hb q9; have HO := Aside0.mk ho; replace HB := Aside0.mk hb; clear ho hb)))
  go_region_held3 (fun w' => w'.cell? ⟨w.heap.size, 5, none⟩ = some (.int .i64 p) ∧ w'.cell? ⟨w.heap.size, 6, none⟩ = some (.int .i64 c) ∧ w'.cell? ⟨w.heap.size, 7, none⟩ = some (.bool d))
    (first | exact ⟨y5, y6, y7⟩ | (go_split_ands; exact ⟨pw_cell_below hb (by assumption), pw_cell_below hb (by assumption), pw_cell_below hb (by assumption)⟩) | (exact ⟨pw_cell_below hb2 q5, pw_cell_below hb2 q6, pw_cell_below hb2 q7⟩))
    (first
      | (go_at_call 23; (with_reducible refine (fput_calls p c _ p1 p2 p3).mono ?_); rintro e wa ⟨va, rfl, ho, hb⟩; have HP := Aside0.mk ho; (try replace HO := Aside0.mk (Own.below (by exact HO.out) hb)); (try replace HA := Aside0.mk (Own.below (by exact HA.out) hb)); (try replace HQ := Aside0.mk (Own.below (by exact HQ.out) hb)); replace HB := Aside0.mk (below_step (by repeat (first | (with_reducible first | exact HB.out | apply below_alloc | apply pw_below_drewN | apply below_drew1) | exact HB.out)) hb); clear ho)
      | (go_at_call 24; refine (fbool_calls d _).mono ?_; rintro e wc ⟨vc, rfl, ho, hb⟩; replace ho : Own wc _ vc [dirI d] := ho; (try have HQL := Aside0.mk (fun (k : Nat) (hk : v4.ownBlock = some k) => Kd.R_lt HO.out k hk)); have HQ := Aside0.mk ho; (try replace HO := Aside0.mk (Own.below (by exact HO.out) hb)); (try replace HA := Aside0.mk (Own.below (by exact HA.out) hb)); (try replace HP := Aside0.mk (Own.below (by exact HP.out) hb)); replace HB := Aside0.mk (below_step (by repeat (first | (with_reducible first | exact HB.out | apply below_alloc | apply pw_below_drewN | apply below_drew1) | exact HB.out)) hb); clear ho)
      | (refine app_bytes_step (w0 := wq) wq.heap.size rfl (.tmp 16) (.tmp 19) 24 rfl Try.underlying24 info5 v4 va (numL 1) (putS p c) rfl rfl HO.out HP.out.rd HB.out HB.out.size (by have := HPL.out; have := HSL.out; have := HN1.out; (try simp only [List.length_append, List.length_cons, List.length_nil, bytesOf_length]); omega) ?_; intro vb wb ho hb2 hg; have HA := Aside0.mk ho; (try replace HQ := Aside0.mk (Own.over (by exact HQ.out) HQL.out hg)); replace HB := Aside0.mk hb2; clear ho)
      | (refine app_bytes_step (w0 := wq) wq.heap.size rfl (.tmp 20) (.tmp 23) 24 rfl Try.underlying24 info5 vb vc (numL 1 ++ putS p c) [dirI d] rfl rfl HA.out HQ.out.rd HB.out HB.out.size (by have := HPL.out; have := HSL.out; have := HN1.out; (try simp only [List.length_append, List.length_cons, List.length_nil, bytesOf_length]); omega) ?_; intro vd wd ho hb2 hg; have HD := Aside0.mk ho; replace HB := Aside0.mk hb2; clear ho))
  all_goals
    have y8 : wd.cell? ⟨w.heap.size, 8, none⟩ = some (.string s) := pw_cell_below hb2 q8
    go_wp2_with (first
      | (go_at_call 25; go_must (refine (fbytes_str s _ _ (by exact rd_bytesWorld _ s (by omega)) (by omega)).mono ?_; rintro e we ⟨ve, rfl, ho, hb⟩; have HE := Aside0.mk ho; replace HD := Aside0.mk (Own.below (Own.below (w1 := Lib.bytesWorld _ 5 s) (by exact HD.out) (bytes_below (Below.refl _ _) (Nat.le_refl _) _ _)) hb); replace HB := Aside0.mk (below_step (bytes_below (by repeat (first | (with_reducible first | exact HB.out | apply below_alloc | apply pw_below_drewN | apply below_drew1) | exact HB.out)) (Below.size (by repeat (first | (with_reducible first | exact HB.out | apply below_alloc | apply pw_below_drewN | apply below_drew1) | exact HB.out))) _ _) hb); clear ho hb))
      | ((with_reducible refine gate_builtin (b := .append) (xs := #[.tmp 25, .tmp 29]) rfl ?_); at_builtin; go_must (((try (refine gate_guard (by rfl) ?_; dsimp only)); refine app_bytes (w0 := wq) (wq).heap.size rfl (.tmp 25) (.tmp 29) 24 rfl Try.underlying24 info5 _ _ (numL 1 ++ putS p c ++ [dirI d]) (numL s.size ++ bytesOf s) rfl rfl HD.out ?aR HB.out HB.out.size ?aL ?_; (case aR => exact HE.out.rd); (case aL => (have := HPL.out; have := HSL.out; have := HN1.out; (try simp only [List.length_append, List.length_cons, List.length_nil, bytesOf_length]); omega)); intro vHF wHF ho hb hg; have HF := Aside0.mk ho; clear HB; have HB := Aside0.mk hb; clear ho hb hg))))
    go_ret2
    refine ⟨_, rfl, ?_, HW0.out.trans (HB.out.mono HW0.out.size)⟩
    have h := HF.out.rd
    simp only [List.append_assoc] at h
    simp only [tx1, List.append_assoc]
    exact h

set_option maxRecDepth 100000 in
set_option maxHeartbeats 8000000 in
theorem ftext2_calls (t a u b p c : Int) (d : Bool) (s : ByteArray) (v : Value) (l : List Int) (w : World) (hr : Rd w v l) (hR : rightO 2 t a u b p c d s l.length = true) (hu : rightS u b = true) (hp : placeS p c = true) (hs : s.size ≤ 24) :
    Calls Try.prog 9 #[.agg #[.int .i64 2, .int .i64 t, .int .i64 a, .int .i64 u, .int .i64 b, .int .i64 p, .int .i64 c, .bool d, .string s, v]] w fun e w' => ∃ v', e = .returned (.tuple #[v', .int .i64 0]) ∧ Rd w' v' (tx2 u b p c d s l 3) ∧ Below w.heap.size w w' := by
  obtain ⟨A, c0, rfl, hc0, hC0⟩ := hr
  have hr : Rd w (.slice A l.length c0) l := ⟨A, c0, rfl, hc0, hC0⟩
  obtain ⟨v, hv⟩ : ∃ v, v = Value.slice A l.length c0 := ⟨_, rfl⟩
  rw [← hv] at hr ⊢
  have HRd := Aside0.mk hr
  clear hc0 hC0 hv hr
  obtain ⟨p1, p2, p3⟩ := placeS_le hp
  have HPL := Aside0.mk (putS_len p1 p2 p3)
  have HSL := Aside0.mk (numL_1 s.size (by omega))
  have kb := fun W => print_bytes (P := Try.prog) 9 24 5 Try.underlying9 Try.underlying24 Try.underlying5 s W
  clear hp
  obtain ⟨u1, u2, u3⟩ := rightS_le hu
  have HUL := Aside0.mk (putS_len u1 u2 u3)
  clear hu
  have HN1 := Aside0.mk (numL_1 2 (by decide))
  have hu2 := Try.underlying26
  have hu3 := Try.underlying23
  have HB := Aside0.mk (Below.refl w.heap.size w)
  obtain ⟨q0, q1, q2, q3, q4, q5, q6, q7, q8, q9⟩ := trues10
  have BK := Aside0.mk (blk_new w (.cells #[.int .i64 2, .int .i64 t, .int .i64 a, .int .i64 u, .int .i64 b, .int .i64 p, .int .i64 c, .bool d, .string s, v] 26 (0, 0)))
  have HR := Aside0.mk hR
  clear hR
  go_enter Try.func9, Try.ntmps9
  go_wp2_with (first
    | (go_at_call 15; go_must (refine (fright_calls _ _ _ _ _ _ _ _ _ _ l _ (by exact HRd.out.below (below_alloc (Below.refl _ _) _))).mono ?_; rw [HR.out]; rintro e wq ⟨rfl, hb⟩; have hk := blk_below BK.out hb; clear q0 q1 q2 q3 q4 q5 q6 q7 q8 q9; obtain ⟨q0, q1, q2, q3, q4, q5, q6, q7, q8, q9⟩ := cells10 hk; clear BK; replace HB := Aside0.mk (below_step (by repeat (first | (with_reducible first | exact HB.out | apply below_alloc | apply pw_below_drewN | apply below_drew1) | exact HB.out)) hb); have HW0 := HB; clear HB; have HB := Aside0.mk (Below.refl wq.heap.size wq); replace HRd := Aside0.mk (HRd.out.below HW0.out); clear hb hk))
    | (go_at_call 22; go_must (refine (fnum0_calls 2 2 _ rfl (by decide)).mono ?_; rintro e w4 ⟨v4, rfl, ho, hb⟩; have y0 := pw_cell_below hb q0; have y1 := pw_cell_below hb q1; have y2 := pw_cell_below hb q2; have y3 := pw_cell_below hb q3; have y4 := pw_cell_below hb q4; have y5 := pw_cell_below hb q5; have y6 := pw_cell_below hb q6; have y7 := pw_cell_below hb q7; have y8 := pw_cell_below hb q8; have y9 := pw_cell_below hb q9; have HO := Aside0.mk ho; replace HB := Aside0.mk hb; clear ho hb)))
  go_region_held3 (fun w' => w'.cell? ⟨w.heap.size, 3, none⟩ = some (.int .i64 u) ∧ w'.cell? ⟨w.heap.size, 4, none⟩ = some (.int .i64 b) ∧ w'.cell? ⟨w.heap.size, 5, none⟩ = some (.int .i64 p) ∧ w'.cell? ⟨w.heap.size, 6, none⟩ = some (.int .i64 c))
    (first | exact ⟨y3, y4, y5, y6⟩ | (go_split_ands; exact ⟨pw_cell_below hb (by assumption), pw_cell_below hb (by assumption), pw_cell_below hb (by assumption), pw_cell_below hb (by assumption)⟩) | (exact ⟨pw_cell_below hb2 q3, pw_cell_below hb2 q4, pw_cell_below hb2 q5, pw_cell_below hb2 q6⟩))
    (first
      | (go_at_call 23; (with_reducible refine (fput_calls u b _ u1 u2 u3).mono ?_); rintro e wa ⟨va, rfl, ho, hb⟩; have HP := Aside0.mk ho; (try replace HO := Aside0.mk (Own.below (by exact HO.out) hb)); (try replace HA := Aside0.mk (Own.below (by exact HA.out) hb)); (try replace HQ := Aside0.mk (Own.below (by exact HQ.out) hb)); replace HB := Aside0.mk (below_step (by repeat (first | (with_reducible first | exact HB.out | apply below_alloc | apply pw_below_drewN | apply below_drew1) | exact HB.out)) hb); clear ho)
      | (go_at_call 23; (with_reducible refine (fput_calls p c _ p1 p2 p3).mono ?_); rintro e wc ⟨vc, rfl, ho, hb⟩; (try have HQL := Aside0.mk (fun (k : Nat) (hk : v4.ownBlock = some k) => Kd.R_lt HO.out k hk)); have HQ := Aside0.mk ho; (try replace HO := Aside0.mk (Own.below (by exact HO.out) hb)); (try replace HA := Aside0.mk (Own.below (by exact HA.out) hb)); (try replace HP := Aside0.mk (Own.below (by exact HP.out) hb)); replace HB := Aside0.mk (below_step (by repeat (first | (with_reducible first | exact HB.out | apply below_alloc | apply pw_below_drewN | apply below_drew1) | exact HB.out)) hb); clear ho)
      | (refine app_bytes_step (w0 := wq) wq.heap.size rfl (.tmp 33) (.tmp 36) 24 rfl Try.underlying24 info5 v4 va (numL 2) (putS u b) rfl rfl HO.out HP.out.rd HB.out HB.out.size (by have := HPL.out; have := HSL.out; have := HUL.out; have := HN1.out; (try simp only [List.length_append, List.length_cons, List.length_nil, bytesOf_length]); omega) ?_; intro vb wb ho hb2 hg; have HA := Aside0.mk ho; (try replace HQ := Aside0.mk (Own.over (by exact HQ.out) HQL.out hg)); replace HB := Aside0.mk hb2; clear ho)
      | (refine app_bytes_step (w0 := wq) wq.heap.size rfl (.tmp 37) (.tmp 40) 24 rfl Try.underlying24 info5 vb vc (numL 2 ++ putS u b) (putS p c) rfl rfl HA.out HQ.out.rd HB.out HB.out.size (by have := HPL.out; have := HSL.out; have := HUL.out; have := HN1.out; (try simp only [List.length_append, List.length_cons, List.length_nil, bytesOf_length]); omega) ?_; intro vd wd ho hb2 hg; have HD := Aside0.mk ho; replace HB := Aside0.mk hb2; clear ho))
  all_goals
    have y8 : wd.cell? ⟨w.heap.size, 8, none⟩ = some (.string s) := pw_cell_below hb2 q8
    go_wp2_with (first
      | (go_at_call 25; go_must (refine (fbytes_str s _ _ (by exact rd_bytesWorld _ s (by omega)) (by omega)).mono ?_; rintro e we ⟨ve, rfl, ho, hb⟩; have HE := Aside0.mk ho; replace HD := Aside0.mk (Own.below (Own.below (w1 := Lib.bytesWorld _ 5 s) (by exact HD.out) (bytes_below (Below.refl _ _) (Nat.le_refl _) _ _)) hb); replace HB := Aside0.mk (below_step (bytes_below (by repeat (first | (with_reducible first | exact HB.out | apply below_alloc | apply pw_below_drewN | apply below_drew1) | exact HB.out)) (Below.size (by repeat (first | (with_reducible first | exact HB.out | apply below_alloc | apply pw_below_drewN | apply below_drew1) | exact HB.out))) _ _) hb); clear ho hb))
      | ((with_reducible refine gate_builtin (b := .append) (xs := #[.tmp 42, .tmp 46]) rfl ?_); at_builtin; go_must (((try (refine gate_guard (by rfl) ?_; dsimp only)); refine app_bytes (w0 := wq) (wq).heap.size rfl (.tmp 42) (.tmp 46) 24 rfl Try.underlying24 info5 _ _ (numL 2 ++ putS u b ++ (putS p c)) (numL s.size ++ bytesOf s) rfl rfl HD.out ?aR HB.out HB.out.size ?aL ?_; (case aR => exact HE.out.rd); (case aL => (have := HPL.out; have := HSL.out; have := HUL.out; have := HN1.out; (try simp only [List.length_append, List.length_cons, List.length_nil, bytesOf_length]); omega)); intro vHF wHF ho hb hg; have HF := Aside0.mk ho; clear HB; have HB := Aside0.mk hb; clear ho hb hg))))
    go_ret2
    refine ⟨_, rfl, ?_, HW0.out.trans (HB.out.mono HW0.out.size)⟩
    have h := HF.out.rd
    simp only [List.append_assoc] at h
    simp only [tx2, List.append_assoc]
    exact h

set_option maxRecDepth 100000 in
set_option maxHeartbeats 8000000 in
theorem ftext3_calls (t a u b p c : Int) (d : Bool) (s : ByteArray) (v : Value) (l : List Int) (w : World) (hr : Rd w v l) (hR : rightO 3 t a u b p c d s l.length = true) (hu : rightS u b = true) :
    Calls Try.prog 9 #[.agg #[.int .i64 3, .int .i64 t, .int .i64 a, .int .i64 u, .int .i64 b, .int .i64 p, .int .i64 c, .bool d, .string s, v]] w fun e w' => ∃ v', e = .returned (.tuple #[v', .int .i64 0]) ∧ Rd w' v' (tx3 u b p c d s l 1) ∧ Below w.heap.size w w' := by
  obtain ⟨A, c0, rfl, hc0, hC0⟩ := hr
  have hr : Rd w (.slice A l.length c0) l := ⟨A, c0, rfl, hc0, hC0⟩
  obtain ⟨v, hv⟩ : ∃ v, v = Value.slice A l.length c0 := ⟨_, rfl⟩
  rw [← hv] at hr ⊢
  have HRd := Aside0.mk hr
  clear hc0 hC0 hv hr
  obtain ⟨u1, u2, u3⟩ := rightS_le hu
  have HUL := Aside0.mk (putS_len u1 u2 u3)
  clear hu
  have HN1 := Aside0.mk (numL_1 3 (by decide))
  have hu2 := Try.underlying26
  have hu3 := Try.underlying23
  have HB := Aside0.mk (Below.refl w.heap.size w)
  obtain ⟨q0, q1, q2, q3, q4, q5, q6, q7, q8, q9⟩ := trues10
  have BK := Aside0.mk (blk_new w (.cells #[.int .i64 3, .int .i64 t, .int .i64 a, .int .i64 u, .int .i64 b, .int .i64 p, .int .i64 c, .bool d, .string s, v] 26 (0, 0)))
  have HR := Aside0.mk hR
  clear hR
  go_enter Try.func9, Try.ntmps9
  go_wp2_with (first
    | (go_at_call 15; go_must (refine (fright_calls _ _ _ _ _ _ _ _ _ _ l _ (by exact HRd.out.below (below_alloc (Below.refl _ _) _))).mono ?_; rw [HR.out]; rintro e wq ⟨rfl, hb⟩; have hk := blk_below BK.out hb; clear q0 q1 q2 q3 q4 q5 q6 q7 q8 q9; obtain ⟨q0, q1, q2, q3, q4, q5, q6, q7, q8, q9⟩ := cells10 hk; clear BK; replace HB := Aside0.mk (below_step (by repeat (first | (with_reducible first | exact HB.out | apply below_alloc | apply pw_below_drewN | apply below_drew1) | exact HB.out)) hb); have HW0 := HB; clear HB; have HB := Aside0.mk (Below.refl wq.heap.size wq); replace HRd := Aside0.mk (HRd.out.below HW0.out); clear hb hk))
    | (go_at_call 22; go_must (refine (fnum0_calls 3 3 _ rfl (by decide)).mono ?_; rintro e w4 ⟨v4, rfl, ho, hb⟩; have y0 := pw_cell_below hb q0; have y1 := pw_cell_below hb q1; have y2 := pw_cell_below hb q2; have y3 := pw_cell_below hb q3; have y4 := pw_cell_below hb q4; have y5 := pw_cell_below hb q5; have y6 := pw_cell_below hb q6; have y7 := pw_cell_below hb q7; have y8 := pw_cell_below hb q8; have y9 := pw_cell_below hb q9; have HO := Aside0.mk ho; replace HB := Aside0.mk hb; clear ho hb))
    | (go_at_call 23; go_must (refine (fput_calls u b _ u1 u2 u3).mono ?_; rintro e w53 ⟨v53, rfl, ho, hb⟩; have HP := Aside0.mk ho; replace HO := Aside0.mk (Own.below (by exact HO.out) hb); replace HB := Aside0.mk (below_step (by repeat (first | (with_reducible first | exact HB.out | apply below_alloc | apply pw_below_drewN | apply below_drew1) | exact HB.out)) hb); clear ho hb))
    | ((with_reducible refine gate_builtin (b := .append) (xs := #[.tmp 50, .tmp 53]) rfl ?_); at_builtin; go_must (((try (refine gate_guard (by rfl) ?_; dsimp only)); refine app_bytes (w0 := wq) (wq).heap.size rfl (.tmp 50) (.tmp 53) 24 rfl Try.underlying24 info5 _ _ (numL 3) (putS u b) rfl rfl HO.out ?aR HB.out HB.out.size ?aL ?_; (case aR => exact HP.out.rd); (case aL => (have := HUL.out; have := HN1.out; (try simp only [List.length_append, List.length_cons, List.length_nil, bytesOf_length]); omega)); intro vHA wHA ho hb hg; have HA := Aside0.mk ho; clear HB; have HB := Aside0.mk hb; clear ho hb hg))))
  go_ret2
  exact ⟨_, rfl, HA.out.rd, HW0.out.trans (HB.out.mono HW0.out.size)⟩

set_option maxRecDepth 100000 in
set_option maxHeartbeats 8000000 in
theorem ftext4_calls (t a u b p c : Int) (d : Bool) (s : ByteArray) (v : Value) (l : List Int) (w : World) (hr : Rd w v l) (hR : rightO 4 t a u b p c d s l.length = true) (hu : rightS u b = true) (hl : l.length ≤ 400) :
    Calls Try.prog 9 #[.agg #[.int .i64 4, .int .i64 t, .int .i64 a, .int .i64 u, .int .i64 b, .int .i64 p, .int .i64 c, .bool d, .string s, v]] w fun e w' => ∃ v', e = .returned (.tuple #[v', .int .i64 0]) ∧ Rd w' v' (tx4 u b p c d s l 2) ∧ Below w.heap.size w w' := by
  obtain ⟨A, c0, rfl, hc0, hC0⟩ := hr
  have hr : Rd w (.slice A l.length c0) l := ⟨A, c0, rfl, hc0, hC0⟩
  obtain ⟨v, hv⟩ : ∃ v, v = Value.slice A l.length c0 := ⟨_, rfl⟩
  rw [← hv] at hr ⊢
  have HRd := Aside0.mk hr
  clear hc0 hC0 hv hr
  obtain ⟨u1, u2, u3⟩ := rightS_le hu
  have HUL := Aside0.mk (putS_len u1 u2 u3)
  clear hu
  have HLL := Aside0.mk (numL_len l.length 1 (by omega))
  have HN1 := Aside0.mk (numL_1 4 (by decide))
  have hu2 := Try.underlying26
  have hu3 := Try.underlying23
  have HB := Aside0.mk (Below.refl w.heap.size w)
  obtain ⟨q0, q1, q2, q3, q4, q5, q6, q7, q8, q9⟩ := trues10
  have BK := Aside0.mk (blk_new w (.cells #[.int .i64 4, .int .i64 t, .int .i64 a, .int .i64 u, .int .i64 b, .int .i64 p, .int .i64 c, .bool d, .string s, v] 26 (0, 0)))
  have HR := Aside0.mk hR
  clear hR
  go_enter Try.func9, Try.ntmps9
  go_wp2_with (first
    | (go_at_call 15; go_must (refine (fright_calls _ _ _ _ _ _ _ _ _ _ l _ (by exact HRd.out.below (below_alloc (Below.refl _ _) _))).mono ?_; rw [HR.out]; rintro e wq ⟨rfl, hb⟩; have hk := blk_below BK.out hb; clear q0 q1 q2 q3 q4 q5 q6 q7 q8 q9; obtain ⟨q0, q1, q2, q3, q4, q5, q6, q7, q8, q9⟩ := cells10 hk; clear BK; replace HB := Aside0.mk (below_step (by repeat (first | (with_reducible first | exact HB.out | apply below_alloc | apply pw_below_drewN | apply below_drew1) | exact HB.out)) hb); have HW0 := HB; clear HB; have HB := Aside0.mk (Below.refl wq.heap.size wq); replace HRd := Aside0.mk (HRd.out.below HW0.out); clear hb hk))
    | (go_at_call 22; go_must (refine (fnum0_calls 4 4 _ rfl (by decide)).mono ?_; rintro e w4 ⟨v4, rfl, ho, hb⟩; have y0 := pw_cell_below hb q0; have y1 := pw_cell_below hb q1; have y2 := pw_cell_below hb q2; have y3 := pw_cell_below hb q3; have y4 := pw_cell_below hb q4; have y5 := pw_cell_below hb q5; have y6 := pw_cell_below hb q6; have y7 := pw_cell_below hb q7; have y8 := pw_cell_below hb q8; have y9 := pw_cell_below hb q9; have HO := Aside0.mk ho; replace HB := Aside0.mk hb; clear ho hb)))
  go_region_held3 (fun w' => w'.cell? ⟨w.heap.size, 3, none⟩ = some (.int .i64 u) ∧ w'.cell? ⟨w.heap.size, 4, none⟩ = some (.int .i64 b) ∧ w'.cell? ⟨w.heap.size, 9, none⟩ = some (v))
    (first | exact ⟨y3, y4, y9⟩ | (go_split_ands; exact ⟨pw_cell_below hb (by assumption), pw_cell_below hb (by assumption), pw_cell_below hb (by assumption)⟩) | (exact ⟨pw_cell_below hb2 q3, pw_cell_below hb2 q4, pw_cell_below hb2 q9⟩))
    (first
      | (go_at_call 23; (with_reducible refine (fput_calls u b _ u1 u2 u3).mono ?_); rintro e wa ⟨va, rfl, ho, hb⟩; have HP := Aside0.mk ho; (try replace HO := Aside0.mk (Own.below (by exact HO.out) hb)); (try replace HA := Aside0.mk (Own.below (by exact HA.out) hb)); (try replace HQ := Aside0.mk (Own.below (by exact HQ.out) hb)); replace HB := Aside0.mk (below_step (by repeat (first | (with_reducible first | exact HB.out | apply below_alloc | apply pw_below_drewN | apply below_drew1) | exact HB.out)) hb); clear ho)
      | (go_at_call 25; refine (fbytes_calls _ l _ (HRd.out.below (by repeat (first | (with_reducible first | exact HB.out | apply below_alloc | apply pw_below_drewN | apply below_drew1) | exact HB.out))) (by have := HLL.out; omega)).mono ?_; rintro e wc ⟨vc, rfl, ho, hb⟩; (try have HQL := Aside0.mk (fun (k : Nat) (hk : v4.ownBlock = some k) => Kd.R_lt HO.out k hk)); have HQ := Aside0.mk ho; (try replace HO := Aside0.mk (Own.below (by exact HO.out) hb)); (try replace HA := Aside0.mk (Own.below (by exact HA.out) hb)); (try replace HP := Aside0.mk (Own.below (by exact HP.out) hb)); replace HB := Aside0.mk (below_step (by repeat (first | (with_reducible first | exact HB.out | apply below_alloc | apply pw_below_drewN | apply below_drew1) | exact HB.out)) hb); clear ho)
      | (refine app_bytes_step (w0 := wq) wq.heap.size rfl (.tmp 57) (.tmp 60) 24 rfl Try.underlying24 info5 v4 va (numL 4) (putS u b) rfl rfl HO.out HP.out.rd HB.out HB.out.size (by have := HUL.out; have := HLL.out; have := HN1.out; (try simp only [List.length_append, List.length_cons, List.length_nil, bytesOf_length]); omega) ?_; intro vb wb ho hb2 hg; have HA := Aside0.mk ho; (try replace HQ := Aside0.mk (Own.over (by exact HQ.out) HQL.out hg)); replace HB := Aside0.mk hb2; clear ho)
      | (refine app_bytes_step (w0 := wq) wq.heap.size rfl (.tmp 61) (.tmp 64) 24 rfl Try.underlying24 info5 vb vc (numL 4 ++ putS u b) (numL l.length ++ l) rfl rfl HA.out HQ.out.rd HB.out HB.out.size (by have := HUL.out; have := HLL.out; have := HN1.out; (try simp only [List.length_append, List.length_cons, List.length_nil, bytesOf_length]); omega) ?_; intro vd wd ho hb2 hg; have HD := Aside0.mk ho; replace HB := Aside0.mk hb2; clear ho))
  all_goals
    go_wp2
    go_ret2
    refine ⟨_, rfl, ?_, HW0.out.trans (Below.mono (by repeat (first | (with_reducible first | exact HB.out | apply below_alloc | apply pw_below_drewN | apply below_drew1) | exact HB.out)) HW0.out.size)⟩
    have h := HD.out.rd
    simp only [List.append_assoc] at h
    simp only [tx4, List.append_assoc]
    exact h
end Go.Proofs.Ytginodjiaohcmaa.K

/- The example that must come at any rate. -/
import Derived.Test.YtginodjiaohcmaaOpG
namespace Go.Proofs.Ytginodjiaohcmaa.K
open Go.RowKit Go.Proofs.YtginodjiaohcmaaW.PrintWords Go.Proofs.YtginodjiaohcmaaW.PrintLast Go.Proofs.YtginodjiaohcmaaW.PrintMore
set_option linter.unusedVariables false
set_option linter.unusedSimpArgs false

theorem same_true (v0 v1 : Value) (l : List Int) (w : World) (hr0 : Rd w v0 l) (hr1 : Rd w v1 l) :
    Calls Try.prog 16 #[v0, v1] w fun e w' => e = .returned (.bool true) ∧ Below w.heap.size w w' :=
  (same_calls v0 v1 l l w hr0 hr1).mono fun e w' ⟨he, hd⟩ => ⟨by simpa using he, hd.below⟩
theorem nameB_one (x : UInt8) (h : oddN x.toNat = false) (h46 : x ≠ 46) : nameB ⟨#[x]⟩ = true := by
  have h1 : ¬ anyOdd ⟨#[x]⟩ := by
    rintro ⟨j, hj, h2⟩
    have hj0 : j = 0 := by
      have : j < 1 := hj
      omega
    subst hj0
    rw [show (ByteArray.mk #[x]).get! 0 = x from rfl, h] at h2
    exact absurd h2 (by decide)
  have h2 : (ByteArray.mk #[x]).toList = [x] := by
    simp [ByteArray.toList, ByteArray.toList.loop, ByteArray.size, ByteArray.get!]
  have h3 : (ByteArray.mk #[x]).size = 1 := rfl
  simp [nameB, h1, h2, h3, h46]

theorem alive_right : rightO 1 3 1 3 1 0 0 true ⟨#[97]⟩ ([] : List Int).length = true := by
  have h := nameB_one 97 (by decide) (by decide)
  simp [rightO, h, rightS, placeS]
theorem alive_text : tx1 3 1 0 0 true ⟨#[97]⟩ [] 3 = [1, 0, 0, 1, 1, 97] := by
  have e1 : (ByteArray.mk #[97]).size = 1 := rfl
  have e2 : bytesOf ⟨#[97]⟩ = [97] := rfl
  simp only [tx1, e1, e2, dirI, putS]
  rw [numL_small (by decide), show zz 0 = 0 from rfl, show (max (0 : Int) 0).toNat = 0 from rfl, numL_small (by decide)]
  rfl
theorem alive_readR : readR 3 1 [1, 0, 0, 1, 1, 97] = ⟨1, 3, 1, 0, 0, true, ⟨#[97]⟩, [], [], 0⟩ := by rfl
theorem alive_readE : readE 3 1 [1, 0, 0, 1, 1, 97] = 0 := by
  unfold readE
  rw [alive_readR]
  have h := alive_right
  simp only [List.length_nil] at h
  simp [doneR, h]

/-- What lies in a block. -/
def Lies (W : World) (g : Nat) (o : Obj) : Prop := W.heap[g]? = some o
theorem Lies.below {W W1 : World} {g : Nat} {o : Obj} (h : Lies W g o) (hb : Below W.heap.size W W1) : Lies W1 g o := blk_below h hb
theorem root_calls (w : World) : Calls Try.prog 19 #[] w fun e w' => e = .returned (.agg #[.int .i64 0, .int .i64 0]) ∧ Below w.heap.size w w' := X.op_Root.calls 0 0 w rfl

theorem oread_ok (v : Value) (l : List Int) (t a : Int) (w : World) (hr : Rd w v l) (hl : BL l) (R : OpR) (hR : readR t a l = R) (hE : readE t a l = 0) :
    Calls Try.prog 10 #[v, .agg #[.int .i64 t, .int .i64 a]] w fun e w' => ∃ vd, e = .returned (.tuple #[.agg #[.int .i64 R.k, .int .i64 t, .int .i64 a, .int .i64 R.u, .int .i64 R.b, .int .i64 R.p, .int .i64 R.c, .bool R.d, .string R.s, vd], .int .i64 0]) ∧ Rd w' vd R.dt ∧ Below w.heap.size w w' := by
  subst hR
  exact (oread_calls v l t a w hr hl).mono fun e w' ⟨h1, _, h3⟩ => by obtain ⟨vd, he, hd⟩ := h1 hE; exact ⟨vd, he, hd, h3⟩
theorem oread_bad (v : Value) (l : List Int) (t a : Int) (w : World) (hr : Rd w v l) (hl : BL l) (x : Int) (hx : readE t a l = x) (hE : x ≠ 0) :
    Calls Try.prog 10 #[v, .agg #[.int .i64 t, .int .i64 a]] w fun e w' => e = .returned (.tuple #[.agg #[.int .i64 0, .int .i64 0, .int .i64 0, .int .i64 0, .int .i64 0, .int .i64 0, .int .i64 0, .bool false, .string ({ data := #[] }), (.slice none 0 0)], .int .i64 x]) ∧ Below w.heap.size w w' := by
  subst hx
  exact (oread_calls v l t a w hr hl).mono fun e w' ⟨_, h2, h3⟩ => ⟨h2 hE, h3⟩

attribute [local go_sem high] X.eqA23
set_option maxRecDepth 100000 in
set_option maxHeartbeats 4000000 in
theorem alive15_calls (w : World) :
    Calls Try.prog 7 #[] w fun e w' => e = .returned (.bool true) ∧ Below w.heap.size w w' := by
  have hu2 := Try.underlying26
  have hu3 := Try.underlying23
  have HB := Aside0.mk (Below.refl w.heap.size w)
  have BS : Aside0 (Lies (w.alloc (.cells #[.int .i64 3, .int .i64 1] 23)) w.heap.size (.cells #[.int .i64 3, .int .i64 1] 23 (0, 0))) := ⟨blk_new w _⟩
  have BLL : Aside0 (BL [1, 0, 0, 1, 1, 97]) := ⟨by constructor <;> decide⟩
  have h97 : nameB ⟨#[120]⟩ = true := nameB_one 120 (by decide) (by decide)
  go_enter Try.func7, Try.ntmps7
  go_wp2_with (first
    | ((with_reducible refine gate_dst (N := 11) rfl ?_); go_must (((try (refine gate_guard (by rfl) ?_; dsimp only)); refine goesL_ (some 11) rfl rfl Try.func8 (by kernel_rfl) rfl #[.agg #[.int .i64 1, .int .i64 3, .int .i64 1, .int .i64 3, .int .i64 1, .int .i64 0, .int .i64 0, .bool true, .string ({ data := #[97] }), (.slice none 0 0)]] rfl ?hA ?_; (case hA => ((try simp only [List.map_toArray, List.map_cons, List.map_nil]); first | done | rfl)); refine (text1_calls 3 1 3 1 0 0 true ⟨#[97]⟩ _ [] _ (Rd.nil _) alive_right (by decide) (by decide)).mono ?_; rintro e wt ⟨vt, rfl, ht, hb⟩; refine ⟨_, rfl, ?_⟩; rw [alive_text] at ht; have HT := Aside0.mk ht; replace BS := Aside0.mk (BS.out.below hb); have s0 : wt.cell? ⟨w.heap.size, 0, none⟩ = some (.int .i64 3) := (blk_cell BS.out 0).trans rfl; have s1 : wt.cell? ⟨w.heap.size, 1, none⟩ = some (.int .i64 1) := (blk_cell BS.out 1).trans rfl; replace HB := Aside0.mk (below_step (by repeat (first | (with_reducible first | exact HB.out | apply below_alloc | apply pw_below_drewN | apply below_drew1) | exact HB.out)) hb); clear ht hb)))
    | ((with_reducible refine gate_dst (N := 15) rfl ?_); go_must (((try (refine gate_guard (by rfl) ?_; dsimp only)); refine lit_bytes (w0 := w) (w).heap.size 15 ?hg ?hd ([1, 0, 0, 1, 1, 97]) ?hr ?hm HB.out HB.out.size ?_; (case hd => rfl); (case hg => rfl); (case hr => first | (go_simp; done) | (go_simp; rfl)); (case hm => simp); intro vHO wHO ho hb hbw; have HO := Aside0.mk ho; clear HB; have HB := Aside0.mk hb; replace HT := Aside0.mk (HT.out.below hbw); replace BS := Aside0.mk (BS.out.below hbw); have s0 := (blk_cell BS.out 0).trans rfl; have s1 := (blk_cell BS.out 1).trans rfl; clear ho hb hbw)))
    | ((with_reducible refine gate_dst (N := 17) rfl ?_); go_must (((try (refine gate_guard (by rfl) ?_; dsimp only)); refine goesL_ (some 17) rfl rfl Try.func10 (by kernel_rfl) rfl #[vHO, .agg #[.int .i64 3, .int .i64 1]] rfl ?hA ?_; (case hA => ((try simp only [List.map_toArray, List.map_cons, List.map_nil]); first | done | rfl)); refine (oread_ok _ [1, 0, 0, 1, 1, 97] 3 1 _ HO.out.rd BLL.out _ alive_readR alive_readE).mono ?_; dsimp only; rintro e wr ⟨vd, rfl, hdr, hb⟩; refine ⟨_, rfl, ?_⟩; obtain ⟨Ad, cd, rfl, -, -⟩ := hdr; replace HT := Aside0.mk (HT.out.below hb); replace HB := Aside0.mk (below_step (by repeat (first | (with_reducible first | exact HB.out | apply below_alloc | apply pw_below_drewN | apply below_drew1) | exact HB.out)) hb); have BO : Aside0 (Lies (wr.alloc (.cells #[.int .i64 1, .int .i64 3, .int .i64 1, .int .i64 3, .int .i64 1, .int .i64 0, .int .i64 0, .bool true, .string ({ data := #[97] }), (.slice Ad 0 cd)] 26)) wr.heap.size (.cells #[.int .i64 1, .int .i64 3, .int .i64 1, .int .i64 3, .int .i64 1, .int .i64 0, .int .i64 0, .bool true, .string ({ data := #[97] }), (.slice Ad 0 cd)] 26 (0, 0))) := ⟨blk_new wr _⟩; replace HB := Aside0.mk (below_alloc HB.out (.cells #[.int .i64 1, .int .i64 3, .int .i64 1, .int .i64 3, .int .i64 1, .int .i64 0, .int .i64 0, .bool true, .string ({ data := #[97] }), (.slice Ad 0 cd)] 26)); replace HT := Aside0.mk (HT.out.below (below_alloc (Below.refl _ _) (.cells #[.int .i64 1, .int .i64 3, .int .i64 1, .int .i64 3, .int .i64 1, .int .i64 0, .int .i64 0, .bool true, .string ({ data := #[97] }), (.slice Ad 0 cd)] 26))); clear hb)))
    | ((with_reducible refine gate_dst (N := 28) rfl ?_); go_must (((try (refine gate_guard (by rfl) ?_; dsimp only)); refine lit_bytes (w0 := w) (w).heap.size 28 ?hg ?hd ([1, 0, 0, 1, 1, 97]) ?hr ?hm HB.out HB.out.size ?_; (case hd => rfl); (case hg => rfl); (case hr => first | (go_simp; done) | (go_simp; rfl)); (case hm => simp); intro vHO2 wHO2 ho hb hbw; have HO2 := Aside0.mk ho; clear HB; have HB := Aside0.mk hb; replace HT := Aside0.mk (HT.out.below hbw); replace BO := Aside0.mk (BO.out.below hbw); have q7 := (blk_cell BO.out 7).trans rfl; have q8 := (blk_cell BO.out 8).trans rfl; clear ho hb hbw)))
    | ((with_reducible refine gate_dst (N := 29) rfl ?_); go_must (((try (refine gate_guard (by rfl) ?_; dsimp only)); refine goesL_ (some 29) rfl rfl Try.func16 (by kernel_rfl) rfl #[vt, vHO2] rfl ?hA ?_; (case hA => ((try simp only [List.map_toArray, List.map_cons, List.map_nil]); first | done | rfl)); refine (same_true _ _ [1, 0, 0, 1, 1, 97] _ HT.out HO2.out.rd).mono ?_; rintro e ws ⟨rfl, hb⟩; refine ⟨_, rfl, ?_⟩; replace BO := Aside0.mk (BO.out.below hb); have q7 := (blk_cell BO.out 7).trans rfl; have q8 := (blk_cell BO.out 8).trans rfl; replace HB := Aside0.mk (below_step (by repeat (first | (with_reducible first | exact HB.out | apply below_alloc | apply pw_below_drewN | apply below_drew1) | exact HB.out)) hb); clear hb)))
    | ((with_reducible refine gate_dst (N := 41) rfl ?_); go_must (((try (refine gate_guard (by rfl) ?_; dsimp only)); refine goesL_ (some 41) rfl rfl Try.func12 (by kernel_rfl) rfl #[.string { data := #[120] }] rfl ?hA ?_; (case hA => ((try simp only [List.map_toArray, List.map_cons, List.map_nil]); first | done | rfl)); refine (name_calls _ _).mono ?_; rw [h97]; rintro e wn ⟨rfl, hb⟩; refine ⟨_, rfl, ?_⟩; replace HB := Aside0.mk (below_step (by repeat (first | (with_reducible first | exact HB.out | apply below_alloc | apply pw_below_drewN | apply below_drew1) | exact HB.out)) hb); clear hb)))
    | ((with_reducible refine gate_dst (N := 44) rfl ?_); go_must (((try (refine gate_guard (by rfl) ?_; dsimp only)); refine goesL_ (some 44) rfl rfl Try.func19 (by kernel_rfl) rfl #[] rfl ?hA ?_; (case hA => ((try simp only [List.map_toArray, List.map_cons, List.map_nil]); first | done | rfl)); refine (root_calls _).mono ?_; rintro e wz ⟨rfl, hb⟩; refine ⟨_, rfl, ?_⟩; replace HB := Aside0.mk (below_step (by repeat (first | (with_reducible first | exact HB.out | apply below_alloc | apply pw_below_drewN | apply below_drew1) | exact HB.out)) hb); clear hb))))
  go_ret
  exact ⟨rfl, HB.out⟩
end Go.Proofs.Ytginodjiaohcmaa.K

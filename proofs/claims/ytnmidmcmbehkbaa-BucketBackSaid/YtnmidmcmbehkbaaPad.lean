/- bucket.Pad: the form of a text, and zeros up to the size of its class: a row with room, appended to within it, cut beyond its length. cachettelaw02.alive. -/
import Derived.Test.YtnmidmcmbehkbaaBucket
import Derived.Lib.SlBytesConst
namespace Go.Proofs.Ytnmidmcmbehkbaa.K
open Go.RowKit Go.Proofs.YtnmidmcmbehkbaaW.PrintWords Go.Proofs.YtnmidmcmbehkbaaW.PrintLast Go.Proofs.YtnmidmcmbehkbaaW.PrintMore
set_option linter.unusedVariables false
set_option linter.unusedSimpArgs false

/-- 'make([]byte, 0, n)': the block, zero by zero. -/
theorem make_zeros {P : Program} {w : World} {ops : Array Oper} {rest : List Oper} {o : Oper} {a : Act} {Q : Exit → Act → World → Prop} (hg : o.guard = none) (l c : Operand) (t : TypeId) (hop : o.op = Op.makeSlice t l c)
    (ht : P.underlying t = some (.slice 5)) (hinfo : (P.info? 5).map (fun i => (i.zero, i.size, i.bytes)) = some (some (.int .u8 0), 1, 1))
    (C : Int) (n : Nat) (hl : a.eval l = .int .i64 0) (hc : a.eval c = .int .i64 C) (hC : C = n) (hn : n ≤ 140737488355328)
    (hK : ∀ g w', g = w.heap.size → w'.heap[g]? = some (.cells (List.replicate n (.int .u8 0)).toArray 5 (0, 0)) → Below w.heap.size w w' → wpList P ops Q rest (a.put o.dst (.slice (some ⟨g, 0, none⟩) 0 n)) w') :
    wpList P ops Q (o :: rest) a w := by
  obtain ⟨i, h2, h3, h4, h5⟩ := info_parts hinfo
  refine wpList_plain hg fun K hK' => ?_
  have hr := run_make (P := P) w t 5 i (.int .u8 0) ht h2 h3 .i64 .i64 0 C (Int.le_refl _) (by omega) (by rw [h5]; omega) (by omega)
  subst hC
  unfold Oper.wp
  simp [execOp, hop, hl, hc, hr, Result.andThen]
  refine hK' _ _ (hK _ _ rfl ?_ ((Below.refl _ _).alloc (Nat.le_refl _) _))
  rw [heap_alloc_new, h4]
  congr 2
  apply Array.toList_inj.1
  rw [Nat.mul_one, show (Value.int IntKind.u8 0).cells = #[Value.int IntKind.u8 0] from rfl, toList_madeCells_one]

/-- 'append' of bytes onto the head of a row with room: what lies behind them stays. -/
theorem append_room {P : Program} {W : World} {ops : Array Oper} {rest : List Oper} {o : Oper} {a : Act} {Q : Exit → Act → World → Prop} (hgd : o.guard = none) (s x : Operand) (t : TypeId)
    (ho : o.op = .call { callee := .builtin .append, args := #[s, x], argTypes := #[t, t] }) (ht : P.underlying t = some (.slice 5))
    (hinfo : (P.info? 5).map (fun i => (i.zero, i.size, i.bytes)) = some (some (.int .u8 0), 1, 1))
    (g cap : Nat) (cur : Array Value) (xv : Value) (ys : List Int) (hs : a.eval s = .slice (some ⟨g, 0, none⟩) 0 cap) (hx : a.eval x = xv)
    (hb : W.heap[g]? = some (.cells cur 5 (0, 0))) (hcs : cur.size = cap) (HR : Rd W xv ys) (h0 : 0 < ys.length) (hl : ys.length ≤ cap)
    (h : ∀ w1, w1.heap[g]? = some (.cells (nums .u8 ys ++ cur.toList.drop ys.length).toArray 5 (0, 0)) → W.grownBy w1 (some g) → wpList P ops Q rest (a.put o.dst (.slice (some ⟨g, 0, none⟩) ys.length cap)) w1) :
    wpList P ops Q (o :: rest) a W := by
  obtain ⟨i, h2, h3, h4, h5⟩ := info_parts hinfo
  obtain ⟨A, c, rfl, hc, hC⟩ := HR
  obtain ⟨ad, rfl, hcell⟩ := (Kd.reads_of_C (enc := Value.int .u8) (d := (0 : Int)) (h1 := fun _ => rfl) hC).2.2 h0
  refine wpList_plain hgd fun K hK' => ?_
  have hr := run_append_room (P := P) W t o.type 5 i ht h2 g 0 cap cur hb ad ys.length c (nums .u8 ys) (by rw [h4]; simp [nums])
    (fun j u hj => by
      have hlt : j < ys.length := by
        have := (List.getElem?_eq_some_iff.1 hj).1
        simpa [nums] using this
      rw [hcell j hlt]
      simp [nums, List.getElem?_map, List.getElem?_eq_getElem hlt] at hj
      rw [← hj]
      simp [List.getD_eq_getElem?_getD, List.getElem?_eq_getElem hlt])
    (fun u hu => by
      obtain ⟨z, _, rfl⟩ := List.mem_map.1 hu
      rfl)
    (by omega) (by simp [nums]; omega)
  unfold Oper.wp execOp
  simp only [ho, resolve, invoke, builtin, Sem.run_bind, Sem.run_pure, Result.andThen_ok, List.map_toArray, List.map_cons, List.map_nil, hs, hx, hr]
  rw [Nat.zero_add]
  refine hK' _ _ (h _ ?_ ⟨rfl, rfl, rfl, by simp, fun k _ hk => setRow_other W g k _ (fun e => hk (by simp [e]))⟩)
  rw [setRow_heap W g cur _ 5 _ hb]
  simp [nums]

theorem numL_len2 {n : Nat} (h : n < 16384) : (numL n).length = if n < 128 then 1 else 2 := by
  by_cases hs : n < 128
  · rw [numL_small hs, if_pos hs]
    rfl
  · rw [numL_big hs, numL_small (by omega), if_neg hs]
    rfl
/-- What Pad makes of a text, where it has a class. -/
def padL (l : List Int) : List Int := if classB l.length < 0 then [] else numL l.length ++ l ++ List.replicate ((sizeB (classB l.length)).toNat - (numL l.length ++ l).length) 0
def padK (l : List Int) : Int := if classB l.length < 0 then 3 else 0
theorem classB_range (n : Int) : classB n = -1 ∧ (n < 0 ∨ 1022 < n) ∨ 0 ≤ classB n ∧ classB n < 7 ∧ 0 ≤ n ∧ n ≤ roomB (classB n) ∧ roomB (classB n) ≤ 1022 := by
  unfold classB
  (repeat' split) <;> first | (exact .inl ⟨rfl, by omega⟩) | (refine .inr ⟨by decide, by decide, by omega, ?_, by decide⟩; simp [roomB]; omega)
theorem sizeB_le (c : Int) : 0 ≤ sizeB c ∧ sizeB c ≤ 1024 := by
  unfold sizeB
  constructor <;> ((repeat' split) <;> omega)
theorem pad_fits {l : List Int} (h : 0 ≤ classB l.length) : (numL l.length ++ l).length ≤ (sizeB (classB l.length)).toNat := by
  rcases classB_range l.length with ⟨e, _⟩ | ⟨h0, h7, hn, hr, hm⟩
  · omega
  · have h1 := (fits_iff (l.length : Int) (classB l.length) h0 h7 hn).2 hr
    have h2 := numL_len2 (n := l.length) (by omega)
    rw [List.length_append, h2]
    by_cases hs : l.length < 128
    · rw [if_pos hs]
      rw [if_pos (by omega)] at h1
      omega
    · rw [if_neg hs]
      rw [if_neg (by omega)] at h1
      omega
theorem padL_len {l : List Int} (h : 0 ≤ classB l.length) : (padL l).length = (sizeB (classB l.length)).toNat := by
  have := pad_fits h
  unfold padL
  rw [if_neg (by omega), List.length_append, List.length_replicate]
  omega
theorem padL_no {l : List Int} (h : classB l.length < 0) : padL l = [] := by unfold padL; rw [if_pos h]
theorem padK_no {l : List Int} (h : classB l.length < 0) : padK l = 3 := by unfold padK; rw [if_pos h]
theorem padK_ok {l : List Int} (h : ¬ classB l.length < 0) : padK l = 0 := by unfold padK; rw [if_neg h]

set_option maxRecDepth 100000 in
set_option maxHeartbeats 1000000 in
theorem bpad_calls (v0 : Value) (l : List Int) (w : World) (hr0 : Rd w v0 l) (hl0 : l.length ≤ 1000000) :
    Calls Try.prog 21 #[v0] w fun e w' => ∃ v, e = .returned (.tuple #[v, .int .i64 (padK l)]) ∧ Own w' w.heap.size v (padL l) ∧ Below w.heap.size w w' := by
  have HR := Aside0.mk hr0
  obtain ⟨A0, c0, rfl, hc0, hC0⟩ := hr0
  have HL := Aside0.mk hl0
  have HB := Aside0.mk (Below.refl w.heap.size w)
  clear hl0 hC0 hc0
  by_cases hc : classB l.length < 0
  · have HN := Aside0.mk hc
    have hd : decide (classB (l.length : Int) < 0) = true := decide_eq_true hc
    clear hc
    go_enter Try.func21, Try.ntmps21
    go_wp2_with (first
      | ((with_reducible refine gate_dst (N := 8) rfl ?_); go_must (((try (refine gate_guard (by rfl) ?_; dsimp only)); refine goesL_ (some 8) rfl rfl Try.func13 (by kernel_rfl) rfl #[.int .i64 l.length] rfl ?hA ?_; (case hA => ((try simp only [List.map_toArray, List.map_cons, List.map_nil]); first | done | rfl)); refine (bclass_calls l.length _).mono ?_; rintro e w8 ⟨rfl, hb⟩; refine ⟨_, rfl, ?_⟩; replace HB := Aside0.mk (below_step (by repeat (first | (with_reducible first | exact HB.out | apply below_alloc | apply pw_below_drewN | apply below_drew1) | exact HB.out)) hb); clear hb))))
    refine bodyPost_ret (v := .tuple #[.slice none 0 0, .int .i64 3]) (by simp [results, Try.results21, go_sem]) rfl ?_
    rw [padL_no HN.out, padK_no HN.out]
    exact ⟨_, rfl, Kd.R_nil _ _ _ _ _, HB.out⟩
  · have HN := Aside0.mk hc
    have hd : decide (classB (l.length : Int) < 0) = false := decide_eq_false hc
    clear hc
    obtain ⟨n, hn⟩ : ∃ n : Nat, sizeB (classB l.length) = n := ⟨(sizeB (classB l.length)).toNat, by have := sizeB_le (classB l.length); omega⟩
    have HS := Aside0.mk hn
    have hn1 : n ≤ 1024 := by have := sizeB_le (classB l.length); omega
    have HF : Aside0 ((numL l.length ++ l).length ≤ n) := ⟨by have := pad_fits (l := l) (by have := HN.out; omega); rw [hn] at this; simpa using this⟩
    clear hn
    go_enter Try.func21, Try.ntmps21
    go_wp2_with (first
      | ((with_reducible refine gate_dst (N := 8) rfl ?_); go_must (((try (refine gate_guard (by rfl) ?_; dsimp only)); refine goesL_ (some 8) rfl rfl Try.func13 (by kernel_rfl) rfl #[.int .i64 l.length] rfl ?hA ?_; (case hA => ((try simp only [List.map_toArray, List.map_cons, List.map_nil]); first | done | rfl)); refine (bclass_calls l.length _).mono ?_; rintro e w8 ⟨rfl, hb⟩; refine ⟨_, rfl, ?_⟩; replace HB := Aside0.mk (below_step (by repeat (first | (with_reducible first | exact HB.out | apply below_alloc | apply pw_below_drewN | apply below_drew1) | exact HB.out)) hb); clear hb)))
      | ((with_reducible refine gate_dst (N := 12) rfl ?_); go_must (((try (refine gate_guard (by rfl) ?_; dsimp only)); refine goesL_ (some 12) rfl rfl Try.func15 (by kernel_rfl) rfl #[.int .i64 (classB l.length)] rfl ?hA ?_; (case hA => ((try simp only [List.map_toArray, List.map_cons, List.map_nil]); first | done | rfl)); refine (bsize_calls _ _).mono ?_; rintro e w12 ⟨rfl, hb⟩; refine ⟨_, rfl, ?_⟩; rw [HS.out]; replace HB := Aside0.mk (below_step (by repeat (first | (with_reducible first | exact HB.out | apply below_alloc | apply pw_below_drewN | apply below_drew1) | exact HB.out)) hb); clear hb)))
      | ((with_reducible refine gate_dst (N := 13) rfl ?_); go_must ((refine make_zeros rfl _ _ _ rfl Try.underlying26 info5 _ n rfl rfl rfl (by omega) ?_; intro g w13 hge hbk hb; have HG : Aside0 (w.heap.size ≤ g) := ⟨by rw [hge]; exact HB.out.size⟩; have HK := Aside0.mk hbk; replace HB := Aside0.mk (below_step HB.out hb); clear hge hbk hb)))
      | ((with_reducible refine gate_dst (N := 16) rfl ?_); go_must (((try (refine gate_guard (by rfl) ?_; dsimp only)); refine goesL_ (some 16) rfl rfl Try.func29 (by kernel_rfl) rfl #[.slice none 0 0, .slice A0 l.length c0] rfl ?hA ?_; (case hA => ((try simp only [List.map_toArray, List.map_cons, List.map_nil]); first | done | rfl)); refine (bytes_calls _ _ [] l _ (Rd.nil _) (HR.out.below HB.out) (by have := HL.out; have := HF.out; simp only [List.length_append, List.length_nil] at this ⊢; omega)).mono ?_; rintro e w16 ⟨v, rfl, ho, hb⟩; refine ⟨_, rfl, ?_⟩; have HO := Aside0.mk ho; replace HK := Aside0.mk ((hb.block g (blk_lt HK.out)).trans HK.out); replace HB := Aside0.mk (below_step (by repeat (first | (with_reducible first | exact HB.out | apply below_alloc | apply pw_below_drewN | apply below_drew1) | exact HB.out)) hb); clear ho hb)))
      | ((with_reducible refine gate_builtin (b := .append) (xs := #[.tmp 14, .tmp 16]) rfl ?_); at_builtin; go_must ((refine append_room rfl (.tmp 14) (.tmp 16) 26 rfl Try.underlying26 info5 g n _ v (numL l.length ++ l) rfl rfl HK.out ?aS (by simpa using HO.out.rd) ?aP HF.out ?_; (case aS => simp); (case aP => (have := numL_pos l.length; simp only [List.length_append]; omega)); intro w17 hbk hg; replace HK := Aside0.mk hbk; have HB2 := HB.out.grown hg HB.out.size (by have := HG.out; intro k hk; injection hk with hk; omega); replace HB := Aside0.mk HB2; clear hbk hg HB2)))
      | ((with_reducible refine gate_dst (N := 19) rfl ?_); go_must (((try (refine gate_guard (by rfl) ?_; dsimp only)); refine goesL_ (some 19) rfl rfl Try.func15 (by kernel_rfl) rfl #[.int .i64 (classB l.length)] rfl ?hA ?_; (case hA => ((try simp only [List.map_toArray, List.map_cons, List.map_nil]); first | done | rfl)); refine (bsize_calls _ _).mono ?_; rintro e w19 ⟨rfl, hb⟩; refine ⟨_, rfl, ?_⟩; rw [HS.out]; replace HK := Aside0.mk ((hb.block g (blk_lt HK.out)).trans HK.out); replace HB := Aside0.mk (below_step (by repeat (first | (with_reducible first | exact HB.out | apply below_alloc | apply pw_below_drewN | apply below_drew1) | exact HB.out)) hb); clear hb))))
    refine bodyPost_ret (v := .tuple #[.slice (some ⟨g, 0, none⟩) n n, .int .i64 0]) (by simp [results, Try.results21, go_sem]) rfl ?_
    have hneg : ¬ classB l.length < 0 := by have := HN.out; omega
    rw [padK_ok hneg]
    refine ⟨_, rfl, ?_, HB.out⟩
    have hf := HF.out
    have hs := HS.out
    have hp : padL l = numL l.length ++ l ++ List.replicate (n - (numL l.length ++ l).length) 0 := by
      unfold padL
      rw [if_neg hneg, hs]
      rfl
    refine Kd.R_of_own ⟨?_, .inr ⟨g, n, _, ?_, HG.out, HK.out, ?_, ?_, ?_, ?_⟩⟩ (fun _ _ => trivial)
    · simp [encs]
    · rw [hp]
      congr 1
      rw [List.length_append, List.length_replicate]
      omega
    · rw [hp, List.length_append, List.length_replicate]
      omega
    · simp [maxLen]
      omega
    · simp [nums]
      simp at hf
      omega
    · rw [hp]
      simp [nums, encs]
      simp at hf
      exact List.take_of_length_le (by simp)

theorem own_at {w : World} {base : Nat} {v : Value} {l : List Int} (h : Own w base v l) (hl : 0 < l.length) :
    ∃ A c, v = .slice (some A) l.length c ∧ l.length ≤ c ∧ (∀ i, i < l.length → w.cell? (A.add i) = some (.int .u8 (rd l i))) := by
  obtain ⟨A, c, rfl, hc, hC⟩ := h.rd
  obtain ⟨ad, rfl, hcell⟩ := (Kd.reads_of_C (enc := Value.int .u8) (d := (0 : Int)) (h1 := fun _ => rfl) hC).2.2 hl
  exact ⟨ad, c, rfl, hc, fun i hi => hcell i hi⟩

/-- A constant's bytes, marked. -/
theorem rd_marked (w : World) (xs : List Int) (T : TypeId) (f : Nat × Nat) (hm : xs.length ≤ maxLen) : Rd (w.alloc (.cells (nums .u8 xs).toArray T f)) (.slice (some ⟨w.heap.size, 0, none⟩) xs.length xs.length) xs := by
  refine ⟨_, _, rfl, Nat.le_refl _, Kd.C_of_reads (d := (0 : Int)) (h1 := fun _ => rfl) ⟨rfl, hm, fun hn => ⟨_, rfl, fun j hj => ?_⟩⟩⟩
  rw [show ((⟨w.heap.size, 0, none⟩ : Addr).add j) = ⟨w.heap.size, j, none⟩ by simp [Addr.add]; omega, World.cell?_alloc_mark]
  simp [nums, List.getElem?_eq_getElem hj, List.getD_eq_getElem?_getD]

set_option maxRecDepth 100000 in
set_option maxHeartbeats 1000000 in
theorem alive02_calls (w : World) :
    Calls Try.prog 20 #[] w fun e w' => e = .returned (.bool true) ∧ Below w.heap.size w w' := by
  have HB := Aside0.mk (Below.refl w.heap.size w)
  have hp : padL [97, 98] = [2, 97, 98, 0, 0, 0, 0, 0, 0, 0, 0, 0, 0, 0, 0, 0] := by
    unfold padL
    rw [show (numL ([97, 98] : List Int).length) = [2] from numL_small (by decide)]
    decide
  have hk : padK [97, 98] = 0 := by decide
  have HP := Aside0.mk hp
  have HK := Aside0.mk hk
  clear hp hk
  have kc := fun (w : World) (C : Array Value) (n c : Nat) => Lib.run_convert_bytes_const (P := Try.prog) w 26 5 C n c Try.underlying26 Try.underlying5
  go_enter Try.func20, Try.ntmps20
  go_wp2_with (first
    | ((with_reducible refine gate_dst (N := 6) rfl ?_); go_must (((try (refine gate_guard (by rfl) ?_; dsimp only)); refine goesL_ (some 6) rfl rfl Try.func21 (by kernel_rfl) rfl #[.slice (some ⟨w.heap.size, 0, none⟩) 2 2] rfl ?hA ?_; (case hA => ((try simp only [List.map_toArray, List.map_cons, List.map_nil]); first | done | rfl)); refine (bpad_calls _ [97, 98] _ (rd_marked w [97, 98] _ _ (by decide)) (by decide)).mono ?_; rintro e w6 ⟨v6, rfl, ho, hb⟩; refine ⟨_, rfl, ?_⟩; rw [HK.out]; rw [HP.out] at ho; obtain ⟨A6, c6, rfl, hc6, hx⟩ := own_at ho (by decide); have e0 : A6.add 0 = A6 := (by simp [Addr.add]); have hx0 : w6.cell? A6 = some (.int .u8 2) := (by rw [← e0]; exact hx 0 (by decide)); have hx1 : w6.cell? ⟨A6.block, A6.off + 1, none⟩ = some (.int .u8 97) := (by have h1 : w6.cell? (A6.add 1) = some (.int .u8 97) := hx 1 (by decide); simpa [Addr.add] using h1); have hx3 : w6.cell? ⟨A6.block, A6.off + 3, none⟩ = some (.int .u8 0) := (by have h3 : w6.cell? (A6.add 3) = some (.int .u8 0) := hx 3 (by decide); simpa [Addr.add] using h3); clear e0; replace HB := Aside0.mk (below_step (by repeat (first | (with_reducible first | exact HB.out | apply below_alloc | apply pw_below_drewN | apply below_drew1) | exact HB.out)) hb); clear ho hb hx)))
    | ((with_reducible refine gate_dst (N := 35) rfl ?_); go_must (((try (refine gate_guard (by rfl) ?_; dsimp only)); refine goesL_ (some 35) rfl rfl Try.func19 (by kernel_rfl) rfl #[] rfl ?hA ?_; (case hA => ((try simp only [List.map_toArray, List.map_cons, List.map_nil]); first | done | rfl)); refine (bclasses_calls _).mono ?_; rintro e w35 ⟨rfl, hb⟩; refine ⟨_, rfl, ?_⟩; replace HB := Aside0.mk (below_step (by repeat (first | (with_reducible first | exact HB.out | apply below_alloc | apply pw_below_drewN | apply below_drew1) | exact HB.out)) hb); clear hb)))
    | ((with_reducible refine gate_dst (N := 39) rfl ?_); go_must (((try (refine gate_guard (by rfl) ?_; dsimp only)); refine goesL_ (some 39) rfl rfl Try.func17 (by kernel_rfl) rfl #[.int .i64 0] rfl ?hA ?_; (case hA => ((try simp only [List.map_toArray, List.map_cons, List.map_nil]); first | done | rfl)); refine (broom_calls 0 _).mono ?_; rintro e w39 ⟨rfl, hb⟩; refine ⟨_, rfl, ?_⟩; rw [show roomB 0 = 15 from rfl]; replace HB := Aside0.mk (below_step (by repeat (first | (with_reducible first | exact HB.out | apply below_alloc | apply pw_below_drewN | apply below_drew1) | exact HB.out)) hb); clear hb))))
  go_ret
  exact ⟨rfl, HB.out⟩

attribute [local go_sem] max2_int min2_int max_two min_two
set_option maxRecDepth 100000 in
set_option maxHeartbeats 1000000 in
theorem classes_walk (n c : Int) (w : World) :
    Calls Try.prog 3 #[.int .i64 n, .int .i64 c] w fun e w' => e = .returned (.bool true) ∧ Below w.heap.size w w' := by
  have HB := Aside0.mk (Below.refl w.heap.size w)
  go_enter Try.func3, Try.ntmps3
  go_wp2_with (first
    | ((with_reducible refine gate_dst (N := 6) rfl ?_); go_must (((try (refine gate_guard (by rfl) ?_; dsimp only)); refine goesL_ (some 6) rfl rfl Try.func13 (by kernel_rfl) rfl #[.int .i64 n] rfl ?hA ?_; (case hA => ((try simp only [List.map_toArray, List.map_cons, List.map_nil]); first | done | rfl)); refine (bclass_calls n _).mono ?_; rintro e w6 ⟨rfl, hb⟩; refine ⟨_, rfl, ?_⟩; replace HB := Aside0.mk (below_step (by repeat (first | (with_reducible first | exact HB.out | apply below_alloc | apply pw_below_drewN | apply below_drew1) | exact HB.out)) hb); clear hb)))
    | ((with_reducible refine gate_dst (N := 8) rfl ?_); go_must (((try (refine gate_guard (by rfl) ?_; dsimp only)); refine goesL_ (some 8) rfl rfl Try.func14 (by kernel_rfl) rfl #[.int .i64 n] rfl ?hA ?_; (case hA => ((try simp only [List.map_toArray, List.map_cons, List.map_nil]); first | done | rfl)); refine (dclass_calls n _).mono ?_; rintro e w8 ⟨rfl, hb⟩; refine ⟨_, rfl, ?_⟩; replace HB := Aside0.mk (below_step (by repeat (first | (with_reducible first | exact HB.out | apply below_alloc | apply pw_below_drewN | apply below_drew1) | exact HB.out)) hb); clear hb)))
    | ((with_reducible refine gate_dst (N := 12) rfl ?_); go_must (((try (refine gate_guard (by rfl) ?_; dsimp only)); refine goesL_ (some 12) rfl rfl Try.func15 (by kernel_rfl) rfl #[.int .i64 c] rfl ?hA ?_; (case hA => ((try simp only [List.map_toArray, List.map_cons, List.map_nil]); first | done | rfl)); refine (bsize_calls c _).mono ?_; rintro e w12 ⟨rfl, hb⟩; refine ⟨_, rfl, ?_⟩; replace HB := Aside0.mk (below_step (by repeat (first | (with_reducible first | exact HB.out | apply below_alloc | apply pw_below_drewN | apply below_drew1) | exact HB.out)) hb); clear hb)))
    | ((with_reducible refine gate_dst (N := 14) rfl ?_); go_must (((try (refine gate_guard (by rfl) ?_; dsimp only)); refine goesL_ (some 14) rfl rfl Try.func16 (by kernel_rfl) rfl #[.int .i64 c] rfl ?hA ?_; (case hA => ((try simp only [List.map_toArray, List.map_cons, List.map_nil]); first | done | rfl)); refine (dsize_calls c _).mono ?_; rintro e w14 ⟨rfl, hb⟩; refine ⟨_, rfl, ?_⟩; replace HB := Aside0.mk (below_step (by repeat (first | (with_reducible first | exact HB.out | apply below_alloc | apply pw_below_drewN | apply below_drew1) | exact HB.out)) hb); clear hb)))
    | ((with_reducible refine gate_dst (N := 19) rfl ?_); go_must (((try (refine gate_guard (by rfl) ?_; dsimp only)); refine goesL_ (some 19) rfl rfl Try.func17 (by kernel_rfl) rfl #[.int .i64 c] rfl ?hA ?_; (case hA => ((try simp only [List.map_toArray, List.map_cons, List.map_nil]); first | done | rfl)); refine (broom_calls c _).mono ?_; rintro e w19 ⟨rfl, hb⟩; refine ⟨_, rfl, ?_⟩; replace HB := Aside0.mk (below_step (by repeat (first | (with_reducible first | exact HB.out | apply below_alloc | apply pw_below_drewN | apply below_drew1) | exact HB.out)) hb); clear hb)))
    | ((with_reducible refine gate_dst (N := 21) rfl ?_); go_must (((try (refine gate_guard (by rfl) ?_; dsimp only)); refine goesL_ (some 21) rfl rfl Try.func18 (by kernel_rfl) rfl #[.int .i64 c] rfl ?hA ?_; (case hA => ((try simp only [List.map_toArray, List.map_cons, List.map_nil]); first | done | rfl)); refine (droom_calls c _).mono ?_; rintro e w21 ⟨rfl, hb⟩; refine ⟨_, rfl, ?_⟩; replace HB := Aside0.mk (below_step (by repeat (first | (with_reducible first | exact HB.out | apply below_alloc | apply pw_below_drewN | apply below_drew1) | exact HB.out)) hb); clear hb)))
    | ((with_reducible refine gate_dst (N := 25) rfl ?_); go_must (((try (refine gate_guard (by rfl) ?_; dsimp only)); refine goesL_ (some 25) rfl rfl Try.func19 (by kernel_rfl) rfl #[] rfl ?hA ?_; (case hA => ((try simp only [List.map_toArray, List.map_cons, List.map_nil]); first | done | rfl)); refine (bclasses_calls _).mono ?_; rintro e w25 ⟨rfl, hb⟩; refine ⟨_, rfl, ?_⟩; replace HB := Aside0.mk (below_step (by repeat (first | (with_reducible first | exact HB.out | apply below_alloc | apply pw_below_drewN | apply below_drew1) | exact HB.out)) hb); clear hb)))
    | ((with_reducible refine gate_dst (N := 29) rfl ?_); go_must (((try (refine gate_guard (by rfl) ?_; dsimp only)); refine goesL_ (some 29) rfl rfl Try.func20 (by kernel_rfl) rfl #[] rfl ?hA ?_; (case hA => ((try simp only [List.map_toArray, List.map_cons, List.map_nil]); first | done | rfl)); refine (alive02_calls _).mono ?_; rintro e w29 ⟨rfl, hb⟩; refine ⟨_, rfl, ?_⟩; replace HB := Aside0.mk (below_step (by repeat (first | (with_reducible first | exact HB.out | apply below_alloc | apply pw_below_drewN | apply below_drew1) | exact HB.out)) hb); clear hb))))
  go_ret
  exact ⟨rfl, HB.out⟩
end Go.Proofs.Ytnmidmcmbehkbaa.K

/- stamp.Put, stamp.Get, cachetteref04.Put, cachetteref04.Get, cachetteref01.Reader.Int: what they put and take. -/
import Derived.Test.YtaiakklflmhpmaaRef3
namespace Go.Proofs.Ytaiakklflmhpmaa.K
open Go.RowKit Go.Proofs.YtaiakklflmhpmaaW.PrintWords Go.Proofs.YtaiakklflmhpmaaW.PrintLast Go.Proofs.YtaiakklflmhpmaaW.PrintMore
set_option linter.unusedVariables false
set_option linter.unusedSimpArgs false

/-- A store into another block. -/
theorem Rdr.far {T : Nat} {w0 W : World} {g : Nat} {l : List Int} {k : Int} (h : Rdr T w0 W g l k) {p : Addr} (hp : g ≠ p.block) (u : Value) : Rdr T w0 (W.setCell p u) g l k := by
 obtain ⟨v, hb, h2⟩ := h
 exact ⟨v, blk_far hb hp u, h2⟩
theorem Own.eq {w : World} {b : Nat} {v : Value} {l l' : List Int} (h : Own w b v l) (e : l = l') : Own w b v l' := e ▸ h
theorem Rdr.lt {T : Nat} {w0 W : World} {g : Nat} {l : List Int} {k : Int} (h : Rdr T w0 W g l k) : g < W.heap.size := by
 obtain ⟨v, hb, h2⟩ := h
 exact blk_lt hb
/-- The stamp that bytes begin with: its time, its member, what is left, what is wrong. -/
def getS (l : List Int) (k : Int) : Int × Int × List Int × Int :=
 (unzz (numR l k).1, (countR 7 (numR l k).2.1 (numR l k).2.2).1, (countR 7 (numR l k).2.1 (numR l k).2.2).2.1, (countR 7 (numR l k).2.1 (numR l k).2.2).2.2)

set_option maxHeartbeats 2000000 in
theorem sget_calls (g : Nat) (l : List Int) (k : Int) (w0 w : World) (hI : Rdr 71 w0 w g l k) (hB : Below w0.heap.size w0 w) :
  Calls Try.prog 30 #[.pointer (some ⟨g, 0, none⟩)] w fun e w' => e = .returned (.agg #[.int .i64 (getS l k).1, .int .i64 (getS l k).2.1]) ∧ Rdr 71 w0 w' g (getS l k).2.2.1 (getS l k).2.2.2 ∧ Stp w0 w w' g := by
 have HI := Aside0.mk hI
 have HB := Aside0.mk hB
 have hg := hI.lt
 have hne : g ≠ w.heap.size := by omega
 have hle : w0.heap.size ≤ w.heap.size := hB.size
 clear hI hB
 obtain ⟨z, hz⟩ : ∃ n, unzz (numR l k).1 = n := ⟨_, rfl⟩
 obtain ⟨l1, hl1⟩ : ∃ n, (numR l k).2.1 = n := ⟨_, rfl⟩
 obtain ⟨k1, hk1⟩ : ∃ n, (numR l k).2.2 = n := ⟨_, rfl⟩
 obtain ⟨c, hc⟩ : ∃ n, (countR 7 l1 k1).1 = n := ⟨_, rfl⟩
 obtain ⟨l2, hl2⟩ : ∃ n, (countR 7 l1 k1).2.1 = n := ⟨_, rfl⟩
 obtain ⟨k2, hk2⟩ : ∃ n, (countR 7 l1 k1).2.2 = n := ⟨_, rfl⟩
 have HG : Aside0 (getS l k = (z, c, l2, k2)) := ⟨by unfold getS; rw [hz, hl1, hk1, hc, hl2, hk2]⟩
 have HZ := Aside0.mk hz
 have HL1 := Aside0.mk hl1
 have HK1 := Aside0.mk hk1
 have HC := Aside0.mk hc
 have HL2 := Aside0.mk hl2
 have HK2 := Aside0.mk hk2
 clear hz hl1 hk1 hc hl2 hk2
 go_enter Try.func30, Try.ntmps30
 go_wp2_with (first
  | (go_at_call 52; go_must ((refine (rint_calls g l k w0 _ (by exact HI.out.below (below_alloc (Below.refl _ _) _)) (by exact HB.out.alloc HB.out.size _)).mono ?_; rw [HZ.out, HL1.out, HK1.out]; rintro e w4 ⟨rfl, hr, hs⟩; have hb4 := hs.keep.blk (blk_new w _) (Ne.symm hne) (by simp); have f40 := blk_frozen hb4 0; have f41 := blk_frozen hb4 1; have c40 := (blk_cell hb4 0).trans rfl; have c41 := (blk_cell hb4 1).trans rfl; have H4 := Aside0.mk hb4; have HR4 := Aside0.mk hr; have HS4 := Aside0.mk hs; have hlt4 := blk_lt hb4; clear hr hs hb4)))
  | (go_at_call 29; go_must ((refine (count_calls g 7 l1 k1 w0 _ (by exact HR4.out.far (p := ⟨w.heap.size, 0, none⟩) hne _) (by exact HS4.out.below.setCell (p := ⟨w.heap.size, 0, none⟩) hle _)).mono ?_; rw [HC.out, HL2.out, HK2.out]; rintro e w7 ⟨rfl, hr, hs⟩; have hb7 := hs.keep.blk (blk_set H4.out 0 (.int .i64 z)) (Ne.symm hne) (by simp); have hb7' : w7.heap[w.heap.size]? = some (.cells #[.int .i64 z, .int .i64 0] 28 (0, 0)) := (by simpa using hb7); clear hb7; have f70 := blk_frozen hb7' 0; have f71 := blk_frozen hb7' 1; have c70 := (blk_cell hb7' 0).trans rfl; have c71 := (blk_cell hb7' 1).trans rfl; have H7 := Aside0.mk hb7'; have HR7 := Aside0.mk hr; have HS7 := Aside0.mk hs; clear hr hs hb7'))))
 have HR2 : (((w7.setCell ⟨w.heap.size, 1, none⟩ (.int .i64 c)).setCell ⟨w.heap.size, 0, none⟩ (.int .i64 z)).setCell ⟨w.heap.size, 1, none⟩ (.int .i64 c)).heap[w.heap.size]? = some (.cells #[.int .i64 z, .int .i64 c] 28 (0, 0)) := by
  simpa using blk_set (blk_set (blk_set H7.out 1 (.int .i64 c)) 0 (.int .i64 z)) 1 (.int .i64 c)
 have q0 := (blk_cell HR2 0).trans rfl
 have q1 := (blk_cell HR2 1).trans rfl
 rw [HG.out]
 have hk0 : KeepBut w w4 g none := KeepBut.trans (KeepBut.of_below (below_alloc (Below.refl w.heap.size w) _) g none) HS4.out.keep (.inl rfl)
 have hk1 : KeepBut w w7 g none := KeepBut.trans (keep_far hk0 (p := ⟨w.heap.size, 0, none⟩) (Nat.le_refl _) (.int .i64 z)) HS7.out.keep (.inl rfl)
 exact bodyPost_ret (v := .agg #[.int .i64 z, .int .i64 c]) (by simp [results, Try.results30, go_sem, q0, q1]) rfl ⟨rfl, ((HR7.out.far (p := ⟨w.heap.size, 1, none⟩) hne _).far (p := ⟨w.heap.size, 0, none⟩) hne _).far (p := ⟨w.heap.size, 1, none⟩) hne _, ((HS7.out.below.setCell (p := ⟨w.heap.size, 1, none⟩) hle _).setCell (p := ⟨w.heap.size, 0, none⟩) hle _).setCell (p := ⟨w.heap.size, 1, none⟩) hle _, keep_far (keep_far (keep_far hk1 (p := ⟨w.heap.size, 1, none⟩) (Nat.le_refl _) _) (p := ⟨w.heap.size, 0, none⟩) (Nat.le_refl _) _) (p := ⟨w.heap.size, 1, none⟩) (Nat.le_refl _) _⟩

/-- The form of a stamp. -/
def putS (t a : Int) : List Int := numL (zz t) ++ numL (max a 0).toNat
set_option maxRecDepth 100000 in
set_option maxHeartbeats 4000000 in
theorem sput_calls (v0 : Value) (l0 : List Int) (t a : Int) (w : World) (hr0 : Rd w v0 l0) (h1 : -9223372036854775808 ≤ t) (h2 : t ≤ 9223372036854775807) (h3 : a ≤ 9223372036854775807) (hl : l0.length ≤ 100000) :
  Calls Try.prog 61 #[v0, .agg #[.int .i64 t, .int .i64 a]] w fun e w' => ∃ v, e = .returned v ∧ Own w' w.heap.size v (l0 ++ putS t a) ∧ Below w.heap.size w w' := by
 have HR := Aside0.mk hr0
 have H1 := Aside0.mk h1
 have H2 := Aside0.mk h2
 obtain ⟨A0, c0, rfl, hc0, hC0⟩ := hr0
 have HB := Aside0.mk (Below.refl w.heap.size w)
 obtain ⟨n, hn⟩ : ∃ n : Nat, max a 0 = n := ⟨(max a 0).toNat, by omega⟩
 have hn2 : (n : Int) ≤ 9223372036854775807 := by omega
 have hn3 : (0 : Int) ≤ n := by omega
 have HN : Aside0 ((max a 0).toNat = n) := ⟨by rw [hn]; simp⟩
 have HLn : Aside0 ((numL n).length ≤ 10) := ⟨by have := numL_le n (by omega); omega⟩
 have HLz : Aside0 ((numL (zz t)).length ≤ 10) := ⟨by have := numL_le (zz t) (zz_lt h1 h2); omega⟩
 have x0 := (blk_cell (blk_new w (.cells #[.int .i64 t, .int .i64 a] 28 (0, 0))) 0).trans rfl
 have x1 := (blk_cell (blk_new w (.cells #[.int .i64 t, .int .i64 a] 28 (0, 0))) 1).trans rfl
 have HW : Aside0 (IntKind.u64.wrap (max a 0) = (n : Int)) := ⟨by rw [hn]; simp [IntKind.wrap, IntKind.bits, IntKind.signed]; omega⟩
 clear hC0 h1 h2 h3 hn hn2 hn3
 go_enter Try.func61, Try.ntmps61
 go_wp2
 go_region_held3 (fun w' => w'.cell? ⟨w.heap.size, 0, none⟩ = some (.int .i64 t) ∧ w'.cell? ⟨w.heap.size, 1, none⟩ = some (.int .i64 a))
  (first | exact ⟨x0, x1⟩ | (go_split_ands; exact ⟨pw_cell_below hb (by assumption), pw_cell_below hb (by assumption)⟩))
  (first
   | (go_at_call 70; refine (int_calls _ l0 t _ (HR.out.below (by repeat (first | (with_reducible first | exact HB.out | apply below_alloc | apply pw_below_drewN | apply below_drew1) | exact HB.out))) H1.out H2.out (by have := HLz.out; omega)).mono ?_; rintro e w8 ⟨v8, rfl, ho, hb⟩; have HO := Aside0.mk ho; replace HB := Aside0.mk (below_step (by repeat (first | (with_reducible first | exact HB.out | apply below_alloc | apply pw_below_drewN | apply below_drew1) | exact HB.out)) hb); clear ho)
   | (go_at_call 26; rw [HW.out]; refine (num_calls _ (l0 ++ numL (zz t)) n _ (by exact HO.out.rd) (by have := HLz.out; have := HLn.out; simp only [List.length_append]; omega)).mono ?_; rintro e w13 ⟨v13, rfl, ho, hb⟩; have HO2 := Aside0.mk (Kd.R_lower ho (Below.size (by repeat (first | (with_reducible first | exact HB.out | apply below_alloc | apply pw_below_drewN | apply below_drew1) | exact HB.out)))); replace HB := Aside0.mk (below_step (by repeat (first | (with_reducible first | exact HB.out | apply below_alloc | apply pw_below_drewN | apply below_drew1) | exact HB.out)) hb); clear ho))
 all_goals
  go_wp2
  go_ret
  exact ⟨_, rfl, Own.eq HO2.out (by unfold putS; rw [HN.out, List.append_assoc]), HB.out⟩

section
variable {P : Program} {ops : Array Oper} {o : Oper} {a : Act} {Q : Exit → Act → World → Prop} {Kc : Act → World → Prop} {w0 W : World}
end
/- cachetteref01.Reader.Bool; what a reader takes of an operation, as a Lean function. op.Read. The example that must come at any rate. -/
import Derived.Test.YtaiakklflmhpmaaOpD
namespace Go.Proofs.Ytaiakklflmhpmaa.K
open Go.RowKit Go.Proofs.YtaiakklflmhpmaaW.PrintWords Go.Proofs.YtaiakklflmhpmaaW.PrintLast Go.Proofs.YtaiakklflmhpmaaW.PrintMore
set_option linter.unusedVariables false
set_option linter.unusedSimpArgs false

/-- An operation at block g7 of W that is being read, by the reader at gr; g4: where it is to go (zero yet). -/
structure RdI (T : Nat) (w0 W : World) (g7 g4 gr : Nat) (cs : Array Value) (l : List Int) (k : Int) : Prop where
 h7 : W.heap[g7]? = some (.cells cs 31 (0, 0))
 h4 : W.heap[g4]? = some (.cells #[.int .i64 0, .int .i64 0, .int .i64 0, .int .i64 0, .int .i64 0, .int .i64 0, .int .i64 0, .bool false, .string ({ data := #[] }), (.slice none 0 0)] 31 (0, 0))
 rdr : Rdr T w0 W gr l k
 below : Below w0.heap.size w0 W
 n7 : w0.heap.size ≤ g7
 n4 : w0.heap.size ≤ g4
 e7 : g7 ≠ gr
 e4 : g4 ≠ gr
 e74 : g7 ≠ g4
theorem RdI.call {T : Nat} {w0 W W1 : World} {g7 g4 gr : Nat} {cs : Array Value} {l l1 : List Int} {k k1 : Int} (h : RdI T w0 W g7 g4 gr cs l k) (hr : Rdr T w0 W1 gr l1 k1) (hs : Stp w0 W W1 gr) : RdI T w0 W1 g7 g4 gr cs l1 k1 :=
 ⟨hs.keep.blk h.h7 h.e7 (by simp), hs.keep.blk h.h4 h.e4 (by simp), hr, hs.below, h.n7, h.n4, h.e7, h.e4, h.e74⟩
theorem Rdr.far' {T : Nat} {w0 W : World} {g : Nat} {l : List Int} {k : Int} (h : Rdr T w0 W g l k) {g' : Nat} (hp : g ≠ g') (j : Nat) (u : Value) : Rdr T w0 (W.setCell ⟨g', j, none⟩ u) g l k := h.far (p := ⟨g', j, none⟩) hp u
theorem RdI.set {T : Nat} {w0 W : World} {g7 g4 gr : Nat} {cs : Array Value} {l : List Int} {k : Int} (h : RdI T w0 W g7 g4 gr cs l k) (j : Nat) (u : Value) : RdI T w0 (W.setCell ⟨g7, j, none⟩ u) g7 g4 gr (cs.setIfInBounds j u) l k :=
 ⟨blk_set h.h7 j u, blk_far (p := ⟨g7, j, none⟩) h.h4 (Ne.symm h.e74) u, h.rdr.far' (Ne.symm h.e7) j u, h.below.setCell (p := ⟨g7, j, none⟩) h.n7 u, h.n7, h.n4, h.e7, h.e4, h.e74⟩
theorem RdI.eq {T : Nat} {w0 W : World} {g7 g4 gr : Nat} {cs cs' : Array Value} {l : List Int} {k : Int} (h : RdI T w0 W g7 g4 gr cs l k) (e : cs = cs') : RdI T w0 W g7 g4 gr cs' l k := e ▸ h
theorem RdI.below' {T : Nat} {w0 W W1 : World} {g7 g4 gr : Nat} {cs : Array Value} {l : List Int} {k : Int} (h : RdI T w0 W g7 g4 gr cs l k) (hb : Below W.heap.size W W1) : RdI T w0 W1 g7 g4 gr cs l k :=
 ⟨blk_below h.h7 hb, blk_below h.h4 hb, h.rdr.below hb, below_step h.below hb, h.n7, h.n4, h.e7, h.e4, h.e74⟩
theorem RdI.f7 {T : Nat} {w0 W : World} {g7 g4 gr : Nat} {cs : Array Value} {l : List Int} {k : Int} (h : RdI T w0 W g7 g4 gr cs l k) (j : Nat) : W.frozen? ⟨g7, j, none⟩ = false := blk_frozen h.h7 j
theorem RdI.f4 {T : Nat} {w0 W : World} {g7 g4 gr : Nat} {cs : Array Value} {l : List Int} {k : Int} (h : RdI T w0 W g7 g4 gr cs l k) (j : Nat) : W.frozen? ⟨g4, j, none⟩ = false := blk_frozen h.h4 j

theorem countR_le4 (l : List Int) (k : Int) : (countR 4 l k).1 ≤ 4 := by
 unfold countR
 split
 ·simp
 ·split
  ·simp
  ·dsimp only
   omega
/-- What a reader takes of an operation: its parts, what is left, what is wrong. -/
structure OpR where
 k : Int
 u : Int
 b : Int
 p : Int
 c : Int
 d : Bool
 s : ByteArray
 dt : List Int
 rest : List Int
 err : Int
def readK (t a : Int) : Int × List Int × Int → OpR
 | (k, l1, k1) =>
  if k = 1 then
   (match getS l1 k1 with | (p, c, l2, k2) => match boolR l2 k2 with | (d, l3, k3) => match bytesR 24 l3 k3 with | (n, l4, k4) => ⟨1, t, a, p, c, d, strOfNums n, [], l4, k4⟩)
  else if k = 2 then
   (match getS l1 k1 with | (u, b, l2, k2) => match getS l2 k2 with | (p, c, l3, k3) => match bytesR 24 l3 k3 with | (n, l4, k4) => ⟨2, u, b, p, c, false, strOfNums n, [], l4, k4⟩)
  else if k = 3 then
   (match getS l1 k1 with | (u, b, l2, k2) => ⟨3, u, b, 0, 0, false, ⟨#[]⟩, [], l2, k2⟩)
  else if k = 4 then
   (match getS l1 k1 with | (u, b, l2, k2) => match bytesR 400 l2 k2 with | (n, l3, k3) => ⟨4, u, b, 0, 0, false, ⟨#[]⟩, n, l3, k3⟩)
  else ⟨k, t, a, 0, 0, false, ⟨#[]⟩, [], l1, k1⟩
def readR (t a : Int) (l : List Int) : OpR := readK t a (countR 4 l 0)
/-- The kind that Read tells. -/
noncomputable def readE (t a : Int) (l : List Int) : Int :=
 if doneR (readR t a l).rest (readR t a l).err ≠ 0 then doneR (readR t a l).rest (readR t a l).err
 else if rightO (readR t a l).k t a (readR t a l).u (readR t a l).b (readR t a l).p (readR t a l).c (readR t a l).d (readR t a l).s (readR t a l).dt.length = true then 0 else 4
end Go.Proofs.Ytaiakklflmhpmaa.K

namespace Go.Proofs.Ytaiakklflmhpmaa.K
open Go.RowKit Go.Proofs.YtaiakklflmhpmaaW.PrintWords Go.Proofs.YtaiakklflmhpmaaW.PrintLast Go.Proofs.YtaiakklflmhpmaaW.PrintMore
set_option linter.unusedVariables false
set_option linter.unusedSimpArgs false

def r10.T2 : Bool × List (List Nat × List Nat) := (true, [([], []), ([0], [0]), ([], []), ([], []), ([1, 2, 3], [1, 2, 3]), ([], []), ([5, 4, 1, 0, 1, 2, 3, 4, 5], [4, 5])])
def r10.B2 : List Nat := [0, 1, 0, 0, 15, 0, 63]
theorem r10.tab2 : rtab .any (opsOf Try.f15 2) = r10.T2 := by kernel_rfl
theorem r10.bits2 : waitsOk r10.T2.2 r10.B2 = true := by kernel_rfl

set_option maxRecDepth 100000 in
set_option maxHeartbeats 16000000 in
theorem oread_calls (v : Value) (l : List Int) (t a : Int) (w : World) (hr : Rd w v l) (hl : BL l) :
  Calls Try.prog 15 #[v, .agg #[.int .i64 t, .int .i64 a]] w fun e w' =>
   (readE t a l = 0 → ∃ vd, e = .returned (.tuple #[.agg #[.int .i64 (readR t a l).k, .int .i64 t, .int .i64 a, .int .i64 (readR t a l).u, .int .i64 (readR t a l).b, .int .i64 (readR t a l).p, .int .i64 (readR t a l).c, .bool (readR t a l).d, .string (readR t a l).s, vd], .int .i64 0]) ∧ Rd w' vd (readR t a l).dt) ∧
   (readE t a l ≠ 0 → e = .returned (.tuple #[.agg #[.int .i64 0, .int .i64 0, .int .i64 0, .int .i64 0, .int .i64 0, .int .i64 0, .int .i64 0, .bool false, .string ({ data := #[] }), (.slice none 0 0)], .int .i64 (readE t a l)])) ∧ Below w.heap.size w w' := by
 obtain ⟨k, l1, k1, hk⟩ : ∃ k l1 k1, countR 4 l 0 = (k, l1, k1) := ⟨_, _, _, rfl⟩
 have HRd := Aside0.mk hr
 have HL := Aside0.mk hl
 have hu2 := Try.underlying31
 have hu3 := Try.underlying28
 have HB := Aside0.mk (Below.refl w.heap.size w)
 obtain ⟨A, c0, rfl, hc0, hC0⟩ := hr
 clear hC0 hc0 hl
 have HK := Aside0.mk hk
 clear hk
 go_enter Try.func15, Try.ntmps15
 go_wp2_with (first
  | (go_at_call 28; go_must (refine (read_calls _ l w _ HRd.out HL.out (by repeat (first | (with_reducible first | exact HB.out | apply below_alloc | apply pw_below_drewN | apply below_drew1) | exact HB.out))).mono ?_; rintro e wq ⟨gr, rfl, hr, hg, hb⟩; have HG : Aside0 (w.heap.size + 1 < gr) := ⟨by have := hg; simp at this; omega⟩; have HA := Aside0.mk (blk_below (blk_alloc (blk_new w (.cells #[.int .i64 t, .int .i64 a] 28)) _) hb); have H4 := Aside0.mk (blk_below (blk_new (w.alloc (.cells #[.int .i64 t, .int .i64 a] 28)) _) hb); have HRg := Aside0.mk hr; replace HB := Aside0.mk (below_step (by repeat (first | (with_reducible first | exact HB.out | apply below_alloc | apply pw_below_drewN | apply below_drew1) | exact HB.out)) hb); clear hr hg hb)))
 have e4 : (w.alloc (.cells #[.int .i64 t, .int .i64 a] 28)).heap.size = w.heap.size + 1 := by simp
 rw [e4] at H4
 clear e4
 have HNA : Aside0 (w.heap.size ≠ gr) := ⟨by have := HG.out; omega⟩
 have HN4 : Aside0 (w.heap.size + 1 ≠ gr) := ⟨by have := HG.out; omega⟩
 replace HA := Aside0.mk (blk_drew HA.out)
 replace H4 := Aside0.mk (blk_drew H4.out)
 replace HRg : Aside0 (Rdr 71 w wq.drew gr l 0) := ⟨HRg.out⟩
 replace HB := Aside0.mk (below_drew1 HB.out)
 refine start_ (n := 7) (S := fun w' => w'.cell? ⟨w.heap.size, 0, none⟩ = some (.int .i64 t) ∧ w'.cell? ⟨w.heap.size, 1, none⟩ = some (.int .i64 a)) (ds := [6]) #[false, false, false, false, false, false, false] (by kernel_rfl) rfl rfl ⟨(blk_cell HA.out 0).trans rfl, (blk_cell HA.out 1).trans rfl⟩ (fun hHeld => ?_)
 have HN7 : Aside0 (wq.drew.heap.size ≠ gr) := ⟨by have := HRg.out.lt; omega⟩
 generalize wq.drew = w5 at HA H4 HRg HB HN7 hHeld ⊢
 refine with_tabW r10.tab2 r10.bits2 (fun HT_ HW_ => ?_)
 refine pure_ (i := 0) (N := some 11) (v := ?_) (a' := ?_) #[true, false, false, false, false, false, false] rfl rfl (any_of HT_.out (by kernel_rfl)) (fun _ _ _ h => h) (Or.inl ⟨by rfl, ?_⟩) ?_ ?_
 rotate_left
 ·intro w'
  go_simp
  with_reducible rfl
 rotate_left
 ·simp only [Act.put, ta, tb, tc, i64_w, i32_w]
  rfl
 refine take_ (i := 2) (N := some 13) (v := ?_) (a' := ?_) #[true, false, true, false, false, false, false] rfl rfl (take_ofW HT_.out HW_.out (by kernel_rfl)) (fun _ _ _ h => h) (Or.inl ⟨by rfl, ?_⟩) hHeld ?_ ?_
 rotate_left
 ·rintro w' ⟨s0, s1⟩
  go_simp
  with_reducible rfl
 rotate_left
 ·simp only [Act.put, ta, tb, tc, i64_w, i32_w]
  rfl
 refine take_ (i := 3) (N := some 14) (v := ?_) (a' := ?_) #[true, false, true, true, false, false, false] rfl rfl (take_ofW HT_.out HW_.out (by kernel_rfl)) (fun _ _ _ h => h) (Or.inl ⟨by rfl, ?_⟩) hHeld ?_ ?_
 rotate_left
 ·rintro w' ⟨s0, s1⟩
  go_simp
  with_reducible rfl
 rotate_left
 ·simp only [Act.put, ta, tb, tc, i64_w, i32_w]
  rfl
 refine join_ (σ := Nat) 1 #[true, true, true, true, true, true, false] (fun s => [(12, .int .i64 k), (15, .agg #[.int .i64 k, .int .i64 t, .int .i64 a, .int .i64 t, .int .i64 a, .int .i64 0, .int .i64 0, .bool false, .string { data := #[] }, .slice none 0 0]), (7, .pointer (some ⟨s, 0, none⟩))]) (fun s w' => RdI 71 w w' s (w.heap.size + 1) gr #[.int .i64 0, .int .i64 0, .int .i64 0, .int .i64 0, .int .i64 0, .int .i64 0, .int .i64 0, .bool false, .string ({ data := #[] }), (.slice none 0 0)] l1 k1 ∧ w'.cell? ⟨w.heap.size, 0, none⟩ = some (.int .i64 t) ∧ w'.cell? ⟨w.heap.size, 1, none⟩ = some (.int .i64 a)) ?_ ?_
 rotate_left
 ·intro hCont
  refine two_ (i := 1) (j := 5) (Ni := some 12) (Nj := some 7) #[true, true, true, true, false, false, false] #[true, false, true, true, false, true, false] rfl rfl rfl rfl (two_of HT_.out (by kernel_rfl)) (by decide) (by decide) (fun K hK => ?_) (fun K hK => ?_)
  ·skip
   refine goes_ Try.func29 (by kernel_rfl) rfl #[.pointer (some ⟨gr, 0, none⟩), .int .i64 4] (by rfl) rfl rfl (by (try simp only [List.map_toArray, List.map_cons, List.map_nil]); first | done | rfl) ?_
   with_reducible refine (count_calls gr 4 l 0 w _ HRg.out HB.out).mono ?_
   rw [HK.out]
   rintro e w8 ⟨rfl, hr, hs⟩
   refine ⟨_, rfl, ?_⟩
   have hA8 := hs.keep.blk (HA.out) HNA.out (by simp)
   have h48 := hs.keep.blk (H4.out) HN4.out (by simp)
   refine hK.out _ _ ⟨(blk_cell hA8 0).trans rfl, (blk_cell hA8 1).trans rfl⟩ (fun hHeld => ?_)
   clear hK K
   refine norm_ (a' := ?_) ?_ ?_
   rotate_left
   ·show Act.put _ (some 12) _ = _
    simp only [Act.put, ta, tb, tc, i64_w, i32_w]
    rfl
   refine pure_ (i := 4) (N := some 15) (v := ?_) (a' := ?_) #[true, true, true, true, true, false, false] rfl rfl (any_of HT_.out (by kernel_rfl)) (fun _ _ _ h => h) (Or.inl ⟨by rfl, ?_⟩) ?_ ?_
   rotate_left
   ·intro w'
    go_simp
    with_reducible rfl
   rotate_left
   ·simp only [Act.put, ta, tb, tc, i64_w, i32_w]
    rfl
   refine one_ (i := 5) (N := some 7) #[true, true, true, true, true, true, false] rfl rfl (one_of HT_.out (by kernel_rfl)) (by decide) (fun K hK => ?_)
   refine value_ (w1 := ?_) (v := ?_) (by rfl) rfl ?_ ?_
   rotate_left 2
   ·go_simp
    constructor
    ·rfl
    ·rfl
   refine hK.out _ _ ⟨pw_cell_below (below_alloc (Below.refl _ _) _) ((blk_cell hA8 0).trans rfl), pw_cell_below (below_alloc (Below.refl _ _) _) ((blk_cell hA8 1).trans rfl)⟩ (fun hHeld => ?_)
   clear hK K
   refine norm_ (a' := ?_) ?_ ?_
   rotate_left
   ·show Act.put _ (some 7) _ = _
    simp only [Act.put, ta, tb, tc, i64_w, i32_w]
    rfl
   exact norm_ (by simp only [putAll, Act.put, List.setIfInBounds_toArray, List.set_cons_zero, List.set_cons_succ]) (hCont w8.heap.size _ ⟨⟨blk_new w8 _, blk_alloc h48 _, hr.below (below_alloc (Below.refl _ _) _), hs.below.alloc hs.below.size _, hs.below.size, (Nat.le_succ _), (by have := hr.lt; omega), HN4.out, (by have := blk_lt h48; omega)⟩, pw_cell_below (below_alloc (Below.refl _ _) _) ((blk_cell hA8 0).trans rfl), pw_cell_below (below_alloc (Below.refl _ _) _) ((blk_cell hA8 1).trans rfl)⟩)
  ·skip
   refine value_ (w1 := ?_) (v := ?_) (by rfl) rfl ?_ ?_
   rotate_left 2
   ·go_simp
    constructor
    ·rfl
    ·rfl
   refine hK.out _ _ ⟨pw_cell_below (below_alloc (Below.refl _ _) _) (hHeld.1), pw_cell_below (below_alloc (Below.refl _ _) _) (hHeld.2)⟩ (fun hHeld => ?_)
   clear hK K
   refine norm_ (a' := ?_) ?_ ?_
   rotate_left
   ·show Act.put _ (some 7) _ = _
    simp only [Act.put, ta, tb, tc, i64_w, i32_w]
    rfl
   refine one_ (i := 1) (N := some 12) #[true, true, true, true, false, true, false] rfl rfl (one_of HT_.out (by kernel_rfl)) (by decide) (fun K hK => ?_)
   refine goes_ Try.func29 (by kernel_rfl) rfl #[.pointer (some ⟨gr, 0, none⟩), .int .i64 4] (by rfl) rfl rfl (by (try simp only [List.map_toArray, List.map_cons, List.map_nil]); first | done | rfl) ?_
   with_reducible refine (count_calls gr 4 l 0 w _ (HRg.out.below (below_alloc (Below.refl _ _) _)) (HB.out.alloc HB.out.size _)).mono ?_
   rw [HK.out]
   rintro e w8 ⟨rfl, hr, hs⟩
   refine ⟨_, rfl, ?_⟩
   have hA8 := hs.keep.blk (blk_alloc HA.out _) HNA.out (by simp)
   have h48 := hs.keep.blk (blk_alloc H4.out _) HN4.out (by simp)
   have h78 := hs.keep.blk (blk_new w5 (.cells #[.int .i64 0, .int .i64 0, .int .i64 0, .int .i64 0, .int .i64 0, .int .i64 0, .int .i64 0, .bool false, .string ({ data := #[] }), (.slice none 0 0)] 31 (0, 0))) HN7.out (by simp)
   refine hK.out _ _ ⟨(blk_cell hA8 0).trans rfl, (blk_cell hA8 1).trans rfl⟩ (fun hHeld => ?_)
   clear hK K
   refine norm_ (a' := ?_) ?_ ?_
   rotate_left
   ·show Act.put _ (some 12) _ = _
    simp only [Act.put, ta, tb, tc, i64_w, i32_w]
    rfl
   refine pure_ (i := 4) (N := some 15) (v := ?_) (a' := ?_) #[true, true, true, true, true, true, false] rfl rfl (any_of HT_.out (by kernel_rfl)) (fun _ _ _ h => h) (Or.inl ⟨by rfl, ?_⟩) ?_ ?_
   rotate_left
   ·intro w'
    go_simp
    with_reducible rfl
   rotate_left
   ·simp only [Act.put, ta, tb, tc, i64_w, i32_w]
    rfl
   exact norm_ (by simp only [putAll, Act.put, List.setIfInBounds_toArray, List.set_cons_zero, List.set_cons_succ]) (hCont w5.heap.size _ ⟨⟨h78, h48, hr, hs.below, HB.out.size, (Nat.le_succ _), HN7.out, HN4.out, (by have := blk_lt H4.out; omega)⟩, (blk_cell hA8 0).trans rfl, (blk_cell hA8 1).trans rfl⟩)
 rintro g7 w9 ⟨hI, s0, s1⟩
 have hHeld := And.intro s0 s1
 obtain ⟨f0, f1, f2, f3, f4, f5, f6, f7, f8, f9⟩ := froz10 hI.h7
 obtain ⟨c0, c1, c2, c3, c4, c5, c6, c7, c8, c9⟩ := cells10 hI.h7
 refine norm_ (a' := ?_) ?_ ?_
 rotate_left
 ·simp only [putAll, Act.put, List.setIfInBounds_toArray, List.set_cons_zero, List.set_cons_succ]
  rfl
 refine last_ (i := 6) (N := none) #[true, true, true, true, true, true, true] rfl rfl (one_of HT_.out (by kernel_rfl)) (by decide) (fun K hK => ?_)
 refine skip_ (w1 := ?_) (by rfl) rfl ?_ ?_
 rotate_left
 ·go_simp
  rfl
 refine hK.out _ _ ?_
 clear hK K
 refine done_ (done_of HT_.out (by kernel_rfl)) ?_
 have HI : Aside0 (RdI 71 w ((((((((((w9.setCell ⟨g7, 0, none⟩ (.int .i64 k)).setCell ⟨g7, 1, none⟩ (.int .i64 t)).setCell ⟨g7, 2, none⟩ (.int .i64 a)).setCell ⟨g7, 3, none⟩ (.int .i64 t)).setCell ⟨g7, 4, none⟩ (.int .i64 a)).setCell ⟨g7, 5, none⟩ (.int .i64 0)).setCell ⟨g7, 6, none⟩ (.int .i64 0)).setCell ⟨g7, 7, none⟩ (.bool false)).setCell ⟨g7, 8, none⟩ (.string { data := #[] })).setCell ⟨g7, 9, none⟩ (.slice none 0 0)) g7 (w.heap.size + 1) gr #[.int .i64 k, .int .i64 t, .int .i64 a, .int .i64 t, .int .i64 a, .int .i64 0, .int .i64 0, .bool false, .string { data := #[] }, .slice none 0 0] l1 k1) := ⟨((((((((((hI.set 0 (.int .i64 k)).set 1 (.int .i64 t)).set 2 (.int .i64 a)).set 3 (.int .i64 t)).set 4 (.int .i64 a)).set 5 (.int .i64 0)).set 6 (.int .i64 0)).set 7 (.bool false)).set 8 (.string { data := #[] })).set 9 (.slice none 0 0)).eq (by simp)⟩
 clear hI s0 s1 f0 c0 f1 c1 f2 c2 f3 c3 f4 c4 f5 c5 f6 c6 f7 c7 f8 c8 f9 c9 hHeld
 try clear HT_ HW_
 try clear hHeld
 generalize ((((((((((w9.setCell ⟨g7, 0, none⟩ (.int .i64 k)).setCell ⟨g7, 1, none⟩ (.int .i64 t)).setCell ⟨g7, 2, none⟩ (.int .i64 a)).setCell ⟨g7, 3, none⟩ (.int .i64 t)).setCell ⟨g7, 4, none⟩ (.int .i64 a)).setCell ⟨g7, 5, none⟩ (.int .i64 0)).setCell ⟨g7, 6, none⟩ (.int .i64 0)).setCell ⟨g7, 7, none⟩ (.bool false)).setCell ⟨g7, 8, none⟩ (.string { data := #[] })).setCell ⟨g7, 9, none⟩ (.slice none 0 0)) = wi at HI ⊢
 clear HA H4 HRg HB HN7 HNA HN4 HRd HL
 have c0 : wi.cell? ⟨g7, 0, none⟩ = some (.int .i64 k) := (blk_cell HI.out.h7 0).trans rfl
 obtain ⟨cc0, c1, c2, c3, c4, c5, c6, c7, c8, c9⟩ := trues10
 obtain ⟨f0, f1, f2, f3, f4, f5, f6, f7, f8, f9⟩ := trues10
 obtain ⟨z0, z1, z2, z3, z4, z5, z6, z7, z8, z9⟩ := trues10
 obtain ⟨y0, y1, y2, y3, y4, y5, y6, y7, y8, y9⟩ := trues10
 by_cases n1 : k = 1
 ·subst n1
  obtain ⟨p, c, l2, k2, hG1⟩ : ∃ p c l2 k2, getS l1 k1 = (p, c, l2, k2) := ⟨_, _, _, _, rfl⟩
  have G1 := Aside0.mk hG1
  obtain ⟨d, l3, k3, hG2⟩ : ∃ d l3 k3, boolR l2 k2 = (d, l3, k3) := ⟨_, _, _, rfl⟩
  have G2 := Aside0.mk hG2
  obtain ⟨n, l4, k4, hG3⟩ : ∃ n l4 k4, bytesR 24 l3 k3 = (n, l4, k4) := ⟨_, _, _, rfl⟩
  have G3 := Aside0.mk hG3
  have HRR : Aside0 (readR t a l = ⟨1, t, a, p, c, d, strOfNums n, [], l4, k4⟩) := ⟨by unfold readR; rw [HK.out]; simp only [readK, if_true, if_false, hG1, hG2, hG3]⟩
  clear hG1
  clear hG2
  clear hG3
  obtain ⟨e0, he0⟩ : ∃ e0, doneR l4 k4 = e0 := ⟨_, rfl⟩
  have HE0 := Aside0.mk he0
  clear he0
  by_cases he : e0 = 0
  ·subst he
   cases hro : rightO 1 t a t a p c d (strOfNums n) [].length
   ·have HRO := Aside0.mk hro
    have HEE : Aside0 (readE t a l = 4) := ⟨by unfold readE; rw [HRR.out]; dsimp only; rw [HE0.out, hro]; simp⟩
    clear hro
    go_wp2_with (first
     | ((with_reducible refine gate_dst (N := 21) rfl ?_); go_must (((try (refine gate_guard (by rfl) ?_; dsimp only)); refine goesL_ (some 21) rfl rfl Try.func30 (by kernel_rfl) rfl #[.pointer (some ⟨gr, 0, none⟩)] rfl ?hA ?_; (case hA => ((try simp only [List.map_toArray, List.map_cons, List.map_nil]); first | done | rfl)); refine (sget_calls gr l1 k1 w _ (by exact HI.out.rdr) (by exact HI.out.below)).mono ?_; rw [G1.out]; rintro e wx0 ⟨rfl, hr, hs⟩; refine ⟨_, rfl, ?_⟩; replace HI := Aside0.mk (HI.out.call hr hs); replace c5 : wx0.cell? ⟨g7, 5, none⟩ = some (.int .i64 0) := (blk_cell HI.out.h7 5).trans rfl; replace f5 := HI.out.f7 5; replace c6 : wx0.cell? ⟨g7, 6, none⟩ = some (.int .i64 0) := (blk_cell HI.out.h7 6).trans rfl; replace f6 := HI.out.f7 6; clear hr hs)))
     | ((with_reducible refine gate_dst (N := 24) rfl ?_); go_must (((try (refine gate_guard (by rfl) ?_; dsimp only)); refine goesL_ (some 24) rfl rfl Try.func31 (by kernel_rfl) rfl #[.pointer (some ⟨gr, 0, none⟩)] rfl ?hA ?_; (case hA => ((try simp only [List.map_toArray, List.map_cons, List.map_nil]); first | done | rfl)); refine (rbool_calls gr l2 k2 w _ (by exact (((HI.out.set 5 (.int .i64 p)).set 6 (.int .i64 c)).eq (cs' := #[.int .i64 1, .int .i64 t, .int .i64 a, .int .i64 t, .int .i64 a, .int .i64 p, .int .i64 c, .bool false, .string { data := #[] }, .slice none 0 0]) (by simp)).rdr) (by exact (((HI.out.set 5 (.int .i64 p)).set 6 (.int .i64 c)).eq (cs' := #[.int .i64 1, .int .i64 t, .int .i64 a, .int .i64 t, .int .i64 a, .int .i64 p, .int .i64 c, .bool false, .string { data := #[] }, .slice none 0 0]) (by simp)).below)).mono ?_; rw [G2.out]; rintro e wx1 ⟨rfl, hr, hs⟩; refine ⟨_, rfl, ?_⟩; replace HI := Aside0.mk ((((HI.out.set 5 (.int .i64 p)).set 6 (.int .i64 c)).eq (cs' := #[.int .i64 1, .int .i64 t, .int .i64 a, .int .i64 t, .int .i64 a, .int .i64 p, .int .i64 c, .bool false, .string { data := #[] }, .slice none 0 0]) (by simp)).call hr hs); replace c7 : wx1.cell? ⟨g7, 7, none⟩ = some (.bool false) := (blk_cell HI.out.h7 7).trans rfl; replace f7 := HI.out.f7 7; clear hr hs)))
     | ((with_reducible refine gate_dst (N := 27) rfl ?_); go_must (((try (refine gate_guard (by rfl) ?_; dsimp only)); refine goesL_ (some 27) rfl rfl Try.func32 (by kernel_rfl) rfl #[.pointer (some ⟨gr, 0, none⟩), .int .i64 24] rfl ?hA ?_; (case hA => ((try simp only [List.map_toArray, List.map_cons, List.map_nil]); first | done | rfl)); refine (rtext_calls gr 24 l3 k3 w _ (by exact ((HI.out.set 7 (.bool d)).eq (cs' := #[.int .i64 1, .int .i64 t, .int .i64 a, .int .i64 t, .int .i64 a, .int .i64 p, .int .i64 c, .bool d, .string { data := #[] }, .slice none 0 0]) (by simp)).rdr) (by exact ((HI.out.set 7 (.bool d)).eq (cs' := #[.int .i64 1, .int .i64 t, .int .i64 a, .int .i64 t, .int .i64 a, .int .i64 p, .int .i64 c, .bool d, .string { data := #[] }, .slice none 0 0]) (by simp)).below)).mono ?_; rw [G3.out]; rintro e wx2 ⟨rfl, hr, hs⟩; refine ⟨_, rfl, ?_⟩; replace HI := Aside0.mk (((HI.out.set 7 (.bool d)).eq (cs' := #[.int .i64 1, .int .i64 t, .int .i64 a, .int .i64 t, .int .i64 a, .int .i64 p, .int .i64 c, .bool d, .string { data := #[] }, .slice none 0 0]) (by simp)).call hr hs); replace c8 : wx2.cell? ⟨g7, 8, none⟩ = some (.string { data := #[] }) := (blk_cell HI.out.h7 8).trans rfl; replace f8 := HI.out.f7 8; clear hr hs)))
     | ((with_reducible refine gate_dst (N := 54) rfl ?_); go_must (((try (refine gate_guard (by rfl) ?_; dsimp only)); refine goesL_ (some 54) rfl rfl Try.func34 (by kernel_rfl) rfl #[.pointer (some ⟨gr, 0, none⟩)] rfl ?hA ?_; (case hA => ((try simp only [List.map_toArray, List.map_cons, List.map_nil]); first | done | rfl)); refine (done_calls gr l4 k4 w _ (by exact ((HI.out.set 8 (.string (strOfNums n))).eq (cs' := #[.int .i64 1, .int .i64 t, .int .i64 a, .int .i64 t, .int .i64 a, .int .i64 p, .int .i64 c, .bool d, .string (strOfNums n), .slice none 0 0]) (by simp)).rdr)).mono ?_; rw [HE0.out]; rintro e wd ⟨rfl, hd⟩; refine ⟨_, rfl, ?_⟩; replace HI := Aside0.mk (((HI.out.set 8 (.string (strOfNums n))).eq (cs' := #[.int .i64 1, .int .i64 t, .int .i64 a, .int .i64 t, .int .i64 a, .int .i64 p, .int .i64 c, .bool d, .string (strOfNums n), .slice none 0 0]) (by simp)).below' hd.below); clear z0 z1 z2 z3 z4 z5 z6 z7 z8 z9 y0 y1 y2 y3 y4 y5 y6 y7 y8 y9; obtain ⟨z0, z1, z2, z3, z4, z5, z6, z7, z8, z9⟩ := cells10 HI.out.h4; obtain ⟨y0, y1, y2, y3, y4, y5, y6, y7, y8, y9⟩ := froz10 HI.out.h4; clear c0 c1 c2 c3 c4 c5 c6 c7 c8 c9; obtain ⟨c0, c1, c2, c3, c4, c5, c6, c7, c8, c9⟩ := cells10 HI.out.h7; clear hd)))
     | ((with_reducible refine gate_dst (N := 60) rfl ?_); go_must (((try (refine gate_guard (by rfl) ?_; dsimp only)); refine goesL_ (some 60) rfl rfl Try.func25 (by kernel_rfl) rfl #[.agg #[.int .i64 1, .int .i64 t, .int .i64 a, .int .i64 t, .int .i64 a, .int .i64 p, .int .i64 c, .bool d, .string (strOfNums n), (.slice none 0 0)]] rfl ?hA ?_; (case hA => ((try simp only [List.map_toArray, List.map_cons, List.map_nil]); first | done | rfl)); refine (oright_calls _ _ _ _ _ _ _ _ _ _ [] _ (Rd.nil _)).mono ?_; rw [HRO.out]; rintro e wr ⟨rfl, hb⟩; refine ⟨_, rfl, ?_⟩; replace HI := Aside0.mk (HI.out.below' hb); clear z0 z1 z2 z3 z4 z5 z6 z7 z8 z9 y0 y1 y2 y3 y4 y5 y6 y7 y8 y9; obtain ⟨z0, z1, z2, z3, z4, z5, z6, z7, z8, z9⟩ := cells10 HI.out.h4; obtain ⟨y0, y1, y2, y3, y4, y5, y6, y7, y8, y9⟩ := froz10 HI.out.h4; clear c0 c1 c2 c3 c4 c5 c6 c7 c8 c9; obtain ⟨c0, c1, c2, c3, c4, c5, c6, c7, c8, c9⟩ := cells10 HI.out.h7; clear hb))))
    have h4 := blk_set10 HI.out.h4 (.int .i64 0) (.int .i64 0) (.int .i64 0) (.int .i64 0) (.int .i64 0) (.int .i64 0) (.int .i64 0) (.bool false) (.string { data := #[] }) (.slice none 0 0)
    obtain ⟨q0, q1, q2, q3, q4, q5, q6, q7, q8, q9⟩ := cells10 h4
    exact bodyPost_ret (v := .tuple #[.agg #[.int .i64 0, .int .i64 0, .int .i64 0, .int .i64 0, .int .i64 0, .int .i64 0, .int .i64 0, .bool false, .string { data := #[] }, .slice none 0 0], .int .i64 4]) (by simp [results, Try.results15, go_sem, q0, q1, q2, q3, q4, q5, q6, q7, q8, q9]) rfl ⟨fun h => absurd (h.symm.trans HEE.out) (by decide), fun _ => by rw [HEE.out], (below_set10 HI.out.below HI.out.n4 (.int .i64 0) (.int .i64 0) (.int .i64 0) (.int .i64 0) (.int .i64 0) (.int .i64 0) (.int .i64 0) (.bool false) (.string { data := #[] }) (.slice none 0 0))⟩
   ·have HRO := Aside0.mk hro
    have HEE : Aside0 (readE t a l = 0) := ⟨by unfold readE; rw [HRR.out]; dsimp only; rw [HE0.out, hro]; simp⟩
    clear hro
    go_wp2_with (first
     | ((with_reducible refine gate_dst (N := 21) rfl ?_); go_must (((try (refine gate_guard (by rfl) ?_; dsimp only)); refine goesL_ (some 21) rfl rfl Try.func30 (by kernel_rfl) rfl #[.pointer (some ⟨gr, 0, none⟩)] rfl ?hA ?_; (case hA => ((try simp only [List.map_toArray, List.map_cons, List.map_nil]); first | done | rfl)); refine (sget_calls gr l1 k1 w _ (by exact HI.out.rdr) (by exact HI.out.below)).mono ?_; rw [G1.out]; rintro e wx0 ⟨rfl, hr, hs⟩; refine ⟨_, rfl, ?_⟩; replace HI := Aside0.mk (HI.out.call hr hs); replace c5 : wx0.cell? ⟨g7, 5, none⟩ = some (.int .i64 0) := (blk_cell HI.out.h7 5).trans rfl; replace f5 := HI.out.f7 5; replace c6 : wx0.cell? ⟨g7, 6, none⟩ = some (.int .i64 0) := (blk_cell HI.out.h7 6).trans rfl; replace f6 := HI.out.f7 6; clear hr hs)))
     | ((with_reducible refine gate_dst (N := 24) rfl ?_); go_must (((try (refine gate_guard (by rfl) ?_; dsimp only)); refine goesL_ (some 24) rfl rfl Try.func31 (by kernel_rfl) rfl #[.pointer (some ⟨gr, 0, none⟩)] rfl ?hA ?_; (case hA => ((try simp only [List.map_toArray, List.map_cons, List.map_nil]); first | done | rfl)); refine (rbool_calls gr l2 k2 w _ (by exact (((HI.out.set 5 (.int .i64 p)).set 6 (.int .i64 c)).eq (cs' := #[.int .i64 1, .int .i64 t, .int .i64 a, .int .i64 t, .int .i64 a, .int .i64 p, .int .i64 c, .bool false, .string { data := #[] }, .slice none 0 0]) (by simp)).rdr) (by exact (((HI.out.set 5 (.int .i64 p)).set 6 (.int .i64 c)).eq (cs' := #[.int .i64 1, .int .i64 t, .int .i64 a, .int .i64 t, .int .i64 a, .int .i64 p, .int .i64 c, .bool false, .string { data := #[] }, .slice none 0 0]) (by simp)).below)).mono ?_; rw [G2.out]; rintro e wx1 ⟨rfl, hr, hs⟩; refine ⟨_, rfl, ?_⟩; replace HI := Aside0.mk ((((HI.out.set 5 (.int .i64 p)).set 6 (.int .i64 c)).eq (cs' := #[.int .i64 1, .int .i64 t, .int .i64 a, .int .i64 t, .int .i64 a, .int .i64 p, .int .i64 c, .bool false, .string { data := #[] }, .slice none 0 0]) (by simp)).call hr hs); replace c7 : wx1.cell? ⟨g7, 7, none⟩ = some (.bool false) := (blk_cell HI.out.h7 7).trans rfl; replace f7 := HI.out.f7 7; clear hr hs)))
     | ((with_reducible refine gate_dst (N := 27) rfl ?_); go_must (((try (refine gate_guard (by rfl) ?_; dsimp only)); refine goesL_ (some 27) rfl rfl Try.func32 (by kernel_rfl) rfl #[.pointer (some ⟨gr, 0, none⟩), .int .i64 24] rfl ?hA ?_; (case hA => ((try simp only [List.map_toArray, List.map_cons, List.map_nil]); first | done | rfl)); refine (rtext_calls gr 24 l3 k3 w _ (by exact ((HI.out.set 7 (.bool d)).eq (cs' := #[.int .i64 1, .int .i64 t, .int .i64 a, .int .i64 t, .int .i64 a, .int .i64 p, .int .i64 c, .bool d, .string { data := #[] }, .slice none 0 0]) (by simp)).rdr) (by exact ((HI.out.set 7 (.bool d)).eq (cs' := #[.int .i64 1, .int .i64 t, .int .i64 a, .int .i64 t, .int .i64 a, .int .i64 p, .int .i64 c, .bool d, .string { data := #[] }, .slice none 0 0]) (by simp)).below)).mono ?_; rw [G3.out]; rintro e wx2 ⟨rfl, hr, hs⟩; refine ⟨_, rfl, ?_⟩; replace HI := Aside0.mk (((HI.out.set 7 (.bool d)).eq (cs' := #[.int .i64 1, .int .i64 t, .int .i64 a, .int .i64 t, .int .i64 a, .int .i64 p, .int .i64 c, .bool d, .string { data := #[] }, .slice none 0 0]) (by simp)).call hr hs); replace c8 : wx2.cell? ⟨g7, 8, none⟩ = some (.string { data := #[] }) := (blk_cell HI.out.h7 8).trans rfl; replace f8 := HI.out.f7 8; clear hr hs)))
     | ((with_reducible refine gate_dst (N := 54) rfl ?_); go_must (((try (refine gate_guard (by rfl) ?_; dsimp only)); refine goesL_ (some 54) rfl rfl Try.func34 (by kernel_rfl) rfl #[.pointer (some ⟨gr, 0, none⟩)] rfl ?hA ?_; (case hA => ((try simp only [List.map_toArray, List.map_cons, List.map_nil]); first | done | rfl)); refine (done_calls gr l4 k4 w _ (by exact ((HI.out.set 8 (.string (strOfNums n))).eq (cs' := #[.int .i64 1, .int .i64 t, .int .i64 a, .int .i64 t, .int .i64 a, .int .i64 p, .int .i64 c, .bool d, .string (strOfNums n), .slice none 0 0]) (by simp)).rdr)).mono ?_; rw [HE0.out]; rintro e wd ⟨rfl, hd⟩; refine ⟨_, rfl, ?_⟩; replace HI := Aside0.mk (((HI.out.set 8 (.string (strOfNums n))).eq (cs' := #[.int .i64 1, .int .i64 t, .int .i64 a, .int .i64 t, .int .i64 a, .int .i64 p, .int .i64 c, .bool d, .string (strOfNums n), .slice none 0 0]) (by simp)).below' hd.below); clear z0 z1 z2 z3 z4 z5 z6 z7 z8 z9 y0 y1 y2 y3 y4 y5 y6 y7 y8 y9; obtain ⟨z0, z1, z2, z3, z4, z5, z6, z7, z8, z9⟩ := cells10 HI.out.h4; obtain ⟨y0, y1, y2, y3, y4, y5, y6, y7, y8, y9⟩ := froz10 HI.out.h4; clear c0 c1 c2 c3 c4 c5 c6 c7 c8 c9; obtain ⟨c0, c1, c2, c3, c4, c5, c6, c7, c8, c9⟩ := cells10 HI.out.h7; clear hd)))
     | ((with_reducible refine gate_dst (N := 60) rfl ?_); go_must (((try (refine gate_guard (by rfl) ?_; dsimp only)); refine goesL_ (some 60) rfl rfl Try.func25 (by kernel_rfl) rfl #[.agg #[.int .i64 1, .int .i64 t, .int .i64 a, .int .i64 t, .int .i64 a, .int .i64 p, .int .i64 c, .bool d, .string (strOfNums n), (.slice none 0 0)]] rfl ?hA ?_; (case hA => ((try simp only [List.map_toArray, List.map_cons, List.map_nil]); first | done | rfl)); refine (oright_calls _ _ _ _ _ _ _ _ _ _ [] _ (Rd.nil _)).mono ?_; rw [HRO.out]; rintro e wr ⟨rfl, hb⟩; refine ⟨_, rfl, ?_⟩; replace HI := Aside0.mk (HI.out.below' hb); clear z0 z1 z2 z3 z4 z5 z6 z7 z8 z9 y0 y1 y2 y3 y4 y5 y6 y7 y8 y9; obtain ⟨z0, z1, z2, z3, z4, z5, z6, z7, z8, z9⟩ := cells10 HI.out.h4; obtain ⟨y0, y1, y2, y3, y4, y5, y6, y7, y8, y9⟩ := froz10 HI.out.h4; clear c0 c1 c2 c3 c4 c5 c6 c7 c8 c9; obtain ⟨c0, c1, c2, c3, c4, c5, c6, c7, c8, c9⟩ := cells10 HI.out.h7; clear hb))))
    have h4 := blk_set10 HI.out.h4 (.int .i64 1) (.int .i64 t) (.int .i64 a) (.int .i64 t) (.int .i64 a) (.int .i64 p) (.int .i64 c) (.bool d) (.string (strOfNums n)) (.slice none 0 0)
    obtain ⟨q0, q1, q2, q3, q4, q5, q6, q7, q8, q9⟩ := cells10 h4
    exact bodyPost_ret (v := .tuple #[.agg #[.int .i64 1, .int .i64 t, .int .i64 a, .int .i64 t, .int .i64 a, .int .i64 p, .int .i64 c, .bool d, .string (strOfNums n), .slice none 0 0], .int .i64 0]) (by simp [results, Try.results15, go_sem, q0, q1, q2, q3, q4, q5, q6, q7, q8, q9]) rfl ⟨fun _ => ⟨_, by rw [HRR.out], by rw [HRR.out]; exact Rd.nil _⟩, fun h => absurd HEE.out h, (below_set10 HI.out.below HI.out.n4 (.int .i64 1) (.int .i64 t) (.int .i64 a) (.int .i64 t) (.int .i64 a) (.int .i64 p) (.int .i64 c) (.bool d) (.string (strOfNums n)) (.slice none 0 0))⟩
  ·have heb : (e0 != 0) = true := by simpa using he
   have HEE : Aside0 (readE t a l = e0) := ⟨by unfold readE; rw [HRR.out]; dsimp only; rw [HE0.out, if_pos he]⟩
   go_wp2_with (first
    | ((with_reducible refine gate_dst (N := 21) rfl ?_); go_must (((try (refine gate_guard (by rfl) ?_; dsimp only)); refine goesL_ (some 21) rfl rfl Try.func30 (by kernel_rfl) rfl #[.pointer (some ⟨gr, 0, none⟩)] rfl ?hA ?_; (case hA => ((try simp only [List.map_toArray, List.map_cons, List.map_nil]); first | done | rfl)); refine (sget_calls gr l1 k1 w _ (by exact HI.out.rdr) (by exact HI.out.below)).mono ?_; rw [G1.out]; rintro e wx0 ⟨rfl, hr, hs⟩; refine ⟨_, rfl, ?_⟩; replace HI := Aside0.mk (HI.out.call hr hs); replace c5 : wx0.cell? ⟨g7, 5, none⟩ = some (.int .i64 0) := (blk_cell HI.out.h7 5).trans rfl; replace f5 := HI.out.f7 5; replace c6 : wx0.cell? ⟨g7, 6, none⟩ = some (.int .i64 0) := (blk_cell HI.out.h7 6).trans rfl; replace f6 := HI.out.f7 6; clear hr hs)))
    | ((with_reducible refine gate_dst (N := 24) rfl ?_); go_must (((try (refine gate_guard (by rfl) ?_; dsimp only)); refine goesL_ (some 24) rfl rfl Try.func31 (by kernel_rfl) rfl #[.pointer (some ⟨gr, 0, none⟩)] rfl ?hA ?_; (case hA => ((try simp only [List.map_toArray, List.map_cons, List.map_nil]); first | done | rfl)); refine (rbool_calls gr l2 k2 w _ (by exact (((HI.out.set 5 (.int .i64 p)).set 6 (.int .i64 c)).eq (cs' := #[.int .i64 1, .int .i64 t, .int .i64 a, .int .i64 t, .int .i64 a, .int .i64 p, .int .i64 c, .bool false, .string { data := #[] }, .slice none 0 0]) (by simp)).rdr) (by exact (((HI.out.set 5 (.int .i64 p)).set 6 (.int .i64 c)).eq (cs' := #[.int .i64 1, .int .i64 t, .int .i64 a, .int .i64 t, .int .i64 a, .int .i64 p, .int .i64 c, .bool false, .string { data := #[] }, .slice none 0 0]) (by simp)).below)).mono ?_; rw [G2.out]; rintro e wx1 ⟨rfl, hr, hs⟩; refine ⟨_, rfl, ?_⟩; replace HI := Aside0.mk ((((HI.out.set 5 (.int .i64 p)).set 6 (.int .i64 c)).eq (cs' := #[.int .i64 1, .int .i64 t, .int .i64 a, .int .i64 t, .int .i64 a, .int .i64 p, .int .i64 c, .bool false, .string { data := #[] }, .slice none 0 0]) (by simp)).call hr hs); replace c7 : wx1.cell? ⟨g7, 7, none⟩ = some (.bool false) := (blk_cell HI.out.h7 7).trans rfl; replace f7 := HI.out.f7 7; clear hr hs)))
    | ((with_reducible refine gate_dst (N := 27) rfl ?_); go_must (((try (refine gate_guard (by rfl) ?_; dsimp only)); refine goesL_ (some 27) rfl rfl Try.func32 (by kernel_rfl) rfl #[.pointer (some ⟨gr, 0, none⟩), .int .i64 24] rfl ?hA ?_; (case hA => ((try simp only [List.map_toArray, List.map_cons, List.map_nil]); first | done | rfl)); refine (rtext_calls gr 24 l3 k3 w _ (by exact ((HI.out.set 7 (.bool d)).eq (cs' := #[.int .i64 1, .int .i64 t, .int .i64 a, .int .i64 t, .int .i64 a, .int .i64 p, .int .i64 c, .bool d, .string { data := #[] }, .slice none 0 0]) (by simp)).rdr) (by exact ((HI.out.set 7 (.bool d)).eq (cs' := #[.int .i64 1, .int .i64 t, .int .i64 a, .int .i64 t, .int .i64 a, .int .i64 p, .int .i64 c, .bool d, .string { data := #[] }, .slice none 0 0]) (by simp)).below)).mono ?_; rw [G3.out]; rintro e wx2 ⟨rfl, hr, hs⟩; refine ⟨_, rfl, ?_⟩; replace HI := Aside0.mk (((HI.out.set 7 (.bool d)).eq (cs' := #[.int .i64 1, .int .i64 t, .int .i64 a, .int .i64 t, .int .i64 a, .int .i64 p, .int .i64 c, .bool d, .string { data := #[] }, .slice none 0 0]) (by simp)).call hr hs); replace c8 : wx2.cell? ⟨g7, 8, none⟩ = some (.string { data := #[] }) := (blk_cell HI.out.h7 8).trans rfl; replace f8 := HI.out.f7 8; clear hr hs)))
    | ((with_reducible refine gate_dst (N := 54) rfl ?_); go_must (((try (refine gate_guard (by rfl) ?_; dsimp only)); refine goesL_ (some 54) rfl rfl Try.func34 (by kernel_rfl) rfl #[.pointer (some ⟨gr, 0, none⟩)] rfl ?hA ?_; (case hA => ((try simp only [List.map_toArray, List.map_cons, List.map_nil]); first | done | rfl)); refine (done_calls gr l4 k4 w _ (by exact ((HI.out.set 8 (.string (strOfNums n))).eq (cs' := #[.int .i64 1, .int .i64 t, .int .i64 a, .int .i64 t, .int .i64 a, .int .i64 p, .int .i64 c, .bool d, .string (strOfNums n), .slice none 0 0]) (by simp)).rdr)).mono ?_; rw [HE0.out]; rintro e wd ⟨rfl, hd⟩; refine ⟨_, rfl, ?_⟩; replace HI := Aside0.mk (((HI.out.set 8 (.string (strOfNums n))).eq (cs' := #[.int .i64 1, .int .i64 t, .int .i64 a, .int .i64 t, .int .i64 a, .int .i64 p, .int .i64 c, .bool d, .string (strOfNums n), .slice none 0 0]) (by simp)).below' hd.below); clear z0 z1 z2 z3 z4 z5 z6 z7 z8 z9 y0 y1 y2 y3 y4 y5 y6 y7 y8 y9; obtain ⟨z0, z1, z2, z3, z4, z5, z6, z7, z8, z9⟩ := cells10 HI.out.h4; obtain ⟨y0, y1, y2, y3, y4, y5, y6, y7, y8, y9⟩ := froz10 HI.out.h4; clear c0 c1 c2 c3 c4 c5 c6 c7 c8 c9; obtain ⟨c0, c1, c2, c3, c4, c5, c6, c7, c8, c9⟩ := cells10 HI.out.h7; clear hd))))
   have h4 := blk_set10 HI.out.h4 (.int .i64 0) (.int .i64 0) (.int .i64 0) (.int .i64 0) (.int .i64 0) (.int .i64 0) (.int .i64 0) (.bool false) (.string { data := #[] }) (.slice none 0 0)
   obtain ⟨q0, q1, q2, q3, q4, q5, q6, q7, q8, q9⟩ := cells10 h4
   exact bodyPost_ret (v := .tuple #[.agg #[.int .i64 0, .int .i64 0, .int .i64 0, .int .i64 0, .int .i64 0, .int .i64 0, .int .i64 0, .bool false, .string { data := #[] }, .slice none 0 0], .int .i64 e0]) (by simp [results, Try.results15, go_sem, q0, q1, q2, q3, q4, q5, q6, q7, q8, q9]) rfl ⟨fun h => absurd (HEE.out.symm.trans h) he, fun _ => by rw [HEE.out], (below_set10 HI.out.below HI.out.n4 (.int .i64 0) (.int .i64 0) (.int .i64 0) (.int .i64 0) (.int .i64 0) (.int .i64 0) (.int .i64 0) (.bool false) (.string { data := #[] }) (.slice none 0 0))⟩
 have m1 : (k == 1) = false := by simpa using n1
 by_cases n2 : k = 2
 ·subst n2
  obtain ⟨u, b, l2, k2, hG1⟩ : ∃ u b l2 k2, getS l1 k1 = (u, b, l2, k2) := ⟨_, _, _, _, rfl⟩
  have G1 := Aside0.mk hG1
  obtain ⟨p, c, l3, k3, hG2⟩ : ∃ p c l3 k3, getS l2 k2 = (p, c, l3, k3) := ⟨_, _, _, _, rfl⟩
  have G2 := Aside0.mk hG2
  obtain ⟨n, l4, k4, hG3⟩ : ∃ n l4 k4, bytesR 24 l3 k3 = (n, l4, k4) := ⟨_, _, _, rfl⟩
  have G3 := Aside0.mk hG3
  have HRR : Aside0 (readR t a l = ⟨2, u, b, p, c, false, strOfNums n, [], l4, k4⟩) := ⟨by unfold readR; rw [HK.out]; simp only [readK, if_true, if_false, hG1, hG2, hG3, show ((2 : Int) = 1) = False from by decide]⟩
  clear hG1
  clear hG2
  clear hG3
  obtain ⟨e0, he0⟩ : ∃ e0, doneR l4 k4 = e0 := ⟨_, rfl⟩
  have HE0 := Aside0.mk he0
  clear he0
  by_cases he : e0 = 0
  ·subst he
   cases hro : rightO 2 t a u b p c false (strOfNums n) [].length
   ·have HRO := Aside0.mk hro
    have HEE : Aside0 (readE t a l = 4) := ⟨by unfold readE; rw [HRR.out]; dsimp only; rw [HE0.out, hro]; simp⟩
    clear hro
    go_wp2_with (first
     | ((with_reducible refine gate_dst (N := 32) rfl ?_); go_must (((try (refine gate_guard (by rfl) ?_; dsimp only)); refine goesL_ (some 32) rfl rfl Try.func30 (by kernel_rfl) rfl #[.pointer (some ⟨gr, 0, none⟩)] rfl ?hA ?_; (case hA => ((try simp only [List.map_toArray, List.map_cons, List.map_nil]); first | done | rfl)); refine (sget_calls gr l1 k1 w _ (by exact HI.out.rdr) (by exact HI.out.below)).mono ?_; rw [G1.out]; rintro e wx0 ⟨rfl, hr, hs⟩; refine ⟨_, rfl, ?_⟩; replace HI := Aside0.mk (HI.out.call hr hs); replace c3 : wx0.cell? ⟨g7, 3, none⟩ = some (.int .i64 t) := (blk_cell HI.out.h7 3).trans rfl; replace f3 := HI.out.f7 3; replace c4 : wx0.cell? ⟨g7, 4, none⟩ = some (.int .i64 a) := (blk_cell HI.out.h7 4).trans rfl; replace f4 := HI.out.f7 4; clear hr hs)))
     | ((with_reducible refine gate_dst (N := 35) rfl ?_); go_must (((try (refine gate_guard (by rfl) ?_; dsimp only)); refine goesL_ (some 35) rfl rfl Try.func30 (by kernel_rfl) rfl #[.pointer (some ⟨gr, 0, none⟩)] rfl ?hA ?_; (case hA => ((try simp only [List.map_toArray, List.map_cons, List.map_nil]); first | done | rfl)); refine (sget_calls gr l2 k2 w _ (by exact (((HI.out.set 3 (.int .i64 u)).set 4 (.int .i64 b)).eq (cs' := #[.int .i64 2, .int .i64 t, .int .i64 a, .int .i64 u, .int .i64 b, .int .i64 0, .int .i64 0, .bool false, .string { data := #[] }, .slice none 0 0]) (by simp)).rdr) (by exact (((HI.out.set 3 (.int .i64 u)).set 4 (.int .i64 b)).eq (cs' := #[.int .i64 2, .int .i64 t, .int .i64 a, .int .i64 u, .int .i64 b, .int .i64 0, .int .i64 0, .bool false, .string { data := #[] }, .slice none 0 0]) (by simp)).below)).mono ?_; rw [G2.out]; rintro e wx1 ⟨rfl, hr, hs⟩; refine ⟨_, rfl, ?_⟩; replace HI := Aside0.mk ((((HI.out.set 3 (.int .i64 u)).set 4 (.int .i64 b)).eq (cs' := #[.int .i64 2, .int .i64 t, .int .i64 a, .int .i64 u, .int .i64 b, .int .i64 0, .int .i64 0, .bool false, .string { data := #[] }, .slice none 0 0]) (by simp)).call hr hs); replace c5 : wx1.cell? ⟨g7, 5, none⟩ = some (.int .i64 0) := (blk_cell HI.out.h7 5).trans rfl; replace f5 := HI.out.f7 5; replace c6 : wx1.cell? ⟨g7, 6, none⟩ = some (.int .i64 0) := (blk_cell HI.out.h7 6).trans rfl; replace f6 := HI.out.f7 6; clear hr hs)))
     | ((with_reducible refine gate_dst (N := 38) rfl ?_); go_must (((try (refine gate_guard (by rfl) ?_; dsimp only)); refine goesL_ (some 38) rfl rfl Try.func32 (by kernel_rfl) rfl #[.pointer (some ⟨gr, 0, none⟩), .int .i64 24] rfl ?hA ?_; (case hA => ((try simp only [List.map_toArray, List.map_cons, List.map_nil]); first | done | rfl)); refine (rtext_calls gr 24 l3 k3 w _ (by exact (((HI.out.set 5 (.int .i64 p)).set 6 (.int .i64 c)).eq (cs' := #[.int .i64 2, .int .i64 t, .int .i64 a, .int .i64 u, .int .i64 b, .int .i64 p, .int .i64 c, .bool false, .string { data := #[] }, .slice none 0 0]) (by simp)).rdr) (by exact (((HI.out.set 5 (.int .i64 p)).set 6 (.int .i64 c)).eq (cs' := #[.int .i64 2, .int .i64 t, .int .i64 a, .int .i64 u, .int .i64 b, .int .i64 p, .int .i64 c, .bool false, .string { data := #[] }, .slice none 0 0]) (by simp)).below)).mono ?_; rw [G3.out]; rintro e wx2 ⟨rfl, hr, hs⟩; refine ⟨_, rfl, ?_⟩; replace HI := Aside0.mk ((((HI.out.set 5 (.int .i64 p)).set 6 (.int .i64 c)).eq (cs' := #[.int .i64 2, .int .i64 t, .int .i64 a, .int .i64 u, .int .i64 b, .int .i64 p, .int .i64 c, .bool false, .string { data := #[] }, .slice none 0 0]) (by simp)).call hr hs); replace c8 : wx2.cell? ⟨g7, 8, none⟩ = some (.string { data := #[] }) := (blk_cell HI.out.h7 8).trans rfl; replace f8 := HI.out.f7 8; clear hr hs)))
     | ((with_reducible refine gate_dst (N := 54) rfl ?_); go_must (((try (refine gate_guard (by rfl) ?_; dsimp only)); refine goesL_ (some 54) rfl rfl Try.func34 (by kernel_rfl) rfl #[.pointer (some ⟨gr, 0, none⟩)] rfl ?hA ?_; (case hA => ((try simp only [List.map_toArray, List.map_cons, List.map_nil]); first | done | rfl)); refine (done_calls gr l4 k4 w _ (by exact ((HI.out.set 8 (.string (strOfNums n))).eq (cs' := #[.int .i64 2, .int .i64 t, .int .i64 a, .int .i64 u, .int .i64 b, .int .i64 p, .int .i64 c, .bool false, .string (strOfNums n), .slice none 0 0]) (by simp)).rdr)).mono ?_; rw [HE0.out]; rintro e wd ⟨rfl, hd⟩; refine ⟨_, rfl, ?_⟩; replace HI := Aside0.mk (((HI.out.set 8 (.string (strOfNums n))).eq (cs' := #[.int .i64 2, .int .i64 t, .int .i64 a, .int .i64 u, .int .i64 b, .int .i64 p, .int .i64 c, .bool false, .string (strOfNums n), .slice none 0 0]) (by simp)).below' hd.below); clear z0 z1 z2 z3 z4 z5 z6 z7 z8 z9 y0 y1 y2 y3 y4 y5 y6 y7 y8 y9; obtain ⟨z0, z1, z2, z3, z4, z5, z6, z7, z8, z9⟩ := cells10 HI.out.h4; obtain ⟨y0, y1, y2, y3, y4, y5, y6, y7, y8, y9⟩ := froz10 HI.out.h4; clear c0 c1 c2 c3 c4 c5 c6 c7 c8 c9; obtain ⟨c0, c1, c2, c3, c4, c5, c6, c7, c8, c9⟩ := cells10 HI.out.h7; clear hd)))
     | ((with_reducible refine gate_dst (N := 60) rfl ?_); go_must (((try (refine gate_guard (by rfl) ?_; dsimp only)); refine goesL_ (some 60) rfl rfl Try.func25 (by kernel_rfl) rfl #[.agg #[.int .i64 2, .int .i64 t, .int .i64 a, .int .i64 u, .int .i64 b, .int .i64 p, .int .i64 c, .bool false, .string (strOfNums n), (.slice none 0 0)]] rfl ?hA ?_; (case hA => ((try simp only [List.map_toArray, List.map_cons, List.map_nil]); first | done | rfl)); refine (oright_calls _ _ _ _ _ _ _ _ _ _ [] _ (Rd.nil _)).mono ?_; rw [HRO.out]; rintro e wr ⟨rfl, hb⟩; refine ⟨_, rfl, ?_⟩; replace HI := Aside0.mk (HI.out.below' hb); clear z0 z1 z2 z3 z4 z5 z6 z7 z8 z9 y0 y1 y2 y3 y4 y5 y6 y7 y8 y9; obtain ⟨z0, z1, z2, z3, z4, z5, z6, z7, z8, z9⟩ := cells10 HI.out.h4; obtain ⟨y0, y1, y2, y3, y4, y5, y6, y7, y8, y9⟩ := froz10 HI.out.h4; clear c0 c1 c2 c3 c4 c5 c6 c7 c8 c9; obtain ⟨c0, c1, c2, c3, c4, c5, c6, c7, c8, c9⟩ := cells10 HI.out.h7; clear hb))))
    have h4 := blk_set10 HI.out.h4 (.int .i64 0) (.int .i64 0) (.int .i64 0) (.int .i64 0) (.int .i64 0) (.int .i64 0) (.int .i64 0) (.bool false) (.string { data := #[] }) (.slice none 0 0)
    obtain ⟨q0, q1, q2, q3, q4, q5, q6, q7, q8, q9⟩ := cells10 h4
    exact bodyPost_ret (v := .tuple #[.agg #[.int .i64 0, .int .i64 0, .int .i64 0, .int .i64 0, .int .i64 0, .int .i64 0, .int .i64 0, .bool false, .string { data := #[] }, .slice none 0 0], .int .i64 4]) (by simp [results, Try.results15, go_sem, q0, q1, q2, q3, q4, q5, q6, q7, q8, q9]) rfl ⟨fun h => absurd (h.symm.trans HEE.out) (by decide), fun _ => by rw [HEE.out], (below_set10 HI.out.below HI.out.n4 (.int .i64 0) (.int .i64 0) (.int .i64 0) (.int .i64 0) (.int .i64 0) (.int .i64 0) (.int .i64 0) (.bool false) (.string { data := #[] }) (.slice none 0 0))⟩
   ·have HRO := Aside0.mk hro
    have HEE : Aside0 (readE t a l = 0) := ⟨by unfold readE; rw [HRR.out]; dsimp only; rw [HE0.out, hro]; simp⟩
    clear hro
    go_wp2_with (first
     | ((with_reducible refine gate_dst (N := 32) rfl ?_); go_must (((try (refine gate_guard (by rfl) ?_; dsimp only)); refine goesL_ (some 32) rfl rfl Try.func30 (by kernel_rfl) rfl #[.pointer (some ⟨gr, 0, none⟩)] rfl ?hA ?_; (case hA => ((try simp only [List.map_toArray, List.map_cons, List.map_nil]); first | done | rfl)); refine (sget_calls gr l1 k1 w _ (by exact HI.out.rdr) (by exact HI.out.below)).mono ?_; rw [G1.out]; rintro e wx0 ⟨rfl, hr, hs⟩; refine ⟨_, rfl, ?_⟩; replace HI := Aside0.mk (HI.out.call hr hs); replace c3 : wx0.cell? ⟨g7, 3, none⟩ = some (.int .i64 t) := (blk_cell HI.out.h7 3).trans rfl; replace f3 := HI.out.f7 3; replace c4 : wx0.cell? ⟨g7, 4, none⟩ = some (.int .i64 a) := (blk_cell HI.out.h7 4).trans rfl; replace f4 := HI.out.f7 4; clear hr hs)))
     | ((with_reducible refine gate_dst (N := 35) rfl ?_); go_must (((try (refine gate_guard (by rfl) ?_; dsimp only)); refine goesL_ (some 35) rfl rfl Try.func30 (by kernel_rfl) rfl #[.pointer (some ⟨gr, 0, none⟩)] rfl ?hA ?_; (case hA => ((try simp only [List.map_toArray, List.map_cons, List.map_nil]); first | done | rfl)); refine (sget_calls gr l2 k2 w _ (by exact (((HI.out.set 3 (.int .i64 u)).set 4 (.int .i64 b)).eq (cs' := #[.int .i64 2, .int .i64 t, .int .i64 a, .int .i64 u, .int .i64 b, .int .i64 0, .int .i64 0, .bool false, .string { data := #[] }, .slice none 0 0]) (by simp)).rdr) (by exact (((HI.out.set 3 (.int .i64 u)).set 4 (.int .i64 b)).eq (cs' := #[.int .i64 2, .int .i64 t, .int .i64 a, .int .i64 u, .int .i64 b, .int .i64 0, .int .i64 0, .bool false, .string { data := #[] }, .slice none 0 0]) (by simp)).below)).mono ?_; rw [G2.out]; rintro e wx1 ⟨rfl, hr, hs⟩; refine ⟨_, rfl, ?_⟩; replace HI := Aside0.mk ((((HI.out.set 3 (.int .i64 u)).set 4 (.int .i64 b)).eq (cs' := #[.int .i64 2, .int .i64 t, .int .i64 a, .int .i64 u, .int .i64 b, .int .i64 0, .int .i64 0, .bool false, .string { data := #[] }, .slice none 0 0]) (by simp)).call hr hs); replace c5 : wx1.cell? ⟨g7, 5, none⟩ = some (.int .i64 0) := (blk_cell HI.out.h7 5).trans rfl; replace f5 := HI.out.f7 5; replace c6 : wx1.cell? ⟨g7, 6, none⟩ = some (.int .i64 0) := (blk_cell HI.out.h7 6).trans rfl; replace f6 := HI.out.f7 6; clear hr hs)))
     | ((with_reducible refine gate_dst (N := 38) rfl ?_); go_must (((try (refine gate_guard (by rfl) ?_; dsimp only)); refine goesL_ (some 38) rfl rfl Try.func32 (by kernel_rfl) rfl #[.pointer (some ⟨gr, 0, none⟩), .int .i64 24] rfl ?hA ?_; (case hA => ((try simp only [List.map_toArray, List.map_cons, List.map_nil]); first | done | rfl)); refine (rtext_calls gr 24 l3 k3 w _ (by exact (((HI.out.set 5 (.int .i64 p)).set 6 (.int .i64 c)).eq (cs' := #[.int .i64 2, .int .i64 t, .int .i64 a, .int .i64 u, .int .i64 b, .int .i64 p, .int .i64 c, .bool false, .string { data := #[] }, .slice none 0 0]) (by simp)).rdr) (by exact (((HI.out.set 5 (.int .i64 p)).set 6 (.int .i64 c)).eq (cs' := #[.int .i64 2, .int .i64 t, .int .i64 a, .int .i64 u, .int .i64 b, .int .i64 p, .int .i64 c, .bool false, .string { data := #[] }, .slice none 0 0]) (by simp)).below)).mono ?_; rw [G3.out]; rintro e wx2 ⟨rfl, hr, hs⟩; refine ⟨_, rfl, ?_⟩; replace HI := Aside0.mk ((((HI.out.set 5 (.int .i64 p)).set 6 (.int .i64 c)).eq (cs' := #[.int .i64 2, .int .i64 t, .int .i64 a, .int .i64 u, .int .i64 b, .int .i64 p, .int .i64 c, .bool false, .string { data := #[] }, .slice none 0 0]) (by simp)).call hr hs); replace c8 : wx2.cell? ⟨g7, 8, none⟩ = some (.string { data := #[] }) := (blk_cell HI.out.h7 8).trans rfl; replace f8 := HI.out.f7 8; clear hr hs)))
     | ((with_reducible refine gate_dst (N := 54) rfl ?_); go_must (((try (refine gate_guard (by rfl) ?_; dsimp only)); refine goesL_ (some 54) rfl rfl Try.func34 (by kernel_rfl) rfl #[.pointer (some ⟨gr, 0, none⟩)] rfl ?hA ?_; (case hA => ((try simp only [List.map_toArray, List.map_cons, List.map_nil]); first | done | rfl)); refine (done_calls gr l4 k4 w _ (by exact ((HI.out.set 8 (.string (strOfNums n))).eq (cs' := #[.int .i64 2, .int .i64 t, .int .i64 a, .int .i64 u, .int .i64 b, .int .i64 p, .int .i64 c, .bool false, .string (strOfNums n), .slice none 0 0]) (by simp)).rdr)).mono ?_; rw [HE0.out]; rintro e wd ⟨rfl, hd⟩; refine ⟨_, rfl, ?_⟩; replace HI := Aside0.mk (((HI.out.set 8 (.string (strOfNums n))).eq (cs' := #[.int .i64 2, .int .i64 t, .int .i64 a, .int .i64 u, .int .i64 b, .int .i64 p, .int .i64 c, .bool false, .string (strOfNums n), .slice none 0 0]) (by simp)).below' hd.below); clear z0 z1 z2 z3 z4 z5 z6 z7 z8 z9 y0 y1 y2 y3 y4 y5 y6 y7 y8 y9; obtain ⟨z0, z1, z2, z3, z4, z5, z6, z7, z8, z9⟩ := cells10 HI.out.h4; obtain ⟨y0, y1, y2, y3, y4, y5, y6, y7, y8, y9⟩ := froz10 HI.out.h4; clear c0 c1 c2 c3 c4 c5 c6 c7 c8 c9; obtain ⟨c0, c1, c2, c3, c4, c5, c6, c7, c8, c9⟩ := cells10 HI.out.h7; clear hd)))
     | ((with_reducible refine gate_dst (N := 60) rfl ?_); go_must (((try (refine gate_guard (by rfl) ?_; dsimp only)); refine goesL_ (some 60) rfl rfl Try.func25 (by kernel_rfl) rfl #[.agg #[.int .i64 2, .int .i64 t, .int .i64 a, .int .i64 u, .int .i64 b, .int .i64 p, .int .i64 c, .bool false, .string (strOfNums n), (.slice none 0 0)]] rfl ?hA ?_; (case hA => ((try simp only [List.map_toArray, List.map_cons, List.map_nil]); first | done | rfl)); refine (oright_calls _ _ _ _ _ _ _ _ _ _ [] _ (Rd.nil _)).mono ?_; rw [HRO.out]; rintro e wr ⟨rfl, hb⟩; refine ⟨_, rfl, ?_⟩; replace HI := Aside0.mk (HI.out.below' hb); clear z0 z1 z2 z3 z4 z5 z6 z7 z8 z9 y0 y1 y2 y3 y4 y5 y6 y7 y8 y9; obtain ⟨z0, z1, z2, z3, z4, z5, z6, z7, z8, z9⟩ := cells10 HI.out.h4; obtain ⟨y0, y1, y2, y3, y4, y5, y6, y7, y8, y9⟩ := froz10 HI.out.h4; clear c0 c1 c2 c3 c4 c5 c6 c7 c8 c9; obtain ⟨c0, c1, c2, c3, c4, c5, c6, c7, c8, c9⟩ := cells10 HI.out.h7; clear hb))))
    have h4 := blk_set10 HI.out.h4 (.int .i64 2) (.int .i64 t) (.int .i64 a) (.int .i64 u) (.int .i64 b) (.int .i64 p) (.int .i64 c) (.bool false) (.string (strOfNums n)) (.slice none 0 0)
    obtain ⟨q0, q1, q2, q3, q4, q5, q6, q7, q8, q9⟩ := cells10 h4
    exact bodyPost_ret (v := .tuple #[.agg #[.int .i64 2, .int .i64 t, .int .i64 a, .int .i64 u, .int .i64 b, .int .i64 p, .int .i64 c, .bool false, .string (strOfNums n), .slice none 0 0], .int .i64 0]) (by simp [results, Try.results15, go_sem, q0, q1, q2, q3, q4, q5, q6, q7, q8, q9]) rfl ⟨fun _ => ⟨_, by rw [HRR.out], by rw [HRR.out]; exact Rd.nil _⟩, fun h => absurd HEE.out h, (below_set10 HI.out.below HI.out.n4 (.int .i64 2) (.int .i64 t) (.int .i64 a) (.int .i64 u) (.int .i64 b) (.int .i64 p) (.int .i64 c) (.bool false) (.string (strOfNums n)) (.slice none 0 0))⟩
  ·have heb : (e0 != 0) = true := by simpa using he
   have HEE : Aside0 (readE t a l = e0) := ⟨by unfold readE; rw [HRR.out]; dsimp only; rw [HE0.out, if_pos he]⟩
   go_wp2_with (first
    | ((with_reducible refine gate_dst (N := 32) rfl ?_); go_must (((try (refine gate_guard (by rfl) ?_; dsimp only)); refine goesL_ (some 32) rfl rfl Try.func30 (by kernel_rfl) rfl #[.pointer (some ⟨gr, 0, none⟩)] rfl ?hA ?_; (case hA => ((try simp only [List.map_toArray, List.map_cons, List.map_nil]); first | done | rfl)); refine (sget_calls gr l1 k1 w _ (by exact HI.out.rdr) (by exact HI.out.below)).mono ?_; rw [G1.out]; rintro e wx0 ⟨rfl, hr, hs⟩; refine ⟨_, rfl, ?_⟩; replace HI := Aside0.mk (HI.out.call hr hs); replace c3 : wx0.cell? ⟨g7, 3, none⟩ = some (.int .i64 t) := (blk_cell HI.out.h7 3).trans rfl; replace f3 := HI.out.f7 3; replace c4 : wx0.cell? ⟨g7, 4, none⟩ = some (.int .i64 a) := (blk_cell HI.out.h7 4).trans rfl; replace f4 := HI.out.f7 4; clear hr hs)))
    | ((with_reducible refine gate_dst (N := 35) rfl ?_); go_must (((try (refine gate_guard (by rfl) ?_; dsimp only)); refine goesL_ (some 35) rfl rfl Try.func30 (by kernel_rfl) rfl #[.pointer (some ⟨gr, 0, none⟩)] rfl ?hA ?_; (case hA => ((try simp only [List.map_toArray, List.map_cons, List.map_nil]); first | done | rfl)); refine (sget_calls gr l2 k2 w _ (by exact (((HI.out.set 3 (.int .i64 u)).set 4 (.int .i64 b)).eq (cs' := #[.int .i64 2, .int .i64 t, .int .i64 a, .int .i64 u, .int .i64 b, .int .i64 0, .int .i64 0, .bool false, .string { data := #[] }, .slice none 0 0]) (by simp)).rdr) (by exact (((HI.out.set 3 (.int .i64 u)).set 4 (.int .i64 b)).eq (cs' := #[.int .i64 2, .int .i64 t, .int .i64 a, .int .i64 u, .int .i64 b, .int .i64 0, .int .i64 0, .bool false, .string { data := #[] }, .slice none 0 0]) (by simp)).below)).mono ?_; rw [G2.out]; rintro e wx1 ⟨rfl, hr, hs⟩; refine ⟨_, rfl, ?_⟩; replace HI := Aside0.mk ((((HI.out.set 3 (.int .i64 u)).set 4 (.int .i64 b)).eq (cs' := #[.int .i64 2, .int .i64 t, .int .i64 a, .int .i64 u, .int .i64 b, .int .i64 0, .int .i64 0, .bool false, .string { data := #[] }, .slice none 0 0]) (by simp)).call hr hs); replace c5 : wx1.cell? ⟨g7, 5, none⟩ = some (.int .i64 0) := (blk_cell HI.out.h7 5).trans rfl; replace f5 := HI.out.f7 5; replace c6 : wx1.cell? ⟨g7, 6, none⟩ = some (.int .i64 0) := (blk_cell HI.out.h7 6).trans rfl; replace f6 := HI.out.f7 6; clear hr hs)))
    | ((with_reducible refine gate_dst (N := 38) rfl ?_); go_must (((try (refine gate_guard (by rfl) ?_; dsimp only)); refine goesL_ (some 38) rfl rfl Try.func32 (by kernel_rfl) rfl #[.pointer (some ⟨gr, 0, none⟩), .int .i64 24] rfl ?hA ?_; (case hA => ((try simp only [List.map_toArray, List.map_cons, List.map_nil]); first | done | rfl)); refine (rtext_calls gr 24 l3 k3 w _ (by exact (((HI.out.set 5 (.int .i64 p)).set 6 (.int .i64 c)).eq (cs' := #[.int .i64 2, .int .i64 t, .int .i64 a, .int .i64 u, .int .i64 b, .int .i64 p, .int .i64 c, .bool false, .string { data := #[] }, .slice none 0 0]) (by simp)).rdr) (by exact (((HI.out.set 5 (.int .i64 p)).set 6 (.int .i64 c)).eq (cs' := #[.int .i64 2, .int .i64 t, .int .i64 a, .int .i64 u, .int .i64 b, .int .i64 p, .int .i64 c, .bool false, .string { data := #[] }, .slice none 0 0]) (by simp)).below)).mono ?_; rw [G3.out]; rintro e wx2 ⟨rfl, hr, hs⟩; refine ⟨_, rfl, ?_⟩; replace HI := Aside0.mk ((((HI.out.set 5 (.int .i64 p)).set 6 (.int .i64 c)).eq (cs' := #[.int .i64 2, .int .i64 t, .int .i64 a, .int .i64 u, .int .i64 b, .int .i64 p, .int .i64 c, .bool false, .string { data := #[] }, .slice none 0 0]) (by simp)).call hr hs); replace c8 : wx2.cell? ⟨g7, 8, none⟩ = some (.string { data := #[] }) := (blk_cell HI.out.h7 8).trans rfl; replace f8 := HI.out.f7 8; clear hr hs)))
    | ((with_reducible refine gate_dst (N := 54) rfl ?_); go_must (((try (refine gate_guard (by rfl) ?_; dsimp only)); refine goesL_ (some 54) rfl rfl Try.func34 (by kernel_rfl) rfl #[.pointer (some ⟨gr, 0, none⟩)] rfl ?hA ?_; (case hA => ((try simp only [List.map_toArray, List.map_cons, List.map_nil]); first | done | rfl)); refine (done_calls gr l4 k4 w _ (by exact ((HI.out.set 8 (.string (strOfNums n))).eq (cs' := #[.int .i64 2, .int .i64 t, .int .i64 a, .int .i64 u, .int .i64 b, .int .i64 p, .int .i64 c, .bool false, .string (strOfNums n), .slice none 0 0]) (by simp)).rdr)).mono ?_; rw [HE0.out]; rintro e wd ⟨rfl, hd⟩; refine ⟨_, rfl, ?_⟩; replace HI := Aside0.mk (((HI.out.set 8 (.string (strOfNums n))).eq (cs' := #[.int .i64 2, .int .i64 t, .int .i64 a, .int .i64 u, .int .i64 b, .int .i64 p, .int .i64 c, .bool false, .string (strOfNums n), .slice none 0 0]) (by simp)).below' hd.below); clear z0 z1 z2 z3 z4 z5 z6 z7 z8 z9 y0 y1 y2 y3 y4 y5 y6 y7 y8 y9; obtain ⟨z0, z1, z2, z3, z4, z5, z6, z7, z8, z9⟩ := cells10 HI.out.h4; obtain ⟨y0, y1, y2, y3, y4, y5, y6, y7, y8, y9⟩ := froz10 HI.out.h4; clear c0 c1 c2 c3 c4 c5 c6 c7 c8 c9; obtain ⟨c0, c1, c2, c3, c4, c5, c6, c7, c8, c9⟩ := cells10 HI.out.h7; clear hd))))
   have h4 := blk_set10 HI.out.h4 (.int .i64 0) (.int .i64 0) (.int .i64 0) (.int .i64 0) (.int .i64 0) (.int .i64 0) (.int .i64 0) (.bool false) (.string { data := #[] }) (.slice none 0 0)
   obtain ⟨q0, q1, q2, q3, q4, q5, q6, q7, q8, q9⟩ := cells10 h4
   exact bodyPost_ret (v := .tuple #[.agg #[.int .i64 0, .int .i64 0, .int .i64 0, .int .i64 0, .int .i64 0, .int .i64 0, .int .i64 0, .bool false, .string { data := #[] }, .slice none 0 0], .int .i64 e0]) (by simp [results, Try.results15, go_sem, q0, q1, q2, q3, q4, q5, q6, q7, q8, q9]) rfl ⟨fun h => absurd (HEE.out.symm.trans h) he, fun _ => by rw [HEE.out], (below_set10 HI.out.below HI.out.n4 (.int .i64 0) (.int .i64 0) (.int .i64 0) (.int .i64 0) (.int .i64 0) (.int .i64 0) (.int .i64 0) (.bool false) (.string { data := #[] }) (.slice none 0 0))⟩
 have m2 : (k == 2) = false := by simpa using n2
 by_cases n3 : k = 3
 ·subst n3
  obtain ⟨u, b, l2, k2, hG1⟩ : ∃ u b l2 k2, getS l1 k1 = (u, b, l2, k2) := ⟨_, _, _, _, rfl⟩
  have G1 := Aside0.mk hG1
  have HRR : Aside0 (readR t a l = ⟨3, u, b, 0, 0, false, ⟨#[]⟩, [], l2, k2⟩) := ⟨by unfold readR; rw [HK.out]; simp only [readK, if_true, if_false, hG1, show ((3 : Int) = 1) = False from by decide, show ((3 : Int) = 2) = False from by decide]⟩
  clear hG1
  obtain ⟨e0, he0⟩ : ∃ e0, doneR l2 k2 = e0 := ⟨_, rfl⟩
  have HE0 := Aside0.mk he0
  clear he0
  by_cases he : e0 = 0
  ·subst he
   cases hro : rightO 3 t a u b 0 0 false ⟨#[]⟩ [].length
   ·have HRO := Aside0.mk hro
    have HEE : Aside0 (readE t a l = 4) := ⟨by unfold readE; rw [HRR.out]; dsimp only; rw [HE0.out, hro]; simp⟩
    clear hro
    go_wp2_with (first
     | ((with_reducible refine gate_dst (N := 43) rfl ?_); go_must (((try (refine gate_guard (by rfl) ?_; dsimp only)); refine goesL_ (some 43) rfl rfl Try.func30 (by kernel_rfl) rfl #[.pointer (some ⟨gr, 0, none⟩)] rfl ?hA ?_; (case hA => ((try simp only [List.map_toArray, List.map_cons, List.map_nil]); first | done | rfl)); refine (sget_calls gr l1 k1 w _ (by exact HI.out.rdr) (by exact HI.out.below)).mono ?_; rw [G1.out]; rintro e wx0 ⟨rfl, hr, hs⟩; refine ⟨_, rfl, ?_⟩; replace HI := Aside0.mk (HI.out.call hr hs); replace c3 : wx0.cell? ⟨g7, 3, none⟩ = some (.int .i64 t) := (blk_cell HI.out.h7 3).trans rfl; replace f3 := HI.out.f7 3; replace c4 : wx0.cell? ⟨g7, 4, none⟩ = some (.int .i64 a) := (blk_cell HI.out.h7 4).trans rfl; replace f4 := HI.out.f7 4; clear hr hs)))
     | ((with_reducible refine gate_dst (N := 54) rfl ?_); go_must (((try (refine gate_guard (by rfl) ?_; dsimp only)); refine goesL_ (some 54) rfl rfl Try.func34 (by kernel_rfl) rfl #[.pointer (some ⟨gr, 0, none⟩)] rfl ?hA ?_; (case hA => ((try simp only [List.map_toArray, List.map_cons, List.map_nil]); first | done | rfl)); refine (done_calls gr l2 k2 w _ (by exact (((HI.out.set 3 (.int .i64 u)).set 4 (.int .i64 b)).eq (cs' := #[.int .i64 3, .int .i64 t, .int .i64 a, .int .i64 u, .int .i64 b, .int .i64 0, .int .i64 0, .bool false, .string { data := #[] }, .slice none 0 0]) (by simp)).rdr)).mono ?_; rw [HE0.out]; rintro e wd ⟨rfl, hd⟩; refine ⟨_, rfl, ?_⟩; replace HI := Aside0.mk ((((HI.out.set 3 (.int .i64 u)).set 4 (.int .i64 b)).eq (cs' := #[.int .i64 3, .int .i64 t, .int .i64 a, .int .i64 u, .int .i64 b, .int .i64 0, .int .i64 0, .bool false, .string { data := #[] }, .slice none 0 0]) (by simp)).below' hd.below); clear z0 z1 z2 z3 z4 z5 z6 z7 z8 z9 y0 y1 y2 y3 y4 y5 y6 y7 y8 y9; obtain ⟨z0, z1, z2, z3, z4, z5, z6, z7, z8, z9⟩ := cells10 HI.out.h4; obtain ⟨y0, y1, y2, y3, y4, y5, y6, y7, y8, y9⟩ := froz10 HI.out.h4; clear c0 c1 c2 c3 c4 c5 c6 c7 c8 c9; obtain ⟨c0, c1, c2, c3, c4, c5, c6, c7, c8, c9⟩ := cells10 HI.out.h7; clear hd)))
     | ((with_reducible refine gate_dst (N := 60) rfl ?_); go_must (((try (refine gate_guard (by rfl) ?_; dsimp only)); refine goesL_ (some 60) rfl rfl Try.func25 (by kernel_rfl) rfl #[.agg #[.int .i64 3, .int .i64 t, .int .i64 a, .int .i64 u, .int .i64 b, .int .i64 0, .int .i64 0, .bool false, .string ({ data := #[] }), (.slice none 0 0)]] rfl ?hA ?_; (case hA => ((try simp only [List.map_toArray, List.map_cons, List.map_nil]); first | done | rfl)); refine (oright_calls _ _ _ _ _ _ _ _ _ _ [] _ (Rd.nil _)).mono ?_; rw [HRO.out]; rintro e wr ⟨rfl, hb⟩; refine ⟨_, rfl, ?_⟩; replace HI := Aside0.mk (HI.out.below' hb); clear z0 z1 z2 z3 z4 z5 z6 z7 z8 z9 y0 y1 y2 y3 y4 y5 y6 y7 y8 y9; obtain ⟨z0, z1, z2, z3, z4, z5, z6, z7, z8, z9⟩ := cells10 HI.out.h4; obtain ⟨y0, y1, y2, y3, y4, y5, y6, y7, y8, y9⟩ := froz10 HI.out.h4; clear c0 c1 c2 c3 c4 c5 c6 c7 c8 c9; obtain ⟨c0, c1, c2, c3, c4, c5, c6, c7, c8, c9⟩ := cells10 HI.out.h7; clear hb))))
    have h4 := blk_set10 HI.out.h4 (.int .i64 0) (.int .i64 0) (.int .i64 0) (.int .i64 0) (.int .i64 0) (.int .i64 0) (.int .i64 0) (.bool false) (.string { data := #[] }) (.slice none 0 0)
    obtain ⟨q0, q1, q2, q3, q4, q5, q6, q7, q8, q9⟩ := cells10 h4
    exact bodyPost_ret (v := .tuple #[.agg #[.int .i64 0, .int .i64 0, .int .i64 0, .int .i64 0, .int .i64 0, .int .i64 0, .int .i64 0, .bool false, .string { data := #[] }, .slice none 0 0], .int .i64 4]) (by simp [results, Try.results15, go_sem, q0, q1, q2, q3, q4, q5, q6, q7, q8, q9]) rfl ⟨fun h => absurd (h.symm.trans HEE.out) (by decide), fun _ => by rw [HEE.out], (below_set10 HI.out.below HI.out.n4 (.int .i64 0) (.int .i64 0) (.int .i64 0) (.int .i64 0) (.int .i64 0) (.int .i64 0) (.int .i64 0) (.bool false) (.string { data := #[] }) (.slice none 0 0))⟩
   ·have HRO := Aside0.mk hro
    have HEE : Aside0 (readE t a l = 0) := ⟨by unfold readE; rw [HRR.out]; dsimp only; rw [HE0.out, hro]; simp⟩
    clear hro
    go_wp2_with (first
     | ((with_reducible refine gate_dst (N := 43) rfl ?_); go_must (((try (refine gate_guard (by rfl) ?_; dsimp only)); refine goesL_ (some 43) rfl rfl Try.func30 (by kernel_rfl) rfl #[.pointer (some ⟨gr, 0, none⟩)] rfl ?hA ?_; (case hA => ((try simp only [List.map_toArray, List.map_cons, List.map_nil]); first | done | rfl)); refine (sget_calls gr l1 k1 w _ (by exact HI.out.rdr) (by exact HI.out.below)).mono ?_; rw [G1.out]; rintro e wx0 ⟨rfl, hr, hs⟩; refine ⟨_, rfl, ?_⟩; replace HI := Aside0.mk (HI.out.call hr hs); replace c3 : wx0.cell? ⟨g7, 3, none⟩ = some (.int .i64 t) := (blk_cell HI.out.h7 3).trans rfl; replace f3 := HI.out.f7 3; replace c4 : wx0.cell? ⟨g7, 4, none⟩ = some (.int .i64 a) := (blk_cell HI.out.h7 4).trans rfl; replace f4 := HI.out.f7 4; clear hr hs)))
     | ((with_reducible refine gate_dst (N := 54) rfl ?_); go_must (((try (refine gate_guard (by rfl) ?_; dsimp only)); refine goesL_ (some 54) rfl rfl Try.func34 (by kernel_rfl) rfl #[.pointer (some ⟨gr, 0, none⟩)] rfl ?hA ?_; (case hA => ((try simp only [List.map_toArray, List.map_cons, List.map_nil]); first | done | rfl)); refine (done_calls gr l2 k2 w _ (by exact (((HI.out.set 3 (.int .i64 u)).set 4 (.int .i64 b)).eq (cs' := #[.int .i64 3, .int .i64 t, .int .i64 a, .int .i64 u, .int .i64 b, .int .i64 0, .int .i64 0, .bool false, .string { data := #[] }, .slice none 0 0]) (by simp)).rdr)).mono ?_; rw [HE0.out]; rintro e wd ⟨rfl, hd⟩; refine ⟨_, rfl, ?_⟩; replace HI := Aside0.mk ((((HI.out.set 3 (.int .i64 u)).set 4 (.int .i64 b)).eq (cs' := #[.int .i64 3, .int .i64 t, .int .i64 a, .int .i64 u, .int .i64 b, .int .i64 0, .int .i64 0, .bool false, .string { data := #[] }, .slice none 0 0]) (by simp)).below' hd.below); clear z0 z1 z2 z3 z4 z5 z6 z7 z8 z9 y0 y1 y2 y3 y4 y5 y6 y7 y8 y9; obtain ⟨z0, z1, z2, z3, z4, z5, z6, z7, z8, z9⟩ := cells10 HI.out.h4; obtain ⟨y0, y1, y2, y3, y4, y5, y6, y7, y8, y9⟩ := froz10 HI.out.h4; clear c0 c1 c2 c3 c4 c5 c6 c7 c8 c9; obtain ⟨c0, c1, c2, c3, c4, c5, c6, c7, c8, c9⟩ := cells10 HI.out.h7; clear hd)))
     | ((with_reducible refine gate_dst (N := 60) rfl ?_); go_must (((try (refine gate_guard (by rfl) ?_; dsimp only)); refine goesL_ (some 60) rfl rfl Try.func25 (by kernel_rfl) rfl #[.agg #[.int .i64 3, .int .i64 t, .int .i64 a, .int .i64 u, .int .i64 b, .int .i64 0, .int .i64 0, .bool false, .string ({ data := #[] }), (.slice none 0 0)]] rfl ?hA ?_; (case hA => ((try simp only [List.map_toArray, List.map_cons, List.map_nil]); first | done | rfl)); refine (oright_calls _ _ _ _ _ _ _ _ _ _ [] _ (Rd.nil _)).mono ?_; rw [HRO.out]; rintro e wr ⟨rfl, hb⟩; refine ⟨_, rfl, ?_⟩; replace HI := Aside0.mk (HI.out.below' hb); clear z0 z1 z2 z3 z4 z5 z6 z7 z8 z9 y0 y1 y2 y3 y4 y5 y6 y7 y8 y9; obtain ⟨z0, z1, z2, z3, z4, z5, z6, z7, z8, z9⟩ := cells10 HI.out.h4; obtain ⟨y0, y1, y2, y3, y4, y5, y6, y7, y8, y9⟩ := froz10 HI.out.h4; clear c0 c1 c2 c3 c4 c5 c6 c7 c8 c9; obtain ⟨c0, c1, c2, c3, c4, c5, c6, c7, c8, c9⟩ := cells10 HI.out.h7; clear hb))))
    have h4 := blk_set10 HI.out.h4 (.int .i64 3) (.int .i64 t) (.int .i64 a) (.int .i64 u) (.int .i64 b) (.int .i64 0) (.int .i64 0) (.bool false) (.string { data := #[] }) (.slice none 0 0)
    obtain ⟨q0, q1, q2, q3, q4, q5, q6, q7, q8, q9⟩ := cells10 h4
    exact bodyPost_ret (v := .tuple #[.agg #[.int .i64 3, .int .i64 t, .int .i64 a, .int .i64 u, .int .i64 b, .int .i64 0, .int .i64 0, .bool false, .string { data := #[] }, .slice none 0 0], .int .i64 0]) (by simp [results, Try.results15, go_sem, q0, q1, q2, q3, q4, q5, q6, q7, q8, q9]) rfl ⟨fun _ => ⟨_, by rw [HRR.out], by rw [HRR.out]; exact Rd.nil _⟩, fun h => absurd HEE.out h, (below_set10 HI.out.below HI.out.n4 (.int .i64 3) (.int .i64 t) (.int .i64 a) (.int .i64 u) (.int .i64 b) (.int .i64 0) (.int .i64 0) (.bool false) (.string { data := #[] }) (.slice none 0 0))⟩
  ·have heb : (e0 != 0) = true := by simpa using he
   have HEE : Aside0 (readE t a l = e0) := ⟨by unfold readE; rw [HRR.out]; dsimp only; rw [HE0.out, if_pos he]⟩
   go_wp2_with (first
    | ((with_reducible refine gate_dst (N := 43) rfl ?_); go_must (((try (refine gate_guard (by rfl) ?_; dsimp only)); refine goesL_ (some 43) rfl rfl Try.func30 (by kernel_rfl) rfl #[.pointer (some ⟨gr, 0, none⟩)] rfl ?hA ?_; (case hA => ((try simp only [List.map_toArray, List.map_cons, List.map_nil]); first | done | rfl)); refine (sget_calls gr l1 k1 w _ (by exact HI.out.rdr) (by exact HI.out.below)).mono ?_; rw [G1.out]; rintro e wx0 ⟨rfl, hr, hs⟩; refine ⟨_, rfl, ?_⟩; replace HI := Aside0.mk (HI.out.call hr hs); replace c3 : wx0.cell? ⟨g7, 3, none⟩ = some (.int .i64 t) := (blk_cell HI.out.h7 3).trans rfl; replace f3 := HI.out.f7 3; replace c4 : wx0.cell? ⟨g7, 4, none⟩ = some (.int .i64 a) := (blk_cell HI.out.h7 4).trans rfl; replace f4 := HI.out.f7 4; clear hr hs)))
    | ((with_reducible refine gate_dst (N := 54) rfl ?_); go_must (((try (refine gate_guard (by rfl) ?_; dsimp only)); refine goesL_ (some 54) rfl rfl Try.func34 (by kernel_rfl) rfl #[.pointer (some ⟨gr, 0, none⟩)] rfl ?hA ?_; (case hA => ((try simp only [List.map_toArray, List.map_cons, List.map_nil]); first | done | rfl)); refine (done_calls gr l2 k2 w _ (by exact (((HI.out.set 3 (.int .i64 u)).set 4 (.int .i64 b)).eq (cs' := #[.int .i64 3, .int .i64 t, .int .i64 a, .int .i64 u, .int .i64 b, .int .i64 0, .int .i64 0, .bool false, .string { data := #[] }, .slice none 0 0]) (by simp)).rdr)).mono ?_; rw [HE0.out]; rintro e wd ⟨rfl, hd⟩; refine ⟨_, rfl, ?_⟩; replace HI := Aside0.mk ((((HI.out.set 3 (.int .i64 u)).set 4 (.int .i64 b)).eq (cs' := #[.int .i64 3, .int .i64 t, .int .i64 a, .int .i64 u, .int .i64 b, .int .i64 0, .int .i64 0, .bool false, .string { data := #[] }, .slice none 0 0]) (by simp)).below' hd.below); clear z0 z1 z2 z3 z4 z5 z6 z7 z8 z9 y0 y1 y2 y3 y4 y5 y6 y7 y8 y9; obtain ⟨z0, z1, z2, z3, z4, z5, z6, z7, z8, z9⟩ := cells10 HI.out.h4; obtain ⟨y0, y1, y2, y3, y4, y5, y6, y7, y8, y9⟩ := froz10 HI.out.h4; clear c0 c1 c2 c3 c4 c5 c6 c7 c8 c9; obtain ⟨c0, c1, c2, c3, c4, c5, c6, c7, c8, c9⟩ := cells10 HI.out.h7; clear hd))))
   have h4 := blk_set10 HI.out.h4 (.int .i64 0) (.int .i64 0) (.int .i64 0) (.int .i64 0) (.int .i64 0) (.int .i64 0) (.int .i64 0) (.bool false) (.string { data := #[] }) (.slice none 0 0)
   obtain ⟨q0, q1, q2, q3, q4, q5, q6, q7, q8, q9⟩ := cells10 h4
   exact bodyPost_ret (v := .tuple #[.agg #[.int .i64 0, .int .i64 0, .int .i64 0, .int .i64 0, .int .i64 0, .int .i64 0, .int .i64 0, .bool false, .string { data := #[] }, .slice none 0 0], .int .i64 e0]) (by simp [results, Try.results15, go_sem, q0, q1, q2, q3, q4, q5, q6, q7, q8, q9]) rfl ⟨fun h => absurd (HEE.out.symm.trans h) he, fun _ => by rw [HEE.out], (below_set10 HI.out.below HI.out.n4 (.int .i64 0) (.int .i64 0) (.int .i64 0) (.int .i64 0) (.int .i64 0) (.int .i64 0) (.int .i64 0) (.bool false) (.string { data := #[] }) (.slice none 0 0))⟩
 have m3 : (k == 3) = false := by simpa using n3
 by_cases n4 : k = 4
 ·subst n4
  obtain ⟨u, b, l2, k2, hG1⟩ : ∃ u b l2 k2, getS l1 k1 = (u, b, l2, k2) := ⟨_, _, _, _, rfl⟩
  have G1 := Aside0.mk hG1
  obtain ⟨n, l3, k3, hG2⟩ : ∃ n l3 k3, bytesR 400 l2 k2 = (n, l3, k3) := ⟨_, _, _, rfl⟩
  have G2 := Aside0.mk hG2
  have HRR : Aside0 (readR t a l = ⟨4, u, b, 0, 0, false, ⟨#[]⟩, n, l3, k3⟩) := ⟨by unfold readR; rw [HK.out]; simp only [readK, if_true, if_false, hG1, hG2, show ((4 : Int) = 1) = False from by decide, show ((4 : Int) = 2) = False from by decide, show ((4 : Int) = 3) = False from by decide]⟩
  clear hG1
  clear hG2
  obtain ⟨e0, he0⟩ : ∃ e0, doneR l3 k3 = e0 := ⟨_, rfl⟩
  have HE0 := Aside0.mk he0
  clear he0
  by_cases he : e0 = 0
  ·subst he
   cases hro : rightO 4 t a u b 0 0 false ⟨#[]⟩ n.length
   ·have HRO := Aside0.mk hro
    have HEE : Aside0 (readE t a l = 4) := ⟨by unfold readE; rw [HRR.out]; dsimp only; rw [HE0.out, hro]; simp⟩
    clear hro
    go_wp2_with (first
     | ((with_reducible refine gate_dst (N := 48) rfl ?_); go_must (((try (refine gate_guard (by rfl) ?_; dsimp only)); refine goesL_ (some 48) rfl rfl Try.func30 (by kernel_rfl) rfl #[.pointer (some ⟨gr, 0, none⟩)] rfl ?hA ?_; (case hA => ((try simp only [List.map_toArray, List.map_cons, List.map_nil]); first | done | rfl)); refine (sget_calls gr l1 k1 w _ (by exact HI.out.rdr) (by exact HI.out.below)).mono ?_; rw [G1.out]; rintro e wx0 ⟨rfl, hr, hs⟩; refine ⟨_, rfl, ?_⟩; replace HI := Aside0.mk (HI.out.call hr hs); replace c3 : wx0.cell? ⟨g7, 3, none⟩ = some (.int .i64 t) := (blk_cell HI.out.h7 3).trans rfl; replace f3 := HI.out.f7 3; replace c4 : wx0.cell? ⟨g7, 4, none⟩ = some (.int .i64 a) := (blk_cell HI.out.h7 4).trans rfl; replace f4 := HI.out.f7 4; clear hr hs)))
     | ((with_reducible refine gate_dst (N := 51) rfl ?_); go_must (((try (refine gate_guard (by rfl) ?_; dsimp only)); refine goesL_ (some 51) rfl rfl Try.func33 (by kernel_rfl) rfl #[.pointer (some ⟨gr, 0, none⟩), .int .i64 400] rfl ?hA ?_; (case hA => ((try simp only [List.map_toArray, List.map_cons, List.map_nil]); first | done | rfl)); refine (rbytes_calls gr 400 l2 k2 w _ (by exact (((HI.out.set 3 (.int .i64 u)).set 4 (.int .i64 b)).eq (cs' := #[.int .i64 4, .int .i64 t, .int .i64 a, .int .i64 u, .int .i64 b, .int .i64 0, .int .i64 0, .bool false, .string { data := #[] }, .slice none 0 0]) (by simp)).rdr) (by exact (((HI.out.set 3 (.int .i64 u)).set 4 (.int .i64 b)).eq (cs' := #[.int .i64 4, .int .i64 t, .int .i64 a, .int .i64 u, .int .i64 b, .int .i64 0, .int .i64 0, .bool false, .string { data := #[] }, .slice none 0 0]) (by simp)).below)).mono ?_; rw [G2.out]; rintro e wx1 ⟨vd, rfl, ho, hr, hs⟩; refine ⟨_, rfl, ?_⟩; obtain ⟨A8, cap8, rfl, -, -⟩ := ho.rd; have HN7b := Aside0.mk (blk_lt (((HI.out.set 3 (.int .i64 u)).set 4 (.int .i64 b)).eq (cs' := #[.int .i64 4, .int .i64 t, .int .i64 a, .int .i64 u, .int .i64 b, .int .i64 0, .int .i64 0, .bool false, .string { data := #[] }, .slice none 0 0]) (by simp)).h7); have HN4b := Aside0.mk (blk_lt (((HI.out.set 3 (.int .i64 u)).set 4 (.int .i64 b)).eq (cs' := #[.int .i64 4, .int .i64 t, .int .i64 a, .int .i64 u, .int .i64 b, .int .i64 0, .int .i64 0, .bool false, .string { data := #[] }, .slice none 0 0]) (by simp)).h4); have HD := Aside0.mk ho; clear ho; replace HI := Aside0.mk ((((HI.out.set 3 (.int .i64 u)).set 4 (.int .i64 b)).eq (cs' := #[.int .i64 4, .int .i64 t, .int .i64 a, .int .i64 u, .int .i64 b, .int .i64 0, .int .i64 0, .bool false, .string { data := #[] }, .slice none 0 0]) (by simp)).call hr hs); replace c9 : wx1.cell? ⟨g7, 9, none⟩ = some (.slice none 0 0) := (blk_cell HI.out.h7 9).trans rfl; replace f9 := HI.out.f7 9; clear hr hs)))
     | ((with_reducible refine gate_dst (N := 54) rfl ?_); go_must (((try (refine gate_guard (by rfl) ?_; dsimp only)); refine goesL_ (some 54) rfl rfl Try.func34 (by kernel_rfl) rfl #[.pointer (some ⟨gr, 0, none⟩)] rfl ?hA ?_; (case hA => ((try simp only [List.map_toArray, List.map_cons, List.map_nil]); first | done | rfl)); refine (done_calls gr l3 k3 w _ (by exact ((HI.out.set 9 ((.slice A8 n.length cap8))).eq (cs' := #[.int .i64 4, .int .i64 t, .int .i64 a, .int .i64 u, .int .i64 b, .int .i64 0, .int .i64 0, .bool false, .string { data := #[] }, (.slice A8 n.length cap8)]) (by simp)).rdr)).mono ?_; rw [HE0.out]; rintro e wd ⟨rfl, hd⟩; refine ⟨_, rfl, ?_⟩; replace HD := Aside0.mk (Own.far HD.out HN7b.out 9 (.slice A8 n.length cap8)); replace HI := Aside0.mk (((HI.out.set 9 ((.slice A8 n.length cap8))).eq (cs' := #[.int .i64 4, .int .i64 t, .int .i64 a, .int .i64 u, .int .i64 b, .int .i64 0, .int .i64 0, .bool false, .string { data := #[] }, (.slice A8 n.length cap8)]) (by simp)).below' hd.below); replace HD := Aside0.mk (Own.below HD.out hd.below); clear z0 z1 z2 z3 z4 z5 z6 z7 z8 z9 y0 y1 y2 y3 y4 y5 y6 y7 y8 y9; obtain ⟨z0, z1, z2, z3, z4, z5, z6, z7, z8, z9⟩ := cells10 HI.out.h4; obtain ⟨y0, y1, y2, y3, y4, y5, y6, y7, y8, y9⟩ := froz10 HI.out.h4; clear c0 c1 c2 c3 c4 c5 c6 c7 c8 c9; obtain ⟨c0, c1, c2, c3, c4, c5, c6, c7, c8, c9⟩ := cells10 HI.out.h7; clear hd)))
     | ((with_reducible refine gate_dst (N := 60) rfl ?_); go_must (((try (refine gate_guard (by rfl) ?_; dsimp only)); refine goesL_ (some 60) rfl rfl Try.func25 (by kernel_rfl) rfl #[.agg #[.int .i64 4, .int .i64 t, .int .i64 a, .int .i64 u, .int .i64 b, .int .i64 0, .int .i64 0, .bool false, .string ({ data := #[] }), (.slice A8 n.length cap8)]] rfl ?hA ?_; (case hA => ((try simp only [List.map_toArray, List.map_cons, List.map_nil]); first | done | rfl)); refine (oright_calls _ _ _ _ _ _ _ _ _ _ n _ HD.out.rd).mono ?_; rw [HRO.out]; rintro e wr ⟨rfl, hb⟩; refine ⟨_, rfl, ?_⟩; replace HI := Aside0.mk (HI.out.below' hb); replace HD := Aside0.mk (Own.below HD.out hb); clear z0 z1 z2 z3 z4 z5 z6 z7 z8 z9 y0 y1 y2 y3 y4 y5 y6 y7 y8 y9; obtain ⟨z0, z1, z2, z3, z4, z5, z6, z7, z8, z9⟩ := cells10 HI.out.h4; obtain ⟨y0, y1, y2, y3, y4, y5, y6, y7, y8, y9⟩ := froz10 HI.out.h4; clear c0 c1 c2 c3 c4 c5 c6 c7 c8 c9; obtain ⟨c0, c1, c2, c3, c4, c5, c6, c7, c8, c9⟩ := cells10 HI.out.h7; clear hb))))
    have h4 := blk_set10 HI.out.h4 (.int .i64 0) (.int .i64 0) (.int .i64 0) (.int .i64 0) (.int .i64 0) (.int .i64 0) (.int .i64 0) (.bool false) (.string { data := #[] }) (.slice none 0 0)
    obtain ⟨q0, q1, q2, q3, q4, q5, q6, q7, q8, q9⟩ := cells10 h4
    exact bodyPost_ret (v := .tuple #[.agg #[.int .i64 0, .int .i64 0, .int .i64 0, .int .i64 0, .int .i64 0, .int .i64 0, .int .i64 0, .bool false, .string { data := #[] }, .slice none 0 0], .int .i64 4]) (by simp [results, Try.results15, go_sem, q0, q1, q2, q3, q4, q5, q6, q7, q8, q9]) rfl ⟨fun h => absurd (h.symm.trans HEE.out) (by decide), fun _ => by rw [HEE.out], (below_set10 HI.out.below HI.out.n4 (.int .i64 0) (.int .i64 0) (.int .i64 0) (.int .i64 0) (.int .i64 0) (.int .i64 0) (.int .i64 0) (.bool false) (.string { data := #[] }) (.slice none 0 0))⟩
   ·have HRO := Aside0.mk hro
    have HEE : Aside0 (readE t a l = 0) := ⟨by unfold readE; rw [HRR.out]; dsimp only; rw [HE0.out, hro]; simp⟩
    clear hro
    go_wp2_with (first
     | ((with_reducible refine gate_dst (N := 48) rfl ?_); go_must (((try (refine gate_guard (by rfl) ?_; dsimp only)); refine goesL_ (some 48) rfl rfl Try.func30 (by kernel_rfl) rfl #[.pointer (some ⟨gr, 0, none⟩)] rfl ?hA ?_; (case hA => ((try simp only [List.map_toArray, List.map_cons, List.map_nil]); first | done | rfl)); refine (sget_calls gr l1 k1 w _ (by exact HI.out.rdr) (by exact HI.out.below)).mono ?_; rw [G1.out]; rintro e wx0 ⟨rfl, hr, hs⟩; refine ⟨_, rfl, ?_⟩; replace HI := Aside0.mk (HI.out.call hr hs); replace c3 : wx0.cell? ⟨g7, 3, none⟩ = some (.int .i64 t) := (blk_cell HI.out.h7 3).trans rfl; replace f3 := HI.out.f7 3; replace c4 : wx0.cell? ⟨g7, 4, none⟩ = some (.int .i64 a) := (blk_cell HI.out.h7 4).trans rfl; replace f4 := HI.out.f7 4; clear hr hs)))
     | ((with_reducible refine gate_dst (N := 51) rfl ?_); go_must (((try (refine gate_guard (by rfl) ?_; dsimp only)); refine goesL_ (some 51) rfl rfl Try.func33 (by kernel_rfl) rfl #[.pointer (some ⟨gr, 0, none⟩), .int .i64 400] rfl ?hA ?_; (case hA => ((try simp only [List.map_toArray, List.map_cons, List.map_nil]); first | done | rfl)); refine (rbytes_calls gr 400 l2 k2 w _ (by exact (((HI.out.set 3 (.int .i64 u)).set 4 (.int .i64 b)).eq (cs' := #[.int .i64 4, .int .i64 t, .int .i64 a, .int .i64 u, .int .i64 b, .int .i64 0, .int .i64 0, .bool false, .string { data := #[] }, .slice none 0 0]) (by simp)).rdr) (by exact (((HI.out.set 3 (.int .i64 u)).set 4 (.int .i64 b)).eq (cs' := #[.int .i64 4, .int .i64 t, .int .i64 a, .int .i64 u, .int .i64 b, .int .i64 0, .int .i64 0, .bool false, .string { data := #[] }, .slice none 0 0]) (by simp)).below)).mono ?_; rw [G2.out]; rintro e wx1 ⟨vd, rfl, ho, hr, hs⟩; refine ⟨_, rfl, ?_⟩; obtain ⟨A8, cap8, rfl, -, -⟩ := ho.rd; have HN7b := Aside0.mk (blk_lt (((HI.out.set 3 (.int .i64 u)).set 4 (.int .i64 b)).eq (cs' := #[.int .i64 4, .int .i64 t, .int .i64 a, .int .i64 u, .int .i64 b, .int .i64 0, .int .i64 0, .bool false, .string { data := #[] }, .slice none 0 0]) (by simp)).h7); have HN4b := Aside0.mk (blk_lt (((HI.out.set 3 (.int .i64 u)).set 4 (.int .i64 b)).eq (cs' := #[.int .i64 4, .int .i64 t, .int .i64 a, .int .i64 u, .int .i64 b, .int .i64 0, .int .i64 0, .bool false, .string { data := #[] }, .slice none 0 0]) (by simp)).h4); have HD := Aside0.mk ho; clear ho; replace HI := Aside0.mk ((((HI.out.set 3 (.int .i64 u)).set 4 (.int .i64 b)).eq (cs' := #[.int .i64 4, .int .i64 t, .int .i64 a, .int .i64 u, .int .i64 b, .int .i64 0, .int .i64 0, .bool false, .string { data := #[] }, .slice none 0 0]) (by simp)).call hr hs); replace c9 : wx1.cell? ⟨g7, 9, none⟩ = some (.slice none 0 0) := (blk_cell HI.out.h7 9).trans rfl; replace f9 := HI.out.f7 9; clear hr hs)))
     | ((with_reducible refine gate_dst (N := 54) rfl ?_); go_must (((try (refine gate_guard (by rfl) ?_; dsimp only)); refine goesL_ (some 54) rfl rfl Try.func34 (by kernel_rfl) rfl #[.pointer (some ⟨gr, 0, none⟩)] rfl ?hA ?_; (case hA => ((try simp only [List.map_toArray, List.map_cons, List.map_nil]); first | done | rfl)); refine (done_calls gr l3 k3 w _ (by exact ((HI.out.set 9 ((.slice A8 n.length cap8))).eq (cs' := #[.int .i64 4, .int .i64 t, .int .i64 a, .int .i64 u, .int .i64 b, .int .i64 0, .int .i64 0, .bool false, .string { data := #[] }, (.slice A8 n.length cap8)]) (by simp)).rdr)).mono ?_; rw [HE0.out]; rintro e wd ⟨rfl, hd⟩; refine ⟨_, rfl, ?_⟩; replace HD := Aside0.mk (Own.far HD.out HN7b.out 9 (.slice A8 n.length cap8)); replace HI := Aside0.mk (((HI.out.set 9 ((.slice A8 n.length cap8))).eq (cs' := #[.int .i64 4, .int .i64 t, .int .i64 a, .int .i64 u, .int .i64 b, .int .i64 0, .int .i64 0, .bool false, .string { data := #[] }, (.slice A8 n.length cap8)]) (by simp)).below' hd.below); replace HD := Aside0.mk (Own.below HD.out hd.below); clear z0 z1 z2 z3 z4 z5 z6 z7 z8 z9 y0 y1 y2 y3 y4 y5 y6 y7 y8 y9; obtain ⟨z0, z1, z2, z3, z4, z5, z6, z7, z8, z9⟩ := cells10 HI.out.h4; obtain ⟨y0, y1, y2, y3, y4, y5, y6, y7, y8, y9⟩ := froz10 HI.out.h4; clear c0 c1 c2 c3 c4 c5 c6 c7 c8 c9; obtain ⟨c0, c1, c2, c3, c4, c5, c6, c7, c8, c9⟩ := cells10 HI.out.h7; clear hd)))
     | ((with_reducible refine gate_dst (N := 60) rfl ?_); go_must (((try (refine gate_guard (by rfl) ?_; dsimp only)); refine goesL_ (some 60) rfl rfl Try.func25 (by kernel_rfl) rfl #[.agg #[.int .i64 4, .int .i64 t, .int .i64 a, .int .i64 u, .int .i64 b, .int .i64 0, .int .i64 0, .bool false, .string ({ data := #[] }), (.slice A8 n.length cap8)]] rfl ?hA ?_; (case hA => ((try simp only [List.map_toArray, List.map_cons, List.map_nil]); first | done | rfl)); refine (oright_calls _ _ _ _ _ _ _ _ _ _ n _ HD.out.rd).mono ?_; rw [HRO.out]; rintro e wr ⟨rfl, hb⟩; refine ⟨_, rfl, ?_⟩; replace HI := Aside0.mk (HI.out.below' hb); replace HD := Aside0.mk (Own.below HD.out hb); clear z0 z1 z2 z3 z4 z5 z6 z7 z8 z9 y0 y1 y2 y3 y4 y5 y6 y7 y8 y9; obtain ⟨z0, z1, z2, z3, z4, z5, z6, z7, z8, z9⟩ := cells10 HI.out.h4; obtain ⟨y0, y1, y2, y3, y4, y5, y6, y7, y8, y9⟩ := froz10 HI.out.h4; clear c0 c1 c2 c3 c4 c5 c6 c7 c8 c9; obtain ⟨c0, c1, c2, c3, c4, c5, c6, c7, c8, c9⟩ := cells10 HI.out.h7; clear hb))))
    have h4 := blk_set10 HI.out.h4 (.int .i64 4) (.int .i64 t) (.int .i64 a) (.int .i64 u) (.int .i64 b) (.int .i64 0) (.int .i64 0) (.bool false) (.string { data := #[] }) ((.slice A8 n.length cap8))
    obtain ⟨q0, q1, q2, q3, q4, q5, q6, q7, q8, q9⟩ := cells10 h4
    exact bodyPost_ret (v := .tuple #[.agg #[.int .i64 4, .int .i64 t, .int .i64 a, .int .i64 u, .int .i64 b, .int .i64 0, .int .i64 0, .bool false, .string { data := #[] }, (.slice A8 n.length cap8)], .int .i64 0]) (by simp [results, Try.results15, go_sem, q0, q1, q2, q3, q4, q5, q6, q7, q8, q9]) rfl ⟨fun _ => ⟨_, by rw [HRR.out], by rw [HRR.out]; exact (own_set10 HD.out HN4b.out (.int .i64 4) (.int .i64 t) (.int .i64 a) (.int .i64 u) (.int .i64 b) (.int .i64 0) (.int .i64 0) (.bool false) (.string { data := #[] }) ((.slice A8 n.length cap8))).rd⟩, fun h => absurd HEE.out h, (below_set10 HI.out.below HI.out.n4 (.int .i64 4) (.int .i64 t) (.int .i64 a) (.int .i64 u) (.int .i64 b) (.int .i64 0) (.int .i64 0) (.bool false) (.string { data := #[] }) ((.slice A8 n.length cap8)))⟩
  ·have heb : (e0 != 0) = true := by simpa using he
   have HEE : Aside0 (readE t a l = e0) := ⟨by unfold readE; rw [HRR.out]; dsimp only; rw [HE0.out, if_pos he]⟩
   go_wp2_with (first
    | ((with_reducible refine gate_dst (N := 48) rfl ?_); go_must (((try (refine gate_guard (by rfl) ?_; dsimp only)); refine goesL_ (some 48) rfl rfl Try.func30 (by kernel_rfl) rfl #[.pointer (some ⟨gr, 0, none⟩)] rfl ?hA ?_; (case hA => ((try simp only [List.map_toArray, List.map_cons, List.map_nil]); first | done | rfl)); refine (sget_calls gr l1 k1 w _ (by exact HI.out.rdr) (by exact HI.out.below)).mono ?_; rw [G1.out]; rintro e wx0 ⟨rfl, hr, hs⟩; refine ⟨_, rfl, ?_⟩; replace HI := Aside0.mk (HI.out.call hr hs); replace c3 : wx0.cell? ⟨g7, 3, none⟩ = some (.int .i64 t) := (blk_cell HI.out.h7 3).trans rfl; replace f3 := HI.out.f7 3; replace c4 : wx0.cell? ⟨g7, 4, none⟩ = some (.int .i64 a) := (blk_cell HI.out.h7 4).trans rfl; replace f4 := HI.out.f7 4; clear hr hs)))
    | ((with_reducible refine gate_dst (N := 51) rfl ?_); go_must (((try (refine gate_guard (by rfl) ?_; dsimp only)); refine goesL_ (some 51) rfl rfl Try.func33 (by kernel_rfl) rfl #[.pointer (some ⟨gr, 0, none⟩), .int .i64 400] rfl ?hA ?_; (case hA => ((try simp only [List.map_toArray, List.map_cons, List.map_nil]); first | done | rfl)); refine (rbytes_calls gr 400 l2 k2 w _ (by exact (((HI.out.set 3 (.int .i64 u)).set 4 (.int .i64 b)).eq (cs' := #[.int .i64 4, .int .i64 t, .int .i64 a, .int .i64 u, .int .i64 b, .int .i64 0, .int .i64 0, .bool false, .string { data := #[] }, .slice none 0 0]) (by simp)).rdr) (by exact (((HI.out.set 3 (.int .i64 u)).set 4 (.int .i64 b)).eq (cs' := #[.int .i64 4, .int .i64 t, .int .i64 a, .int .i64 u, .int .i64 b, .int .i64 0, .int .i64 0, .bool false, .string { data := #[] }, .slice none 0 0]) (by simp)).below)).mono ?_; rw [G2.out]; rintro e wx1 ⟨vd, rfl, ho, hr, hs⟩; refine ⟨_, rfl, ?_⟩; obtain ⟨A8, cap8, rfl, -, -⟩ := ho.rd; have HN7b := Aside0.mk (blk_lt (((HI.out.set 3 (.int .i64 u)).set 4 (.int .i64 b)).eq (cs' := #[.int .i64 4, .int .i64 t, .int .i64 a, .int .i64 u, .int .i64 b, .int .i64 0, .int .i64 0, .bool false, .string { data := #[] }, .slice none 0 0]) (by simp)).h7); have HN4b := Aside0.mk (blk_lt (((HI.out.set 3 (.int .i64 u)).set 4 (.int .i64 b)).eq (cs' := #[.int .i64 4, .int .i64 t, .int .i64 a, .int .i64 u, .int .i64 b, .int .i64 0, .int .i64 0, .bool false, .string { data := #[] }, .slice none 0 0]) (by simp)).h4); have HD := Aside0.mk ho; clear ho; replace HI := Aside0.mk ((((HI.out.set 3 (.int .i64 u)).set 4 (.int .i64 b)).eq (cs' := #[.int .i64 4, .int .i64 t, .int .i64 a, .int .i64 u, .int .i64 b, .int .i64 0, .int .i64 0, .bool false, .string { data := #[] }, .slice none 0 0]) (by simp)).call hr hs); replace c9 : wx1.cell? ⟨g7, 9, none⟩ = some (.slice none 0 0) := (blk_cell HI.out.h7 9).trans rfl; replace f9 := HI.out.f7 9; clear hr hs)))
    | ((with_reducible refine gate_dst (N := 54) rfl ?_); go_must (((try (refine gate_guard (by rfl) ?_; dsimp only)); refine goesL_ (some 54) rfl rfl Try.func34 (by kernel_rfl) rfl #[.pointer (some ⟨gr, 0, none⟩)] rfl ?hA ?_; (case hA => ((try simp only [List.map_toArray, List.map_cons, List.map_nil]); first | done | rfl)); refine (done_calls gr l3 k3 w _ (by exact ((HI.out.set 9 ((.slice A8 n.length cap8))).eq (cs' := #[.int .i64 4, .int .i64 t, .int .i64 a, .int .i64 u, .int .i64 b, .int .i64 0, .int .i64 0, .bool false, .string { data := #[] }, (.slice A8 n.length cap8)]) (by simp)).rdr)).mono ?_; rw [HE0.out]; rintro e wd ⟨rfl, hd⟩; refine ⟨_, rfl, ?_⟩; replace HD := Aside0.mk (Own.far HD.out HN7b.out 9 (.slice A8 n.length cap8)); replace HI := Aside0.mk (((HI.out.set 9 ((.slice A8 n.length cap8))).eq (cs' := #[.int .i64 4, .int .i64 t, .int .i64 a, .int .i64 u, .int .i64 b, .int .i64 0, .int .i64 0, .bool false, .string { data := #[] }, (.slice A8 n.length cap8)]) (by simp)).below' hd.below); replace HD := Aside0.mk (Own.below HD.out hd.below); clear z0 z1 z2 z3 z4 z5 z6 z7 z8 z9 y0 y1 y2 y3 y4 y5 y6 y7 y8 y9; obtain ⟨z0, z1, z2, z3, z4, z5, z6, z7, z8, z9⟩ := cells10 HI.out.h4; obtain ⟨y0, y1, y2, y3, y4, y5, y6, y7, y8, y9⟩ := froz10 HI.out.h4; clear c0 c1 c2 c3 c4 c5 c6 c7 c8 c9; obtain ⟨c0, c1, c2, c3, c4, c5, c6, c7, c8, c9⟩ := cells10 HI.out.h7; clear hd))))
   have h4 := blk_set10 HI.out.h4 (.int .i64 0) (.int .i64 0) (.int .i64 0) (.int .i64 0) (.int .i64 0) (.int .i64 0) (.int .i64 0) (.bool false) (.string { data := #[] }) (.slice none 0 0)
   obtain ⟨q0, q1, q2, q3, q4, q5, q6, q7, q8, q9⟩ := cells10 h4
   exact bodyPost_ret (v := .tuple #[.agg #[.int .i64 0, .int .i64 0, .int .i64 0, .int .i64 0, .int .i64 0, .int .i64 0, .int .i64 0, .bool false, .string { data := #[] }, .slice none 0 0], .int .i64 e0]) (by simp [results, Try.results15, go_sem, q0, q1, q2, q3, q4, q5, q6, q7, q8, q9]) rfl ⟨fun h => absurd (HEE.out.symm.trans h) he, fun _ => by rw [HEE.out], (below_set10 HI.out.below HI.out.n4 (.int .i64 0) (.int .i64 0) (.int .i64 0) (.int .i64 0) (.int .i64 0) (.int .i64 0) (.int .i64 0) (.bool false) (.string { data := #[] }) (.slice none 0 0))⟩
 have m4 : (k == 4) = false := by simpa using n4
 have hk1 : k ≤ 1 := by have h4 := countR_le4 l 0; rw [HK.out] at h4; dsimp only at h4; omega
 have hk1b : decide (1 < k) = false := decide_eq_false (by omega)
 have HRR : Aside0 (readR t a l = ⟨k, t, a, 0, 0, false, ⟨#[]⟩, [], l1, k1⟩) := ⟨by unfold readR; rw [HK.out]; simp only [readK, if_true, if_false, n1, n2, n3, n4]⟩
 obtain ⟨e0, he0⟩ : ∃ e0, doneR l1 k1 = e0 := ⟨_, rfl⟩
 have HE0 := Aside0.mk he0
 clear he0
 by_cases he : e0 = 0
 ·subst he
  cases hro : rightO k t a t a 0 0 false ⟨#[]⟩ [].length
  ·have HRO := Aside0.mk hro
   have HEE : Aside0 (readE t a l = 4) := ⟨by unfold readE; rw [HRR.out]; dsimp only; rw [HE0.out, hro]; simp⟩
   clear hro
   go_wp2_with (first
    | ((with_reducible refine gate_dst (N := 54) rfl ?_); go_must (((try (refine gate_guard (by rfl) ?_; dsimp only)); refine goesL_ (some 54) rfl rfl Try.func34 (by kernel_rfl) rfl #[.pointer (some ⟨gr, 0, none⟩)] rfl ?hA ?_; (case hA => ((try simp only [List.map_toArray, List.map_cons, List.map_nil]); first | done | rfl)); refine (done_calls gr l1 k1 w _ (by exact HI.out.rdr)).mono ?_; rw [HE0.out]; rintro e wd ⟨rfl, hd⟩; refine ⟨_, rfl, ?_⟩; replace HI := Aside0.mk (HI.out.below' hd.below); clear z0 z1 z2 z3 z4 z5 z6 z7 z8 z9 y0 y1 y2 y3 y4 y5 y6 y7 y8 y9; obtain ⟨z0, z1, z2, z3, z4, z5, z6, z7, z8, z9⟩ := cells10 HI.out.h4; obtain ⟨y0, y1, y2, y3, y4, y5, y6, y7, y8, y9⟩ := froz10 HI.out.h4; clear c0 c1 c2 c3 c4 c5 c6 c7 c8 c9; obtain ⟨c0, c1, c2, c3, c4, c5, c6, c7, c8, c9⟩ := cells10 HI.out.h7; clear hd)))
    | ((with_reducible refine gate_dst (N := 60) rfl ?_); go_must (((try (refine gate_guard (by rfl) ?_; dsimp only)); refine goesL_ (some 60) rfl rfl Try.func25 (by kernel_rfl) rfl #[.agg #[.int .i64 k, .int .i64 t, .int .i64 a, .int .i64 t, .int .i64 a, .int .i64 0, .int .i64 0, .bool false, .string ({ data := #[] }), (.slice none 0 0)]] rfl ?hA ?_; (case hA => ((try simp only [List.map_toArray, List.map_cons, List.map_nil]); first | done | rfl)); refine (oright_calls _ _ _ _ _ _ _ _ _ _ [] _ (Rd.nil _)).mono ?_; rw [HRO.out]; rintro e wr ⟨rfl, hb⟩; refine ⟨_, rfl, ?_⟩; replace HI := Aside0.mk (HI.out.below' hb); clear z0 z1 z2 z3 z4 z5 z6 z7 z8 z9 y0 y1 y2 y3 y4 y5 y6 y7 y8 y9; obtain ⟨z0, z1, z2, z3, z4, z5, z6, z7, z8, z9⟩ := cells10 HI.out.h4; obtain ⟨y0, y1, y2, y3, y4, y5, y6, y7, y8, y9⟩ := froz10 HI.out.h4; clear c0 c1 c2 c3 c4 c5 c6 c7 c8 c9; obtain ⟨c0, c1, c2, c3, c4, c5, c6, c7, c8, c9⟩ := cells10 HI.out.h7; clear hb))))
   have h4 := blk_set10 HI.out.h4 (.int .i64 0) (.int .i64 0) (.int .i64 0) (.int .i64 0) (.int .i64 0) (.int .i64 0) (.int .i64 0) (.bool false) (.string { data := #[] }) (.slice none 0 0)
   obtain ⟨q0, q1, q2, q3, q4, q5, q6, q7, q8, q9⟩ := cells10 h4
   exact bodyPost_ret (v := .tuple #[.agg #[.int .i64 0, .int .i64 0, .int .i64 0, .int .i64 0, .int .i64 0, .int .i64 0, .int .i64 0, .bool false, .string { data := #[] }, .slice none 0 0], .int .i64 4]) (by simp [results, Try.results15, go_sem, q0, q1, q2, q3, q4, q5, q6, q7, q8, q9]) rfl ⟨fun h => absurd (h.symm.trans HEE.out) (by decide), fun _ => by rw [HEE.out], (below_set10 HI.out.below HI.out.n4 (.int .i64 0) (.int .i64 0) (.int .i64 0) (.int .i64 0) (.int .i64 0) (.int .i64 0) (.int .i64 0) (.bool false) (.string { data := #[] }) (.slice none 0 0))⟩
  ·have HRO := Aside0.mk hro
   have HEE : Aside0 (readE t a l = 0) := ⟨by unfold readE; rw [HRR.out]; dsimp only; rw [HE0.out, hro]; simp⟩
   clear hro
   go_wp2_with (first
    | ((with_reducible refine gate_dst (N := 54) rfl ?_); go_must (((try (refine gate_guard (by rfl) ?_; dsimp only)); refine goesL_ (some 54) rfl rfl Try.func34 (by kernel_rfl) rfl #[.pointer (some ⟨gr, 0, none⟩)] rfl ?hA ?_; (case hA => ((try simp only [List.map_toArray, List.map_cons, List.map_nil]); first | done | rfl)); refine (done_calls gr l1 k1 w _ (by exact HI.out.rdr)).mono ?_; rw [HE0.out]; rintro e wd ⟨rfl, hd⟩; refine ⟨_, rfl, ?_⟩; replace HI := Aside0.mk (HI.out.below' hd.below); clear z0 z1 z2 z3 z4 z5 z6 z7 z8 z9 y0 y1 y2 y3 y4 y5 y6 y7 y8 y9; obtain ⟨z0, z1, z2, z3, z4, z5, z6, z7, z8, z9⟩ := cells10 HI.out.h4; obtain ⟨y0, y1, y2, y3, y4, y5, y6, y7, y8, y9⟩ := froz10 HI.out.h4; clear c0 c1 c2 c3 c4 c5 c6 c7 c8 c9; obtain ⟨c0, c1, c2, c3, c4, c5, c6, c7, c8, c9⟩ := cells10 HI.out.h7; clear hd)))
    | ((with_reducible refine gate_dst (N := 60) rfl ?_); go_must (((try (refine gate_guard (by rfl) ?_; dsimp only)); refine goesL_ (some 60) rfl rfl Try.func25 (by kernel_rfl) rfl #[.agg #[.int .i64 k, .int .i64 t, .int .i64 a, .int .i64 t, .int .i64 a, .int .i64 0, .int .i64 0, .bool false, .string ({ data := #[] }), (.slice none 0 0)]] rfl ?hA ?_; (case hA => ((try simp only [List.map_toArray, List.map_cons, List.map_nil]); first | done | rfl)); refine (oright_calls _ _ _ _ _ _ _ _ _ _ [] _ (Rd.nil _)).mono ?_; rw [HRO.out]; rintro e wr ⟨rfl, hb⟩; refine ⟨_, rfl, ?_⟩; replace HI := Aside0.mk (HI.out.below' hb); clear z0 z1 z2 z3 z4 z5 z6 z7 z8 z9 y0 y1 y2 y3 y4 y5 y6 y7 y8 y9; obtain ⟨z0, z1, z2, z3, z4, z5, z6, z7, z8, z9⟩ := cells10 HI.out.h4; obtain ⟨y0, y1, y2, y3, y4, y5, y6, y7, y8, y9⟩ := froz10 HI.out.h4; clear c0 c1 c2 c3 c4 c5 c6 c7 c8 c9; obtain ⟨c0, c1, c2, c3, c4, c5, c6, c7, c8, c9⟩ := cells10 HI.out.h7; clear hb))))
   have h4 := blk_set10 HI.out.h4 (.int .i64 k) (.int .i64 t) (.int .i64 a) (.int .i64 t) (.int .i64 a) (.int .i64 0) (.int .i64 0) (.bool false) (.string { data := #[] }) (.slice none 0 0)
   obtain ⟨q0, q1, q2, q3, q4, q5, q6, q7, q8, q9⟩ := cells10 h4
   exact bodyPost_ret (v := .tuple #[.agg #[.int .i64 k, .int .i64 t, .int .i64 a, .int .i64 t, .int .i64 a, .int .i64 0, .int .i64 0, .bool false, .string { data := #[] }, .slice none 0 0], .int .i64 0]) (by simp [results, Try.results15, go_sem, q0, q1, q2, q3, q4, q5, q6, q7, q8, q9]) rfl ⟨fun _ => ⟨_, by rw [HRR.out], by rw [HRR.out]; exact Rd.nil _⟩, fun h => absurd HEE.out h, (below_set10 HI.out.below HI.out.n4 (.int .i64 k) (.int .i64 t) (.int .i64 a) (.int .i64 t) (.int .i64 a) (.int .i64 0) (.int .i64 0) (.bool false) (.string { data := #[] }) (.slice none 0 0))⟩
 ·have heb : (e0 != 0) = true := by simpa using he
  have HEE : Aside0 (readE t a l = e0) := ⟨by unfold readE; rw [HRR.out]; dsimp only; rw [HE0.out, if_pos he]⟩
  go_wp2_with (first
   | ((with_reducible refine gate_dst (N := 54) rfl ?_); go_must (((try (refine gate_guard (by rfl) ?_; dsimp only)); refine goesL_ (some 54) rfl rfl Try.func34 (by kernel_rfl) rfl #[.pointer (some ⟨gr, 0, none⟩)] rfl ?hA ?_; (case hA => ((try simp only [List.map_toArray, List.map_cons, List.map_nil]); first | done | rfl)); refine (done_calls gr l1 k1 w _ (by exact HI.out.rdr)).mono ?_; rw [HE0.out]; rintro e wd ⟨rfl, hd⟩; refine ⟨_, rfl, ?_⟩; replace HI := Aside0.mk (HI.out.below' hd.below); clear z0 z1 z2 z3 z4 z5 z6 z7 z8 z9 y0 y1 y2 y3 y4 y5 y6 y7 y8 y9; obtain ⟨z0, z1, z2, z3, z4, z5, z6, z7, z8, z9⟩ := cells10 HI.out.h4; obtain ⟨y0, y1, y2, y3, y4, y5, y6, y7, y8, y9⟩ := froz10 HI.out.h4; clear c0 c1 c2 c3 c4 c5 c6 c7 c8 c9; obtain ⟨c0, c1, c2, c3, c4, c5, c6, c7, c8, c9⟩ := cells10 HI.out.h7; clear hd))))
  have h4 := blk_set10 HI.out.h4 (.int .i64 0) (.int .i64 0) (.int .i64 0) (.int .i64 0) (.int .i64 0) (.int .i64 0) (.int .i64 0) (.bool false) (.string { data := #[] }) (.slice none 0 0)
  obtain ⟨q0, q1, q2, q3, q4, q5, q6, q7, q8, q9⟩ := cells10 h4
  exact bodyPost_ret (v := .tuple #[.agg #[.int .i64 0, .int .i64 0, .int .i64 0, .int .i64 0, .int .i64 0, .int .i64 0, .int .i64 0, .bool false, .string { data := #[] }, .slice none 0 0], .int .i64 e0]) (by simp [results, Try.results15, go_sem, q0, q1, q2, q3, q4, q5, q6, q7, q8, q9]) rfl ⟨fun h => absurd (HEE.out.symm.trans h) he, fun _ => by rw [HEE.out], (below_set10 HI.out.below HI.out.n4 (.int .i64 0) (.int .i64 0) (.int .i64 0) (.int .i64 0) (.int .i64 0) (.int .i64 0) (.int .i64 0) (.bool false) (.string { data := #[] }) (.slice none 0 0))⟩
end Go.Proofs.Ytaiakklflmhpmaa.K

namespace Go.Proofs.Ytaiakklflmhpmaa.K
open Go.RowKit Go.Proofs.YtaiakklflmhpmaaW.PrintWords Go.Proofs.YtaiakklflmhpmaaW.PrintLast Go.Proofs.YtaiakklflmhpmaaW.PrintMore
set_option linter.unusedVariables false
set_option linter.unusedSimpArgs false

theorem same_true (v0 v1 : Value) (l : List Int) (w : World) (hr0 : Rd w v0 l) (hr1 : Rd w v1 l) :
  Calls Try.prog 16 #[v0, v1] w fun e w' => e = .returned (.bool true) ∧ Below w.heap.size w w' :=
 (same_calls v0 v1 l l w hr0 hr1).mono fun e w' ⟨he, hd⟩ => ⟨by simpa using he, hd.below⟩
theorem nameB_one (x : UInt8) (h : oddN x.toNat = false) (h46 : x ≠ 46) : nameB ⟨#[x]⟩ = true := by
 have h1 : ¬ anyOdd ⟨#[x]⟩ := by
  rintro ⟨j, hj, h2⟩
  have hj0 : j = 0 := by
   have : j < 1 := hj
   omega
  subst hj0
  rw [show (ByteArray.mk #[x]).get! 0 = x from rfl, h] at h2
  exact absurd h2 (by decide)
 have h2 : (ByteArray.mk #[x]).toList = [x] := by
  simp [ByteArray.toList, ByteArray.toList.loop, ByteArray.size, ByteArray.get!]
 have h3 : (ByteArray.mk #[x]).size = 1 := rfl
 simp [nameB, h1, h2, h3, h46]

theorem alive_right : rightO 1 3 1 3 1 0 0 true ⟨#[97]⟩ ([] : List Int).length = true := by
 have h := nameB_one 97 (by decide) (by decide)
 simp [rightO, h, rightS, placeS]
theorem alive_text : tx1 3 1 0 0 true ⟨#[97]⟩ [] 3 = [1, 0, 0, 1, 1, 97] := by
 have e1 : (ByteArray.mk #[97]).size = 1 := rfl
 have e2 : bytesOf ⟨#[97]⟩ = [97] := rfl
 simp only [tx1, e1, e2, dirI, putS]
 rw [numL_small (by decide), show zz 0 = 0 from rfl, show (max (0 : Int) 0).toNat = 0 from rfl, numL_small (by decide)]
 rfl
theorem alive_readR : readR 3 1 [1, 0, 0, 1, 1, 97] = ⟨1, 3, 1, 0, 0, true, ⟨#[97]⟩, [], [], 0⟩ := by rfl
theorem alive_readE : readE 3 1 [1, 0, 0, 1, 1, 97] = 0 := by
 unfold readE
 rw [alive_readR]
 have h := alive_right
 simp only [List.length_nil] at h
 simp [doneR, h]

/-- What lies in a block. -/
def Lies (W : World) (g : Nat) (o : Obj) : Prop := W.heap[g]? = some o
theorem Lies.below {W W1 : World} {g : Nat} {o : Obj} (h : Lies W g o) (hb : Below W.heap.size W W1) : Lies W1 g o := blk_below h hb
theorem root_calls (w : World) : Calls Try.prog 18 #[] w fun e w' => e = .returned (.agg #[.int .i64 0, .int .i64 0]) ∧ Below w.heap.size w w' := X.op_Root.calls 0 0 w rfl

theorem oread_ok (v : Value) (l : List Int) (t a : Int) (w : World) (hr : Rd w v l) (hl : BL l) (R : OpR) (hR : readR t a l = R) (hE : readE t a l = 0) :
  Calls Try.prog 15 #[v, .agg #[.int .i64 t, .int .i64 a]] w fun e w' => ∃ vd, e = .returned (.tuple #[.agg #[.int .i64 R.k, .int .i64 t, .int .i64 a, .int .i64 R.u, .int .i64 R.b, .int .i64 R.p, .int .i64 R.c, .bool R.d, .string R.s, vd], .int .i64 0]) ∧ Rd w' vd R.dt ∧ Below w.heap.size w w' := by
 subst hR
 exact (oread_calls v l t a w hr hl).mono fun e w' ⟨h1, _, h3⟩ => by obtain ⟨vd, he, hd⟩ := h1 hE; exact ⟨vd, he, hd, h3⟩
attribute [local go_sem high] X.eqA28
set_option maxRecDepth 100000 in
set_option maxHeartbeats 4000000 in
theorem alive15_calls (w : World) :
  Calls Try.prog 6 #[] w fun e w' => e = .returned (.bool true) ∧ Below w.heap.size w w' := by
 have hu2 := Try.underlying31
 have hu3 := Try.underlying28
 have HB := Aside0.mk (Below.refl w.heap.size w)
 have BS : Aside0 (Lies (w.alloc (.cells #[.int .i64 3, .int .i64 1] 28)) w.heap.size (.cells #[.int .i64 3, .int .i64 1] 28 (0, 0))) := ⟨blk_new w _⟩
 have BLL : Aside0 (BL [1, 0, 0, 1, 1, 97]) := ⟨by constructor <;> decide⟩
 have h97 : nameB ⟨#[120]⟩ = true := nameB_one 120 (by decide) (by decide)
 go_enter Try.func6, Try.ntmps6
 go_wp2_with (first
  | ((with_reducible refine gate_dst (N := 11) rfl ?_); go_must (((try (refine gate_guard (by rfl) ?_; dsimp only)); refine goesL_ (some 11) rfl rfl Try.func14 (by kernel_rfl) rfl #[.agg #[.int .i64 1, .int .i64 3, .int .i64 1, .int .i64 3, .int .i64 1, .int .i64 0, .int .i64 0, .bool true, .string ({ data := #[97] }), (.slice none 0 0)]] rfl ?hA ?_; (case hA => ((try simp only [List.map_toArray, List.map_cons, List.map_nil]); first | done | rfl)); refine (text1_calls 3 1 3 1 0 0 true ⟨#[97]⟩ _ [] _ (Rd.nil _) alive_right (by decide) (by decide)).mono ?_; rintro e wt ⟨vt, rfl, ht, hb⟩; refine ⟨_, rfl, ?_⟩; rw [alive_text] at ht; have HT := Aside0.mk ht; replace BS := Aside0.mk (BS.out.below hb); have s0 : wt.cell? ⟨w.heap.size, 0, none⟩ = some (.int .i64 3) := (blk_cell BS.out 0).trans rfl; have s1 : wt.cell? ⟨w.heap.size, 1, none⟩ = some (.int .i64 1) := (blk_cell BS.out 1).trans rfl; replace HB := Aside0.mk (below_step (by repeat (first | (with_reducible first | exact HB.out | apply below_alloc | apply pw_below_drewN | apply below_drew1) | exact HB.out)) hb); clear ht hb)))
  | ((with_reducible refine gate_dst (N := 15) rfl ?_); go_must (((try (refine gate_guard (by rfl) ?_; dsimp only)); refine lit_bytes (w0 := w) (w).heap.size 15 ?hg ?hd ([1, 0, 0, 1, 1, 97]) ?hr ?hm HB.out HB.out.size ?_; (case hd => rfl); (case hg => rfl); (case hr => first | (go_simp; done) | (go_simp; rfl)); (case hm => simp); intro vHO wHO ho hb hbw; have HO := Aside0.mk ho; clear HB; have HB := Aside0.mk hb; replace HT := Aside0.mk (HT.out.below hbw); replace BS := Aside0.mk (BS.out.below hbw); have s0 := (blk_cell BS.out 0).trans rfl; have s1 := (blk_cell BS.out 1).trans rfl; clear ho hb hbw)))
  | ((with_reducible refine gate_dst (N := 17) rfl ?_); go_must (((try (refine gate_guard (by rfl) ?_; dsimp only)); refine goesL_ (some 17) rfl rfl Try.func15 (by kernel_rfl) rfl #[vHO, .agg #[.int .i64 3, .int .i64 1]] rfl ?hA ?_; (case hA => ((try simp only [List.map_toArray, List.map_cons, List.map_nil]); first | done | rfl)); refine (oread_ok _ [1, 0, 0, 1, 1, 97] 3 1 _ HO.out.rd BLL.out _ alive_readR alive_readE).mono ?_; dsimp only; rintro e wr ⟨vd, rfl, hdr, hb⟩; refine ⟨_, rfl, ?_⟩; obtain ⟨Ad, cd, rfl, -, -⟩ := hdr; replace HT := Aside0.mk (HT.out.below hb); replace HB := Aside0.mk (below_step (by repeat (first | (with_reducible first | exact HB.out | apply below_alloc | apply pw_below_drewN | apply below_drew1) | exact HB.out)) hb); have BO : Aside0 (Lies (wr.alloc (.cells #[.int .i64 1, .int .i64 3, .int .i64 1, .int .i64 3, .int .i64 1, .int .i64 0, .int .i64 0, .bool true, .string ({ data := #[97] }), (.slice Ad 0 cd)] 31)) wr.heap.size (.cells #[.int .i64 1, .int .i64 3, .int .i64 1, .int .i64 3, .int .i64 1, .int .i64 0, .int .i64 0, .bool true, .string ({ data := #[97] }), (.slice Ad 0 cd)] 31 (0, 0))) := ⟨blk_new wr _⟩; replace HB := Aside0.mk (below_alloc HB.out (.cells #[.int .i64 1, .int .i64 3, .int .i64 1, .int .i64 3, .int .i64 1, .int .i64 0, .int .i64 0, .bool true, .string ({ data := #[97] }), (.slice Ad 0 cd)] 31)); replace HT := Aside0.mk (HT.out.below (below_alloc (Below.refl _ _) (.cells #[.int .i64 1, .int .i64 3, .int .i64 1, .int .i64 3, .int .i64 1, .int .i64 0, .int .i64 0, .bool true, .string ({ data := #[97] }), (.slice Ad 0 cd)] 31))); clear hb)))
  | ((with_reducible refine gate_dst (N := 28) rfl ?_); go_must (((try (refine gate_guard (by rfl) ?_; dsimp only)); refine lit_bytes (w0 := w) (w).heap.size 28 ?hg ?hd ([1, 0, 0, 1, 1, 97]) ?hr ?hm HB.out HB.out.size ?_; (case hd => rfl); (case hg => rfl); (case hr => first | (go_simp; done) | (go_simp; rfl)); (case hm => simp); intro vHO2 wHO2 ho hb hbw; have HO2 := Aside0.mk ho; clear HB; have HB := Aside0.mk hb; replace HT := Aside0.mk (HT.out.below hbw); replace BO := Aside0.mk (BO.out.below hbw); have q7 := (blk_cell BO.out 7).trans rfl; have q8 := (blk_cell BO.out 8).trans rfl; clear ho hb hbw)))
  | ((with_reducible refine gate_dst (N := 29) rfl ?_); go_must (((try (refine gate_guard (by rfl) ?_; dsimp only)); refine goesL_ (some 29) rfl rfl Try.func16 (by kernel_rfl) rfl #[vt, vHO2] rfl ?hA ?_; (case hA => ((try simp only [List.map_toArray, List.map_cons, List.map_nil]); first | done | rfl)); refine (same_true _ _ [1, 0, 0, 1, 1, 97] _ HT.out HO2.out.rd).mono ?_; rintro e ws ⟨rfl, hb⟩; refine ⟨_, rfl, ?_⟩; replace BO := Aside0.mk (BO.out.below hb); have q7 := (blk_cell BO.out 7).trans rfl; have q8 := (blk_cell BO.out 8).trans rfl; replace HB := Aside0.mk (below_step (by repeat (first | (with_reducible first | exact HB.out | apply below_alloc | apply pw_below_drewN | apply below_drew1) | exact HB.out)) hb); clear hb)))
  | ((with_reducible refine gate_dst (N := 41) rfl ?_); go_must (((try (refine gate_guard (by rfl) ?_; dsimp only)); refine goesL_ (some 41) rfl rfl Try.func17 (by kernel_rfl) rfl #[.string { data := #[120] }] rfl ?hA ?_; (case hA => ((try simp only [List.map_toArray, List.map_cons, List.map_nil]); first | done | rfl)); refine (name_calls _ _).mono ?_; rw [h97]; rintro e wn ⟨rfl, hb⟩; refine ⟨_, rfl, ?_⟩; replace HB := Aside0.mk (below_step (by repeat (first | (with_reducible first | exact HB.out | apply below_alloc | apply pw_below_drewN | apply below_drew1) | exact HB.out)) hb); clear hb)))
  | ((with_reducible refine gate_dst (N := 44) rfl ?_); go_must (((try (refine gate_guard (by rfl) ?_; dsimp only)); refine goesL_ (some 44) rfl rfl Try.func18 (by kernel_rfl) rfl #[] rfl ?hA ?_; (case hA => ((try simp only [List.map_toArray, List.map_cons, List.map_nil]); first | done | rfl)); refine (root_calls _).mono ?_; rintro e wz ⟨rfl, hb⟩; refine ⟨_, rfl, ?_⟩; replace HB := Aside0.mk (below_step (by repeat (first | (with_reducible first | exact HB.out | apply below_alloc | apply pw_below_drewN | apply below_drew1) | exact HB.out)) hb); clear hb))))
 go_ret
 exact ⟨rfl, HB.out⟩
end Go.Proofs.Ytaiakklflmhpmaa.K

/- (buffer.pile).Push, Pop. (buffer.pile).Pop. container/heap.Push. container/heap.Remove, Pop. container/heap.Remove. container/heap.Init. -/
import Derived.Test.YtekhpogigndlkaaMB
import Derived.Deep.RegionLaw
namespace Go.Proofs.Ytekhpogigndlkaa.K
open Go.RowKit Go.Proofs.YtekhpogigndlkaaW.PrintWords Go.Proofs.YtekhpogigndlkaaW.PrintLast Go.Proofs.YtekhpogigndlkaaW.PrintMore
set_option linter.unusedVariables false
set_option linter.unusedSimpArgs false

theorem infoEn : (Try.prog.info? 33).map (fun i => (i.zero, i.size, i.bytes)) = some (some (.agg #[.int .i64 0, .int .i64 0, .int .u64 0, .int .i64 0, .int .i64 0, .int .i64 0, .slice none 0 0, .int .u64 0]), 8, 80) := by kernel_rfl
theorem as_en (v : Value) (w : World) (x : Nat) : (Instr.typeAssert (.iface 33 v) x 33 false).run Try.prog w = .ok v w := by
  have hu := Try.underlying33
  simp [Instr.typeAssert, run_underlying hu, go_sem]
theorem as_enOk (v : Value) (w : World) (x : Nat) : (Instr.typeAssert (.iface 33 v) x 33 true).run Try.prog w = .ok (.tuple #[v, .bool true]) w := by
  have hu := Try.underlying33
  simp [Instr.typeAssert, run_underlying hu, go_sem]
theorem setIfInBounds_twice (cs : Array Value) (i : Nat) (u v : Value) : (cs.setIfInBounds i u).setIfInBounds i v = cs.setIfInBounds i v := by simp
/-- A pile's header: cell po of block pb. -/
structure Pile (W : World) (base pb po : Nat) (cs : Array Value) (t : Nat) (v : Value) (ps : List EP) : Prop where
  hd : W.heap[pb]? = some (.cells (cs.setIfInBounds po v) t (0, 0))
  lt : po < cs.size
  ht : t ≠ 5 ∧ t ≠ 33
  row : PlR W base v ps
  bs : base ≤ pb
theorem Pile.cell {W : World} {base pb po t : Nat} {cs : Array Value} {v : Value} {ps : List EP} (h : Pile W base pb po cs t v ps) : W.cell? ⟨pb, po, none⟩ = some v := (blk_cell h.hd po).trans (Array.getElem?_setIfInBounds_self_of_lt h.lt)
theorem Pile.ne {W : World} {base pb po t : Nat} {cs : Array Value} {v : Value} {ps : List EP} (h : Pile W base pb po cs t v ps) (k : Nat) (hk : v.ownBlock = some k) : pb ≠ k := by
  rintro rfl
  obtain ⟨cs', hc⟩ := h.row.typed _ hk
  rw [h.hd] at hc
  injection hc with hc
  injection hc with _ hc
  exact h.ht.2 hc
theorem Pile.below {w W : World} {base pb po t : Nat} {cs : Array Value} {v : Value} {ps : List EP} (h : Pile w base pb po cs t v ps) (hb : Below w.heap.size w W) : Pile W base pb po cs t v ps := ⟨blk_below h.hd hb, h.lt, h.ht, h.row.below hb, h.bs⟩
theorem row_below {w W : World} {base pb po t n : Nat} {cs : Array Value} {v : Value} {ps : List EP} (h : Pile w base pb po cs t v ps) (hn : ps.length = n) (hb : Below w.heap.size w W) : W.ownsRow base 33 8 v n (flE ps) := by
  subst hn
  exact (h.row.below hb).row
/-- A row's own steps. -/
theorem Pile.rowed {w W : World} {base pb po t gr n cap : Nat} {cs : Array Value} {ps qs : List EP} (h : Pile w base pb po cs t (.slice (some ⟨gr, 0, none⟩) n cap) ps) (hf : Fr w W (SR gr)) (hr : PlR W base (.slice (some ⟨gr, 0, none⟩) n cap) qs) : Pile W base pb po cs t (.slice (some ⟨gr, 0, none⟩) n cap) qs :=
  ⟨hf.blk h.hd (h.ne gr rfl), h.lt, h.ht, hr, h.bs⟩
theorem enC_one (p : EP) : ∀ u ∈ enC p, u.oneCell' = true := by
  intro u hu
  simp only [enC, List.mem_cons, List.not_mem_nil, or_false] at hu
  rcases hu with rfl | rfl | rfl | rfl | rfl | rfl | rfl | rfl <;> rfl
theorem grown_fr {w W : World} {row : Option Nat} (h : w.grownBy W row) : Fr w W (fun k => row = some k) := ⟨h.os, h.tape, h.output, h.size, fun k hk hn => h.block k hk (fun e => hn e.symm)⟩
/-- What Push leaves. -/
def PushP (w : World) (base pb po : Nat) (cs : Array Value) (t : Nat) (v : Value) (qs : List EP) (W : World) : Prop :=
  ∃ g cap, Pile W base pb po cs t (.slice (some ⟨g, 0, none⟩) qs.length cap) qs ∧ Fr w W (SP pb v) ∧ (v.ownBlock = some g ∨ w.heap.size ≤ g)
set_option maxRecDepth 100000 in
set_option maxHeartbeats 8000000 in
theorem ppush_calls (base pb po t n : Nat) (A : Option Addr) (c : Nat) (cs : Array Value) (ps : List EP) (p : EP) (w : World) (h : Pile w base pb po cs t (.slice A n c) ps) (hn : ps.length = n) (hb : Own w base p.b p.e.f5) (hl : n ≤ 100000) (hbw : base ≤ w.heap.size) :
    Calls Try.prog 69 #[.pointer (some ⟨pb, po, none⟩), .iface 33 (enV p)] w fun e w' => e = .returned (.tuple #[]) ∧ PushP w base pb po cs t (.slice A n c) (ps ++ [p]) w' := by
  have c0 := h.cell
  have f0 := blk_frozen h.hd po
  have c0a : (w.alloc (.cells (enC p).toArray 33)).cell? ⟨pb, po, none⟩ = some (.slice A n c) := pw_cell_below (below_alloc (Below.refl _ _) _) c0
  have HH := Aside0.mk h
  have HBD := Aside0.mk hb
  have HN := Aside0.mk hn
  have HL := Aside0.mk hl
  have HW := Aside0.mk hbw
  clear h hb hn hl hbw
  obtain ⟨i, hi, hzz⟩ := Option.map_eq_some_iff.1 infoEn
  simp only [Prod.mk.injEq] at hzz
  obtain ⟨hz, hs8, hs80⟩ := hzz
  have hta := fun w => as_en (enV p) w 20
  simp only [enV, enC] at hta c0a ⊢
  go_enter Try.func69, Try.ntmps69
  go_region_law (first
    | (refine step_append_lies _ rfl (.tmp 7) (.tmp 10) 57 rfl base 33 _ _ 8 80 Try.underlying57 hi hz hs8 hs80 rfl (by decide) (.slice A n c) n (flE ps) rfl ?ho _ 1 1 (enC p) rfl rfl ?hnews (enC_one p) (by decide) ?h63 ?hby ?hbs _ rfl ?_;
       (case ho => exact row_below HH.out HN.out (by with_reducible repeat (first | exact Below.refl _ _ | apply below_alloc | apply below_drew1)));
       (case hnews => exact fun j u hu => World.news_of_block (heap_alloc_new _ _) j u hu);
       (case h63 => (have := HL.out; simp only [maxLen]; omega));
       (case hby => (have := HL.out; omega));
       (case hbs => (have := HW.out; simp; omega));
       intro g cap w11 ho hg hat hlt;
       have HF11 : Aside0 (Fr w w11 (fun k => (Value.slice A n c).ownBlock = some k)) := ⟨(Fr.ofBelow _ (by repeat (first | exact Below.refl _ _ | apply below_alloc | apply below_drew1))).trans (grown_fr hg) (fun _ _ h => h)⟩;
       have hd11 := HF11.out.blk HH.out.hd (fun e => HH.out.ne pb e rfl);
       have c11 := (blk_cell hd11 po).trans (Array.getElem?_setIfInBounds_self_of_lt HH.out.lt); have f11 := blk_frozen hd11 po;
       have HD11 := Aside0.mk hd11; have HO11 := Aside0.mk ho; have HAT := Aside0.mk hat; clear ho hg hat hlt hd11))
  all_goals
    refine gen_bp (fun W2 hW2 => ?_)
    have hb2 : W2.heap[pb]? = some (.cells (cs.setIfInBounds po (.slice (some ⟨g, 0, none⟩) (n + 1) cap)) t (0, 0)) := by
      rw [hW2]
      have := blk_set HD11.out po (.slice (some ⟨g, 0, none⟩) (n + 1) cap)
      rw [setIfInBounds_twice] at this
      exact this
    have hf2 : Fr w W2 (SP pb (.slice A n c)) := by rw [hW2]; exact Fr.set (HF11.out.mono (fun k _ hk => .inr hk)) (.inl (.inl rfl)) _ _
    have ho2 : W2.ownsRow base 33 8 (.slice (some ⟨g, 0, none⟩) (n + 1) cap) (n + 1) (flE ps ++ enC p) := by
      rw [hW2]
      refine own_move HO11.out (fun k hk => Below.heap_setCell _ _ _ _ ?_)
      rintro rfl
      obtain ⟨cs', hc⟩ := own_typed HO11.out k hk
      rw [HD11.out] at hc
      injection hc with hc
      injection hc with _ hc
      exact HH.out.ht.2 hc
    have HB2 := Aside0.mk hb2
    have HF2 := Aside0.mk hf2
    have HO2 := Aside0.mk ho2
    clear hb2 hf2 ho2 hW2
    go_end0
    refine ⟨rfl, g, cap, ⟨by rw [List.length_append, HN.out]; exact HB2.out, HH.out.lt, HH.out.ht, ⟨by rw [List.length_append, HN.out, flE_append]; simpa [flE] using HO2.out, fun q hq => ?_⟩, HH.out.bs⟩, HF2.out, ?_⟩
    · rcases List.mem_append.1 hq with hq | hq
      · exact Own.farP (HH.out.row.bod q hq) HF2.out HH.out.row HH.out.hd HH.out.ht.1
      · rw [List.mem_singleton.1 hq]
        exact Own.farP HBD.out HF2.out HH.out.row HH.out.hd HH.out.ht.1
    · rcases HAT.out with h | h
      · exact .inl h
      · exact .inr (by rw [h]; simp)
end Go.Proofs.Ytekhpogigndlkaa.K

namespace Go.Proofs.Ytekhpogigndlkaa.K
open Go.RowKit Go.Proofs.YtekhpogigndlkaaW.PrintWords Go.Proofs.YtekhpogigndlkaaW.PrintLast Go.Proofs.YtekhpogigndlkaaW.PrintMore
set_option linter.unusedVariables false
set_option linter.unusedSimpArgs false

theorem w64 {x y : Int} (h : x = y) (k : -1000000 ≤ y ∧ y ≤ 1000000) : wrap64 x = y := by
  subst h
  unfold wrap64
  rw [Int.emod_eq_of_lt (by omega) (by omega)]
  omega
theorem iw {x y : Int} (h : x = y) (k : -1000000 ≤ y ∧ y ≤ 1000000) : IntKind.i64.wrap x = y := by
  rw [i64_w]
  exact w64 h k
/-- A shorter row. -/
theorem PlR.less {W : World} {base gr n m cap : Nat} {ps qs : List EP} (h : PlR W base (.slice (some ⟨gr, 0, none⟩) n cap) ps) (hn : ps.length = n) (hq : ps.take m = qs) (hm : m ≤ n) : PlR W base (.slice (some ⟨gr, 0, none⟩) m cap) qs := by
  subst hn
  have hl : qs.length = m := by rw [← hq, List.length_take]; omega
  refine ⟨⟨by rw [flE_length], .inr ?_⟩, fun p hp => h.bod p (List.mem_of_mem_take (hq ▸ hp))⟩
  rcases h.row.2 with ⟨h1, _⟩ | ⟨g, cap', cur, h1, h2, h3, h4, h5, h6, h7⟩
  · cases h1
  · injection h1 with h1 _ hc
    injection h1 with h1
    injection h1 with h1
    subst h1 hc
    refine ⟨gr, cap, cur, by rw [hl], h2, h3, by omega, h5, h6, ?_⟩
    have e : flE ps = flE (ps.take m) ++ flE (ps.drop m) := by rw [← flE_append, List.take_append_drop]
    have h8 := congrArg (List.take (qs.length * 8)) h7
    rw [List.take_take, show min (qs.length * 8) (ps.length * 8) = qs.length * 8 by omega, e, hq] at h8
    rw [h8, List.take_append_of_le_length (by rw [flE_length]; omega), List.take_of_length_le (by rw [flE_length]; omega)]
/-- What Pop leaves. -/
def PopP (w : World) (base pb po : Nat) (cs : Array Value) (t gr cap n : Nat) (qs : List EP) (p : EP) (v : Value) (e : Ending) (W : World) : Prop :=
  e = .returned (.iface 33 (enV p)) ∧ Pile W base pb po cs t (.slice (some ⟨gr, 0, none⟩) n cap) qs ∧ Fr w W (SP pb v)
theorem pop_arith {n cap l : Nat} (hl : n ≤ 100000) (hlen : l = n + 1) (hnc : l ≤ cap) : (0 : Int) ≤ n ∧ (n : Int) < n + 1 ∧ n + 1 ≤ cap ∧ n ≤ cap ∧ (n : Int) ≤ cap ∧ ((-1000000 : Int) ≤ n ∧ (n : Int) ≤ 1000000) ∧ ((n + 1 : Nat) : Int) - 1 = n ∧ (n : Int) + 1 - 1 = n := by omega
set_option maxRecDepth 100000 in
set_option maxHeartbeats 8000000 in
theorem ppop_calls (base pb po t gr cap n : Nat) (cs : Array Value) (qs : List EP) (p : EP) (w : World) (h : Pile w base pb po cs t (.slice (some ⟨gr, 0, none⟩) (n + 1) cap) (qs ++ [p])) (hn : qs.length = n) (hl : n ≤ 100000) :
    Calls Try.prog 68 #[.pointer (some ⟨pb, po, none⟩)] w fun e w' => PopP w base pb po cs t gr cap n qs p (.slice (some ⟨gr, 0, none⟩) (n + 1) cap) e w' := by
  have hlen : (qs ++ [p]).length = n + 1 := by simp [hn]
  have c0 := h.cell
  have f0 := blk_frozen h.hd po
  rcases h.row.slice with ⟨h1, _⟩ | ⟨g, cap', cur, h1, hbg, hcur, hnc, hcm, hsz, htk⟩
  · cases h1
  injection h1 with h1 hle h2
  injection h1 with h1
  injection h1 with h1
  subst h1 h2
  obtain ⟨x0, x1, x2, x3, x4, x5, x6, x7⟩ := cells_at hcur htk (i := n) (p := p) (by rw [List.getElem?_append_right (by omega), hn]; simp)
  have HH := Aside0.mk h
  have HN := Aside0.mk hn
  obtain ⟨hn0, hn1, hnc', hnc2, hnc3, hk, e1, e3⟩ := pop_arith hl hlen hnc
  have hgs : gr < w.heap.size := blk_lt hcur
  have hps : pb < w.heap.size := blk_lt h.hd
  have hne : w.heap.size ≠ pb := Nat.ne_of_gt hps
  have hw1 := iw e1 hk
  have hw2 := w64 e1 hk
  have hw3 := iw e3 hk
  have hw4 := w64 e3 hk
  have hw5 : wrap64 (n : Int) = n := w64 rfl hk
  have hw6 : IntKind.i64.wrap (n : Int) = n := iw rfl hk
  clear e1 e3 hk
  clear h hn hlen hcur htk hnc hle
  go_enter Try.func68, Try.ntmps68
  go_upto_region 3 with fail
  refine gen_world (fun W2 hW2 => ?_)
  have hB2 : Below w.heap.size w W2 := by rw [hW2]; exact below_alloc (Below.refl _ _) _
  have hx2 : W2.heap[w.heap.size]? = some (.cells (enC p).toArray 33 (0, 0)) := by rw [hW2]; exact heap_alloc_new _ _
  have hh2 := blk_below HH.out.hd hB2
  have c2 := pw_cell_below hB2 c0
  have f2 := blk_frozen hh2 po
  obtain ⟨y0, y1, y2, y3, y4, y5, y6, y7⟩ := cells_at (ps := [p]) hx2 (by simp [flE, enC]) (i := 0) rfl
  simp only [Nat.zero_mul, Nat.zero_add] at y0 y1 y2 y3 y4 y5 y6 y7
  have HH2 := Aside0.mk (HH.out.below hB2)
  have HB2 := Aside0.mk hB2
  clear hcm hsz hw1 hw2 hw3 hw4 hW2 hB2 hx2 hh2 c0 f0 x0 x1 x2 x3 x4 x5 x6 x7
  go_wp2
  go_ret
  exact ⟨rfl, ⟨by have := blk_set HH2.out.hd po (.slice (some ⟨gr, 0, none⟩) n cap); rw [setIfInBounds_twice] at this; exact this, HH.out.lt, HH.out.ht, ((HH2.out.row.less (by simp [HN.out]) (by rw [List.take_left' HN.out]) (Nat.le_succ n)).fr (Fr.set (Fr.refl _ (fun k => k = pb)) (.inl rfl) _ _) (fun k hk e => HH.out.ne k (by exact hk) e.symm) (fun q hq k hk e => Own.typed (HH2.out.row.bod q (by simp [hq])) HH2.out.hd HH.out.ht.1 k hk e)), HH.out.bs⟩, Fr.set (Fr.ofBelow _ HB2.out) (.inl (.inl rfl)) _ _⟩
end Go.Proofs.Ytekhpogigndlkaa.K

namespace Go.Proofs.Ytekhpogigndlkaa.K
open Go.RowKit Go.Proofs.YtekhpogigndlkaaW.PrintWords Go.Proofs.YtekhpogigndlkaaW.PrintLast Go.Proofs.YtekhpogigndlkaaW.PrintMore
set_option linter.unusedVariables false
set_option linter.unusedSimpArgs false

/-- A pile that is a heap. -/
def HPushP (w : World) (base pb po : Nat) (cs : Array Value) (t n : Nat) (v : Value) (ps : List EP) (W : World) : Prop :=
  ∃ g cap qs, Pile W base pb po cs t (.slice (some ⟨g, 0, none⟩) n cap) qs ∧ qs.Perm ps ∧ HeapF (ky qs) n 0 ∧ Fr w W (SP pb v) ∧ (v.ownBlock = some g ∨ w.heap.size ≤ g)
theorem ky_left {ps qs : List EP} {k : Nat} (hk : k < ps.length) : ky (ps ++ qs) k = ky ps k := by
  unfold ky
  rw [List.getElem?_append_left hk]
/-- A later step of the row, behind a change of header and row. -/
theorem Fr.then_row {w W X : World} {pb g : Nat} {v : Value} (h : Fr w W (SP pb v)) (k : Fr W X (SR g)) (hg : v.ownBlock = some g ∨ w.heap.size ≤ g) : Fr w X (SP pb v) :=
  h.trans k (fun q hq e => by
    have e : q = g := e
    subst e
    rcases hg with hg | hg
    · exact .inr hg
    · omega)
set_option maxRecDepth 100000 in
set_option maxHeartbeats 8000000 in
theorem hpush_calls (base pb po t n : Nat) (A : Option Addr) (c : Nat) (cs : Array Value) (ps : List EP) (p : EP) (w : World) (h : Pile w base pb po cs t (.slice A n c) ps) (hn : ps.length = n) (hb : Own w base p.b p.e.f5) (hl : n + 1 ≤ 100000) (hbw : base ≤ w.heap.size)
    (hH : HeapF (ky ps) n 0) :
    Calls Try.prog 29 #[.iface 66 (.pointer (some ⟨pb, po, none⟩)), .iface 33 (enV p)] w fun e w' => e = .returned (.tuple #[]) ∧ HPushP w base pb po cs t (n + 1) (.slice A n c) (ps ++ [p]) w' := by
  have HH := Aside0.mk h
  have HBD := Aside0.mk hb
  have HN := Aside0.mk hn
  have HL := Aside0.mk hl
  have HW := Aside0.mk hbw
  have HHF := Aside0.mk hH
  have hm := meth_push ⟨pb, po, none⟩ w
  have e1 : ((n + 1 : Nat) : Int) - 1 = n := by omega
  have hk : (-1000000 : Int) ≤ n ∧ (n : Int) ≤ 1000000 := by omega
  have hw1 := iw e1 hk
  have hw2 := w64 e1 hk
  have e3 : (n : Int) + 1 - 1 = n := by omega
  have hw3 := iw e3 hk
  have hw4 := w64 e3 hk
  have hw5 : wrap64 (n : Int) = n := w64 rfl hk
  have hw6 : IntKind.i64.wrap (n : Int) = n := iw rfl hk
  have HLE : Aside0 ((ps ++ [p]).length = n + 1) := ⟨by simp [hn]⟩
  clear e1 e3 hk h hb hn hl hbw hH
  go_enter Try.func29, Try.ntmps29
  go_wp2_with (first
    | (go_at_call 69; go_must ((refine (ppush_calls base pb po t n A c cs ps p _ HH.out HN.out HBD.out (by have := HL.out; omega) HW.out).mono ?_; rintro e w6 ⟨rfl, g, cap, hP, hF, hA⟩; rw [HLE.out] at hP; have hc6 := hP.cell; have hm6 := meth_len pb po (n + 1) cap _ w6 hc6; have HP6 := Aside0.mk hP; have HF6 := Aside0.mk hF; have HA := Aside0.mk hA; clear hP hF hA)))
    | (go_at_call 76; go_must ((refine (len_calls base (n + 1) _ cap (ps ++ [p]) _ HP6.out.row).mono ?_; rintro e w9 ⟨rfl, hd⟩; have hc9 := pw_cell_below hd.below hc6; have HP9 := Aside0.mk (HP6.out.below hd.below); have HF9 := Aside0.mk (HF6.out.trans (Fr.ofBelow (fun _ => False) hd.below) (fun _ _ h => h.elim)); clear hd)))
    | (go_at_call 46; go_must ((refine (up_calls pb po g cap base (n + 1) (n + 1) n (ps ++ [p]) _ hc9 (HP9.out.ne g rfl) HP9.out.row HLE.out HL.out (Nat.le_refl _) (Nat.lt_succ_self n) (push_start HHF.out (fun k hk => ky_left (by rw [HN.out]; exact hk)))).mono ?_; rintro e w11 ⟨rfl, qs, hp, hr, hh, -, hf⟩; have HP11 := Aside0.mk (HP9.out.rowed hf hr); have HF11 := Aside0.mk (HF9.out.then_row hf HA.out); have HPM := Aside0.mk hp; have HHH := Aside0.mk hh; clear hp hr hh hf))))
  go_end0
  exact ⟨rfl, g, cap, qs, HP11.out, HPM.out, HHH.out, HF11.out, HA.out⟩
end Go.Proofs.Ytekhpogigndlkaa.K

namespace Go.Proofs.Ytekhpogigndlkaa.K
open Go.RowKit Go.Proofs.YtekhpogigndlkaaW.PrintWords Go.Proofs.YtekhpogigndlkaaW.PrintLast Go.Proofs.YtekhpogigndlkaaW.PrintMore
set_option linter.unusedVariables false
set_option linter.unusedSimpArgs false

/-- What is left behind a removal. -/
def RemP (w : World) (base pb po : Nat) (cs : Array Value) (t gr cap n : Nat) (ps : List EP) (p : EP) (e : Ending) (W : World) : Prop :=
  ∃ qs, e = .returned (.iface 33 (enV p)) ∧ Pile W base pb po cs t (.slice (some ⟨gr, 0, none⟩) n cap) qs ∧ (p :: qs).Perm ps ∧ HeapF (ky qs) n 0 ∧ Fr w W (SP pb (.slice (some ⟨gr, 0, none⟩) (n + 1) cap))
theorem split_last {qs : List EP} {n : Nat} {p : EP} (hl : qs.length = n + 1) (h : qs[n]? = some p) : qs = qs.take n ++ [p] := by
  apply List.ext_getElem?
  intro m
  rcases Nat.lt_trichotomy m n with h1 | h1 | h1
  · rw [List.getElem?_append_left (by rw [List.length_take]; omega), List.getElem?_take_of_lt h1]
  · subst h1
    rw [h, List.getElem?_append_right (by rw [List.length_take]; omega), List.length_take, show m - min m qs.length = 0 by omega]
    rfl
  · rw [List.getElem?_eq_none (by omega), List.getElem?_eq_none (by rw [List.length_append, List.length_take]; simp; omega)]
theorem down_zero {f : Nat → Ky} {n : Nat} {mv : Bool} (h1 : mv = true → HeapF f n 0) (h2 : mv = false → UpInv f n 0 0) : HeapF f n 0 := by
  cases mv with
  | true => exact h1 rfl
  | false => exact up_done (h2 rfl) (fun h => absurd h (by omega))
/-- The end of a removal. -/
theorem rem_end {w W X : World} {base pb po t gr cap n : Nat} {cs : Array Value} {ps rs : List EP} {p : EP} {e : Ending} (hl : rs.length = n + 1) (hp : rs[n]? = some p) (hpm : rs.Perm ps) (hH : HeapF (ky rs) n 0) (hF : Fr w W (SP pb (.slice (some ⟨gr, 0, none⟩) (n + 1) cap)))
    (h : PopP W base pb po cs t gr cap n (rs.take n) p (.slice (some ⟨gr, 0, none⟩) (n + 1) cap) e X) : RemP w base pb po cs t gr cap n ps p e X := by
  obtain ⟨h1, h2, h3⟩ := h
  refine ⟨_, h1, h2, ?_, heap_congr hH (fun k hk => ?_), hF.trans h3 (fun _ _ h => h)⟩
  · refine List.Perm.trans ?_ hpm
    have h4 := split_last hl hp
    generalize rs.take n = l at h4
    rw [h4]
    exact (List.perm_append_singleton p l).symm
  · unfold ky
    rw [List.getElem?_take_of_lt hk]
theorem Pile.split {W : World} {base pb po t n : Nat} {cs : Array Value} {v : Value} {rs : List EP} {p : EP} (h : Pile W base pb po cs t v rs) (hl : rs.length = n + 1) (hp : rs[n]? = some p) : Pile W base pb po cs t v (rs.take n ++ [p]) := by
  rw [← split_last hl hp]
  exact h
set_option maxRecDepth 100000 in
set_option maxHeartbeats 8000000 in
theorem hpop_calls (base pb po t gr cap n : Nat) (cs : Array Value) (ps : List EP) (p : EP) (w : World) (h : Pile w base pb po cs t (.slice (some ⟨gr, 0, none⟩) (n + 1) cap) ps) (hn : ps.length = n + 1) (hl : n + 1 ≤ 100000)
    (hH : HeapF (ky ps) (n + 1) 0) (hp : ps[0]? = some p) :
    Calls Try.prog 32 #[.iface 66 (.pointer (some ⟨pb, po, none⟩))] w fun e w' => RemP w base pb po cs t gr cap n ps p e w' := by
  obtain ⟨pn, hpn⟩ : ∃ x, ps[n]? = some x := ⟨_, List.getElem?_eq_getElem (by omega)⟩
  have HH := Aside0.mk h
  have HN := Aside0.mk hn
  have HL := Aside0.mk hl
  have HHF := Aside0.mk hH
  have HP0 := Aside0.mk hp
  have HPN := Aside0.mk hpn
  have hc := h.cell
  have hm := meth_len pb po (n + 1) cap _ w hc
  have e1 : ((n + 1 : Nat) : Int) - 1 = n := by omega
  have hk : (-1000000 : Int) ≤ n ∧ (n : Int) ≤ 1000000 := by omega
  have hw1 := iw e1 hk
  have hw2 := w64 e1 hk
  have e3 : (n : Int) + 1 - 1 = n := by omega
  have hw3 := iw e3 hk
  have hw4 := w64 e3 hk
  have hw5 : wrap64 (n : Int) = n := w64 rfl hk
  have hw6 : IntKind.i64.wrap (n : Int) = n := iw rfl hk
  clear e1 e3 hk h hn hl hH hp hpn
  go_enter Try.func32, Try.ntmps32
  go_wp2_with (first
    | (go_at_call 76; go_must ((refine (len_calls base (n + 1) _ cap ps _ HH.out.row).mono ?_; rintro e w5 ⟨rfl, hd⟩; have hc5 := pw_cell_below hd.below hc; have HP5 := Aside0.mk (HH.out.below hd.below); have HF5 : Aside0 (Fr w w5 (SP pb (.slice (some ⟨gr, 0, none⟩) (n + 1) cap))) := ⟨Fr.ofBelow _ hd.below⟩; have hm5 := meth_swap pb po (n + 1) cap _ w5 hc5; clear hd)))
    | (go_at_call 70; go_must ((refine (swap_at gr cap base 0 n (n + 1) ps p pn _ HP5.out.row HN.out HP0.out HPN.out).mono ?_; rintro e w9 ⟨rfl, hr, hf⟩; have HP9 := Aside0.mk (HP5.out.rowed hf hr); have HF9 := Aside0.mk (HF5.out.then_row hf (.inl rfl)); clear hr hf)))
    | (go_at_call 48; go_must ((refine (down_calls pb po gr cap base (n + 1) n 0 0 (swapP ps 0 n p pn) _ HP9.out.cell (HP9.out.ne gr rfl) HP9.out.row (by rw [swapP_length]; exact HN.out) HL.out (Nat.le_succ n) (Nat.zero_le n) (by rw [ky_swap HP0.out HPN.out]; exact remove_start HHF.out (Nat.zero_le n))).mono ?_; rintro e w12 ⟨mv, rs, rfl, hpm, hr, h1, h2, hk, hf⟩; have HP12 := Aside0.mk (HP9.out.rowed hf hr); have HF12 := Aside0.mk (HF9.out.then_row hf (.inl rfl)); have HPM : Aside0 (rs.Perm ps) := ⟨hpm.trans (swapP_perm HP0.out HPN.out)⟩; have HRL : Aside0 (rs.length = n + 1) := ⟨HPM.out.length_eq.trans HN.out⟩; have HRN : Aside0 (rs[n]? = some p) := ⟨(hk n (Nat.le_refl n)).trans (swapP_j (by rw [HN.out]; exact Nat.lt_succ_self n))⟩; have HHH : Aside0 (HeapF (ky rs) n 0) := ⟨down_zero h1 h2⟩; have hm12 := meth_pop ⟨pb, po, none⟩ w12; clear hpm hr h1 h2 hk hf)))
    | (go_at_call 68; go_must ((refine (ppop_calls base pb po t gr cap n cs (rs.take n) p _ (HP12.out.split HRL.out HRN.out) (by rw [List.length_take, HRL.out]; omega) (by have := HL.out; omega)).mono ?_; rintro e w14 ⟨rfl, h1, h2⟩; have HPP := Aside0.mk (rem_end HRL.out HRN.out HPM.out HHH.out HF12.out ⟨rfl, h1, h2⟩); clear h1 h2))))
  go_ret
  exact HPP.out
end Go.Proofs.Ytekhpogigndlkaa.K

namespace Go.Proofs.Ytekhpogigndlkaa.K
open Go.RowKit Go.Proofs.YtekhpogigndlkaaW.PrintWords Go.Proofs.YtekhpogigndlkaaW.PrintLast Go.Proofs.YtekhpogigndlkaaW.PrintMore
set_option linter.unusedVariables false
set_option linter.unusedSimpArgs false

set_option maxRecDepth 100000 in
set_option maxHeartbeats 8000000 in
theorem hremove_calls (base pb po t gr cap n i : Nat) (cs : Array Value) (ps : List EP) (p : EP) (w : World) (h : Pile w base pb po cs t (.slice (some ⟨gr, 0, none⟩) (n + 1) cap) ps) (hn : ps.length = n + 1) (hl : n + 1 ≤ 100000)
    (hH : HeapF (ky ps) (n + 1) 0) (hi : i ≤ n) (hp : ps[i]? = some p) :
    Calls Try.prog 33 #[.iface 66 (.pointer (some ⟨pb, po, none⟩)), .int .i64 i] w fun e w' => RemP w base pb po cs t gr cap n ps p e w' := by
  obtain ⟨pn, hpn⟩ : ∃ x, ps[n]? = some x := ⟨_, List.getElem?_eq_getElem (by omega)⟩
  have HH := Aside0.mk h
  have HN := Aside0.mk hn
  have HL := Aside0.mk hl
  have HI := Aside0.mk hi
  have HHF := Aside0.mk hH
  have HP0 := Aside0.mk hp
  have HPN := Aside0.mk hpn
  have hc := h.cell
  have hm := meth_len pb po (n + 1) cap _ w hc
  have e1 : ((n + 1 : Nat) : Int) - 1 = n := by omega
  have hk : (-1000000 : Int) ≤ n ∧ (n : Int) ≤ 1000000 := by omega
  have hw1 := iw e1 hk
  have hw2 := w64 e1 hk
  have e3 : (n : Int) + 1 - 1 = n := by omega
  have hw3 := iw e3 hk
  have hw4 := w64 e3 hk
  have hw5 : wrap64 (n : Int) = n := w64 rfl hk
  have hw6 : IntKind.i64.wrap (n : Int) = n := iw rfl hk
  clear e1 e3 hk h hn hl hH hp hpn
  by_cases hin : i = n
  · subst hin
    have HRN := HP0
    clear hi HPN
    go_enter Try.func33, Try.ntmps33
    go_wp2_with (first
      | (go_at_call 76; go_must ((refine (len_calls base (i + 1) _ cap ps _ HH.out.row).mono ?_; rintro e w7 ⟨rfl, hd⟩; have HP7 := Aside0.mk (HH.out.below hd.below); have HF7 : Aside0 (Fr w w7 (SP pb (.slice (some ⟨gr, 0, none⟩) (i + 1) cap))) := ⟨Fr.ofBelow _ hd.below⟩; have hm7 := meth_pop ⟨pb, po, none⟩ w7; clear hd)))
      | (go_at_call 68; go_must ((refine (ppop_calls base pb po t gr cap i cs (ps.take i) p _ (HP7.out.split HN.out HRN.out) (by rw [List.length_take, HN.out]; omega) (by have := HL.out; omega)).mono ?_; rintro e w14 ⟨rfl, h1, h2⟩; have HPP := Aside0.mk (rem_end HN.out HRN.out (List.Perm.refl _) (heap_less HHF.out (Nat.le_succ i)) HF7.out ⟨rfl, h1, h2⟩); clear h1 h2))))
    go_ret
    exact HPP.out
  · have hlt : i < n := by omega
    have hne : ((n : Int) == (i : Int)) = false := by simp; omega
    have hne2 : ¬ (n : Int) = (i : Int) := by omega
    have hne3 : ¬ n = i := by omega
    have hmp := fun w => meth_pop ⟨pb, po, none⟩ w
    clear hin hi
    go_enter Try.func33, Try.ntmps33
    go_wp2_with (first
      | (go_at_call 76; go_must ((refine (len_calls base (n + 1) _ cap ps _ HH.out.row).mono ?_; rintro e w5 ⟨rfl, hd⟩; have hc5 := pw_cell_below hd.below hc; have HP5 := Aside0.mk (HH.out.below hd.below); have HF5 : Aside0 (Fr w w5 (SP pb (.slice (some ⟨gr, 0, none⟩) (n + 1) cap))) := ⟨Fr.ofBelow _ hd.below⟩; have hm5 := meth_swap pb po (n + 1) cap _ w5 hc5; clear hd)))
      | (go_at_call 70; go_must ((refine (swap_at gr cap base i n (n + 1) ps p pn _ HP5.out.row HN.out HP0.out HPN.out).mono ?_; rintro e w9 ⟨rfl, hr, hf⟩; have HP9 := Aside0.mk (HP5.out.rowed hf hr); have HF9 := Aside0.mk (HF5.out.then_row hf (.inl rfl)); clear hr hf)))
      | (go_at_call 48; go_must ((refine (down_calls pb po gr cap base (n + 1) n 0 i (swapP ps i n p pn) _ HP9.out.cell (HP9.out.ne gr rfl) HP9.out.row (by rw [swapP_length]; exact HN.out) HL.out (Nat.le_succ n) (Nat.le_of_lt hlt) (by rw [ky_swap HP0.out HPN.out]; exact remove_start HHF.out (Nat.le_of_lt hlt))).mono ?_; rintro e w12 ⟨mv, rs, rfl, hpm, hr, h1, h2, hk, hf⟩; have HP12 := Aside0.mk (HP9.out.rowed hf hr); have HF12 := Aside0.mk (HF9.out.then_row hf (.inl rfl)); have HPM : Aside0 (rs.Perm ps) := ⟨hpm.trans (swapP_perm HP0.out HPN.out)⟩; have HRL : Aside0 (rs.length = n + 1) := ⟨HPM.out.length_eq.trans HN.out⟩; have HRN : Aside0 (rs[n]? = some p) := ⟨(hk n (Nat.le_refl n)).trans (swapP_j (by rw [HN.out]; exact Nat.lt_succ_self n))⟩; have H1 := Aside0.mk h1; have H2 := Aside0.mk h2; clear hpm hr h1 h2 hk hf)))
      | (go_at_call 46; go_must ((refine (up_calls pb po gr cap base (n + 1) n i rs _ HP12.out.cell (HP12.out.ne gr rfl) HP12.out.row HRL.out HL.out (Nat.le_succ n) hlt (H2.out (by first | assumption | rfl | simp_all))).mono ?_; rintro e w23 ⟨rfl, rs2, hp, hr, hh, hk, hf⟩; have HP23 := Aside0.mk (HP12.out.rowed hf hr); have HF23 := Aside0.mk (HF12.out.then_row hf (.inl rfl)); have HPM23 : Aside0 (rs2.Perm ps) := ⟨hp.trans HPM.out⟩; have HRL23 : Aside0 (rs2.length = n + 1) := ⟨HPM23.out.length_eq.trans HN.out⟩; have HRN23 : Aside0 (rs2[n]? = some p) := ⟨(hk n (Nat.le_refl n)).trans HRN.out⟩; have HHH23 := Aside0.mk hh; clear hp hr hh hk hf)))
      | (go_at_call 68; go_must (first
         | (refine (ppop_calls base pb po t gr cap n cs (rs2.take n) p _ (HP23.out.split HRL23.out HRN23.out) (by rw [List.length_take, HRL23.out]; omega) (by have := HL.out; omega)).mono ?_; rintro e w14 ⟨rfl, h1, h2⟩; have HPP := Aside0.mk (rem_end HRL23.out HRN23.out HPM23.out HHH23.out HF23.out ⟨rfl, h1, h2⟩); clear h1 h2)
         | (refine (ppop_calls base pb po t gr cap n cs (rs.take n) p _ (HP12.out.split HRL.out HRN.out) (by rw [List.length_take, HRL.out]; omega) (by have := HL.out; omega)).mono ?_; rintro e w14 ⟨rfl, h1, h2⟩; have HPP := Aside0.mk (rem_end HRL.out HRN.out HPM.out (H1.out (by first | assumption | rfl | simp_all)) HF12.out ⟨rfl, h1, h2⟩); clear h1 h2))))
    all_goals
      go_ret
      exact HPP.out
end Go.Proofs.Ytekhpogigndlkaa.K

namespace Go.Proofs.Ytekhpogigndlkaa.K
open Go.RowKit Go.Proofs.YtekhpogigndlkaaW.PrintWords Go.Proofs.YtekhpogigndlkaaW.PrintLast Go.Proofs.YtekhpogigndlkaaW.PrintMore
set_option linter.unusedVariables false
set_option linter.unusedSimpArgs false

theorem down_init {f : Nat → Ky} {n k : Nat} {mv : Bool} (h1 : mv = true → HeapF f n k) (h2 : mv = false → UpInv f n k k) : HeapF f n k := by
  cases mv with
  | true => exact h1 rfl
  | false => exact init_stays (h2 rfl)
/-- What Init leaves. -/
def InitP (w : World) (base pb po : Nat) (cs : Array Value) (t n : Nat) (v : Value) (ps : List EP) (W : World) : Prop :=
  ∃ qs, Pile W base pb po cs t v qs ∧ qs.Perm ps ∧ HeapF (ky qs) n 0 ∧ Fr w W (SP pb v)
set_option maxRecDepth 100000 in
set_option maxHeartbeats 8000000 in
theorem hinit_calls (base pb po t n : Nat) (A : Option Addr) (c : Nat) (cs : Array Value) (ps : List EP) (w : World) (h : Pile w base pb po cs t (.slice A n c) ps) (hn : ps.length = n) (hl : n ≤ 100000) :
    Calls Try.prog 40 #[.iface 66 (.pointer (some ⟨pb, po, none⟩))] w fun e w' => e = .returned (.tuple #[]) ∧ InitP w base pb po cs t n (.slice A n c) ps w' := by
  have HH := Aside0.mk h
  have HN := Aside0.mk hn
  have hc := h.cell
  have hm := meth_len pb po n c A w hc
  obtain ⟨q, hq⟩ : ∃ q, q = n / 2 := ⟨_, rfl⟩
  have HQ : Aside0 (q = n / 2 ∧ n ≤ 100000) := ⟨hq, hl⟩
  have hk : (-1000000 : Int) ≤ q ∧ (q : Int) ≤ 1000000 := by omega
  have hk2 : (-1000000 : Int) ≤ (q : Int) - 1 ∧ (q : Int) - 1 ≤ 1000000 := by omega
  have e1 : (n : Int).tdiv 2 = q := by rw [Int.tdiv_eq_ediv_of_nonneg (by omega)]; omega
  have e2 : (n : Int) / 2 = q := by omega
  have hw1 := iw e1 hk
  have hw2 := w64 e1 hk
  have hw3 := iw e2 hk
  have hw4 := w64 e2 hk
  have hw5 := iw (x := (q : Int) - 1) rfl hk2
  have hw6 := w64 (x := (q : Int) - 1) rfl hk2
  clear e1 e2 hk hk2 h hn hl hq
  go_enter Try.func40, Try.ntmps40
  go_wp2_with (first
    | (go_at_call 76; go_must ((refine (len_calls base n _ c ps _ HH.out.row).mono ?_; rintro e w5 ⟨rfl, hd⟩; have HP5 := Aside0.mk (HH.out.below hd.below); have HF5 : Aside0 (Fr w w5 (SP pb (.slice A n c))) := ⟨Fr.ofBelow _ hd.below⟩; clear hd))))
  clear hw1 hw2 hw3 hw4 hw5 hw6 hm hc
  go_loopg [3] q (fun g v3 wr => ∃ (j : Nat) (x : Int) (qs : List EP), g = j ∧ v3 = .int .i64 x ∧ x + 1 = (j : Int) ∧ j ≤ n ∧ Aside0 (qs.Perm ps) ∧ Aside0 (Pile wr base pb po cs t (.slice A n c) qs) ∧ Aside0 (HeapF (ky qs) n j) ∧ Aside0 (Fr w wr (SP pb (.slice A n c))))
  case atStart => exact ⟨q, _, ps, rfl, rfl, by omega, by have := HQ.out; omega, ⟨List.Perm.refl _⟩, HP5, ⟨by rw [HQ.out.1]; exact init_zero _ _⟩, HF5⟩
  case round =>
    clear HP5 HF5
    obtain ⟨g, x, qs, hg, rfl, hx, hgn, HPM, HP, HH5, HF⟩ := hrel
    have hg := hg.symm
    subst hg
    have HL : Aside0 (qs.length = n) := ⟨HPM.out.length_eq.trans HN.out⟩
    by_cases hx0 : x < 0
    · have hx1 : ¬ 0 ≤ x := by omega
      have HE : Aside0 (HeapF (ky qs) n 0) := ⟨by have e : g = 0 := by omega
                                                  rw [← e]; exact HH5.out⟩
      go_wp2
      go_end0
      exact ⟨rfl, qs, HP.out, HPM.out, HE.out, HF.out⟩
    · obtain ⟨k, rfl⟩ : ∃ k : Nat, x = k := ⟨x.toNat, by omega⟩
      have hkg : g = k + 1 := by omega
      subst hkg
      have hk2 : (-1000000 : Int) ≤ (k : Int) - 1 ∧ (k : Int) - 1 ≤ 1000000 := by have := HQ.out; omega
      have hw5 := iw (x := (k : Int) - 1) rfl hk2
      have hw6 := w64 (x := (k : Int) - 1) rfl hk2
      have hA : ∃ gr, A = some ⟨gr, 0, none⟩ := by
        rcases HP.out.row.slice with ⟨h1, h2⟩ | ⟨g, cap, cur, h1, _⟩
        · have := HL.out
          rw [h2] at this
          simp at this
          omega
        · injection h1 with h1 _ _
          exact ⟨g, h1⟩
      obtain ⟨gr, rfl⟩ := hA
      have HKN : Aside0 (k ≤ n ∧ n ≤ 100000) := ⟨by omega, HQ.out.2⟩
      clear hk2 hx hgn hx0
      go_wp2_with (first
        | (go_at_call 48; go_must ((refine (down_calls pb po gr c base n n k k qs _ HP.out.cell (HP.out.ne gr rfl) HP.out.row HL.out HKN.out.2 (Nat.le_refl n) HKN.out.1 (init_start HH5.out)).mono ?_; rintro e w16 ⟨mv, rs, rfl, hpm, hr, h1, h2, -, hf⟩; have HP16 := Aside0.mk (HP.out.rowed hf hr); have HF16 := Aside0.mk (HF.out.then_row hf (.inl rfl)); have HPM16 : Aside0 (rs.Perm ps) := ⟨hpm.trans HPM.out⟩; have HH16 : Aside0 (HeapF (ky rs) n k) := ⟨down_init h1 h2⟩; clear hpm hr h1 h2 hf))))
      clear hw5 hw6
      go_roundg k
      case measure => exact Nat.lt_succ_self k
      case rel => exact ⟨k, _, rs, rfl, rfl, by omega, by have := HKN.out; omega, HPM16, HP16, HH16, HF16⟩
end Go.Proofs.Ytekhpogigndlkaa.K

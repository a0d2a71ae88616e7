/- script.ParseLine. -/
import Derived.Test.YtoajcijjkkkaaaaGreatDoorScT
namespace Go.Proofs.YtoajcijjkkkaaaaGreatDoor.K
open Go.RowKit Go.Proofs.YtoajcijjkkkaaaaGreatDoorW.PrintWords Go.Proofs.YtoajcijjkkkaaaaGreatDoorW.PrintLast Go.Proofs.YtoajcijjkkkaaaaGreatDoorW.PrintMore
set_option linter.unusedVariables false
set_option linter.unusedSimpArgs false

/-- A world with the seven cells at block b stored. -/
abbrev put7 (W : World) (b : Nat) (x : Stp) (v : Value) : World :=
  (((((((W.setCell ⟨b, 0, none⟩ (.int .i64 x.who)).setCell ⟨b, 1, none⟩ (.int .i64 x.kind)).setCell ⟨b, 2, none⟩ (.string ⟨x.p.toArray⟩)).setCell ⟨b, 3, none⟩ (.string ⟨x.q.toArray⟩)).setCell ⟨b, 4, none⟩ (.int .i64 x.n)).setCell ⟨b, 5, none⟩ (.int .i64 x.m)).setCell ⟨b, 6, none⟩ v)
theorem put7_blk {W : World} {b : Nat} {x y : Stp} {u v : Value} (h : W.heap[b]? = some (stpB y u)) : (put7 W b x v).heap[b]? = some (stpB x v) := by
  have h0 := blk_put h 0 (.int .i64 x.who) (show _ = #[.int .i64 x.who, .int .i64 y.kind, .string ⟨y.p.toArray⟩, .string ⟨y.q.toArray⟩, .int .i64 y.n, .int .i64 y.m, u] from rfl)
  have h1 := blk_put h0 1 (.int .i64 x.kind) (show _ = #[.int .i64 x.who, .int .i64 x.kind, .string ⟨y.p.toArray⟩, .string ⟨y.q.toArray⟩, .int .i64 y.n, .int .i64 y.m, u] from rfl)
  have h2 := blk_put h1 2 (.string ⟨x.p.toArray⟩) (show _ = #[.int .i64 x.who, .int .i64 x.kind, .string ⟨x.p.toArray⟩, .string ⟨y.q.toArray⟩, .int .i64 y.n, .int .i64 y.m, u] from rfl)
  have h3 := blk_put h2 3 (.string ⟨x.q.toArray⟩) (show _ = #[.int .i64 x.who, .int .i64 x.kind, .string ⟨x.p.toArray⟩, .string ⟨x.q.toArray⟩, .int .i64 y.n, .int .i64 y.m, u] from rfl)
  have h4 := blk_put h3 4 (.int .i64 x.n) (show _ = #[.int .i64 x.who, .int .i64 x.kind, .string ⟨x.p.toArray⟩, .string ⟨x.q.toArray⟩, .int .i64 x.n, .int .i64 y.m, u] from rfl)
  have h5 := blk_put h4 5 (.int .i64 x.m) (show _ = #[.int .i64 x.who, .int .i64 x.kind, .string ⟨x.p.toArray⟩, .string ⟨x.q.toArray⟩, .int .i64 x.n, .int .i64 x.m, u] from rfl)
  have h6 := blk_put h5 6 (v) (show _ = #[.int .i64 x.who, .int .i64 x.kind, .string ⟨x.p.toArray⟩, .string ⟨x.q.toArray⟩, .int .i64 x.n, .int .i64 x.m, v] from rfl)
  exact h6
theorem put7_far {W : World} {b k : Nat} {x : Stp} {v : Value} (h : k ≠ b) : (put7 W b x v).heap[k]? = W.heap[k]? := by
  have e : ∀ (W : World) (j : Nat) (u : Value), (W.setCell ⟨b, j, none⟩ u).heap[k]? = W.heap[k]? := fun W j u => Below.heap_setCell W ⟨b, j, none⟩ u k h
  unfold put7
  simp only [e]
theorem put7_below {w0 W : World} {b : Nat} {x : Stp} {v : Value} {B : Nat} (h : Below B w0 W) (hB : B ≤ b) : Below B w0 (put7 W b x v) :=
  by
  have h0 := h.setCell (p := ⟨b, 0, none⟩) hB (.int .i64 x.who)
  have h1 := h0.setCell (p := ⟨b, 1, none⟩) hB (.int .i64 x.kind)
  have h2 := h1.setCell (p := ⟨b, 2, none⟩) hB (.string ⟨x.p.toArray⟩)
  have h3 := h2.setCell (p := ⟨b, 3, none⟩) hB (.string ⟨x.q.toArray⟩)
  have h4 := h3.setCell (p := ⟨b, 4, none⟩) hB (.int .i64 x.n)
  have h5 := h4.setCell (p := ⟨b, 5, none⟩) hB (.int .i64 x.m)
  exact h5.setCell (p := ⟨b, 6, none⟩) hB v
theorem put7_own {W : World} {b : Nat} {x : Stp} {v u : Value} {l : List Bool} {base : Nat} (h : OwnB W base u l) (hB : b < base) : OwnB (put7 W b x v) base u l :=
  Kd.R_mono (Kd.R_step (Kd.R_bound h) (fun k hk _ => put7_far (by have := hk.2.1; omega))) (fun _ _ => trivial)

set_option maxRecDepth 100000 in
set_option maxHeartbeats 1000000 in
theorem pl1_none (w0 w : World) (b : Nat) (o : Obj) (l : Bs) (hT : Tb w0) (h : Bxs w0 w b o false l) (hu : whole l = none) :
    Calls Tryz.prog 32 #[.pointer (some ⟨b + 2, 0, none⟩), .pointer (some ⟨b, 0, none⟩)] w fun e w' => e = Mal ∧ w'.heap[b + 3]? = some (.cells #[.bool false] 4 (0, 0)) ∧ w'.heap[b]? = some o ∧ Below w0.heap.size w0 w' := by
  have c0 : w.cell? ⟨b + 2, 0, none⟩ = some (.pointer (some ⟨b + 1, 0, none⟩)) := (blk_cell h.ptr 0).trans rfl
  have HQ := whole_calls w0 w (b + 1) l hT h.rd
  rw [hu] at HQ
  have H := Aside0.mk h
  clear h hu hT
  go_enter Tryz.func32, Tryz.ntmps32
  go_wp2_with (go_at_call 33; (with_reducible refine HQ.mono ?_); rintro e w' ⟨rfl, hb, hk⟩)
  exact ⟨rfl, rfl, hk.blk H.out.is_ (by omega) (by simp), hk.blk H.out.res (by omega) (by simp), hb⟩
set_option maxRecDepth 100000 in
set_option maxHeartbeats 1000000 in
theorem pl1_some (w0 w : World) (b : Nat) (y : Stp) (u : Value) (l : Bs) (x : Stp) (hT : Tb w0) (h : Bxs w0 w b (stpB y u) false l) (hu : whole l = some x) :
    Calls Tryz.prog 32 #[.pointer (some ⟨b + 2, 0, none⟩), .pointer (some ⟨b, 0, none⟩)] w fun e w' => e = .returned (.tuple #[]) ∧ w'.heap[b + 3]? = some (.cells #[.bool false] 4 (0, 0)) ∧ (∃ v, w'.heap[b]? = some (stpB x v) ∧ OwnB w' (b + 4) v x.keep) ∧ Below w0.heap.size w0 w' := by
  have c0 : w.cell? ⟨b + 2, 0, none⟩ = some (.pointer (some ⟨b + 1, 0, none⟩)) := (blk_cell h.ptr 0).trans rfl
  have HQ := whole_calls w0 w (b + 1) l hT h.rd
  rw [hu] at HQ
  have H := Aside0.mk h
  clear h hu hT
  go_enter Tryz.func32, Tryz.ntmps32
  go_wp2_with (go_at_call 33; (with_reducible refine HQ.mono ?_); rintro e w1 ⟨⟨v, rfl, ho⟩, hb, hk⟩; obtain ⟨A, c, rfl⟩ := Kd.R_slice ho; have HO := Aside0.mk ho; have HB := Aside0.mk hb; have h1 := hk.blk H.out.res (by omega) (by simp); have H1 := Aside0.mk h1; have f1 := blk_frozen h1; obtain ⟨q0, q1, q2, q3, q4, q5, q6⟩ := cells7 h1; have HI := Aside0.mk (hk.blk H.out.is_ (by omega) (by simp)); clear ho hb hk h1)
  go_end0
  have hlt := blk_lt H.out.is_
  exact ⟨rfl, (put7_far (by omega)).trans HI.out, ⟨_, put7_blk H1.out, put7_own (Kd.R_lower HO.out (by omega)) (by omega)⟩, put7_below HB.out (by rw [H.out.base]; exact Nat.le_refl _)⟩

/-- What ParseLine leaves. -/
def PPost (w : World) (R : Option Stp) (e : Ending) (w' : World) : Prop :=
  Below w.heap.size w w' ∧ match R with
  | none => e = .returned (.tuple #[.agg (stpC stp0 none 0), .int .i64 4])
  | some x => ∃ v, e = .returned (.tuple #[.agg #[.int .i64 x.who, .int .i64 x.kind, .string ⟨x.p.toArray⟩, .string ⟨x.q.toArray⟩, .int .i64 x.n, .int .i64 x.m, v], .int .i64 0]) ∧ OwnB w' w.heap.size v x.keep

abbrev zer7 : Array Value := #[.int .i64 0, .int .i64 0, .string ⟨#[]⟩, .string ⟨#[]⟩, .int .i64 0, .int .i64 0, .slice none 0 0]
set_option maxRecDepth 100000 in
set_option maxHeartbeats 4000000 in
theorem parseline_none (s : ByteArray) (hs : s.size ≤ 4294967280) (w0 w : World) (hT : Tb w0) (hb0 : Below w0.heap.size w0 w) (hu : whole s.data.toList = none) :
    Calls Tryz.prog 11 #[.string s] w (PPost w none) := by
  have hmf : ∀ (fn : Fn) (first cap : Array Value) (w : World), (Instr.makeFunc fn first cap).run Tryz.prog w = .ok (.func fn first cap) w := fun _ _ _ _ => rfl
  have hB := bxs_new w w rfl zer7 31 s hs
  have hTry := try_no 32 #[.pointer (some ⟨w.heap.size + 2, 0, none⟩), .pointer (some ⟨w.heap.size, 0, none⟩)] (W3of w zer7 31 s) (fun w1 => w1.heap[w.heap.size]? = some (.cells zer7 31 (0, 0)) ∧ Below w.heap.size w w1) (enters_of Tryz.func32 (by kernel_rfl) rfl)
    ((pl1_none w _ w.heap.size _ s.data.toList (hT.below hb0) hB hu).mono (by
      rintro e w1 ⟨rfl, h1, h2, h3⟩
      rw [W3_size]
      exact ⟨rfl, h1, h2, h3⟩))
  rw [W3_size] at hTry
  have HT := Aside0.mk hTry
  clear hTry hB hu hs hT hb0
  go_enter Tryz.func11, Tryz.ntmps11
  go_upto_region 2 with (fail)
  obtain ⟨b, hb⟩ : ∃ b, w.heap.size = b := ⟨_, rfl⟩
  have hW : ((w.alloc (.cells zer7 31)).alloc (.cells #[.string s] 71)).alloc (.cells #[.pointer (some ⟨w.heap.size + 1, 0, none⟩)] 69) = W3of w zer7 31 s := rfl
  rw [hW]
  obtain ⟨W3, hW3⟩ : ∃ W3, W3of w zer7 31 s = W3 := ⟨_, rfl⟩
  rw [hW3] at HT ⊢
  rw [hb] at HT ⊢
  clear hW hW3
  go_upto_if 10 with (go_at_call 31; (with_reducible refine HT.out.mono ?_); rintro e w' ⟨rfl, w1, ⟨h1, h2⟩, rfl⟩; have h3 := Below.heap_setCell w1 ⟨b + 3, 0, none⟩ (.bool false) b (by simp); have H4 := Aside0.mk (h3.trans h1); have H2 : Aside0 (Below b w (w1.setCell ⟨b + 3, 0, none⟩ (.bool false))) := ⟨h2.setCell (by simp) _⟩; clear h1 h2 h3)
  obtain ⟨w2, hw2⟩ : ∃ w2, w1.setCell ⟨b + 3, 0, none⟩ (.bool false) = w2 := ⟨_, rfl⟩
  rw [hw2] at H4 H2 ⊢
  have f1 := blk_frozen H4.out
  obtain ⟨q0, q1, q2, q3, q4, q5, q6⟩ := cells7 H4.out
  clear hw2
  go_wp2_with fail
  have h5 : (put7 w2 b stp0 (.slice none 0 0)).heap[b]? = some (stpB stp0 (.slice none 0 0)) := put7_blk (y := stp0) (u := .slice none 0 0) H4.out
  have h6 : Below w.heap.size w (put7 w2 b stp0 (.slice none 0 0)) := put7_below (by rw [hb]; exact H2.out) (Nat.le_of_eq hb)
  clear q0 q1 q2 q3 q4 q5 q6 f1
  change bodyPost _ _ _ _ _ (put7 w2 b stp0 (.slice none 0 0))
  obtain ⟨W5, hW5⟩ : ∃ W5, put7 w2 b stp0 (.slice none 0 0) = W5 := ⟨_, rfl⟩
  rw [hW5] at h5 h6 ⊢
  obtain ⟨p0, p1, p2, p3, p4, p5, p6⟩ := cells7 h5
  exact bodyPost_ret (v := .tuple #[.agg (stpC stp0 none 0), .int .i64 4]) (by simp [results, Tryz.results11, go_sem, p0, p1, p2, p3, p4, p5, p6]) rfl ⟨h6, rfl⟩
set_option maxRecDepth 100000 in
set_option maxHeartbeats 4000000 in
theorem parseline_some (s : ByteArray) (hs : s.size ≤ 4294967280) (w0 w : World) (hT : Tb w0) (hb0 : Below w0.heap.size w0 w) (x : Stp) (hu : whole s.data.toList = some x) :
    Calls Tryz.prog 11 #[.string s] w (PPost w (some x)) := by
  have hmf : ∀ (fn : Fn) (first cap : Array Value) (w : World), (Instr.makeFunc fn first cap).run Tryz.prog w = .ok (.func fn first cap) w := fun _ _ _ _ => rfl
  have hB := bxs_new w w rfl zer7 31 s hs
  have hTry := try_ok 32 #[.pointer (some ⟨w.heap.size + 2, 0, none⟩), .pointer (some ⟨w.heap.size, 0, none⟩)] (W3of w zer7 31 s) (fun w1 => (∃ v, w1.heap[w.heap.size]? = some (stpB x v) ∧ OwnB w1 (w.heap.size + 4) v x.keep) ∧ Below w.heap.size w w1) (enters_of Tryz.func32 (by kernel_rfl) rfl)
    ((pl1_some w _ w.heap.size stp0 (.slice none 0 0) s.data.toList x (hT.below hb0) hB hu).mono (by
      rintro e w1 ⟨rfl, h1, h2, h3⟩
      rw [W3_size]
      exact ⟨rfl, h1, h2, h3⟩))
  rw [W3_size] at hTry
  have HT := Aside0.mk hTry
  clear hTry hB hu hs hT hb0
  go_enter Tryz.func11, Tryz.ntmps11
  go_upto_region 2 with (fail)
  obtain ⟨b, hb⟩ : ∃ b, w.heap.size = b := ⟨_, rfl⟩
  have hW : ((w.alloc (.cells zer7 31)).alloc (.cells #[.string s] 71)).alloc (.cells #[.pointer (some ⟨w.heap.size + 1, 0, none⟩)] 69) = W3of w zer7 31 s := rfl
  rw [hW]
  obtain ⟨W3, hW3⟩ : ∃ W3, W3of w zer7 31 s = W3 := ⟨_, rfl⟩
  rw [hW3] at HT ⊢
  rw [hb] at HT ⊢
  clear hW hW3
  go_upto_if 10 with (go_at_call 31; (with_reducible refine HT.out.mono ?_); rintro e w' ⟨rfl, w1, ⟨⟨v, h1, h7⟩, h2⟩, rfl⟩; have h3 := Below.heap_setCell w1 ⟨b + 3, 0, none⟩ (.bool true) b (by simp); have H4 := Aside0.mk (h3.trans h1); have H2 : Aside0 (Below b w (w1.setCell ⟨b + 3, 0, none⟩ (.bool true))) := ⟨h2.setCell (by simp) _⟩; have H7 : Aside0 (OwnB (w1.setCell ⟨b + 3, 0, none⟩ (.bool true)) (b + 4) v x.keep) := ⟨Kd.R_mono (Kd.R_step (Kd.R_bound h7) (fun k hk _ => Below.heap_setCell _ _ _ _ (by have := hk.2.1; simp; omega))) (fun _ _ => trivial)⟩; clear h1 h2 h3 h7)
  obtain ⟨w2, hw2⟩ : ∃ w2, w1.setCell ⟨b + 3, 0, none⟩ (.bool true) = w2 := ⟨_, rfl⟩
  rw [hw2] at H4 H2 H7 ⊢
  obtain ⟨A, c, rfl⟩ := Kd.R_slice H7.out
  have f1 := blk_frozen H4.out
  obtain ⟨q0, q1, q2, q3, q4, q5, q6⟩ := cells7 H4.out
  clear hw2
  go_wp2_with fail
  have h5 : (put7 w2 b x (.slice A x.keep.length c)).heap[b]? = some (stpB x (.slice A x.keep.length c)) := put7_blk H4.out
  have h6 : Below w.heap.size w (put7 w2 b x (.slice A x.keep.length c)) := put7_below (by rw [hb]; exact H2.out) (Nat.le_of_eq hb)
  have h7 : OwnB (put7 w2 b x (.slice A x.keep.length c)) w.heap.size (.slice A x.keep.length c) x.keep := Kd.R_lower (put7_own H7.out (by omega)) (by omega)
  clear q0 q1 q2 q3 q4 q5 q6 f1
  change bodyPost _ _ _ _ _ (put7 w2 b x (.slice A x.keep.length c))
  obtain ⟨W5, hW5⟩ : ∃ W5, put7 w2 b x (.slice A x.keep.length c) = W5 := ⟨_, rfl⟩
  rw [hW5] at h5 h6 h7 ⊢
  obtain ⟨p0, p1, p2, p3, p4, p5, p6⟩ := cells7 h5
  exact bodyPost_ret (v := .tuple #[.agg #[.int .i64 x.who, .int .i64 x.kind, .string ⟨x.p.toArray⟩, .string ⟨x.q.toArray⟩, .int .i64 x.n, .int .i64 x.m, .slice A x.keep.length c], .int .i64 0]) (by simp [results, Tryz.results11, go_sem, p0, p1, p2, p3, p4, p5, p6]) rfl ⟨h6, _, rfl, h7⟩
theorem parseline_calls (s : ByteArray) (hs : s.size ≤ 4294967280) (w0 w : World) (hT : Tb w0) (hb0 : Below w0.heap.size w0 w) :
    Calls Tryz.prog 11 #[.string s] w (PPost w (whole s.data.toList)) := by
  cases hu : whole s.data.toList with
  | none => exact parseline_none s hs w0 w hT hb0 hu
  | some x => exact parseline_some s hs w0 w hT hb0 x hu
end Go.Proofs.YtoajcijjkkkaaaaGreatDoor.K

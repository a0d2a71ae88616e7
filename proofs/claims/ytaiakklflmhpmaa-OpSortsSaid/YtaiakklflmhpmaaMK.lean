/- OpSorts: what its calls give of any two operations. The law OpSorts. An operation that came in by value. -/
import Derived.Test.YtaiakklflmhpmaaMJ
import Derived.Lib.Bytes
import Derived.Test.YtaiakklflmhpmaaMG
import Derived.Test.YtaiakklflmhpmaaMI
namespace Go.Proofs.Ytaiakklflmhpmaa.K
open Go.RowKit Go.Proofs.YtaiakklflmhpmaaW.PrintWords Go.Proofs.YtaiakklflmhpmaaW.PrintLast Go.Proofs.YtaiakklflmhpmaaW.PrintMore
set_option linter.unusedVariables false
set_option linter.unusedSimpArgs false

/-- An operation's bytes are bytes. -/
def BytQ (e : Oe) : Prop := ∀ x ∈ e.f6, 0 ≤ x ∧ x ≤ 255
theorem nums_inj : ∀ (x y : List Int), (∀ a ∈ x, 0 ≤ a ∧ a ≤ 255) → (∀ a ∈ y, 0 ≤ a ∧ a ≤ 255) → (x.map fun n => UInt8.ofNat n.toNat) = (y.map fun n => UInt8.ofNat n.toNat) → x = y
 | [], [], _, _, _ => rfl
 | [], _ :: _, _, _, h => by simp at h
 | _ :: _, [], _, _, h => by simp at h
 | a :: x, b :: y, hx, hy, h => by
  simp only [List.map_cons, List.cons.injEq] at h
  have h1 := hx a List.mem_cons_self
  have h2 := hy b List.mem_cons_self
  have h3 := congrArg UInt8.toNat h.1
  simp only [UInt8.toNat_ofNat'] at h3
  have h4 : a = b := by omega
  rw [h4, nums_inj x y (fun c hc => hx c (List.mem_cons_of_mem _ hc)) (fun c hc => hy c (List.mem_cons_of_mem _ hc)) h.2]
theorem equal_f (x y : List Int) (hx : ∀ a ∈ x, 0 ≤ a ∧ a ≤ 255) (hy : ∀ a ∈ y, 0 ≤ a ∧ a ≤ 255) : X.bytes_Equal.f x y = some (decide (x = y)) := by
 unfold X.bytes_Equal.f
 rw [Go.Lib.strOfNums_toList, Go.Lib.strOfNums_toList]
 congr 1
 rw [Bool.eq_iff_iff, beq_iff_eq, decide_eq_true_eq]
 exact ⟨fun h => nums_inj x y hx hy h, fun h => by rw [h]⟩
theorem rsame_ne (x y : List Int) (hx : x.length ≤ 1000000) (hl : x.length = y.length) : ∀ (k n : Nat), x.length < n + k → n ≤ x.length → X.cachetteref01_Same.l0 k x y (n : Int) = some (decide (x.drop n = y.drop n))
 | 0, n, h1, h2 => by omega
 | k + 1, n, h1, h2 => by
  unfold X.cachetteref01_Same.l0
  by_cases h : n < x.length
  ·have hn2 : n < y.length := by omega
   have r1 : rd x (n : Int) = x[n] := by rw [rd, Int.toNat_natCast, List.getD_eq_getElem?_getD, List.getElem?_eq_getElem h]; rfl
   have r2 : rd y (n : Int) = y[n] := by rw [rd, Int.toNat_natCast, List.getD_eq_getElem?_getD, List.getElem?_eq_getElem hn2]; rfl
   rw [if_pos (show (n : Int) < (x.length : Int) by omega), if_pos (show (0 : Int) ≤ n by omega), if_pos (show (n : Int) < (y.length : Int) by omega), r1, r2, List.drop_eq_getElem_cons h, List.drop_eq_getElem_cons hn2]
   by_cases he : x[n] = y[n]
   ·rw [if_pos he, w64 (x := (n : Int) + 1) (y := ((n + 1 : Nat) : Int)) (by simp) (by omega), rsame_ne x y hx hl k (n + 1) (by omega) (by omega)]
    congr 1
    rw [Bool.eq_iff_iff, decide_eq_true_eq, decide_eq_true_eq, List.cons.injEq]
    exact ⟨fun h => ⟨he, h⟩, fun h => h.2⟩
   ·rw [if_neg he]
    congr 1
    rw [Bool.eq_iff_iff, decide_eq_true_eq, List.cons.injEq]
    exact ⟨fun h => Bool.noConfusion h, fun h => absurd h.1 he⟩
  ·have hn : n = x.length := by omega
   rw [if_neg (by omega), hn, List.drop_length, hl, List.drop_length]
   rfl
theorem rsame_dec (x y : List Int) (hx : x.length ≤ 1000000) (k : Nat) (hk : x.length < k) : X.cachetteref01_Same.f k x y = some (decide (x = y)) := by
 rw [X.cachetteref01_Same.f]
 by_cases h : (x.length : Int) = (y.length : Int)
 ·rw [if_pos h]
  have := rsame_ne x y hx (by omega) k 0 (by omega) (Nat.zero_le _)
  simpa using this
 ·rw [if_neg h]
  congr 1
  rw [Bool.eq_iff_iff, decide_eq_true_eq]
  exact ⟨fun h => Bool.noConfusion h, fun e => absurd (by rw [e]) h⟩
/-- Are two operations the same? -/
def sameQ (a b : Oe) : Bool := (X.op_Same.f a.f0 a.f1.f0 a.f1.f1 a.f2.f0 a.f2.f1 a.f3.f0 a.f3.f1 a.f4 a.f5 a.f6 b.f0 b.f1.f0 b.f1.f1 b.f2.f0 b.f2.f1 b.f3.f0 b.f3.f1 b.f4 b.f5 b.f6).getD false
theorem osame_f (a b : Oe) : X.op_Same.f a.f0 a.f1.f0 a.f1.f1 a.f2.f0 a.f2.f1 a.f3.f0 a.f3.f1 a.f4 a.f5 a.f6 b.f0 b.f1.f0 b.f1.f1 b.f2.f0 b.f2.f1 b.f3.f0 b.f3.f1 b.f4 b.f5 b.f6 = some (sameQ a b) := by
 have h : ∃ r, X.op_Same.f a.f0 a.f1.f0 a.f1.f1 a.f2.f0 a.f2.f1 a.f3.f0 a.f3.f1 a.f4 a.f5 a.f6 b.f0 b.f1.f0 b.f1.f1 b.f2.f0 b.f2.f1 b.f3.f0 b.f3.f1 b.f4 b.f5 b.f6 = some r := by
  unfold X.op_Same.f X.bytes_Equal.f
  simp only [Option.bind_some]
  repeat' split
  all_goals exact ⟨_, rfl⟩
 obtain ⟨r, hr⟩ := h
 rw [sameQ, hr]
 rfl
theorem rosame_f (a b : Oe) (ha : BytQ a) (hb : BytQ b) (hl : a.f6.length ≤ 500) : X.cachetteref15_Same.f 2000 a.f0 a.f1.f0 a.f1.f1 a.f2.f0 a.f2.f1 a.f3.f0 a.f3.f1 a.f4 a.f5 a.f6 b.f0 b.f1.f0 b.f1.f1 b.f2.f0 b.f2.f1 b.f3.f0 b.f3.f1 b.f4 b.f5 b.f6 = some (sameQ a b) := by
 have h1 := osame_f a b
 unfold X.op_Same.f at h1
 rw [equal_f _ _ ha hb] at h1
 unfold X.cachetteref15_Same.f
 rw [rsame_dec _ _ (by omega) 2000 (by omega), ← h1]
theorem osame_calls (p q : QP) (w : World) (hp : Rd w p.b p.e.f6) (hq : Rd w q.b q.e.f6) :
  Calls Try.prog 11 #[.agg #[.int .i64 p.e.f0, .int .i64 p.e.f1.f0, .int .i64 p.e.f1.f1, .int .i64 p.e.f2.f0, .int .i64 p.e.f2.f1, .int .i64 p.e.f3.f0, .int .i64 p.e.f3.f1, .bool p.e.f4, .string p.e.f5, .slice p.A p.e.f6.length p.c], .agg #[.int .i64 q.e.f0, .int .i64 q.e.f1.f0, .int .i64 q.e.f1.f1, .int .i64 q.e.f2.f0, .int .i64 q.e.f2.f1, .int .i64 q.e.f3.f0, .int .i64 q.e.f3.f1, .bool q.e.f4, .string q.e.f5, .slice q.A q.e.f6.length q.c]] w fun e w' => e = .returned (.bool (sameQ p.e q.e)) ∧ Below w.heap.size w w' := by
 obtain ⟨A, c, hv, hc, hC⟩ := hp
 injection hv with h1 h2 h3
 subst h1 h3
 obtain ⟨A, c, hv, hc', hC'⟩ := hq
 injection hv with h1 h2 h3
 subst h1 h3
 refine (X.op_Same.calls p.e.f0 p.e.f1.f0 p.e.f1.f1 p.e.f2.f0 p.e.f2.f1 p.e.f3.f0 p.e.f3.f1 p.e.f4 p.e.f5 p.A p.c p.e.f6 q.e.f0 q.e.f1.f0 q.e.f1.f1 q.e.f2.f0 q.e.f2.f1 q.e.f3.f0 q.e.f3.f1 q.e.f4 q.e.f5 q.A q.c q.e.f6 _ w hC hc hC' hc' (osame_f p.e q.e)).mono ?_
 rintro e w' ⟨h1, h2⟩
 exact ⟨h1, by first | exact h2 | exact h2.below⟩
theorem rosame_calls (p q : QP) (w : World) (hp : Rd w p.b p.e.f6) (hq : Rd w q.b q.e.f6) (hbp : BytQ p.e) (hbq : BytQ q.e) (hl : p.e.f6.length ≤ 500) :
  Calls Try.prog 12 #[.agg #[.int .i64 p.e.f0, .int .i64 p.e.f1.f0, .int .i64 p.e.f1.f1, .int .i64 p.e.f2.f0, .int .i64 p.e.f2.f1, .int .i64 p.e.f3.f0, .int .i64 p.e.f3.f1, .bool p.e.f4, .string p.e.f5, .slice p.A p.e.f6.length p.c], .agg #[.int .i64 q.e.f0, .int .i64 q.e.f1.f0, .int .i64 q.e.f1.f1, .int .i64 q.e.f2.f0, .int .i64 q.e.f2.f1, .int .i64 q.e.f3.f0, .int .i64 q.e.f3.f1, .bool q.e.f4, .string q.e.f5, .slice q.A q.e.f6.length q.c]] w fun e w' => e = .returned (.bool (sameQ p.e q.e)) ∧ Below w.heap.size w w' := by
 obtain ⟨A, c, hv, hc, hC⟩ := hp
 injection hv with h1 h2 h3
 subst h1 h3
 obtain ⟨A, c, hv, hc', hC'⟩ := hq
 injection hv with h1 h2 h3
 subst h1 h3
 refine (X.cachetteref15_Same.calls 2000 p.e.f0 p.e.f1.f0 p.e.f1.f1 p.e.f2.f0 p.e.f2.f1 p.e.f3.f0 p.e.f3.f1 p.e.f4 p.e.f5 p.A p.c p.e.f6 q.e.f0 q.e.f1.f0 q.e.f1.f1 q.e.f2.f0 q.e.f2.f1 q.e.f3.f0 q.e.f3.f1 q.e.f4 q.e.f5 q.A q.c q.e.f6 _ w hC hc hC' hc' (rosame_f p.e q.e hbp hbq hl)).mono ?_
 rintro e w' ⟨h1, h2⟩
 exact ⟨h1, by first | exact h2 | exact h2.below⟩
theorem oless_calls (p q : QP) (w : World) (hp : Rd w p.b p.e.f6) (hq : Rd w q.b q.e.f6) :
  Calls Try.prog 8 #[.agg #[.int .i64 p.e.f0, .int .i64 p.e.f1.f0, .int .i64 p.e.f1.f1, .int .i64 p.e.f2.f0, .int .i64 p.e.f2.f1, .int .i64 p.e.f3.f0, .int .i64 p.e.f3.f1, .bool p.e.f4, .string p.e.f5, .slice p.A p.e.f6.length p.c], .agg #[.int .i64 q.e.f0, .int .i64 q.e.f1.f0, .int .i64 q.e.f1.f1, .int .i64 q.e.f2.f0, .int .i64 q.e.f2.f1, .int .i64 q.e.f3.f0, .int .i64 q.e.f3.f1, .bool q.e.f4, .string q.e.f5, .slice q.A q.e.f6.length q.c]] w fun e w' => e = .returned (.bool (decide (ltO (kO p) (kO q)))) ∧ Below w.heap.size w w' := by
 obtain ⟨A, c, hv, hc, hC⟩ := hp
 injection hv with h1 h2 h3
 subst h1 h3
 obtain ⟨A, c, hv, hc', hC'⟩ := hq
 injection hv with h1 h2 h3
 subst h1 h3
 have hf : X.op_Less.f 3 p.e.f0 p.e.f1.f0 p.e.f1.f1 p.e.f2.f0 p.e.f2.f1 p.e.f3.f0 p.e.f3.f1 p.e.f4 p.e.f5 p.e.f6 q.e.f0 q.e.f1.f0 q.e.f1.f1 q.e.f2.f0 q.e.f2.f1 q.e.f3.f0 q.e.f3.f1 q.e.f4 q.e.f5 q.e.f6 = some (decide (ltO (kO p) (kO q))) := by
  unfold X.op_Less.f X.op_compare.f
  rw [scompare_f]
  simp only [Option.bind_some]
  show some (decide (cmO p q < 0)) = _
  congr 1
  exact decide_eq_decide.2 (cmO_lt p q)
 refine (X.op_Less.calls 3 p.e.f0 p.e.f1.f0 p.e.f1.f1 p.e.f2.f0 p.e.f2.f1 p.e.f3.f0 p.e.f3.f1 p.e.f4 p.e.f5 p.A p.c p.e.f6 q.e.f0 q.e.f1.f0 q.e.f1.f1 q.e.f2.f0 q.e.f2.f1 q.e.f3.f0 q.e.f3.f1 q.e.f4 q.e.f5 q.A q.c q.e.f6 _ w hC hc hC' hc' hf).mono ?_
 rintro e w' ⟨h1, h2⟩
 exact ⟨h1, by first | exact h2 | exact h2.below⟩
theorem QRow.reads {w : World} {base : Nat} {v : Value} {ps : List QP} (h : QRow w base v ps) (hb : ∀ p ∈ ps, Rd w p.b p.e.f6) : ∃ A c, v = .slice A ps.length c ∧ ps.length ≤ c ∧ Kd.C X.k31 w A (ps.map (·.e)).length (ps.map (·.e)) := by
 rcases h.slice with ⟨rfl, rfl⟩ | ⟨g, cap, cur, rfl, h2, h3, h4, h5, h6, h7⟩
 ·exact ⟨none, 0, rfl, Nat.le_refl _, Kd.C_nil _ _⟩
 ·refine ⟨_, _, rfl, h4, ⟨rfl, by rw [List.length_map]; exact Nat.le_trans h4 h5, fun hp => ⟨_, rfl, fun j x hx => ?_⟩⟩⟩
  rw [List.getElem?_map, Option.map_eq_some_iff] at hx
  obtain ⟨p, hp', rfl⟩ := hx
  obtain ⟨A, c, hv, hl, hC⟩ := hb p (List.mem_of_getElem? hp')
  injection hv with e1 e2 e3
  refine ⟨qC p, rfl, ?_, fun q u hu => ?_⟩
  ·exact X.k31_mk w p.e (A9 := p.A) (c9 := p.c) (by rw [e3]; exact hl) (by rw [e1]; exact hC)
  ·rw [Addr.add_lit, Nat.zero_add, blk_cell h3]
   exact cur_at h7 hp' q u hu
/-- Two operations in a slice. -/
theorem two_ops (W : World) (g base : Nat) (p q : QP) (hb : base ≤ g) (hg : W.heap[g]? = some (.cells (qC p ++ qC q).toArray 31 (0, 0))) : QRow W base (.slice (some ⟨g, 0, none⟩) 2 2) [p, q] :=
 ⟨⟨rfl, .inr ⟨g, 2, _, rfl, hb, hg, Nat.le_refl _, by decide, rfl, by simp [flQ, qC]⟩⟩⟩
theorem light15_two (w : World) (g base : Nat) (p q : QP) (r : Bool) (hr : X.cachettelaw15_Light.l0 100 [p.e, q.e] (0 : Int) = some r) (h : QRow w base (.slice (some ⟨g, 0, none⟩) 2 2) [p, q]) (hp : Rd w p.b p.e.f6) (hq : Rd w q.b q.e.f6) :
  Calls Try.prog 5 #[.slice (some ⟨g, 0, none⟩) 2 2, .int .i64 2] w fun e w' => e = .returned (.bool r) ∧ Below w.heap.size w w' := by
 obtain ⟨A, c, hv, hc, hC⟩ := h.reads (fun s hs => by
  simp only [List.mem_cons, List.not_mem_nil, or_false] at hs
  rcases hs with rfl | rfl
  ·exact hp
  ·exact hq)
 injection hv with e1 _ e3
 subst e1 e3
 refine (X.cachettelaw15_Light.calls 100 (some ⟨g, 0, none⟩) 2 [p.e, q.e] 2 r w hC hc ?_).mono ?_
 ·rw [X.cachettelaw15_Light.f, if_neg (by simp)]
  exact hr
 ·rintro e w' ⟨h1, h2⟩
  exact ⟨h1, by first | exact h2 | exact h2.below⟩
theorem light15_f (l : List Oe) : ∃ r : Bool, (r = true → l.length ≤ 60 ∧ ∀ e ∈ l, e.f6.length ≤ 500) ∧ X.cachettelaw15_Light.f 100 l 60 = some r := by
 by_cases hl : (l.length : Int) > 60
 ·exact ⟨false, fun h => Bool.noConfusion h, by rw [X.cachettelaw15_Light.f, if_pos hl]⟩
 ·obtain ⟨r, hr, hr2⟩ := light15_l l (by omega) 100 0 (by omega) (Nat.zero_le _)
  exact ⟨r, fun h => ⟨by omega, fun e he => hr2 h e (by simpa using he)⟩, by rw [X.cachettelaw15_Light.f, if_neg hl]; exact hr⟩
theorem light15_at (w : World) (A : Option Addr) (c : Nat) (l : List Oe) (r : Bool) (hf : X.cachettelaw15_Light.f 100 l 60 = some r) (hC : Kd.C X.k31 w A l.length l) (hc : l.length ≤ c) :
  Calls Try.prog 5 #[.slice A l.length c, .int .i64 60] w fun e w' => e = .returned (.bool r) ∧ Below w.heap.size w w' := by
 refine (X.cachettelaw15_Light.calls 100 A c l 60 r w hC hc hf).mono ?_
 rintro e w' ⟨h1, h2⟩
 exact ⟨h1, by first | exact h2 | exact h2.below⟩
/-- All of what is sorted by either. -/
theorem all15_mix (w : World) (b1 b2 : Nat) (A A' : Option Addr) (c c' : Nat) (s t : List QP) (h : QlR w b1 (.slice A s.length c) s) (h' : QRow w b2 (.slice A' t.length c') t) (hr : ∀ p ∈ t, Rd w p.b p.e.f6) (he : s.map (·.e) = t.map (·.e)) (hl : t.length ≤ 100000) (hb : ∀ e ∈ t.map (·.e), e.f6.length ≤ 500) :
  Calls Try.prog 9 #[.slice A s.length c, .slice A' t.length c'] w fun e w' => e = .returned (.bool true) ∧ Below w.heap.size w w' := by
 obtain ⟨A1, c1, e1, hc1, hC1⟩ := h.reads
 injection e1 with e2 _ e3
 subst e2 e3
 obtain ⟨A2, c2, e1, hc2, hC2⟩ := h'.reads hr
 injection e1 with e2 _ e3
 subst e2 e3
 have hl2 : (t.map (·.e)).length = t.length := List.length_map _
 have hst : s.length = t.length := by simpa using congrArg List.length he
 rw [he] at hC1
 have := X.cachetteref15_All.calls 200000 A c (t.map (·.e)) A' c' (t.map (·.e)) true w hC1 (by rw [hl2, ← hst]; exact hc1) hC2 (by rw [hl2]; exact hc2) (all15_f _ (by rw [hl2]; exact hl) hb)
 rw [hl2] at this
 rw [hst]
 refine this.mono ?_
 rintro e w' ⟨h1, h2⟩
 exact ⟨h1, by first | exact h2 | exact h2.below⟩
end Go.Proofs.Ytaiakklflmhpmaa.K

namespace Go.Proofs.Ytaiakklflmhpmaa.K
open Go.RowKit Go.Proofs.YtaiakklflmhpmaaW.PrintWords Go.Proofs.YtaiakklflmhpmaaW.PrintLast Go.Proofs.YtaiakklflmhpmaaW.PrintMore
set_option linter.unusedVariables false
set_option linter.unusedSimpArgs false

theorem osort_n (A : Option Addr) (c n : Nat) (l : List Oe) (w : World) (hC : Kd.C X.k31 w A n l) (hn : l.length = n) (hl : l.length ≤ 60) (hd : ∀ e ∈ l, e.f6.length ≤ 500) :
  Calls Try.prog 7 #[.slice A n c] w fun e w' => OSortP w l e w' := by
 subst hn
 exact osort_calls A c l w hC hl hd
theorem rsort_n (A : Option Addr) (c n : Nat) (l : List Oe) (w : World) (hC : Kd.C X.k31 w A n l) (hn : l.length = n) (hl : l.length ≤ 60) :
  Calls Try.prog 10 #[.slice A n c] w fun e w' => RSortP w l e w' := by
 subst hn
 exact rsort_calls A c l w hC hl
theorem osame_n (p q : QP) (s : Bool) (w : World) (h : sameQ p.e q.e = s) (hp : Rd w p.b p.e.f6) (hq : Rd w q.b q.e.f6) :
  Calls Try.prog 11 #[.agg #[.int .i64 p.e.f0, .int .i64 p.e.f1.f0, .int .i64 p.e.f1.f1, .int .i64 p.e.f2.f0, .int .i64 p.e.f2.f1, .int .i64 p.e.f3.f0, .int .i64 p.e.f3.f1, .bool p.e.f4, .string p.e.f5, .slice p.A p.e.f6.length p.c], .agg #[.int .i64 q.e.f0, .int .i64 q.e.f1.f0, .int .i64 q.e.f1.f1, .int .i64 q.e.f2.f0, .int .i64 q.e.f2.f1, .int .i64 q.e.f3.f0, .int .i64 q.e.f3.f1, .bool q.e.f4, .string q.e.f5, .slice q.A q.e.f6.length q.c]] w fun e w' => e = .returned (.bool s) ∧ Below w.heap.size w w' := by
 subst h
 exact osame_calls p q w hp hq
theorem rosame_n (p q : QP) (s : Bool) (w : World) (h : sameQ p.e q.e = s) (hp : Rd w p.b p.e.f6) (hq : Rd w q.b q.e.f6) (hbp : BytQ p.e) (hbq : BytQ q.e) (hl : p.e.f6.length ≤ 500) :
  Calls Try.prog 12 #[.agg #[.int .i64 p.e.f0, .int .i64 p.e.f1.f0, .int .i64 p.e.f1.f1, .int .i64 p.e.f2.f0, .int .i64 p.e.f2.f1, .int .i64 p.e.f3.f0, .int .i64 p.e.f3.f1, .bool p.e.f4, .string p.e.f5, .slice p.A p.e.f6.length p.c], .agg #[.int .i64 q.e.f0, .int .i64 q.e.f1.f0, .int .i64 q.e.f1.f1, .int .i64 q.e.f2.f0, .int .i64 q.e.f2.f1, .int .i64 q.e.f3.f0, .int .i64 q.e.f3.f1, .bool q.e.f4, .string q.e.f5, .slice q.A q.e.f6.length q.c]] w fun e w' => e = .returned (.bool s) ∧ Below w.heap.size w w' := by
 subst h
 exact rosame_calls p q w hp hq hbp hbq hl
theorem oless_n (p q : QP) (s : Bool) (w : World) (h : decide (ltO (kO p) (kO q)) = s) (hp : Rd w p.b p.e.f6) (hq : Rd w q.b q.e.f6) :
  Calls Try.prog 8 #[.agg #[.int .i64 p.e.f0, .int .i64 p.e.f1.f0, .int .i64 p.e.f1.f1, .int .i64 p.e.f2.f0, .int .i64 p.e.f2.f1, .int .i64 p.e.f3.f0, .int .i64 p.e.f3.f1, .bool p.e.f4, .string p.e.f5, .slice p.A p.e.f6.length p.c], .agg #[.int .i64 q.e.f0, .int .i64 q.e.f1.f0, .int .i64 q.e.f1.f1, .int .i64 q.e.f2.f0, .int .i64 q.e.f2.f1, .int .i64 q.e.f3.f0, .int .i64 q.e.f3.f1, .bool q.e.f4, .string q.e.f5, .slice q.A q.e.f6.length q.c]] w fun e w' => e = .returned (.bool s) ∧ Below w.heap.size w w' := by
 subst h
 exact oless_calls p q w hp hq
theorem fless4_n (p q : QP) (s : Bool) (w : World) (h : decide (ltO (kO p) (kO q)) = s) :
  Calls Try.prog 13 #[.agg #[.int .i64 p.e.f1.f0, .int .i64 p.e.f1.f1], .agg #[.int .i64 q.e.f1.f0, .int .i64 q.e.f1.f1]] w fun e w' => e = .returned (.bool s) ∧ Below w.heap.size w w' := by
 subst h
 exact fless4_calls p q w
theorem fo_mem {l : List Oe} {out : List QP} (h : Fo l out) : ∀ s ∈ out, s.e ∈ l := fun s hs => by
 have := List.mem_of_mem_head? (h.fst s hs)
 exact (List.mem_filter.1 this).1
theorem fo_small {l : List Oe} {out : List QP} (h : Fo l out) (hd : ∀ e ∈ l, e.f6.length ≤ 500) : ∀ e ∈ out.map (·.e), e.f6.length ≤ 500 := fun e he => by
 obtain ⟨s, hs, rfl⟩ := List.mem_map.1 he
 exact hd _ (fo_mem h s hs)
theorem nodup_len : ∀ (a b : List Oe), a.Nodup → (∀ x ∈ a, x ∈ b) → a.length ≤ b.length
 | [], _, _, _ => Nat.zero_le _
 | x :: a, b, hn, h => by
  obtain ⟨s, t, rfl⟩ := List.append_of_mem (h x List.mem_cons_self)
  have hn' := List.nodup_cons.1 hn
  have := nodup_len a (s ++ t) hn'.2 (fun y hy => by
   rcases List.mem_append.1 (h y (List.mem_cons_of_mem _ hy)) with g | g
   ·exact List.mem_append_left _ g
   ·rcases List.mem_cons.1 g with rfl | g
    ·exact absurd hy hn'.1
    ·exact List.mem_append_right _ g)
  simp only [List.length_append, List.length_cons] at this ⊢
  omega
theorem fo_len {l : List Oe} {out : List QP} (h : Fo l out) (hl : l.length ≤ 60) : out.length ≤ 100000 := by
 have hn : (out.map (·.e)).Nodup := by
  refine List.Pairwise.imp (R := fun x y => ltO (keO x) (keO y)) (fun {x y} hxy e => by rw [e] at hxy; exact ltO.irr hxy) ?_
  rw [List.pairwise_map]
  exact h.st
 have := nodup_len _ l hn (fun x hx => by
  obtain ⟨s, hs, rfl⟩ := List.mem_map.1 hx
  exact fo_mem h s hs)
 rw [List.length_map] at this
 omega
theorem light15_n (w : World) (A : Option Addr) (c n : Nat) (l : List Oe) (r : Bool) (hf : X.cachettelaw15_Light.f 100 l 60 = some r) (hC : Kd.C X.k31 w A n l) (hn : l.length = n) (hc : l.length ≤ c) :
  Calls Try.prog 5 #[.slice A n c, .int .i64 60] w fun e w' => e = .returned (.bool r) ∧ Below w.heap.size w w' := by
 subst hn
 exact light15_at w A c l r hf hC hc
def sorts_walk.T3 : Bool × List (List Nat × List Nat) := (true, [([], []), ([0], [0]), ([], []), ([2, 1], [2]), ([1, 3, 3], [1, 3]), ([4, 4], [4]), ([5], [5]), ([5], [5]), ([6, 7, 5, 5], [5, 6, 7]), ([5], [5]), ([5], [5]), ([9, 10, 8, 5], [5, 9, 10]), ([8, 11, 5], [5, 8, 11]), ([5, 12], [5, 12]), ([13, 11], [13]), ([14], [14]), ([14], [14]), ([15, 16, 14, 14], [14, 15, 16]), ([14], [14]), ([18, 14], [14, 18]), ([14], [14]), ([20, 14], [14, 20]), ([19, 21, 17, 14], [14, 19, 21]), ([17, 22, 14], [14, 17, 22]), ([14, 23], [14, 23]), ([24, 22], [24]), ([25, 25], [25]), ([25, 26], [25, 26]), ([27, 26, 0, 1, 2, 3, 4, 5, 6, 7, 8, 9, 10, 11, 12, 13, 14, 15, 16, 17, 18, 19, 20, 21, 22, 23, 24, 25, 26, 27], [27])])
def sorts_walk.B3 : List Nat := [0, 1, 0, 7, 15, 31, 63, 63, 255, 63, 63, 2047, 4095, 8191, 16383, 32767, 32767, 131071, 32767, 294911, 32767, 1081343, 4194303, 8388607, 16777215, 33554431, 67108863, 134217727, 268435455]
theorem sorts_walk.tab3 : rtab .any (opsOf Try.f4 3) = sorts_walk.T3 := by kernel_rfl
theorem sorts_walk.bits3 : waitsOk sorts_walk.T3.2 sorts_walk.B3 = true := by kernel_rfl
set_option maxRecDepth 100000 in
set_option maxHeartbeats 16000000 in
theorem sorts_walk (v : Value) (l : List Oe) (pa pb : QP) (w : World) (hv : ∃ A c, v = .slice A l.length c ∧ l.length ≤ c ∧ Kd.C X.k31 w A l.length l) (hra : Rd w pa.b pa.e.f6) (hrb : Rd w pb.b pb.e.f6) (hba : BytQ pa.e) (hbb : BytQ pb.e) :
  Calls Try.prog 4 #[v, qV pa, qV pb] w fun e w' => e = .returned (.bool true) ∧ Below w.heap.size w w' := by
 obtain ⟨A, c, rfl, hc, hC⟩ := hv
 obtain ⟨r, h60, hf⟩ := light15_f l
 obtain ⟨r2, hf2, h500⟩ := light15_l [pa.e, pb.e] (by simp) 100 0 (by simp) (Nat.zero_le _)
 obtain ⟨nl, hnl⟩ : ∃ nl, l.length = nl := ⟨_, rfl⟩
 have HNL := Aside0.mk hnl
 have HCC := Aside0.mk hc
 rw [hnl] at hC ⊢
 have HC := Aside0.mk hC
 have HF := Aside0.mk hf
 have HF2 := Aside0.mk hf2
 have HRA0 := Aside0.mk hra
 have HRB0 := Aside0.mk hrb
 have HBA := Aside0.mk hba
 have HBB := Aside0.mk hbb
 simp only [qV]
 clear hf hf2 hC hc hnl hra hrb hba hbb
 cases r
 ·clear h60 h500
  go_enter Try.func4, Try.ntmps4
  go_upto_region 1 with fail
  refine gen_world (fun W1 hW1 => ?_)
  have hB1 : Below w.heap.size w W1 := by rw [hW1]; exact below_alloc (below_alloc (Below.refl _ _) _) _
  have hx1 : W1.heap[w.heap.size]? = some (.cells #[.int .i64 pa.e.f0, .int .i64 pa.e.f1.f0, .int .i64 pa.e.f1.f1, .int .i64 pa.e.f2.f0, .int .i64 pa.e.f2.f1, .int .i64 pa.e.f3.f0, .int .i64 pa.e.f3.f1, .bool pa.e.f4, .string pa.e.f5, .slice pa.A pa.e.f6.length pa.c] 31 (0, 0)) := by rw [hW1]; exact (heap_alloc_old _ _ (by simp)).trans (heap_alloc_new _ _)
  have hy1 : W1.heap[w.heap.size + 1]? = some (.cells #[.int .i64 pb.e.f0, .int .i64 pb.e.f1.f0, .int .i64 pb.e.f1.f1, .int .i64 pb.e.f2.f0, .int .i64 pb.e.f2.f1, .int .i64 pb.e.f3.f0, .int .i64 pb.e.f3.f1, .bool pb.e.f4, .string pb.e.f5, .slice pb.A pb.e.f6.length pb.c] 31 (0, 0)) := by rw [hW1]; exact (congrArg _ (by simp)).trans (heap_alloc_new _ _)
  obtain ⟨ga, hga⟩ : ∃ g, g = w.heap.size := ⟨_, rfl⟩
  obtain ⟨gb, hgb⟩ : ∃ g, g = w.heap.size + 1 := ⟨_, rfl⟩
  rw [← hgb] at hy1 ⊢
  rw [← hga] at hx1 ⊢
  obtain ⟨x0, x1, x2, x3, x4, x5, x6, x7, x8, x9, -⟩ := cells10z hx1
  obtain ⟨y0, y1, y2, y3, y4, y5, y6, y7, y8, y9, -⟩ := cells10z hy1
  have HX1 := Aside0.mk hx1
  have HY1 := Aside0.mk hy1
  have HB1 := Aside0.mk hB1
  clear hW1 hB1 hx1 hy1 hga hgb
  go_upto_region 2 with (first
   | (go_at_call 5; go_must (refine (light15_n _ A c nl l false HF.out (Kd.C_below HC.out HB1.out) HNL.out HCC.out).mono ?_; rintro e w8 ⟨rfl, hb⟩; have HB8 : Aside0 (Below w.heap.size w w8) := ⟨HB1.out.trans (hb.mono HB1.out.size)⟩; have HX8 := Aside0.mk (blk_below HX1.out hb); have HY8 := Aside0.mk (blk_below HY1.out hb); clear x0 x1 x2 x3 x4 x5 x6 x7 x8 x9 y0 y1 y2 y3 y4 y5 y6 y7 y8 y9; obtain ⟨x0, x1, x2, x3, x4, x5, x6, x7, x8, x9, -⟩ := cells10z HX8.out; obtain ⟨y0, y1, y2, y3, y4, y5, y6, y7, y8, y9, -⟩ := cells10z HY8.out; clear hb)))
  have HBQ := HB8
  clear x0 x1 x2 x3 x4 x5 x6 x7 x8 x9 y0 y1 y2 y3 y4 y5 y6 y7 y8 y9
  go_wp2_with (first
   | (go_at_call 6; go_must (refine (alive15_calls _).mono ?_; rintro e wz ⟨rfl, hb⟩; have HBZ : Aside0 (Below w.heap.size w wz) := ⟨HBQ.out.trans (hb.mono HBQ.out.size)⟩; clear hb)))
  go_ret
  exact ⟨rfl, HBZ.out⟩
 ·have HL60 := Aside0.mk (h60 rfl)
  clear h60
  cases r2
  ·clear h500
   go_enter Try.func4, Try.ntmps4
   go_upto_region 1 with fail
   refine gen_world (fun W1 hW1 => ?_)
   have hB1 : Below w.heap.size w W1 := by rw [hW1]; exact below_alloc (below_alloc (Below.refl _ _) _) _
   have hx1 : W1.heap[w.heap.size]? = some (.cells #[.int .i64 pa.e.f0, .int .i64 pa.e.f1.f0, .int .i64 pa.e.f1.f1, .int .i64 pa.e.f2.f0, .int .i64 pa.e.f2.f1, .int .i64 pa.e.f3.f0, .int .i64 pa.e.f3.f1, .bool pa.e.f4, .string pa.e.f5, .slice pa.A pa.e.f6.length pa.c] 31 (0, 0)) := by rw [hW1]; exact (heap_alloc_old _ _ (by simp)).trans (heap_alloc_new _ _)
   have hy1 : W1.heap[w.heap.size + 1]? = some (.cells #[.int .i64 pb.e.f0, .int .i64 pb.e.f1.f0, .int .i64 pb.e.f1.f1, .int .i64 pb.e.f2.f0, .int .i64 pb.e.f2.f1, .int .i64 pb.e.f3.f0, .int .i64 pb.e.f3.f1, .bool pb.e.f4, .string pb.e.f5, .slice pb.A pb.e.f6.length pb.c] 31 (0, 0)) := by rw [hW1]; exact (congrArg _ (by simp)).trans (heap_alloc_new _ _)
   obtain ⟨ga, hga⟩ : ∃ g, g = w.heap.size := ⟨_, rfl⟩
   obtain ⟨gb, hgb⟩ : ∃ g, g = w.heap.size + 1 := ⟨_, rfl⟩
   rw [← hgb] at hy1 ⊢
   rw [← hga] at hx1 ⊢
   obtain ⟨x0, x1, x2, x3, x4, x5, x6, x7, x8, x9, -⟩ := cells10z hx1
   obtain ⟨y0, y1, y2, y3, y4, y5, y6, y7, y8, y9, -⟩ := cells10z hy1
   have HX1 := Aside0.mk hx1
   have HY1 := Aside0.mk hy1
   have HB1 := Aside0.mk hB1
   clear hW1 hB1 hx1 hy1 hga hgb
   go_upto_region 2 with (first
    | (have g8 := HB8; clear g8; go_at_call 5; go_must (refine (light15_two _ w8.heap.size w.heap.size pa pb false HF2.out (two_ops _ w8.heap.size w.heap.size pa pb HB8.out.size (heap_alloc_new _ _)) ((HRA0.out.below HB8.out).below (below_alloc (Below.refl _ _) _)) ((HRB0.out.below HB8.out).below (below_alloc (Below.refl _ _) _))).mono ?_; rintro e w14 ⟨rfl, hb⟩; have HB14 : Aside0 (Below w.heap.size w w14) := ⟨below_step (below_alloc HB8.out _) hb⟩; have HX14 := Aside0.mk (blk_below (blk_alloc HX8.out _) hb); have HY14 := Aside0.mk (blk_below (blk_alloc HY8.out _) hb); clear hb))
    | (go_at_call 5; go_must (refine (light15_n _ A c nl l true HF.out (Kd.C_below HC.out HB1.out) HNL.out HCC.out).mono ?_; rintro e w8 ⟨rfl, hb⟩; have HB8 : Aside0 (Below w.heap.size w w8) := ⟨HB1.out.trans (hb.mono HB1.out.size)⟩; have HX8 := Aside0.mk (blk_below HX1.out hb); have HY8 := Aside0.mk (blk_below HY1.out hb); clear x0 x1 x2 x3 x4 x5 x6 x7 x8 x9 y0 y1 y2 y3 y4 y5 y6 y7 y8 y9; obtain ⟨x0, x1, x2, x3, x4, x5, x6, x7, x8, x9, -⟩ := cells10z HX8.out; obtain ⟨y0, y1, y2, y3, y4, y5, y6, y7, y8, y9, -⟩ := cells10z HY8.out; clear hb)))
   have HBQ := HB14
   clear x0 x1 x2 x3 x4 x5 x6 x7 x8 x9 y0 y1 y2 y3 y4 y5 y6 y7 y8 y9
   go_wp2_with (first
    | (go_at_call 6; go_must (refine (alive15_calls _).mono ?_; rintro e wz ⟨rfl, hb⟩; have HBZ : Aside0 (Below w.heap.size w wz) := ⟨HBQ.out.trans (hb.mono HBQ.out.size)⟩; clear hb)))
   go_ret
   exact ⟨rfl, HBZ.out⟩
  ·have HLA : Aside0 (pa.e.f6.length ≤ 500) := ⟨h500 rfl pa.e (by simp)⟩
   clear h500
   go_enter Try.func4, Try.ntmps4
   go_upto_region 1 with fail
   refine gen_world (fun W1 hW1 => ?_)
   have hB1 : Below w.heap.size w W1 := by rw [hW1]; exact below_alloc (below_alloc (Below.refl _ _) _) _
   have hx1 : W1.heap[w.heap.size]? = some (.cells #[.int .i64 pa.e.f0, .int .i64 pa.e.f1.f0, .int .i64 pa.e.f1.f1, .int .i64 pa.e.f2.f0, .int .i64 pa.e.f2.f1, .int .i64 pa.e.f3.f0, .int .i64 pa.e.f3.f1, .bool pa.e.f4, .string pa.e.f5, .slice pa.A pa.e.f6.length pa.c] 31 (0, 0)) := by rw [hW1]; exact (heap_alloc_old _ _ (by simp)).trans (heap_alloc_new _ _)
   have hy1 : W1.heap[w.heap.size + 1]? = some (.cells #[.int .i64 pb.e.f0, .int .i64 pb.e.f1.f0, .int .i64 pb.e.f1.f1, .int .i64 pb.e.f2.f0, .int .i64 pb.e.f2.f1, .int .i64 pb.e.f3.f0, .int .i64 pb.e.f3.f1, .bool pb.e.f4, .string pb.e.f5, .slice pb.A pb.e.f6.length pb.c] 31 (0, 0)) := by rw [hW1]; exact (congrArg _ (by simp)).trans (heap_alloc_new _ _)
   obtain ⟨ga, hga⟩ : ∃ g, g = w.heap.size := ⟨_, rfl⟩
   obtain ⟨gb, hgb⟩ : ∃ g, g = w.heap.size + 1 := ⟨_, rfl⟩
   rw [← hgb] at hy1 ⊢
   rw [← hga] at hx1 ⊢
   obtain ⟨x0, x1, x2, x3, x4, x5, x6, x7, x8, x9, -⟩ := cells10z hx1
   obtain ⟨y0, y1, y2, y3, y4, y5, y6, y7, y8, y9, -⟩ := cells10z hy1
   have HX1 := Aside0.mk hx1
   have HY1 := Aside0.mk hy1
   have HB1 := Aside0.mk hB1
   clear hW1 hB1 hx1 hy1 hga hgb
   go_upto_region 3 with (first
    | (have g8 := HB8; clear g8; go_at_call 5; go_must (refine (light15_two _ w8.heap.size w.heap.size pa pb true HF2.out (two_ops _ w8.heap.size w.heap.size pa pb HB8.out.size (heap_alloc_new _ _)) ((HRA0.out.below HB8.out).below (below_alloc (Below.refl _ _) _)) ((HRB0.out.below HB8.out).below (below_alloc (Below.refl _ _) _))).mono ?_; rintro e w14 ⟨rfl, hb⟩; have HB14 : Aside0 (Below w.heap.size w w14) := ⟨below_step (below_alloc HB8.out _) hb⟩; have HX14 := Aside0.mk (blk_below (blk_alloc HX8.out _) hb); have HY14 := Aside0.mk (blk_below (blk_alloc HY8.out _) hb); clear hb))
    | (go_at_call 5; go_must (refine (light15_n _ A c nl l true HF.out (Kd.C_below HC.out HB1.out) HNL.out HCC.out).mono ?_; rintro e w8 ⟨rfl, hb⟩; have HB8 : Aside0 (Below w.heap.size w w8) := ⟨HB1.out.trans (hb.mono HB1.out.size)⟩; have HX8 := Aside0.mk (blk_below HX1.out hb); have HY8 := Aside0.mk (blk_below HY1.out hb); clear x0 x1 x2 x3 x4 x5 x6 x7 x8 x9 y0 y1 y2 y3 y4 y5 y6 y7 y8 y9; obtain ⟨x0, x1, x2, x3, x4, x5, x6, x7, x8, x9, -⟩ := cells10z HX8.out; obtain ⟨y0, y1, y2, y3, y4, y5, y6, y7, y8, y9, -⟩ := cells10z HY8.out; clear hb)))
   clear x0 x1 x2 x3 x4 x5 x6 x7 x8 x9 y0 y1 y2 y3 y4 y5 y6 y7 y8 y9
   refine gen_world (fun wx hwx => ?_)
   have HBX : Aside0 (Below w.heap.size w wx) := ⟨by rw [hwx]; first | exact HB14.out | exact below_step HB14.out (by repeat (first | exact Below.refl _ _ | apply pw_below_drewN | apply below_drew1))⟩
   have HXX : Aside0 (wx.heap[ga]? = some (.cells #[.int .i64 pa.e.f0, .int .i64 pa.e.f1.f0, .int .i64 pa.e.f1.f1, .int .i64 pa.e.f2.f0, .int .i64 pa.e.f2.f1, .int .i64 pa.e.f3.f0, .int .i64 pa.e.f3.f1, .bool pa.e.f4, .string pa.e.f5, .slice pa.A pa.e.f6.length pa.c] 31 (0, 0))) := ⟨by rw [hwx]; first | exact HX14.out | exact blk_below HX14.out (by repeat (first | exact Below.refl _ _ | apply pw_below_drewN | apply below_drew1))⟩
   have HYX : Aside0 (wx.heap[gb]? = some (.cells #[.int .i64 pb.e.f0, .int .i64 pb.e.f1.f0, .int .i64 pb.e.f1.f1, .int .i64 pb.e.f2.f0, .int .i64 pb.e.f2.f1, .int .i64 pb.e.f3.f0, .int .i64 pb.e.f3.f1, .bool pb.e.f4, .string pb.e.f5, .slice pb.A pb.e.f6.length pb.c] 31 (0, 0))) := ⟨by rw [hwx]; first | exact HY14.out | exact blk_below HY14.out (by repeat (first | exact Below.refl _ _ | apply pw_below_drewN | apply below_drew1))⟩
   clear hwx
   obtain ⟨x0, x1, x2, x3, x4, x5, x6, x7, x8, x9, -⟩ := cells10z HXX.out
   obtain ⟨y0, y1, y2, y3, y4, y5, y6, y7, y8, y9, -⟩ := cells10z HYX.out
   have HCX : Aside0 (Kd.C X.k31 wx A nl l) := ⟨Kd.C_below HC.out HBX.out⟩
   have HRA : Aside0 (Rd wx pa.b pa.e.f6) := ⟨HRA0.out.below HBX.out⟩
   have HRB : Aside0 (Rd wx pb.b pb.e.f6) := ⟨HRB0.out.below HBX.out⟩
   obtain ⟨sm, hsm⟩ : ∃ s, sameQ pa.e pb.e = s := ⟨_, rfl⟩
   obtain ⟨ls, hls⟩ : ∃ s, decide (ltO (kO pa) (kO pb)) = s := ⟨_, rfl⟩
   have HSM := Aside0.mk hsm
   have HLS := Aside0.mk hls
   have hsb : (sm == sm) = true := by simp
   have hlb : (ls == ls) = true := by simp
   clear hsm hls
   refine start_ (n := 29) (S := fun w' => w'.cell? ⟨ga, 0, none⟩ = some (.int .i64 pa.e.f0) ∧ w'.cell? ⟨ga, 1, none⟩ = some (.int .i64 pa.e.f1.f0) ∧ w'.cell? ⟨ga, 2, none⟩ = some (.int .i64 pa.e.f1.f1) ∧ w'.cell? ⟨ga, 3, none⟩ = some (.int .i64 pa.e.f2.f0) ∧ w'.cell? ⟨ga, 4, none⟩ = some (.int .i64 pa.e.f2.f1) ∧ w'.cell? ⟨ga, 5, none⟩ = some (.int .i64 pa.e.f3.f0) ∧ w'.cell? ⟨ga, 6, none⟩ = some (.int .i64 pa.e.f3.f1) ∧ w'.cell? ⟨ga, 7, none⟩ = some (.bool pa.e.f4) ∧ w'.cell? ⟨ga, 8, none⟩ = some (.string pa.e.f5) ∧ w'.cell? ⟨ga, 9, none⟩ = some (.slice pa.A pa.e.f6.length pa.c) ∧ w'.cell? ⟨gb, 0, none⟩ = some (.int .i64 pb.e.f0) ∧ w'.cell? ⟨gb, 1, none⟩ = some (.int .i64 pb.e.f1.f0) ∧ w'.cell? ⟨gb, 2, none⟩ = some (.int .i64 pb.e.f1.f1) ∧ w'.cell? ⟨gb, 3, none⟩ = some (.int .i64 pb.e.f2.f0) ∧ w'.cell? ⟨gb, 4, none⟩ = some (.int .i64 pb.e.f2.f1) ∧ w'.cell? ⟨gb, 5, none⟩ = some (.int .i64 pb.e.f3.f0) ∧ w'.cell? ⟨gb, 6, none⟩ = some (.int .i64 pb.e.f3.f1) ∧ w'.cell? ⟨gb, 7, none⟩ = some (.bool pb.e.f4) ∧ w'.cell? ⟨gb, 8, none⟩ = some (.string pb.e.f5) ∧ w'.cell? ⟨gb, 9, none⟩ = some (.slice pb.A pb.e.f6.length pb.c)) (ds := []) #[false, false, false, false, false, false, false, false, false, false, false, false, false, false, false, false, false, false, false, false, false, false, false, false, false, false, false, false, false] (by kernel_rfl) rfl rfl ⟨x0, x1, x2, x3, x4, x5, x6, x7, x8, x9, y0, y1, y2, y3, y4, y5, y6, y7, y8, y9⟩ (fun hHeld => ?_)
   refine with_tabW sorts_walk.tab3 sorts_walk.bits3 (fun HT_ HW_ => ?_)
   refine pure_ (i := 0) (N := some 18) (v := ?_) (a' := ?_) #[true, false, false, false, false, false, false, false, false, false, false, false, false, false, false, false, false, false, false, false, false, false, false, false, false, false, false, false, false] rfl rfl (any_of HT_.out (by kernel_rfl)) (fun _ _ _ h => h) (Or.inl ⟨by rfl, ?_⟩) ?_ ?_
   rotate_left
   ·intro w'
    go_simp
    with_reducible rfl
   rotate_left
   ·simp only [Act.put, ta, tb, tc, i64_w, i32_w]
    rfl
   refine pure_ (i := 2) (N := some 20) (v := ?_) (a' := ?_) #[true, false, true, false, false, false, false, false, false, false, false, false, false, false, false, false, false, false, false, false, false, false, false, false, false, false, false, false, false] rfl rfl (any_of HT_.out (by kernel_rfl)) (fun _ _ _ h => h) (Or.inl ⟨by rfl, ?_⟩) ?_ ?_
   rotate_left
   ·intro w'
    go_simp
    with_reducible rfl
   rotate_left
   ·simp only [Act.put, ta, tb, tc, i64_w, i32_w]
    rfl
   refine one_ (i := 1) (N := some 19) #[true, true, true, false, false, false, false, false, false, false, false, false, false, false, false, false, false, false, false, false, false, false, false, false, false, false, false, false, false] rfl rfl (one_of HT_.out (by kernel_rfl)) (by decide) (fun K hK => ?_)
   refine goes_ Try.func7 (by kernel_rfl) rfl #[.slice A nl c] (by rfl) rfl rfl (by simp only [List.map_toArray, List.map_cons, List.map_nil] <;> rfl) ?_
   with_reducible refine (osort_n A c nl l _ (Kd.C_below HCX.out (below_drew1 (Below.refl _ _))) HNL.out HL60.out.1 HL60.out.2).mono ?_
   rintro e w19 ⟨g1, cap1, ss, rfl, hq1, hb19, hsp⟩
   refine ⟨_, rfl, ?_⟩
   have hB19 : Below wx.heap.size wx w19 := below_step (below_drew1 (Below.refl _ _)) hb19
   refine hK.out _ _ (lift20 hB19 x0 x1 x2 x3 x4 x5 x6 x7 x8 x9 y0 y1 y2 y3 y4 y5 y6 y7 y8 y9) (fun hHeld => ?_)
   clear hK K
   refine norm_ (a' := ?_) ?_ ?_
   rotate_left
   ·show Act.put _ (some 19) _ = _
    simp only [Act.put, ta, tb, tc, i64_w, i32_w]
    rfl
   refine one_ (i := 3) (N := some 21) #[true, true, true, true, false, false, false, false, false, false, false, false, false, false, false, false, false, false, false, false, false, false, false, false, false, false, false, false, false] rfl rfl (one_of HT_.out (by kernel_rfl)) (by decide) (fun K hK => ?_)
   refine goes_ Try.func10 (by kernel_rfl) rfl #[.slice A nl c] (by rfl) rfl rfl (by simp only [List.map_toArray, List.map_cons, List.map_nil] <;> rfl) ?_
   with_reducible refine (rsort_n A c nl l _ (Kd.C_below HCX.out hB19) HNL.out HL60.out.1).mono ?_
   rintro e w21 ⟨Br, dr, out, rfl, hq2, hrd2, hfo2, hb21⟩
   refine ⟨_, rfl, ?_⟩
   have hB21 : Below wx.heap.size wx w21 := below_step hB19 hb21
   refine hK.out _ _ (lift20 hB21 x0 x1 x2 x3 x4 x5 x6 x7 x8 x9 y0 y1 y2 y3 y4 y5 y6 y7 y8 y9) (fun hHeld => ?_)
   clear hK K
   refine norm_ (a' := ?_) ?_ ?_
   rotate_left
   ·show Act.put _ (some 21) _ = _
    simp only [Act.put, ta, tb, tc, i64_w, i32_w]
    rfl
   refine one_ (i := 4) (N := some 22) #[true, true, true, true, true, false, false, false, false, false, false, false, false, false, false, false, false, false, false, false, false, false, false, false, false, false, false, false, false] rfl rfl (one_of HT_.out (by kernel_rfl)) (by decide) (fun K hK => ?_)
   refine goes_ Try.func9 (by kernel_rfl) rfl #[.slice (some ⟨g1, 0, none⟩) ss.length cap1, .slice Br out.length dr] (by rfl) rfl rfl (by simp only [List.map_toArray, List.map_cons, List.map_nil] <;> rfl) ?_
   with_reducible refine (all15_mix _ _ _ (some ⟨g1, 0, none⟩) Br cap1 dr ss out (hq1.below hb21) hq2 (fun s hs => (hrd2 s hs).below hb21) (hsp.fo.same hfo2) (fo_len hfo2 HL60.out.1) (fo_small hfo2 HL60.out.2)).mono ?_
   rintro e w22 ⟨rfl, hb22⟩
   refine ⟨_, rfl, ?_⟩
   have hB22 : Below wx.heap.size wx w22 := below_step hB21 hb22
   refine hK.out _ _ (lift20 hB22 x0 x1 x2 x3 x4 x5 x6 x7 x8 x9 y0 y1 y2 y3 y4 y5 y6 y7 y8 y9) (fun hHeld => ?_)
   clear hK K
   refine norm_ (a' := ?_) ?_ ?_
   rotate_left
   ·show Act.put _ (some 22) _ = _
    simp only [Act.put, ta, tb, tc, i64_w, i32_w]
    rfl
   refine pure_ (i := 5) (N := some 23) (v := ?_) (a' := ?_) #[true, true, true, true, true, true, false, false, false, false, false, false, false, false, false, false, false, false, false, false, false, false, false, false, false, false, false, false, false] rfl rfl (any_of HT_.out (by kernel_rfl)) (fun _ _ _ h => h) (Or.inl ⟨by rfl, ?_⟩) ?_ ?_
   rotate_left
   ·intro w'
    go_simp
    with_reducible rfl
   rotate_left
   ·simp only [Act.put, ta, tb, tc, i64_w, i32_w]
    rfl
   refine take_ (i := 6) (N := some 24) (v := ?_) (a' := ?_) #[true, true, true, true, true, true, true, false, false, false, false, false, false, false, false, false, false, false, false, false, false, false, false, false, false, false, false, false, false] rfl rfl (take_ofW HT_.out HW_.out (by kernel_rfl)) (fun _ _ _ h => h) (Or.inl ⟨by rfl, ?_⟩) hHeld ?_ ?_
   rotate_left
   ·rintro w' ⟨s0, s1, s2, s3, s4, s5, s6, s7, s8, s9, s10, s11, s12, s13, s14, s15, s16, s17, s18, s19⟩
    go_simp
    with_reducible rfl
   rotate_left
   ·simp only [Act.put, ta, tb, tc, i64_w, i32_w]
    rfl
   refine take_ (i := 7) (N := some 25) (v := ?_) (a' := ?_) #[true, true, true, true, true, true, true, true, false, false, false, false, false, false, false, false, false, false, false, false, false, false, false, false, false, false, false, false, false] rfl rfl (take_ofW HT_.out HW_.out (by kernel_rfl)) (fun _ _ _ h => h) (Or.inl ⟨by rfl, ?_⟩) hHeld ?_ ?_
   rotate_left
   ·rintro w' ⟨s0, s1, s2, s3, s4, s5, s6, s7, s8, s9, s10, s11, s12, s13, s14, s15, s16, s17, s18, s19⟩
    go_simp
    with_reducible rfl
   rotate_left
   ·simp only [Act.put, ta, tb, tc, i64_w, i32_w]
    rfl
   refine take_ (i := 9) (N := some 27) (v := ?_) (a' := ?_) #[true, true, true, true, true, true, true, true, false, true, false, false, false, false, false, false, false, false, false, false, false, false, false, false, false, false, false, false, false] rfl rfl (take_ofW HT_.out HW_.out (by kernel_rfl)) (fun _ _ _ h => h) (Or.inl ⟨by rfl, ?_⟩) hHeld ?_ ?_
   rotate_left
   ·rintro w' ⟨s0, s1, s2, s3, s4, s5, s6, s7, s8, s9, s10, s11, s12, s13, s14, s15, s16, s17, s18, s19⟩
    go_simp
    with_reducible rfl
   rotate_left
   ·simp only [Act.put, ta, tb, tc, i64_w, i32_w]
    rfl
   refine take_ (i := 10) (N := some 28) (v := ?_) (a' := ?_) #[true, true, true, true, true, true, true, true, false, true, true, false, false, false, false, false, false, false, false, false, false, false, false, false, false, false, false, false, false] rfl rfl (take_ofW HT_.out HW_.out (by kernel_rfl)) (fun _ _ _ h => h) (Or.inl ⟨by rfl, ?_⟩) hHeld ?_ ?_
   rotate_left
   ·rintro w' ⟨s0, s1, s2, s3, s4, s5, s6, s7, s8, s9, s10, s11, s12, s13, s14, s15, s16, s17, s18, s19⟩
    go_simp
    with_reducible rfl
   rotate_left
   ·simp only [Act.put, ta, tb, tc, i64_w, i32_w]
    rfl
   refine one_ (i := 8) (N := some 26) #[true, true, true, true, true, true, true, true, true, true, true, false, false, false, false, false, false, false, false, false, false, false, false, false, false, false, false, false, false] rfl rfl (one_of HT_.out (by kernel_rfl)) (by decide) (fun K hK => ?_)
   refine goes_ Try.func11 (by kernel_rfl) rfl #[.agg #[.int .i64 pa.e.f0, .int .i64 pa.e.f1.f0, .int .i64 pa.e.f1.f1, .int .i64 pa.e.f2.f0, .int .i64 pa.e.f2.f1, .int .i64 pa.e.f3.f0, .int .i64 pa.e.f3.f1, .bool pa.e.f4, .string pa.e.f5, .slice pa.A pa.e.f6.length pa.c], .agg #[.int .i64 pb.e.f0, .int .i64 pb.e.f1.f0, .int .i64 pb.e.f1.f1, .int .i64 pb.e.f2.f0, .int .i64 pb.e.f2.f1, .int .i64 pb.e.f3.f0, .int .i64 pb.e.f3.f1, .bool pb.e.f4, .string pb.e.f5, .slice pb.A pb.e.f6.length pb.c]] (by rfl) rfl rfl (by simp only [List.map_toArray, List.map_cons, List.map_nil] <;> rfl) ?_
   with_reducible refine (osame_n pa pb sm _ HSM.out (HRA.out.below hB22) (HRB.out.below hB22)).mono ?_
   rintro e w26 ⟨rfl, hb26⟩
   refine ⟨_, rfl, ?_⟩
   have hB26 : Below wx.heap.size wx w26 := below_step hB22 hb26
   refine hK.out _ _ (lift20 hB26 x0 x1 x2 x3 x4 x5 x6 x7 x8 x9 y0 y1 y2 y3 y4 y5 y6 y7 y8 y9) (fun hHeld => ?_)
   clear hK K
   refine norm_ (a' := ?_) ?_ ?_
   rotate_left
   ·show Act.put _ (some 26) _ = _
    simp only [Act.put, ta, tb, tc, i64_w, i32_w]
    rfl
   refine one_ (i := 11) (N := some 29) #[true, true, true, true, true, true, true, true, true, true, true, true, false, false, false, false, false, false, false, false, false, false, false, false, false, false, false, false, false] rfl rfl (one_of HT_.out (by kernel_rfl)) (by decide) (fun K hK => ?_)
   refine goes_ Try.func12 (by kernel_rfl) rfl #[.agg #[.int .i64 pa.e.f0, .int .i64 pa.e.f1.f0, .int .i64 pa.e.f1.f1, .int .i64 pa.e.f2.f0, .int .i64 pa.e.f2.f1, .int .i64 pa.e.f3.f0, .int .i64 pa.e.f3.f1, .bool pa.e.f4, .string pa.e.f5, .slice pa.A pa.e.f6.length pa.c], .agg #[.int .i64 pb.e.f0, .int .i64 pb.e.f1.f0, .int .i64 pb.e.f1.f1, .int .i64 pb.e.f2.f0, .int .i64 pb.e.f2.f1, .int .i64 pb.e.f3.f0, .int .i64 pb.e.f3.f1, .bool pb.e.f4, .string pb.e.f5, .slice pb.A pb.e.f6.length pb.c]] (by rfl) rfl rfl (by simp only [List.map_toArray, List.map_cons, List.map_nil] <;> rfl) ?_
   with_reducible refine (rosame_n pa pb sm _ HSM.out (HRA.out.below hB26) (HRB.out.below hB26) HBA.out HBB.out HLA.out).mono ?_
   rintro e w29 ⟨rfl, hb29⟩
   refine ⟨_, rfl, ?_⟩
   have hB29 : Below wx.heap.size wx w29 := below_step hB26 hb29
   refine hK.out _ _ (lift20 hB29 x0 x1 x2 x3 x4 x5 x6 x7 x8 x9 y0 y1 y2 y3 y4 y5 y6 y7 y8 y9) (fun hHeld => ?_)
   clear hK K
   refine norm_ (a' := ?_) ?_ ?_
   rotate_left
   ·show Act.put _ (some 29) _ = _
    simp only [Act.put, ta, tb, tc, i64_w, i32_w]
    rfl
   refine pure_ (i := 12) (N := some 30) (v := ?_) (a' := ?_) #[true, true, true, true, true, true, true, true, true, true, true, true, true, false, false, false, false, false, false, false, false, false, false, false, false, false, false, false, false] rfl rfl (any_of HT_.out (by kernel_rfl)) (fun _ _ _ h => h) (Or.inl ⟨by rfl, ?_⟩) ?_ ?_
   rotate_left
   ·intro w'
    go_simp
    with_reducible rfl
   rotate_left
   ·simp only [Act.put, ta, tb, tc, i64_w, i32_w]
    rfl
   refine pure_ (i := 13) (N := some 31) (v := ?_) (a' := ?_) #[true, true, true, true, true, true, true, true, true, true, true, true, true, true, false, false, false, false, false, false, false, false, false, false, false, false, false, false, false] rfl rfl (any_of HT_.out (by kernel_rfl)) (fun _ _ _ h => h) (Or.inl ⟨by rfl, ?_⟩) ?_ ?_
   rotate_left
   ·intro w'
    go_simp
    with_reducible rfl
   rotate_left
   ·simp only [Act.put, ta, tb, tc, i64_w, i32_w]
    rfl
   refine pure_ (i := 14) (N := some 32) (v := ?_) (a' := ?_) #[true, true, true, true, true, true, true, true, true, true, true, true, true, true, true, false, false, false, false, false, false, false, false, false, false, false, false, false, false] rfl rfl (any_of HT_.out (by kernel_rfl)) (fun _ _ _ h => h) (Or.inl ⟨by rfl, ?_⟩) ?_ ?_
   rotate_left
   ·intro w'
    go_simp
    with_reducible rfl
   rotate_left
   ·simp only [Act.put, ta, tb, tc, i64_w, i32_w]
    rfl
   refine pure_ (i := 18) (N := some 36) (v := ?_) (a' := ?_) #[true, true, true, true, true, true, true, true, true, true, true, true, true, true, true, false, false, false, true, false, false, false, false, false, false, false, false, false, false] rfl rfl (any_of HT_.out (by kernel_rfl)) (fun _ _ _ h => h) (Or.inl ⟨by rfl, ?_⟩) ?_ ?_
   rotate_left
   ·intro w'
    go_simp
    with_reducible rfl
   rotate_left
   ·simp only [Act.put, ta, tb, tc, i64_w, i32_w]
    rfl
   refine pure_ (i := 20) (N := some 38) (v := ?_) (a' := ?_) #[true, true, true, true, true, true, true, true, true, true, true, true, true, true, true, false, false, false, true, false, true, false, false, false, false, false, false, false, false] rfl rfl (any_of HT_.out (by kernel_rfl)) (fun _ _ _ h => h) (Or.inl ⟨by rfl, ?_⟩) ?_ ?_
   rotate_left
   ·intro w'
    go_simp
    with_reducible rfl
   rotate_left
   ·simp only [Act.put, ta, tb, tc, i64_w, i32_w]
    rfl
   refine take_ (i := 15) (N := some 33) (v := ?_) (a' := ?_) #[true, true, true, true, true, true, true, true, true, true, true, true, true, true, true, true, false, false, true, false, true, false, false, false, false, false, false, false, false] rfl rfl (take_ofW HT_.out HW_.out (by kernel_rfl)) (fun _ _ _ h => h) (Or.inl ⟨by rfl, ?_⟩) hHeld ?_ ?_
   rotate_left
   ·rintro w' ⟨s0, s1, s2, s3, s4, s5, s6, s7, s8, s9, s10, s11, s12, s13, s14, s15, s16, s17, s18, s19⟩
    go_simp
    with_reducible rfl
   rotate_left
   ·simp only [Act.put, ta, tb, tc, i64_w, i32_w]
    rfl
   refine take_ (i := 16) (N := some 34) (v := ?_) (a' := ?_) #[true, true, true, true, true, true, true, true, true, true, true, true, true, true, true, true, true, false, true, false, true, false, false, false, false, false, false, false, false] rfl rfl (take_ofW HT_.out HW_.out (by kernel_rfl)) (fun _ _ _ h => h) (Or.inl ⟨by rfl, ?_⟩) hHeld ?_ ?_
   rotate_left
   ·rintro w' ⟨s0, s1, s2, s3, s4, s5, s6, s7, s8, s9, s10, s11, s12, s13, s14, s15, s16, s17, s18, s19⟩
    go_simp
    with_reducible rfl
   rotate_left
   ·simp only [Act.put, ta, tb, tc, i64_w, i32_w]
    rfl
   refine take_ (i := 19) (N := some 37) (v := ?_) (a' := ?_) #[true, true, true, true, true, true, true, true, true, true, true, true, true, true, true, true, true, false, true, true, true, false, false, false, false, false, false, false, false] rfl rfl (take_ofW HT_.out HW_.out (by kernel_rfl)) (fun _ _ _ h => h) (Or.inl ⟨by rfl, ?_⟩) hHeld ?_ ?_
   rotate_left
   ·rintro w' ⟨s0, s1, s2, s3, s4, s5, s6, s7, s8, s9, s10, s11, s12, s13, s14, s15, s16, s17, s18, s19⟩
    go_simp
    with_reducible rfl
   rotate_left
   ·simp only [Act.put, ta, tb, tc, i64_w, i32_w]
    rfl
   refine take_ (i := 21) (N := some 39) (v := ?_) (a' := ?_) #[true, true, true, true, true, true, true, true, true, true, true, true, true, true, true, true, true, false, true, true, true, true, false, false, false, false, false, false, false] rfl rfl (take_ofW HT_.out HW_.out (by kernel_rfl)) (fun _ _ _ h => h) (Or.inl ⟨by rfl, ?_⟩) hHeld ?_ ?_
   rotate_left
   ·rintro w' ⟨s0, s1, s2, s3, s4, s5, s6, s7, s8, s9, s10, s11, s12, s13, s14, s15, s16, s17, s18, s19⟩
    go_simp
    with_reducible rfl
   rotate_left
   ·simp only [Act.put, ta, tb, tc, i64_w, i32_w]
    rfl
   refine one_ (i := 17) (N := some 35) #[true, true, true, true, true, true, true, true, true, true, true, true, true, true, true, true, true, true, true, true, true, true, false, false, false, false, false, false, false] rfl rfl (one_of HT_.out (by kernel_rfl)) (by decide) (fun K hK => ?_)
   refine goes_ Try.func8 (by kernel_rfl) rfl #[.agg #[.int .i64 pa.e.f0, .int .i64 pa.e.f1.f0, .int .i64 pa.e.f1.f1, .int .i64 pa.e.f2.f0, .int .i64 pa.e.f2.f1, .int .i64 pa.e.f3.f0, .int .i64 pa.e.f3.f1, .bool pa.e.f4, .string pa.e.f5, .slice pa.A pa.e.f6.length pa.c], .agg #[.int .i64 pb.e.f0, .int .i64 pb.e.f1.f0, .int .i64 pb.e.f1.f1, .int .i64 pb.e.f2.f0, .int .i64 pb.e.f2.f1, .int .i64 pb.e.f3.f0, .int .i64 pb.e.f3.f1, .bool pb.e.f4, .string pb.e.f5, .slice pb.A pb.e.f6.length pb.c]] (by rfl) rfl rfl (by simp only [List.map_toArray, List.map_cons, List.map_nil] <;> rfl) ?_
   with_reducible refine (oless_n pa pb ls _ HLS.out (HRA.out.below hB29) (HRB.out.below hB29)).mono ?_
   rintro e w35 ⟨rfl, hb35⟩
   refine ⟨_, rfl, ?_⟩
   have hB35 : Below wx.heap.size wx w35 := below_step hB29 hb35
   refine hK.out _ _ (lift20 hB35 x0 x1 x2 x3 x4 x5 x6 x7 x8 x9 y0 y1 y2 y3 y4 y5 y6 y7 y8 y9) (fun hHeld => ?_)
   clear hK K
   refine norm_ (a' := ?_) ?_ ?_
   rotate_left
   ·show Act.put _ (some 35) _ = _
    simp only [Act.put, ta, tb, tc, i64_w, i32_w]
    rfl
   refine one_ (i := 22) (N := some 40) #[true, true, true, true, true, true, true, true, true, true, true, true, true, true, true, true, true, true, true, true, true, true, true, false, false, false, false, false, false] rfl rfl (one_of HT_.out (by kernel_rfl)) (by decide) (fun K hK => ?_)
   refine goes_ Try.func13 (by kernel_rfl) rfl #[.agg #[.int .i64 pa.e.f1.f0, .int .i64 pa.e.f1.f1], .agg #[.int .i64 pb.e.f1.f0, .int .i64 pb.e.f1.f1]] (by rfl) rfl rfl (by simp only [List.map_toArray, List.map_cons, List.map_nil] <;> rfl) ?_
   with_reducible refine (fless4_n pa pb ls _ HLS.out).mono ?_
   rintro e w40 ⟨rfl, hb40⟩
   refine ⟨_, rfl, ?_⟩
   have hB40 : Below wx.heap.size wx w40 := below_step hB35 hb40
   refine hK.out _ _ (lift20 hB40 x0 x1 x2 x3 x4 x5 x6 x7 x8 x9 y0 y1 y2 y3 y4 y5 y6 y7 y8 y9) (fun hHeld => ?_)
   clear hK K
   refine norm_ (a' := ?_) ?_ ?_
   rotate_left
   ·show Act.put _ (some 40) _ = _
    simp only [Act.put, ta, tb, tc, i64_w, i32_w]
    rfl
   refine pure_ (i := 23) (N := some 41) (v := ?_) (a' := ?_) #[true, true, true, true, true, true, true, true, true, true, true, true, true, true, true, true, true, true, true, true, true, true, true, true, false, false, false, false, false] rfl rfl (any_of HT_.out (by kernel_rfl)) (fun _ _ _ h => h) (Or.inl ⟨by rfl, ?_⟩) ?_ ?_
   rotate_left
   ·intro w'
    go_simp
    with_reducible rfl
   rotate_left
   ·simp only [Act.put, ta, tb, tc, i64_w, i32_w]
    rfl
   refine pure_ (i := 24) (N := some 42) (v := ?_) (a' := ?_) #[true, true, true, true, true, true, true, true, true, true, true, true, true, true, true, true, true, true, true, true, true, true, true, true, true, false, false, false, false] rfl rfl (any_of HT_.out (by kernel_rfl)) (fun _ _ _ h => h) (Or.inl ⟨by rfl, ?_⟩) ?_ ?_
   rotate_left
   ·intro w'
    go_simp
    with_reducible rfl
   rotate_left
   ·simp only [Act.put, ta, tb, tc, i64_w, i32_w]
    rfl
   refine pure_ (i := 25) (N := some 43) (v := ?_) (a' := ?_) #[true, true, true, true, true, true, true, true, true, true, true, true, true, true, true, true, true, true, true, true, true, true, true, true, true, true, false, false, false] rfl rfl (any_of HT_.out (by kernel_rfl)) (fun _ _ _ h => h) (Or.inl ⟨by rfl, ?_⟩) ?_ ?_
   rotate_left
   ·intro w'
    go_simp
    with_reducible rfl
   rotate_left
   ·simp only [Act.put, ta, tb, tc, i64_w, i32_w]
    rfl
   refine one_ (i := 26) (N := some 44) #[true, true, true, true, true, true, true, true, true, true, true, true, true, true, true, true, true, true, true, true, true, true, true, true, true, true, true, false, false] rfl rfl (one_of HT_.out (by kernel_rfl)) (by decide) (fun K hK => ?_)
   refine goes_ Try.func6 (by kernel_rfl) rfl #[] (by rfl) rfl rfl (by simp only [List.map_toArray, List.map_cons, List.map_nil] <;> rfl) ?_
   with_reducible refine (alive15_calls _).mono ?_
   rintro e w44 ⟨rfl, hb44⟩
   refine ⟨_, rfl, ?_⟩
   have hB44 : Below wx.heap.size wx w44 := below_step hB40 hb44
   refine hK.out _ _ (lift20 hB44 x0 x1 x2 x3 x4 x5 x6 x7 x8 x9 y0 y1 y2 y3 y4 y5 y6 y7 y8 y9) (fun hHeld => ?_)
   clear hK K
   refine norm_ (a' := ?_) ?_ ?_
   rotate_left
   ·show Act.put _ (some 44) _ = _
    simp only [Act.put, ta, tb, tc, i64_w, i32_w]
    rfl
   refine pure_ (i := 27) (N := some 45) (v := ?_) (a' := ?_) #[true, true, true, true, true, true, true, true, true, true, true, true, true, true, true, true, true, true, true, true, true, true, true, true, true, true, true, true, false] rfl rfl (any_of HT_.out (by kernel_rfl)) (fun _ _ _ h => h) (Or.inl ⟨by rfl, ?_⟩) ?_ ?_
   rotate_left
   ·intro w'
    go_simp
    with_reducible rfl
   rotate_left
   ·simp only [Act.put, ta, tb, tc, i64_w, i32_w]
    rfl
   refine pure_ (i := 28) (N := some 6) (v := ?_) (a' := ?_) #[true, true, true, true, true, true, true, true, true, true, true, true, true, true, true, true, true, true, true, true, true, true, true, true, true, true, true, true, true] rfl rfl (any_of HT_.out (by kernel_rfl)) (fun _ _ _ h => h) (Or.inl ⟨by rfl, ?_⟩) ?_ ?_
   rotate_left
   ·intro w'
    go_simp
    with_reducible rfl
   rotate_left
   ·simp only [Act.put, ta, tb, tc, i64_w, i32_w]
    rfl
   refine done_ (done_of HT_.out (by kernel_rfl)) ?_
   go_wp2
   go_ret
   exact ⟨rfl, HBX.out.trans (hB44.mono HBX.out.size)⟩
end Go.Proofs.Ytaiakklflmhpmaa.K

namespace Go.Proofs.Ytaiakklflmhpmaa.K
open Go.ChangeShapes Go.WideShapes Go.ChangeAt Go.RowKit Go.Deep Go.Proofs.YtaiakklflmhpmaaW.PrintWords Go.Proofs.YtaiakklflmhpmaaW.PrintLast Go.Proofs.YtaiakklflmhpmaaW.PrintMore
set_option linter.unusedVariables false

theorem open_opq {H : Type} {enc : TypeId × Value → H} {w : World} {base b0 : Nat} {held : Bool} {r : Reach} {v : Value} {d : DataW H} {p : List MemPlace}
  (hv : Value.okWide Try.prog w r b0 31 v) (hd : DataW.Trod enc Try.prog w base (fun _ => true) held 31 v d p) :
  ∃ q : QP, v = qV q ∧ Rd w q.b q.e.f6 ∧ BytQ q.e := by
 obtain ⟨k, t, a, u, b, p1, c, d1, s, dv, l, rfl, hr, hb⟩ := open_op hv hd
 obtain ⟨A, cc, hdv⟩ : ∃ A cc, dv = .slice A l.length cc := by
  obtain ⟨A, cc, h, _⟩ := hr
  exact ⟨A, cc, h⟩
 subst hdv
 exact ⟨⟨⟨k, ⟨t, a⟩, ⟨u, b⟩, ⟨p1, c⟩, d1, s, l⟩, A, cc⟩, rfl, hr, hb⟩
end Go.Proofs.Ytaiakklflmhpmaa.K

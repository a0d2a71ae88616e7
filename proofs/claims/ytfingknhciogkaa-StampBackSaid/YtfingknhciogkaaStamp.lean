/- stamp: how stamps stand, which are right, and the clock. -/
import Derived.Test.YtfingknhciogkaaRef01
import Derived.Test.YtfingknhciogkaaX
namespace Go.Proofs.Ytfingknhciogkaa.K
open Go.RowKit Go.Proofs.YtfingknhciogkaaW.PrintWords Go.Proofs.YtfingknhciogkaaW.PrintLast Go.Proofs.YtfingknhciogkaaW.PrintMore
set_option linter.unusedVariables false
set_option linter.unusedSimpArgs false

/-- How two stamps stand. -/
def cmpS (t1 w1 t2 w2 : Int) : Int := if t1 < t2 then -1 else if t2 < t1 then 1 else if w1 < w2 then -1 else if w2 < w1 then 1 else 0
theorem or_f (x y : Int) : X.cmp_Or_int.f 3 [x, y] = some (if x = 0 then y else x) := by
  unfold X.cmp_Or_int.f
  simp only [X.cmp_Or_int.l0, List.length_cons, List.length_nil, rd]
  have e1 : wrap64 1 = 1 := by unfold wrap64; omega
  have e2 : wrap64 2 = 2 := by unfold wrap64; omega
  by_cases hx : x = 0 <;> by_cases hy : y = 0 <;> simp [hx, hy, e1, e2]
theorem cmp64_f (x y : Int) : X.cmp_Compare_int64.f x y = some (if x < y then -1 else if y < x then 1 else 0) := by
  unfold X.cmp_Compare_int64.f X.cmp_isNaN_int64.f
  simp
  (repeat' split) <;> simp_all <;> omega
theorem cmpi_f (x y : Int) : X.cmp_Compare_int.f x y = some (if x < y then -1 else if y < x then 1 else 0) := by
  unfold X.cmp_Compare_int.f X.cmp_isNaN_int.f
  simp
  (repeat' split) <;> simp_all <;> omega
theorem compare_f (a b c d : Int) : X.stamp_Compare.f 3 a b c d = some (cmpS a b c d) := by
  unfold X.stamp_Compare.f
  rw [cmp64_f, cmpi_f]
  simp only [Option.bind_some]
  rw [or_f]
  simp only [Option.bind_some, cmpS]
  congr 1
  (repeat' split) <;> simp_all <;> omega
theorem compare_calls (a b c d : Int) (w : World) :
    Calls Try.prog 10 #[.agg #[.int .i64 a, .int .i64 b], .agg #[.int .i64 c, .int .i64 d]] w fun e w' => e = .returned (.int .i64 (cmpS a b c d)) ∧ Below w.heap.size w w' :=
  X.stamp_Compare.calls 3 a b c d _ w (compare_f a b c d)
/-- Does one stand ahead? -/
def lessS (t1 w1 t2 w2 : Int) : Bool := decide (cmpS t1 w1 t2 w2 < 0)
theorem less_calls (a b c d : Int) (w : World) :
    Calls Try.prog 8 #[.agg #[.int .i64 a, .int .i64 b], .agg #[.int .i64 c, .int .i64 d]] w fun e w' => e = .returned (.bool (lessS a b c d)) ∧ Below w.heap.size w w' :=
  X.stamp_Less.calls 3 a b c d _ w (by unfold X.stamp_Less.f; rw [compare_f]; rfl)
def rightS (t w : Int) : Bool := decide (1 ≤ t ∧ t ≤ 1099511627776 ∧ 0 ≤ w ∧ w < 8)
theorem right_calls (a b : Int) (w : World) :
    Calls Try.prog 6 #[.agg #[.int .i64 a, .int .i64 b]] w fun e w' => e = .returned (.bool (rightS a b)) ∧ Below w.heap.size w w' :=
  X.stamp_Right.calls a b _ w (by
    unfold X.stamp_Right.f X.stamp_member.f rightS
    (repeat' split) <;> simp_all <;> omega)
theorem member_calls (b : Int) (w : World) :
    Calls Try.prog 23 #[.int .i64 b] w fun e w' => e = .returned (.bool (decide (0 ≤ b ∧ b < 8))) ∧ Drawn0 w w' :=
  X.stamp_member.calls b _ w (by
    unfold X.stamp_member.f
    split <;> simp_all
    omega)
theorem fright_calls (a b : Int) (w : World) :
    Calls Try.prog 7 #[.agg #[.int .i64 a, .int .i64 b]] w fun e w' => e = .returned (.bool (rightS a b)) ∧ Below w.heap.size w w' :=
  X.cachetteref04_Right.calls a b _ w (by
    unfold X.cachetteref04_Right.f rightS
    (repeat' split) <;> simp_all <;> omega)

/-- A clock at block g of W: whose, and what it tells. -/
def Clk (W : World) (g : Nat) (m n : Int) : Prop := W.heap[g]? = some (.cells #[.int .i64 m, .int .i64 n] 63 (0, 0))
theorem Clk.below {W W1 : World} {g : Nat} {m n : Int} (h : Clk W g m n) (hb : Below W.heap.size W W1) : Clk W1 g m n := (hb.block g (blk_lt h)).trans h

theorem Clk.alloc {W : World} {g : Nat} {m n : Int} (h : Clk W g m n) (o : Obj) : Clk (W.alloc o) g m n := blk_alloc h o
theorem Clk.drewN {W : World} {g : Nat} {m n : Int} (h : Clk W g m n) (k : Nat) : Clk (W.drewN k) g m n := h
theorem Clk.drew {W : World} {g : Nat} {m n : Int} (h : Clk W g m n) : Clk W.drew g m n := h

set_option maxHeartbeats 400000 in
theorem new_ok (m : Int) (w : World) (h : 0 ≤ m ∧ m < 8) :
    Calls Try.prog 21 #[.int .i64 m] w fun e w' => ∃ g, e = .returned (.tuple #[.pointer (some ⟨g, 0, none⟩), .int .i64 0]) ∧ Clk w' g m 0 ∧ w.heap.size ≤ g ∧ Below w.heap.size w w' := by
  have hm : decide (0 ≤ m ∧ m < 8) = true := by simpa using h
  have HM := Aside0.mk hm
  clear hm h
  go_enter Try.func21, Try.ntmps21
  go_wp2_with (go_at_call 23; go_must ((refine (member_calls m w).mono ?_; rw [HM.out]; rintro e w1 ⟨rfl, ⟨m1, rfl⟩⟩)))
  go_ret2
  exact ⟨_, rfl, by simpa [Clk] using heap_alloc_new (w.drewN m1) _, Nat.le_refl _, below_alloc (pw_below_drewN (Below.refl _ _) _) _⟩

set_option maxHeartbeats 400000 in
theorem new_bad (m : Int) (w : World) (h : ¬(0 ≤ m ∧ m < 8)) :
    Calls Try.prog 21 #[.int .i64 m] w fun e w' => e = .returned (.tuple #[.pointer none, .int .i64 1]) ∧ Below w.heap.size w w' := by
  have hm : decide (0 ≤ m ∧ m < 8) = false := by simpa using h
  have HM := Aside0.mk hm
  clear hm h
  go_enter Try.func21, Try.ntmps21
  go_wp2_with (go_at_call 23; go_must ((refine (member_calls m w).mono ?_; rw [HM.out]; rintro e w1 ⟨rfl, ⟨m1, rfl⟩⟩)))
  go_ret2
  exact ⟨rfl, pw_below_drewN (Below.refl _ _) _⟩

set_option maxHeartbeats 400000 in
theorem tick_nil (w : World) :
    Calls Try.prog 22 #[.pointer none] w fun e w' => e = .returned (.tuple #[.agg #[.int .i64 0, .int .i64 0], .int .i64 23]) ∧ Below w.heap.size w w' := by
  go_enter Try.func22, Try.ntmps22
  go_wp2
  exact bodyPost_ret (v := .tuple #[.agg #[.int .i64 0, .int .i64 0], .int .i64 23]) (by simp [results, Try.results22, go_sem]) rfl ⟨rfl, below_alloc (Below.refl _ _) _⟩

set_option maxHeartbeats 400000 in
theorem tick_full (g : Nat) (m n : Int) (w : World) (h : Clk w g m n) (hn : 1099511627776 ≤ n) :
    Calls Try.prog 22 #[.pointer (some ⟨g, 0, none⟩)] w fun e w' => e = .returned (.tuple #[.agg #[.int .i64 0, .int .i64 0], .int .i64 2]) ∧ Below w.heap.size w w' := by
  have h1 : w.cell? ⟨g, 1, none⟩ = some (.int .i64 n) := (blk_cell h 1).trans rfl
  have hg : g < w.heap.size := blk_lt h
  clear h
  go_enter Try.func22, Try.ntmps22
  go_wp2
  exact bodyPost_ret (v := .tuple #[.agg #[.int .i64 0, .int .i64 0], .int .i64 2]) (by simp [results, Try.results22, go_sem]) rfl ⟨rfl, by repeat (first | exact Below.refl _ _ | apply below_alloc | apply pw_below_drewN)⟩

set_option maxHeartbeats 800000 in
theorem tick_ok (g : Nat) (m n : Int) (w : World) (h : Clk w g m n) (h0 : 0 ≤ n) (hn : n < 1099511627776) :
    Calls Try.prog 22 #[.pointer (some ⟨g, 0, none⟩)] w fun e w' => e = .returned (.tuple #[.agg #[.int .i64 (n + 1), .int .i64 m], .int .i64 0]) ∧ Clk w' g m (n + 1) ∧ KeepBut w w' g none ∧ (∀ w0 : World, w0.heap.size ≤ g → Below w0.heap.size w0 w → Below w0.heap.size w0 w') := by
  have h1 : w.cell? ⟨g, 1, none⟩ = some (.int .i64 n) := (blk_cell h 1).trans rfl
  have h2 : w.cell? ⟨g, 0, none⟩ = some (.int .i64 m) := (blk_cell h 0).trans rfl
  have f1 : w.frozen? ⟨g, 1, none⟩ = false := blk_frozen h 1
  have hg : g < w.heap.size := blk_lt h
  have HH := Aside0.mk h
  clear h
  go_enter Try.func22, Try.ntmps22
  go_wp2
  go_region
  go_wp2
  refine bodyPost_ret (v := .tuple #[.agg #[.int .i64 (n + 1), .int .i64 m], .int .i64 0]) (by simp [results, Try.results22, go_sem]) rfl ⟨rfl, ?_, ?_, ?_⟩
  · exact blk_alloc (by simpa using blk_set HH.out 1 (.int .i64 (n + 1))) _
  · exact KeepBut.trans ((KeepBut.refl w g none).set_ 1 _) (KeepBut.of_below (below_alloc (Below.refl _ _) _) g none) (.inl rfl)
  · intro w0 hle hB
    exact below_drew (below_alloc (hB.setCell hle _) _)

attribute [local go_sem high] X.eqA23
set_option maxRecDepth 100000 in
set_option maxHeartbeats 1000000 in
theorem alive04_calls (w : World) :
    Calls Try.prog 5 #[] w fun e w' => e = .returned (.bool true) ∧ Below w.heap.size w w' := by
  have HB := Aside0.mk (Below.refl w.heap.size w)
  go_enter Try.func5, Try.ntmps5
  go_wp2_with (first
    | ((with_reducible refine gate_dst (N := 6) rfl ?_); go_must (((try (refine gate_guard (by rfl) ?_; dsimp only)); refine goesL_ (some 6) rfl rfl Try.func21 (by kernel_rfl) rfl #[.int .i64 2] rfl ?hA ?_; (case hA => ((try simp only [List.map_toArray, List.map_cons, List.map_nil]); first | done | rfl)); refine (new_ok 2 _ (by decide)).mono ?_; rintro e w6 ⟨g, rfl, hc, hg, hb⟩; refine ⟨_, rfl, ?_⟩; have HC := Aside0.mk hc; have HG := Aside0.mk (Nat.le_trans HB.out.size hg); replace HB := Aside0.mk (below_step (by repeat (first | (with_reducible first | exact HB.out | apply below_alloc | apply pw_below_drewN | apply below_drew1) | exact HB.out)) hb); clear hc hg hb)))
    | ((with_reducible refine gate_dst (N := 11) rfl ?_); go_must (((try (refine gate_guard (by rfl) ?_; dsimp only)); refine goesL_ (some 11) rfl rfl Try.func22 (by kernel_rfl) rfl #[.pointer (some ⟨g, 0, none⟩)] rfl ?hA ?_; (case hA => ((try simp only [List.map_toArray, List.map_cons, List.map_nil]); first | done | rfl)); refine (tick_ok g 2 0 _ HC.out (by decide) (by decide)).mono ?_; rintro e w11 ⟨rfl, hc, hk, hb⟩; refine ⟨_, rfl, ?_⟩; replace HB := Aside0.mk (hb w HG.out HB.out); clear hc hk hb)))
    | ((with_reducible refine gate_dst (N := 28) rfl ?_); go_must (((try (refine gate_guard (by rfl) ?_; dsimp only)); refine goesL_ (some 28) rfl rfl Try.func8 (by kernel_rfl) rfl #[.agg #[.int .i64 3, .int .i64 1], .agg #[.int .i64 3, .int .i64 2]] rfl ?hA ?_; (case hA => ((try simp only [List.map_toArray, List.map_cons, List.map_nil]); first | done | rfl)); refine (less_calls 3 1 3 2 _).mono ?_; rintro e w28 ⟨rfl, hb⟩; refine ⟨_, rfl, ?_⟩; rw [show lessS 3 1 3 2 = true from rfl]; replace HB := Aside0.mk (below_step (by repeat (first | (with_reducible first | exact HB.out | apply below_alloc | apply pw_below_drewN | apply below_drew1) | exact HB.out)) hb); clear hb)))
    | ((with_reducible refine gate_dst (N := 33) rfl ?_); go_must (((try (refine gate_guard (by rfl) ?_; dsimp only)); refine goesL_ (some 33) rfl rfl Try.func8 (by kernel_rfl) rfl #[.agg #[.int .i64 2, .int .i64 9], .agg #[.int .i64 3, .int .i64 1]] rfl ?hA ?_; (case hA => ((try simp only [List.map_toArray, List.map_cons, List.map_nil]); first | done | rfl)); refine (less_calls 2 9 3 1 _).mono ?_; rintro e w33 ⟨rfl, hb⟩; refine ⟨_, rfl, ?_⟩; rw [show lessS 2 9 3 1 = true from rfl]; replace HB := Aside0.mk (below_step (by repeat (first | (with_reducible first | exact HB.out | apply below_alloc | apply pw_below_drewN | apply below_drew1) | exact HB.out)) hb); clear hb))))
  go_ret
  exact ⟨rfl, HB.out⟩
end Go.Proofs.Ytfingknhciogkaa.K

/- relay: what a nil relay says. -/
import Derived.Test.YtlcifnejpejhmaaRelW
namespace Go.Proofs.Ytlcifnejpejhmaa.K
open Go.RowKit Go.Proofs.YtlcifnejpejhmaaW.PrintWords Go.Proofs.YtlcifnejpejhmaaW.PrintLast Go.Proofs.YtlcifnejpejhmaaW.PrintMore
set_option linter.unusedVariables false
set_option linter.unusedSimpArgs false

set_option maxHeartbeats 800000 in
theorem of_nil (i : Int) (w : World) :
    Calls Try.prog 58 #[.pointer none, .int .i64 i] w fun e w' => e = .returned (.pointer none) ∧ Drawn0 w w' := by
  go_enter Try.func58, Try.ntmps58
  go_wp2
  go_ret
  exact ⟨rfl, by repeat (first | exact Drawn0.refl _ | apply Drawn0.step)⟩

set_option maxHeartbeats 800000 in
theorem do_nil (i j : Int) (fv : Value) (w : World) :
    Calls Try.prog 60 #[.pointer none, .int .i64 i, .int .i64 j, fv] w fun e w' => e = .returned (.bool false) ∧ Drawn0 w w' := by
  go_enter Try.func60, Try.ntmps60
  go_wp2_with (first
    | ((with_reducible refine gate_dst (N := 12) rfl ?_); go_must (((try (refine gate_guard (by rfl) ?_; dsimp only)); refine goesL_ (some 12) rfl rfl Try.func58 (by kernel_rfl) rfl #[.pointer none, .int .i64 i] rfl ?hA ?_; (case hA => ((try simp only [List.map_toArray, List.map_cons, List.map_nil]); first | done | rfl)); refine (of_nil i _).mono ?_; rintro e w12 ⟨rfl, ⟨m12, rfl⟩⟩; refine ⟨_, rfl, ?_⟩; skip))))
  go_ret
  exact ⟨rfl, by repeat (first | exact Drawn0.refl _ | apply Drawn0.step)⟩

set_option maxHeartbeats 800000 in
theorem next_nil (i : Int) (w : World) :
    Calls Try.prog 24 #[.pointer none, .int .i64 i] w fun e w' => e = .returned (.tuple #[.slice none 0 0, .bool false]) ∧ Below w.heap.size w w' := by
  have hmf : ∀ (fn : Fn) (first cap : Array Value) (w : World), (Instr.makeFunc fn first cap).run Try.prog w = .ok (.func fn first cap) w := fun _ _ _ _ => rfl
  have HX := Aside0.mk (blk_new w (.cells #[.slice none 0 0] 45 (0, 0)))
  go_enter Try.func24, Try.ntmps24
  go_wp2_with (first
    | (go_at_call 60; go_must ((refine (do_nil i 0 _ _).mono ?_; rintro e w9 ⟨rfl, ⟨m9, rfl⟩⟩; skip))))
  have HY : (((w.alloc (.cells #[.slice none 0 0] 45)).drewN m9).setCell ⟨w.heap.size, 0, none⟩ (.slice none 0 0)).heap[w.heap.size]? = some (.cells #[.slice none 0 0] 45 (0, 0)) := by simpa using blk_set (blk_drewN HX.out m9) 0 (.slice none 0 0)
  have q0 := (blk_cell HY 0).trans rfl
  exact bodyPost_ret (v := .tuple #[.slice none 0 0, .bool false]) (by simp [results, Try.results24, go_sem, q0]) rfl ⟨rfl, (pw_below_drewN (below_alloc (Below.refl _ _) _) _).setCell (Nat.le_refl _) _⟩

set_option maxHeartbeats 800000 in
theorem drop_nil (w : World) :
    Calls Try.prog 36 #[.pointer none, .int .i64 0, .int .i64 0] w fun e w' => e = .returned (.bool false) ∧ Below w.heap.size w w' := by
  have hmf : ∀ (fn : Fn) (first cap : Array Value) (w : World), (Instr.makeFunc fn first cap).run Try.prog w = .ok (.func fn first cap) w := fun _ _ _ _ => rfl
  go_enter Try.func36, Try.ntmps36
  go_wp2_with (first
    | (go_at_call 60; go_must ((refine (do_nil 0 0 _ _).mono ?_; rintro e w9 ⟨rfl, ⟨m9, rfl⟩⟩; skip))))
  go_ret
  exact ⟨rfl, by repeat (first | exact Below.refl _ _ | apply below_alloc | apply pw_below_drewN)⟩

set_option maxHeartbeats 800000 in
theorem again_nil (w : World) :
    Calls Try.prog 33 #[.pointer none, .int .i64 0, .int .i64 0] w fun e w' => e = .returned (.bool false) ∧ Below w.heap.size w w' := by
  have hmf : ∀ (fn : Fn) (first cap : Array Value) (w : World), (Instr.makeFunc fn first cap).run Try.prog w = .ok (.func fn first cap) w := fun _ _ _ _ => rfl
  go_enter Try.func33, Try.ntmps33
  go_wp2_with (first
    | (go_at_call 60; go_must ((refine (do_nil 0 0 _ _).mono ?_; rintro e w9 ⟨rfl, ⟨m9, rfl⟩⟩; skip))))
  go_ret
  exact ⟨rfl, by repeat (first | exact Below.refl _ _ | apply below_alloc | apply pw_below_drewN)⟩

set_option maxHeartbeats 800000 in
theorem swap_nil (w : World) :
    Calls Try.prog 37 #[.pointer none, .int .i64 0, .int .i64 0, .int .i64 0] w fun e w' => e = .returned (.bool false) ∧ Below w.heap.size w w' := by
  have hmf : ∀ (fn : Fn) (first cap : Array Value) (w : World), (Instr.makeFunc fn first cap).run Try.prog w = .ok (.func fn first cap) w := fun _ _ _ _ => rfl
  go_enter Try.func37, Try.ntmps37
  go_wp2_with (first
    | (go_at_call 60; go_must ((refine (do_nil 0 0 _ _).mono ?_; rintro e w9 ⟨rfl, ⟨m9, rfl⟩⟩; skip))))
  go_ret
  exact ⟨rfl, by repeat (first | exact Below.refl _ _ | apply below_alloc | apply pw_below_drewN)⟩

set_option maxHeartbeats 800000 in
theorem turn_nil (w : World) :
    Calls Try.prog 32 #[.pointer none, .int .i64 0, .int .i64 0, .int .i64 0, .int .u8 1] w fun e w' => e = .returned (.bool false) ∧ Below w.heap.size w w' := by
  have hmf : ∀ (fn : Fn) (first cap : Array Value) (w : World), (Instr.makeFunc fn first cap).run Try.prog w = .ok (.func fn first cap) w := fun _ _ _ _ => rfl
  go_enter Try.func32, Try.ntmps32
  go_wp2_with (first
    | (go_at_call 60; go_must ((refine (do_nil 0 0 _ _).mono ?_; rintro e w9 ⟨rfl, ⟨m9, rfl⟩⟩; skip))))
  go_ret
  exact ⟨rfl, by repeat (first | exact Below.refl _ _ | apply below_alloc | apply pw_below_drewN)⟩

set_option maxHeartbeats 800000 in
theorem waits_nil (w : World) :
    Calls Try.prog 26 #[.pointer none, .int .i64 0] w fun e w' => e = .returned (.int .i64 0) ∧ Below w.heap.size w w' := by
  go_enter Try.func26, Try.ntmps26
  go_wp2_with (first
    | ((with_reducible refine gate_dst (N := 8) rfl ?_); go_must (((try (refine gate_guard (by rfl) ?_; dsimp only)); refine goesL_ (some 8) rfl rfl Try.func58 (by kernel_rfl) rfl #[.pointer none, .int .i64 0] rfl ?hA ?_; (case hA => ((try simp only [List.map_toArray, List.map_cons, List.map_nil]); first | done | rfl)); refine (of_nil 0 _).mono ?_; rintro e w12 ⟨rfl, ⟨m12, rfl⟩⟩; refine ⟨_, rfl, ?_⟩; skip))))
  go_ret
  exact ⟨rfl, by repeat (first | exact Below.refl _ _ | apply below_alloc | apply pw_below_drewN)⟩

set_option maxHeartbeats 800000 in
theorem rewind_nil (w : World) :
    Calls Try.prog 34 #[.pointer none, .int .i64 0] w fun e w' => e = .returned (.int .i64 0) ∧ Below w.heap.size w w' := by
  go_enter Try.func34, Try.ntmps34
  go_wp2_with (first
    | ((with_reducible refine gate_dst (N := 10) rfl ?_); go_must (((try (refine gate_guard (by rfl) ?_; dsimp only)); refine goesL_ (some 10) rfl rfl Try.func58 (by kernel_rfl) rfl #[.pointer none, .int .i64 0] rfl ?hA ?_; (case hA => ((try simp only [List.map_toArray, List.map_cons, List.map_nil]); first | done | rfl)); refine (of_nil 0 _).mono ?_; rintro e w12 ⟨rfl, ⟨m12, rfl⟩⟩; refine ⟨_, rfl, ?_⟩; skip))))
  go_ret
  exact ⟨rfl, by repeat (first | exact Below.refl _ _ | apply below_alloc | apply pw_below_drewN)⟩

set_option maxHeartbeats 800000 in
theorem view_nil (w : World) :
    Calls Try.prog 28 #[.pointer none] w fun e w' => e = .returned (.slice none 0 0) ∧ Below w.heap.size w w' := by
  go_enter Try.func28, Try.ntmps28
  go_wp2
  go_ret
  exact ⟨rfl, by repeat (first | exact Below.refl _ _ | apply below_alloc | apply pw_below_drewN)⟩

set_option maxHeartbeats 800000 in
theorem put_nil (vb : Value) (w : World) :
    Calls Try.prog 23 #[.pointer none, .int .i64 0, vb] w fun e w' => e = .returned (.int .i64 23) ∧ Below w.heap.size w w' := by
  go_enter Try.func23, Try.ntmps23
  go_wp2
  go_ret
  exact ⟨rfl, by repeat (first | exact Below.refl _ _ | apply below_alloc | apply pw_below_drewN)⟩

set_option maxHeartbeats 800000 in
theorem forge_nil (vb : Value) (w : World) :
    Calls Try.prog 35 #[.pointer none, .int .i64 0, vb] w fun e w' => e = .returned (.int .i64 23) ∧ Below w.heap.size w w' := by
  go_enter Try.func35, Try.ntmps35
  go_wp2_with (first
    | ((with_reducible refine gate_dst (N := 10) rfl ?_); go_must (((try (refine gate_guard (by rfl) ?_; dsimp only)); refine goesL_ (some 10) rfl rfl Try.func58 (by kernel_rfl) rfl #[.pointer none, .int .i64 0] rfl ?hA ?_; (case hA => ((try simp only [List.map_toArray, List.map_cons, List.map_nil]); first | done | rfl)); refine (of_nil 0 _).mono ?_; rintro e w12 ⟨rfl, ⟨m12, rfl⟩⟩; refine ⟨_, rfl, ?_⟩; skip))))
  go_ret
  exact ⟨rfl, by repeat (first | exact Below.refl _ _ | apply below_alloc | apply pw_below_drewN)⟩
end Go.Proofs.Ytlcifnejpejhmaa.K

/- cachettelaw28.Own, Back: a step copied. -/
import Derived.Test.YtoajcijjkkkaaaaGreatDoorScZ
namespace Go.Proofs.YtoajcijjkkkaaaaGreatDoor.K
open Go.RowKit Go.Proofs.YtoajcijjkkkaaaaGreatDoorW.PrintWords Go.Proofs.YtoajcijjkkkaaaaGreatDoorW.PrintLast Go.Proofs.YtoajcijjkkkaaaaGreatDoorW.PrintMore
set_option linter.unusedVariables false
set_option linter.unusedSimpArgs false

set_option maxRecDepth 100000 in
set_option maxHeartbeats 4000000 in
theorem own_calls (a b n m : Int) (p q : ByteArray) (A : Option Addr) (l c : Nat) (w : World) :
    Calls Tryz.prog 9 #[.agg #[.int .i64 a, .int .i64 b, .string p, .string q, .int .i64 n, .int .i64 m, .slice A l c]] w fun e w' => e = .returned (.agg #[.int .i64 a, .int .i64 b, .string p, .string q, .int .i64 n, .int .i64 m, .slice A l c]) ∧ Below w.heap.size w w' := by
  go_enter Tryz.func9, Tryz.ntmps9
  go_wp2_with fail
  have hk_ := blk_new (w.alloc (.cells #[.int .i64 a, .int .i64 b, .string p, .string q, .int .i64 n, .int .i64 m, .slice A l c] 24)) (.cells #[.int .i64 a, .int .i64 b, .string p, .string q, .int .i64 n, .int .i64 m, .slice A l c] 31 (0, 0))
  rw [World.size_alloc] at hk_
  obtain ⟨p0, p1, p2, p3, p4, p5, p6⟩ := cells7 hk_
  exact bodyPost_ret (v := .agg #[.int .i64 a, .int .i64 b, .string p, .string q, .int .i64 n, .int .i64 m, .slice A l c]) (by simp [results, Tryz.results9, go_sem, p0, p1, p2, p3, p4, p5, p6]) rfl ⟨rfl, (below_alloc (Below.refl _ _) _).alloc (by simp) _⟩
set_option maxRecDepth 100000 in
set_option maxHeartbeats 4000000 in
theorem back_calls (a b n m : Int) (p q : ByteArray) (A : Option Addr) (l c : Nat) (w : World) :
    Calls Tryz.prog 16 #[.agg #[.int .i64 a, .int .i64 b, .string p, .string q, .int .i64 n, .int .i64 m, .slice A l c]] w fun e w' => e = .returned (.agg #[.int .i64 a, .int .i64 b, .string p, .string q, .int .i64 n, .int .i64 m, .slice A l c]) ∧ Below w.heap.size w w' := by
  go_enter Tryz.func16, Tryz.ntmps16
  go_wp2_with fail
  have hk_ := blk_new (w.alloc (.cells #[.int .i64 a, .int .i64 b, .string p, .string q, .int .i64 n, .int .i64 m, .slice A l c] 31)) (.cells #[.int .i64 a, .int .i64 b, .string p, .string q, .int .i64 n, .int .i64 m, .slice A l c] 24 (0, 0))
  rw [World.size_alloc] at hk_
  obtain ⟨p0, p1, p2, p3, p4, p5, p6⟩ := cells7 hk_
  exact bodyPost_ret (v := .agg #[.int .i64 a, .int .i64 b, .string p, .string q, .int .i64 n, .int .i64 m, .slice A l c]) (by simp [results, Tryz.results16, go_sem, p0, p1, p2, p3, p4, p5, p6]) rfl ⟨rfl, (below_alloc (Below.refl _ _) _).alloc (by simp) _⟩
end Go.Proofs.YtoajcijjkkkaaaaGreatDoor.K

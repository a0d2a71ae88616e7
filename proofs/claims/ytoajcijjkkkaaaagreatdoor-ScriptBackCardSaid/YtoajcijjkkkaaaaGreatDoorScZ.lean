/- cachettelaw28.alive. -/
import Derived.Test.YtoajcijjkkkaaaaGreatDoorScY
namespace Go.Proofs.YtoajcijjkkkaaaaGreatDoor.K
open Go.RowKit Go.Proofs.YtoajcijjkkkaaaaGreatDoorW.PrintWords Go.Proofs.YtoajcijjkkkaaaaGreatDoorW.PrintLast Go.Proofs.YtoajcijjkkkaaaaGreatDoorW.PrintMore
set_option linter.unusedVariables false
set_option linter.unusedSimpArgs false

def x0 : Stp := ⟨1, 1, [47, 97], [120, 10], 0, 0, []⟩
def s0 : Bs := [49, 32, 119, 114, 105, 116, 101, 32, 34, 47, 97, 34, 32, 34, 120, 92, 120, 48, 97, 34]
theorem x0_right : rightB x0 = true := by decide +kernel
theorem x0_line : line x0 = s0 := by decide +kernel
theorem s0_whole : whole s0 = some x0 := whole_iff.2 ⟨x0_right, x0_line⟩
/-- A step of a call's own, read. -/
theorem own_reads {w : World} {b : Nat} {A : Option Addr} {n c : Nat} {l : List Bool} (h : OwnB w b (.slice A n c) l) (hn : n = l.length) : Kd.bool.C w A l.length l := by
  obtain ⟨A', c', he, hr⟩ := Kd.R_reads h
  simp only [Value.slice.injEq] at he
  obtain ⟨rfl, _, _⟩ := he
  first | exact hr | exact hr.1 | exact hr.2

set_option maxRecDepth 100000 in
set_option maxHeartbeats 4000000 in
theorem alive_calls (w0 w : World) (hT : Tb w0) (hb : Below w0.heap.size w0 w) :
    Calls Tryz.prog 7 #[] w fun e w' => e = .returned (.bool true) ∧ Below w.heap.size w w' := by
  have HT := Aside0.mk hT
  have HB0 := Aside0.mk hb
  have hpl := parseline_calls ⟨s0.toArray⟩ (by decide) w0 w hT hb
  rw [show (⟨s0.toArray⟩ : ByteArray).data.toList = s0 by simp, s0_whole] at hpl
  have hl : ∀ (A : Option Addr) (c : Nat) (W : World), Below w0.heap.size w0 W → Kd.bool.C W A 0 [] → Calls Tryz.prog 8 #[.agg #[.int .i64 1, .int .i64 1, .string ⟨#[47, 97]⟩, .string ⟨#[120, 10]⟩, .int .i64 0, .int .i64 0, .slice A 0 c]] W fun e w' => e = .returned (.tuple #[.string ⟨#[49, 32, 119, 114, 105, 116, 101, 32, 34, 47, 97, 34, 32, 34, 120, 92, 120, 48, 97, 34]⟩, .int .i64 0]) ∧ Below W.heap.size W w' := by
    intro A c W hW hC
    have h := line_calls x0 A c w0 W hT hW hC
    have e1 : lineS x0 = s0 := by unfold lineS; rw [if_pos x0_right, x0_line]
    have e2 : lineK x0 = 0 := by unfold lineK; rw [if_pos x0_right]
    rw [e1, e2] at h
    exact h
  have HPL : Calls Tryz.prog 11 #[.string ⟨#[49, 32, 119, 114, 105, 116, 101, 32, 34, 47, 97, 34, 32, 34, 120, 92, 120, 48, 97, 34]⟩] w fun e w' => Below w.heap.size w w' ∧ ∃ v, e = .returned (.tuple #[.agg #[.int .i64 1, .int .i64 1, .string ⟨#[47, 97]⟩, .string ⟨#[120, 10]⟩, .int .i64 0, .int .i64 0, v], .int .i64 0]) ∧ OwnB w' w.heap.size v [] := hpl
  clear hpl hT hb
  go_enter Tryz.func7, Tryz.ntmps7
  go_wp2_with (first
    | (go_at_call 11; (with_reducible refine HPL.mono ?_); rintro e w1 ⟨hb1, v6, rfl, h6⟩; obtain ⟨A6, c6, rfl⟩ := Kd.R_slice h6; have HB1 := Aside0.mk hb1; have H6 := Aside0.mk h6; clear hb1 h6; dsimp only [List.length_nil])
    | (go_at_call 8; (with_reducible refine (hl A6 c6 _ ((HB0.out.trans (HB1.out.mono HB0.out.size)).alloc (Nat.le_trans HB0.out.size HB1.out.size) _) (own_reads (OwnB.on H6.out (below_alloc (Below.refl _ _) _)) rfl)).mono ?_); rintro e w2 ⟨rfl, hb2⟩; have hk_ := blk_below (blk_new w1 (.cells #[.int .i64 1, .int .i64 1, .string ⟨#[47, 97]⟩, .string ⟨#[120, 10]⟩, .int .i64 0, .int .i64 0, .slice A6 0 c6] 31 (0, 0))) hb2; obtain ⟨q0, q1, q2, q3, q4, q5, q6⟩ := cells7 hk_; clear hk_; have HB2 := Aside0.mk hb2; clear hb2))
  go_ret
  exact ⟨rfl, HB1.out.trans ((below_alloc (Below.refl _ _) _).trans (HB2.out.mono (by simp))|>.mono HB1.out.size)⟩
end Go.Proofs.YtoajcijjkkkaaaaGreatDoor.K

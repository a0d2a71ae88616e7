/- op.Same, cachetteref15.Same where both are the same; what cachetteref15.Read gives. -/
import Derived.Test.YtginodjiaohcmaaOpL
import Derived.Test.YtginodjiaohcmaaOpH
import Derived.Test.YtginodjiaohcmaaX3
namespace Go.Proofs.Ytginodjiaohcmaa.K
open Go.RowKit Go.Proofs.YtginodjiaohcmaaW.PrintWords Go.Proofs.YtginodjiaohcmaaW.PrintLast Go.Proofs.YtginodjiaohcmaaW.PrintMore
set_option linter.unusedVariables false
set_option linter.unusedSimpArgs false

theorem osame_true (k t a u b p c : Int) (d : Bool) (s : ByteArray) (v v' : Value) (l : List Int) (w : World) (hr : Rd w v l) (hr' : Rd w v' l) :
    Calls Try.prog 18 #[.agg #[.int .i64 k, .int .i64 t, .int .i64 a, .int .i64 u, .int .i64 b, .int .i64 p, .int .i64 c, .bool d, .string s, v], .agg #[.int .i64 k, .int .i64 t, .int .i64 a, .int .i64 u, .int .i64 b, .int .i64 p, .int .i64 c, .bool d, .string s, v']] w fun e w' => e = .returned (.bool true) ∧ Below w.heap.size w w' := by
  obtain ⟨A, n, rfl, hc, hC⟩ := hr
  obtain ⟨A', n', rfl, hc', hC'⟩ := hr'
  exact X.op_Same.calls k t a u b p c d s A n l k t a u b p c d s A' n' l _ w hC hc hC' hc' (by simp [X.op_Same.f, X.bytes_Equal.f])
theorem fsame01_l (l : List Int) (hl : l.length ≤ 9223372036854775807) : ∀ (m i : Nat), i + m = l.length → ∃ k, X.cachetteref01_Same.l0 k l l (i : Int) = some true
  | 0, i, h => ⟨1, by
      simp only [X.cachetteref01_Same.l0]
      rw [if_neg (by omega)]⟩
  | m + 1, i, h => by
      obtain ⟨k, h1⟩ := fsame01_l l hl m (i + 1) (by omega)
      refine ⟨k + 1, ?_⟩
      simp only [X.cachetteref01_Same.l0]
      have e : wrap64 ((i : Int) + 1) = ((i + 1 : Nat) : Int) := by unfold wrap64; omega
      have h2 : (i : Int) < (l.length : Int) := by omega
      have h3 : (0 : Int) ≤ (i : Int) := by omega
      rw [e, h1]
      simp [h2, h3]
theorem fsame_true (k t a u b p c : Int) (d : Bool) (s : ByteArray) (v v' : Value) (l : List Int) (w : World) (hr : Rd w v l) (hr' : Rd w v' l) :
    Calls Try.prog 17 #[.agg #[.int .i64 k, .int .i64 t, .int .i64 a, .int .i64 u, .int .i64 b, .int .i64 p, .int .i64 c, .bool d, .string s, v], .agg #[.int .i64 k, .int .i64 t, .int .i64 a, .int .i64 u, .int .i64 b, .int .i64 p, .int .i64 c, .bool d, .string s, v']] w fun e w' => e = .returned (.bool true) ∧ Below w.heap.size w w' := by
  obtain ⟨A, n, rfl, hc, hC⟩ := hr
  obtain ⟨A', n', rfl, hc', hC'⟩ := hr'
  obtain ⟨m, hm⟩ := fsame01_l l hC.2.1 l.length 0 (by omega)
  exact X.cachetteref15_Same.calls m k t a u b p c d s A n l k t a u b p c d s A' n' l _ w hC hc hC' hc' (by
    rw [show ((0 : Nat) : Int) = 0 from rfl] at hm
    simp [X.cachetteref15_Same.f, X.cachetteref01_Same.f, hm])

theorem fread_ok (v : Value) (l : List Int) (t a : Int) (w : World) (hr : Rd w v l) (hl : BL l) (R : OpR) (hR : readR t a l = R) (hE : readE t a l = 0) :
    Calls Try.prog 11 #[v, .agg #[.int .i64 t, .int .i64 a]] w fun e w' => ∃ vd, e = .returned (.tuple #[.agg #[.int .i64 R.k, .int .i64 t, .int .i64 a, .int .i64 R.u, .int .i64 R.b, .int .i64 R.p, .int .i64 R.c, .bool R.d, .string R.s, vd], .int .i64 0]) ∧ Rd w' vd R.dt ∧ Below w.heap.size w w' := by
  subst hR
  exact (fread_calls v l t a w hr hl).mono fun e w' ⟨h1, _, h3⟩ => by obtain ⟨vd, he, hd⟩ := h1 hE; exact ⟨vd, he, hd, h3⟩
theorem fread_bad (v : Value) (l : List Int) (t a : Int) (w : World) (hr : Rd w v l) (hl : BL l) (x : Int) (hx : readE t a l = x) (hE : x ≠ 0) :
    Calls Try.prog 11 #[v, .agg #[.int .i64 t, .int .i64 a]] w fun e w' => e = .returned (.tuple #[.agg #[.int .i64 0, .int .i64 0, .int .i64 0, .int .i64 0, .int .i64 0, .int .i64 0, .int .i64 0, .bool false, .string ({ data := #[] }), (.slice none 0 0)], .int .i64 x]) ∧ Below w.heap.size w w' := by
  subst hx
  exact (fread_calls v l t a w hr hl).mono fun e w' ⟨_, h2, h3⟩ => ⟨h2 hE, h3⟩
end Go.Proofs.Ytginodjiaohcmaa.K

/- script.Show. -/
import Derived.Test.YtoajcijjkkkaaaaDoorScV
namespace Go.Proofs.YtoajcijjkkkaaaaDoor.K
open Go.RowKit Go.Proofs.YtoajcijjkkkaaaaDoorW.PrintWords Go.Proofs.YtoajcijjkkkaaaaDoorW.PrintLast Go.Proofs.YtoajcijjkkkaaaaDoorW.PrintMore
set_option linter.unusedVariables false
set_option linter.unusedSimpArgs false

def toStp (x : SS) : Stp := ⟨x.f0, x.f1, x.f2.data.toList, x.f3.data.toList, x.f4, x.f5, x.f6⟩
theorem ba_self (s : ByteArray) : (⟨s.data.toList.toArray⟩ : ByteArray) = s := (ba_eq rfl).symm
theorem linex_calls (x : SS) (A : Option Addr) (c : Nat) (w0 w : World) (hT : Tb w0) (hb : Below w0.heap.size w0 w) (hC : Kd.bool.C w A x.f6.length x.f6) :
    Calls Tryd.prog 14 #[.agg #[.int .i64 x.f0, .int .i64 x.f1, .string x.f2, .string x.f3, .int .i64 x.f4, .int .i64 x.f5, .slice A x.f6.length c]] w fun e w' => e = .returned (.tuple #[.string ⟨(lineS (toStp x)).toArray⟩, .int .i64 (lineK (toStp x))]) ∧ Below w.heap.size w w' := by
  have h := line_calls (toStp x) A c w0 w hT hb hC
  have e : stpC (toStp x) A c = #[.int .i64 x.f0, .int .i64 x.f1, .string x.f2, .string x.f3, .int .i64 x.f4, .int .i64 x.f5, .slice A x.f6.length c] := by
    unfold stpC toStp
    simp only [ba_self]
  rw [e] at h
  exact h
/-- The text of steps. -/
def showT (l : List Stp) : Bs := l.flatMap (fun x => line x ++ [10])
def showS (l : List Stp) : Bs × Int := if l.all rightB then (showT l, 0) else ([], 1)
theorem showT_snoc (l : List Stp) (x : Stp) : showT (l ++ [x]) = showT l ++ (line x ++ [10]) := by simp [showT]
theorem showT_len (l : List Stp) (h : l.all rightB = true) : (showT l).length ≤ l.length * 3100001 := by
  induction l with
  | nil => simp [showT]
  | cons x l ih =>
    simp only [List.all_cons, Bool.and_eq_true] at h
    have h1 := line_len h.1
    have h2 := ih h.2
    have e : showT (x :: l) = (line x ++ [10]) ++ showT l := by simp [showT]
    rw [e, List.length_append, List.length_append, List.length_cons, List.length_cons, List.length_nil, Nat.succ_mul]
    omega
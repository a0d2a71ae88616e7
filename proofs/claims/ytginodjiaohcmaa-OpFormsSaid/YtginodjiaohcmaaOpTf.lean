/- cachetteref15.Text: what it gives of any operation. -/
import Derived.Test.YtginodjiaohcmaaOpT
import Derived.Test.YtginodjiaohcmaaOpE
namespace Go.Proofs.Ytginodjiaohcmaa.K
open Go.RowKit Go.Proofs.YtginodjiaohcmaaW.PrintWords Go.Proofs.YtginodjiaohcmaaW.PrintLast Go.Proofs.YtginodjiaohcmaaW.PrintMore
set_option linter.unusedVariables false
set_option linter.unusedSimpArgs false

theorem ftext_ok (k t a u b p c : Int) (d : Bool) (s : ByteArray) (v : Value) (l : List Int) (w : World) (hr : Rd w v l) (hR : rightO k t a u b p c d s l.length = true) :
    Calls Try.prog 9 #[.agg #[.int .i64 k, .int .i64 t, .int .i64 a, .int .i64 u, .int .i64 b, .int .i64 p, .int .i64 c, .bool d, .string s, v]] w fun e w' => ∃ v', e = .returned (.tuple #[v', .int .i64 0]) ∧ Rd w' v' (textO k u b p c d s l) ∧ Below w.heap.size w w' := by
  obtain ⟨ht, hu, h | h | h | h⟩ := right_cases hR
  · obtain ⟨rfl, hn, hp, hs, _, _⟩ := h
    rw [textO_1]
    exact ftext1_calls t a u b p c d s v l w hr hR hp (nameB_le hs)
  · obtain ⟨rfl, hn, hd, hp, hs⟩ := h
    rw [textO_2]
    exact ftext2_calls t a u b p c d s v l w hr hR hu hp (nameB_le hs)
  · obtain ⟨rfl, hn, hd, hp, hc, hs⟩ := h
    rw [textO_3]
    exact ftext3_calls t a u b p c d s v l w hr hR hu
  · obtain ⟨rfl, hn, hd, hp, hc, hs⟩ := h
    rw [textO_4]
    exact ftext4_calls t a u b p c d s v l w hr hR hu hn
theorem ftext_all (k t a u b p c : Int) (d : Bool) (s : ByteArray) (v : Value) (l : List Int) (w : World) (hr : Rd w v l) :
    Calls Try.prog 9 #[.agg #[.int .i64 k, .int .i64 t, .int .i64 a, .int .i64 u, .int .i64 b, .int .i64 p, .int .i64 c, .bool d, .string s, v]] w fun e w' => ∃ v', e = .returned (.tuple #[v', .int .i64 (if rightO k t a u b p c d s l.length = true then 0 else 1)]) ∧ Rd w' v' (if rightO k t a u b p c d s l.length = true then textO k u b p c d s l else []) ∧ Below w.heap.size w w' := by
  cases hR : rightO k t a u b p c d s l.length
  · exact (ftext_bad k t a u b p c d s v l w hr hR).mono fun e w' ⟨he, hb⟩ => ⟨_, he, Rd.nil _, hb⟩
  · exact ftext_ok k t a u b p c d s v l w hr hR
end Go.Proofs.Ytginodjiaohcmaa.K

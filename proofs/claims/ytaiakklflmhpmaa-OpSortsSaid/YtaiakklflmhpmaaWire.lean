/- wire: the forms of numbers, bytes, texts and words, as Lean lists; each function comes to its form. -/
import Derived.Test.YtaiakklflmhpmaaKit
import Derived.Test.YtaiakklflmhpmaaBits
namespace Go.Proofs.Ytaiakklflmhpmaa.K
open Go.RowKit Go.Proofs.YtaiakklflmhpmaaW.PrintWords Go.Proofs.YtaiakklflmhpmaaW.PrintLast Go.Proofs.YtaiakklflmhpmaaW.PrintMore
set_option linter.unusedVariables false
set_option linter.unusedSimpArgs false

set_option maxHeartbeats 400000 in
theorem clone_calls (v0 : Value) (l0 : List Int) (w : World) (hr0 : Rd w v0 l0) (hl : l0.length ≤ 140737488355328) :
  Calls Try.prog 42 #[v0] w fun e w' => ∃ v, e = .returned v ∧ Own w' w.heap.size v l0 ∧ Below w.heap.size w w' := by
 have HR := Aside0.mk hr0
 obtain ⟨A0, c0, rfl, hc0, hC0⟩ := hr0
 have HC := Aside0.mk hC0
 have HL := Aside0.mk hl
 have HB := Aside0.mk (Below.refl w.heap.size w)
 clear hl hC0 hc0
 have hn := Lib.run_eql_slice_nil (P := Try.prog)
 by_cases hA : A0.isNone = true
 ·go_enter Try.func42, Try.ntmps42
  go_wp2
  go_ret
  obtain rfl := nil_of HC.out hA
  exact ⟨_, rfl, Kd.R_nil _ _ _ _ _, Below.refl _ _⟩
 ·have hA : A0.isNone = false := by cases A0 <;> simp_all
  go_enter Try.func42, Try.ntmps42
  go_wp2_with (first
   | ((with_reducible refine gate_dst (N := 5) rfl ?_); go_must (((try (refine gate_guard (by rfl) ?_; dsimp only)); refine lit_bytes (w0 := w) (w).heap.size 5 ?hg ?hd ([]) ?hr ?hm HB.out HB.out.size ?_; (case hd => rfl); (case hg => rfl); (case hr => first | (go_simp; done) | (go_simp; rfl)); (case hm => simp); intro vHO1 wHO1 ho hb hbw; have HO1 := Aside0.mk ho; clear HB; have HB := Aside0.mk hb; clear ho hb hbw)))
   | ((with_reducible refine gate_builtin (b := .append) (xs := #[.tmp 5, .tmp 6]) rfl ?_); at_builtin; go_must (((try (refine gate_guard (by rfl) ?_; dsimp only)); refine app_bytes (w0 := w) (w).heap.size rfl (.tmp 5) (.tmp 6) 29 rfl Try.underlying29 info5 _ _ ([]) (l0) rfl rfl HO1.out ?aR HB.out HB.out.size ?aL ?_; (case aR => exact HR.out.below HB.out); (case aL => (have := HL.out; simp; omega)); intro vHO2 wHO2 ho hb hg; have HO2 := Aside0.mk ho; clear HB; have HB := Aside0.mk hb; clear ho hb hg))))
  go_ret
  exact ⟨_, rfl, HO2.out, HB.out⟩

/-- The form of a number. -/
def numL (n : Nat) : List Int := if h : n < 128 then [(n : Int)] else ((n % 128 + 128 : Nat) : Int) :: numL (n / 128)
termination_by n
theorem numL_small {n : Nat} (h : n < 128) : numL n = [(n : Int)] := by rw [numL, dif_pos h]
theorem numL_big {n : Nat} (h : ¬ n < 128) : numL n = ((n % 128 + 128 : Nat) : Int) :: numL (n / 128) := by rw [numL, dif_neg h]

theorem or_128' : ∀ r : Fin 256, bits BinOp.or IntKind.u8 (r.val : Int) 128 = ((r.val % 128 + 128 : Nat) : Int) := by decide +kernel
theorem or_128 (m : Nat) : bits BinOp.or IntKind.u8 ((m : Int) % 256) 128 = ((m % 128 + 128 : Nat) : Int) := by
 have h := or_128' ⟨m % 256, by omega⟩
 simp only [Int.natCast_emod] at h
 rw [show m % 128 = m % 256 % 128 by omega]
 exact h

set_option maxRecDepth 100000 in
set_option maxHeartbeats 400000 in
theorem num_calls (v0 : Value) (l0 : List Int) (n : Nat) (w : World) (hr0 : Rd w v0 l0) (hl : l0.length + (numL n).length ≤ 140737488355328) :
  Calls Try.prog 26 #[v0, .int .u64 n] w fun e w' => ∃ v, e = .returned v ∧ Own w' w.heap.size v (l0 ++ numL n) ∧ Below w.heap.size w w' := by
 have HR := Aside0.mk hr0
 have HL := Aside0.mk hl
 have HB := Aside0.mk (Below.refl w.heap.size w)
 clear hr0 hl
 go_enter Try.func26, Try.ntmps26
 go_wp2_with (first
  | (go_at_call 42; go_must ((refine (clone_calls v0 l0 w HR.out (by have := HL.out; omega)).mono ?_; rintro e w1 ⟨v, rfl, ho, hb⟩; have HO := Aside0.mk ho; clear HB; have HB := Aside0.mk hb; clear ho hb))))
 go_loopw [1, 5] (fun n1 v wr => ∃ (m : Nat) (l : List Int), n1 = .int .u64 m ∧ Aside0 (l ++ numL m = l0 ++ numL n) ∧ Aside0 (Own wr w.heap.size v l) ∧ Aside0 (Below w.heap.size w wr)) (fun n1 _ _ => (intOf n1).toNat)
 case atStart => exact ⟨n, l0, rfl, ⟨rfl⟩, HO, HB⟩
 case round =>
  clear HO HB
  obtain ⟨m, l, rfl, HE, HO, HB⟩ := hrel
  have HL2 : Aside0 (l.length + (numL m).length ≤ 140737488355328) := by
   have h1 := congrArg List.length HE.out
   have := HL.out
   simp only [List.length_append] at h1
   exact ⟨by omega⟩
  by_cases hlt : m < 128
  ·have HS := Aside0.mk (numL_small hlt)
   go_wp2_with (first
    | ((with_reducible refine gate_dst (N := 21) rfl ?_); go_must (((try (refine gate_guard (by rfl) ?_; dsimp only)); refine lit_bytes (w0 := w) (w).heap.size 21 ?hg ?hd ([(m : Int)]) ?hr ?hm HB.out HB.out.size ?_; (case hd => rfl); (case hg => rfl); (case hr => first | (go_simp; done) | (go_simp; rfl)); (case hm => simp); intro vHO1 wHO1 ho hb hbw; have HO1 := Aside0.mk ho; replace HO := Aside0.mk (HO.out.below hbw); clear HB; have HB := Aside0.mk hb; clear ho hb hbw)))
    | ((with_reducible refine gate_builtin (b := .append) (xs := #[.tmp 18, .tmp 21]) rfl ?_); at_builtin; go_must (((try (refine gate_guard (by rfl) ?_; dsimp only)); refine app_bytes (w0 := w) (w).heap.size rfl (.tmp 18) (.tmp 21) 29 rfl Try.underlying29 info5 _ _ (l) ([(m : Int)]) rfl rfl HO.out ?aR HB.out HB.out.size ?aL ?_; (case aR => exact HO1.out.rd); (case aL => (have := HL2.out; rw [HS.out] at this; exact this)); intro vHO2 wHO2 ho hb hg; have HO2 := Aside0.mk ho; clear HB; have HB := Aside0.mk hb; clear ho hb hg))))
   go_ret
   exact ⟨_, rfl, by rw [← HE.out, HS.out]; exact HO2.out, HB.out⟩
  ·have hor := or_128 m
   have HS := Aside0.mk (numL_big hlt)
   go_wp2_with (first
    | ((with_reducible refine gate_dst (N := 16) rfl ?_); go_must (((try (refine gate_guard (by rfl) ?_; dsimp only)); refine lit_bytes (w0 := w) (w).heap.size 16 ?hg ?hd ([((m % 128 + 128 : Nat) : Int)]) ?hr ?hm HB.out HB.out.size ?_; (case hd => rfl); (case hg => rfl); (case hr => first | (go_simp; done) | (go_simp; rfl)); (case hm => simp); intro vHO1 wHO1 ho hb hbw; have HO1 := Aside0.mk ho; replace HO := Aside0.mk (HO.out.below hbw); clear HB; have HB := Aside0.mk hb; clear ho hb hbw)))
    | ((with_reducible refine gate_builtin (b := .append) (xs := #[.tmp 12, .tmp 16]) rfl ?_); at_builtin; go_must (((try (refine gate_guard (by rfl) ?_; dsimp only)); refine app_bytes (w0 := w) (w).heap.size rfl (.tmp 12) (.tmp 16) 29 rfl Try.underlying29 info5 _ _ (l) ([((m % 128 + 128 : Nat) : Int)]) rfl rfl HO.out ?aR HB.out HB.out.size ?aL ?_; (case aR => exact HO1.out.rd); (case aL => (have := HL2.out; rw [HS.out] at this; simp at this ⊢; omega)); intro vHO2 wHO2 ho hb hg; have HO2 := Aside0.mk ho; clear HB; have HB := Aside0.mk hb; clear ho hb hg))))
   go_roundw
   case rel => exact ⟨m / 128, _, by go_num, ⟨by rw [← HE.out, HS.out]; simp⟩, HO2, HB⟩
   case measure => simp [intOf]; omega

set_option maxHeartbeats 400000 in
theorem int_calls (v0 : Value) (l0 : List Int) (n : Int) (w : World) (hr0 : Rd w v0 l0) (h1 : -9223372036854775808 ≤ n) (h2 : n ≤ 9223372036854775807) (hl : l0.length + (numL (zz n)).length ≤ 140737488355328) :
  Calls Try.prog 70 #[v0, .int .i64 n] w fun e w' => ∃ v, e = .returned v ∧ Own w' w.heap.size v (l0 ++ numL (zz n)) ∧ Below w.heap.size w w' := by
 have HR := Aside0.mk hr0
 have HL := Aside0.mk hl
 clear hr0 hl
 go_enter Try.func70, Try.ntmps70
 by_cases h : 0 ≤ n
 ·go_wp2_with (go_at_call 26; go_must ((rw [zz_pos h h2]; refine (num_calls v0 l0 (zz n) w HR.out HL.out).mono ?_; rintro e w1 ⟨v, rfl, ho, hb⟩; have HO := Aside0.mk ho; have HB := Aside0.mk hb; clear ho hb)))
  go_ret
  exact ⟨_, rfl, HO.out, HB.out⟩
 ·go_wp2_with (go_at_call 26; go_must ((rw [zz_neg (by omega) h1]; refine (num_calls v0 l0 (zz n) w HR.out HL.out).mono ?_; rintro e w1 ⟨v, rfl, ho, hb⟩; have HO := Aside0.mk ho; have HB := Aside0.mk hb; clear ho hb)))
  go_ret
  exact ⟨_, rfl, HO.out, HB.out⟩

set_option maxHeartbeats 400000 in
theorem text_calls (v0 : Value) (l0 : List Int) (s : ByteArray) (w : World) (hr0 : Rd w v0 l0) (hl : l0.length + (numL s.size).length + s.size ≤ 140737488355328) :
  Calls Try.prog 63 #[v0, .string s] w fun e w' => ∃ v, e = .returned v ∧ Own w' w.heap.size v (l0 ++ numL s.size ++ bytesOf s) ∧ Below w.heap.size w w' := by
 have HR := Aside0.mk hr0
 have HL := Aside0.mk hl
 have HB := Aside0.mk (Below.refl w.heap.size w)
 have hm : (s.size : Int) ≤ 9223372036854775807 := by omega
 clear hr0 hl
 go_enter Try.func63, Try.ntmps63
 go_wp2_with (first
  | (go_at_call 26; go_must ((refine (num_calls v0 l0 s.size w HR.out (by have := HL.out; omega)).mono ?_; rintro e w1 ⟨v, rfl, ho, hb⟩; have HO := Aside0.mk ho; clear HB; have HB := Aside0.mk hb; clear ho hb)))
  | (at_builtin; go_must ((refine app_string (w0 := w) w.heap.size rfl (.tmp 9) (.tmp 10) 29 9 rfl Try.underlying29 Try.underlying9 info5 _ (l0 ++ numL s.size) s rfl rfl HO.out HB.out HB.out.size ?aL ?_; (case aL => have := HL.out; simp; omega); intro v1 w2 ho hb hg; have HO2 := Aside0.mk ho; clear HB; have HB := Aside0.mk hb; clear ho hb hg))))
 go_ret
 exact ⟨_, rfl, HO2.out, HB.out⟩

set_option maxHeartbeats 400000 in
theorem bool_calls (v0 : Value) (l0 : List Int) (b : Bool) (w : World) (hr0 : Rd w v0 l0) (hl : l0.length + 1 ≤ 140737488355328) :
  Calls Try.prog 62 #[v0, .bool b] w fun e w' => ∃ v, e = .returned v ∧ Own w' w.heap.size v (l0 ++ [if b then 1 else 0]) ∧ Below w.heap.size w w' := by
 have HR := Aside0.mk hr0
 have HL := Aside0.mk hl
 have HB := Aside0.mk (Below.refl w.heap.size w)
 clear hr0 hl
 cases b
 ·go_enter Try.func62, Try.ntmps62
  go_wp2_with (first
   | (go_at_call 42; go_must ((refine (clone_calls v0 l0 w HR.out (by have := HL.out; omega)).mono ?_; rintro e w1 ⟨v, rfl, ho, hb⟩; have HO := Aside0.mk ho; clear HB; have HB := Aside0.mk hb; clear ho hb)))
   | ((with_reducible refine gate_dst (N := 12) rfl ?_); go_must (((try (refine gate_guard (by rfl) ?_; dsimp only)); refine lit_bytes (w0 := w) (w).heap.size 12 ?hg ?hd ([(0 : Int)]) ?hr ?hm HB.out HB.out.size ?_; (case hd => rfl); (case hg => rfl); (case hr => first | (go_simp; done) | (go_simp; rfl)); (case hm => simp); intro vHO1 wHO1 ho hb hbw; have HO1 := Aside0.mk ho; replace HO := Aside0.mk (HO.out.below hbw); clear HB; have HB := Aside0.mk hb; clear ho hb hbw)))
   | ((with_reducible refine gate_builtin (b := .append) (xs := #[.tmp 11, .tmp 12]) rfl ?_); at_builtin; go_must (((try (refine gate_guard (by rfl) ?_; dsimp only)); refine app_bytes (w0 := w) (w).heap.size rfl (.tmp 11) (.tmp 12) 29 rfl Try.underlying29 info5 _ _ (l0) ([(0 : Int)]) rfl rfl HO.out ?aR HB.out HB.out.size ?aL ?_; (case aR => exact HO1.out.rd); (case aL => (have := HL.out; simp; omega)); intro vHO2 wHO2 ho hb hg; have HO2 := Aside0.mk ho; clear HB; have HB := Aside0.mk hb; clear ho hb hg))))
  go_ret
  exact ⟨_, rfl, HO2.out, HB.out⟩
 ·go_enter Try.func62, Try.ntmps62
  go_wp2_with (first
   | (go_at_call 42; go_must ((refine (clone_calls v0 l0 w HR.out (by have := HL.out; omega)).mono ?_; rintro e w1 ⟨v, rfl, ho, hb⟩; have HO := Aside0.mk ho; clear HB; have HB := Aside0.mk hb; clear ho hb)))
   | ((with_reducible refine gate_dst (N := 8) rfl ?_); go_must (((try (refine gate_guard (by rfl) ?_; dsimp only)); refine lit_bytes (w0 := w) (w).heap.size 8 ?hg ?hd ([(1 : Int)]) ?hr ?hm HB.out HB.out.size ?_; (case hd => rfl); (case hg => rfl); (case hr => first | (go_simp; done) | (go_simp; rfl)); (case hm => simp); intro vHO1 wHO1 ho hb hbw; have HO1 := Aside0.mk ho; replace HO := Aside0.mk (HO.out.below hbw); clear HB; have HB := Aside0.mk hb; clear ho hb hbw)))
   | ((with_reducible refine gate_builtin (b := .append) (xs := #[.tmp 7, .tmp 8]) rfl ?_); at_builtin; go_must (((try (refine gate_guard (by rfl) ?_; dsimp only)); refine app_bytes (w0 := w) (w).heap.size rfl (.tmp 7) (.tmp 8) 29 rfl Try.underlying29 info5 _ _ (l0) ([(1 : Int)]) rfl rfl HO.out ?aR HB.out HB.out.size ?aL ?_; (case aR => exact HO1.out.rd); (case aL => (have := HL.out; simp; omega)); intro vHO2 wHO2 ho hb hg; have HO2 := Aside0.mk ho; clear HB; have HB := Aside0.mk hb; clear ho hb hg))))
  go_ret
  exact ⟨_, rfl, HO2.out, HB.out⟩
end Go.Proofs.Ytaiakklflmhpmaa.K

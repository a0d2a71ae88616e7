/- Helpers of this seat's own: what a call makes of bytes (a literal, an append), told by the print's words. -/
import Derived.Test.YtoajcijjkkkaaaaGreatDoorProg
import Derived.Below
import Derived.Deep.Draws
import Derived.Deep.AppendLies
import Derived.Maps.AppendAt
import Derived.OwnWalk
import Derived.Laws.BytesArg
import Derived.Laws.MakeOwn
import Derived.Laws.OwnMore
import Derived.Deep.OwnRows
import Derived.Tactics
import Derived.Lib.ConvBytes
import Derived.Laws.Slices
import Derived.WalkKit
import Derived.KernelRfl
import Derived.RowKit3
import Derived.Deep.LoopGhost
import Derived.Deep.QuietTactic
import Derived.BigQuiet
import Derived.WideLaws
import Derived.Deep.DeepCutAuto
import Derived.Deep.CutBlock
import Derived.Deep.RegionHeld3
import Derived.Laws.Rows
import Derived.Lib.AppendStr
import Derived.ArgAppend
import Derived.Laws.IdiomCopy
import Derived.OrdersHeld
import Derived.Laws.BitsLemmas
import Derived.RowKit
import Derived.Lib.Hide
import Derived.WalkSpells
import Derived.WalkLawsBesides
import Derived.Deep.DeepMust
import Derived.Test.YtoajcijjkkkaaaaGreatDoorWWords
import Derived.Test.YtoajcijjkkkaaaaGreatDoorWLast
import Derived.Test.YtoajcijjkkkaaaaGreatDoorWMore
import Derived.Test.YtoajcijjkkkaaaaGreatDoorWGuard
namespace Go.Proofs.YtoajcijjkkkaaaaGreatDoor.K
open Go.RowKit Go.Proofs.YtoajcijjkkkaaaaGreatDoorW.PrintWords Go.Proofs.YtoajcijjkkkaaaaGreatDoorW.PrintLast Go.Proofs.YtoajcijjkkkaaaaGreatDoorW.PrintMore
set_option linter.unusedVariables false
set_option linter.unusedSimpArgs false

theorem info5 : (Tryz.prog.info? 5).map (fun i => (i.zero, i.size, i.bytes)) = some (some (.int .u8 0), 1, 1) := by kernel_rfl

abbrev B : Kd Int := Kd.int .u8
/-- A slice of bytes of the call's own. -/
abbrev Own (w : World) (base : Nat) (v : Value) (l : List Int) : Prop := Kd.R B 5 w base (fun _ => True) v l

section
variable {P : Program} {ops : Array Oper} {rest : List Oper} {o : Oper} {a : Act} {Q : Exit → Act → World → Prop} {w0 W : World}
/-- A literal of bytes. -/
theorem lit_bytes (base : Nat) (N : Tmp) (hgd : o.guard = none) (hd : o.dst = some N) (xs : List Int)
    (hrun : (execOp a.eval o).run P W = .ok (.value (.slice (some ⟨W.heap.size, 0, none⟩) xs.length xs.length)) (W.alloc (.cells (nums .u8 xs).toArray 5)))
    (hm : xs.length ≤ 9223372036854775807) (HB : Below base w0 W) (hbase : base ≤ W.heap.size)
    (h : ∀ v1 w1, Own w1 base v1 xs → Below base w0 w1 → Below W.heap.size W w1 → wpList P ops Q rest (a.put o.dst v1) w1) : wpList P ops Q (o :: rest) a W := by
  refine Kd.R_lit B W.heap.size 5 hgd hd (xs := xs) (inner := nums .u8 xs) (ok := fun _ => True) (okp := fun _ => True) hrun ?_ (fun _ h => h) trivial (Below.refl _ _) (Nat.le_refl _) hm (fun v1 w1 h1 h2 _ _ => h v1 w1 (Kd.R_lower h1 hbase) (HB.trans (h2.mono hbase)) h2)
  refine ⟨by simp [B, Kd.int, Kd.scalar, nums], fun j p hj => ?_⟩
  show List.take 1 _ = [Value.int .u8 p]
  simp only [nums, Kd.int, Kd.scalar, B, Nat.mul_one]
  have hl := (List.getElem?_eq_some_iff.1 hj).1
  rw [List.drop_eq_getElem_cons (by simpa using hl)]
  simp only [List.take_succ_cons, List.take_zero, List.getElem_map, List.cons.injEq, Value.int.injEq, true_and, and_true]
  exact (List.getElem?_eq_some_iff.1 hj).2
end
/-- A value that reads as bytes. -/
def Rd (W : World) (v : Value) (l : List Int) : Prop := ∃ A c, v = .slice A l.length c ∧ l.length ≤ c ∧ Kd.C B W A l.length l
theorem Rd.below {W W1 : World} {v : Value} {l : List Int} (h : Rd W v l) (hb : Below W.heap.size W W1) : Rd W1 v l := by
  obtain ⟨A, c, rfl, hc, hC⟩ := h
  exact ⟨A, c, rfl, hc, Kd.C_below hC hb⟩
theorem Rd.nil (W : World) : Rd W (.slice none 0 0) [] := ⟨none, 0, rfl, Nat.le_refl _, Kd.C_nil _ _⟩
theorem Own.rd {w : World} {base : Nat} {v : Value} {l : List Int} (h : Own w base v l) : Rd w v l := Kd.R_reads h
section
variable {P : Program} {ops : Array Oper} {rest : List Oper} {o : Oper} {a : Act} {Q : Exit → Act → World → Prop} {w0 W : World}
/-- append of bytes onto a row of the call's own. -/
theorem app_bytes (base : Nat) (hgd : o.guard = none) (s x : Operand) (t : TypeId)
    (ho : o.op = .call { callee := .builtin .append, args := #[s, x], argTypes := #[t, t] }) (ht : P.underlying t = some (.slice 5))
    (hinfo : (P.info? 5).map (fun i => (i.zero, i.size, i.bytes)) = some (some (.int .u8 0), 1, 1))
    (v xv : Value) (xs ys : List Int) (hs : a.eval s = v) (hx : a.eval x = xv)
    (HO : Own W base v xs) (HR : Rd W xv ys) (HB : Below base w0 W) (hbase : base ≤ W.heap.size) (hl : xs.length + ys.length ≤ 140737488355328)
    (h : ∀ v1 w1, Own w1 base v1 (xs ++ ys) → Below base w0 w1 → W.grownBy w1 v.ownBlock → wpList P ops Q rest (a.put o.dst v1) w1) :
    wpList P ops Q (o :: rest) a W := by
  obtain ⟨A, c, rfl, hc, hC⟩ := HR
  exact Kd.R_append_rows B base hgd s x t 5 (.int .u8 0) 1 ho ht hinfo rfl (by decide) (by omega) v xs ys A _ c (fun _ => True) (fun _ => False) hs hx HO hC (fun _ _ h => h) (fun _ h => h.elim) (fun _ _ => trivial) HB hbase (by omega) (fun v1 w1 h1 h2 h3 _ => h v1 w1 h1 h2 h3)
end
theorem drop_rd {l : List Int} {i : Nat} (h : i < l.length) : l.drop i = rd l i :: l.drop (i + 1) := by
  rw [List.drop_eq_getElem_cons h]
  simp [rd, List.getD_eq_getElem?_getD, List.getElem?_eq_getElem h]
theorem take_rd {l : List Int} {i : Nat} (h : i < l.length) : l.take (i + 1) = l.take i ++ [rd l i] := by
  rw [List.take_succ_eq_append_getElem h]
  simp [rd, List.getD_eq_getElem?_getD, List.getElem?_eq_getElem h]
theorem rd_mem {l : List Int} {i : Nat} (h : i < l.length) : rd l i ∈ l := by
  have e : rd l i = l[i] := by simp [rd, List.getD_eq_getElem?_getD, List.getElem?_eq_getElem h]
  rw [e]
  exact List.getElem_mem h
theorem rd_of_ints {W : World} {A : Option Addr} {n c : Nat} {l : List Int} (h : ReadsInt W .u8 A n l) (hc : l.length ≤ c) : Rd W (.slice A n c) l := by
  have e := h.1
  subst e
  exact ⟨A, c, rfl, hc, Kd.C_of_reads (d := (0 : Int)) (h1 := fun _ => rfl) h⟩
theorem rd_take {W : World} {A : Option Addr} {n c : Nat} {l : List Int} (h : Kd.C B W A l.length l) (hn : n ≤ l.length) (hc : l.length ≤ c) : Rd W (.slice A n c) (l.take n) := by
  have h2 := Kd.C_take h hn
  have e : (l.take n).length = n := by rw [List.length_take]; omega
  rw [e] at h2
  exact ⟨A, c, by rw [e], by omega, by rw [e]; exact h2⟩
/-- xs[m:] of bytes that are read: the value has a letter of its own. -/
theorem cut_from {P : Program} (t : TypeId) (ht : P.underlying t = some (.slice 5)) (hinfo : (P.info? 5).map (fun i => (i.zero, i.size, i.bytes)) = some (some (.int .u8 0), 1, 1))
    (A : Option Addr) (l : List Int) (c m : Nat) (hm : m ≤ l.length) (hc : l.length ≤ c) :
    ∃ A', (∀ W : World, (Instr.slice t (.slice A l.length c) (some (.int .i64 (m : Int))) none none).run P W = .ok (.slice A' (l.length - m) (c - m)) W) ∧ ∀ W, Kd.C B W A l.length l → Rd W (.slice A' (l.length - m) (c - m)) (l.drop m) := by
  obtain ⟨i, hi, hz0, hz1, hz2⟩ := info_parts hinfo
  obtain ⟨A', h1, h2⟩ := print_cut (P := P) t 5 .i64 ht hi hz1 A l.length c m hm
  refine ⟨_, h1, fun W hC => rd_of_ints (h2 W .u8 l hc (Kd.reads_of_C (enc := Value.int .u8) (d := (0 : Int)) (h1 := fun _ => rfl) hC)) (by rw [List.length_drop]; omega)⟩
/-- append of a string's bytes. -/
theorem app_string {P : Program} {ops : Array Oper} {rest : List Oper} {o : Oper} {a : Act} {Q : Exit → Act → World → Prop} {w0 W : World} (base : Nat) (hgd : o.guard = none) (s x : Operand) (t u : TypeId)
    (ho : o.op = .call { callee := .builtin .append, args := #[s, x], argTypes := #[t, u] }) (ht : P.underlying t = some (.slice 5)) (hu : P.underlying u = some .string)
    (hinfo : (P.info? 5).map (fun i => (i.zero, i.size, i.bytes)) = some (some (.int .u8 0), 1, 1))
    (v : Value) (xs : List Int) (y : ByteArray) (hs : a.eval s = v) (hx : a.eval x = .string y)
    (HO : Own W base v xs) (HB : Below base w0 W) (hbase : base ≤ W.heap.size) (hl : xs.length + y.size ≤ 140737488355328)
    (h : ∀ v1 w1, Own w1 base v1 (xs ++ bytesOf y) → Below base w0 w1 → W.grownBy w1 v.ownBlock → wpList P ops Q rest (a.put o.dst v1) w1) :
    wpList P ops Q (o :: rest) a W :=
  print_append_str base hgd s x t u 5 ho ht hu hinfo v xs y hs hx (Kd.own_of_R HO) HB hbase hl (fun v1 w1 h1 h2 h3 => h v1 w1 (Kd.R_of_own h1 (fun _ _ => trivial)) h2 h3)
theorem nil_of {A : Option Addr} {w : World} {l : List Int} (h : Kd.C B w A l.length l) (hA : A.isNone = true) : l = [] := by
  rcases Nat.eq_zero_or_pos l.length with h0 | h0
  · exact List.eq_nil_of_length_eq_zero h0
  · obtain ⟨ad, e, _⟩ := h.2.2 h0
    rw [e] at hA
    simp at hA
theorem Own.lower {w : World} {b b' : Nat} {v : Value} {l : List Int} (h : Own w b v l) (hb : b' ≤ b) : Own w b' v l := Kd.R_lower h hb
theorem Own.below {w w1 : World} {b : Nat} {v : Value} {l : List Int} (h : Own w b v l) (hb : Below w.heap.size w w1) : Own w1 b v l := Kd.R_below h hb
theorem Own.far {w : World} {b g : Nat} {v : Value} {l : List Int} (h : Own w b v l) (hg : g < b) (j : Nat) (u : Value) : Own (w.setCell ⟨g, j, none⟩ u) b v l :=
  Kd.R_mono (Kd.R_far (p := ⟨g, j, none⟩) (Kd.R_mono (Kd.R_bound h) (fun k hk => hk.2.1)) (fun k hk => by show k ≠ g; omega) u) (fun _ _ => trivial)
/-- What the row tells of bytes that came in. -/
theorem rd_of_row {w : World} {a : Option Addr} {len cap : Nat} {zs : List Int}
    (h : (a = none ∧ len = 0 ∧ cap = 0 ∧ zs = []) ∨ ∃ x, a = some x ∧ len ≤ cap ∧ cap ≤ maxLen ∧ zs.length = cap ∧ (∀ i, i < zs.length → w.cell? (x.add i) = some (.int .u8 (zs.getD i 0))) ∧ ∀ n ∈ zs, (Lit.int .u8 n).wf = true) :
    ∃ l : List Int, Rd w (.slice a len cap) l ∧ ∀ x ∈ l, 0 ≤ x ∧ x ≤ 255 := by
  obtain ⟨l, rfl, hr, hm, hw, hc⟩ := ReadsInt.ofRowC h
  refine ⟨l, rd_of_ints hr hc, fun x hx => ?_⟩
  have := hw x hx
  simp [Lit.wf, IntKind.min, IntKind.max, IntKind.signed, IntKind.bits] at this
  omega
theorem u64_of_wf {a : Int} (h : (Lit.int .u64 a).wf = true) : ∃ n : Nat, a = n ∧ n < 18446744073709551616 := by
  simp [Lit.wf, IntKind.min, IntKind.max, IntKind.signed, IntKind.bits] at h
  exact ⟨a.toNat, by omega, by omega⟩
theorem i64_of_wf {a : Int} (h : (Lit.int .i64 a).wf = true) : -9223372036854775808 ≤ a ∧ a ≤ 9223372036854775807 := by
  simp [Lit.wf, IntKind.min, IntKind.max, IntKind.signed, IntKind.bits] at h
  omega
end Go.Proofs.YtoajcijjkkkaaaaGreatDoor.K

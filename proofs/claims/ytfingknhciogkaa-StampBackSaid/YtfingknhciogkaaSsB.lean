/- slices.Values of stamps: the value that it hands back, as an iterator. -/
import Derived.Test.YtfingknhciogkaaSsA
import Derived.RangeFuncNested
import Derived.RangeFuncLeaves
import Derived.Shelf.Abstract
import Derived.OwnWalkIn
import Derived.TacticsInMore
import Derived.LoopNIn
import Derived.LoopIn
namespace Go.Proofs.Ytfingknhciogkaa.K
open Go.RowKit Go.Sort Go.Shelf Go.Proofs.YtfingknhciogkaaW.PrintWords Go.Proofs.YtfingknhciogkaaW.PrintLast Go.Proofs.YtfingknhciogkaaW.PrintMore
set_option linter.unusedVariables false
set_option linter.unusedSimpArgs false
attribute [local go_sem] Oper.semAt_some

theorem take_next {zs : List St} {k : Nat} {x : St} (h : zs[k]? = some x) : zs.take (k + 1) = zs.take k ++ [x] := by
  rw [List.take_add_one, h]
  rfl
/-- The stamps' cells. -/
def Lies2 (W : World) (ad : Addr) (zs : List St) : Prop := ∀ j x, zs[j]? = some x → W.cell? (ad.add (j * 2)) = some (.int .i64 x.f0) ∧ W.cell? ⟨(ad.add (j * 2)).block, (ad.add (j * 2)).off + 1, none⟩ = some (.int .i64 x.f1)
theorem add_block (ad : Addr) (k : Nat) : (ad.add k).block = ad.block := by
  unfold Addr.add
  split <;> rfl
theorem Lies2.below {W W' : World} {n₀ : Nat} {ad : Addr} {zs : List St} (h : Lies2 W ad zs) (hb : ad.block < n₀) (hB : Below n₀ W W') : Lies2 W' ad zs := fun j x hx =>
  ⟨(hB.cell (p := ad.add (j * 2)) (by rw [add_block]; exact hb)).trans (h j x hx).1, (hB.cell (p := ⟨(ad.add (j * 2)).block, (ad.add (j * 2)).off + 1, none⟩) (by show (ad.add (j * 2)).block < n₀; rw [add_block]; exact hb)).trans (h j x hx).2⟩

theorem below_alloc' {n₀ : Nat} {W W' : World} (h : W.heap.size ≤ W'.heap.size) (hn : n₀ ≤ W.heap.size) (o : Obj) : Below n₀ W' (W'.alloc o) := (Below.refl n₀ W').alloc (Nat.le_trans hn h) o
set_option maxRecDepth 100000 in
set_option maxHeartbeats 4000000 in
theorem values1_in (n : Nat) (hn : 1 ≤ n) (l Bs n₀ len cap : Nat) (ad : Addr) (zs : List St) (hzs : zs.length = len) (hlen : len ≤ 100000) (hcap : len ≤ cap) (hb : ad.block < n₀) (J Jx : List St → World → Prop) (B0 : Nat) (hJ : AbidesFrom B0 J)
    (hY : ∀ pre x W, J pre W → pre.length < len → YieldAt Fence.wide (n - 1) Try.prog l #[stV x] W fun e W' =>
      (e = .returned (.bool true) ∧ J (pre ++ [x]) W' ∧ Below n₀ W W') ∨ (e = .returned (.bool false) ∧ Jx (pre ++ [x]) W'))
    (W : World) (hBs : W.cell? ⟨Bs, 0, none⟩ = some (.slice (some ad) len cap)) (hc : Lies2 W ad zs) (hn₀ : n₀ ≤ W.heap.size) (h0 : J [] W) :
    CallsIn Fence.wide n Try.prog 40 #[.func (.yield l) #[] #[], .pointer (some ⟨Bs, 0, none⟩)] W fun e W' => (∃ v, e = .returned v) ∧ (J zs W' ∨ ∃ pre, Jx pre W') := by
  have hcap2 : (len : Int) ≤ cap := by omega
  have HC := Aside0.mk hc
  clear hc
  refine callsIn_of_wp Try.func40 rfl trivial ?_ rfl
  simp only [Try.ntmps40, List.size_toArray, List.length_cons, List.length_nil, Nat.reduceAdd, Nat.reduceSub, Array.replicate_succ, Array.replicate_zero, List.push_toArray, List.append_toArray, List.nil_append, List.cons_append]
  gi_wp2
  gi_loopw [7] (fun i wr => ∃ k : Nat, k ≤ len ∧ i = .int .i64 k ∧ J (zs.take k) wr ∧ Below n₀ W wr)
    (fun i _ => len - (intOf i).toNat)
  case atStart => exact ⟨0, Nat.zero_le _, rfl, by simpa using h0, Below.refl _ _⟩
  case round =>
    obtain ⟨k, hk, rfl, hJs, hnx⟩ := hrel
    have hn0 := hnx.size
    by_cases hlt : k < len
    · have hlt2 : (k : Int) < len := by omega
      have hk0 : (0 : Int) ≤ k := by omega
      obtain ⟨x, hx⟩ : ∃ x, zs[k]? = some x := ⟨_, List.getElem?_eq_getElem (by omega)⟩
      obtain ⟨c0, c1⟩ := (HC.out.below hb hnx) k x hx
      have hJ2 : J (zs.take k) (wr.alloc (.cells #[.int .i64 x.f0, .int .i64 x.f1] 23)) := hJ _ wr _ none hJs (World.grownBy_alloc wr _ none) (fun r e => by cases e)
      obtain ⟨fn, tmps, assign, body, hy, hR⟩ := hY (zs.take k) x _ hJ2 (by rw [List.length_take]; omega)
      have HT := Aside0.mk (take_next hx)
      clear hx hJ2 hJs
      gi_wp2
      refine hR.mono ?_
      rintro e W3 (⟨rfl, hJ3, hk3⟩ | ⟨rfl, hJx3⟩)
      · have hB3 : Below n₀ W W3 := (hnx.trans (below_alloc' hn0 hn₀ _)).trans hk3
        gi_wp2
        go_roundw
        case rel => exact ⟨k + 1, by omega, by go_num, by rw [HT.out]; exact hJ3, hB3⟩
        case measure => simp [intOf]; omega
      · gi_wp2
        refine bodyPost_ret (results_none rfl _ _ _) rfl ?_
        exact ⟨⟨_, rfl⟩, .inr ⟨_, hJx3⟩⟩
    · obtain rfl : k = len := by omega
      have ht : zs.take k = zs := by rw [← hzs]; exact List.take_length
      rw [ht] at hJs
      gi_wp2
      go_end0
      exact ⟨⟨_, rfl⟩, .inl hJs⟩

set_option maxRecDepth 100000 in
set_option maxHeartbeats 1000000 in
/-- .. at no element: no round. -/
theorem values1_none (n l Bs : Nat) (A : Option Addr) (cap : Nat) (J : List St → World → Prop) (W : World) (hBs : W.cell? ⟨Bs, 0, none⟩ = some (.slice A 0 cap)) (h0 : J [] W) :
    CallsIn Fence.wide n Try.prog 40 #[.func (.yield l) #[] #[], .pointer (some ⟨Bs, 0, none⟩)] W fun e W' => (∃ v, e = .returned v) ∧ J [] W' := by
  refine callsIn_of_wp Try.func40 rfl trivial ?_ rfl
  simp only [Try.ntmps40, List.size_toArray, List.length_cons, List.length_nil, Nat.reduceAdd, Nat.reduceSub, Array.replicate_succ, Array.replicate_zero, List.push_toArray, List.append_toArray, List.nil_append, List.cons_append]
  gi_wp2
  gi_loopw [7] (fun i wr => i = .int .i64 0 ∧ J [] wr) (fun _ _ => 0)
  case atStart => exact ⟨rfl, h0⟩
  case round =>
    obtain ⟨rfl, hJs⟩ := hrel
    gi_wp2
    go_end0
    exact ⟨⟨_, rfl⟩, hJs⟩

set_option maxHeartbeats 1000000 in
/-- slices.Values: the slice is boxed, and captured. -/
theorem values_calls (v : Value) (w : World) (hv : v.oneCell' = true) (A : Option Addr) (len cap : Nat) (e0 : v = .slice A len cap) :
    Calls Try.prog 30 #[v] w fun e w' => e = .returned (.func (.func 40) #[] #[.pointer (some ⟨w.heap.size, 0, none⟩)]) ∧ w' = w.alloc (.cells #[v] 24) := by
  subst e0
  go_enter Try.func30, Try.ntmps30
  go_wp2
  go_ret
  exact ⟨rfl, rfl⟩

/-- A slice of stamps below n₀. -/
def Sts2 (n₀ : Nat) (W : World) (v : Value) (zs : List St) : Prop := ∃ A cap, v = .slice A zs.length cap ∧ zs.length ≤ cap ∧ (0 < zs.length → ∃ ad, A = some ad ∧ ad.block < n₀ ∧ Lies2 W ad zs)
theorem Sts2.below {n₀ : Nat} {W W' : World} {v : Value} {zs : List St} (h : Sts2 n₀ W v zs) (hB : Below n₀ W W') : Sts2 n₀ W' v zs := by
  obtain ⟨A, cap, e, hc, h⟩ := h
  exact ⟨A, cap, e, hc, fun h0 => by
    obtain ⟨ad, e, hb, hl⟩ := h h0
    exact ⟨ad, e, hb, hl.below hb hB⟩⟩
/-- What slices.Values hands back gives all of them, in order, to whatever body that keeps what lay below n₀. -/
theorem values_stops (n : Nat) (hn : 1 ≤ n) (Bs n₀ : Nat) (v : Value) (zs : List St) (hlen : zs.length ≤ 100000) (w : World) (hBs : Bs < w.heap.size) (hn₀ : n₀ ≤ w.heap.size) (hc : w.cell? ⟨Bs, 0, none⟩ = some v) (hI : Sts2 n₀ w v zs) :
    SeqStopsK Fence.wide n Try.prog 40 #[.pointer (some ⟨Bs, 0, none⟩)] (fun x : St => #[stV x]) (Below n₀) (fun ys => ys = zs) (fun _ => True) zs.length w := fun l J Jx W hW hJ _ hY h0 => by
  have hc' := (hW.cell (p := ⟨Bs, 0, none⟩) hBs).trans hc
  obtain ⟨A, cap, rfl, hcap, h⟩ := hI.below (hW.mono hn₀)
  by_cases hz : 0 < zs.length
  · obtain ⟨ad, rfl, hb, hl⟩ := h hz
    refine (values1_in n hn l Bs n₀ zs.length cap ad zs rfl hlen hcap hb J Jx _ hJ hY W hc' hl (Nat.le_trans hn₀ hW.size) h0).mono ?_
    rintro e W' ⟨he, hj | ⟨pre, hj⟩⟩
    · exact ⟨he, .inl ⟨_, rfl, hj⟩⟩
    · exact ⟨he, .inr ⟨_, trivial, hj⟩⟩
  · have hz0 : zs = [] := List.eq_nil_of_length_eq_zero (by omega)
    subst hz0
    exact (values1_none n l Bs A cap J W hc' h0).mono fun e W' ⟨he, hj⟩ => ⟨he, .inl ⟨_, rfl, hj⟩⟩
end Go.Proofs.Ytfingknhciogkaa.K

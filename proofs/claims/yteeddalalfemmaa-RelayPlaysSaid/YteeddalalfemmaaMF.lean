/- cachettelaw22: both relays at once. cachettelaw22: both relays at once: Put, Forge, Rewind, Next. cachettelaw22: step. cachettelaw22: step: Next; no kind at all. cachettelaw22.RelayPlays: what the walk needs. cachettelaw22.RelayPlays: the walk. cachettelaw22.RelayPlays: the walk, where it plays. cachettelaw22.RelayPlays: the walk, at whatever number and script; a script that came in. -/
import Derived.Test.YteeddalalfemmaaME
import Derived.Deep.RegionHeld3
import Derived.Deep.Cut
import Derived.Test.YteeddalalfemmaaZ
import Derived.Deep.LoopGhost
import Derived.Test.YteeddalalfemmaaWTab
import Derived.Test.YteeddalalfemmaaOpen
namespace Go.Proofs.Yteeddalalfemmaa.K
open Go.RowKit Go.Proofs.YteeddalalfemmaaW.PrintWords Go.Proofs.YteeddalalfemmaaW.PrintLast Go.Proofs.YteeddalalfemmaaW.PrintMore
set_option linter.unusedVariables false
set_option linter.unusedSimpArgs false

theorem Drawn0.low {w w' : World} (h : Drawn0 w w') : Below w.heap.size w w' := by
  obtain ⟨m, rfl⟩ := h
  exact pw_below_drewN (Below.refl _ _) m
/-- The relay stands where cachetteref22's methods went. -/
theorem Rel.leave {W W' : World} {b0 g gq : Nat} {col col' : Nat → Nat} {vw : List It} {qs : List (List It)} (h : Rel W b0 g gq col vw qs) (hg : col g < 9) (hgq : col gq < 9) (hn : qs.length ≤ 8) (hL : Lef W W' col col') : Rel W' b0 g gq col' vw qs := by
  obtain ⟨⟨vv, h1, h2⟩, ⟨cs, h3, h4, h5⟩, h6⟩ := h
  have mv : ∀ {c : Nat} {v : Value} {xs : List It}, c < 9 → QR W b0 (fun k => col k = c) v xs → QR W' b0 (fun k => col' k = c) v xs := by
    intro c v xs hc hr
    have hr2 : QR W b0 (fun k => col' k = c ∧ k < W.heap.size) v xs := Kd.S_mono (Kd.S_bound hr) (fun k hk => ⟨by rw [hL.2.1 k hk.2.2.1]; exact hk.1, hk.2.2.1⟩)
    exact Kd.S_mono (Kd.S_step hr2 (fun k hk hlt => hL.2.2 k hlt (.inl (by rw [← hL.2.1 k hlt, hk.1]; exact hc)))) (fun _ hk => hk.1)
  refine ⟨⟨vv, (hL.2.2 g (blk_lt h1) (.inl hg)).trans h1, mv (by omega) h2⟩, ⟨cs, (hL.2.2 gq (blk_lt h3) (.inl hgq)).trans h3, h4, fun i hi => ?_⟩, h6⟩
  obtain ⟨v, e, r⟩ := h5 i hi
  exact ⟨v, e, mv (by omega) r⟩
theorem Mel.leave {W W' : World} {b0 h hq : Nat} {col col' : Nat → Nat} {vw : List It} {qs : List (List It)} (hM : Mel W b0 h hq col vw qs) (hL : Left W W' col col') : Mel W' b0 h hq col' vw qs := hM.step hL.1 hL.2.2 hL.2.1

/-- Both relays, by one colouring, and a block of the caller's. -/
structure St (w0 W : World) (g gq h hq bx : Nat) (ob : Obj) (vw : List It) (qs : List (List It)) (vw2 : List It) (qs2 : List (List It)) : Prop where
  ex : ∃ col : Nat → Nat, Rel W w0.heap.size g gq col vw qs ∧ Mel W w0.heap.size h hq col vw2 qs2 ∧ col g < 9 ∧ col gq < 9 ∧ W.heap[bx]? = some ob ∧ 100 ≤ col bx
  B : Below w0.heap.size w0 W
/-- Both relays. -/
def St0 (w0 W : World) (g gq h hq : Nat) (vw : List It) (qs : List (List It)) (vw2 : List It) (qs2 : List (List It)) : Prop :=
  (∃ col : Nat → Nat, Rel W w0.heap.size g gq col vw qs ∧ Mel W w0.heap.size h hq col vw2 qs2 ∧ col g < 9 ∧ col gq < 9) ∧ Below w0.heap.size w0 W
theorem St.low {w0 W : World} {g gq h hq bx : Nat} {ob : Obj} {vw vw2 : List It} {qs qs2 : List (List It)} (hS : St w0 W g gq h hq bx ob vw qs vw2 qs2) : St0 w0 W g gq h hq vw qs vw2 qs2 := by
  obtain ⟨⟨col, h1, h2, h3, h4, _⟩, h5⟩ := hS
  exact ⟨⟨col, h1, h2, h3, h4⟩, h5⟩
theorem St0.step {w0 W W' : World} {g gq h hq : Nat} {vw vw2 : List It} {qs qs2 : List (List It)} (hS : St0 w0 W g gq h hq vw qs vw2 qs2) (hb : Below W.heap.size W W') : St0 w0 W' g gq h hq vw qs vw2 qs2 := by
  obtain ⟨⟨col, h1, h2, h3, h4⟩, h5⟩ := hS
  exact ⟨⟨col, h1.below hb, h2.below hb, h3, h4⟩, below_step h5 hb⟩
theorem St.step {w0 W W' : World} {g gq h hq bx : Nat} {ob : Obj} {vw vw2 : List It} {qs qs2 : List (List It)} (hS : St w0 W g gq h hq bx ob vw qs vw2 qs2) (hb : Below W.heap.size W W') (hbx : bx < W.heap.size) : St w0 W' g gq h hq bx ob vw qs vw2 qs2 := by
  obtain ⟨⟨col, h1, h2, h3, h4, h5, h6⟩, h7⟩ := hS
  exact ⟨⟨col, h1.below hb, h2.below hb, h3, h4, by rw [hb.block bx hbx]; exact h5, h6⟩, below_step h7 hb⟩
theorem St0.box {w0 W : World} {g gq h hq : Nat} {vw vw2 : List It} {qs qs2 : List (List It)} (hS : St0 w0 W g gq h hq vw qs vw2 qs2) (cs : Array Value) (t : Nat) : St w0 (W.alloc (.cells cs t)) g gq h hq W.heap.size (.cells cs t (0, 0)) vw qs vw2 qs2 := by
  obtain ⟨⟨col, h1, h2, h3, h4⟩, h5⟩ := hS
  have hb := below_alloc (Below.refl W.heap.size W) (.cells cs t)
  have hl := h1.lt
  refine ⟨⟨_, (h1.recol 100).below hb, (h2.recol 100).below hb, ?_, ?_, blk_new W _, ?_⟩, below_step h5 hb⟩
  · show (if g < W.heap.size then col g else 100) < 9
    rw [if_pos hl.1]
    exact h3
  · show (if gq < W.heap.size then col gq else 100) < 9
    rw [if_pos hl.2]
    exact h4
  · show 100 ≤ (if W.heap.size < W.heap.size then col W.heap.size else 100)
    rw [if_neg (by omega)]
    exact Nat.le_refl _

/-- How much there may be. -/
structure Lim (n N : Nat) (vw : List It) (qs : List (List It)) : Prop where
  len : qs.length = n
  n8 : n ≤ 8
  v : vw.length ≤ N
  q : ∀ q ∈ qs, q.length ≤ N
  xv : ∀ x ∈ vw, x.f0.length ≤ 4000
  xq : ∀ q ∈ qs, ∀ x ∈ q, x.f0.length ≤ 4000
theorem Lim.more {n N : Nat} {vw : List It} {qs : List (List It)} (h : Lim n N vw qs) : Lim n (N + 1) vw qs := ⟨h.len, h.n8, by have := h.v; omega, fun q hq => by have := h.q q hq; omega, h.xv, h.xq⟩
theorem Lim.set {n N M : Nat} {vw : List It} {qs : List (List It)} (h : Lim n N vw qs) (hM : N ≤ M) (i : Nat) (xs : List It) (hl : xs.length ≤ M) (hx : ∀ x ∈ xs, x.f0.length ≤ 4000) : Lim n M vw (qs.set i xs) := by
  refine ⟨by rw [List.length_set]; exact h.len, h.n8, by have := h.v; omega, fun q hq => ?_, h.xv, fun q hq => ?_⟩
  · rcases List.mem_or_eq_of_mem_set hq with hq | rfl
    · have := h.q q hq
      omega
    · exact hl
  · rcases List.mem_or_eq_of_mem_set hq with hq | rfl
    · exact h.xq q hq
    · exact hx
theorem Lim.zero {n : Nat} (h8 : n ≤ 8) : Lim n 0 [] (List.replicate n []) := ⟨by simp, h8, by simp, fun q hq => by rw [List.eq_of_mem_replicate hq]; simp, fun _ h => by simp at h, fun q hq x hx => by rw [List.eq_of_mem_replicate hq] at hx; simp at hx⟩

/-- What a call on both does: the same answer, the same change. -/
def Pair (w0 : World) (g gq h hq bx : Nat) (ob : Obj) (vw : List It) (qs : List (List It)) (f1 f2 : Nat) (args : List Value) (R : Value) (vw' : List It) (qs' : List (List It)) : Prop :=
  (∀ w, St w0 w g gq h hq bx ob vw qs vw qs → Calls Try.prog f1 (.pointer (some ⟨g, 0, none⟩) :: args).toArray w fun e w' => e = .returned R ∧ St w0 w' g gq h hq bx ob vw' qs' vw qs) ∧
  (∀ w, St w0 w g gq h hq bx ob vw' qs' vw qs → Calls Try.prog f2 (.pointer (some ⟨h, 0, none⟩) :: args).toArray w fun e w' => e = .returned R ∧ St w0 w' g gq h hq bx ob vw' qs' vw' qs')

section
variable {w0 : World} {g gq h hq bx : Nat} {ob : Obj} {vw vw' : List It} {qs qs' : List (List It)} {f1 f2 : Nat} {args : List Value} {R : Value} {n N : Nat}
/-- Each side's own contract is enough. -/
theorem Pair.mk' (h1 : ∀ (col : Nat → Nat) (w : World), Rel w w0.heap.size g gq col vw qs → col g < 9 → col gq < 9 → Below w0.heap.size w0 w → Calls Try.prog f1 (.pointer (some ⟨g, 0, none⟩) :: args).toArray w fun e w' => e = .returned R ∧ Did w0 w w' g gq col vw' qs')
    (h2 : ∀ (col : Nat → Nat) (w : World), Mel w w0.heap.size h hq col vw qs → Below w0.heap.size w0 w → Calls Try.prog f2 (.pointer (some ⟨h, 0, none⟩) :: args).toArray w fun e w' => e = .returned R ∧ Mid w0 w w' h hq col vw' qs') (hn : qs'.length ≤ 8) : Pair w0 g gq h hq bx ob vw qs f1 f2 args R vw' qs' := by
  constructor
  · rintro w ⟨⟨col, hR, hM, hg, hgq, hb, h100⟩, hB⟩
    refine (h1 col w hR hg hgq hB).mono ?_
    rintro e w' ⟨rfl, ⟨⟨c2, hR2, hL⟩, hB2⟩⟩
    have hlt := hR.lt
    have hbx : bx < w.heap.size := (Array.getElem?_eq_some_iff.1 hb).1
    exact ⟨rfl, ⟨⟨c2, hR2, hM.leave hL, hL.lo hlt.1 hg, hL.lo hlt.2 hgq, by rw [hL.2.2 bx hbx (by omega)]; exact hb, by rw [hL.2.1 bx hbx]; exact h100⟩, hB2⟩⟩
  · rintro w ⟨⟨col, hR, hM, hg, hgq, hb, h100⟩, hB⟩
    refine (h2 col w hM hB).mono ?_
    rintro e w' ⟨rfl, ⟨⟨c2, hM2, hL⟩, hB2⟩⟩
    have hlt := hR.lt
    have hbx : bx < w.heap.size := (Array.getElem?_eq_some_iff.1 hb).1
    exact ⟨rfl, ⟨⟨c2, hR.leave hg hgq hn hL, hM2, by rw [hL.2.1 g hlt.1]; exact hg, by rw [hL.2.1 gq hlt.2]; exact hgq, by rw [hL.2.2 bx hbx (.inr h100)]; exact hb, by rw [hL.2.1 bx hbx]; exact h100⟩, hB2⟩⟩
/-- Nothing is changed. -/
theorem Pair.none (h1 : ∀ (col : Nat → Nat) (w : World), Rel w w0.heap.size g gq col vw qs → Calls Try.prog f1 (.pointer (some ⟨g, 0, none⟩) :: args).toArray w fun e w' => e = .returned R ∧ Below w.heap.size w w')
    (h2 : ∀ (col : Nat → Nat) (w : World), Mel w w0.heap.size h hq col vw qs → Calls Try.prog f2 (.pointer (some ⟨h, 0, none⟩) :: args).toArray w fun e w' => e = .returned R ∧ Below w.heap.size w w') (hn : qs.length ≤ 8) : Pair w0 g gq h hq bx ob vw qs f1 f2 args R vw qs :=
  Pair.mk' (fun col w hR _ _ hB => (h1 col w hR).mono (fun e w' ⟨he, hb⟩ => ⟨he, Did.none hR hB hb⟩)) (fun col w hM hB => (h2 col w hM).mono (fun e w' ⟨he, hb⟩ => ⟨he, Mid.none hM hB hb⟩)) hn

theorem has_nat {i j : Int} (hh : hasQ qs i j) : ∃ (m k : Nat) (hm : m < qs.length), i = m ∧ j = k ∧ k < qs[m].length := by
  obtain ⟨hm, h0, h1, h2⟩ := hh
  exact ⟨i.toNat, j.toNat, hm, by omega, by omega, by omega⟩
theorem pair_drop (hl : Lim n N vw qs) (hN : N ≤ 60) (i j : Int) : ∃ b vw' qs', Lim n (N + 1) vw' qs' ∧ Pair w0 g gq h hq bx ob vw qs 17 18 [.int .i64 i, .int .i64 j] (.bool b) vw' qs' := by
  have hn8 : qs.length ≤ 8 := by have := hl.len; have := hl.n8; omega
  by_cases hh : hasQ qs i j
  · obtain ⟨m, k, hm, rfl, rfl, hk⟩ := has_nat hh
    have hq1 := hl.q _ (List.getElem_mem hm)
    refine ⟨true, vw, qs.set m (qs[m].eraseIdx k), hl.set (by omega) m _ (by have := List.length_eraseIdx_le qs[m] k; omega) (fun x hx => hl.xq _ (List.getElem_mem hm) x (List.mem_of_mem_eraseIdx hx)), Pair.mk' (fun col w hR hg hgq hB => rdrop g gq m k col vw qs _ w0 w hR hm rfl hk (by omega) hgq (by omega) hB) (fun col w hM hB => mdrop_ok h hq m k col vw qs _ w0 w hM hm rfl hk (by omega) hB) (by rw [List.length_set]; exact hn8)⟩
  · exact ⟨false, vw, qs, hl.more, Pair.none (fun col w hR => rdrop_none g gq i j col vw qs _ w hR hh) (fun col w hM => mdrop_no h hq i j col vw qs _ w hM hh) hn8⟩
theorem pair_again (hl : Lim n N vw qs) (hN : N ≤ 60) (i j : Int) : ∃ b vw' qs', Lim n (N + 1) vw' qs' ∧ Pair w0 g gq h hq bx ob vw qs 19 20 [.int .i64 i, .int .i64 j] (.bool b) vw' qs' := by
  have hn8 : qs.length ≤ 8 := by have := hl.len; have := hl.n8; omega
  by_cases hh : hasQ qs i j
  · obtain ⟨m, k, hm, rfl, rfl, hk⟩ := has_nat hh
    have hq1 := hl.q _ (List.getElem_mem hm)
    have hx1 := hl.xq _ (List.getElem_mem hm) _ (List.getElem_mem hk)
    refine ⟨true, vw, qs.set m (qs[m] ++ [qs[m][k]]), hl.set (by omega) m _ (by simp; omega) (fun x hx => ?_), Pair.mk' (fun col w hR hg hgq hB => ragain g gq m k _ col vw qs _ w0 w hR hm rfl hk rfl (by omega) (by omega) hgq (by omega) hB) (fun col w hM hB => magain_ok h hq m k col vw qs _ _ w0 w hM hm rfl hk rfl (by omega) hB) (by rw [List.length_set]; exact hn8)⟩
    rcases List.mem_append.1 hx with hx | hx
    · exact hl.xq _ (List.getElem_mem hm) x hx
    · simp at hx
      rw [hx]
      exact hx1
  · exact ⟨false, vw, qs, hl.more, Pair.none (fun col w hR => ragain_none g gq i j col vw qs _ w hR hh) (fun col w hM => magain_no h hq i j col vw qs _ w hM hh) hn8⟩
theorem pair_swap (hl : Lim n N vw qs) (hN : N ≤ 60) (i j k : Int) : ∃ b vw' qs', Lim n (N + 1) vw' qs' ∧ Pair w0 g gq h hq bx ob vw qs 21 22 [.int .i64 i, .int .i64 j, .int .i64 k] (.bool b) vw' qs' := by
  have hn8 : qs.length ≤ 8 := by have := hl.len; have := hl.n8; omega
  by_cases hh : hasQ qs i j
  · by_cases hh2 : hasQ qs i k
    · obtain ⟨m, a, hm, rfl, rfl, ha⟩ := has_nat hh
      obtain ⟨m2, b, hm2, e2, rfl, hb⟩ := has_nat hh2
      have : m2 = m := by omega
      subst this
      have hq1 := hl.q _ (List.getElem_mem hm)
      refine ⟨true, vw, qs.set m2 ((qs[m2].set a qs[m2][b]).set b qs[m2][a]), hl.set (by omega) m2 _ (by rw [List.length_set, List.length_set]; omega) (fun x hx => ?_), Pair.mk' (fun col w hR hg hgq hB => rswap_ok g gq m2 a b _ _ col vw qs _ w0 w hR hm rfl ha rfl hb rfl (by omega) hB) (fun col w hM hB => mswap_ok h hq m2 a b col vw qs _ _ _ w0 w hM hm rfl ha rfl hb rfl (by omega) hB) (by rw [List.length_set]; exact hn8)⟩
      rcases List.mem_or_eq_of_mem_set hx with hx | rfl
      · rcases List.mem_or_eq_of_mem_set hx with hx | rfl
        · exact hl.xq _ (List.getElem_mem hm) x hx
        · exact hl.xq _ (List.getElem_mem hm) _ (List.getElem_mem hb)
      · exact hl.xq _ (List.getElem_mem hm) _ (List.getElem_mem ha)
    · obtain ⟨m, a, hm, rfl, rfl, ha⟩ := has_nat hh
      have hno : k < 0 ∨ (qs[m].length : Int) ≤ k := by
        by_cases h0 : k < 0
        · exact .inl h0
        · by_cases h1 : (qs[m].length : Int) ≤ k
          · exact .inr h1
          · exact absurd (⟨by simpa using hm, by omega, by omega, by simpa using (show k < qs[m].length by omega)⟩ : hasQ qs m k) hh2
      exact ⟨false, vw, qs, hl.more, Pair.mk' (fun col w hR hg hgq hB => rswap_no g gq m a k col vw qs _ w0 w hR hm rfl ha hno hB) (fun col w hM hB => (mswap_no h hq m a k col vw qs _ w hM (.inr hh2)).mono (fun e w' ⟨he, hb⟩ => ⟨he, Mid.none hM hB hb⟩)) hn8⟩
  · exact ⟨false, vw, qs, hl.more, Pair.none (fun col w hR => rswap_none g gq i j k col vw qs _ w hR hh) (fun col w hM => mswap_no h hq i j k col vw qs _ w hM (.inl hh)) hn8⟩
theorem pair_turn (hl : Lim n N vw qs) (hN : N ≤ 60) (i j a y : Int) : ∃ b vw' qs', Lim n (N + 1) vw' qs' ∧ Pair w0 g gq h hq bx ob vw qs 23 24 [.int .i64 i, .int .i64 j, .int .i64 a, .int .u8 y] (.bool b) vw' qs' := by
  have hn8 : qs.length ≤ 8 := by have := hl.len; have := hl.n8; omega
  by_cases hh : hasQ qs i j
  · obtain ⟨m, k, hm, rfl, rfl, hk⟩ := has_nat hh
    have hq1 := hl.q _ (List.getElem_mem hm)
    have hx1 := hl.xq _ (List.getElem_mem hm) _ (List.getElem_mem hk)
    by_cases hno : a < 0 ∨ (qs[m][k].f0.length : Int) ≤ a ∨ qs[m][k].f1 = true
    · exact ⟨false, vw, qs, hl.more, Pair.mk' (fun col w hR hg hgq hB => rturn_no g gq m k a y col vw qs _ w0 w hR hm rfl hk hno hB) (fun col w hM hB => (mturn_no h hq m k a y col vw qs _ _ w hM hm rfl hk hno).mono (fun e w' ⟨he, hb⟩ => ⟨he, Mid.none hM hB hb⟩)) hn8⟩
    · obtain ⟨l, hxl⟩ : ∃ l, qs[m][k] = ⟨l, false⟩ := ⟨qs[m][k].f0, by
        have h1 : qs[m][k].f1 = false := by
          cases h : qs[m][k].f1
          · rfl
          · exact absurd (.inr (.inr h)) hno
        rw [← h1]⟩
      rw [hxl] at hno hx1
      obtain ⟨p, rfl⟩ : ∃ p : Nat, a = p := ⟨a.toNat, by omega⟩
      have hpl : p < l.length := by
        have : ¬ ((l.length : Int) ≤ p) := fun h => hno (.inr (.inl h))
        omega
      have hl4 : l.length ≤ 4000 := hx1
      refine ⟨true, vw, qs.set m (qs[m].set k ⟨l.set p (bits .xor .u8 (rd l p) y), true⟩), hl.set (by omega) m _ (by rw [List.length_set]; omega) (fun x hx => ?_), Pair.mk' (fun col w hR hg hgq hB => rturn_ok g gq m k p y l col vw qs _ w0 w hR hm rfl hk hxl (by omega) hpl (by omega) (by omega) hB) (fun col w hM hB => mturn_ok h hq m k p y col vw qs _ l w0 w hM hm rfl hk hxl hpl (by omega) (by omega) hB) (by rw [List.length_set]; exact hn8)⟩
      rcases List.mem_or_eq_of_mem_set hx with hx | rfl
      · exact hl.xq _ (List.getElem_mem hm) x hx
      · show (l.set p _).length ≤ 4000
        rw [List.length_set]
        exact hl4
  · exact ⟨false, vw, qs, hl.more, Pair.none (fun col w hR => rturn_none g gq i j a y col vw qs _ w hR hh) (fun col w hM => mturn_none h hq i j a y col vw qs _ w hM hh) hn8⟩
end
end Go.Proofs.Yteeddalalfemmaa.K

namespace Go.Proofs.Yteeddalalfemmaa.K
open Go.RowKit Go.Proofs.YteeddalalfemmaaW.PrintWords Go.Proofs.YteeddalalfemmaaW.PrintLast Go.Proofs.YteeddalalfemmaaW.PrintMore
set_option linter.unusedVariables false
set_option linter.unusedSimpArgs false

section
variable {w0 : World} {g gq h hq bx : Nat} {ob : Obj} {vw vw' : List It} {qs qs' : List (List It)} {f1 f2 : Nat} {args : List Value} {R : Value} {n N : Nat}
theorem putTo_lim (hl : Lim n N vw qs) (i : Nat) (l : List Int) (h4 : l.length ≤ 4000) : Lim n (N + 1) (vw ++ [⟨l, false⟩]) (putTo qs.length i ⟨l, false⟩ qs) := by
  refine ⟨by rw [putTo_len]; exact hl.len, hl.n8, by have := hl.v; simp; omega, fun q hq => ?_, fun x hx => ?_, fun q hq x hx => ?_⟩
  · obtain ⟨m, hm, rfl⟩ := List.getElem_of_mem hq
    have hm2 : m < qs.length := by rw [putTo_len] at hm; exact hm
    rw [putTo_get _ _ _ _ _ hm hm2]
    have := hl.q _ (List.getElem_mem hm2)
    split
    · simp
      omega
    · omega
  · rcases List.mem_append.1 hx with hx | hx
    · exact hl.xv x hx
    · simp at hx
      rw [hx]
      exact h4
  · obtain ⟨m, hm, rfl⟩ := List.getElem_of_mem hq
    have hm2 : m < qs.length := by rw [putTo_len] at hm; exact hm
    rw [putTo_get _ _ _ _ _ hm hm2] at hx
    split at hx
    · rcases List.mem_append.1 hx with hx | hx
      · exact hl.xq _ (List.getElem_mem hm2) x hx
      · simp at hx
        rw [hx]
        exact h4
    · exact hl.xq _ (List.getElem_mem hm2) x hx
theorem pair_put (hl : Lim n N vw qs) (hN : N ≤ 60) (i : Int) (A : Option Addr) (c : Nat) (l : List Int) (hb : Rd w0 (.slice A l.length c) l) : ∃ b vw' qs', Lim n (N + 1) vw' qs' ∧ Pair w0 g gq h hq bx ob vw qs 12 14 [.int .i64 i, .slice A l.length c] (.int .i64 b) vw' qs' := by
  have hn8 : qs.length ≤ 8 := by have := hl.len; have := hl.n8; omega
  by_cases hi : i < 0 ∨ (qs.length : Int) ≤ i
  · refine ⟨1, vw, qs, hl.more, Pair.none (fun col w hR => ?_) (fun col w hM => mput_bad h hq i _ col vw qs _ w hM hi) hn8⟩
    obtain ⟨vv, h1, _⟩ := hR.blk
    exact (put_out g gq _ i vv _ w h1 hi).mono (fun e w' ⟨he, hd⟩ => ⟨he, Drawn0.low hd⟩)
  · obtain ⟨m, rfl⟩ : ∃ m : Nat, i = m := ⟨i.toNat, by omega⟩
    have hm : m < qs.length := by omega
    by_cases h4 : 4000 < l.length
    · exact ⟨3, vw, qs, hl.more, Pair.none (fun col w hR => (put_large g gq m col vw qs A _ c _ w hR hm h4).mono (fun e w' ⟨he, hd⟩ => ⟨he, Drawn0.low hd⟩)) (fun col w hM => mput_large h hq m _ c A col vw qs _ w hM hm h4) hn8⟩
    · refine ⟨0, _, _, putTo_lim hl m l (by omega), Pair.mk' (fun col w hR hg hgq hB => ?_) (fun col w hM hB => mput_ok h hq m col vw qs _ l w0 w hM hm (hb.below hB) (by omega) (by have := hl.v; omega) (fun q hq => by have := hl.q q hq; omega) hB) (by rw [putTo_len]; exact hn8)⟩
      exact (rput_ok g gq m col vw qs _ l w0 w hR hm hn8 (fun W hW _ => hb.below hW) (by omega) (by have := hl.v; omega) (fun q hq => by have := hl.q q hq; omega) ⟨hg, hgq⟩ hB).mono (fun e w' ⟨he, hd, hb2, _⟩ => ⟨he, hd, hb2⟩)
theorem pair_forge (hl : Lim n N vw qs) (hN : N ≤ 60) (i : Int) (A : Option Addr) (c : Nat) (l : List Int) (hb : Rd w0 (.slice A l.length c) l) : ∃ b vw' qs', Lim n (N + 1) vw' qs' ∧ Pair w0 g gq h hq bx ob vw qs 25 26 [.int .i64 i, .slice A l.length c] (.int .i64 b) vw' qs' := by
  have hn8 : qs.length ≤ 8 := by have := hl.len; have := hl.n8; omega
  by_cases hi : i < 0 ∨ (qs.length : Int) ≤ i
  · refine ⟨1, vw, qs, hl.more, Pair.none (fun col w hR => ?_) (fun col w hM => mforge_bad h hq i _ col vw qs _ w hM hi) hn8⟩
    obtain ⟨vv, h1, _⟩ := hR.blk
    exact (forge_out g gq _ i vv _ w h1 hi).mono (fun e w' ⟨he, hd⟩ => ⟨he, Drawn0.low hd⟩)
  · obtain ⟨m, rfl⟩ : ∃ m : Nat, i = m := ⟨i.toNat, by omega⟩
    have hm : m < qs.length := by omega
    by_cases h4 : 4000 < l.length
    · exact ⟨3, vw, qs, hl.more, Pair.none (fun col w hR => (forge_large g gq m col vw qs A _ c _ w hR hm h4).mono (fun e w' ⟨he, hd⟩ => ⟨he, Drawn0.low hd⟩)) (fun col w hM => mforge_large h hq m _ c A col vw qs _ w hM hm h4) hn8⟩
    · have hq1 := hl.q _ (List.getElem_mem hm)
      refine ⟨0, vw, qs.set m (qs[m] ++ [⟨l, false⟩]), hl.set (by omega) m _ (by simp; omega) (fun x hx => ?_), Pair.mk' (fun col w hR hg hgq hB => rforge_ok g gq m col vw qs _ _ l w0 w hR hm rfl (by omega) (hb.below hB) (by omega) hgq (by omega) hB) (fun col w hM hB => mforge_ok h hq m col vw qs _ _ l w0 w hM hm rfl (hb.below hB) (by omega) (by omega) hB) (by rw [List.length_set]; exact hn8)⟩
      rcases List.mem_append.1 hx with hx | hx
      · exact hl.xq _ (List.getElem_mem hm) x hx
      · simp at hx
        rw [hx]
        show l.length ≤ 4000
        omega
theorem pair_rewind (hl : Lim n N vw qs) (hN : N ≤ 60) (i : Int) : ∃ b vw' qs', Lim n (N + 1) vw' qs' ∧ Pair w0 g gq h hq bx ob vw qs 27 28 [.int .i64 i] (.int .i64 b) vw' qs' := by
  have hn8 : qs.length ≤ 8 := by have := hl.len; have := hl.n8; omega
  by_cases hi : i < 0 ∨ (qs.length : Int) ≤ i
  · refine ⟨0, vw, qs, hl.more, Pair.none (fun col w hR => ?_) (fun col w hM => mrewind_no h hq i col vw qs _ w hM hi) hn8⟩
    obtain ⟨vv, h1, _⟩ := hR.blk
    exact (rewind_out g gq _ i vv w h1 hi).mono (fun e w' ⟨he, hd⟩ => ⟨he, Drawn0.low hd⟩)
  · obtain ⟨m, rfl⟩ : ∃ m : Nat, i = m := ⟨i.toNat, by omega⟩
    have hm : m < qs.length := by omega
    have hv := hl.v
    refine ⟨(vw.length : Int), vw, qs.set m (vw.map clr), hl.set (by omega) m _ (by rw [List.length_map]; omega) (fun x hx => ?_), Pair.mk' (fun col w hR hg hgq hB => rrewind_ok g gq m col vw qs w0 w hR hm (by omega) (fun x hx => by have := hl.xv x hx; omega) hgq (by omega) hB) (fun col w hM hB => mrewind_ok h hq m col vw qs w0 w hM hm (by omega) hB) (by rw [List.length_set]; exact hn8)⟩
    obtain ⟨y, hy, rfl⟩ := List.mem_map.1 hx
    exact hl.xv y hy

/-- Next, on the relay. -/
theorem next_one (hn8 : qs.length ≤ 8) (m : Nat) (x : It) (xs : List It) (hm : m < qs.length) (hxs : qs[m] = x :: xs) (hq9 : (x :: xs).length ≤ 90000) (w : World) (hS : St w0 w g gq h hq bx ob vw qs vw qs) :
    Calls Try.prog 13 #[.pointer (some ⟨g, 0, none⟩), .int .i64 m] w fun e w' => ∃ va, e = .returned (.tuple #[va, .bool true]) ∧ Kd.R (Kd.int .u8) 5 w' w0.heap.size (fun _ => True) va x.f0 ∧ St w0 w' g gq h hq bx ob vw (qs.set m xs) vw qs := by
  obtain ⟨⟨col, hR, hM, hg, hgq, hb, h100⟩, hB⟩ := hS
  have hq1 : qs[m].length = xs.length + 1 := by rw [hxs]; simp
  simp only [List.length_cons] at hq9
  refine (rnext_ok g gq m col vw qs w0 w hR hm (by omega) (by omega) hgq (by omega) hB).mono ?_
  rintro e w' ⟨va, rfl, hva, ⟨c2, hR2, hL⟩, hB2, hF⟩
  have hlt := hR.lt
  have hbx : bx < w.heap.size := (Array.getElem?_eq_some_iff.1 hb).1
  have e0 : qs[m][0]'(by omega) = x := by simp [hxs]
  have e1 : qs[m].eraseIdx 0 = xs := by rw [hxs]; rfl
  rw [e0] at hva
  rw [e1] at hR2
  exact ⟨va, rfl, hva, ⟨⟨c2, hR2, hM.leave hL, hL.lo hlt.1 hg, hL.lo hlt.2 hgq, by rw [hL.2.2 bx hbx (by omega)]; exact hb, by rw [hL.2.1 bx hbx]; exact h100⟩, hB2⟩⟩
/-- Next, on cachetteref22's. -/
theorem next_two (hn8 : qs.length ≤ 8) (m : Nat) (x : It) (xs : List It) (hm : m < qs.length) (hxs : qs[m] = x :: xs) (va : Value) (w : World) (hS : St w0 w g gq h hq bx ob vw (qs.set m xs) vw qs) (hva : Kd.R (Kd.int .u8) 5 w w0.heap.size (fun _ => True) va x.f0) :
    Calls Try.prog 15 #[.pointer (some ⟨h, 0, none⟩), .int .i64 m] w fun e w' => ∃ vb, e = .returned (.tuple #[vb, .bool true]) ∧ Rd w' vb x.f0 ∧ Rd w' va x.f0 ∧ St w0 w' g gq h hq bx ob vw (qs.set m xs) vw (qs.set m xs) := by
  obtain ⟨⟨col, hR, hM, hg, hgq, hb, h100⟩, hB⟩ := hS
  refine (mnext_ok h hq m col vw qs x xs w0 w hM hm hxs hB).mono ?_
  rintro e w' ⟨⟨vb, rfl, hvb⟩, hM2, hL, hB2, hF⟩
  have hlt := hR.lt
  have hbx : bx < w.heap.size := (Array.getElem?_eq_some_iff.1 hb).1
  exact ⟨vb, rfl, hvb.rd, Kd.R_reads (own_frame hva hF), ⟨⟨col, hR.leave hg hgq (by rw [List.length_set]; exact hn8) hL, hM2, hg, hgq, by rw [hL.2.2 bx hbx (.inr h100)]; exact hb, h100⟩, hB2⟩⟩
theorem next_none (hl : Lim n N vw qs) (i : Int) (hh : ¬ hasQ qs i 0) : Pair w0 g gq h hq bx ob vw qs 13 15 [.int .i64 i] (.tuple #[.slice none 0 0, .bool false]) vw qs :=
  Pair.none (fun col w hR => rnext_no g gq i col vw qs _ w hR hh) (fun col w hM => mnext_no h hq i col vw qs _ w hM hh) (by have := hl.len; have := hl.n8; omega)
end
end Go.Proofs.Yteeddalalfemmaa.K

namespace Go.Proofs.Yteeddalalfemmaa.K
open Go.RowKit Go.Proofs.YteeddalalfemmaaW.PrintWords Go.Proofs.YteeddalalfemmaaW.PrintLast Go.Proofs.YteeddalalfemmaaW.PrintMore
set_option linter.unusedVariables false
set_option linter.unusedSimpArgs false

section
variable {w0 : World} {g gq h hq bx : Nat} {vw vw2 : List It} {qs qs2 : List (List It)} {n N : Nat}
theorem St.cells {W : World} {a0 a1 a2 a3 a4 a5 : Value} {t : Nat} (hS : St w0 W g gq h hq bx (.cells #[a0, a1, a2, a3, a4, a5] t (0, 0)) vw qs vw2 qs2) :
    W.cell? ⟨bx, 0, none⟩ = some a0 ∧ W.cell? ⟨bx, 1, none⟩ = some a1 ∧ W.cell? ⟨bx, 2, none⟩ = some a2 ∧ W.cell? ⟨bx, 3, none⟩ = some a3 ∧ W.cell? ⟨bx, 4, none⟩ = some a4 ∧ W.cell? ⟨bx, 5, none⟩ = some a5 := by
  obtain ⟨⟨col, _, _, _, _, hb, _⟩, _⟩ := hS
  exact ⟨(blk_cell hb 0).trans rfl, (blk_cell hb 1).trans rfl, (blk_cell hb 2).trans rfl, (blk_cell hb 3).trans rfl, (blk_cell hb 4).trans rfl, (blk_cell hb 5).trans rfl⟩
theorem St.lt {W : World} {ob : Obj} (hS : St w0 W g gq h hq bx ob vw qs vw2 qs2) : bx < W.heap.size := by
  obtain ⟨⟨col, _, _, _, _, hb, _⟩, _⟩ := hS
  exact (Array.getElem?_eq_some_iff.1 hb).1

set_option maxRecDepth 100000 in
set_option maxHeartbeats 4000000 in
theorem step_put (hl : Lim n N vw qs) (hN : N ≤ 60) (i j x y : Int) (A : Option Addr) (ln c : Nat) (l : List Int) (hb : Rd w0 (.slice A ln c) l) (hln : l.length = ln) (w : World) (hS : St0 w0 w g gq h hq vw qs vw qs) :
    Calls Try.prog 8 #[.pointer (some ⟨g, 0, none⟩), .pointer (some ⟨h, 0, none⟩), .agg #[.int .i64 0, .int .i64 i, .int .i64 j, .int .i64 x, .int .u8 y, .slice A ln c]] w fun e w' => e = .returned (.bool true) ∧ ∃ vw' qs', Lim n (N + 1) vw' qs' ∧ St0 w0 w' g gq h hq vw' qs' vw' qs' := by
  subst hln
  obtain ⟨b, vw', qs', hl', P1, P2⟩ := pair_put (w0 := w0) (g := g) (gq := gq) (h := h) (hq := hq) (bx := w.heap.size) (ob := .cells #[.int .i64 0, .int .i64 i, .int .i64 j, .int .i64 x, .int .u8 y, .slice A l.length c] 35 (0, 0)) hl hN i A c l hb
  have hu := Try.underlying35
  have hbb : (b == b) = true := by simp
  have HS := Aside0.mk (hS.box #[.int .i64 0, .int .i64 i, .int .i64 j, .int .i64 x, .int .u8 y, .slice A l.length c] 35)
  obtain ⟨c0, c1, c2, c3, c4, c5⟩ := HS.out.cells
  have hlt : w.heap.size < (w.alloc (.cells #[.int .i64 0, .int .i64 i, .int .i64 j, .int .i64 x, .int .u8 y, .slice A l.length c] 35)).heap.size := by simp
  have HLT := Aside0.mk hlt
  have HL := Aside0.mk hl'
  have Q1 := Aside0.mk P1
  have Q2 := Aside0.mk P2
  clear P1 P2 hl' hS hl hN hlt hb
  go_enter Try.func8, Try.ntmps8
  go_upto_region 3 with fail
  go_region_held3 (fun w' => w'.cell? ⟨w.heap.size, 0, none⟩ = some (.int .i64 0) ∧ w'.cell? ⟨w.heap.size, 1, none⟩ = some (.int .i64 i) ∧ w'.cell? ⟨w.heap.size, 2, none⟩ = some (.int .i64 j) ∧ w'.cell? ⟨w.heap.size, 3, none⟩ = some (.int .i64 x) ∧ w'.cell? ⟨w.heap.size, 4, none⟩ = some (.int .u8 y) ∧ w'.cell? ⟨w.heap.size, 5, none⟩ = some (.slice A l.length c))
    (first | exact ⟨c0, c1, c2, c3, c4, c5⟩)
    (first
      | (go_at_call 12; refine (Q1.out _ (by exact HS.out.step (by repeat (first | exact Below.refl _ _ | apply pw_below_drewN | apply below_drew1)) HLT.out)).mono ?_; rintro e wa ⟨rfl, ha⟩; clear c0 c1 c2 c3 c4 c5; obtain ⟨c0, c1, c2, c3, c4, c5⟩ := St.cells ha; have HA := Aside0.mk ha; clear ha)
      | (go_at_call 14; refine (Q2.out _ (by exact HA.out.step (by repeat (first | exact Below.refl _ _ | apply pw_below_drewN | apply below_drew1)) HA.out.lt)).mono ?_; rintro e wb ⟨rfl, hb⟩; clear c0 c1 c2 c3 c4 c5; obtain ⟨c0, c1, c2, c3, c4, c5⟩ := St.cells hb; have HB := Aside0.mk hb; clear hb))
  all_goals
    go_wp2
    go_ret
    exact ⟨rfl, vw', qs', HL.out, HB.out.low.step (by repeat (first | exact Below.refl _ _ | apply pw_below_drewN | apply below_drew1))⟩

set_option maxRecDepth 100000 in
set_option maxHeartbeats 4000000 in
theorem step_drop (hl : Lim n N vw qs) (hN : N ≤ 60) (i j x y : Int) (A : Option Addr) (ln c : Nat) (l : List Int) (w : World) (hS : St0 w0 w g gq h hq vw qs vw qs) :
    Calls Try.prog 8 #[.pointer (some ⟨g, 0, none⟩), .pointer (some ⟨h, 0, none⟩), .agg #[.int .i64 2, .int .i64 i, .int .i64 j, .int .i64 x, .int .u8 y, .slice A ln c]] w fun e w' => e = .returned (.bool true) ∧ ∃ vw' qs', Lim n (N + 1) vw' qs' ∧ St0 w0 w' g gq h hq vw' qs' vw' qs' := by
  obtain ⟨b, vw', qs', hl', P1, P2⟩ := pair_drop (w0 := w0) (g := g) (gq := gq) (h := h) (hq := hq) (bx := w.heap.size) (ob := .cells #[.int .i64 2, .int .i64 i, .int .i64 j, .int .i64 x, .int .u8 y, .slice A ln c] 35 (0, 0)) hl hN i j
  have hu := Try.underlying35
  have hbb : (b == b) = true := by simp
  have HS := Aside0.mk (hS.box #[.int .i64 2, .int .i64 i, .int .i64 j, .int .i64 x, .int .u8 y, .slice A ln c] 35)
  obtain ⟨c0, c1, c2, c3, c4, c5⟩ := HS.out.cells
  have hlt : w.heap.size < (w.alloc (.cells #[.int .i64 2, .int .i64 i, .int .i64 j, .int .i64 x, .int .u8 y, .slice A ln c] 35)).heap.size := by simp
  have HLT := Aside0.mk hlt
  have HL := Aside0.mk hl'
  have Q1 := Aside0.mk P1
  have Q2 := Aside0.mk P2
  clear P1 P2 hl' hS hl hN hlt
  go_enter Try.func8, Try.ntmps8
  go_upto_region 9 with fail
  go_region_held3 (fun w' => w'.cell? ⟨w.heap.size, 0, none⟩ = some (.int .i64 2) ∧ w'.cell? ⟨w.heap.size, 1, none⟩ = some (.int .i64 i) ∧ w'.cell? ⟨w.heap.size, 2, none⟩ = some (.int .i64 j) ∧ w'.cell? ⟨w.heap.size, 3, none⟩ = some (.int .i64 x) ∧ w'.cell? ⟨w.heap.size, 4, none⟩ = some (.int .u8 y) ∧ w'.cell? ⟨w.heap.size, 5, none⟩ = some (.slice A ln c))
    (first | exact ⟨c0, c1, c2, c3, c4, c5⟩)
    (first
      | (go_at_call 17; refine (Q1.out _ (by exact HS.out.step (by repeat (first | exact Below.refl _ _ | apply pw_below_drewN | apply below_drew1)) HLT.out)).mono ?_; rintro e wa ⟨rfl, ha⟩; clear c0 c1 c2 c3 c4 c5; obtain ⟨c0, c1, c2, c3, c4, c5⟩ := St.cells ha; have HA := Aside0.mk ha; clear ha)
      | (go_at_call 18; refine (Q2.out _ (by exact HA.out.step (by repeat (first | exact Below.refl _ _ | apply pw_below_drewN | apply below_drew1)) HA.out.lt)).mono ?_; rintro e wb ⟨rfl, hb⟩; clear c0 c1 c2 c3 c4 c5; obtain ⟨c0, c1, c2, c3, c4, c5⟩ := St.cells hb; have HB := Aside0.mk hb; clear hb))
  all_goals
    go_wp2
    go_ret
    exact ⟨rfl, vw', qs', HL.out, HB.out.low.step (by repeat (first | exact Below.refl _ _ | apply pw_below_drewN | apply below_drew1))⟩

set_option maxRecDepth 100000 in
set_option maxHeartbeats 4000000 in
theorem step_again (hl : Lim n N vw qs) (hN : N ≤ 60) (i j x y : Int) (A : Option Addr) (ln c : Nat) (l : List Int) (w : World) (hS : St0 w0 w g gq h hq vw qs vw qs) :
    Calls Try.prog 8 #[.pointer (some ⟨g, 0, none⟩), .pointer (some ⟨h, 0, none⟩), .agg #[.int .i64 3, .int .i64 i, .int .i64 j, .int .i64 x, .int .u8 y, .slice A ln c]] w fun e w' => e = .returned (.bool true) ∧ ∃ vw' qs', Lim n (N + 1) vw' qs' ∧ St0 w0 w' g gq h hq vw' qs' vw' qs' := by
  obtain ⟨b, vw', qs', hl', P1, P2⟩ := pair_again (w0 := w0) (g := g) (gq := gq) (h := h) (hq := hq) (bx := w.heap.size) (ob := .cells #[.int .i64 3, .int .i64 i, .int .i64 j, .int .i64 x, .int .u8 y, .slice A ln c] 35 (0, 0)) hl hN i j
  have hu := Try.underlying35
  have hbb : (b == b) = true := by simp
  have HS := Aside0.mk (hS.box #[.int .i64 3, .int .i64 i, .int .i64 j, .int .i64 x, .int .u8 y, .slice A ln c] 35)
  obtain ⟨c0, c1, c2, c3, c4, c5⟩ := HS.out.cells
  have hlt : w.heap.size < (w.alloc (.cells #[.int .i64 3, .int .i64 i, .int .i64 j, .int .i64 x, .int .u8 y, .slice A ln c] 35)).heap.size := by simp
  have HLT := Aside0.mk hlt
  have HL := Aside0.mk hl'
  have Q1 := Aside0.mk P1
  have Q2 := Aside0.mk P2
  clear P1 P2 hl' hS hl hN hlt
  go_enter Try.func8, Try.ntmps8
  go_upto_region 11 with fail
  go_region_held3 (fun w' => w'.cell? ⟨w.heap.size, 0, none⟩ = some (.int .i64 3) ∧ w'.cell? ⟨w.heap.size, 1, none⟩ = some (.int .i64 i) ∧ w'.cell? ⟨w.heap.size, 2, none⟩ = some (.int .i64 j) ∧ w'.cell? ⟨w.heap.size, 3, none⟩ = some (.int .i64 x) ∧ w'.cell? ⟨w.heap.size, 4, none⟩ = some (.int .u8 y) ∧ w'.cell? ⟨w.heap.size, 5, none⟩ = some (.slice A ln c))
    (first | exact ⟨c0, c1, c2, c3, c4, c5⟩)
    (first
      | (go_at_call 19; refine (Q1.out _ (by exact HS.out.step (by repeat (first | exact Below.refl _ _ | apply pw_below_drewN | apply below_drew1)) HLT.out)).mono ?_; rintro e wa ⟨rfl, ha⟩; clear c0 c1 c2 c3 c4 c5; obtain ⟨c0, c1, c2, c3, c4, c5⟩ := St.cells ha; have HA := Aside0.mk ha; clear ha)
      | (go_at_call 20; refine (Q2.out _ (by exact HA.out.step (by repeat (first | exact Below.refl _ _ | apply pw_below_drewN | apply below_drew1)) HA.out.lt)).mono ?_; rintro e wb ⟨rfl, hb⟩; clear c0 c1 c2 c3 c4 c5; obtain ⟨c0, c1, c2, c3, c4, c5⟩ := St.cells hb; have HB := Aside0.mk hb; clear hb))
  all_goals
    go_wp2
    go_ret
    exact ⟨rfl, vw', qs', HL.out, HB.out.low.step (by repeat (first | exact Below.refl _ _ | apply pw_below_drewN | apply below_drew1))⟩

set_option maxRecDepth 100000 in
set_option maxHeartbeats 4000000 in
theorem step_swap (hl : Lim n N vw qs) (hN : N ≤ 60) (i j x y : Int) (A : Option Addr) (ln c : Nat) (l : List Int) (w : World) (hS : St0 w0 w g gq h hq vw qs vw qs) :
    Calls Try.prog 8 #[.pointer (some ⟨g, 0, none⟩), .pointer (some ⟨h, 0, none⟩), .agg #[.int .i64 4, .int .i64 i, .int .i64 j, .int .i64 x, .int .u8 y, .slice A ln c]] w fun e w' => e = .returned (.bool true) ∧ ∃ vw' qs', Lim n (N + 1) vw' qs' ∧ St0 w0 w' g gq h hq vw' qs' vw' qs' := by
  obtain ⟨b, vw', qs', hl', P1, P2⟩ := pair_swap (w0 := w0) (g := g) (gq := gq) (h := h) (hq := hq) (bx := w.heap.size) (ob := .cells #[.int .i64 4, .int .i64 i, .int .i64 j, .int .i64 x, .int .u8 y, .slice A ln c] 35 (0, 0)) hl hN i j x
  have hu := Try.underlying35
  have hbb : (b == b) = true := by simp
  have HS := Aside0.mk (hS.box #[.int .i64 4, .int .i64 i, .int .i64 j, .int .i64 x, .int .u8 y, .slice A ln c] 35)
  obtain ⟨c0, c1, c2, c3, c4, c5⟩ := HS.out.cells
  have hlt : w.heap.size < (w.alloc (.cells #[.int .i64 4, .int .i64 i, .int .i64 j, .int .i64 x, .int .u8 y, .slice A ln c] 35)).heap.size := by simp
  have HLT := Aside0.mk hlt
  have HL := Aside0.mk hl'
  have Q1 := Aside0.mk P1
  have Q2 := Aside0.mk P2
  clear P1 P2 hl' hS hl hN hlt
  go_enter Try.func8, Try.ntmps8
  go_upto_region 13 with fail
  go_region_held3 (fun w' => w'.cell? ⟨w.heap.size, 0, none⟩ = some (.int .i64 4) ∧ w'.cell? ⟨w.heap.size, 1, none⟩ = some (.int .i64 i) ∧ w'.cell? ⟨w.heap.size, 2, none⟩ = some (.int .i64 j) ∧ w'.cell? ⟨w.heap.size, 3, none⟩ = some (.int .i64 x) ∧ w'.cell? ⟨w.heap.size, 4, none⟩ = some (.int .u8 y) ∧ w'.cell? ⟨w.heap.size, 5, none⟩ = some (.slice A ln c))
    (first | exact ⟨c0, c1, c2, c3, c4, c5⟩)
    (first
      | (go_at_call 21; refine (Q1.out _ (by exact HS.out.step (by repeat (first | exact Below.refl _ _ | apply pw_below_drewN | apply below_drew1)) HLT.out)).mono ?_; rintro e wa ⟨rfl, ha⟩; clear c0 c1 c2 c3 c4 c5; obtain ⟨c0, c1, c2, c3, c4, c5⟩ := St.cells ha; have HA := Aside0.mk ha; clear ha)
      | (go_at_call 22; refine (Q2.out _ (by exact HA.out.step (by repeat (first | exact Below.refl _ _ | apply pw_below_drewN | apply below_drew1)) HA.out.lt)).mono ?_; rintro e wb ⟨rfl, hb⟩; clear c0 c1 c2 c3 c4 c5; obtain ⟨c0, c1, c2, c3, c4, c5⟩ := St.cells hb; have HB := Aside0.mk hb; clear hb))
  all_goals
    go_wp2
    go_ret
    exact ⟨rfl, vw', qs', HL.out, HB.out.low.step (by repeat (first | exact Below.refl _ _ | apply pw_below_drewN | apply below_drew1))⟩

set_option maxRecDepth 100000 in
set_option maxHeartbeats 4000000 in
theorem step_turn (hl : Lim n N vw qs) (hN : N ≤ 60) (i j x y : Int) (A : Option Addr) (ln c : Nat) (l : List Int) (w : World) (hS : St0 w0 w g gq h hq vw qs vw qs) :
    Calls Try.prog 8 #[.pointer (some ⟨g, 0, none⟩), .pointer (some ⟨h, 0, none⟩), .agg #[.int .i64 5, .int .i64 i, .int .i64 j, .int .i64 x, .int .u8 y, .slice A ln c]] w fun e w' => e = .returned (.bool true) ∧ ∃ vw' qs', Lim n (N + 1) vw' qs' ∧ St0 w0 w' g gq h hq vw' qs' vw' qs' := by
  obtain ⟨b, vw', qs', hl', P1, P2⟩ := pair_turn (w0 := w0) (g := g) (gq := gq) (h := h) (hq := hq) (bx := w.heap.size) (ob := .cells #[.int .i64 5, .int .i64 i, .int .i64 j, .int .i64 x, .int .u8 y, .slice A ln c] 35 (0, 0)) hl hN i j x y
  have hu := Try.underlying35
  have hbb : (b == b) = true := by simp
  have HS := Aside0.mk (hS.box #[.int .i64 5, .int .i64 i, .int .i64 j, .int .i64 x, .int .u8 y, .slice A ln c] 35)
  obtain ⟨c0, c1, c2, c3, c4, c5⟩ := HS.out.cells
  have hlt : w.heap.size < (w.alloc (.cells #[.int .i64 5, .int .i64 i, .int .i64 j, .int .i64 x, .int .u8 y, .slice A ln c] 35)).heap.size := by simp
  have HLT := Aside0.mk hlt
  have HL := Aside0.mk hl'
  have Q1 := Aside0.mk P1
  have Q2 := Aside0.mk P2
  clear P1 P2 hl' hS hl hN hlt
  go_enter Try.func8, Try.ntmps8
  go_upto_region 15 with fail
  go_region_held3 (fun w' => w'.cell? ⟨w.heap.size, 0, none⟩ = some (.int .i64 5) ∧ w'.cell? ⟨w.heap.size, 1, none⟩ = some (.int .i64 i) ∧ w'.cell? ⟨w.heap.size, 2, none⟩ = some (.int .i64 j) ∧ w'.cell? ⟨w.heap.size, 3, none⟩ = some (.int .i64 x) ∧ w'.cell? ⟨w.heap.size, 4, none⟩ = some (.int .u8 y) ∧ w'.cell? ⟨w.heap.size, 5, none⟩ = some (.slice A ln c))
    (first | exact ⟨c0, c1, c2, c3, c4, c5⟩)
    (first
      | (go_at_call 23; refine (Q1.out _ (by exact HS.out.step (by repeat (first | exact Below.refl _ _ | apply pw_below_drewN | apply below_drew1)) HLT.out)).mono ?_; rintro e wa ⟨rfl, ha⟩; clear c0 c1 c2 c3 c4 c5; obtain ⟨c0, c1, c2, c3, c4, c5⟩ := St.cells ha; have HA := Aside0.mk ha; clear ha)
      | (go_at_call 24; refine (Q2.out _ (by exact HA.out.step (by repeat (first | exact Below.refl _ _ | apply pw_below_drewN | apply below_drew1)) HA.out.lt)).mono ?_; rintro e wb ⟨rfl, hb⟩; clear c0 c1 c2 c3 c4 c5; obtain ⟨c0, c1, c2, c3, c4, c5⟩ := St.cells hb; have HB := Aside0.mk hb; clear hb))
  all_goals
    go_wp2
    go_ret
    exact ⟨rfl, vw', qs', HL.out, HB.out.low.step (by repeat (first | exact Below.refl _ _ | apply pw_below_drewN | apply below_drew1))⟩

set_option maxRecDepth 100000 in
set_option maxHeartbeats 4000000 in
theorem step_forge (hl : Lim n N vw qs) (hN : N ≤ 60) (i j x y : Int) (A : Option Addr) (ln c : Nat) (l : List Int) (hb : Rd w0 (.slice A ln c) l) (hln : l.length = ln) (w : World) (hS : St0 w0 w g gq h hq vw qs vw qs) :
    Calls Try.prog 8 #[.pointer (some ⟨g, 0, none⟩), .pointer (some ⟨h, 0, none⟩), .agg #[.int .i64 6, .int .i64 i, .int .i64 j, .int .i64 x, .int .u8 y, .slice A ln c]] w fun e w' => e = .returned (.bool true) ∧ ∃ vw' qs', Lim n (N + 1) vw' qs' ∧ St0 w0 w' g gq h hq vw' qs' vw' qs' := by
  subst hln
  obtain ⟨b, vw', qs', hl', P1, P2⟩ := pair_forge (w0 := w0) (g := g) (gq := gq) (h := h) (hq := hq) (bx := w.heap.size) (ob := .cells #[.int .i64 6, .int .i64 i, .int .i64 j, .int .i64 x, .int .u8 y, .slice A l.length c] 35 (0, 0)) hl hN i A c l hb
  have hu := Try.underlying35
  have hbb : (b == b) = true := by simp
  have HS := Aside0.mk (hS.box #[.int .i64 6, .int .i64 i, .int .i64 j, .int .i64 x, .int .u8 y, .slice A l.length c] 35)
  obtain ⟨c0, c1, c2, c3, c4, c5⟩ := HS.out.cells
  have hlt : w.heap.size < (w.alloc (.cells #[.int .i64 6, .int .i64 i, .int .i64 j, .int .i64 x, .int .u8 y, .slice A l.length c] 35)).heap.size := by simp
  have HLT := Aside0.mk hlt
  have HL := Aside0.mk hl'
  have Q1 := Aside0.mk P1
  have Q2 := Aside0.mk P2
  clear P1 P2 hl' hS hl hN hlt hb
  go_enter Try.func8, Try.ntmps8
  go_upto_region 17 with fail
  go_region_held3 (fun w' => w'.cell? ⟨w.heap.size, 0, none⟩ = some (.int .i64 6) ∧ w'.cell? ⟨w.heap.size, 1, none⟩ = some (.int .i64 i) ∧ w'.cell? ⟨w.heap.size, 2, none⟩ = some (.int .i64 j) ∧ w'.cell? ⟨w.heap.size, 3, none⟩ = some (.int .i64 x) ∧ w'.cell? ⟨w.heap.size, 4, none⟩ = some (.int .u8 y) ∧ w'.cell? ⟨w.heap.size, 5, none⟩ = some (.slice A l.length c))
    (first | exact ⟨c0, c1, c2, c3, c4, c5⟩)
    (first
      | (go_at_call 25; refine (Q1.out _ (by exact HS.out.step (by repeat (first | exact Below.refl _ _ | apply pw_below_drewN | apply below_drew1)) HLT.out)).mono ?_; rintro e wa ⟨rfl, ha⟩; clear c0 c1 c2 c3 c4 c5; obtain ⟨c0, c1, c2, c3, c4, c5⟩ := St.cells ha; have HA := Aside0.mk ha; clear ha)
      | (go_at_call 26; refine (Q2.out _ (by exact HA.out.step (by repeat (first | exact Below.refl _ _ | apply pw_below_drewN | apply below_drew1)) HA.out.lt)).mono ?_; rintro e wb ⟨rfl, hb⟩; clear c0 c1 c2 c3 c4 c5; obtain ⟨c0, c1, c2, c3, c4, c5⟩ := St.cells hb; have HB := Aside0.mk hb; clear hb))
  all_goals
    go_wp2
    go_ret
    exact ⟨rfl, vw', qs', HL.out, HB.out.low.step (by repeat (first | exact Below.refl _ _ | apply pw_below_drewN | apply below_drew1))⟩

set_option maxRecDepth 100000 in
set_option maxHeartbeats 4000000 in
theorem step_rewind (hl : Lim n N vw qs) (hN : N ≤ 60) (i j x y : Int) (A : Option Addr) (ln c : Nat) (l : List Int) (w : World) (hS : St0 w0 w g gq h hq vw qs vw qs) :
    Calls Try.prog 8 #[.pointer (some ⟨g, 0, none⟩), .pointer (some ⟨h, 0, none⟩), .agg #[.int .i64 7, .int .i64 i, .int .i64 j, .int .i64 x, .int .u8 y, .slice A ln c]] w fun e w' => e = .returned (.bool true) ∧ ∃ vw' qs', Lim n (N + 1) vw' qs' ∧ St0 w0 w' g gq h hq vw' qs' vw' qs' := by
  obtain ⟨b, vw', qs', hl', P1, P2⟩ := pair_rewind (w0 := w0) (g := g) (gq := gq) (h := h) (hq := hq) (bx := w.heap.size) (ob := .cells #[.int .i64 7, .int .i64 i, .int .i64 j, .int .i64 x, .int .u8 y, .slice A ln c] 35 (0, 0)) hl hN i
  have hu := Try.underlying35
  have hbb : (b == b) = true := by simp
  have HS := Aside0.mk (hS.box #[.int .i64 7, .int .i64 i, .int .i64 j, .int .i64 x, .int .u8 y, .slice A ln c] 35)
  obtain ⟨c0, c1, c2, c3, c4, c5⟩ := HS.out.cells
  have hlt : w.heap.size < (w.alloc (.cells #[.int .i64 7, .int .i64 i, .int .i64 j, .int .i64 x, .int .u8 y, .slice A ln c] 35)).heap.size := by simp
  have HLT := Aside0.mk hlt
  have HL := Aside0.mk hl'
  have Q1 := Aside0.mk P1
  have Q2 := Aside0.mk P2
  clear P1 P2 hl' hS hl hN hlt
  go_enter Try.func8, Try.ntmps8
  go_upto_region 19 with fail
  go_region_held3 (fun w' => w'.cell? ⟨w.heap.size, 0, none⟩ = some (.int .i64 7) ∧ w'.cell? ⟨w.heap.size, 1, none⟩ = some (.int .i64 i) ∧ w'.cell? ⟨w.heap.size, 2, none⟩ = some (.int .i64 j) ∧ w'.cell? ⟨w.heap.size, 3, none⟩ = some (.int .i64 x) ∧ w'.cell? ⟨w.heap.size, 4, none⟩ = some (.int .u8 y) ∧ w'.cell? ⟨w.heap.size, 5, none⟩ = some (.slice A ln c))
    (first | exact ⟨c0, c1, c2, c3, c4, c5⟩)
    (first
      | (go_at_call 27; refine (Q1.out _ (by exact HS.out.step (by repeat (first | exact Below.refl _ _ | apply pw_below_drewN | apply below_drew1)) HLT.out)).mono ?_; rintro e wa ⟨rfl, ha⟩; clear c0 c1 c2 c3 c4 c5; obtain ⟨c0, c1, c2, c3, c4, c5⟩ := St.cells ha; have HA := Aside0.mk ha; clear ha)
      | (go_at_call 28; refine (Q2.out _ (by exact HA.out.step (by repeat (first | exact Below.refl _ _ | apply pw_below_drewN | apply below_drew1)) HA.out.lt)).mono ?_; rintro e wb ⟨rfl, hb⟩; clear c0 c1 c2 c3 c4 c5; obtain ⟨c0, c1, c2, c3, c4, c5⟩ := St.cells hb; have HB := Aside0.mk hb; clear hb))
  all_goals
    go_wp2
    go_ret
    exact ⟨rfl, vw', qs', HL.out, HB.out.low.step (by repeat (first | exact Below.refl _ _ | apply pw_below_drewN | apply below_drew1))⟩
end
end Go.Proofs.Yteeddalalfemmaa.K

namespace Go.Proofs.Yteeddalalfemmaa.K
open Go.RowKit Go.Proofs.YteeddalalfemmaaW.PrintWords Go.Proofs.YteeddalalfemmaaW.PrintLast Go.Proofs.YteeddalalfemmaaW.PrintMore
set_option linter.unusedVariables false
set_option linter.unusedSimpArgs false

section
variable {w0 : World} {g gq h hq bx : Nat} {vw vw2 : List It} {qs qs2 : List (List It)} {n N : Nat}
theorem same_self (v0 v1 : Value) (l : List Int) (w : World) (h0 : Rd w v0 l) (h1 : Rd w v1 l) : Calls Try.prog 16 #[v0, v1] w fun e w' => e = .returned (.bool true) ∧ Drawn0 w w' :=
  (same_calls v0 v1 l l w h0 h1).mono fun e w' ⟨he, hd⟩ => ⟨by rw [he, decide_eq_true rfl], hd⟩
set_option maxRecDepth 100000 in
set_option maxHeartbeats 4000000 in
theorem step_next_ok (hn8 : qs.length ≤ 8) (m : Nat) (z : It) (xs : List It) (hm : m < qs.length) (hxs : qs[m] = z :: xs) (hq9 : (z :: xs).length ≤ 90000) (j x y : Int) (A : Option Addr) (ln c : Nat) (w : World) (hS : St0 w0 w g gq h hq vw qs vw qs) :
    Calls Try.prog 8 #[.pointer (some ⟨g, 0, none⟩), .pointer (some ⟨h, 0, none⟩), .agg #[.int .i64 1, .int .i64 m, .int .i64 j, .int .i64 x, .int .u8 y, .slice A ln c]] w fun e w' => e = .returned (.bool true) ∧ St0 w0 w' g gq h hq vw (qs.set m xs) vw (qs.set m xs) := by
  have hu := Try.underlying35
  have HS := Aside0.mk (hS.box #[.int .i64 1, .int .i64 m, .int .i64 j, .int .i64 x, .int .u8 y, .slice A ln c] 35)
  obtain ⟨c0, c1, c2, c3, c4, c5⟩ := HS.out.cells
  have HN8 := Aside0.mk hn8
  have HM := Aside0.mk hm
  have HXS := Aside0.mk hxs
  have HQ9 := Aside0.mk hq9
  clear hS hn8 hxs hq9
  go_enter Try.func8, Try.ntmps8
  go_wp2_with (first
    | (go_at_call 13; go_must (refine (next_one HN8.out m z xs HM.out HXS.out HQ9.out _ (by exact HS.out)).mono ?_; rintro e wa ⟨va, rfl, hva, ha⟩; obtain ⟨Aa, ca, rfl, _, _⟩ := Kd.R_reads hva; clear c0 c1 c2 c3 c4 c5; obtain ⟨c0, c1, c2, c3, c4, c5⟩ := St.cells ha; have HA := Aside0.mk ha; have HVA := Aside0.mk hva; clear ha hva))
    | (go_at_call 15; go_must (refine (next_two HN8.out m z xs HM.out HXS.out _ _ (by exact HA.out) (by exact HVA.out)).mono ?_; rintro e wb ⟨vb, rfl, hvb, hva2, hb⟩; have HVB := Aside0.mk hvb; obtain ⟨Ab, cb, rfl, _, _⟩ := hvb; clear c0 c1 c2 c3 c4 c5; have HB := Aside0.mk hb; have HVA2 := Aside0.mk hva2; clear hb hva2))
    | (go_at_call 16; go_must (refine (same_self _ _ z.f0 _ (by exact HVA2.out) (by exact HVB.out)).mono ?_; rintro e wc ⟨rfl, hd⟩; have HD := Aside0.mk (Drawn0.low hd); clear hd)))
  go_ret
  exact ⟨rfl, HB.out.low.step (by repeat (first | exact HD.out | exact Below.refl _ _ | apply pw_below_drewN | apply below_drew1))⟩

set_option maxRecDepth 100000 in
set_option maxHeartbeats 4000000 in
theorem step_next_no (hl : Lim n N vw qs) (i j x y : Int) (hh : ¬ hasQ qs i 0) (A : Option Addr) (ln c : Nat) (w : World) (hS : St0 w0 w g gq h hq vw qs vw qs) :
    Calls Try.prog 8 #[.pointer (some ⟨g, 0, none⟩), .pointer (some ⟨h, 0, none⟩), .agg #[.int .i64 1, .int .i64 i, .int .i64 j, .int .i64 x, .int .u8 y, .slice A ln c]] w fun e w' => e = .returned (.bool true) ∧ St0 w0 w' g gq h hq vw qs vw qs := by
  have hu := Try.underlying35
  have HS := Aside0.mk (hS.box #[.int .i64 1, .int .i64 i, .int .i64 j, .int .i64 x, .int .u8 y, .slice A ln c] 35)
  obtain ⟨P1, P2⟩ := next_none (w0 := w0) (g := g) (gq := gq) (h := h) (hq := hq) (bx := w.heap.size) (ob := .cells #[.int .i64 1, .int .i64 i, .int .i64 j, .int .i64 x, .int .u8 y, .slice A ln c] 35 (0, 0)) hl i hh
  obtain ⟨c0, c1, c2, c3, c4, c5⟩ := HS.out.cells
  have Q1 := Aside0.mk P1
  have Q2 := Aside0.mk P2
  clear hS hl hh P1 P2
  go_enter Try.func8, Try.ntmps8
  go_wp2_with (first
    | (go_at_call 13; go_must (refine (Q1.out _ (by exact HS.out)).mono ?_; rintro e wa ⟨rfl, ha⟩; clear c0 c1 c2 c3 c4 c5; obtain ⟨c0, c1, c2, c3, c4, c5⟩ := St.cells ha; have HA := Aside0.mk ha; clear ha))
    | (go_at_call 15; go_must (refine (Q2.out _ (by exact HA.out)).mono ?_; rintro e wb ⟨rfl, hb⟩; clear c0 c1 c2 c3 c4 c5; have HB := Aside0.mk hb; clear hb))
    | (go_at_call 16; go_must (refine (same_self _ _ [] _ (Rd.nil _) (Rd.nil _)).mono ?_; rintro e wc ⟨rfl, hd⟩; have HD := Aside0.mk (Drawn0.low hd); clear hd)))
  go_ret
  exact ⟨rfl, HB.out.low.step (by repeat (first | exact HD.out | exact Below.refl _ _ | apply pw_below_drewN | apply below_drew1))⟩

set_option maxRecDepth 100000 in
set_option maxHeartbeats 4000000 in
theorem step_else (k i j x y : Int) (hk : k < 0 ∨ 7 < k) (A : Option Addr) (ln c : Nat) (w : World) (hS : St0 w0 w g gq h hq vw qs vw qs) :
    Calls Try.prog 8 #[.pointer (some ⟨g, 0, none⟩), .pointer (some ⟨h, 0, none⟩), .agg #[.int .i64 k, .int .i64 i, .int .i64 j, .int .i64 x, .int .u8 y, .slice A ln c]] w fun e w' => e = .returned (.bool true) ∧ St0 w0 w' g gq h hq vw qs vw qs := by
  have hu := Try.underlying35
  have HS := Aside0.mk (hS.box #[.int .i64 k, .int .i64 i, .int .i64 j, .int .i64 x, .int .u8 y, .slice A ln c] 35)
  obtain ⟨c0, c1, c2, c3, c4, c5⟩ := HS.out.cells
  have b0 : (k == 0) = false := by simp; omega
  have b1 : (k == 1) = false := by simp; omega
  have b2 : (k == 2) = false := by simp; omega
  have b3 : (k == 3) = false := by simp; omega
  have b4 : (k == 4) = false := by simp; omega
  have b5 : (k == 5) = false := by simp; omega
  have b6 : (k == 6) = false := by simp; omega
  have b7 : (k == 7) = false := by simp; omega
  have n0 : ¬ k = 0 := by omega
  have n1 : ¬ k = 1 := by omega
  have n2 : ¬ k = 2 := by omega
  have n3 : ¬ k = 3 := by omega
  have n4 : ¬ k = 4 := by omega
  have n5 : ¬ k = 5 := by omega
  have n6 : ¬ k = 6 := by omega
  have n7 : ¬ k = 7 := by omega
  clear hS hk
  go_enter Try.func8, Try.ntmps8
  go_wp2
  go_ret
  exact ⟨rfl, HS.out.low.step (by repeat (first | exact Below.refl _ _ | apply pw_below_drewN | apply below_drew1))⟩

/-- A step of both. -/
theorem step_calls (hl : Lim n N vw qs) (hN : N ≤ 60) (k i j x y : Int) (A : Option Addr) (c : Nat) (l : List Int) (hb : Rd w0 (.slice A l.length c) l) (w : World) (hS : St0 w0 w g gq h hq vw qs vw qs) :
    Calls Try.prog 8 #[.pointer (some ⟨g, 0, none⟩), .pointer (some ⟨h, 0, none⟩), .agg #[.int .i64 k, .int .i64 i, .int .i64 j, .int .i64 x, .int .u8 y, .slice A l.length c]] w fun e w' => e = .returned (.bool true) ∧ ∃ vw' qs', Lim n (N + 1) vw' qs' ∧ St0 w0 w' g gq h hq vw' qs' vw' qs' := by
  by_cases hk : k < 0 ∨ 7 < k
  · exact (step_else k i j x y hk A _ c w hS).mono fun e w' ⟨he, h2⟩ => ⟨he, vw, qs, hl.more, h2⟩
  · have hc : k = 0 ∨ k = 1 ∨ k = 2 ∨ k = 3 ∨ k = 4 ∨ k = 5 ∨ k = 6 ∨ k = 7 := by omega
    rcases hc with rfl | rfl | rfl | rfl | rfl | rfl | rfl | rfl
    · exact step_put hl hN i j x y A _ c l hb rfl w hS
    · by_cases hh : hasQ qs i 0
      · obtain ⟨m, k, hm, rfl, hk0, hk⟩ := has_nat hh
        have hq1 := hl.q _ (List.getElem_mem hm)
        match hxs : qs[m], hq1 with
        | [], _ => rw [hxs] at hk; simp at hk
        | z :: xs, hq1 =>
          have hn8 : qs.length ≤ 8 := by have := hl.len; have := hl.n8; omega
          exact (step_next_ok hn8 m z xs hm hxs (by omega) j x y A _ c w hS).mono fun e w' ⟨he, h2⟩ => ⟨he, vw, qs.set m xs, hl.set (by omega) m xs (by simp at hq1; omega) (fun u hu => hl.xq _ (List.getElem_mem hm) u (by rw [hxs]; exact List.mem_cons_of_mem _ hu)), h2⟩
      · exact (step_next_no hl i j x y hh A _ c w hS).mono fun e w' ⟨he, h2⟩ => ⟨he, vw, qs, hl.more, h2⟩
    · exact step_drop hl hN i j x y A _ c l w hS
    · exact step_again hl hN i j x y A _ c l w hS
    · exact step_swap hl hN i j x y A _ c l w hS
    · exact step_turn hl hN i j x y A _ c l w hS
    · exact step_forge hl hN i j x y A _ c l hb rfl w hS
    · exact step_rewind hl hN i j x y A _ c l w hS
end
end Go.Proofs.Yteeddalalfemmaa.K

namespace Go.Proofs.Yteeddalalfemmaa.K
open Go.RowKit Go.Proofs.YteeddalalfemmaaW.PrintWords Go.Proofs.YteeddalalfemmaaW.PrintLast Go.Proofs.YteeddalalfemmaaW.PrintMore
set_option linter.unusedVariables false
set_option linter.unusedSimpArgs false

abbrev OpL := Z.S35
abbrev OK' := Z.k35
set_option maxHeartbeats 2000000 in
theorem rnew_no (n : Int) (w : World) (h : n < 1 ∨ 8 < n) :
    Calls Try.prog 6 #[.int .i64 n] w fun e w' => e = .returned (.tuple #[.pointer none, .int .i64 1]) ∧ Below w.heap.size w w' := by
  by_cases h0 : n < 1
  · clear h
    go_enter Try.func6, Try.ntmps6
    go_wp2
    exact bodyPost_ret (v := .tuple #[.pointer none, .int .i64 1]) (by simp [results, Try.results6, go_sem]) rfl ⟨rfl, by first | exact Below.refl _ _ | exact pw_below_drewN (Below.refl _ _) _⟩
  · have h1 : 8 < n := by omega
    have hd0 : decide (n < 1) = false := decide_eq_false h0
    clear h
    go_enter Try.func6, Try.ntmps6
    go_wp2
    exact bodyPost_ret (v := .tuple #[.pointer none, .int .i64 1]) (by simp [results, Try.results6, go_sem]) rfl ⟨rfl, by first | exact Below.refl _ _ | exact pw_below_drewN (Below.refl _ _) _⟩
/-- Whether the script is light: an answer there is; and if it is, it is short. -/
theorem light_l0 (x : List OpL) (hx : x.length ≤ 60) : ∀ (d k : Nat) (i : Int), 0 ≤ i → i ≤ x.length → (x.length : Int) - i ≤ d → d < k → ∃ r, Z.cachettelaw22_light.l0 k x i = some r := by
  intro d
  induction d with
  | zero =>
    intro k i h0 h1 h2 hk
    obtain ⟨k, rfl⟩ : ∃ k', k = k' + 1 := ⟨k - 1, by omega⟩
    rw [Z.cachettelaw22_light.l0, if_neg (by omega)]
    exact ⟨_, rfl⟩
  | succ d ih =>
    intro k i h0 h1 h2 hk
    obtain ⟨k, rfl⟩ : ∃ k', k = k' + 1 := ⟨k - 1, by omega⟩
    rw [Z.cachettelaw22_light.l0]
    by_cases hi : i < x.length
    · have hw : wrap64 (i + 1) = i + 1 := by unfold wrap64; omega
      obtain ⟨r, hr⟩ := ih k (i + 1) (by omega) (by omega) (by omega) (by omega)
      rw [if_pos hi, if_pos h0, hw, hr]
      split
      · split
        · exact ⟨_, rfl⟩
        · split
          · exact ⟨_, rfl⟩
          · exact ⟨_, rfl⟩
      · split
        · exact ⟨_, rfl⟩
        · exact ⟨_, rfl⟩
    · rw [if_neg hi]
      exact ⟨_, rfl⟩
theorem light_calls (A : Option Addr) (c : Nat) (x : List OpL) : ∃ r, (r = true → x.length ≤ 60) ∧ ∀ w, Kd.C OK' w A x.length x → x.length ≤ c →
    Calls Try.prog 4 #[.slice A x.length c] w fun e w' => e = .returned (.bool r) ∧ Drawn0 w w' := by
  by_cases h : x.length ≤ 60
  · obtain ⟨r, hr⟩ := light_l0 x h x.length (x.length + 1) 0 (by omega) (by omega) (by omega) (by omega)
    exact ⟨r, fun _ => h, fun w h1 h2 => Z.cachettelaw22_light.calls (x.length + 1) A c x r w h1 h2 (by rw [Z.cachettelaw22_light.f, if_neg (by omega)]; exact hr)⟩
  · exact ⟨false, (fun e => by cases e), fun w h1 h2 => Z.cachettelaw22_light.calls 0 A c x false w h1 h2 (by rw [Z.cachettelaw22_light.f, if_pos (by omega)])⟩

section
variable {w0 : World} {g gq h hq : Nat} {vw : List It} {qs : List (List It)} {n N : Nat}
/-- The view of cachetteref22's. -/
theorem mview_C {W : World} {b0 : Nat} {col : Nat → Nat} (hM : Mel W b0 h hq col vw qs) : ∃ A c, W.cell? ⟨h, 1, none⟩ = some (.slice A vw.length c) ∧ vw.length ≤ c ∧ Kd.C BK W A vw.length (vw.map (·.f0)) := by
  obtain ⟨vv, pv, h1, h2, hpv, hgv⟩ := hM.blk
  have hl : pv.length = vw.length := by rw [← hpv]; simp
  obtain ⟨A, c, rfl, hc⟩ := h2.shape
  have c1 : W.cell? ⟨h, 1, none⟩ = some (.slice A pv.length c) := (blk_cell h1 1).trans rfl
  rw [hl] at c1 hc h2
  refine ⟨A, c, c1, hc, ?_⟩
  by_cases h0 : vw.length = 0
  · exact ⟨by simp, by rw [h0]; exact Nat.zero_le _, fun hp => absurd hp (by omega)⟩
  · obtain ⟨b, off, cap, hv, hcap, hok, hat, hsp⟩ := h2.at (by omega)
    injection hv with e1 e2 e3
    subst e1 e3
    have hcm : c ≤ maxLen := by
      rcases h2 with ⟨h, _⟩ | ⟨b', off', cap', hv, g2, g3, g4, _⟩
      · omega
      · injection hv with e1 e2 e3
        rw [e3]
        exact g4
    refine ⟨by simp, Nat.le_trans hc hcm, fun hp => ⟨_, rfl, fun j q hj => ?_⟩⟩
    have hjl : j < vw.length := by
      have := (List.getElem?_eq_some_iff.1 hj).1
      simpa using this
    have hjp : j < pv.length := by omega
    have hp := List.getElem?_eq_getElem hjp
    have hq2 : (pv[j]).2.f0 = q := by
      rw [← hpv, List.map_map, List.getElem?_map, hp] at hj
      simpa using hj
    have hb := hgv _ (List.getElem_mem hjp)
    rw [hq2] at hb
    obtain ⟨A2, c2, e2, hc2, hC2⟩ := Kd.R_reads hb
    refine ⟨[.slice A2 q.length c2], rfl, ⟨A2, c2, rfl, hc2, hC2⟩, fun i u hu => ?_⟩
    match i, hu with
    | 0, hu =>
      simp at hu
      subst hu
      have := hat j (by omega)
      rw [List.getElem?_map, hp] at this
      simp at this
      rw [e2] at this
      rw [show BK.sz = 1 from rfl]
      simp only [Nat.mul_one, Nat.add_zero] at this ⊢
      by_cases hj0 : j = 0
      · subst hj0
        simpa [Addr.add] using this
      · simpa [Addr.add, hj0] using this
theorem St0.view {W : World} (hS : St0 w0 W g gq h hq vw qs vw qs) : ∃ A c, W.cell? ⟨h, 1, none⟩ = some (.slice A vw.length c) ∧ vw.length ≤ c ∧ Kd.C BK W A vw.length (vw.map (·.f0)) := by
  obtain ⟨⟨col, h1, h2, h3, h4⟩, h5⟩ := hS
  exact mview_C h2
theorem St0.lt {W : World} (hS : St0 w0 W g gq h hq vw qs vw qs) : h < W.heap.size ∧ hq < W.heap.size ∧ w0.heap.size ≤ h := by
  obtain ⟨⟨col, h1, h2, h3, h4⟩, h5⟩ := hS
  exact ⟨h2.ge.2.2.1, h2.ge.2.2.2.1, h2.ge.1⟩
/-- A queue of cachetteref22's, as the law looks at it. -/
theorem St0.queue {W : World} (hS : St0 w0 W g gq h hq vw qs vw qs) (m : Nat) (hm : m < qs.length) : ∃ A c, W.cell? ⟨h, 0, none⟩ = some (.slice (some ⟨hq, 0, none⟩) qs.length qs.length) ∧ W.cell? ⟨hq, m, none⟩ = some (.slice A qs[m].length c) := by
  obtain ⟨⟨col, h1, h2, h3, h4⟩, h5⟩ := hS
  obtain ⟨vv, pv, b1, _⟩ := h2.blk
  obtain ⟨cs, v, ps, q3, q4, e, r, e2, gg⟩ := h2.queue m hm _ rfl
  obtain ⟨A, c, rfl, hc⟩ := r.shape
  have hl : ps.length = qs[m].length := by rw [← e2]; simp
  rw [hl] at e
  exact ⟨A, c, (blk_cell b1 0).trans rfl, (blk_cell q3 m).trans e⟩
theorem St0.waits {W : World} (hS : St0 w0 W g gq h hq vw qs vw qs) (m : Nat) (hm : m < qs.length) :
    Calls Try.prog 11 #[.pointer (some ⟨g, 0, none⟩), .int .i64 m] W fun e w' => e = .returned (.int .i64 qs[m].length) ∧ Drawn0 W w' := by
  obtain ⟨⟨col, h1, h2, h3, h4⟩, h5⟩ := hS
  exact waits_in g gq m col _ vw qs W h1 hm
theorem St0.sees {W : World} (hS : St0 w0 W g gq h hq vw qs vw qs) (hl : Lim n N vw qs) (hN : N ≤ 61) :
    Calls Try.prog 10 #[.pointer (some ⟨g, 0, none⟩)] W fun e w' => ∃ A c, e = .returned (.slice A vw.length c) ∧ vw.length ≤ c ∧ Kd.C BK w' A vw.length (vw.map (·.f0)) ∧ Below W.heap.size W w' := by
  obtain ⟨⟨col, h1, h2, h3, h4⟩, h5⟩ := hS
  refine (rview_calls g gq col vw qs _ W h1 (by have := hl.v; omega) (fun x hx => by have := hl.xv x hx; omega)).mono ?_
  rintro e w' ⟨v, rfl, hv, hb⟩
  obtain ⟨A, c, rfl, hc, hC⟩ := Kd.R_reads hv
  rw [List.length_map] at hc hC
  exact ⟨A, c, by rw [List.length_map], hc, hC, hb⟩
/-- Both are made. -/
theorem news {w1 w2 : World} {n : Nat} (hR : Rel w1 w0.heap.size g gq (fun _ => 0) [] (List.replicate n [])) (h1 : Below w0.heap.size w0 w1) (hM : Mel w2 w0.heap.size h hq (fun k => if k < w1.heap.size then (fun _ => 0) k else 99) [] (List.replicate n [])) (h2 : Below w1.heap.size w1 w2) : St0 w0 w2 g gq h hq [] (List.replicate n []) [] (List.replicate n []) := by
  have hlt := hR.lt
  refine ⟨⟨_, (hR.recol 99).below h2, hM, ?_, ?_⟩, below_step h1 h2⟩
  · show (if g < w1.heap.size then 0 else 99) < 9
    rw [if_pos hlt.1]
    omega
  · show (if gq < w1.heap.size then 0 else 99) < 9
    rw [if_pos hlt.2]
    omega
end
theorem lists_view (A0 A1 : Option Addr) (c0 c1 : Nat) (vw : List It) (w : World) (h0 : Kd.C BK w A0 vw.length (vw.map (·.f0))) (g0 : vw.length ≤ c0) (h1 : Kd.C BK w A1 vw.length (vw.map (·.f0))) (g1 : vw.length ≤ c1) (hl : vw.length ≤ 100000) (hx : ∀ x ∈ vw, x.f0.length ≤ 4000) :
    Calls Try.prog 9 #[.slice A0 vw.length c0, .slice A1 vw.length c1] w fun e w' => e = .returned (.bool true) ∧ Drawn0 w w' := by
  have := lists_same A0 A1 c0 c1 (vw.map (·.f0)) w (by rw [List.length_map]; exact h0) (by rw [List.length_map]; exact g0) (by rw [List.length_map]; exact h1) (by rw [List.length_map]; exact g1) 4000 (by omega) (by rw [List.length_map]; omega) (fun y hy => by
    obtain ⟨x, hx1, rfl⟩ := List.mem_map.1 hy
    exact hx x hx1)
  rw [List.length_map] at this
  exact this
end Go.Proofs.Yteeddalalfemmaa.K

namespace Go.Proofs.Yteeddalalfemmaa.K
open Go.RowKit Go.Proofs.YteeddalalfemmaaW.PrintWords Go.Proofs.YteeddalalfemmaaW.PrintLast Go.Proofs.YteeddalalfemmaaW.PrintMore
set_option linter.unusedVariables false
set_option linter.unusedSimpArgs false

set_option maxRecDepth 100000 in
set_option maxHeartbeats 4000000 in
theorem plays_not_light (n : Int) (A : Option Addr) (nl c : Nat) (x : List OpL) (w : World) (h1 : Kd.C OK' w A nl x) (hc : nl ≤ c)
    (hlt : ∀ w, Kd.C OK' w A nl x → nl ≤ c → Calls Try.prog 4 #[.slice A nl c] w fun e w' => e = .returned (.bool false) ∧ Drawn0 w w') :
    Calls Try.prog 3 #[.int .i64 n, .slice A nl c] w fun e w' => e = .returned (.bool true) ∧ Below w.heap.size w w' := by
  have HB := Aside0.mk (Below.refl w.heap.size w)
  have H1 := Aside0.mk h1
  have HC := Aside0.mk hc
  have HLT := Aside0.mk hlt
  clear h1 hc hlt
  go_enter Try.func3, Try.ntmps3
  go_wp2_with (first
    | ((with_reducible refine gate_dst (N := 13) rfl ?_); go_must (((try (refine gate_guard (by rfl) ?_; dsimp only)); refine goesL_ (some 13) rfl rfl Try.func4 (by kernel_rfl) rfl #[.slice A nl c] rfl ?hA ?_; (case hA => ((try simp only [List.map_toArray, List.map_cons, List.map_nil]); first | done | rfl)); refine (HLT.out _ H1.out HC.out).mono ?_; rintro e w13 ⟨rfl, ⟨m13, rfl⟩⟩; refine ⟨_, rfl, ?_⟩; skip)))
    | ((with_reducible refine gate_dst (N := 15) rfl ?_); go_must (((try (refine gate_guard (by rfl) ?_; dsimp only)); refine goesL_ (some 15) rfl rfl Try.func5 (by kernel_rfl) rfl #[] rfl ?hA ?_; (case hA => ((try simp only [List.map_toArray, List.map_cons, List.map_nil]); first | done | rfl)); refine (alive22_calls _).mono ?_; rintro e w30 ⟨rfl, hb⟩; refine ⟨_, rfl, ?_⟩; replace HB := Aside0.mk (below_step (by repeat (first | (with_reducible first | exact HB.out | apply below_alloc | apply pw_below_drewN | apply below_drew1) | exact HB.out)) hb); clear hb))))
  go_ret
  exact ⟨rfl, HB.out⟩

set_option maxRecDepth 100000 in
set_option maxHeartbeats 4000000 in
theorem plays_bad (n : Int) (A : Option Addr) (nl c : Nat) (x : List OpL) (w : World) (h1 : Kd.C OK' w A nl x) (hc : nl ≤ c) (hn : n < 1 ∨ 8 < n)
    (hlt : ∀ w, Kd.C OK' w A nl x → nl ≤ c → Calls Try.prog 4 #[.slice A nl c] w fun e w' => e = .returned (.bool true) ∧ Drawn0 w w') :
    Calls Try.prog 3 #[.int .i64 n, .slice A nl c] w fun e w' => e = .returned (.bool true) ∧ Below w.heap.size w w' := by
  have HB := Aside0.mk (Below.refl w.heap.size w)
  have H1 := Aside0.mk h1
  have HC := Aside0.mk hc
  have HLT := Aside0.mk hlt
  have HN := Aside0.mk hn
  clear h1 hc hlt hn
  go_enter Try.func3, Try.ntmps3
  go_wp2_with (first
    | ((with_reducible refine gate_dst (N := 13) rfl ?_); go_must (((try (refine gate_guard (by rfl) ?_; dsimp only)); refine goesL_ (some 13) rfl rfl Try.func4 (by kernel_rfl) rfl #[.slice A nl c] rfl ?hA ?_; (case hA => ((try simp only [List.map_toArray, List.map_cons, List.map_nil]); first | done | rfl)); refine (HLT.out _ H1.out HC.out).mono ?_; rintro e w13 ⟨rfl, ⟨m13, rfl⟩⟩; refine ⟨_, rfl, ?_⟩; skip)))
    | ((with_reducible refine gate_dst (N := 18) rfl ?_); go_must (((try (refine gate_guard (by rfl) ?_; dsimp only)); refine goesL_ (some 18) rfl rfl Try.func6 (by kernel_rfl) rfl #[.int .i64 n] rfl ?hA ?_; (case hA => ((try simp only [List.map_toArray, List.map_cons, List.map_nil]); first | done | rfl)); refine (rnew_no n _ HN.out).mono ?_; rintro e w18 ⟨rfl, hb⟩; refine ⟨_, rfl, ?_⟩; replace HB := Aside0.mk (below_step (by repeat (first | (with_reducible first | exact HB.out | apply below_alloc | apply pw_below_drewN | apply below_drew1) | exact HB.out)) hb); clear hb)))
    | ((with_reducible refine gate_dst (N := 23) rfl ?_); go_must (((try (refine gate_guard (by rfl) ?_; dsimp only)); refine goesL_ (some 23) rfl rfl Try.func7 (by kernel_rfl) rfl #[.int .i64 n] rfl ?hA ?_; (case hA => ((try simp only [List.map_toArray, List.map_cons, List.map_nil]); first | done | rfl)); refine (mnew_no n _ HN.out).mono ?_; rintro e w23 ⟨rfl, hb⟩; refine ⟨_, rfl, ?_⟩; replace HB := Aside0.mk (below_step (by repeat (first | (with_reducible first | exact HB.out | apply below_alloc | apply pw_below_drewN | apply below_drew1) | exact HB.out)) hb); clear hb)))
    | ((with_reducible refine gate_dst (N := 30) rfl ?_); go_must (((try (refine gate_guard (by rfl) ?_; dsimp only)); refine goesL_ (some 30) rfl rfl Try.func5 (by kernel_rfl) rfl #[] rfl ?hA ?_; (case hA => ((try simp only [List.map_toArray, List.map_cons, List.map_nil]); first | done | rfl)); refine (alive22_calls _).mono ?_; rintro e w30 ⟨rfl, hb⟩; refine ⟨_, rfl, ?_⟩; replace HB := Aside0.mk (below_step (by repeat (first | (with_reducible first | exact HB.out | apply below_alloc | apply pw_below_drewN | apply below_drew1) | exact HB.out)) hb); clear hb))))
  go_loopg [9] 0 (fun g9 v9 wr => v9 = .int .i64 0 ∧ Aside0 (Below w.heap.size w wr))
  case atStart => exact ⟨rfl, ⟨(by repeat (first | exact HB.out | exact Below.refl _ _ | apply pw_below_drewN | apply below_drew1))⟩⟩
  case round =>
    clear HB
    obtain ⟨rfl, HB⟩ := hrel
    by_cases h0 : 0 < nl
    · have h0' : (0 : Int) < nl := by omega
      go_wp2
      go_loopg [11] 0 (fun g11 v11 wr => v11 = .int .i64 0 ∧ Aside0 (Below w.heap.size w wr))
      case atStart => exact ⟨rfl, ⟨(by repeat (first | exact HB.out | exact Below.refl _ _ | apply pw_below_drewN | apply below_drew1))⟩⟩
      case round =>
        clear HB
        obtain ⟨rfl, HB⟩ := hrel
        by_cases h2 : 0 < n
        · go_wp2
          go_ret
          exact ⟨rfl, (by repeat (first | exact HB.out | exact Below.refl _ _ | apply pw_below_drewN | apply below_drew1))⟩
        · go_wp2
          go_ret
          exact ⟨rfl, (by repeat (first | exact HB.out | exact Below.refl _ _ | apply pw_below_drewN | apply below_drew1))⟩
    · have h0' : ¬ (0 : Int) < nl := by omega
      go_wp2
      go_loopg [11] 0 (fun g11 v11 wr => v11 = .int .i64 0 ∧ Aside0 (Below w.heap.size w wr))
      case atStart => exact ⟨rfl, ⟨(by repeat (first | exact HB.out | exact Below.refl _ _ | apply pw_below_drewN | apply below_drew1))⟩⟩
      case round =>
        clear HB
        obtain ⟨rfl, HB⟩ := hrel
        by_cases h2 : 0 < n
        · go_wp2
          go_ret
          exact ⟨rfl, (by repeat (first | exact HB.out | exact Below.refl _ _ | apply pw_below_drewN | apply below_drew1))⟩
        · go_wp2
          go_ret
          exact ⟨rfl, (by repeat (first | exact HB.out | exact Below.refl _ _ | apply pw_below_drewN | apply below_drew1))⟩

end Go.Proofs.Yteeddalalfemmaa.K

namespace Go.Proofs.Yteeddalalfemmaa.K
open Go.RowKit Go.Proofs.YteeddalalfemmaaW.PrintWords Go.Proofs.YteeddalalfemmaaW.PrintLast Go.Proofs.YteeddalalfemmaaW.PrintMore
set_option linter.unusedVariables false
set_option linter.unusedSimpArgs false

def plays_good.T10 : Bool × List (List Nat × List Nat) := (true, [([], []), ([], []), ([], []), ([], []), ([2, 3], [2, 3]), ([4], [4]), ([0, 1, 5], [0, 1, 5]), ([6], [6]), ([7, 6], [7]), ([8], [8]), ([9, 8, 8], [8, 9]), ([8], [8]), ([11, 8], [8, 11]), ([12, 8], [8, 12]), ([13, 8], [8, 13]), ([10, 14, 10, 8], [8, 10, 14]), ([15, 8], [8, 15]), ([8, 16], [8, 16])])
def plays_good.B10 : List Nat := [0, 0, 0, 0, 12, 28, 63, 127, 255, 511, 1023, 511, 2559, 6655, 14847, 32767, 65535, 131071]
theorem plays_good.tab10 : rtab .any (opsOf Try.f3 10) = plays_good.T10 := by kernel_rfl
theorem plays_good.bits10 : waitsOk plays_good.T10.2 plays_good.B10 = true := by kernel_rfl
def plays_good.T15 : Bool × List (List Nat × List Nat) := (true, [([], []), ([], []), ([0, 1], [0, 1]), ([], []), ([3], [3]), ([4], [4]), ([5], [5]), ([], []), ([6, 7], [6, 7]), ([8], [8]), ([9], [9]), ([2, 10], [2, 10])])
def plays_good.B15 : List Nat := [0, 0, 3, 0, 8, 24, 56, 0, 248, 504, 1016, 2047]
theorem plays_good.tab15 : rtab .any (opsOf Try.f3 15) = plays_good.T15 := by kernel_rfl
theorem plays_good.bits15 : waitsOk plays_good.T15.2 plays_good.B15 = true := by kernel_rfl
set_option maxRecDepth 100000 in
set_option maxHeartbeats 16000000 in
theorem plays_good (m : Nat) (A : Option Addr) (nl c : Nat) (x : List OpL) (w : World) (h1 : Kd.C OK' w A nl x) (hc : nl ≤ c) (hnl : x.length = nl) (g1 : 1 ≤ m) (g8 : m ≤ 8) (h60 : nl ≤ 60)
    (hlt : ∀ w, Kd.C OK' w A nl x → nl ≤ c → Calls Try.prog 4 #[.slice A nl c] w fun e w' => e = .returned (.bool true) ∧ Drawn0 w w') :
    Calls Try.prog 3 #[.int .i64 m, .slice A nl c] w fun e w' => e = .returned (.bool true) ∧ Below w.heap.size w w' := by
  have HB := Aside0.mk (Below.refl w.heap.size w)
  have hu := Try.underlying35
  have H1 := Aside0.mk h1
  have hc2 : (nl : Int) ≤ c := by omega
  have HC := Aside0.mk hc
  have HLT := Aside0.mk hlt
  have HNL := Aside0.mk hnl
  have G1 := Aside0.mk g1
  have G8 := Aside0.mk g8
  clear h1 hc hlt hnl
  go_enter Try.func3, Try.ntmps3
  go_wp2_with (first
    | ((with_reducible refine gate_dst (N := 13) rfl ?_); go_must (((try (refine gate_guard (by rfl) ?_; dsimp only)); refine goesL_ (some 13) rfl rfl Try.func4 (by kernel_rfl) rfl #[.slice A nl c] rfl ?hA ?_; (case hA => ((try simp only [List.map_toArray, List.map_cons, List.map_nil]); first | done | rfl)); refine (HLT.out _ H1.out HC.out).mono ?_; rintro e w13 ⟨rfl, ⟨m13, rfl⟩⟩; refine ⟨_, rfl, ?_⟩; replace HB := Aside0.mk (pw_below_drewN HB.out m13))))
    | ((with_reducible refine gate_dst (N := 18) rfl ?_); go_must (((try (refine gate_guard (by rfl) ?_; dsimp only)); refine goesL_ (some 18) rfl rfl Try.func6 (by kernel_rfl) rfl #[.int .i64 m] rfl ?hA ?_; (case hA => ((try simp only [List.map_toArray, List.map_cons, List.map_nil]); first | done | rfl)); refine (rnew_ok m w _ HB.out G1.out G8.out).mono ?_; rintro e w18 ⟨g, gq, rfl, hR, hB, hb⟩; refine ⟨_, rfl, ?_⟩; have HRA := Aside0.mk hR; have HBA := Aside0.mk hB; clear HB hR hB hb)))
    | ((with_reducible refine gate_dst (N := 23) rfl ?_); go_must (((try (refine gate_guard (by rfl) ?_; dsimp only)); refine goesL_ (some 23) rfl rfl Try.func7 (by kernel_rfl) rfl #[.int .i64 m] rfl ?hA ?_; (case hA => ((try simp only [List.map_toArray, List.map_cons, List.map_nil]); first | done | rfl)); refine (mnew_ok m (fun _ => 0) w _ HBA.out G1.out G8.out).mono ?_; rintro e w23 ⟨h, hq, rfl, hM, hB, hb⟩; refine ⟨_, rfl, ?_⟩; have HS := Aside0.mk (news HRA.out HBA.out hM hb); clear hM hB hb HRA HBA)))
    | ((with_reducible refine gate_dst (N := 30) rfl ?_); go_must (((try (refine gate_guard (by rfl) ?_; dsimp only)); refine goesL_ (some 30) rfl rfl Try.func5 (by kernel_rfl) rfl #[] rfl ?hA ?_; (case hA => ((try simp only [List.map_toArray, List.map_cons, List.map_nil]); first | done | rfl)); refine (alive22_calls _).mono ?_; rintro e w30 ⟨rfl, hb⟩; refine ⟨_, rfl, ?_⟩; replace HS := Aside0.mk (HS.out.step hb); clear hb))))
  go_loopg [9] nl (fun g9 v9 wr => ∃ (i : Nat) (vw : List It) (qs : List (List It)), g9 = nl - i ∧ v9 = .int .i64 i ∧ i ≤ nl ∧ Aside0 (Lim m i vw qs) ∧ Aside0 (St0 w wr g gq h hq vw qs vw qs))
  case atStart => exact ⟨0, [], _, by simp, rfl, Nat.zero_le _, ⟨Lim.zero G8.out⟩, ⟨HS.out.step (by repeat (first | exact Below.refl _ _ | apply pw_below_drewN | apply below_drew1))⟩⟩
  case round =>
    clear HS
    obtain ⟨i, vw, qs, rfl, rfl, hi, HL, HS⟩ := hrel
    by_cases hin : i < nl
    · have hin2 : (i : Int) < nl := by omega
      have hi0 : (0 : Int) ≤ i := by omega
      obtain ⟨ad, A5, c5, rfl, hx0, hx1, hx2, hx3, hx4, hx5, hl5, hC5⟩ := Z.at_T35  H1.out i (by omega) (by omega)
      rw [Int.toNat_natCast] at hx0 hx1 hx2 hx3 hx4 hx5
      obtain ⟨y, hye⟩ : ∃ y, y = Z.rd_T35 x i := ⟨_, rfl⟩
      rw [← hye] at hx0 hx1 hx2 hx3 hx4 hx5 hl5 hC5
      have HRy : Aside0 (Rd w (.slice A5 y.f5.length c5) y.f5) := ⟨⟨A5, c5, rfl, hl5, hC5⟩⟩
      have HX0 := Aside0.mk hx0
      have HX1 := Aside0.mk hx1
      have HX2 := Aside0.mk hx2
      have HX3 := Aside0.mk hx3
      have HX4 := Aside0.mk hx4
      have HX5 := Aside0.mk hx5
      have HI6 : Aside0 (i ≤ 60) := ⟨by omega⟩
      clear hx0 hx1 hx2 hx3 hx4 hx5 hl5 hC5 hye
      go_upto_region 10 with fail
      have hb0 := HS.out.2
      have x0 := pw_cell_below hb0 HX0.out
      have x1 := pw_cell_below hb0 HX1.out
      have x2 := pw_cell_below hb0 HX2.out
      have x3 := pw_cell_below hb0 HX3.out
      have x4 := pw_cell_below hb0 HX4.out
      have x5 := pw_cell_below hb0 HX5.out
      clear hb0
      refine start_ (n := 18) (S := fun w' => w'.cell? (ad.add (i * 6)) = some (.int .i64 y.f0) ∧ w'.cell? ⟨(ad.add (i * 6)).block, (ad.add (i * 6)).off + 1, none⟩ = some (.int .i64 y.f1) ∧ w'.cell? ⟨(ad.add (i * 6)).block, (ad.add (i * 6)).off + 2, none⟩ = some (.int .i64 y.f2) ∧ w'.cell? ⟨(ad.add (i * 6)).block, (ad.add (i * 6)).off + 3, none⟩ = some (.int .i64 y.f3) ∧ w'.cell? ⟨(ad.add (i * 6)).block, (ad.add (i * 6)).off + 4, none⟩ = some (.int .u8 y.f4) ∧ w'.cell? ⟨(ad.add (i * 6)).block, (ad.add (i * 6)).off + 5, none⟩ = some (.slice A5 y.f5.length c5)) (ds := []) #[false, false, false, false, false, false, false, false, false, false, false, false, false, false, false, false, false, false] (by kernel_rfl) rfl rfl ⟨x0, x1, x2, x3, x4, x5⟩ (fun hHeld => ?_)
      refine with_tabW plays_good.tab10 plays_good.bits10 (fun HT_ HW_ => ?_)
      refine pure_ (i := 0) (N := some 43) (v := ?_) (a' := ?_) #[true, false, false, false, false, false, false, false, false, false, false, false, false, false, false, false, false, false] rfl rfl (any_of HT_.out (by kernel_rfl)) (fun _ _ _ h => h) (Or.inl ⟨by rfl, ?_⟩) ?_ ?_
      rotate_left
      · intro w'
        go_simp
        with_reducible rfl
      rotate_left
      · simp only [Act.put, List.setIfInBounds_toArray, List.set_cons_zero, List.set_cons_succ, i64_w, i32_w]
        rfl
      refine pure_ (i := 1) (N := some 44) (v := ?_) (a' := ?_) #[true, true, false, false, false, false, false, false, false, false, false, false, false, false, false, false, false, false] rfl rfl (any_of HT_.out (by kernel_rfl)) (fun _ _ _ h => h) (Or.inl ⟨by rfl, ?_⟩) ?_ ?_
      rotate_left
      · intro w'
        go_simp
        with_reducible rfl
      rotate_left
      · simp only [Act.put, List.setIfInBounds_toArray, List.set_cons_zero, List.set_cons_succ, i64_w, i32_w]
        rfl
      refine pure_ (i := 2) (N := some 45) (v := ?_) (a' := ?_) #[true, true, true, false, false, false, false, false, false, false, false, false, false, false, false, false, false, false] rfl rfl (any_of HT_.out (by kernel_rfl)) (fun _ _ _ h => h) (Or.inl ⟨by rfl, ?_⟩) ?_ ?_
      rotate_left
      · intro w'
        go_simp
        with_reducible rfl
      rotate_left
      · simp only [Act.put, List.setIfInBounds_toArray, List.set_cons_zero, List.set_cons_succ, i64_w, i32_w]
        rfl
      refine pure_ (i := 3) (N := some 46) (v := ?_) (a' := ?_) #[true, true, true, true, false, false, false, false, false, false, false, false, false, false, false, false, false, false] rfl rfl (any_of HT_.out (by kernel_rfl)) (fun _ _ _ h => h) (Or.inl ⟨by rfl, ?_⟩) ?_ ?_
      rotate_left
      · intro w'
        go_simp
        with_reducible rfl
      rotate_left
      · simp only [Act.put, List.setIfInBounds_toArray, List.set_cons_zero, List.set_cons_succ, i64_w, i32_w]
        rfl
      refine pure_ (i := 4) (N := some 47) (v := ?_) (a' := ?_) #[true, true, true, true, true, false, false, false, false, false, false, false, false, false, false, false, false, false] rfl rfl (any_of HT_.out (by kernel_rfl)) (fun _ _ _ h => h) (Or.inl ⟨by rfl, ?_⟩) ?_ ?_
      rotate_left
      · intro w'
        go_simp
        with_reducible rfl
      rotate_left
      · simp only [Act.put, List.setIfInBounds_toArray, List.set_cons_zero, List.set_cons_succ, i64_w, i32_w]
        rfl
      refine take_ (i := 5) (N := some 48) (v := ?_) (a' := ?_) #[true, true, true, true, true, true, false, false, false, false, false, false, false, false, false, false, false, false] rfl rfl (take_ofW HT_.out HW_.out (by kernel_rfl)) (fun _ _ _ h => h) (Or.inl ⟨by rfl, ?_⟩) hHeld ?_ ?_
      rotate_left
      · rintro w' ⟨s0, s1, s2, s3, s4, s5⟩
        go_simp
        with_reducible rfl
      rotate_left
      · simp only [Act.put, List.setIfInBounds_toArray, List.set_cons_zero, List.set_cons_succ, i64_w, i32_w]
        rfl
      refine one_ (i := 6) (N := some 49) #[true, true, true, true, true, true, true, false, false, false, false, false, false, false, false, false, false, false] rfl rfl (one_of HT_.out (by kernel_rfl)) (by decide) (fun K hK => ?_)
      refine goes_ Try.func8 (by kernel_rfl) rfl #[.pointer (some ⟨g, 0, none⟩), .pointer (some ⟨h, 0, none⟩), .agg #[.int .i64 y.f0, .int .i64 y.f1, .int .i64 y.f2, .int .i64 y.f3, .int .u8 y.f4, .slice A5 y.f5.length c5]] (by rfl) rfl rfl (by simp only [List.map_toArray, List.map_cons, List.map_nil]; rfl) ?_
      with_reducible refine (step_calls HL.out HI6.out y.f0 y.f1 y.f2 y.f3 y.f4 A5 c5 y.f5 HRy.out _ (by exact HS.out.step (by repeat (first | exact Below.refl _ _ | apply pw_below_drewN | apply below_drew1)))).mono ?_
      rintro e wa ⟨rfl, vw', qs', hl', hs'⟩
      refine ⟨_, rfl, ?_⟩
      obtain ⟨A57, c57, hv57, hc57, hC57⟩ := hs'.view
      have HC57 := Aside0.mk hC57
      have HS2 := Aside0.mk hs'
      have HL2 := Aside0.mk hl'
      clear hC57 hs' hl'
      refine hK.out _ _ ⟨(pw_cell_below HS2.out.2 HX0.out), (pw_cell_below HS2.out.2 HX1.out), (pw_cell_below HS2.out.2 HX2.out), (pw_cell_below HS2.out.2 HX3.out), (pw_cell_below HS2.out.2 HX4.out), (pw_cell_below HS2.out.2 HX5.out)⟩ (fun hHeld => ?_)
      clear hK K
      refine norm_ (a' := ?_) ?_ ?_
      rotate_left
      · show Act.put _ (some 49) _ = _
        simp only [Act.put, List.setIfInBounds_toArray, List.set_cons_zero, List.set_cons_succ, i64_w, i32_w]
        rfl
      refine pure_ (i := 7) (N := some 50) (v := ?_) (a' := ?_) #[true, true, true, true, true, true, true, true, false, false, false, false, false, false, false, false, false, false] rfl rfl (any_of HT_.out (by kernel_rfl)) (fun _ _ _ h => h) (Or.inl ⟨by rfl, ?_⟩) ?_ ?_
      rotate_left
      · intro w'
        go_simp
        with_reducible rfl
      rotate_left
      · simp only [Act.put, List.setIfInBounds_toArray, List.set_cons_zero, List.set_cons_succ, i64_w, i32_w]
        rfl
      refine pure_ (i := 8) (N := some 51) (v := ?_) (a' := ?_) #[true, true, true, true, true, true, true, true, true, false, false, false, false, false, false, false, false, false] rfl rfl (any_of HT_.out (by kernel_rfl)) (fun _ _ _ h => h) (Or.inl ⟨by rfl, ?_⟩) ?_ ?_
      rotate_left
      · intro w'
        go_simp
        with_reducible rfl
      rotate_left
      · simp only [Act.put, List.setIfInBounds_toArray, List.set_cons_zero, List.set_cons_succ, i64_w, i32_w]
        rfl
      refine pure_ (i := 9) (N := some 52) (v := ?_) (a' := ?_) #[true, true, true, true, true, true, true, true, true, true, false, false, false, false, false, false, false, false] rfl rfl (any_of HT_.out (by kernel_rfl)) (fun _ _ _ h => h) (Or.inl ⟨by rfl, ?_⟩) ?_ ?_
      rotate_left
      · intro w'
        go_simp
        with_reducible rfl
      rotate_left
      · simp only [Act.put, List.setIfInBounds_toArray, List.set_cons_zero, List.set_cons_succ, i64_w, i32_w]
        rfl
      refine pure_ (i := 11) (N := some 54) (v := ?_) (a' := ?_) #[true, true, true, true, true, true, true, true, true, true, false, true, false, false, false, false, false, false] rfl rfl (any_of HT_.out (by kernel_rfl)) (fun _ _ _ h => h) (Or.inl ⟨by rfl, ?_⟩) ?_ ?_
      rotate_left
      · intro w'
        go_simp
        with_reducible rfl
      rotate_left
      · simp only [Act.put, List.setIfInBounds_toArray, List.set_cons_zero, List.set_cons_succ, i64_w, i32_w]
        rfl
      refine pure_ (i := 12) (N := some 55) (v := ?_) (a' := ?_) #[true, true, true, true, true, true, true, true, true, true, false, true, true, false, false, false, false, false] rfl rfl (any_of HT_.out (by kernel_rfl)) (fun _ _ _ h => h) (Or.inl ⟨by rfl, ?_⟩) ?_ ?_
      rotate_left
      · intro w'
        go_simp
        with_reducible rfl
      rotate_left
      · simp only [Act.put, List.setIfInBounds_toArray, List.set_cons_zero, List.set_cons_succ, i64_w, i32_w]
        rfl
      refine pure_ (i := 13) (N := some 56) (v := ?_) (a' := ?_) #[true, true, true, true, true, true, true, true, true, true, false, true, true, true, false, false, false, false] rfl rfl (any_of HT_.out (by kernel_rfl)) (fun _ _ _ h => h) (Or.inl ⟨by rfl, ?_⟩) ?_ ?_
      rotate_left
      · intro w'
        go_simp
        with_reducible rfl
      rotate_left
      · simp only [Act.put, List.setIfInBounds_toArray, List.set_cons_zero, List.set_cons_succ, i64_w, i32_w]
        rfl
      refine join_ (σ := Option Addr × Nat) 3 #[true, true, true, true, true, true, true, true, true, true, true, true, true, true, true, false, false, false] (fun s => [(53, .slice s.1 vw'.length s.2), (57, .slice A57 vw'.length c57)]) (fun s w' => (vw'.length ≤ s.2 ∧ Kd.C BK w' s.1 vw'.length (vw'.map (·.f0)) ∧ Below wa.heap.size wa w') ∧ w'.cell? (ad.add (i * 6)) = some (.int .i64 y.f0) ∧ w'.cell? ⟨(ad.add (i * 6)).block, (ad.add (i * 6)).off + 1, none⟩ = some (.int .i64 y.f1) ∧ w'.cell? ⟨(ad.add (i * 6)).block, (ad.add (i * 6)).off + 2, none⟩ = some (.int .i64 y.f2) ∧ w'.cell? ⟨(ad.add (i * 6)).block, (ad.add (i * 6)).off + 3, none⟩ = some (.int .i64 y.f3) ∧ w'.cell? ⟨(ad.add (i * 6)).block, (ad.add (i * 6)).off + 4, none⟩ = some (.int .u8 y.f4) ∧ w'.cell? ⟨(ad.add (i * 6)).block, (ad.add (i * 6)).off + 5, none⟩ = some (.slice A5 y.f5.length c5)) ?_ ?_
      rotate_left
      · intro hCont
        refine two_ (i := 10) (j := 14) (Ni := some 53) (Nj := some 57) #[true, true, true, true, true, true, true, true, true, true, true, true, true, true, false, false, false, false] #[true, true, true, true, true, true, true, true, true, true, false, true, true, true, true, false, false, false] rfl rfl rfl rfl (two_of HT_.out (by kernel_rfl)) (by decide) (by decide) (fun K hK => ?_) (fun K hK => ?_)
        · skip
          refine goes_ Try.func10 (by kernel_rfl) rfl #[.pointer (some ⟨g, 0, none⟩)] (by rfl) rfl rfl (by simp only [List.map_toArray, List.map_cons, List.map_nil]; rfl) ?_
          with_reducible refine (St0.sees HS2.out HL2.out (by have := HI6.out; omega)).mono ?_
          rintro e wv ⟨Av, cv, rfl, hcv, hCv, hbv⟩
          refine ⟨_, rfl, ?_⟩
          refine hK.out _ _ ⟨(pw_cell_below (below_step HS2.out.2 hbv) HX0.out), (pw_cell_below (below_step HS2.out.2 hbv) HX1.out), (pw_cell_below (below_step HS2.out.2 hbv) HX2.out), (pw_cell_below (below_step HS2.out.2 hbv) HX3.out), (pw_cell_below (below_step HS2.out.2 hbv) HX4.out), (pw_cell_below (below_step HS2.out.2 hbv) HX5.out)⟩ (fun hHeld => ?_)
          clear hK K
          refine norm_ (a' := ?_) ?_ ?_
          rotate_left
          · show Act.put _ (some 53) _ = _
            simp only [Act.put, List.setIfInBounds_toArray, List.set_cons_zero, List.set_cons_succ, i64_w, i32_w]
            rfl
          refine one_ (i := 14) (N := some 57) #[true, true, true, true, true, true, true, true, true, true, true, true, true, true, true, false, false, false] rfl rfl (one_of HT_.out (by kernel_rfl)) (by decide) (fun K hK => ?_)
          have e57 := pw_cell_below hbv hv57
          refine value_ (w1 := ?_) (v := ?_) (by rfl) rfl ?_ ?_
          rotate_left 2
          · go_simp
            constructor
            · rfl
            · rfl
          refine hK.out _ _ ⟨(pw_cell_below (below_step HS2.out.2 hbv) HX0.out), (pw_cell_below (below_step HS2.out.2 hbv) HX1.out), (pw_cell_below (below_step HS2.out.2 hbv) HX2.out), (pw_cell_below (below_step HS2.out.2 hbv) HX3.out), (pw_cell_below (below_step HS2.out.2 hbv) HX4.out), (pw_cell_below (below_step HS2.out.2 hbv) HX5.out)⟩ (fun hHeld => ?_)
          clear hK K
          refine norm_ (a' := ?_) ?_ ?_
          rotate_left
          · show Act.put _ (some 57) _ = _
            simp only [Act.put, List.setIfInBounds_toArray, List.set_cons_zero, List.set_cons_succ, i64_w, i32_w]
            rfl
          exact norm_ (by simp only [putAll, Act.put, List.setIfInBounds_toArray, List.set_cons_zero, List.set_cons_succ]) (hCont (Av, cv) _ ⟨⟨hcv, hCv, hbv⟩, (pw_cell_below (below_step HS2.out.2 hbv) HX0.out), (pw_cell_below (below_step HS2.out.2 hbv) HX1.out), (pw_cell_below (below_step HS2.out.2 hbv) HX2.out), (pw_cell_below (below_step HS2.out.2 hbv) HX3.out), (pw_cell_below (below_step HS2.out.2 hbv) HX4.out), (pw_cell_below (below_step HS2.out.2 hbv) HX5.out)⟩)
        · skip
          refine value_ (w1 := ?_) (v := ?_) (by rfl) rfl ?_ ?_
          rotate_left 2
          · go_simp
            constructor
            · rfl
            · rfl
          refine hK.out _ _ ⟨(pw_cell_below HS2.out.2 HX0.out), (pw_cell_below HS2.out.2 HX1.out), (pw_cell_below HS2.out.2 HX2.out), (pw_cell_below HS2.out.2 HX3.out), (pw_cell_below HS2.out.2 HX4.out), (pw_cell_below HS2.out.2 HX5.out)⟩ (fun hHeld => ?_)
          clear hK K
          refine norm_ (a' := ?_) ?_ ?_
          rotate_left
          · show Act.put _ (some 57) _ = _
            simp only [Act.put, List.setIfInBounds_toArray, List.set_cons_zero, List.set_cons_succ, i64_w, i32_w]
            rfl
          refine one_ (i := 10) (N := some 53) #[true, true, true, true, true, true, true, true, true, true, true, true, true, true, true, false, false, false] rfl rfl (one_of HT_.out (by kernel_rfl)) (by decide) (fun K hK => ?_)
          refine goes_ Try.func10 (by kernel_rfl) rfl #[.pointer (some ⟨g, 0, none⟩)] (by rfl) rfl rfl (by simp only [List.map_toArray, List.map_cons, List.map_nil]; rfl) ?_
          with_reducible refine (St0.sees HS2.out HL2.out (by have := HI6.out; omega)).mono ?_
          rintro e wv ⟨Av, cv, rfl, hcv, hCv, hbv⟩
          refine ⟨_, rfl, ?_⟩
          refine hK.out _ _ ⟨(pw_cell_below (below_step HS2.out.2 hbv) HX0.out), (pw_cell_below (below_step HS2.out.2 hbv) HX1.out), (pw_cell_below (below_step HS2.out.2 hbv) HX2.out), (pw_cell_below (below_step HS2.out.2 hbv) HX3.out), (pw_cell_below (below_step HS2.out.2 hbv) HX4.out), (pw_cell_below (below_step HS2.out.2 hbv) HX5.out)⟩ (fun hHeld => ?_)
          clear hK K
          refine norm_ (a' := ?_) ?_ ?_
          rotate_left
          · show Act.put _ (some 53) _ = _
            simp only [Act.put, List.setIfInBounds_toArray, List.set_cons_zero, List.set_cons_succ, i64_w, i32_w]
            rfl
          exact norm_ (by simp only [putAll, Act.put, List.setIfInBounds_toArray, List.set_cons_zero, List.set_cons_succ]) (hCont (Av, cv) _ ⟨⟨hcv, hCv, hbv⟩, (pw_cell_below (below_step HS2.out.2 hbv) HX0.out), (pw_cell_below (below_step HS2.out.2 hbv) HX1.out), (pw_cell_below (below_step HS2.out.2 hbv) HX2.out), (pw_cell_below (below_step HS2.out.2 hbv) HX3.out), (pw_cell_below (below_step HS2.out.2 hbv) HX4.out), (pw_cell_below (below_step HS2.out.2 hbv) HX5.out)⟩)
      rintro ⟨Av, cv⟩ wv ⟨⟨hcv, hCv, hbv⟩, s0, s1, s2, s3, s4, s5⟩
      change vw'.length ≤ cv at hcv
      change Kd.C BK wv Av vw'.length _ at hCv
      have HCV := Aside0.mk hCv
      have HBV := Aside0.mk hbv
      clear hCv hbv
      have hHeld := And.intro s0 (And.intro s1 (And.intro s2 (And.intro s3 (And.intro s4 s5))))
      refine norm_ (a' := ?_) ?_ ?_
      rotate_left
      · simp only [putAll, Act.put, List.setIfInBounds_toArray, List.set_cons_zero, List.set_cons_succ]
        rfl
      refine one_ (i := 15) (N := some 58) #[true, true, true, true, true, true, true, true, true, true, true, true, true, true, true, true, false, false] rfl rfl (one_of HT_.out (by kernel_rfl)) (by decide) (fun K hK => ?_)
      refine goes_ Try.func9 (by kernel_rfl) rfl #[.slice Av vw'.length cv, .slice A57 vw'.length c57] (by rfl) rfl rfl (by simp only [List.map_toArray, List.map_cons, List.map_nil]; rfl) ?_
      with_reducible refine (lists_view Av A57 cv c57 vw' _ HCV.out hcv (Kd.C_below HC57.out HBV.out) hc57 (by have := HL2.out.v; have := HI6.out; omega) HL2.out.xv).mono ?_
      rintro e wl ⟨rfl, hdl⟩
      refine ⟨_, rfl, ?_⟩
      have HBL := Aside0.mk (below_step HBV.out (Drawn0.low hdl))
      clear hdl
      refine hK.out _ _ ⟨(pw_cell_below (below_step HS2.out.2 HBL.out) HX0.out), (pw_cell_below (below_step HS2.out.2 HBL.out) HX1.out), (pw_cell_below (below_step HS2.out.2 HBL.out) HX2.out), (pw_cell_below (below_step HS2.out.2 HBL.out) HX3.out), (pw_cell_below (below_step HS2.out.2 HBL.out) HX4.out), (pw_cell_below (below_step HS2.out.2 HBL.out) HX5.out)⟩ (fun hHeld => ?_)
      clear hK K
      refine norm_ (a' := ?_) ?_ ?_
      rotate_left
      · show Act.put _ (some 58) _ = _
        simp only [Act.put, List.setIfInBounds_toArray, List.set_cons_zero, List.set_cons_succ, i64_w, i32_w]
        rfl
      refine pure_ (i := 16) (N := some 59) (v := ?_) (a' := ?_) #[true, true, true, true, true, true, true, true, true, true, true, true, true, true, true, true, true, false] rfl rfl (any_of HT_.out (by kernel_rfl)) (fun _ _ _ h => h) (Or.inl ⟨by rfl, ?_⟩) ?_ ?_
      rotate_left
      · intro w'
        go_simp
        with_reducible rfl
      rotate_left
      · simp only [Act.put, List.setIfInBounds_toArray, List.set_cons_zero, List.set_cons_succ, i64_w, i32_w]
        rfl
      refine pure_ (i := 17) (N := some 60) (v := ?_) (a' := ?_) #[true, true, true, true, true, true, true, true, true, true, true, true, true, true, true, true, true, true] rfl rfl (any_of HT_.out (by kernel_rfl)) (fun _ _ _ h => h) (Or.inl ⟨by rfl, ?_⟩) ?_ ?_
      rotate_left
      · intro w'
        go_simp
        with_reducible rfl
      rotate_left
      · simp only [Act.put, List.setIfInBounds_toArray, List.set_cons_zero, List.set_cons_succ, i64_w, i32_w]
        rfl
      refine done_ (done_of HT_.out (by kernel_rfl)) ?_
      go_wp2
      go_loopg [10] m (fun g10 v10 wz => ∃ k : Nat, g10 = m - k ∧ v10 = .int .i64 k ∧ k ≤ m ∧ Aside0 (St0 w wz g gq h hq vw' qs' vw' qs'))
      case atStart => exact ⟨0, by simp, rfl, Nat.zero_le _, ⟨HS2.out.step (by repeat (first | exact HBL.out | exact Below.refl _ _ | apply pw_below_drewN | apply below_drew1))⟩⟩
      case round =>
        clear HBL HC57 HCV HBV hv57 hc57 hcv HS2 HS
        obtain ⟨k, rfl, rfl, hk, HS3⟩ := hrel
        by_cases hkm : k < m
        · have hk2 : (k : Int) < m := by omega
          have hk0 : (0 : Int) ≤ k := by omega
          have HK : Aside0 (k < qs'.length) := ⟨by have := HL2.out.len; omega⟩
          have hkq : (k : Int) < qs'.length := by have := HK.out; omega
          obtain ⟨Aq, cq, hq0, hq1⟩ := HS3.out.queue k HK.out
          have HQ0 := Aside0.mk hq0
          have HQ1 := Aside0.mk hq1
          clear hq0 hq1
          have hlb : ((qs'[k]'HK.out).length != (qs'[k]'HK.out).length) = false := by simp
          have hlb2 : (((qs'[k]'HK.out).length : Int) != ((qs'[k]'HK.out).length : Int)) = false := by simp
          go_upto_region 15 with fail
          have q0 := HQ0.out
          have q1 := HQ1.out
          refine start_ (n := 12) (S := fun w' => w'.cell? ⟨h, 0, none⟩ = some (.slice (some ⟨hq, 0, none⟩) qs'.length qs'.length) ∧ w'.cell? ⟨hq, k, none⟩ = some (.slice Aq qs'[k].length cq)) (ds := []) #[false, false, false, false, false, false, false, false, false, false, false, false] (by kernel_rfl) rfl rfl ⟨q0, q1⟩ (fun hHeld => ?_)
          refine with_tabW plays_good.tab15 plays_good.bits15 (fun HT_ HW_ => ?_)
          refine pure_ (i := 0) (N := some 66) (v := ?_) (a' := ?_) #[true, false, false, false, false, false, false, false, false, false, false, false] rfl rfl (any_of HT_.out (by kernel_rfl)) (fun _ _ _ h => h) (Or.inl ⟨by rfl, ?_⟩) ?_ ?_
          rotate_left
          · intro w'
            go_simp
            with_reducible rfl
          rotate_left
          · simp only [Act.put, List.setIfInBounds_toArray, List.set_cons_zero, List.set_cons_succ, i64_w, i32_w]
            rfl
          refine pure_ (i := 1) (N := some 67) (v := ?_) (a' := ?_) #[true, true, false, false, false, false, false, false, false, false, false, false] rfl rfl (any_of HT_.out (by kernel_rfl)) (fun _ _ _ h => h) (Or.inl ⟨by rfl, ?_⟩) ?_ ?_
          rotate_left
          · intro w'
            go_simp
            with_reducible rfl
          rotate_left
          · simp only [Act.put, List.setIfInBounds_toArray, List.set_cons_zero, List.set_cons_succ, i64_w, i32_w]
            rfl
          refine pure_ (i := 3) (N := some 69) (v := ?_) (a' := ?_) #[true, true, false, true, false, false, false, false, false, false, false, false] rfl rfl (any_of HT_.out (by kernel_rfl)) (fun _ _ _ h => h) (Or.inl ⟨by rfl, ?_⟩) ?_ ?_
          rotate_left
          · intro w'
            go_simp
            with_reducible rfl
          rotate_left
          · simp only [Act.put, List.setIfInBounds_toArray, List.set_cons_zero, List.set_cons_succ, i64_w, i32_w]
            rfl
          refine pure_ (i := 4) (N := some 70) (v := ?_) (a' := ?_) #[true, true, false, true, true, false, false, false, false, false, false, false] rfl rfl (any_of HT_.out (by kernel_rfl)) (fun _ _ _ h => h) (Or.inl ⟨by rfl, ?_⟩) ?_ ?_
          rotate_left
          · intro w'
            go_simp
            with_reducible rfl
          rotate_left
          · simp only [Act.put, List.setIfInBounds_toArray, List.set_cons_zero, List.set_cons_succ, i64_w, i32_w]
            rfl
          refine pure_ (i := 5) (N := some 71) (v := ?_) (a' := ?_) #[true, true, false, true, true, true, false, false, false, false, false, false] rfl rfl (any_of HT_.out (by kernel_rfl)) (fun _ _ _ h => h) (Or.inl ⟨by rfl, ?_⟩) ?_ ?_
          rotate_left
          · intro w'
            go_simp
            with_reducible rfl
          rotate_left
          · simp only [Act.put, List.setIfInBounds_toArray, List.set_cons_zero, List.set_cons_succ, i64_w, i32_w]
            rfl
          refine pure_ (i := 7) (N := some 73) (v := ?_) (a' := ?_) #[true, true, false, true, true, true, false, true, false, false, false, false] rfl rfl (any_of HT_.out (by kernel_rfl)) (fun _ _ _ h => h) (Or.inl ⟨by rfl, ?_⟩) ?_ ?_
          rotate_left
          · intro w'
            go_simp
            with_reducible rfl
          rotate_left
          · simp only [Act.put, List.setIfInBounds_toArray, List.set_cons_zero, List.set_cons_succ, i64_w, i32_w]
            rfl
          refine take_ (i := 6) (N := some 72) (v := ?_) (a' := ?_) #[true, true, false, true, true, true, true, true, false, false, false, false] rfl rfl (take_ofW HT_.out HW_.out (by kernel_rfl)) (fun _ _ _ h => h) (Or.inl ⟨by rfl, ?_⟩) hHeld ?_ ?_
          rotate_left
          · rintro w' ⟨s0, s1⟩
            go_simp
            with_reducible rfl
          rotate_left
          · simp only [Act.put, List.setIfInBounds_toArray, List.set_cons_zero, List.set_cons_succ, i64_w, i32_w]
            rfl
          refine pure_ (i := 8) (N := some 74) (v := ?_) (a' := ?_) #[true, true, false, true, true, true, true, true, true, false, false, false] rfl rfl (any_of HT_.out (by kernel_rfl)) (fun _ _ _ h => h) (Or.inl ⟨by rfl, ?_⟩) ?_ ?_
          rotate_left
          · intro w'
            go_simp
            with_reducible rfl
          rotate_left
          · simp only [Act.put, List.setIfInBounds_toArray, List.set_cons_zero, List.set_cons_succ, i64_w, i32_w]
            rfl
          refine take_ (i := 9) (N := some 75) (v := ?_) (a' := ?_) #[true, true, false, true, true, true, true, true, true, true, false, false] rfl rfl (take_ofW HT_.out HW_.out (by kernel_rfl)) (fun _ _ _ h => h) (Or.inl ⟨by rfl, ?_⟩) hHeld ?_ ?_
          rotate_left
          · rintro w' ⟨s0, s1⟩
            go_simp
            with_reducible rfl
          rotate_left
          · simp only [Act.put, List.setIfInBounds_toArray, List.set_cons_zero, List.set_cons_succ, i64_w, i32_w]
            rfl
          refine pure_ (i := 10) (N := some 76) (v := ?_) (a' := ?_) #[true, true, false, true, true, true, true, true, true, true, true, false] rfl rfl (any_of HT_.out (by kernel_rfl)) (fun _ _ _ h => h) (Or.inl ⟨by rfl, ?_⟩) ?_ ?_
          rotate_left
          · intro w'
            go_simp
            with_reducible rfl
          rotate_left
          · simp only [Act.put, List.setIfInBounds_toArray, List.set_cons_zero, List.set_cons_succ, i64_w, i32_w]
            rfl
          refine one_ (i := 2) (N := some 68) #[true, true, true, true, true, true, true, true, true, true, true, false] rfl rfl (one_of HT_.out (by kernel_rfl)) (by decide) (fun K hK => ?_)
          refine goes_ Try.func11 (by kernel_rfl) rfl #[.pointer (some ⟨g, 0, none⟩), .int .i64 k] (by rfl) rfl rfl (by simp only [List.map_toArray, List.map_cons, List.map_nil]; rfl) ?_
          with_reducible refine (St0.waits (HS3.out.step (below_drew1 (Below.refl _ _))) k HK.out).mono ?_
          rintro e ww ⟨rfl, hdw⟩
          refine ⟨_, rfl, ?_⟩
          have HDW := Aside0.mk (below_step (below_drew1 (Below.refl _ _)) (Drawn0.low hdw))
          clear hdw
          refine hK.out _ _ ⟨(pw_cell_below HDW.out q0), (pw_cell_below HDW.out q1)⟩ (fun hHeld => ?_)
          clear hK K
          refine norm_ (a' := ?_) ?_ ?_
          rotate_left
          · show Act.put _ (some 68) _ = _
            simp only [Act.put, List.setIfInBounds_toArray, List.set_cons_zero, List.set_cons_succ, i64_w, i32_w]
            rfl
          refine pure_ (i := 11) (N := some 77) (v := ?_) (a' := ?_) #[true, true, true, true, true, true, true, true, true, true, true, true] rfl rfl (any_of HT_.out (by kernel_rfl)) (fun _ _ _ h => h) (Or.inl ⟨by rfl, ?_⟩) ?_ ?_
          rotate_left
          · intro w'
            go_simp
            with_reducible rfl
          rotate_left
          · simp only [Act.put, List.setIfInBounds_toArray, List.set_cons_zero, List.set_cons_succ, i64_w, i32_w]
            rfl
          refine done_ (done_of HT_.out (by kernel_rfl)) ?_
          clear q0 q1
          go_wp2
          go_roundg (m - (k + 1))
          case measure => omega
          case rel => exact ⟨k + 1, rfl, by go_num, by omega, ⟨HS3.out.step (by repeat (first | exact HDW.out | exact Below.refl _ _ | apply pw_below_drewN | apply below_drew1))⟩⟩
        · have hk2 : ¬ (k : Int) < m := by omega
          go_wp2
          go_roundg (nl - (i + 1))
          case measure => omega
          case rel => exact ⟨i + 1, vw', qs', rfl, by go_num, by omega, HL2, ⟨HS3.out.step (by repeat (first | exact Below.refl _ _ | apply pw_below_drewN | apply below_drew1))⟩⟩
    · have hin2 : ¬ (i : Int) < nl := by omega
      have hie : i = nl := by omega
      go_wp2
      go_loopg [11] m (fun g11 v11 wz => ∃ (k : Nat) (qs' : List (List It)), g11 = m - k ∧ v11 = .int .i64 k ∧ k ≤ m ∧ Aside0 (Lim m i vw qs') ∧ Aside0 (St0 w wz g gq h hq vw qs' vw qs'))
      case atStart => exact ⟨0, qs, by simp, rfl, Nat.zero_le _, HL, ⟨HS.out.step (by repeat (first | exact Below.refl _ _ | apply pw_below_drewN | apply below_drew1))⟩⟩
      case round =>
        clear HL HS
        obtain ⟨k, qs', rfl, rfl, hk, HL, HS⟩ := hrel
        by_cases hkm : k < m
        · have hk2 : (k : Int) < m := by omega
          have hk0 : (0 : Int) ≤ k := by omega
          go_wp2
          go_loopg [] (qs'.getD k []).length (fun g12 wz => ∃ qs3 : List (List It), g12 = (qs3.getD k []).length ∧ Aside0 (Lim m i vw qs3) ∧ Aside0 (St0 w wz g gq h hq vw qs3 vw qs3))
          case atStart => exact ⟨qs', rfl, HL, ⟨HS.out.step (by repeat (first | exact Below.refl _ _ | apply pw_below_drewN | apply below_drew1))⟩⟩
          case round =>
            clear HL HS
            obtain ⟨qs3, rfl, HL, HS⟩ := hrel
            have HK : Aside0 (k < qs3.length) := ⟨by have := HL.out.len; omega⟩
            have hkq : (k : Int) < qs3.length := by have := HK.out; omega
            obtain ⟨Aq, cq, hq0, hq1⟩ := HS.out.queue k HK.out
            have hgd : qs3.getD k [] = qs3[k]'HK.out := by rw [List.getD_eq_getElem?_getD, List.getElem?_eq_getElem HK.out]; rfl
            have hqn := HL.out.q _ (List.getElem_mem HK.out)
            match hxs : qs3[k]'HK.out with
            | [] =>
              rw [hxs] at hq1
              simp only [List.length_nil] at hq1
              go_wp2
              go_roundg (m - (k + 1))
              case measure => omega
              case rel => exact ⟨k + 1, qs3, rfl, by go_num, by omega, HL, ⟨HS.out.step (by repeat (first | exact Below.refl _ _ | apply pw_below_drewN | apply below_drew1))⟩⟩
            | z :: xs =>
              rw [hxs] at hq1 hqn
              obtain ⟨ln, hln⟩ : ∃ ln, (z :: xs).length = ln := ⟨_, rfl⟩
              rw [hln] at hq1 hqn
              simp only [List.length_cons] at hln
              have hl0 : (0 : Int) < ln := by omega
              have HXS := Aside0.mk hxs
              have HGD := Aside0.mk hgd
              have HLN := Aside0.mk hln
              have HQN := Aside0.mk hqn
              clear hxs hgd hln hqn
              go_wp2_with (first
                | ((with_reducible refine gate_dst (N := 100) rfl ?_); go_must (((try (refine gate_guard (by rfl) ?_; dsimp only)); refine goesL_ (some 100) rfl rfl Try.func8 (by kernel_rfl) rfl #[.pointer (some ⟨g, 0, none⟩), .pointer (some ⟨h, 0, none⟩), .agg #[.int .i64 1, .int .i64 k, .int .i64 0, .int .i64 0, .int .u8 0, .slice none 0 0]] rfl ?hA ?_; (case hA => ((try simp only [List.map_toArray, List.map_cons, List.map_nil]); first | done | rfl)); refine (step_next_ok (by have := HL.out.len; have := HL.out.n8; omega) k z xs HK.out HXS.out (by simp only [List.length_cons]; have := HLN.out; have := HQN.out; omega) 0 0 0 none 0 0 _ HS.out).mono ?_; rintro e wn ⟨rfl, hs⟩; refine ⟨_, rfl, ?_⟩; have HS2 := Aside0.mk hs; clear hs))))
              have hlen : ((qs3.set k xs).getD k []).length = xs.length := by
                rw [List.getD_eq_getElem?_getD, List.getElem?_set_self HK.out]
                rfl
              go_roundg ((qs3.set k xs).getD k []).length
              case measure =>
                rw [hlen, HGD.out, HXS.out]
                simp
              case rel => exact ⟨qs3.set k xs, rfl, ⟨HL.out.set (Nat.le_refl _) k xs (by have := HLN.out; have := HQN.out; omega) (fun u hu => HL.out.xq _ (List.getElem_mem HK.out) u (by rw [HXS.out]; exact List.mem_cons_of_mem _ hu))⟩, ⟨HS2.out.step (by repeat (first | exact Below.refl _ _ | apply pw_below_drewN | apply below_drew1))⟩⟩
        · have hk2 : ¬ (k : Int) < m := by omega
          go_wp2
          go_ret
          exact ⟨rfl, (HS.out.step (by repeat (first | exact Below.refl _ _ | apply pw_below_drewN | apply below_drew1))).2⟩

end Go.Proofs.Yteeddalalfemmaa.K

namespace Go.Proofs.Yteeddalalfemmaa.K
open Go.RowKit Go.Proofs.YteeddalalfemmaaW.PrintWords Go.Proofs.YteeddalalfemmaaW.PrintLast Go.Proofs.YteeddalalfemmaaW.PrintMore
set_option linter.unusedVariables false
set_option linter.unusedSimpArgs false

theorem plays_walk (n : Int) (A : Option Addr) (c : Nat) (x : List OpL) (w : World) (h1 : Kd.C OK' w A x.length x) (hc : x.length ≤ c) :
    Calls Try.prog 3 #[.int .i64 n, .slice A x.length c] w fun e w' => e = .returned (.bool true) ∧ Below w.heap.size w w' := by
  obtain ⟨r, hr, hlt⟩ := light_calls A c x
  cases r with
  | false => exact plays_not_light n A x.length c x w h1 hc hlt
  | true =>
    by_cases hn : n < 1 ∨ 8 < n
    · exact plays_bad n A x.length c x w h1 hc hn hlt
    · obtain ⟨m, rfl⟩ : ∃ m : Nat, n = m := ⟨n.toNat, by omega⟩
      exact plays_good m A x.length c x w h1 hc rfl (by omega) (by omega) (hr rfl) hlt

section
open Go.ChangeShapes Go.WideShapes Go.ChangeAt Go.Deep
variable {H : Type} {enc : TypeId × Value → H} {w : World} {base : Nat} {spare : Nat → Bool} {held : Bool}
/-- A slice of bytes that came in, by its cell. -/
theorem open_bytes1 {v : Value} {y : DataW H × List MemPlace} {n : Nat} (h : DataW.trod enc Try.prog w base spare held n 33 [v] = some y) : ∃ l, Rd w v l := by
  rcases open_ints Try.underlying33 Try.underlying5 (by kernel_rfl) h with ⟨e, _⟩ | ⟨b, len, cap, zs, e, _, h1, h2, hz, _, hcells, hwz⟩
  · simp at e
    subst e
    exact ⟨[], Rd.nil _⟩
  · simp at e
    subst e
    have hz' : zs.length = cap ∨ zs.length = len := by
      rw [hz]
      split <;> simp
    rcases hz' with hz' | hz'
    · obtain ⟨l, hr, _⟩ := rd_of_row (w := w) (a := some b) (len := len) (cap := cap) (zs := zs) (.inr ⟨b, rfl, h1, h2, hz', hcells, hwz⟩)
      exact ⟨l, hr⟩
    · obtain ⟨l, hr, _⟩ := rd_of_row (w := w) (a := some b) (len := len) (cap := len) (zs := zs) (.inr ⟨b, rfl, Nat.le_refl _, Nat.le_trans h1 h2, hz', hcells, hwz⟩)
      obtain ⟨A', c', he, hc1, hC1⟩ := hr
      injection he with e1 e2 e3
      subst e1
      refine ⟨l, ?_⟩
      rw [e2] at h1 ⊢
      exact ⟨_, _, rfl, h1, hC1⟩
/-- A whole number that came in, by its cell. -/
theorem open_num1 {k : IntKind} {t : TypeId} (hu : Try.prog.underlying t = some (.int k)) {v : Value} {y : DataW H × List MemPlace} {n : Nat} (h : DataW.trod enc Try.prog w base spare held n t [v] = some y) : ∃ a, v = .int k a := by
  obtain ⟨a, e, _⟩ := DataW.trod_int hu h
  simp at e
  exact ⟨a, e⟩
/-- A script that came in. -/
theorem open_ops {d : DataW H} {p : List MemPlace} {a0 : Option Addr} {len0 cap0 : Nat} (h : DataW.Trod enc Try.prog w base spare held 22 (.slice a0 len0 cap0) d p) :
    ∃ x : List OpL, len0 = x.length ∧ x.length ≤ cap0 ∧ Kd.C OK' w a0 x.length x := by
  obtain ⟨hlc, hcm, ho⟩ := open_rows Try.underlying22 Try.underlying35 (by kernel_rfl) (by kernel_rfl) (cs := []) h
  have H1 : ∀ i, ∃ q : OpL, i < len0 → ∃ a cs, a0 = some a ∧ OK'.K w q cs ∧ cs.length = 6 ∧ ∀ j u, cs[j]? = some u → w.cell? (a.add (i * 6 + j)) = some u := by
    intro i
    by_cases hi : i < len0
    · obtain ⟨a, ha, hf⟩ := ho i hi
      obtain ⟨v0, y0, n0, c0, t0⟩ := hf 0 _ rfl
      obtain ⟨v1, y1, n1, c1, t1⟩ := hf 1 _ rfl
      obtain ⟨v2, y2, n2, c2, t2⟩ := hf 2 _ rfl
      obtain ⟨v3, y3, n3, c3, t3⟩ := hf 3 _ rfl
      obtain ⟨v4, y4, n4, c4, t4⟩ := hf 4 _ rfl
      obtain ⟨v5, y5, n5, c5, t5⟩ := hf 5 _ rfl
      obtain ⟨z0, rfl⟩ := open_num1 Try.underlying3 t0
      obtain ⟨z1, rfl⟩ := open_num1 Try.underlying3 t1
      obtain ⟨z2, rfl⟩ := open_num1 Try.underlying3 t2
      obtain ⟨z3, rfl⟩ := open_num1 Try.underlying3 t3
      obtain ⟨z4, rfl⟩ := open_num1 Try.underlying5 t4
      obtain ⟨l, A, c, rfl, hc, hC⟩ := open_bytes1 t5
      refine ⟨⟨z0, z1, z2, z3, z4, l⟩, fun _ => ⟨a, [.int .i64 z0, .int .i64 z1, .int .i64 z2, .int .i64 z3, .int .u8 z4, .slice A l.length c], ha, Z.k35_mk w ⟨z0, z1, z2, z3, z4, l⟩ hc hC, rfl, fun j u hu => ?_⟩⟩
      match j, hu with
      | 0, hu => simp at hu; subst hu; exact c0
      | 1, hu => simp at hu; subst hu; exact c1
      | 2, hu => simp at hu; subst hu; exact c2
      | 3, hu => simp at hu; subst hu; exact c3
      | 4, hu => simp at hu; subst hu; exact c4
      | 5, hu => simp at hu; subst hu; exact c5
    · exact ⟨⟨0, 0, 0, 0, 0, []⟩, fun h => absurd h hi⟩
  obtain ⟨f, hf⟩ := Classical.axiomOfChoice H1
  refine ⟨(List.range len0).map f, by simp, by simpa using hlc, ⟨rfl, ?_, fun hp => ?_⟩⟩
  · simp only [List.length_map, List.length_range]
    exact Nat.le_trans hlc hcm
  · simp only [List.length_map, List.length_range] at hp
    obtain ⟨a, _, ha, _⟩ := hf 0 hp
    refine ⟨a, ha, fun j q hj => ?_⟩
    have hjl : j < len0 := by
      have := (List.getElem?_eq_some_iff.1 hj).1
      simpa using this
    rw [List.getElem?_map, List.getElem?_range hjl] at hj
    simp at hj
    subst hj
    obtain ⟨a', cs, ha', hK, hl, hcs⟩ := hf j hjl
    rw [ha] at ha'
    injection ha' with ha'
    subst ha'
    exact ⟨cs, hl, hK, hcs⟩
end
end Go.Proofs.Yteeddalalfemmaa.K

/- cachetteref22: an item of a row stored anew. cachetteref22: Swap. cachetteref22: Turn. cachetteref22: what Turn refuses. -/
import Derived.Test.YteeddalalfemmaaMD
import Derived.Deep.Cut
namespace Go.Proofs.Yteeddalalfemmaa.K
open Go.RowKit Go.Proofs.YteeddalalfemmaaW.PrintWords Go.Proofs.YteeddalalfemmaaW.PrintLast Go.Proofs.YteeddalalfemmaaW.PrintMore
set_option linter.unusedVariables false
set_option linter.unusedSimpArgs false

theorem flat_set : ∀ (ps : List (Value × It)) (i : Nat) (p : Value × It), flat (ps.set i p) = ((flat ps).set (i * 2) p.1).set (i * 2 + 1) (.bool p.2.f1)
  | [], i, p => by simp [flat]
  | q :: r, 0, p => by simp [flat]
  | q :: r, i + 1, p => by
    have := flat_set r i p
    rw [show (i + 1) * 2 = i * 2 + 1 + 1 by omega]
    simp [flat] at this ⊢
    exact this
theorem cell_set (W : World) (a b : Addr) (u : Value) (h : (W.cell? a).isSome = true) : (W.setCell a u).cell? b = if b = a then some u else W.cell? b := by
  by_cases hb : b = a
  · subst hb
    rw [if_pos rfl]
    exact World.cell?_setCell_same' W b u h
  · rw [if_neg hb, World.cell?_setCell_other (h := fun e => hb e.symm)]
/-- One cell of a row is stored. -/
theorem Row.set1 {W : World} {size : Nat} {ok : Nat → Prop} {b off n cap : Nat} {olds : List Value} (h : Row W size ok (.slice (some ⟨b, off, none⟩) n cap) n olds) (i : Nat) (hi : i < n * size) (u : Value) : Row (W.setCell ⟨b, off + i, none⟩ u) size ok (.slice (some ⟨b, off, none⟩) n cap) n (olds.set i u) := by
  rcases h with ⟨rfl, _⟩ | ⟨b', off', cap', hv, h2, h3, h4, h5, h6, h7, h8⟩
  · simp at hi
  · injection hv with e1 e2 e3
    injection e1 with e1
    injection e1 with e1 e4
    subst e1 e3 e4
    have hlt : n * size ≤ cap * size := Nat.mul_le_mul_right _ h3
    have hs := (h8 i (by omega)).1
    refine .inr ⟨b, off, cap, rfl, h2, h3, h4, h5, by rw [List.length_set]; exact h6, fun j hj => ?_, fun j hj => ⟨?_, ?_⟩⟩
    · rw [List.length_set] at hj
      rw [cell_set _ _ _ _ hs]
      by_cases hji : j = i
      · subst hji
        rw [if_pos rfl, List.getElem?_set_self hj]
      · rw [if_neg (fun e => hji (by injection e with _ e; omega)), List.getElem?_set_ne (Ne.symm hji)]
        exact h7 j hj
    · rw [cell_set _ _ _ _ hs]
      split
      · rfl
      · exact (h8 j hj).1
    · rw [World.frozen?_setCell]
      exact (h8 j hj).2
/-- An item is stored. -/
theorem Row.set {W : World} {ok : Nat → Prop} {b off n cap : Nat} {ps : List (Value × It)} (h : Row W 2 ok (.slice (some ⟨b, off, none⟩) n cap) n (flat ps)) (i : Nat) (hi : i < n) (p : Value × It) :
    Row ((W.setCell ⟨b, off + i * 2, none⟩ p.1).setCell ⟨b, off + i * 2 + 1, none⟩ (.bool p.2.f1)) 2 ok (.slice (some ⟨b, off, none⟩) n cap) n (flat (ps.set i p)) := by
  rw [flat_set, Nat.add_assoc]
  exact (h.set1 (i * 2) (by omega) p.1).set1 (i * 2 + 1) (by omega) _
end Go.Proofs.Yteeddalalfemmaa.K

namespace Go.Proofs.Yteeddalalfemmaa.K
open Go.RowKit Go.Proofs.YteeddalalfemmaaW.PrintWords Go.Proofs.YteeddalalfemmaaW.PrintLast Go.Proofs.YteeddalalfemmaaW.PrintMore
set_option linter.unusedVariables false
set_option linter.unusedSimpArgs false

/-- An item's two cells in a row. -/
theorem Row.cells {W : World} {ok : Nat → Prop} {b off n cap : Nat} {ps : List (Value × It)} (h : Row W 2 ok (.slice (some ⟨b, off, none⟩) n cap) n (flat ps)) (hn : ps.length = n) (i : Nat) (p : Value × It) (u : Value) (t : Bool) (hp : ps[i]? = some p) (hu : p.1 = u) (ht : p.2.f1 = t) :
    W.cell? ⟨b, off + i * 2, none⟩ = some u ∧ W.cell? ⟨b, off + i * 2 + 1, none⟩ = some (.bool t) ∧ W.frozen? ⟨b, off + i * 2, none⟩ = false ∧ W.frozen? ⟨b, off + i * 2 + 1, none⟩ = false ∧ ok b := by
  have hi : i < n := by
    have := (List.getElem?_eq_some_iff.1 hp).1
    omega
  obtain ⟨b', off', cap', hv, hc, hok, hat, hsp⟩ := h.at (by omega)
  injection hv with e1 e2 e3
  injection e1 with e1
  injection e1 with e1 e4
  subst e1 e3 e4
  obtain ⟨f0, f1⟩ := flat_at ps i p hp
  rw [hu] at f0
  rw [ht] at f1
  exact ⟨(hat _ (by omega)).trans f0, (hat (i * 2 + 1) (by omega)).trans f1, (hsp _ (by omega)).2, (hsp (i * 2 + 1) (by omega)).2, hok⟩
/-- An item's own box. -/
theorem box_two (W : World) (u v : Value) : Below W.heap.size W (W.alloc (.cells #[u, v] 69)) ∧ (W.alloc (.cells #[u, v] 69)).cell? ⟨W.heap.size, 0, none⟩ = some u ∧ (W.alloc (.cells #[u, v] 69)).cell? ⟨W.heap.size, 1, none⟩ = some v :=
  ⟨below_alloc (Below.refl _ _) _, (World.cell?_alloc_new W _ _ 0).trans rfl, (World.cell?_alloc_new W _ _ 1).trans rfl⟩
/-- Two cells of a block of one's own are stored. -/
theorem two_below {s : Nat} {w W : World} (h : Below s w W) (q i j : Nat) (hq : s ≤ q) (u v : Value) : Below s w ((W.setCell ⟨q, i, none⟩ u).setCell ⟨q, j, none⟩ v) := (h.setCell (p := ⟨q, i, none⟩) hq _).setCell (p := ⟨q, j, none⟩) hq _
theorem two_other {W : World} {a : Addr} {x : Value} (h : W.cell? a = some x) (q i j : Nat) (hq : a.block ≠ q) (u v : Value) : ((W.setCell ⟨q, i, none⟩ u).setCell ⟨q, j, none⟩ v).cell? a = some x := by
  rw [World.cell?_setCell_other (h := fun e => hq (by rw [← e])), World.cell?_setCell_other (h := fun e => hq (by rw [← e]))]
  exact h

set_option maxRecDepth 100000 in
set_option maxHeartbeats 8000000 in
theorem mswap_ok (g gq m i k : Nat) (col : Nat → Nat) (vw : List It) (qs : List (List It)) (xs : List It) (x y : It) (w0 w : World) (hR : Mel w w0.heap.size g gq col vw qs) (hm : m < qs.length) (hxs : qs[m] = xs) (hi : i < xs.length) (hx : xs[i] = x) (hk : k < xs.length) (hy : xs[k] = y) (hq9 : xs.length ≤ 90000) (hB : Below w0.heap.size w0 w) :
    Calls Try.prog 22 #[.pointer (some ⟨g, 0, none⟩), .int .i64 m, .int .i64 i, .int .i64 k] w fun e w' => e = .returned (.bool true) ∧ Mid w0 w w' g gq col vw (qs.set m ((xs.set i y).set k x)) := by
  obtain ⟨cA, hcol, hR, hLA⟩ := hR.recol' (11 + m)
  obtain ⟨vv, pv, h1, _⟩ := hR.blk
  obtain ⟨cs, v, ps, h3, h4, e, r, e2, gg⟩ := hR.queue m hm _ hxs
  have hpl : ps.length = xs.length := by rw [← e2]; simp
  obtain ⟨b, off, cap, rfl, hcap, hd1, hd2, hd3⟩ := r.at (by omega)
  clear hd1 hd2 hd3
  obtain ⟨n, hn⟩ : ∃ n, ps.length = n := ⟨_, rfl⟩
  rw [hn] at r e hcap
  obtain ⟨p, hp⟩ : ∃ p, ps[i]? = some p := ⟨ps[i]'(by omega), List.getElem?_eq_getElem (by omega)⟩
  have hgp : Bs w w0.heap.size cA p.1 p.2.f0 := gg p (List.mem_of_getElem? hp)
  obtain ⟨Ab, cb, hvp, _, _⟩ := Kd.R_reads hgp
  obtain ⟨la, hlp⟩ : ∃ l, p.2.f0.length = l := ⟨_, rfl⟩
  obtain ⟨pt, htp⟩ : ∃ t, p.2.f1 = t := ⟨_, rfl⟩
  rw [hlp] at hvp
  have HPp := Aside0.mk hp
  have HVp := Aside0.mk hvp
  have HTp := Aside0.mk htp
  obtain ⟨u, hu⟩ : ∃ p, ps[k]? = some p := ⟨ps[k]'(by omega), List.getElem?_eq_getElem (by omega)⟩
  have hgu : Bs w w0.heap.size cA u.1 u.2.f0 := gg u (List.mem_of_getElem? hu)
  obtain ⟨A2, c2, hvu, _, _⟩ := Kd.R_reads hgu
  obtain ⟨l2, hlu⟩ : ∃ l, u.2.f0.length = l := ⟨_, rfl⟩
  obtain ⟨p2, htu⟩ : ∃ t, u.2.f1 = t := ⟨_, rfl⟩
  rw [hlu] at hvu
  have HPu := Aside0.mk hu
  have HVu := Aside0.mk hvu
  have HTu := Aside0.mk htu
  have hsnd : (((ps.set i u).set k p).map Prod.snd) = (xs.set i y).set k x := by
    have hpx : p.2 = x := by
      rw [← hx]
      have := congrArg (fun l => l[i]?) e2
      simp only [List.getElem?_map, hp] at this
      rw [List.getElem?_eq_getElem hi] at this
      simpa using this
    have huy : u.2 = y := by
      rw [← hy]
      have := congrArg (fun l => l[k]?) e2
      simp only [List.getElem?_map, hu] at this
      rw [List.getElem?_eq_getElem hk] at this
      simpa using this
    rw [List.map_set, List.map_set, e2, hpx, huy]
  have hgs : Good w w0.heap.size cA ((ps.set i u).set k p) := by
    intro z hz
    rcases List.mem_or_eq_of_mem_set hz with hz | rfl
    · rcases List.mem_or_eq_of_mem_set hz with hz | rfl
      · exact gg z hz
      · exact hgu
    · exact hgp
  have c0 : w.cell? ⟨g, 0, none⟩ = some (.slice (some ⟨gq, 0, none⟩) qs.length qs.length) := (blk_cell h1 0).trans rfl
  have c1 : w.cell? ⟨gq, m, none⟩ = some (.slice (some ⟨b, off, none⟩) n cap) := (blk_cell h3 m).trans e
  have HLT : Aside0 (g < w.heap.size ∧ gq < w.heap.size) := ⟨blk_lt h1, blk_lt h3⟩
  have HD : Aside0 (decide (hasQ qs (m : Int) (i : Int)) = true) := ⟨decide_eq_true ⟨by simpa using hm, by omega, by omega, by simpa [hxs] using hi⟩⟩
  have HD2 : Aside0 (decide (hasQ qs (m : Int) (k : Int)) = true) := ⟨decide_eq_true ⟨by simpa using hm, by omega, by omega, by simpa [hxs] using hk⟩⟩
  have hm0 : (0 : Int) ≤ m := by omega
  have hm1 : (m : Int) < qs.length := by omega
  have hi0 : (0 : Int) ≤ i := by omega
  have hin : i < n := by omega
  have hi1 : (i : Int) < n := by omega
  have hk0 : (0 : Int) ≤ k := by omega
  have hkn : k < n := by omega
  have hk1 : (k : Int) < n := by omega
  have hn9 : n ≤ 90000 := by omega
  have hnc : (n : Int) ≤ cap := by omega
  have HR := Aside0.mk hR
  have Hr := Aside0.mk r
  have HB := Aside0.mk hB
  have H1 := Aside0.mk h1
  have H3 := Aside0.mk h3
  have HGG := Aside0.mk gg
  have HGS := Aside0.mk hgs
  have HSN := Aside0.mk hsnd
  have HM := Aside0.mk hm
  have HN := Aside0.mk hn
  have HC := Aside0.mk hcol
  have HLA := Aside0.mk hLA
  clear hq9 hR r hB h1 h3 h4 gg e2 e hn hcol hLA hpl hxs hp hu hvp hvu hlp hlu htp htu hgp hgu hx hy hgs hsnd hi hk
  go_enter Try.func22, Try.ntmps22
  go_upto_region 4 with (first
      | ((with_reducible refine gate_dst (N := 14) rfl ?_); go_must (((try (refine gate_guard (by rfl) ?_; dsimp only)); refine goesL_ (some 14) rfl rfl Try.func36 (by kernel_rfl) rfl #[.pointer (some ⟨g, 0, none⟩), .int .i64 m, .int .i64 i] rfl ?hA ?_; (case hA => ((try simp only [List.map_toArray, List.map_cons, List.map_nil]); first | done | rfl)); refine (mhas_calls g gq m i cA vw qs _ _ HR.out).mono ?_; rintro e w9 ⟨rfl, ⟨m9, rfl⟩⟩; refine ⟨_, rfl, ?_⟩; rw [HD.out])))
      | ((with_reducible refine gate_dst (N := 20) rfl ?_); go_must (((try (refine gate_guard (by rfl) ?_; dsimp only)); refine goesL_ (some 20) rfl rfl Try.func36 (by kernel_rfl) rfl #[.pointer (some ⟨g, 0, none⟩), .int .i64 m, .int .i64 k] rfl ?hA ?_; (case hA => ((try simp only [List.map_toArray, List.map_cons, List.map_nil]); first | done | rfl)); refine (mhas_calls g gq m k cA vw qs _ _ (HR.out.below (pw_below_drewN (Below.refl _ _) m9))).mono ?_; rintro e w9 ⟨rfl, ⟨n9, rfl⟩⟩; refine ⟨_, rfl, ?_⟩; rw [HD2.out]; have kA0 : ((w.drewN (m9 + n9)).alloc (.cells #[] 69)).cell? ⟨g, 0, none⟩ = _ := pw_cell_below (below_alloc (pw_below_drewN (Below.refl _ _) (m9 + n9)) _) c0; have kA1 : ((w.drewN (m9 + n9)).alloc (.cells #[] 69)).cell? ⟨gq, m, none⟩ = _ := pw_cell_below (below_alloc (pw_below_drewN (Below.refl _ _) (m9 + n9)) _) c1)))
      | ((with_reducible refine gate_builtin (b := .append) (xs := #[.tmp 23, .tmp 30]) rfl ?_); at_builtin; go_must ((refine row_plain rfl (.tmp 23) (.tmp 30) 43 43 69 (.agg #[.slice none 0 0, .bool false]) 2 32 rfl Try.underlying43 infoIm rfl (by decide) (by decide) _ (.slice (some ⟨b, off, none⟩) n cap) 0 n [] (flat ps) (fun _ => False) rfl rfl (Row.nil _ _ _ _) (Row.src (Hr.out.below (by decide) (by repeat (first | exact Below.refl _ _ | apply below_alloc | apply pw_below_drewN | apply below_drew1))) Try.underlying43 (Good.one HGG.out)) (by omega) ?_; intro v31 w31 hr31 hl31; obtain ⟨hr31, hb31⟩ := row_first (w := w) (by repeat (first | exact Below.refl _ _ | apply below_alloc | apply pw_below_drewN | apply below_drew1)) hr31 hl31; have HR31 := Aside0.mk hr31; have HB31 := Aside0.mk hb31; clear kA0 kA1 hr31 hl31 hb31))))
  obtain ⟨q, o, c, rfl, hcq, hokq, hd2, hsp⟩ := HR31.out.at (by have := HN.out; omega)
  have hqX : ¬ w31.heap.size = q := by
    have := Row.lt (W := w31) (size := 2) (by decide) (show 0 < c by have := HN.out; omega) hsp
    omega
  clear hd2 hsp
  have hcq2 : (n : Int) ≤ c := by omega
  have hcq3 : n ≤ c := by omega
  obtain ⟨z0, z1, _, _, _⟩ := Row.cells HR31.out HN.out i p _ _ HPp.out HVp.out HTp.out
  have x0 : (w31.alloc (.cells #[.slice none 0 0, .bool false] 69)).cell? ⟨w31.heap.size, 0, none⟩ = some (.slice none 0 0) := (World.cell?_alloc_new w31 _ _ 0).trans rfl
  have x1 : (w31.alloc (.cells #[.slice none 0 0, .bool false] 69)).cell? ⟨w31.heap.size, 1, none⟩ = some (.bool false) := (World.cell?_alloc_new w31 _ _ 1).trans rfl
  go_upto_region 5 with fail
  clear x0 x1 z0 z1
  obtain ⟨hb5, x0, x1⟩ := box_two w31 (.slice Ab la cb) (.bool pt)
  have hsz := HB31.out.size
  generalize hX : w31.heap.size = X at hb5 x0 x1 hqX hsz ⊢
  generalize w31.alloc (.cells #[.slice Ab la cb, .bool pt] 69) = W5 at hb5 x0 x1 ⊢
  have HB5 : Aside0 (Below w.heap.size w W5) := ⟨below_step HB31.out (by rw [hX]; exact hb5)⟩
  have HR5 : Aside0 (Row W5 2 (fun k => w.heap.size ≤ k) (.slice (some ⟨q, o, none⟩) n c) n (flat ps)) := ⟨HR31.out.below (by decide) (by rw [hX]; exact hb5)⟩
  have hqg : g ≠ q := by have := HLT.out; omega
  have hqgq : gq ≠ q := by have := HLT.out; omega
  obtain ⟨y0, y1, _, _, _⟩ := Row.cells HR5.out HN.out k u _ _ HPu.out HVu.out HTu.out
  obtain ⟨z0, z1, z2, z3, _⟩ := Row.cells HR5.out HN.out i p _ _ HPp.out HVp.out HTp.out
  clear hb5 hX
  go_upto_region 6 with fail
  clear y0 y1 z0 z1 z2 z3
  have HR6 := Aside0.mk (HR5.out.set i hin u)
  rw [HVu.out, HTu.out] at HR6
  have HB6 := Aside0.mk (two_below HB5.out q (o + i * 2) (o + i * 2 + 1) hokq (.slice A2 l2 c2) (.bool p2))
  replace x0 := two_other x0 q (o + i * 2) (o + i * 2 + 1) hqX (.slice A2 l2 c2) (.bool p2)
  replace x1 := two_other x1 q (o + i * 2) (o + i * 2 + 1) hqX (.slice A2 l2 c2) (.bool p2)
  generalize ((W5.setCell ⟨q, o + i * 2, none⟩ (.slice A2 l2 c2)).setCell ⟨q, o + i * 2 + 1, none⟩ (.bool p2)) = W6 at HR6 HB6 x0 x1 ⊢
  obtain ⟨v6, hv6, hu6, ht6⟩ : ∃ v6, (ps.set i u)[k]? = some v6 ∧ v6.1 = .slice A2 l2 c2 ∧ v6.2.f1 = p2 := by
    by_cases hik : i = k
    · subst hik
      exact ⟨u, by rw [List.getElem?_set_self (by have := HN.out; omega)], HVu.out, HTu.out⟩
    · exact ⟨u, by rw [List.getElem?_set_ne hik]; exact HPu.out, HVu.out, HTu.out⟩
  obtain ⟨z0, z1, z2, z3, _⟩ := Row.cells HR6.out (by rw [List.length_set]; exact HN.out) k v6 _ _ hv6 hu6 ht6
  clear hv6 hu6 ht6
  go_upto_region 7 with fail
  clear z0 z1 z2 z3 x0 x1
  have HR7 := Aside0.mk (HR6.out.set k hkn p)
  rw [HVp.out, HTp.out] at HR7
  have HB7 := Aside0.mk (two_below HB6.out q (o + k * 2) (o + k * 2 + 1) hokq (.slice Ab la cb) (.bool pt))
  generalize ((W6.setCell ⟨q, o + k * 2, none⟩ (.slice Ab la cb)).setCell ⟨q, o + k * 2 + 1, none⟩ (.bool pt)) = W7 at HR7 HB7 ⊢
  have h37 := blk_below H3.out HB7.out
  have f7 := blk_frozen h37 m
  replace c0 := pw_cell_below HB7.out c0
  replace c1 := pw_cell_below HB7.out c1
  clear h37
  go_wp2
  go_ret
  refine ⟨rfl, ?_⟩
  have hlen : ((ps.set i u).set k p).length = n := by rw [List.length_set, List.length_set]; exact HN.out
  have key := mid_row HR.out HLA.out HC.out HM.out H3.out HB.out HB7.out _ (by rw [hlen]; exact HR7.out) (fun _ h => h) (fun z hz => (HGS.out z hz).below HB7.out)
  rw [HSN.out] at key
  exact key
end Go.Proofs.Yteeddalalfemmaa.K

namespace Go.Proofs.Yteeddalalfemmaa.K
open Go.RowKit Go.Proofs.YteeddalalfemmaaW.PrintWords Go.Proofs.YteeddalalfemmaaW.PrintLast Go.Proofs.YteeddalalfemmaaW.PrintMore
set_option linter.unusedVariables false
set_option linter.unusedSimpArgs false

theorem Mid.after {w0 w w1 w2 : World} {g gq : Nat} {col cA : Nat → Nat} {vw : List It} {qs : List (List It)} (h : Mid w0 w1 w2 g gq cA vw qs) (hL : Lef w w1 col cA) : Mid w0 w w2 g gq col vw qs := by
  obtain ⟨⟨c2, h1, h2⟩, h3⟩ := h
  exact ⟨⟨c2, h1, hL.trans h2⟩, h3⟩

set_option maxRecDepth 100000 in
set_option maxHeartbeats 8000000 in
theorem mturn_ok (g gq m i a : Nat) (y : Int) (col : Nat → Nat) (vw : List It) (qs : List (List It)) (xs : List It) (l : List Int) (w0 w : World) (hR : Mel w w0.heap.size g gq col vw qs) (hm : m < qs.length) (hxs : qs[m] = xs) (hi : i < xs.length) (hx : xs[i] = ⟨l, false⟩) (ha : a < l.length) (hl : l.length ≤ 100000) (hq9 : xs.length ≤ 90000) (hB : Below w0.heap.size w0 w) :
    Calls Try.prog 24 #[.pointer (some ⟨g, 0, none⟩), .int .i64 m, .int .i64 i, .int .i64 a, .int .u8 y] w fun e w' => e = .returned (.bool true) ∧ Mid w0 w w' g gq col vw (qs.set m (xs.set i ⟨l.set a (bits .xor .u8 (rd l a) y), true⟩)) := by
  obtain ⟨cA, hcol, hR, hLA⟩ := hR.recol' 9
  obtain ⟨vv, pv, h1, _⟩ := hR.blk
  obtain ⟨cs, v, ps, h3, h4, e, r, e2, gg⟩ := hR.queue m hm _ hxs
  have hpl : ps.length = xs.length := by rw [← e2]; simp
  obtain ⟨b, off, cap, rfl, hcap, hd1, hd2, hd3⟩ := r.at (by omega)
  clear hd1 hd2 hd3
  obtain ⟨n, hn⟩ : ∃ n, ps.length = n := ⟨_, rfl⟩
  rw [hn] at r e hcap
  obtain ⟨p, hp⟩ : ∃ p, ps[i]? = some p := ⟨ps[i]'(by omega), List.getElem?_eq_getElem (by omega)⟩
  have hpx : p.2 = ⟨l, false⟩ := by
    rw [← hx]
    have := congrArg (fun l => l[i]?) e2
    simp only [List.getElem?_map, hp] at this
    rw [List.getElem?_eq_getElem hi] at this
    simpa using this
  have hgp : Bs w w0.heap.size cA p.1 p.2.f0 := gg p (List.mem_of_getElem? hp)
  rw [hpx] at hgp
  have hrp : Rd w p.1 l := hgp.rd
  obtain ⟨Ab, cb, hvp, _, _⟩ := Kd.R_reads hgp
  obtain ⟨la, hla⟩ : ∃ n, l.length = n := ⟨_, rfl⟩
  have hvp' : p.1 = .slice Ab la cb := by rw [← hla]; exact hvp
  rw [hvp'] at hrp
  obtain ⟨z0, z1, _, _, _⟩ := Row.cells r hn i p _ _ hp hvp' (by rw [hpx])
  have hsnd : ∀ (u : Value) (l' : List Int), ((ps.set i (u, (⟨l', true⟩ : It))).map Prod.snd) = xs.set i ⟨l', true⟩ := by
    intro u l'
    rw [List.map_set, e2]
  have c0 : w.cell? ⟨g, 0, none⟩ = some (.slice (some ⟨gq, 0, none⟩) qs.length qs.length) := (blk_cell h1 0).trans rfl
  have c1 : w.cell? ⟨gq, m, none⟩ = some (.slice (some ⟨b, off, none⟩) n cap) := (blk_cell h3 m).trans e
  have HLT : Aside0 (g < w.heap.size ∧ gq < w.heap.size) := ⟨blk_lt h1, blk_lt h3⟩
  have HD : Aside0 (decide (hasQ qs (m : Int) (i : Int)) = true) := ⟨decide_eq_true ⟨by simpa using hm, by omega, by omega, by simpa [hxs] using hi⟩⟩
  have hm0 : (0 : Int) ≤ m := by omega
  have hm1 : (m : Int) < qs.length := by omega
  have hi0 : (0 : Int) ≤ i := by omega
  have hin : i < n := by omega
  have hi1 : (i : Int) < n := by omega
  have hal : a < la := by omega
  have ha0 : (0 : Int) ≤ a := by omega
  have ha1 : (a : Int) < la := by omega
  have hn9 : n ≤ 90000 := by omega
  have hnc : (n : Int) ≤ cap := by omega
  have hd0 : decide ((a : Int) < 0) = false := decide_eq_false (by omega)
  have hd1 : decide ((la : Int) ≤ a) = false := decide_eq_false (by omega)
  have HR := Aside0.mk hR
  have Hr := Aside0.mk r
  have HB := Aside0.mk (Below.refl w.heap.size w)
  have HBB := Aside0.mk hB
  have H1 := Aside0.mk h1
  have H3 := Aside0.mk h3
  have HGG := Aside0.mk gg
  have HSN := Aside0.mk hsnd
  have HM := Aside0.mk hm
  have HN := Aside0.mk hn
  have HC := Aside0.mk hcol
  have HLA := Aside0.mk hLA
  have HRp := Aside0.mk hrp
  have HL := Aside0.mk hl
  have HLL := Aside0.mk hla
  clear hq9 hR r hB h1 h3 h4 gg e2 e hn hcol hLA hpl hxs hp hvp hvp' hgp hx hsnd hi hpx hrp hla hl ha
  go_enter Try.func24, Try.ntmps24
  go_upto_region 4 with (first
    | ((with_reducible refine gate_dst (N := 16) rfl ?_); go_must (((try (refine gate_guard (by rfl) ?_; dsimp only)); refine goesL_ (some 16) rfl rfl Try.func36 (by kernel_rfl) rfl #[.pointer (some ⟨g, 0, none⟩), .int .i64 m, .int .i64 i] rfl ?hA ?_; (case hA => ((try simp only [List.map_toArray, List.map_cons, List.map_nil]); first | done | rfl)); refine (mhas_calls g gq m i cA vw qs _ _ HR.out).mono ?_; rintro e w16 ⟨rfl, ⟨m16, rfl⟩⟩; refine ⟨_, rfl, ?_⟩; rw [HD.out]; replace HB := Aside0.mk (pw_below_drewN HB.out m16))))
    | (((with_reducible refine gate_dst (N := 51) rfl ?_); go_must (((try (refine gate_guard (by rfl) ?_; dsimp only)); refine lit_bytes (w0 := w) (w).heap.size 51 ?hg ?hd ([]) ?hr ?hm HB.out HB.out.size ?_; (case hd => rfl); (case hg => rfl); (case hr => first | (go_simp; done) | (go_simp; rfl)); (case hm => simp); intro vHO51 wHO51 ho hb hbw; have HO51 := Aside0.mk ho; clear HB; have HB := Aside0.mk hb; clear ho hb hbw))); have k0 := pw_cell_below HB.out c0; have k1 := pw_cell_below HB.out c1; have k2 := pw_cell_below HB.out z0)
    | (((with_reducible refine gate_builtin (b := .append) (xs := #[.tmp 51, .tmp 62]) rfl ?_); at_builtin; go_must (((try (refine gate_guard (by rfl) ?_; dsimp only)); refine app_bytes (w0 := w) (w).heap.size rfl (.tmp 51) (.tmp 62) 33 rfl Try.underlying33 info5 _ _ ([]) (l) rfl rfl HO51.out ?aR HB.out HB.out.size ?aL ?_; (case aR => exact HRp.out.below HB.out); (case aL => (have := HL.out; simp; omega)); intro vHO63 wHO63 ho hb hg; have HO63 := Aside0.mk ho; clear HB; have HB := Aside0.mk hb; clear ho hb hg))); rw [List.nil_append] at HO63; clear k0 k1 k2))
  have hRx := own_bytes HO63.out (fun k hk _ => HC.out k hk)
  obtain ⟨bx, cx, hvx, hbase, hbx, cells, hcells⟩ := Kd.R_form hRx (by rw [HLL.out]; omega)
  subst hvx
  rw [HLL.out] at hRx
  have HRX := Aside0.mk hRx
  have HBX := Aside0.mk hbase
  have cx0 : wHO63.cell? ⟨bx, a, none⟩ = some (.int .u8 (rd l (a : Int))) := by
    obtain ⟨_, hcb, hC⟩ := Kd.R_reads' hRx
    have hC' : Kd.C (Kd.int .u8) wHO63 (some ⟨bx, 0, none⟩) l.length l := hC
    obtain ⟨ad, he, hx⟩ := Kd.at_int hC' a (by omega) (by rw [HLL.out]; omega)
    injection he with he
    subst he
    rw [Int.toNat_natCast, add0] at hx
    exact hx
  have fx : wHO63.frozen? ⟨bx, a, none⟩ = false := blk_frozen hcells a
  rw [HLL.out]
  clear hRx hbase hcells hbx
  go_upto_region 5 with fail
  clear cx0 fx
  have HB4 := Aside0.mk (HB.out.setCell (p := ⟨bx, a, none⟩) HBX.out (.int .u8 (bits .xor .u8 (rd l (a : Int)) y)))
  have HX4 := Aside0.mk (own_store HRX.out a hal (bits .xor .u8 (rd l (a : Int)) y))
  generalize hz : bits .xor .u8 (rd l (a : Int)) y = z at HB4 HX4 ⊢
  have HZ := Aside0.mk hz
  clear hz
  generalize wHO63.setCell ⟨bx, a, none⟩ (.int .u8 z) = W4 at HB4 HX4 ⊢
  obtain ⟨cB, hcB, hMB, hLB⟩ := (HR.out.below HB4.out).recol' (11 + m)
  have HMB := Aside0.mk hMB
  have HLB := Aside0.mk hLB
  have HCB := Aside0.mk hcB
  have k0 : (W4.alloc (.cells #[] 69)).cell? ⟨g, 0, none⟩ = _ := pw_cell_below (below_alloc HB4.out _) c0
  have k1 : (W4.alloc (.cells #[] 69)).cell? ⟨gq, m, none⟩ = _ := pw_cell_below (below_alloc HB4.out _) c1
  clear hcB hMB hLB z0 z1
  go_upto_region 6 with (first
    | ((with_reducible refine gate_builtin (b := .append) (xs := #[.tmp 73, .tmp 80]) rfl ?_); at_builtin; go_must ((refine row_plain rfl (.tmp 73) (.tmp 80) 43 43 69 (.agg #[.slice none 0 0, .bool false]) 2 32 rfl Try.underlying43 infoIm rfl (by decide) (by decide) _ (.slice (some ⟨b, off, none⟩) n cap) 0 n [] (flat ps) (fun _ => False) rfl rfl (Row.nil _ _ _ _) (Row.src (Hr.out.below (by decide) (below_alloc HB4.out _)) Try.underlying43 (Good.one HGG.out)) (by omega) ?_; intro v81 w81 hr81 hl81; obtain ⟨hr81, hb81⟩ := row_first (w := W4) (by repeat (first | exact Below.refl _ _ | apply below_alloc | apply pw_below_drewN | apply below_drew1)) hr81 hl81; have HR81 := Aside0.mk hr81; have HB81 := Aside0.mk hb81; clear k0 k1 hr81 hl81 hb81))))
  obtain ⟨q, o, c, rfl, hcq, hokq, hd2, hsp⟩ := HR81.out.at (by have := HN.out; omega)
  clear hd2 hsp
  have hcq2 : (n : Int) ≤ c := by omega
  have hcq3 : n ≤ c := by omega
  obtain ⟨p, hp⟩ : ∃ p, ps[i]? = some p := ⟨ps[i]'(by have := HN.out; omega), List.getElem?_eq_getElem (by have := HN.out; omega)⟩
  obtain ⟨z0, z1, z2, z3, _⟩ := Row.cells HR81.out HN.out i p _ _ hp rfl rfl
  clear hp
  go_upto_region 7 with fail
  clear z0 z1 z2 z3 p
  have HR6 := Aside0.mk (HR81.out.set i hin ((.slice (some ⟨bx, 0, none⟩) la cx : Value), (⟨l.set a z, true⟩ : It)))
  have HB6 := Aside0.mk (two_below HB81.out q (o + i * 2) (o + i * 2 + 1) hokq (.slice (some ⟨bx, 0, none⟩) la cx) (.bool true))
  dsimp only at HR6
  generalize ((w81.setCell ⟨q, o + i * 2, none⟩ (.slice (some ⟨bx, 0, none⟩) la cx)).setCell ⟨q, o + i * 2 + 1, none⟩ (.bool true)) = W6 at HR6 HB6 ⊢
  have hb6 := below_step HB4.out HB6.out
  have h36 := blk_below H3.out hb6
  have f6 := blk_frozen h36 m
  replace c0 := pw_cell_below hb6 c0
  replace c1 := pw_cell_below hb6 c1
  have HB66 := Aside0.mk hb6
  clear h36 hb6
  go_wp2
  go_ret
  refine ⟨rfl, ?_⟩
  rw [HZ.out]
  have hlen : (ps.set i ((.slice (some ⟨bx, 0, none⟩) la cx : Value), (⟨l.set a z, true⟩ : It))).length = n := by rw [List.length_set]; exact HN.out
  have hgs : Good W6 w0.heap.size cB (ps.set i ((.slice (some ⟨bx, 0, none⟩) la cx : Value), (⟨l.set a z, true⟩ : It))) := by
    intro s hs
    rcases List.mem_or_eq_of_mem_set hs with hs | rfl
    · exact HGG.out.recol HB66.out (fun k hk => HLB.out.2.1 k (Nat.lt_of_lt_of_le hk HB4.out.size)) s hs
    · exact Bs.step (W := W4) (col := cA) (Kd.R_lower HX4.out HBB.out.size) (fun k hk _ => HB6.out.block k hk) HLB.out.2.1
  have key := mid_row HMB.out HLB.out HCB.out HM.out (blk_below H3.out HB4.out) (below_step HBB.out HB4.out) HB6.out _ (by rw [hlen]; exact HR6.out) (fun _ h => h) hgs
  rw [HSN.out] at key
  exact key.after (HLA.out.trans (Lef.below cA HB4.out))
end Go.Proofs.Yteeddalalfemmaa.K

namespace Go.Proofs.Yteeddalalfemmaa.K
open Go.RowKit Go.Proofs.YteeddalalfemmaaW.PrintWords Go.Proofs.YteeddalalfemmaaW.PrintLast Go.Proofs.YteeddalalfemmaaW.PrintMore
set_option linter.unusedVariables false
set_option linter.unusedSimpArgs false

set_option maxRecDepth 100000 in
set_option maxHeartbeats 2000000 in
theorem mturn_none (g gq : Nat) (i j a y : Int) (col : Nat → Nat) (vw : List It) (qs : List (List It)) (b0 : Nat) (w : World) (hR : Mel w b0 g gq col vw qs) (hn : ¬ hasQ qs i j) :
    Calls Try.prog 24 #[.pointer (some ⟨g, 0, none⟩), .int .i64 i, .int .i64 j, .int .i64 a, .int .u8 y] w fun e w' => e = .returned (.bool false) ∧ Below w.heap.size w w' := by
  have HR := Aside0.mk hR
  have HD : Aside0 (decide (hasQ qs i j) = false) := ⟨decide_eq_false hn⟩
  clear hR hn
  go_enter Try.func24, Try.ntmps24
  go_wp2_with (first
    | ((with_reducible refine gate_dst (N := 16) rfl ?_); go_must (((try (refine gate_guard (by rfl) ?_; dsimp only)); refine goesL_ (some 16) rfl rfl Try.func36 (by kernel_rfl) rfl #[.pointer (some ⟨g, 0, none⟩), .int .i64 i, .int .i64 j] rfl ?hA ?_; (case hA => ((try simp only [List.map_toArray, List.map_cons, List.map_nil]); first | done | rfl)); refine (mhas_calls g gq i j col vw qs _ _ HR.out).mono ?_; rintro e w9 ⟨rfl, ⟨m9, rfl⟩⟩; refine ⟨_, rfl, ?_⟩; rw [HD.out]))))
  go_ret
  exact ⟨rfl, by repeat (first | exact Below.refl _ _ | apply pw_below_drewN)⟩

set_option maxRecDepth 100000 in
set_option maxHeartbeats 2000000 in
theorem mturn_no (g gq m i : Nat) (at_ y : Int) (col : Nat → Nat) (vw : List It) (qs : List (List It)) (xs : List It) (b0 : Nat) (w : World) (hR : Mel w b0 g gq col vw qs) (hm : m < qs.length) (hxs : qs[m] = xs) (hi : i < xs.length) (hn : at_ < 0 ∨ (xs[i].f0.length : Int) ≤ at_ ∨ xs[i].f1 = true) :
    Calls Try.prog 24 #[.pointer (some ⟨g, 0, none⟩), .int .i64 m, .int .i64 i, .int .i64 at_, .int .u8 y] w fun e w' => e = .returned (.bool false) ∧ Below w.heap.size w w' := by
  obtain ⟨vv, pv, h1, _⟩ := hR.blk
  obtain ⟨cs, v, ps, h3, h4, e, r, e2, gg⟩ := hR.queue m hm _ hxs
  have hpl : ps.length = xs.length := by rw [← e2]; simp
  obtain ⟨b, off, cap, rfl, hcap, hd1, hd2, hd3⟩ := r.at (by omega)
  clear hd1 hd2 hd3
  obtain ⟨n, hnn⟩ : ∃ n, ps.length = n := ⟨_, rfl⟩
  rw [hnn] at r e hcap
  obtain ⟨p, hp⟩ : ∃ p, ps[i]? = some p := ⟨ps[i]'(by omega), List.getElem?_eq_getElem (by omega)⟩
  have hpx : p.2 = xs[i] := by
    have := congrArg (fun l => l[i]?) e2
    simp only [List.getElem?_map, hp] at this
    rw [List.getElem?_eq_getElem hi] at this
    simpa using this
  have hgp : Bs w b0 col p.1 p.2.f0 := gg p (List.mem_of_getElem? hp)
  obtain ⟨Ab, cb, hvp, _, _⟩ := Kd.R_reads hgp
  rw [← hpx] at hn
  obtain ⟨la, hla⟩ : ∃ n, p.2.f0.length = n := ⟨_, rfl⟩
  obtain ⟨t, ht⟩ : ∃ t, p.2.f1 = t := ⟨_, rfl⟩
  rw [hla] at hvp hn
  rw [ht] at hn
  obtain ⟨z0, z1, _, _, _⟩ := Row.cells r hnn i p _ _ hp hvp ht
  have c0 : w.cell? ⟨g, 0, none⟩ = some (.slice (some ⟨gq, 0, none⟩) qs.length qs.length) := (blk_cell h1 0).trans rfl
  have c1 : w.cell? ⟨gq, m, none⟩ = some (.slice (some ⟨b, off, none⟩) n cap) := (blk_cell h3 m).trans e
  have HD : Aside0 (decide (hasQ qs (m : Int) (i : Int)) = true) := ⟨decide_eq_true ⟨by simpa using hm, by omega, by omega, by simpa [hxs] using hi⟩⟩
  have hm0 : (0 : Int) ≤ m := by omega
  have hm1 : (m : Int) < qs.length := by omega
  have hi0 : (0 : Int) ≤ i := by omega
  have hin : i < n := by omega
  have hi1 : (i : Int) < n := by omega
  have hnc : (n : Int) ≤ cap := by omega
  have HR := Aside0.mk hR
  clear hR r h1 h3 h4 gg e2 e hnn hpl hxs hp hvp hgp hi hpx hla ht
  by_cases h0 : at_ < 0
  · have hd0 : decide (at_ < 0) = true := decide_eq_true h0
    clear hn
    go_enter Try.func24, Try.ntmps24
    go_wp2_with (first
      | ((with_reducible refine gate_dst (N := 16) rfl ?_); go_must (((try (refine gate_guard (by rfl) ?_; dsimp only)); refine goesL_ (some 16) rfl rfl Try.func36 (by kernel_rfl) rfl #[.pointer (some ⟨g, 0, none⟩), .int .i64 m, .int .i64 i] rfl ?hA ?_; (case hA => ((try simp only [List.map_toArray, List.map_cons, List.map_nil]); first | done | rfl)); refine (mhas_calls g gq m i col vw qs _ _ HR.out).mono ?_; rintro e w9 ⟨rfl, ⟨m9, rfl⟩⟩; refine ⟨_, rfl, ?_⟩; rw [HD.out]))))
    go_ret
    exact ⟨rfl, by repeat (first | exact Below.refl _ _ | apply pw_below_drewN)⟩
  · have hd0 : decide (at_ < 0) = false := decide_eq_false h0
    by_cases hl : (la : Int) ≤ at_
    · have hd1 : decide ((la : Int) ≤ at_) = true := decide_eq_true hl
      clear hn
      go_enter Try.func24, Try.ntmps24
      go_wp2_with (first
        | ((with_reducible refine gate_dst (N := 16) rfl ?_); go_must (((try (refine gate_guard (by rfl) ?_; dsimp only)); refine goesL_ (some 16) rfl rfl Try.func36 (by kernel_rfl) rfl #[.pointer (some ⟨g, 0, none⟩), .int .i64 m, .int .i64 i] rfl ?hA ?_; (case hA => ((try simp only [List.map_toArray, List.map_cons, List.map_nil]); first | done | rfl)); refine (mhas_calls g gq m i col vw qs _ _ HR.out).mono ?_; rintro e w9 ⟨rfl, ⟨m9, rfl⟩⟩; refine ⟨_, rfl, ?_⟩; rw [HD.out]))))
      go_ret
      exact ⟨rfl, by repeat (first | exact Below.refl _ _ | apply pw_below_drewN)⟩
    · have hd1 : decide ((la : Int) ≤ at_) = false := decide_eq_false hl
      have ht : t = true := by
        rcases hn with h | h | h
        · exact absurd h h0
        · exact absurd h hl
        · exact h
      subst ht
      clear hn
      go_enter Try.func24, Try.ntmps24
      go_wp2_with (first
        | ((with_reducible refine gate_dst (N := 16) rfl ?_); go_must (((try (refine gate_guard (by rfl) ?_; dsimp only)); refine goesL_ (some 16) rfl rfl Try.func36 (by kernel_rfl) rfl #[.pointer (some ⟨g, 0, none⟩), .int .i64 m, .int .i64 i] rfl ?hA ?_; (case hA => ((try simp only [List.map_toArray, List.map_cons, List.map_nil]); first | done | rfl)); refine (mhas_calls g gq m i col vw qs _ _ HR.out).mono ?_; rintro e w9 ⟨rfl, ⟨m9, rfl⟩⟩; refine ⟨_, rfl, ?_⟩; rw [HD.out]))))
      go_ret
      exact ⟨rfl, by repeat (first | exact Below.refl _ _ | apply pw_below_drewN)⟩
end Go.Proofs.Yteeddalalfemmaa.K

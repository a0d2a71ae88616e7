/- (buffer.pile).Less, Len; container/heap's calls of them through the interface. container/heap.down. -/
import Derived.Test.YtekhpogigndlkaaMA
import Derived.Test.YtekhpogigndlkaaX
import Derived.Deep.LoopGhost
namespace Go.Proofs.Ytekhpogigndlkaa.K
open Go.RowKit Go.Proofs.YtekhpogigndlkaaW.PrintWords Go.Proofs.YtekhpogigndlkaaW.PrintLast Go.Proofs.YtekhpogigndlkaaW.PrintMore
set_option linter.unusedVariables false
set_option linter.unusedSimpArgs false

def cmpS (t1 w1 t2 w2 : Int) : Int := if t1 < t2 then -1 else if t2 < t1 then 1 else if w1 < w2 then -1 else if w2 < w1 then 1 else 0
theorem or_f (x y : Int) : X.cmp_Or_int.f 3 [x, y] = some (if x = 0 then y else x) := by
  unfold X.cmp_Or_int.f
  simp only [X.cmp_Or_int.l0, List.length_cons, List.length_nil, rd]
  have e1 : wrap64 1 = 1 := by unfold wrap64; omega
  have e2 : wrap64 2 = 2 := by unfold wrap64; omega
  by_cases hx : x = 0 <;> by_cases hy : y = 0 <;> simp [hx, hy, e1, e2]
theorem cmpi_f (x y : Int) : X.cmp_Compare_int.f x y = some (if x < y then -1 else if y < x then 1 else 0) := by
  unfold X.cmp_Compare_int.f X.cmp_isNaN_int.f
  simp
  (repeat' split) <;> simp_all <;> omega
theorem compare_f (a b c d : Int) : X.buffer_place_compare.f 3 a b c d = some (cmpS a b c d) := by
  unfold X.buffer_place_compare.f
  rw [cmpi_f, cmpi_f]
  simp only [Option.bind_some]
  rw [or_f]
  simp only [Option.bind_some, cmpS]
  congr 1
  (repeat' split) <;> simp_all <;> omega
theorem cmp_lt (a b : Ky) : decide (cmpS a.1 a.2 b.1 b.2 < 0) = decide (ltK a b) := by
  apply decide_eq_decide.2
  unfold cmpS ltK
  (repeat' split) <;> simp <;> omega
theorem rd_at {ps : List EP} {i : Nat} {p : EP} (h : ps[i]? = some p) : X.rd_T33 (ps.map (·.e)) (i : Int) = p.e := by
  unfold X.rd_T33
  rw [Int.toNat_natCast, List.getD_eq_getElem?_getD, List.getElem?_map, h]
  rfl
theorem less_calls (base i j n : Nat) (A : Option Addr) (c : Nat) (ps : List EP) (w : World) (h : PlR w base (.slice A n c) ps) (hi : i < n) (hj : j < n) :
    Calls Try.prog 67 #[.slice A n c, .int .i64 i, .int .i64 j] w fun e w' => e = .returned (.bool (decide (ltK (ky ps i) (ky ps j)))) ∧ Below w.heap.size w w' := by
  obtain ⟨A', c', e, hc, hC⟩ := h.reads
  injection e with e1 e2 e3
  subst e1 e2 e3
  obtain ⟨pi, hpi⟩ : ∃ p, ps[i]? = some p := ⟨_, List.getElem?_eq_getElem hi⟩
  obtain ⟨pj, hpj⟩ : ∃ p, ps[j]? = some p := ⟨_, List.getElem?_eq_getElem hj⟩
  have hl : (ps.map (·.e)).length = ps.length := List.length_map _
  have hf : X.buffer_pile_Less.f 3 (ps.map (·.e)) (i : Int) (j : Int) = some (decide (ltK (ky ps i) (ky ps j))) := by
    unfold X.buffer_pile_Less.f X.buffer_at.f
    rw [if_pos (show (0 : Int) ≤ i by omega), if_pos (show (i : Int) < ((ps.map (·.e)).length : Int) by rw [hl]; omega), Option.bind_some, if_pos (show (0 : Int) ≤ j by omega), if_pos (show (j : Int) < ((ps.map (·.e)).length : Int) by rw [hl]; omega), Option.bind_some, rd_at hpi, rd_at hpj, compare_f, Option.bind_some, ky_at hpi, ky_at hpj, ← cmp_lt]
    rfl
  have := X.buffer_pile_Less.calls 3 A c (ps.map (·.e)) (i : Int) (j : Int) _ w hC (by rw [hl]; exact hc) hf
  rw [hl] at this
  exact this
theorem len_calls (base n : Nat) (A : Option Addr) (c : Nat) (ps : List EP) (w : World) (h : PlR w base (.slice A n c) ps) :
    Calls Try.prog 76 #[.slice A n c] w fun e w' => e = .returned (.int .i64 n) ∧ Drawn0 w w' := by
  obtain ⟨A', c', e, hc, hC⟩ := h.reads
  injection e with e1 e2 e3
  subst e1 e2 e3
  have hl : (ps.map (·.e)).length = ps.length := List.length_map _
  have := X.buffer_pile_Len.calls A c (ps.map (·.e)) (ps.length : Int) w hC (by rw [hl]; exact hc) (by unfold X.buffer_pile_Len.f; rw [hl])
  rw [hl] at this
  exact this
theorem load_pile (pb po n c : Nat) (A : Option Addr) (w : World) (hc : w.cell? ⟨pb, po, none⟩ = some (.slice A n c)) : (loadVar 57 ⟨pb, po, none⟩).run Try.prog w = .ok (.slice A n c) w := by
  have hu := Try.underlying57
  simp [loadVar, go_sem, hc, hu]
theorem row_of (name : String) (f : FuncId) (h : (Try.prog.info? 66).map (fun i => (i.methods.find? (fun m => m.name == name)).map (fun m => (m.path, m.func))) = some (some (#[], some (f, false)))) :
    ∃ i m, Try.prog.info? 66 = some i ∧ i.methods.find? (fun m => m.name == name) = some m ∧ m.path = #[] ∧ m.func = some (f, false) := by
  obtain ⟨i, hi, h1⟩ := Option.map_eq_some_iff.1 h
  obtain ⟨m, hm, h2⟩ := Option.map_eq_some_iff.1 h1
  simp only [Prod.mk.injEq] at h2
  exact ⟨i, m, hi, hm, h2.1, h2.2⟩
theorem wrap_ok {P : Program} (t : Nat) (a : Addr) (x y : String) (w : World) : (Builtin.ssaWrapNilChk_ #[t] t #[.pointer (some a), strVal x, strVal y]).run P w = .ok (.pointer (some a)) w := rfl
theorem meth_of (name : String) (f : FuncId) (h : (Try.prog.info? 66).map (fun i => (i.methods.find? (fun m => m.name == name)).map (fun m => (m.path, m.func))) = some (some (#[], some (f, false))))
    (pb po n c : Nat) (A : Option Addr) (w : World) (hc : w.cell? ⟨pb, po, none⟩ = some (.slice A n c)) : (method 204 66 (.pointer (some ⟨pb, po, none⟩)) name).run Try.prog w = .ok (f, .slice A n c) w := by
  obtain ⟨i, m, hi, hm, hp, hf⟩ := row_of name f h
  have hu := Try.underlying66
  have hl := load_pile pb po n c A w hc
  rw [show (204 : Nat) = 203 + 1 from rfl, method]
  simp [typeInfo, hi, hm, hp, hf, follow, Place.get, receiverAt, run_underlying hu, wrap_ok, asAddr, hl]
theorem meth_less (pb po n c : Nat) (A : Option Addr) (w : World) (hc : w.cell? ⟨pb, po, none⟩ = some (.slice A n c)) : (method 204 66 (.pointer (some ⟨pb, po, none⟩)) "Less").run Try.prog w = .ok (67, .slice A n c) w :=
  meth_of "Less" _ (by kernel_rfl) pb po n c A w hc
theorem meth_swap (pb po n c : Nat) (A : Option Addr) (w : World) (hc : w.cell? ⟨pb, po, none⟩ = some (.slice A n c)) : (method 204 66 (.pointer (some ⟨pb, po, none⟩)) "Swap").run Try.prog w = .ok (70, .slice A n c) w :=
  meth_of "Swap" _ (by kernel_rfl) pb po n c A w hc
theorem meth_len (pb po n c : Nat) (A : Option Addr) (w : World) (hc : w.cell? ⟨pb, po, none⟩ = some (.slice A n c)) : (method 204 66 (.pointer (some ⟨pb, po, none⟩)) "Len").run Try.prog w = .ok (76, .slice A n c) w :=
  meth_of "Len" _ (by kernel_rfl) pb po n c A w hc
theorem meth_pop (a : Addr) (w : World) : (method 204 66 (.pointer (some a)) "Pop").run Try.prog w = .ok (68, .pointer (some a)) w := by kernel_rfl
theorem meth_push (a : Addr) (w : World) : (method 204 66 (.pointer (some a)) "Push").run Try.prog w = .ok (69, .pointer (some a)) w := by kernel_rfl
theorem swap_at (gr cap base i j n : Nat) (ps : List EP) (pi pj : EP) (w : World) (h : PlR w base (.slice (some ⟨gr, 0, none⟩) n cap) ps) (hn : ps.length = n) (hi : ps[i]? = some pi) (hj : ps[j]? = some pj) :
    Calls Try.prog 70 #[.slice (some ⟨gr, 0, none⟩) n cap, .int .i64 i, .int .i64 j] w fun e w' => e = .returned (.tuple #[]) ∧ PlR w' base (.slice (some ⟨gr, 0, none⟩) n cap) (swapP ps i j pi pj) ∧ Fr w w' (fun k => k = gr) := by
  subst hn
  exact swap_calls gr cap base i j ps pi pj w h hi hj
theorem Fr.cell {w w' : World} {S : Nat → Prop} (h : Fr w w' S) {a : Addr} {u : Value} (hc : w.cell? a = some u) (hn : ¬ S a.block) : w'.cell? a = some u :=
  (World.cell?_of_block (h.block a.block (World.block_lt_of_cell? _ _ hc) hn)).trans hc
/-- The frame of a row alone. -/
abbrev SR (gr : Nat) : Nat → Prop := fun k => k = gr
theorem Fr.step {a b c : World} {gr : Nat} (h : Fr a b (SR gr)) (k : Fr b c (SR gr)) : Fr a c (SR gr) := h.trans k (fun _ _ h => h)
theorem Fr.stepB {a b c : World} {gr : Nat} (h : Fr a b (SR gr)) (k : Below b.heap.size b c) : Fr a c (SR gr) := h.step (Fr.ofBelow _ k)
set_option maxRecDepth 100000 in
set_option maxHeartbeats 8000000 in
theorem up_calls (pb po gr cap base n n' j : Nat) (ps : List EP) (w : World) (hc : w.cell? ⟨pb, po, none⟩ = some (.slice (some ⟨gr, 0, none⟩) n cap)) (hpb : pb ≠ gr) (h : PlR w base (.slice (some ⟨gr, 0, none⟩) n cap) ps)
    (hl : ps.length = n) (hn : n ≤ 100000) (hn' : n' ≤ n) (hj : j < n') (hU : UpInv (ky ps) n' 0 j) :
    Calls Try.prog 46 #[.iface 66 (.pointer (some ⟨pb, po, none⟩)), .int .i64 j] w fun e w' => e = .returned (.tuple #[]) ∧
      ∃ qs : List EP, qs.Perm ps ∧ PlR w' base (.slice (some ⟨gr, 0, none⟩) n cap) qs ∧ HeapF (ky qs) n' 0 ∧ (∀ k, n' ≤ k → qs[k]? = ps[k]?) ∧ Fr w w' (SR gr) := by
  have HH := Aside0.mk h
  have HUU := Aside0.mk hU
  have HC0 := Aside0.mk hc
  have HL := Aside0.mk hl
  clear h hU hc hl
  go_enter Try.func46, Try.ntmps46
  go_wp2
  go_loopg [1] j (fun g v1 wr => ∃ (j' : Nat) (qs : List EP), g = j' ∧ v1 = .int .i64 j' ∧ j' < n' ∧ Aside0 (qs.Perm ps) ∧ Aside0 (PlR wr base (.slice (some ⟨gr, 0, none⟩) n cap) qs) ∧ Aside0 (UpInv (ky qs) n' 0 j') ∧ Aside0 (∀ k, n' ≤ k → qs[k]? = ps[k]?) ∧ Aside0 (Fr w wr (SR gr)))
  case atStart => exact ⟨j, ps, rfl, rfl, hj, ⟨List.Perm.refl _⟩, HH, HUU, ⟨fun _ _ => rfl⟩, ⟨Fr.refl _ _⟩⟩
  case round =>
    clear hj HUU HH
    obtain ⟨j, qs, hg, rfl, hj, HP, HH, HU, HK, HF⟩ := hrel
    have hg := hg.symm
    subst hg
    have hcw : wr.cell? ⟨pb, po, none⟩ = some (.slice (some ⟨gr, 0, none⟩) n cap) := HF.out.cell HC0.out hpb
    have HQ : Aside0 (qs.length = n) := ⟨HP.out.length_eq.trans HL.out⟩
    have hjn : j < n := by omega
    by_cases hj0 : j = 0
    · subst hj0
      have hw1 : IntKind.i64.wrap (-1) = -1 := by rw [i64_w]; unfold wrap64; omega
      have hw2 : wrap64 (-1) = -1 := by unfold wrap64; omega
      have hw3 : IntKind.i64.wrap 0 = 0 := by rw [i64_w]; unfold wrap64; omega
      have hw4 : wrap64 0 = 0 := by unfold wrap64; omega
      have HD : Aside0 (HeapF (ky qs) n' 0) := ⟨up_done HU.out (fun h => absurd h (by omega))⟩
      go_wp2
      go_end0
      exact ⟨rfl, qs, HP.out, HH.out, HD.out, HK.out, by repeat (first | exact HF.out | refine Fr.drew ?_)⟩
    · obtain ⟨p, hp⟩ : ∃ p, j = p + 1 := ⟨j - 1, by omega⟩
      obtain ⟨i, hi⟩ : ∃ i, i = p / 2 := ⟨_, rfl⟩
      have hij : ((i : Int) == (j : Int)) = false := by simp; omega
      have HI : Aside0 ((j - 1) / 2 = i) := ⟨by omega⟩
      have HIJ : Aside0 (i < j) := ⟨by omega⟩
      have hin : i < n := by omega
      obtain ⟨pi, hpi⟩ : ∃ x, qs[i]? = some x := ⟨_, List.getElem?_eq_getElem (by have := HQ.out; omega)⟩
      obtain ⟨pj, hpj⟩ : ∃ x, qs[j]? = some x := ⟨_, List.getElem?_eq_getElem (by have := HQ.out; omega)⟩
      have HPI := Aside0.mk hpi
      have HPJ := Aside0.mk hpj
      have HJ0 : Aside0 (0 < j) := ⟨by omega⟩
      have hw1 : IntKind.i64.wrap ((j : Int) - 1) = (p : Int) := by rw [i64_w]; unfold wrap64; omega
      have hw2 : IntKind.i64.wrap ((p : Int).tdiv 2) = (i : Int) := by rw [i64_w, Int.tdiv_eq_ediv_of_nonneg (by omega)]; unfold wrap64; omega
      have hw3 : wrap64 ((j : Int) - 1) = (p : Int) := by rw [← hw1, i64_w]
      have hw4 : wrap64 ((p : Int).tdiv 2) = (i : Int) := by rw [← hw2, i64_w]
      have hw5 : wrap64 ((p : Int) / 2) = (i : Int) := by rw [← hw4, Int.tdiv_eq_ediv_of_nonneg (by omega)]
      have hw6 : IntKind.i64.wrap ((p : Int) / 2) = (i : Int) := by rw [← hw2, Int.tdiv_eq_ediv_of_nonneg (by omega)]
      have hm := meth_less pb po n cap _ wr hcw
      clear hi hp hpi hpj
      by_cases hlt : ltK (ky qs j) (ky qs i)
      · have HLT := Aside0.mk hlt
        have HDE : Aside0 (decide (ltK (ky qs j) (ky qs i)) = true) := ⟨decide_eq_true hlt⟩
        clear hlt
        go_wp2_with (first
          | (go_at_call 67; go_must ((refine (less_calls base j i n _ _ qs _ HH.out hjn hin).mono ?_; rw [HDE.out]; rintro e w15 ⟨rfl, hb⟩; have hcw2 := pw_cell_below hb hcw; have hms := meth_swap pb po n cap _ w15 hcw2; have HH15 := Aside0.mk (HH.out.below hb); have HF15 := Aside0.mk (HF.out.stepB hb); clear hb)))
          | (go_at_call 70; go_must ((refine (swap_at gr cap base i j n qs pi pj _ HH15.out HQ.out HPI.out HPJ.out).mono ?_; rintro e w21 ⟨rfl, hp, hf⟩; have HP21 := Aside0.mk hp; have HF21 := Aside0.mk (HF15.out.step hf); clear hp hf))))
        clear hw1 hw2 hw3 hw4 hw5 hw6
        go_roundg i
        case measure => exact HIJ.out
        case rel => exact ⟨i, swapP qs i j pi pj, rfl, rfl, by have := HIJ.out; omega, ⟨(swapP_perm HPI.out HPJ.out).trans HP.out⟩, HP21, ⟨by
          rw [ky_swap HPI.out HPJ.out]
          have := up_step HU.out hj HJ0.out (by rw [HI.out]; exact HLT.out)
          rw [HI.out] at this
          exact this⟩, ⟨fun k hk => by rw [swapP_at (by have := HIJ.out; omega) (by omega)]; exact HK.out k hk⟩, HF21⟩
      · have HDE : Aside0 (decide (ltK (ky qs j) (ky qs i)) = false) := ⟨decide_eq_false hlt⟩
        have HD : Aside0 (HeapF (ky qs) n' 0) := ⟨up_done HU.out (fun _ => by rw [HI.out]; exact hlt)⟩
        clear hlt
        go_wp2_with (first
          | (go_at_call 67; go_must ((refine (less_calls base j i n _ _ qs _ HH.out hjn hin).mono ?_; rw [HDE.out]; rintro e w15 ⟨rfl, hb⟩; have HH15 := Aside0.mk (HH.out.below hb); have HF15 := Aside0.mk (HF.out.stepB hb); clear hb))))
        go_end0
        exact ⟨rfl, qs, HP.out, HH15.out, HD.out, HK.out, by repeat (first | exact HF15.out | refine Fr.drew ?_)⟩
end Go.Proofs.Ytekhpogigndlkaa.K

namespace Go.Proofs.Ytekhpogigndlkaa.K
open Go.RowKit Go.Proofs.YtekhpogigndlkaaW.PrintWords Go.Proofs.YtekhpogigndlkaaW.PrintLast Go.Proofs.YtekhpogigndlkaaW.PrintMore
set_option linter.unusedVariables false
set_option linter.unusedSimpArgs false

/-- What down leaves. -/
def DownP (ps : List EP) (w : World) (base n n' lo i0 gr cap : Nat) (e : Ending) (w' : World) : Prop := ∃ (mv : Bool) (qs : List EP), e = .returned (.bool mv) ∧
      qs.Perm ps ∧ PlR w' base (.slice (some ⟨gr, 0, none⟩) n cap) qs ∧ (mv = true → HeapF (ky qs) n' lo) ∧ (mv = false → UpInv (ky qs) n' lo i0) ∧ (∀ k, n' ≤ k → qs[k]? = ps[k]?) ∧ Fr w w' (SR gr)
set_option maxRecDepth 100000 in
set_option maxHeartbeats 16000000 in
theorem down_calls (pb po gr cap base n n' lo i0 : Nat) (ps : List EP) (w : World) (hc : w.cell? ⟨pb, po, none⟩ = some (.slice (some ⟨gr, 0, none⟩) n cap)) (hpb : pb ≠ gr) (h : PlR w base (.slice (some ⟨gr, 0, none⟩) n cap) ps)
    (hl : ps.length = n) (hn : n ≤ 100000) (hn' : n' ≤ n) (hi0 : i0 ≤ n') (hD : DownInv (ky ps) n' lo i0 i0) :
    Calls Try.prog 48 #[.iface 66 (.pointer (some ⟨pb, po, none⟩)), .int .i64 i0, .int .i64 n'] w fun e w' => DownP ps w base n n' lo i0 gr cap e w' := by
  have HH := Aside0.mk h
  have HDD := Aside0.mk hD
  have HC0 := Aside0.mk hc
  have HL := Aside0.mk hl
  clear h hD hc hl
  go_enter Try.func48, Try.ntmps48
  go_wp2
  go_loopg [7] (n' - i0) (fun g v7 wr => ∃ (i' : Nat) (qs : List EP), g = n' - i' ∧ v7 = .int .i64 i' ∧ i' ≤ n' ∧ i0 ≤ i' ∧ Aside0 (qs.Perm ps) ∧ Aside0 (PlR wr base (.slice (some ⟨gr, 0, none⟩) n cap) qs) ∧ Aside0 (DownInv (ky qs) n' lo i0 i') ∧ Aside0 (∀ k, n' ≤ k → qs[k]? = ps[k]?) ∧ Aside0 (Fr w wr (SR gr)))
  case atStart => exact ⟨i0, ps, rfl, rfl, hi0, Nat.le_refl _, ⟨List.Perm.refl _⟩, HH, HDD, ⟨fun _ _ => rfl⟩, ⟨Fr.refl _ _⟩⟩
  case round =>
    clear hi0 HDD HH
    obtain ⟨i, qs, hg, rfl, hi, hii, HP, HH, HD, HK, HF⟩ := hrel
    have HG := Aside0.mk hg
    clear hg
    have hcw : wr.cell? ⟨pb, po, none⟩ = some (.slice (some ⟨gr, 0, none⟩) n cap) := HF.out.cell HC0.out hpb
    have HQ : Aside0 (qs.length = n) := ⟨HP.out.length_eq.trans HL.out⟩
    obtain ⟨m, hm⟩ : ∃ m, m = 2 * i := ⟨_, rfl⟩
    obtain ⟨j1, hj1⟩ : ∃ m, m = 2 * i + 1 := ⟨_, rfl⟩
    obtain ⟨j2, hj2⟩ : ∃ m, m = 2 * i + 2 := ⟨_, rfl⟩
    have hw1 : IntKind.i64.wrap (2 * (i : Int)) = (m : Int) := by rw [i64_w]; unfold wrap64; omega
    have hw2 : IntKind.i64.wrap ((m : Int) + 1) = (j1 : Int) := by rw [i64_w]; unfold wrap64; omega
    have hw3 : IntKind.i64.wrap ((j1 : Int) + 1) = (j2 : Int) := by rw [i64_w]; unfold wrap64; omega
    have hv1 : wrap64 (2 * (i : Int)) = (m : Int) := by rw [← hw1, i64_w]
    have hv2 : wrap64 ((m : Int) + 1) = (j1 : Int) := by rw [← hw2, i64_w]
    have hv3 : wrap64 ((j1 : Int) + 1) = (j2 : Int) := by rw [← hw3, i64_w]
    have HX : Aside0 (i0 ≤ i ∧ i ≤ n' ∧ m = 2 * i ∧ j1 = 2 * i + 1 ∧ j2 = 2 * i + 2 ∧ n' ≤ n) := ⟨hii, hi, hm, hj1, hj2, hn'⟩
    have hnn : ¬ ((j1 : Int) < 0) := by omega
    obtain ⟨mv, hmv⟩ : ∃ mv, decide (i0 < i) = mv := ⟨_, rfl⟩
    have hmv' : decide ((i0 : Int) < (i : Int)) = mv := by rw [← hmv]; simp
    have HE : Aside0 ((∀ c, 0 < c → c < n' → (c - 1) / 2 = i → ¬ ltK (ky qs c) (ky qs i)) → (mv = true → HeapF (ky qs) n' lo) ∧ (mv = false → UpInv (ky qs) n' lo i0)) := ⟨fun hex => by
      subst hmv
      refine ⟨fun hm => down_moved HD.out (by simp at hm; omega) hex, fun hm => ?_⟩
      have : i = i0 := by simp at hm; omega
      subst this
      exact down_stays HD.out hex⟩
    have HMV := Aside0.mk hmv'
    clear hm hj1 hj2 hi hii hn' hmv
    by_cases hb1 : n' ≤ j1
    · have hb1' : (n' : Int) ≤ (j1 : Int) := by omega
      have HEX := Aside0.mk (HE.out (fun c hc0 hcn hcp => absurd HX.out (by omega)))
      go_wp2
      go_ret
      exact ⟨mv, qs, by first | rfl | simp [← HMV.out] | simp_all, HP.out, HH.out, HEX.out.1, HEX.out.2, HK.out, by repeat (first | exact HF.out | refine Fr.drew ?_)⟩
    · have hb1' : ¬ (n' : Int) ≤ (j1 : Int) := by omega
      have hj1n : j1 < n := by have := HX.out; omega
      have hin : i < n := by have := HX.out; omega
      by_cases hb2 : j2 < n'
      · have hb2' : (j2 : Int) < (n' : Int) := by omega
        have hj2n : j2 < n := by have := HX.out; omega
        by_cases hl1 : ltK (ky qs j2) (ky qs j1)
        · have HD1 : Aside0 (decide (ltK (ky qs j2) (ky qs j1)) = true) := ⟨decide_eq_true hl1⟩
          have HMIN : Aside0 (∀ c, 0 < c → c < n' → (c - 1) / 2 = i → ¬ ltK (ky qs c) (ky qs j2)) := ⟨fun c hc0 hcn hcp => by
            have hx := HX.out
            rcases (show c = j1 ∨ c = j2 by omega) with rfl | rfl
            · exact hl1.asym
            · unfold ltK; omega⟩
          have HJ : Aside0 (j2 < n' ∧ j2 = 2 * i + 2) := ⟨hb2, HX.out.2.2.2.2.1⟩
          have hjn := hj2n
          clear hl1
          obtain ⟨pi, hpi⟩ : ∃ x, qs[i]? = some x := ⟨_, List.getElem?_eq_getElem (by have := HQ.out; omega)⟩
          obtain ⟨pj, hpj⟩ : ∃ x, qs[j2]? = some x := ⟨_, List.getElem?_eq_getElem (by have := HQ.out; omega)⟩
          have HPI := Aside0.mk hpi
          have HPJ := Aside0.mk hpj
          have hm0 := meth_less pb po n cap _ wr hcw
          clear hpi hpj
          by_cases hlt : ltK (ky qs j2) (ky qs i)
          · have HLT := Aside0.mk hlt
            have HD2 : Aside0 (decide (ltK (ky qs j2) (ky qs i)) = true) := ⟨decide_eq_true hlt⟩
            clear hlt
            go_wp2_with (first
              | (go_at_call 67; go_must ((refine (less_calls base _ _ n _ _ qs _ ?hh ?h1 ?h2).mono ?_; (case hh => first | exact HHw32.out | exact HH.out); (case h1 => assumption); (case h2 => assumption); first | (rw [HD1.out]; rintro e w32 ⟨rfl, hb⟩; have hc32 := pw_cell_below hb hcw; have hmw32 := meth_less pb po n cap _ w32 hc32; have HHw32 := Aside0.mk (HH.out.below hb); have HFw32 := Aside0.mk (HF.out.stepB hb); clear hb) | (rw [HD2.out]; rintro e w38 ⟨rfl, hb⟩; have hc38 := pw_cell_below hb hc32; have hmw38 := meth_swap pb po n cap _ w38 hc38; have HHw38 := Aside0.mk (HHw32.out.below hb); have HFw38 := Aside0.mk (HFw32.out.stepB hb); clear hb))))
              | (go_at_call 70; go_must ((refine (swap_at gr cap base i j2 n qs pi pj _ HHw38.out HQ.out HPI.out HPJ.out).mono ?_; rintro e w43 ⟨rfl, hp, hf⟩; have HP43 := Aside0.mk hp; have HF43 := Aside0.mk (HFw38.out.step hf); clear hp hf))))
            clear hw1 hw2 hw3 hv1 hv2 hv3
            go_roundg (n' - j2)
            case measure => rw [HG.out]; have := HX.out; have := HJ.out; omega
            case rel => exact ⟨j2, swapP qs i j2 pi pj, rfl, rfl, by have := HJ.out; omega, by have := HX.out; have := HJ.out; omega, ⟨(swapP_perm HPI.out HPJ.out).trans HP.out⟩, HP43, ⟨by
              rw [ky_swap HPI.out HPJ.out]
              exact down_step HD.out HX.out.1 HJ.out.1 (by have := HX.out; have := HJ.out; omega) (by have := HJ.out; omega) HMIN.out HLT.out⟩, ⟨fun k hk => by rw [swapP_at (by have := HX.out; have := HJ.out; omega) (by have := HJ.out; omega)]; exact HK.out k hk⟩, HF43⟩
          · have HD2 : Aside0 (decide (ltK (ky qs j2) (ky qs i)) = false) := ⟨decide_eq_false hlt⟩
            have HEX := Aside0.mk (HE.out (fun c hc0 hcn hcp => ltK.le_trans hlt (HMIN.out c hc0 hcn hcp)))
            clear hlt
            go_wp2_with (first
              | (go_at_call 67; go_must ((refine (less_calls base _ _ n _ _ qs _ ?hh ?h1 ?h2).mono ?_; (case hh => first | exact HHw32.out | exact HH.out); (case h1 => assumption); (case h2 => assumption); first | (rw [HD1.out]; rintro e w32 ⟨rfl, hb⟩; have hc32 := pw_cell_below hb hcw; have hmw32 := meth_less pb po n cap _ w32 hc32; have HHw32 := Aside0.mk (HH.out.below hb); have HFw32 := Aside0.mk (HF.out.stepB hb); clear hb) | (rw [HD2.out]; rintro e w38 ⟨rfl, hb⟩; have hc38 := pw_cell_below hb hc32; have hmw38 := meth_swap pb po n cap _ w38 hc38; have HHw38 := Aside0.mk (HHw32.out.below hb); have HFw38 := Aside0.mk (HFw32.out.stepB hb); clear hb)))))
            go_ret
            exact ⟨mv, qs, by first | rfl | simp [← HMV.out] | simp_all, HP.out, HHw38.out, HEX.out.1, HEX.out.2, HK.out, by repeat (first | exact HFw38.out | refine Fr.drew ?_)⟩
        · have HD1 : Aside0 (decide (ltK (ky qs j2) (ky qs j1)) = false) := ⟨decide_eq_false hl1⟩
          have HMIN : Aside0 (∀ c, 0 < c → c < n' → (c - 1) / 2 = i → ¬ ltK (ky qs c) (ky qs j1)) := ⟨fun c hc0 hcn hcp => by
            have hx := HX.out
            rcases (show c = j1 ∨ c = j2 by omega) with rfl | rfl
            · unfold ltK; omega
            · exact hl1⟩
          have HJ : Aside0 (j1 < n' ∧ j1 = 2 * i + 1) := ⟨by omega, HX.out.2.2.2.1⟩
          have hjn := hj1n
          clear hl1
          obtain ⟨pi, hpi⟩ : ∃ x, qs[i]? = some x := ⟨_, List.getElem?_eq_getElem (by have := HQ.out; omega)⟩
          obtain ⟨pj, hpj⟩ : ∃ x, qs[j1]? = some x := ⟨_, List.getElem?_eq_getElem (by have := HQ.out; omega)⟩
          have HPI := Aside0.mk hpi
          have HPJ := Aside0.mk hpj
          have hm0 := meth_less pb po n cap _ wr hcw
          clear hpi hpj
          by_cases hlt : ltK (ky qs j1) (ky qs i)
          · have HLT := Aside0.mk hlt
            have HD2 : Aside0 (decide (ltK (ky qs j1) (ky qs i)) = true) := ⟨decide_eq_true hlt⟩
            clear hlt
            go_wp2_with (first
              | (go_at_call 67; go_must ((refine (less_calls base _ _ n _ _ qs _ ?hh ?h1 ?h2).mono ?_; (case hh => first | exact HHw32.out | exact HH.out); (case h1 => assumption); (case h2 => assumption); first | (rw [HD1.out]; rintro e w32 ⟨rfl, hb⟩; have hc32 := pw_cell_below hb hcw; have hmw32 := meth_less pb po n cap _ w32 hc32; have HHw32 := Aside0.mk (HH.out.below hb); have HFw32 := Aside0.mk (HF.out.stepB hb); clear hb) | (rw [HD2.out]; rintro e w38 ⟨rfl, hb⟩; have hc38 := pw_cell_below hb hc32; have hmw38 := meth_swap pb po n cap _ w38 hc38; have HHw38 := Aside0.mk (HHw32.out.below hb); have HFw38 := Aside0.mk (HFw32.out.stepB hb); clear hb))))
              | (go_at_call 70; go_must ((refine (swap_at gr cap base i j1 n qs pi pj _ HHw38.out HQ.out HPI.out HPJ.out).mono ?_; rintro e w43 ⟨rfl, hp, hf⟩; have HP43 := Aside0.mk hp; have HF43 := Aside0.mk (HFw38.out.step hf); clear hp hf))))
            clear hw1 hw2 hw3 hv1 hv2 hv3
            go_roundg (n' - j1)
            case measure => rw [HG.out]; have := HX.out; have := HJ.out; omega
            case rel => exact ⟨j1, swapP qs i j1 pi pj, rfl, rfl, by have := HJ.out; omega, by have := HX.out; have := HJ.out; omega, ⟨(swapP_perm HPI.out HPJ.out).trans HP.out⟩, HP43, ⟨by
              rw [ky_swap HPI.out HPJ.out]
              exact down_step HD.out HX.out.1 HJ.out.1 (by have := HX.out; have := HJ.out; omega) (by have := HJ.out; omega) HMIN.out HLT.out⟩, ⟨fun k hk => by rw [swapP_at (by have := HX.out; have := HJ.out; omega) (by have := HJ.out; omega)]; exact HK.out k hk⟩, HF43⟩
          · have HD2 : Aside0 (decide (ltK (ky qs j1) (ky qs i)) = false) := ⟨decide_eq_false hlt⟩
            have HEX := Aside0.mk (HE.out (fun c hc0 hcn hcp => ltK.le_trans hlt (HMIN.out c hc0 hcn hcp)))
            clear hlt
            go_wp2_with (first
              | (go_at_call 67; go_must ((refine (less_calls base _ _ n _ _ qs _ ?hh ?h1 ?h2).mono ?_; (case hh => first | exact HHw32.out | exact HH.out); (case h1 => assumption); (case h2 => assumption); first | (rw [HD1.out]; rintro e w32 ⟨rfl, hb⟩; have hc32 := pw_cell_below hb hcw; have hmw32 := meth_less pb po n cap _ w32 hc32; have HHw32 := Aside0.mk (HH.out.below hb); have HFw32 := Aside0.mk (HF.out.stepB hb); clear hb) | (rw [HD2.out]; rintro e w38 ⟨rfl, hb⟩; have hc38 := pw_cell_below hb hc32; have hmw38 := meth_swap pb po n cap _ w38 hc38; have HHw38 := Aside0.mk (HHw32.out.below hb); have HFw38 := Aside0.mk (HFw32.out.stepB hb); clear hb)))))
            go_ret
            exact ⟨mv, qs, by first | rfl | simp [← HMV.out] | simp_all, HP.out, HHw38.out, HEX.out.1, HEX.out.2, HK.out, by repeat (first | exact HFw38.out | refine Fr.drew ?_)⟩
      · have hb2' : ¬ (j2 : Int) < (n' : Int) := by omega
        have HMIN : Aside0 (∀ c, 0 < c → c < n' → (c - 1) / 2 = i → ¬ ltK (ky qs c) (ky qs j1)) := ⟨fun c hc0 hcn hcp => by
          have hx := HX.out
          have : c = j1 := by omega
          subst this
          unfold ltK; omega⟩
        have HJ : Aside0 (j1 < n' ∧ j1 = 2 * i + 1) := ⟨by omega, HX.out.2.2.2.1⟩
        have hjn := hj1n
        obtain ⟨pi, hpi⟩ : ∃ x, qs[i]? = some x := ⟨_, List.getElem?_eq_getElem (by have := HQ.out; omega)⟩
        obtain ⟨pj, hpj⟩ : ∃ x, qs[j1]? = some x := ⟨_, List.getElem?_eq_getElem (by have := HQ.out; omega)⟩
        have HPI := Aside0.mk hpi
        have HPJ := Aside0.mk hpj
        have hm0 := meth_less pb po n cap _ wr hcw
        clear hpi hpj
        by_cases hlt : ltK (ky qs j1) (ky qs i)
        · have HLT := Aside0.mk hlt
          have HD2 : Aside0 (decide (ltK (ky qs j1) (ky qs i)) = true) := ⟨decide_eq_true hlt⟩
          clear hlt
          go_wp2_with (first
            | (go_at_call 67; go_must ((refine (less_calls base _ _ n _ _ qs _ ?hh ?h1 ?h2).mono ?_; (case hh => first | exact HHw32.out | exact HH.out); (case h1 => assumption); (case h2 => assumption); first | (rw [HD2.out]; rintro e w38 ⟨rfl, hb⟩; have hc38 := pw_cell_below hb hcw; have hmw38 := meth_swap pb po n cap _ w38 hc38; have HHw38 := Aside0.mk (HH.out.below hb); have HFw38 := Aside0.mk (HF.out.stepB hb); clear hb))))
            | (go_at_call 70; go_must ((refine (swap_at gr cap base i j1 n qs pi pj _ HHw38.out HQ.out HPI.out HPJ.out).mono ?_; rintro e w43 ⟨rfl, hp, hf⟩; have HP43 := Aside0.mk hp; have HF43 := Aside0.mk (HFw38.out.step hf); clear hp hf))))
          clear hw1 hw2 hw3 hv1 hv2 hv3
          go_roundg (n' - j1)
          case measure => rw [HG.out]; have := HX.out; have := HJ.out; omega
          case rel => exact ⟨j1, swapP qs i j1 pi pj, rfl, rfl, by have := HJ.out; omega, by have := HX.out; have := HJ.out; omega, ⟨(swapP_perm HPI.out HPJ.out).trans HP.out⟩, HP43, ⟨by
            rw [ky_swap HPI.out HPJ.out]
            exact down_step HD.out HX.out.1 HJ.out.1 (by have := HX.out; have := HJ.out; omega) (by have := HJ.out; omega) HMIN.out HLT.out⟩, ⟨fun k hk => by rw [swapP_at (by have := HX.out; have := HJ.out; omega) (by have := HJ.out; omega)]; exact HK.out k hk⟩, HF43⟩
        · have HD2 : Aside0 (decide (ltK (ky qs j1) (ky qs i)) = false) := ⟨decide_eq_false hlt⟩
          have HEX := Aside0.mk (HE.out (fun c hc0 hcn hcp => ltK.le_trans hlt (HMIN.out c hc0 hcn hcp)))
          clear hlt
          go_wp2_with (first
            | (go_at_call 67; go_must ((refine (less_calls base _ _ n _ _ qs _ ?hh ?h1 ?h2).mono ?_; (case hh => first | exact HHw32.out | exact HH.out); (case h1 => assumption); (case h2 => assumption); first | (rw [HD2.out]; rintro e w38 ⟨rfl, hb⟩; have hc38 := pw_cell_below hb hcw; have hmw38 := meth_swap pb po n cap _ w38 hc38; have HHw38 := Aside0.mk (HH.out.below hb); have HFw38 := Aside0.mk (HF.out.stepB hb); clear hb)))))
          go_ret
          exact ⟨mv, qs, by first | rfl | simp [← HMV.out] | simp_all, HP.out, HHw38.out, HEX.out.1, HEX.out.2, HK.out, by repeat (first | exact HFw38.out | refine Fr.drew ?_)⟩
end Go.Proofs.Ytekhpogigndlkaa.K

/- cachetteref08: the reference's buffer: find, First. cachetteref08's Drop. cachetteref08's Take. cachetteref08's Hold: what it says where it holds nothing. -/
import Derived.Test.YtekhpogigndlkaaMI
import Derived.Deep.RegionLaw
import Derived.Test.YtekhpogigndlkaaWTab
import Derived.Deep.QuietTactic
import Derived.Lib.Bytes
import Derived.BigQuiet
namespace Go.Proofs.Ytekhpogigndlkaa.K
open Go.RowKit Go.Proofs.YtekhpogigndlkaaW.PrintWords Go.Proofs.YtekhpogigndlkaaW.PrintLast Go.Proofs.YtekhpogigndlkaaW.PrintMore
set_option linter.unusedVariables false
set_option linter.unusedSimpArgs false

/-- The reference's buffer: block g. -/
structure RefB (w0 W : World) (g : Nat) (most : Int) (v : Value) (hs : List EP) : Prop where
  hd : W.heap[g]? = some (.cells #[.int .i64 most, v] 50 (0, 0))
  row : HRow W w0.heap.size v hs
  bs : w0.heap.size ≤ g
  rd : ∀ p ∈ hs, Rd w0 p.b p.e.f5
  bel : Below w0.heap.size w0 W
theorem RefB.below {w0 w W : World} {g : Nat} {most : Int} {v : Value} {hs : List EP} (h : RefB w0 w g most v hs) (hb : Below w.heap.size w W) : RefB w0 W g most v hs := ⟨blk_below h.hd hb, h.row.below hb, h.bs, h.rd, h.bel.trans (hb.mono h.bel.size)⟩
theorem RefB.cell {w0 w : World} {g : Nat} {most : Int} {v : Value} {hs : List EP} (h : RefB w0 w g most v hs) : w.cell? ⟨g, 1, none⟩ = some v := blk_cell h.hd 1
theorem RefB.cell0 {w0 w : World} {g : Nat} {most : Int} {v : Value} {hs : List EP} (h : RefB w0 w g most v hs) : w.cell? ⟨g, 0, none⟩ = some (.int .i64 most) := blk_cell h.hd 0
theorem RefB.rdp {w0 w : World} {g : Nat} {most : Int} {v : Value} {hs : List EP} (h : RefB w0 w g most v hs) {p : EP} (hp : p ∈ hs) : Rd w p.b p.e.f5 := (h.rd p hp).below h.bel
set_option maxRecDepth 100000 in
set_option maxHeartbeats 4000000 in
theorem rfind_calls (g n : Nat) (most : Int) (A : Option Addr) (c : Nat) (hs : List EP) (x y : Int) (w0 w : World) (h : RefB w0 w g most (.slice A n c) hs) (hn : hs.length = n) (hl : n ≤ 100000) :
    Calls Try.prog 36 #[.pointer (some ⟨g, 0, none⟩), .int .i64 x, .int .i64 y] w fun e w' => ∃ r : Int, e = .returned (.int .i64 r) ∧ FndP hs (x, y) r ∧ Below w.heap.size w w' := by
  have HH := Aside0.mk h
  have HN := Aside0.mk hn
  have HL := Aside0.mk hl
  clear h hn hl
  go_enter Try.func36, Try.ntmps36
  go_wp2
  go_loopg [7] n (fun gg v7 wr => ∃ (j : Nat), gg = n - j ∧ v7 = .int .i64 j ∧ j ≤ n ∧ Aside0 (∀ (i : Nat) (p : EP), i < j → hs[i]? = some p → keyE p.e ≠ (x, y)) ∧ Aside0 (Below w.heap.size w wr))
  case atStart => exact ⟨0, rfl, rfl, Nat.zero_le _, ⟨fun i p hi => absurd hi (Nat.not_lt_zero i)⟩, ⟨Below.refl _ _⟩⟩
  case round =>
    obtain ⟨j, hg, rfl, hj, HS, HB⟩ := hrel
    have HG := Aside0.mk hg
    clear hg
    have hc := (HH.out.below HB.out).cell
    by_cases hjn : j = n
    · subst hjn
      have hlt : ¬ (j : Int) < (j : Int) := by omega
      have HF : Aside0 (FndP hs (x, y) (-1)) := ⟨.inl ⟨rfl, fun p hp => by
        obtain ⟨i, hi, he⟩ := List.mem_iff_getElem.1 hp
        exact HS.out i p (by have := HN.out; omega) (by rw [List.getElem?_eq_getElem hi, he])⟩⟩
      go_wp2
      go_ret
      exact ⟨_, rfl, HF.out, HB.out⟩
    · obtain ⟨p, hp⟩ : ∃ p, hs[j]? = some p := ⟨_, List.getElem?_eq_getElem (by have := HN.out; omega)⟩
      have hrow := (HH.out.below HB.out).row
      rw [← HN.out] at hrow
      obtain ⟨gr, rfl, c0, c1, -⟩ := hrow.at hp
      clear hrow
      have HJ : Aside0 (j < n ∧ n ≤ 100000) := ⟨by omega, HL.out⟩
      have hk : (-1000000 : Int) ≤ (j : Int) + 1 ∧ (j : Int) + 1 ≤ 1000000 := by have := HJ.out; omega
      have hlt : (j : Int) < n := by omega
      have h0 : (0 : Int) ≤ j := by omega
      have HP := Aside0.mk hp
      have hw1 := iw (x := (j : Int) + 1) rfl hk
      have hw2 := w64 (x := (j : Int) + 1) rfl hk
      clear hk hp hj hjn
      by_cases h1 : p.e.f0 = x
      · by_cases h2 : p.e.f1 = y
        · have HF : Aside0 (FndP hs (x, y) j) := ⟨.inr ⟨j, p, rfl, HP.out, by simp only [keyE, h1, h2]⟩⟩
          go_wp2
          go_ret
          exact ⟨_, rfl, HF.out, HB.out⟩
        · have HK : Aside0 (keyE p.e ≠ (x, y)) := ⟨fun e => h2 (by simp only [keyE, Prod.mk.injEq] at e; exact e.2)⟩
          go_wp2
          clear hw1 hw2
          go_roundg (n - (j + 1))
          case measure => rw [HG.out]; have := HJ.out; omega
          case rel => exact ⟨j + 1, rfl, by simp, by have := HJ.out; omega, ⟨fun i q hi hq => by
            by_cases e : i = j
            · subst e
              rw [HP.out] at hq
              injection hq with hq
              rw [← hq]
              exact HK.out
            · exact HS.out i q (by omega) hq⟩, HB⟩
      · have HK : Aside0 (keyE p.e ≠ (x, y)) := ⟨fun e => h1 (by simp only [keyE, Prod.mk.injEq] at e; exact e.1)⟩
        go_wp2
        clear hw1 hw2
        go_roundg (n - (j + 1))
        case measure => rw [HG.out]; have := HJ.out; omega
        case rel => exact ⟨j + 1, rfl, by simp, by have := HJ.out; omega, ⟨fun i q hi hq => by
          by_cases e : i = j
          · subst e
            rw [HP.out] at hq
            injection hq with hq
            rw [← hq]
            exact HK.out
          · exact HS.out i q (by omega) hq⟩, HB⟩
set_option maxRecDepth 100000 in
set_option maxHeartbeats 4000000 in
theorem rfirst_none (g c : Nat) (most : Int) (A : Option Addr) (hs : List EP) (w0 w : World) (h : RefB w0 w g most (.slice A 0 c) hs) :
    Calls Try.prog 23 #[.pointer (some ⟨g, 0, none⟩)] w fun e w' => e = .returned (.tuple #[enV zEP, .bool false]) ∧ Below w.heap.size w w' := by
  have hc1 : (w.alloc (.cells zCells 33)).cell? ⟨g, 1, none⟩ = some (.slice A 0 c) := pw_cell_below (below_alloc (Below.refl _ _) _) h.cell
  clear h
  go_enter Try.func23, Try.ntmps23
  go_wp2
  refine gen_bp (fun W7 hW7 => ?_)
  have hy7 : W7.heap[w.heap.size]? = some (.cells zCells 33 (0, 0)) := by
    rw [hW7]
    with_reducible exact heap_alloc_new _ _
  have hB : Below w.heap.size w W7 := by rw [hW7]; with_reducible exact below_alloc (Below.refl _ _) _
  refine bodyPost_ret (results_ct rfl _ W7 w.heap.size 33 _ (0, 0) _ rfl hy7 Try.underlying33 rfl (by kernel_rfl)) rfl ?_
  exact ⟨rfl, hB⟩
set_option maxRecDepth 100000 in
set_option maxHeartbeats 4000000 in
theorem rfirst_some (g n c : Nat) (most : Int) (A : Option Addr) (hs : List EP) (p : EP) (w0 w : World) (h : RefB w0 w g most (.slice A n c) hs) (hn : hs.length = n) (hp : hs[0]? = some p) :
    Calls Try.prog 23 #[.pointer (some ⟨g, 0, none⟩)] w fun e w' => e = .returned (.tuple #[enV p, .bool true]) ∧ Below w.heap.size w w' := by
  have hn0 : 0 < n := by have := (List.getElem?_eq_some_iff.1 hp).1; omega
  have hn1 : (0 : Int) < n := by omega
  have hn2 : ((n : Int) == 0) = false := by simp; omega
  have hn3 : ¬ (n : Int) = 0 := by omega
  have hn4 : ¬ n = 0 := by omega
  have hh := h.below (frag_below (o := .cells zCells 33))
  have hc1 := hh.cell
  have hrow := hh.row
  rw [← hn] at hrow
  obtain ⟨gr, rfl, x0, x1, x2, x3, x4, x5, x6, x7⟩ := hrow.at hp
  simp only [Nat.zero_mul, Nat.zero_add] at x0 x1 x2 x3 x4 x5 x6 x7
  clear h hh hrow hn hp
  go_enter Try.func23, Try.ntmps23
  go_wp2
  refine gen_bp (fun W7 hW7 => ?_)
  have hy7 : W7.heap[w.heap.size]? = some (.cells #[.int .i64 p.e.f0, .int .i64 p.e.f1, .int .u64 p.e.f2, .int .i64 p.e.f3.f0, .int .i64 p.e.f3.f1, .int .i64 p.e.f4, .slice p.A p.e.f5.length p.c, .int .u64 p.e.f6] 33 (0, 0)) := by
    rw [hW7]
    with_reducible exact heap_alloc_new _ _
  have hB : Below w.heap.size w W7 := by rw [hW7]; with_reducible exact below_alloc (Below.refl _ _) _
  refine bodyPost_ret (results_ct rfl _ W7 w.heap.size 33 _ (0, 0) _ rfl hy7 Try.underlying33 rfl (by kernel_rfl)) rfl ?_
  exact ⟨rfl, hB⟩
end Go.Proofs.Ytekhpogigndlkaa.K

namespace Go.Proofs.Ytekhpogigndlkaa.K
open Go.RowKit Go.Proofs.YtekhpogigndlkaaW.PrintWords Go.Proofs.YtekhpogigndlkaaW.PrintLast Go.Proofs.YtekhpogigndlkaaW.PrintMore
set_option linter.unusedVariables false
set_option linter.unusedSimpArgs false

theorem hat_orR {u' u : Value} {n : Nat} (h : u'.ownBlock = u.ownBlock ∨ u'.ownBlock = some n) : ∀ k, u'.ownBlock = some k → u.ownBlock = some k ∨ n ≤ k := by
  intro k hk
  rcases h with h | h
  · rw [h] at hk
    exact .inl hk
  · rw [h] at hk
    exact .inr (Nat.le_of_eq (Option.some.inj hk))
/-- What the reference's ways leave: its block alone is changed. -/
def RefP (w0 w : World) (g : Nat) (most : Int) (hs : List EP) (W : World) : Prop := ∃ (v' : Value), RefB w0 W g most v' hs ∧ Fr w W (fun k => k = g) ∧ (∀ k, v'.ownBlock = some k → w.heap.size ≤ k)
set_option maxRecDepth 100000 in
set_option maxHeartbeats 8000000 in
theorem rdrop_calls (g n : Nat) (most : Int) (A : Option Addr) (c : Nat) (hs : List EP) (x y : Int) (w0 w : World) (h : RefB w0 w g most (.slice A n c) hs) (hn : hs.length = n) (hl : n ≤ 100000) :
    Calls Try.prog 22 #[.pointer (some ⟨g, 0, none⟩), .int .i64 x, .int .i64 y] w fun e w' => e = .returned (.int .i64 ((hs.length : Int) - (hs.filter (kpP x y)).length)) ∧ RefP w0 w g most (hs.filter (kpP x y)) w' := by
  have HH := Aside0.mk h
  have HN := Aside0.mk hn
  have HL := Aside0.mk hl
  clear h hn hl
  go_enter Try.func22, Try.ntmps22
  go_wp2
  go_loopg [7, 8] n (fun gg v7 v8 wr => ∃ (j : Nat) (os : List EP) (A1 : Option Addr) (c1 : Nat), gg = n - j ∧ v7 = .slice A1 os.length c1 ∧ v8 = .int .i64 j ∧ j ≤ n ∧ Aside0 (os = (hs.take j).filter (kpP x y)) ∧ Aside0 (HRow wr w0.heap.size v7 os) ∧ Aside0 (∀ k, v7.ownBlock = some k → w.heap.size ≤ k) ∧ Aside0 (Below w.heap.size w wr))
  case atStart => exact ⟨0, [], none, 0, rfl, rfl, rfl, Nat.zero_le _, ⟨rfl⟩, ⟨HRow.nil _ _⟩, ⟨fun k hk => by simp [Value.ownBlock] at hk⟩, ⟨Below.refl _ _⟩⟩
  case round =>
    obtain ⟨j, os, A1, c1, hg, rfl, rfl, hj, HOS, HO, HFR, HB⟩ := hrel
    have HG := Aside0.mk hg
    have HOL : Aside0 (os.length ≤ n) := ⟨by rw [HOS.out]; refine Nat.le_trans (List.length_filter_le _ _) ?_; rw [List.length_take]; omega⟩
    clear hg
    have hc := (HH.out.below HB.out).cell
    by_cases hjn : j = n
    · subst hjn
      have hlt : ¬ (j : Int) < (j : Int) := by omega
      have hos : os = hs.filter (kpP x y) := by rw [HOS.out, List.take_of_length_le (by rw [HN.out]; exact Nat.le_refl _)]
      have hk : (-1000000 : Int) ≤ (j : Int) - os.length ∧ (j : Int) - os.length ≤ 1000000 := by have := HL.out; have := HOL.out; omega
      have hw1 := iw (x := (j : Int) - os.length) rfl hk
      have hw2 := w64 (x := (j : Int) - os.length) rfl hk
      have HHr := Aside0.mk (HH.out.below HB.out)
      have hz := blk_frozen HHr.out.hd 1
      have HOS2 := Aside0.mk hos
      clear hk hos
      go_wp2
      refine gen_bp (fun W7 hW7 => ?_)
      have h7 : W7.heap[g]? = some (.cells #[.int .i64 most, .slice A1 os.length c1] 50 (0, 0)) := by
        rw [hW7]
        have := blk_set HHr.out.hd 1 (.slice A1 os.length c1)
        simpa using this
      have hf7 : Fr wr W7 (fun k => k = g) := by rw [hW7]; exact Fr.set (Fr.refl _ (fun k => k = g)) (.inl rfl) _ _
      have hF : Fr w W7 (fun k => k = g) := (Fr.ofBelow (fun k => k = g) HB.out).trans hf7 (fun _ _ h => h)
      clear hW7
      go_ret
      refine ⟨by rw [← HOS2.out, HN.out]; rfl, _, ⟨h7, ?_, HH.out.bs, fun p hp => HH.out.rd p (List.mem_filter.1 hp).1, hF.below HH.out.bel (fun k hk => by rw [hk]; exact HH.out.bs)⟩, hF, HFR.out⟩
      rw [← HOS2.out]
      refine HO.out.fr hf7 (fun k hk e => ?_)
      obtain ⟨cs', hcc⟩ := own_typed HO.out.row k hk
      rw [e, HHr.out.hd] at hcc
      injection hcc with hcc
      injection hcc with _ hcc
      cases hcc
    · obtain ⟨p, hp⟩ : ∃ p, hs[j]? = some p := ⟨_, List.getElem?_eq_getElem (by have := HN.out; omega)⟩
      have hrow := (HH.out.below HB.out).row
      rw [← HN.out] at hrow
      obtain ⟨gr, rfl, c0, c1', c2, c3, c4, c5, c6, c7⟩ := hrow.at hp
      clear hrow
      have HJ : Aside0 (j < n ∧ n ≤ 100000) := ⟨by omega, HL.out⟩
      have hk : (-1000000 : Int) ≤ (j : Int) + 1 ∧ (j : Int) + 1 ≤ 1000000 := by have := HJ.out; omega
      have hlt : (j : Int) < n := by omega
      have h0 : (0 : Int) ≤ j := by omega
      have HP := Aside0.mk hp
      have hw1 := iw (x := (j : Int) + 1) rfl hk
      have hw2 := w64 (x := (j : Int) + 1) rfl hk
      clear hk hp hj hjn
      by_cases h1 : p.e.f0 = x
      · by_cases h2 : y ≤ p.e.f1
        · have HK : Aside0 (kpP x y p = true) := ⟨by simp only [kpP, delE, Bool.not_eq_true', decide_eq_false_iff_not]; intro e; omega⟩
          have hb1 : (p.e.f0 == x) = true := by simp [h1]
          have hb3 : (p.e.f0 != x) = false := by simp [h1]
          have hb2 : ¬ p.e.f1 < y := by omega
          clear h1
          go_wp2_with (first
            | ((with_reducible refine gate_builtin (b := .append) (xs := #[.tmp 41, .tmp 49]) rfl ?_); at_builtin; go_must (refine app_held w0.heap.size rfl (.tmp 41) (.tmp 49) 22 rfl Try.underlying22 (.slice A1 os.length c1) os p rfl ?ho0 ⟨wr.heap.size, 0, none⟩ 1 rfl ?hnw ?hbs ?hlt ?_; (case ho0 => exact HO.out.below (below_alloc (Below.refl _ _) _)); (case hnw => exact fun j u hu => World.news_of_block (heap_alloc_new _ _) j u (by simpa [enC] using hu)); (case hbs => (have h1 := HH.out.bel.size; have h2 := HB.out.size; simp; omega)); (case hlt => (have h1 := HOL.out; have h2 := HL.out; omega)); intro v50 w50 hp hf hat; have HB50 : Aside0 (Below w.heap.size w w50) := ⟨hf.below (below_alloc HB.out _) (fun k hk => HFR.out k hk)⟩; have HFR50 : Aside0 (∀ k, v50.ownBlock = some k → w.heap.size ≤ k) := ⟨(fun k hk => (hat_orR hat k hk).elim (fun h => HFR.out k h) (fun h => Nat.le_trans (Nat.le_trans HB.out.size (by simp)) h))⟩; obtain ⟨A50, c50, rfl⟩ := hp.form; have HO50 := Aside0.mk hp; clear hp hf hat)))
          clear hw1 hw2
          have HO51 : Aside0 (HRow w50 w0.heap.size (.slice A50 (os.length + 1) c50) (os ++ [p]) ∧ ∀ k, (Value.slice A50 (os.length + 1) c50).ownBlock = some k → w.heap.size ≤ k) := ⟨⟨by have h := HO50.out; simpa using h, by have h := HFR50.out; simpa using h⟩⟩
          have hos : os ++ [p] = (hs.take (j + 1)).filter (kpP x y) := by rw [take_filter _ HP.out, ← HOS.out, if_pos HK.out]
          have HOS51 := Aside0.mk hos
          clear hos
          go_roundg (n - (j + 1))
          case measure => rw [HG.out]; have := HJ.out; omega
          case rel => exact ⟨j + 1, os ++ [p], A50, c50, rfl, by simp, by simp, by have := HJ.out; omega, HOS51, ⟨by have h := HO51.out.1; simpa using h⟩, ⟨by have h := HO51.out.2; simpa using h⟩, HB50⟩
        · have HK : Aside0 (¬ kpP x y p = true) := ⟨by simp only [kpP, delE, Bool.not_eq_true', decide_eq_false_iff_not]; intro e; exact e ⟨h1, by omega⟩⟩
          have hos : os = (hs.take (j + 1)).filter (kpP x y) := by rw [take_filter _ HP.out, ← HOS.out, if_neg HK.out, List.append_nil]
          have HOS51 := Aside0.mk hos
          have hb1 : (p.e.f0 == x) = true := by simp [h1]
          have hb3 : (p.e.f0 != x) = false := by simp [h1]
          clear hos h1
          go_wp2
          clear hw1 hw2
          go_roundg (n - (j + 1))
          case measure => rw [HG.out]; have := HJ.out; omega
          case rel => exact ⟨j + 1, os, A1, c1, rfl, rfl, by simp, by have := HJ.out; omega, HOS51, HO, HFR, HB⟩
      · have HK : Aside0 (kpP x y p = true) := ⟨by simp only [kpP, delE, Bool.not_eq_true', decide_eq_false_iff_not]; intro e; exact h1 e.1⟩
        have hb1 : (p.e.f0 == x) = false := by simp [h1]
        have hb3 : (p.e.f0 != x) = true := by simp [h1]
        go_wp2_with (first
          | ((with_reducible refine gate_builtin (b := .append) (xs := #[.tmp 41, .tmp 49]) rfl ?_); at_builtin; go_must (refine app_held w0.heap.size rfl (.tmp 41) (.tmp 49) 22 rfl Try.underlying22 (.slice A1 os.length c1) os p rfl ?ho0 ⟨wr.heap.size, 0, none⟩ 1 rfl ?hnw ?hbs ?hlt ?_; (case ho0 => exact HO.out.below (below_alloc (Below.refl _ _) _)); (case hnw => exact fun j u hu => World.news_of_block (heap_alloc_new _ _) j u (by simpa [enC] using hu)); (case hbs => (have h1 := HH.out.bel.size; have h2 := HB.out.size; simp; omega)); (case hlt => (have h1 := HOL.out; have h2 := HL.out; omega)); intro v50 w50 hp hf hat; have HB50 : Aside0 (Below w.heap.size w w50) := ⟨hf.below (below_alloc HB.out _) (fun k hk => HFR.out k hk)⟩; have HFR50 : Aside0 (∀ k, v50.ownBlock = some k → w.heap.size ≤ k) := ⟨(fun k hk => (hat_orR hat k hk).elim (fun h => HFR.out k h) (fun h => Nat.le_trans (Nat.le_trans HB.out.size (by simp)) h))⟩; obtain ⟨A50, c50, rfl⟩ := hp.form; have HO50 := Aside0.mk hp; clear hp hf hat)))
        clear hw1 hw2
        have HO51 : Aside0 (HRow w50 w0.heap.size (.slice A50 (os.length + 1) c50) (os ++ [p]) ∧ ∀ k, (Value.slice A50 (os.length + 1) c50).ownBlock = some k → w.heap.size ≤ k) := ⟨⟨by have h := HO50.out; simpa using h, by have h := HFR50.out; simpa using h⟩⟩
        have hos : os ++ [p] = (hs.take (j + 1)).filter (kpP x y) := by rw [take_filter _ HP.out, ← HOS.out, if_pos HK.out]
        have HOS51 := Aside0.mk hos
        clear hos
        go_roundg (n - (j + 1))
        case measure => rw [HG.out]; have := HJ.out; omega
        case rel => exact ⟨j + 1, os ++ [p], A50, c50, rfl, by simp, by simp, by have := HJ.out; omega, HOS51, ⟨by have h := HO51.out.1; simpa using h⟩, ⟨by have h := HO51.out.2; simpa using h⟩, HB50⟩
end Go.Proofs.Ytekhpogigndlkaa.K

namespace Go.Proofs.Ytekhpogigndlkaa.K
open Go.RowKit Go.Proofs.YtekhpogigndlkaaW.PrintWords Go.Proofs.YtekhpogigndlkaaW.PrintLast Go.Proofs.YtekhpogigndlkaaW.PrintMore
set_option linter.unusedVariables false
set_option linter.unusedSimpArgs false

/-- append of entries onto a row of one's own, as a step of a region that draws its order. -/
theorem step_app_rows {ops : Array Oper} {o : Oper} {a : Act} {K : Act → World → Prop} {Q : Exit → Act → World → Prop} {E : Prop} {W : World} (base : Nat) (hgd : o.guard = none) (s x : Operand) (t : TypeId)
    (ho : o.op = .call { callee := .builtin .append, args := #[s, x], argTypes := #[t, t] }) (ht : Try.prog.underlying t = some (.slice 33))
    (v : Value) (ps qs : List EP) (hs : a.eval s = v) (HO : HRow W base v ps) (ad : Addr) (m c : Nat) (hx : a.eval x = .slice (some ad) m c) (hm : qs.length = m)
    (hnews : ∀ j u, (flE qs)[j]? = some u → W.cell? (ad.add j) = some u) (hbase : base ≤ W.heap.size) (hl : ps.length + m ≤ 1000000)
    (h : ∀ v1 w1, HRow w1 base v1 (ps ++ qs) → Fr W w1 (fun k => v.ownBlock = some k) → (v1.ownBlock = v.ownBlock ∨ v1.ownBlock = some W.heap.size) → K (a.put o.dst v1) w1) :
    if Region.wanted o (yielded ops a.tmps) = true then Oper.wp Try.prog o a W K Q else E := by
  have hw : Region.wanted o (yielded ops a.tmps) = true := by simp [Region.wanted, hgd]
  rw [if_pos hw]
  obtain ⟨i, hi, hzz⟩ := Option.map_eq_some_iff.1 infoEn
  simp only [Prod.mk.injEq] at hzz
  obtain ⟨hz, hs8, hs80⟩ := hzz
  subst hm
  obtain ⟨v', w', hr, h1, h2, h3, h4⟩ := run_append_own_at (P := Try.prog) W base t o.type 33 i _ 8 80 ht hi hz hs8 hs80 rfl (by decide) v ps.length (flE ps) HO.row ad qs.length c (flE qs) (flE_length qs) hnews (flE_one qs) (by simp only [maxLen]; omega) (by omega) hbase
  unfold Oper.wp execOp
  simp only [ho, resolve, invoke, builtin, Sem.run_bind, Sem.run_pure, Result.andThen_ok, List.map_toArray, List.map_cons, List.map_nil, hs, hx, hr]
  exact h v' w' ⟨by rw [List.length_append, flE_append]; exact h1⟩ (grown_fr h2) h4
/-- A part of a row, as cells. -/
theorem row_news {W : World} {base gr n cap : Nat} {hs l m r : List EP} (h : HRow W base (.slice (some ⟨gr, 0, none⟩) n cap) hs) (he : hs = l ++ m ++ r) : ∀ j u, (flE m)[j]? = some u → W.cell? ((⟨gr, l.length * 8, none⟩ : Addr).add j) = some u := by
  intro j u hu
  rcases h.slice with ⟨h1, _⟩ | ⟨g, cap', cur, h1, hbg, hcur, hnc, hcm, hsz, htk⟩
  · cases h1
  injection h1 with h1 _ h2
  injection h1 with h1
  injection h1 with h1
  subst h1 h2
  have hadd : (⟨gr, l.length * 8, none⟩ : Addr).add j = ⟨gr, l.length * 8 + j, none⟩ := by unfold Addr.add; split <;> simp_all
  rw [hadd, blk_cell hcur]
  have hj := (List.getElem?_eq_some_iff.1 hu).1
  rw [flE_length] at hj
  have hlen : hs.length = l.length + m.length + r.length := by rw [he]; simp; omega
  have h0 := congrArg (fun z => z[l.length * 8 + j]?) htk
  simp only [List.getElem?_take, Array.getElem?_toList] at h0
  rw [if_pos (by omega), he, flE_append, flE_append, List.append_assoc, List.getElem?_append_right (by rw [flE_length]; omega), flE_length, Nat.add_sub_cancel_left, List.getElem?_append_left (by rw [flE_length]; exact hj), hu] at h0
  exact h0
theorem HRow.empty (W : World) (base : Nat) (hb : base ≤ W.heap.size) : HRow (W.alloc (.cells #[] 33)) base (.slice (some ⟨W.heap.size, 0, none⟩) 0 0) [] :=
  ⟨⟨rfl, .inr ⟨W.heap.size, 0, #[], rfl, hb, heap_alloc_new _ _, Nat.le_refl _, by decide, rfl, rfl⟩⟩⟩
set_option maxRecDepth 100000 in
set_option maxHeartbeats 4000000 in
theorem rtake_none (g n : Nat) (most : Int) (A : Option Addr) (c : Nat) (hs : List EP) (x y : Int) (w0 w : World) (h : RefB w0 w g most (.slice A n c) hs) (hn : hs.length = n) (hl : n ≤ 100000) (hno : ∀ p ∈ hs, keyE p.e ≠ (x, y)) :
    Calls Try.prog 19 #[.pointer (some ⟨g, 0, none⟩), .int .i64 x, .int .i64 y] w fun e w' => e = .returned (.tuple #[enV zEP, .bool false]) ∧ Below w.heap.size w w' := by
  have HH := Aside0.mk (h.below (frag_below (o := .cells zCells 33)))
  have HN := Aside0.mk hn
  have HL := Aside0.mk hl
  have HNO := Aside0.mk hno
  have HY := Aside0.mk (blk_new w (.cells zCells 33 (0, 0)))
  clear h hn hl hno
  go_enter Try.func19, Try.ntmps19
  go_wp2_with (first
    | (go_at_call 36; go_must (refine (rfind_calls g n most A c hs x y _ _ (by exact HH.out) HN.out HL.out).mono ?_; rintro e w16 ⟨r, rfl, hr, hb⟩; obtain rfl := fnd_no hr HNO.out; have hy := blk_below HY.out hb; obtain ⟨y0, y1, y2, y3, y4, y5, y6, y7, u0, u1, u2, u3, u4, u5, u6, u7⟩ := cells8z hy; have HY16 := Aside0.mk hy; have HB16 : Aside0 (Below w.heap.size w w16) := ⟨below_step (below_alloc (Below.refl _ _) _) hb⟩; clear hr hb hy)))
  refine gen_bp (fun W7 hW7 => ?_)
  have hy7 : W7.heap[w.heap.size]? = some (.cells zCells 33 (0, 0)) := by
    rw [hW7]
    with_reducible exact heap_setv HY16.out _ _ _ _ _ _ _ _
  have hf7 : Fr w16 W7 (fun k => k = w.heap.size) := by rw [hW7]; repeat (with_reducible first | exact Fr.refl _ _ | refine Fr.setg ?_ _ _)
  have HB7 : Below w.heap.size w W7 := hf7.below HB16.out (fun k hk => by rw [hk]; exact Nat.le_refl _)
  refine bodyPost_ret (results_ct rfl _ W7 w.heap.size 33 _ (0, 0) _ rfl hy7 Try.underlying33 rfl (by kernel_rfl)) rfl ?_
  exact ⟨rfl, HB7⟩
/-- What the reference's Take takes. -/
def RTakeP (w0 w : World) (g : Nat) (most : Int) (hs : List EP) (k : Ky) (e : Ending) (W : World) : Prop :=
  ∃ (i : Nat) (p : EP), e = .returned (.tuple #[enV p, .bool true]) ∧ hs[i]? = some p ∧ keyE p.e = k ∧ RefP w0 w g most (hs.take i ++ hs.drop (i + 1)) W
def rtake_some.T5 : Bool × List (List Nat × List Nat) := (true, [([], []), ([], []), ([], []), ([2], [2]), ([3], [3]), ([4], [4]), ([], []), ([5, 6], [5, 6]), ([1, 7], [1, 7]), ([], []), ([9], [9]), ([10], [10]), ([11], [11]), ([], []), ([13], [13]), ([12, 14], [12, 14]), ([8, 15, 8], [8, 15]), ([0, 0, 1, 2, 3, 4, 5, 6, 7, 8, 9, 10, 11, 12, 13, 14, 15, 16], [0]), ([17, 0, 1, 2, 3, 4, 5, 6, 7, 8, 9, 10, 11, 12, 13, 14, 15, 16], [17]), ([18, 16, 16, 0, 1, 2, 3, 4, 5, 6, 7, 8, 9, 10, 11, 12, 13, 14, 15, 16], [16, 18])])
def rtake_some.B5 : List Nat := [0, 0, 0, 4, 12, 28, 0, 124, 254, 0, 512, 1536, 3584, 0, 8192, 32256, 65534, 131071, 262143, 524287]
theorem rtake_some.tab5 : rtab .any (opsOf Try.f19 5) = rtake_some.T5 := by kernel_rfl
theorem rtake_some.bits5 : waitsOk rtake_some.T5.2 rtake_some.B5 = true := by kernel_rfl
set_option maxRecDepth 100000 in
set_option maxHeartbeats 16000000 in
theorem rtake_some (g n gr cap : Nat) (most : Int) (hs : List EP) (x y : Int) (w0 w : World) (h : RefB w0 w g most (.slice (some ⟨gr, 0, none⟩) n cap) hs) (hn : hs.length = n) (hl : n ≤ 100000) (hyes : ∃ p ∈ hs, keyE p.e = (x, y)) :
    Calls Try.prog 19 #[.pointer (some ⟨g, 0, none⟩), .int .i64 x, .int .i64 y] w fun e w' => RTakeP w0 w g most hs (x, y) e w' := by
  have HH := Aside0.mk (h.below (frag_below (o := .cells zCells 33)))
  have HH0 := Aside0.mk h
  have HN := Aside0.mk hn
  have HL := Aside0.mk hl
  have HYES := Aside0.mk hyes
  have HY := Aside0.mk (blk_new w (.cells zCells 33 (0, 0)))
  obtain ⟨g6, hg6⟩ : ∃ g, g = w.heap.size := ⟨_, rfl⟩
  have HG : Aside0 (w.heap.size ≤ g6 ∧ g ≠ g6 ∧ gr ≠ g6) := ⟨by
    have h1 : g < w.heap.size := blk_lt h.hd
    have h2 : gr < w.heap.size := h.row.lt gr rfl
    omega⟩
  clear h hn hl hyes
  go_enter Try.func19, Try.ntmps19
  go_upto_region 4 with (first
    | (go_at_call 36; go_must (refine (rfind_calls g n most _ cap hs x y _ _ (by exact HH.out) HN.out HL.out).mono ?_; rintro e w16 ⟨r, rfl, hr, hb⟩; obtain ⟨i, p, rfl, hp, hk⟩ := fnd_yes hr HYES.out; have hi0 : ¬ (i : Int) < 0 := (by omega); have HP := Aside0.mk hp; have HK := Aside0.mk hk; have HY16 := Aside0.mk (blk_below HY.out hb); have HH16 := Aside0.mk (HH.out.below hb); have HB16 : Aside0 (Below w.heap.size w w16) := ⟨below_step (below_alloc (Below.refl _ _) _) hb⟩; clear hr hb hp hk)))
  rw [← hg6] at HY16 ⊢
  have hil : i < n := by have h1 := (List.getElem?_eq_some_iff.1 HP.out).1; have h2 := HN.out; omega
  have hc := HH16.out.cell
  have hrow := HH16.out.row
  rw [← HN.out] at hrow
  obtain ⟨gr', hgr, x0, x1, x2, x3, x4, x5, x6, x7⟩ := hrow.at HP.out
  injection hgr with hgr
  injection hgr with hgr
  subst hgr
  have h0i : (0 : Int) ≤ i := by omega
  have hin : (i : Int) < n := by omega
  clear hrow HY hg6
  go_upto_region 5 with fail
  refine gen_world (fun W1 hW1 => ?_)
  have hB1 : Below w16.heap.size w16 W1 := by rw [hW1]; with_reducible exact below_alloc (Below.refl _ _) _
  have hy1 : W1.heap[w16.heap.size]? = some (.cells #[.int .i64 p.e.f0, .int .i64 p.e.f1, .int .u64 p.e.f2, .int .i64 p.e.f3.f0, .int .i64 p.e.f3.f1, .int .i64 p.e.f4, .slice p.A p.e.f5.length p.c, .int .u64 p.e.f6] 33 (0, 0)) := by rw [hW1]; with_reducible exact heap_alloc_new _ _
  obtain ⟨g9, hg9⟩ : ∃ g, g = w16.heap.size := ⟨_, rfl⟩
  rw [← hg9] at hy1 ⊢
  have HH1 := Aside0.mk (HH16.out.below hB1)
  have HBW1 := Aside0.mk hB1
  have HY9 := Aside0.mk hy1
  have HY6 := Aside0.mk (blk_below HY16.out hB1)
  have HG9 : Aside0 (w.heap.size ≤ g9 ∧ g ≠ g9 ∧ g6 ≠ g9) := ⟨by
    have h1 : g < w16.heap.size := blk_lt HH16.out.hd
    have h2 := blk_lt HY16.out
    have h3 := HB16.out.size
    omega⟩
  clear hW1 hB1 hy1 hg9 hc x0 x1 x2 x3 x4 x5 x6 x7
  have hc := HH1.out.cell
  have hz := blk_frozen HH1.out.hd 1
  have hca : (W1.alloc (.cells #[] 33)).cell? ⟨g, 1, none⟩ = some (.slice (some ⟨gr, 0, none⟩) n cap) := pw_cell_below (below_alloc (Below.refl _ _) _) hc
  have hrow := HH1.out.row
  rw [← HN.out] at hrow
  rcases hrow.slice with ⟨h1, _⟩ | ⟨g', cap', cur, h1, hbg, hcur, hnc, hcm, hsz, htk⟩
  · cases h1
  injection h1 with h1 _ h2
  injection h1 with h1
  injection h1 with h1
  subst h1 h2
  have hic2 : i ≤ cap := by have := HN.out; omega
  have hic3 : (i : Int) ≤ cap := by omega
  have hnc2 : n ≤ cap := by have := HN.out; omega
  have e1 : (i : Int) + 1 ≤ n := by omega
  have hk : (-1000000 : Int) ≤ (i : Int) + 1 ∧ (i : Int) + 1 ≤ 1000000 := by have := HL.out; omega
  have HX := Aside0.mk (And.intro hbg (And.intro hcur (And.intro hnc (And.intro hsz htk))))
  obtain ⟨k, hki⟩ : ∃ k, k = i + 1 := ⟨_, rfl⟩
  have e2 : (i : Int) + 1 = (k : Int) := by omega
  rw [e2] at hk
  have h0k : (0 : Int) ≤ k := by omega
  have hkn : (k : Int) ≤ n := by omega
  have hkn2 : k ≤ n := by omega
  have hkc : k ≤ cap := by omega
  have HKI : Aside0 (k = i + 1 ∧ k ≤ n ∧ n ≤ 100000) := ⟨hki, hkn2, HL.out⟩
  have HBS1 : Aside0 (w0.heap.size ≤ W1.heap.size) := ⟨HH1.out.bel.size⟩
  have HROW : Aside0 (HRow W1 w0.heap.size (.slice (some ⟨gr, 0, none⟩) n cap) hs) := ⟨HH1.out.row⟩
  have HSP : Aside0 (hs = [] ++ hs.take i ++ hs.drop i ∧ hs = hs.take k ++ hs.drop k ++ [] ∧ (hs.take k).length = k ∧ (hs.take i).length = i) := ⟨by simp, by simp, by rw [List.length_take, HN.out]; omega, by rw [List.length_take, HN.out]; omega⟩
  have hck3 : ¬ k = cap → (k : Int) < cap := by omega
  have hnk2 : k = cap → n = k := by omega
  have hw1 := iw e2 hk
  have hw2 := w64 e2 hk
  clear hk hki e1 e2
  by_cases hck : k = cap
  · have hnk := hnk2 hck
    subst hck
    subst hnk
    refine start_ (n := 20) (S := fun w' => w'.cell? ⟨g, 1, none⟩ = some (.slice (some ⟨gr, 0, none⟩) n n)) (ds := [19]) #[false, false, false, false, false, false, false, false, false, false, false, false, false, false, false, false, false, false, false, false] (by kernel_rfl) rfl rfl (hc) (fun hHeld => ?_)
    refine with_tabW rtake_some.tab5 rtake_some.bits5 (fun HT_ HW_ => ?_)
    refine pure_ (i := 0) (N := some 24) (v := ?_) (a' := ?_) #[true, false, false, false, false, false, false, false, false, false, false, false, false, false, false, false, false, false, false, false] rfl rfl (any_of HT_.out (by kernel_rfl)) (fun _ _ _ h => h) (Or.inl ⟨by rfl, ?_⟩) ?_ ?_
    rotate_left
    · intro w'
      go_simp
      with_reducible rfl
    rotate_left
    · simp only [Act.put, List.setIfInBounds_toArray, List.set_cons_zero, List.set_cons_succ, i64_w, i32_w]
      rfl
    refine pure_ (i := 2) (N := some 26) (v := ?_) (a' := ?_) #[true, false, true, false, false, false, false, false, false, false, false, false, false, false, false, false, false, false, false, false] rfl rfl (any_of HT_.out (by kernel_rfl)) (fun _ _ _ h => h) (Or.inl ⟨by rfl, ?_⟩) ?_ ?_
    rotate_left
    · intro w'
      go_simp
      with_reducible rfl
    rotate_left
    · simp only [Act.put, List.setIfInBounds_toArray, List.set_cons_zero, List.set_cons_succ, i64_w, i32_w]
      rfl
    refine pure_ (i := 3) (N := some 27) (v := ?_) (a' := ?_) #[true, false, true, true, false, false, false, false, false, false, false, false, false, false, false, false, false, false, false, false] rfl rfl (any_of HT_.out (by kernel_rfl)) (fun _ _ _ h => h) (Or.inl ⟨by rfl, ?_⟩) ?_ ?_
    rotate_left
    · intro w'
      go_simp
      with_reducible rfl
    rotate_left
    · simp only [Act.put, List.setIfInBounds_toArray, List.set_cons_zero, List.set_cons_succ, i64_w, i32_w]
      rfl
    refine pure_ (i := 4) (N := some 28) (v := ?_) (a' := ?_) #[true, false, true, true, true, false, false, false, false, false, false, false, false, false, false, false, false, false, false, false] rfl rfl (any_of HT_.out (by kernel_rfl)) (fun _ _ _ h => h) (Or.inl ⟨by rfl, ?_⟩) ?_ ?_
    rotate_left
    · intro w'
      go_simp
      with_reducible rfl
    rotate_left
    · simp only [Act.put, List.setIfInBounds_toArray, List.set_cons_zero, List.set_cons_succ, i64_w, i32_w]
      rfl
    refine pure_ (i := 6) (N := some 30) (v := ?_) (a' := ?_) #[true, false, true, true, true, false, true, false, false, false, false, false, false, false, false, false, false, false, false, false] rfl rfl (any_of HT_.out (by kernel_rfl)) (fun _ _ _ h => h) (Or.inl ⟨by rfl, ?_⟩) ?_ ?_
    rotate_left
    · intro w'
      go_simp
      with_reducible rfl
    rotate_left
    · simp only [Act.put, List.setIfInBounds_toArray, List.set_cons_zero, List.set_cons_succ, i64_w, i32_w]
      rfl
    refine pure_ (i := 9) (N := some 33) (v := ?_) (a' := ?_) #[true, false, true, true, true, false, true, false, false, true, false, false, false, false, false, false, false, false, false, false] rfl rfl (any_of HT_.out (by kernel_rfl)) (fun _ _ _ h => h) (Or.inl ⟨by rfl, ?_⟩) ?_ ?_
    rotate_left
    · intro w'
      go_simp
      with_reducible rfl
    rotate_left
    · simp only [Act.put, List.setIfInBounds_toArray, List.set_cons_zero, List.set_cons_succ, i64_w, i32_w]
      rfl
    refine pure_ (i := 10) (N := some 34) (v := ?_) (a' := ?_) #[true, false, true, true, true, false, true, false, false, true, true, false, false, false, false, false, false, false, false, false] rfl rfl (any_of HT_.out (by kernel_rfl)) (fun _ _ _ h => h) (Or.inl ⟨by rfl, ?_⟩) ?_ ?_
    rotate_left
    · intro w'
      go_simp
      with_reducible rfl
    rotate_left
    · simp only [Act.put, List.setIfInBounds_toArray, List.set_cons_zero, List.set_cons_succ, i64_w, i32_w]
      rfl
    refine pure_ (i := 11) (N := some 35) (v := ?_) (a' := ?_) #[true, false, true, true, true, false, true, false, false, true, true, true, false, false, false, false, false, false, false, false] rfl rfl (any_of HT_.out (by kernel_rfl)) (fun _ _ _ h => h) (Or.inl ⟨by rfl, ?_⟩) ?_ ?_
    rotate_left
    · intro w'
      go_simp
      with_reducible rfl
    rotate_left
    · simp only [Act.put, List.setIfInBounds_toArray, List.set_cons_zero, List.set_cons_succ, i64_w, i32_w]
      rfl
    refine pure_ (i := 13) (N := some 37) (v := ?_) (a' := ?_) #[true, false, true, true, true, false, true, false, false, true, true, true, false, true, false, false, false, false, false, false] rfl rfl (any_of HT_.out (by kernel_rfl)) (fun _ _ _ h => h) (Or.inl ⟨by rfl, ?_⟩) ?_ ?_
    rotate_left
    · intro w'
      go_simp
      with_reducible rfl
    rotate_left
    · simp only [Act.put, List.setIfInBounds_toArray, List.set_cons_zero, List.set_cons_succ, i64_w, i32_w]
      rfl
    refine pure_ (i := 14) (N := some 38) (v := ?_) (a' := ?_) #[true, false, true, true, true, false, true, false, false, true, true, true, false, true, true, false, false, false, false, false] rfl rfl (any_of HT_.out (by kernel_rfl)) (fun _ _ _ h => h) (Or.inl ⟨by rfl, ?_⟩) ?_ ?_
    rotate_left
    · intro w'
      go_simp
      with_reducible rfl
    rotate_left
    · simp only [Act.put, List.setIfInBounds_toArray, List.set_cons_zero, List.set_cons_succ, i64_w, i32_w]
      rfl
    refine take_ (i := 5) (N := some 29) (v := ?_) (a' := ?_) #[true, false, true, true, true, true, true, false, false, true, true, true, false, true, true, false, false, false, false, false] rfl rfl (take_ofW HT_.out HW_.out (by kernel_rfl)) (fun _ _ _ h => h) (Or.inl ⟨by rfl, ?_⟩) hHeld ?_ ?_
    rotate_left
    · intro w' s0
      go_simp
      with_reducible rfl
    rotate_left
    · simp only [Act.put, List.setIfInBounds_toArray, List.set_cons_zero, List.set_cons_succ, i64_w, i32_w]
      rfl
    refine pure_ (i := 7) (N := some 31) (v := ?_) (a' := ?_) #[true, false, true, true, true, true, true, true, false, true, true, true, false, true, true, false, false, false, false, false] rfl rfl (any_of HT_.out (by kernel_rfl)) (fun _ _ _ h => h) (Or.inl ⟨by rfl, ?_⟩) ?_ ?_
    rotate_left
    · intro w'
      go_simp
      with_reducible rfl
    rotate_left
    · simp only [Act.put, List.setIfInBounds_toArray, List.set_cons_zero, List.set_cons_succ, i64_w, i32_w]
      rfl
    refine take_ (i := 12) (N := some 36) (v := ?_) (a' := ?_) #[true, false, true, true, true, true, true, true, false, true, true, true, true, true, true, false, false, false, false, false] rfl rfl (take_ofW HT_.out HW_.out (by kernel_rfl)) (fun _ _ _ h => h) (Or.inl ⟨by rfl, ?_⟩) hHeld ?_ ?_
    rotate_left
    · intro w' s0
      go_simp
      with_reducible rfl
    rotate_left
    · simp only [Act.put, List.setIfInBounds_toArray, List.set_cons_zero, List.set_cons_succ, i64_w, i32_w]
      rfl
    refine pure_ (i := 15) (N := some 39) (v := ?_) (a' := ?_) #[true, false, true, true, true, true, true, true, false, true, true, true, true, true, true, true, false, false, false, false] rfl rfl (any_of HT_.out (by kernel_rfl)) (fun _ _ _ h => h) (Or.inl ⟨by rfl, ?_⟩) ?_ ?_
    rotate_left
    · intro w'
      go_simp
      with_reducible rfl
    rotate_left
    · simp only [Act.put, List.setIfInBounds_toArray, List.set_cons_zero, List.set_cons_succ, i64_w, i32_w]
      rfl
    refine one_ (i := 1) (N := some 25) #[true, true, true, true, true, true, true, true, false, true, true, true, true, true, true, true, false, false, false, false] rfl rfl (one_of HT_.out (by kernel_rfl)) (by decide) (fun K hK => ?_)
    refine value_ (w1 := ?_) (v := ?_) (by rfl) rfl ?_ ?_
    rotate_left 2
    · go_simp
      constructor
      · rfl
      · rfl
    refine hK.out _ _ ((pw_cell_below (by with_reducible repeat (first | exact Below.refl _ _ | apply below_alloc | apply pw_below_drewN | apply below_drew1)) hc)) (fun hHeld => ?_)
    clear hK K
    refine norm_ (a' := ?_) ?_ ?_
    rotate_left
    · show Act.put _ (some 25) _ = _
      simp only [Act.put, List.setIfInBounds_toArray, List.set_cons_zero, List.set_cons_succ, i64_w, i32_w]
      rfl
    refine one_ (i := 8) (N := some 32) #[true, true, true, true, true, true, true, true, true, true, true, true, true, true, true, true, false, false, false, false] rfl rfl (one_of HT_.out (by kernel_rfl)) (by decide) (fun K hK => ?_)
    clear hw1 hw2
    refine step_app_rows w0.heap.size rfl (.tmp 25) (.tmp 31) 22 rfl Try.underlying22 (.slice (some ⟨W1.heap.size, 0, none⟩) 0 0) [] (hs.take i) rfl ?ho ⟨gr, 0, none⟩ i n rfl HSP.out.2.2.2 ?hnews ?hbs ?hlt ?_
    case ho => first | exact (HRow.empty W1 w0.heap.size HBS1.out).below (below_drew1 (Below.refl _ _)) | exact HRow.empty W1 w0.heap.size HBS1.out
    case hnews => exact fun j u hu => pw_cell_below (show Below W1.heap.size W1 _ from (by with_reducible repeat (first | exact Below.refl _ _ | apply below_alloc | apply pw_below_drewN | apply below_drew1))) (by have h := row_news HROW.out HSP.out.1 j u hu; simpa using h)
    case hbs => (have := HBS1.out; simp; omega)
    case hlt => (have := HKI.out; simp; omega)
    intro v32 w32 hp hf hat
    have hb32 : Below W1.heap.size W1 w32 := hf.below (by with_reducible repeat (first | exact Below.refl _ _ | apply below_alloc | apply pw_below_drewN | apply below_drew1)) (fun n hk => Nat.le_of_eq (Option.some.inj hk))
    have HB32 := Aside0.mk hb32
    have HF32 : Aside0 (∀ n, v32.ownBlock = some n → W1.heap.size ≤ n) := ⟨fun n hk => (hat_orR hat n hk).elim (fun h => Nat.le_of_eq (Option.some.inj h)) (fun h => Nat.le_trans (by simp) h)⟩
    rw [List.nil_append] at hp
    obtain ⟨A32, c32, rfl⟩ := hp.form
    have HO32 := Aside0.mk hp
    have hc32 := pw_cell_below hb32 hc
    clear hp hf hat hb32
    refine hK.out _ _ (hc32) (fun hHeld => ?_)
    clear hK K
    refine norm_ (a' := ?_) ?_ ?_
    rotate_left
    · show Act.put _ (some 32) _ = _
      simp only [Act.put, List.setIfInBounds_toArray, List.set_cons_zero, List.set_cons_succ, i64_w, i32_w]
      rfl
    refine one_ (i := 16) (N := some 40) #[true, true, true, true, true, true, true, true, true, true, true, true, true, true, true, true, true, false, false, false] rfl rfl (one_of HT_.out (by kernel_rfl)) (by decide) (fun K hK => ?_)
    refine step_app_rows w0.heap.size rfl (.tmp 32) (.tmp 39) 22 rfl Try.underlying22 (.slice A32 (hs.take i).length c32) (hs.take i) (hs.drop n) rfl ?ho ⟨gr, 0, none⟩ 0 0 rfl (by rw [List.length_drop, HN.out, Nat.sub_self]) ?hnews ?hbs ?hlt ?_
    case ho => exact HO32.out
    case hnews => exact fun j u hu => by rw [List.drop_of_length_le (by rw [HN.out]; exact Nat.le_refl _)] at hu; simp [flE] at hu
    case hbs => exact Nat.le_trans HBS1.out HB32.out.size
    case hlt => (have := HKI.out; rw [HSP.out.2.2.2]; omega)
    intro v40 w40 hp hf hat
    have hb40 : Below W1.heap.size W1 w40 := hf.below HB32.out (fun n hk => HF32.out n hk)
    have HB40 := Aside0.mk hb40
    have HF40 : Aside0 (∀ n, v40.ownBlock = some n → W1.heap.size ≤ n) := ⟨fun n hk => (hat_orR hat n hk).elim (fun h => HF32.out n h) (fun h => Nat.le_trans HB32.out.size h)⟩
    obtain ⟨A40, c40, rfl⟩ := hp.form
    have HO40 := Aside0.mk hp
    have hc40 := pw_cell_below hb40 hc
    have hz40 := blk_frozen (blk_below HH1.out.hd hb40) 1
    clear hp hf hat hb40
    refine hK.out _ _ (hc40) (fun hHeld => ?_)
    clear hK K
    refine norm_ (a' := ?_) ?_ ?_
    rotate_left
    · show Act.put _ (some 40) _ = _
      simp only [Act.put, List.setIfInBounds_toArray, List.set_cons_zero, List.set_cons_succ, i64_w, i32_w]
      rfl
    refine pure_ (i := 17) (N := some 41) (v := ?_) (a' := ?_) #[true, true, true, true, true, true, true, true, true, true, true, true, true, true, true, true, true, true, false, false] rfl rfl (any_of HT_.out (by kernel_rfl)) (fun _ _ _ h => h) (Or.inl ⟨by rfl, ?_⟩) ?_ ?_
    rotate_left
    · intro w'
      go_simp
      with_reducible rfl
    rotate_left
    · simp only [Act.put, List.setIfInBounds_toArray, List.set_cons_zero, List.set_cons_succ, i64_w, i32_w]
      rfl
    refine pure_ (i := 18) (N := some 42) (v := ?_) (a' := ?_) #[true, true, true, true, true, true, true, true, true, true, true, true, true, true, true, true, true, true, true, false] rfl rfl (any_of HT_.out (by kernel_rfl)) (fun _ _ _ h => h) (Or.inl ⟨by rfl, ?_⟩) ?_ ?_
    rotate_left
    · intro w'
      go_simp
      with_reducible rfl
    rotate_left
    · simp only [Act.put, List.setIfInBounds_toArray, List.set_cons_zero, List.set_cons_succ, i64_w, i32_w]
      rfl
    refine last_ (i := 19) (N := none) #[true, true, true, true, true, true, true, true, true, true, true, true, true, true, true, true, true, true, true, true] rfl rfl (one_of HT_.out (by kernel_rfl)) (by decide) (fun K hK => ?_)
    refine skip_ (w1 := ?_) (by rfl) rfl ?_ ?_
    rotate_left
    · go_simp
      rfl
    refine hK.out _ _ ?_
    clear hK K
    refine done_ (done_of HT_.out (by kernel_rfl)) ?_
    go_upto_region 6 with fail
    have hL2 : min i hs.length = (hs.take i ++ hs.drop n).length := by rw [List.drop_of_length_le (by rw [HN.out]; exact Nat.le_refl _)]; simp
    rw [hL2]
    obtain ⟨L, hL⟩ : ∃ L, (hs.take i ++ hs.drop n).length = L := ⟨_, rfl⟩
    have HO41 : Aside0 (HRow w40 w0.heap.size (.slice A40 L c40) (hs.take i ++ hs.drop n)) := ⟨by rw [← hL]; exact HO40.out⟩
    have HF41 : Aside0 (∀ n, (Value.slice A40 L c40).ownBlock = some n → W1.heap.size ≤ n) := ⟨by rw [← hL]; exact HF40.out⟩
    rw [hL]
    clear hL2 hL hc40 hz40
    refine gen_world (fun W2 hW2 => ?_)
    have hf2 : Fr w40 W2 (fun n => n = g) := by rw [hW2]; exact Fr.set (Fr.refl _ (fun n => n = g)) (.inl rfl) _ _
    have hd2 : W2.heap[g]? = some (.cells #[.int .i64 most, .slice A40 L c40] 50 (0, 0)) := by
      rw [hW2]
      have := blk_set (blk_below HH1.out.hd HB40.out) 1 (.slice A40 L c40)
      simpa using this
    have hy9 := hf2.blk (blk_below HY9.out HB40.out) (fun e => HG9.out.2.1 e.symm)
    have hy6 := hf2.blk (blk_below HY6.out HB40.out) (fun e => HG.out.2.1 e.symm)
    obtain ⟨x0, x1, x2, x3, x4, x5, x6, x7, -⟩ := cells8z hy9
    obtain ⟨y0, y1, y2, y3, y4, y5, y6, y7, z0, z1, z2, z3, z4, z5, z6, z7⟩ := cells8z hy6
    have hne := HG9.out.2.2
    have hne' := Ne.symm HG9.out.2.2
    have HD2 := Aside0.mk hd2
    have HY62 := Aside0.mk hy6
    have HF2 := Aside0.mk hf2
    clear hW2 hf2 hd2 hy9 hy6
    go_wp2
    refine gen_bp (fun W7 hW7 => ?_)
    have h7 : W7.heap[g6]? = some (.cells #[.int .i64 p.e.f0, .int .i64 p.e.f1, .int .u64 p.e.f2, .int .i64 p.e.f3.f0, .int .i64 p.e.f3.f1, .int .i64 p.e.f4, .slice p.A p.e.f5.length p.c, .int .u64 p.e.f6] 33 (0, 0)) := by
      rw [hW7]
      with_reducible exact heap_setv HY62.out _ _ _ _ _ _ _ _
    have hf7 : Fr W2 W7 (fun n => n = g6) := by rw [hW7]; repeat (with_reducible first | exact Fr.refl _ _ | refine Fr.setg ?_ _ _)
    clear hW7
    refine bodyPost_ret (results_ct rfl _ W7 g6 33 _ (0, 0) _ rfl h7 Try.underlying33 rfl (by kernel_rfl)) rfl ?_
    have hF : Fr w W7 (fun n => n = g) := (((Fr.ofBelow (fun n => n = g) (HB16.out.trans (HBW1.out.mono HB16.out.size))).trans (Fr.ofBelow (fun n => n = g) HB40.out) (fun _ _ h => h)).trans HF2.out (fun _ _ h => h)).trans hf7 (fun q hq e => by have := HG.out.1; omega)
    refine ⟨i, p, rfl, HP.out, HK.out, .slice A40 L c40, ⟨hf7.blk HD2.out HG.out.2.1, ?_, HH0.out.bs, fun q hq => ?_, hF.below HH0.out.bel (fun n hk => by rw [hk]; exact HH0.out.bs)⟩, hF, fun n hk => Nat.le_trans (HB16.out.trans (HBW1.out.mono HB16.out.size)).size (HF41.out n hk)⟩
    · rw [← HKI.out.1]
      refine (HO41.out.fr HF2.out (fun n hk e => ?_)).fr hf7 (fun n hk e => ?_)
      · have h1 := HF41.out n hk
        have h2 := blk_lt HH1.out.hd
        omega
      · have h1 := HF41.out n hk
        have h2 := blk_lt HY6.out
        omega
    · rw [← HKI.out.1] at hq
      rcases List.mem_append.1 hq with hq | hq
      · exact HH0.out.rd q (List.mem_of_mem_take hq)
      · exact HH0.out.rd q (List.mem_of_mem_drop hq)
  · have hck2 : ¬ cap = k := fun e => hck e.symm
    have hck3 := hck3 hck
    refine start_ (n := 20) (S := fun w' => w'.cell? ⟨g, 1, none⟩ = some (.slice (some ⟨gr, 0, none⟩) n cap)) (ds := [19]) #[false, false, false, false, false, false, false, false, false, false, false, false, false, false, false, false, false, false, false, false] (by kernel_rfl) rfl rfl (hc) (fun hHeld => ?_)
    refine with_tabW rtake_some.tab5 rtake_some.bits5 (fun HT_ HW_ => ?_)
    refine pure_ (i := 0) (N := some 24) (v := ?_) (a' := ?_) #[true, false, false, false, false, false, false, false, false, false, false, false, false, false, false, false, false, false, false, false] rfl rfl (any_of HT_.out (by kernel_rfl)) (fun _ _ _ h => h) (Or.inl ⟨by rfl, ?_⟩) ?_ ?_
    rotate_left
    · intro w'
      go_simp
      with_reducible rfl
    rotate_left
    · simp only [Act.put, List.setIfInBounds_toArray, List.set_cons_zero, List.set_cons_succ, i64_w, i32_w]
      rfl
    refine pure_ (i := 2) (N := some 26) (v := ?_) (a' := ?_) #[true, false, true, false, false, false, false, false, false, false, false, false, false, false, false, false, false, false, false, false] rfl rfl (any_of HT_.out (by kernel_rfl)) (fun _ _ _ h => h) (Or.inl ⟨by rfl, ?_⟩) ?_ ?_
    rotate_left
    · intro w'
      go_simp
      with_reducible rfl
    rotate_left
    · simp only [Act.put, List.setIfInBounds_toArray, List.set_cons_zero, List.set_cons_succ, i64_w, i32_w]
      rfl
    refine pure_ (i := 3) (N := some 27) (v := ?_) (a' := ?_) #[true, false, true, true, false, false, false, false, false, false, false, false, false, false, false, false, false, false, false, false] rfl rfl (any_of HT_.out (by kernel_rfl)) (fun _ _ _ h => h) (Or.inl ⟨by rfl, ?_⟩) ?_ ?_
    rotate_left
    · intro w'
      go_simp
      with_reducible rfl
    rotate_left
    · simp only [Act.put, List.setIfInBounds_toArray, List.set_cons_zero, List.set_cons_succ, i64_w, i32_w]
      rfl
    refine pure_ (i := 4) (N := some 28) (v := ?_) (a' := ?_) #[true, false, true, true, true, false, false, false, false, false, false, false, false, false, false, false, false, false, false, false] rfl rfl (any_of HT_.out (by kernel_rfl)) (fun _ _ _ h => h) (Or.inl ⟨by rfl, ?_⟩) ?_ ?_
    rotate_left
    · intro w'
      go_simp
      with_reducible rfl
    rotate_left
    · simp only [Act.put, List.setIfInBounds_toArray, List.set_cons_zero, List.set_cons_succ, i64_w, i32_w]
      rfl
    refine pure_ (i := 6) (N := some 30) (v := ?_) (a' := ?_) #[true, false, true, true, true, false, true, false, false, false, false, false, false, false, false, false, false, false, false, false] rfl rfl (any_of HT_.out (by kernel_rfl)) (fun _ _ _ h => h) (Or.inl ⟨by rfl, ?_⟩) ?_ ?_
    rotate_left
    · intro w'
      go_simp
      with_reducible rfl
    rotate_left
    · simp only [Act.put, List.setIfInBounds_toArray, List.set_cons_zero, List.set_cons_succ, i64_w, i32_w]
      rfl
    refine pure_ (i := 9) (N := some 33) (v := ?_) (a' := ?_) #[true, false, true, true, true, false, true, false, false, true, false, false, false, false, false, false, false, false, false, false] rfl rfl (any_of HT_.out (by kernel_rfl)) (fun _ _ _ h => h) (Or.inl ⟨by rfl, ?_⟩) ?_ ?_
    rotate_left
    · intro w'
      go_simp
      with_reducible rfl
    rotate_left
    · simp only [Act.put, List.setIfInBounds_toArray, List.set_cons_zero, List.set_cons_succ, i64_w, i32_w]
      rfl
    refine pure_ (i := 10) (N := some 34) (v := ?_) (a' := ?_) #[true, false, true, true, true, false, true, false, false, true, true, false, false, false, false, false, false, false, false, false] rfl rfl (any_of HT_.out (by kernel_rfl)) (fun _ _ _ h => h) (Or.inl ⟨by rfl, ?_⟩) ?_ ?_
    rotate_left
    · intro w'
      go_simp
      with_reducible rfl
    rotate_left
    · simp only [Act.put, List.setIfInBounds_toArray, List.set_cons_zero, List.set_cons_succ, i64_w, i32_w]
      rfl
    refine pure_ (i := 11) (N := some 35) (v := ?_) (a' := ?_) #[true, false, true, true, true, false, true, false, false, true, true, true, false, false, false, false, false, false, false, false] rfl rfl (any_of HT_.out (by kernel_rfl)) (fun _ _ _ h => h) (Or.inl ⟨by rfl, ?_⟩) ?_ ?_
    rotate_left
    · intro w'
      go_simp
      with_reducible rfl
    rotate_left
    · simp only [Act.put, List.setIfInBounds_toArray, List.set_cons_zero, List.set_cons_succ, i64_w, i32_w]
      rfl
    refine pure_ (i := 13) (N := some 37) (v := ?_) (a' := ?_) #[true, false, true, true, true, false, true, false, false, true, true, true, false, true, false, false, false, false, false, false] rfl rfl (any_of HT_.out (by kernel_rfl)) (fun _ _ _ h => h) (Or.inl ⟨by rfl, ?_⟩) ?_ ?_
    rotate_left
    · intro w'
      go_simp
      with_reducible rfl
    rotate_left
    · simp only [Act.put, List.setIfInBounds_toArray, List.set_cons_zero, List.set_cons_succ, i64_w, i32_w]
      rfl
    refine pure_ (i := 14) (N := some 38) (v := ?_) (a' := ?_) #[true, false, true, true, true, false, true, false, false, true, true, true, false, true, true, false, false, false, false, false] rfl rfl (any_of HT_.out (by kernel_rfl)) (fun _ _ _ h => h) (Or.inl ⟨by rfl, ?_⟩) ?_ ?_
    rotate_left
    · intro w'
      go_simp
      with_reducible rfl
    rotate_left
    · simp only [Act.put, List.setIfInBounds_toArray, List.set_cons_zero, List.set_cons_succ, i64_w, i32_w]
      rfl
    refine take_ (i := 5) (N := some 29) (v := ?_) (a' := ?_) #[true, false, true, true, true, true, true, false, false, true, true, true, false, true, true, false, false, false, false, false] rfl rfl (take_ofW HT_.out HW_.out (by kernel_rfl)) (fun _ _ _ h => h) (Or.inl ⟨by rfl, ?_⟩) hHeld ?_ ?_
    rotate_left
    · intro w' s0
      go_simp
      with_reducible rfl
    rotate_left
    · simp only [Act.put, List.setIfInBounds_toArray, List.set_cons_zero, List.set_cons_succ, i64_w, i32_w]
      rfl
    refine pure_ (i := 7) (N := some 31) (v := ?_) (a' := ?_) #[true, false, true, true, true, true, true, true, false, true, true, true, false, true, true, false, false, false, false, false] rfl rfl (any_of HT_.out (by kernel_rfl)) (fun _ _ _ h => h) (Or.inl ⟨by rfl, ?_⟩) ?_ ?_
    rotate_left
    · intro w'
      go_simp
      with_reducible rfl
    rotate_left
    · simp only [Act.put, List.setIfInBounds_toArray, List.set_cons_zero, List.set_cons_succ, i64_w, i32_w]
      rfl
    refine take_ (i := 12) (N := some 36) (v := ?_) (a' := ?_) #[true, false, true, true, true, true, true, true, false, true, true, true, true, true, true, false, false, false, false, false] rfl rfl (take_ofW HT_.out HW_.out (by kernel_rfl)) (fun _ _ _ h => h) (Or.inl ⟨by rfl, ?_⟩) hHeld ?_ ?_
    rotate_left
    · intro w' s0
      go_simp
      with_reducible rfl
    rotate_left
    · simp only [Act.put, List.setIfInBounds_toArray, List.set_cons_zero, List.set_cons_succ, i64_w, i32_w]
      rfl
    refine pure_ (i := 15) (N := some 39) (v := ?_) (a' := ?_) #[true, false, true, true, true, true, true, true, false, true, true, true, true, true, true, true, false, false, false, false] rfl rfl (any_of HT_.out (by kernel_rfl)) (fun _ _ _ h => h) (Or.inl ⟨by rfl, ?_⟩) ?_ ?_
    rotate_left
    · intro w'
      go_simp
      with_reducible rfl
    rotate_left
    · simp only [Act.put, List.setIfInBounds_toArray, List.set_cons_zero, List.set_cons_succ, i64_w, i32_w]
      rfl
    refine one_ (i := 1) (N := some 25) #[true, true, true, true, true, true, true, true, false, true, true, true, true, true, true, true, false, false, false, false] rfl rfl (one_of HT_.out (by kernel_rfl)) (by decide) (fun K hK => ?_)
    refine value_ (w1 := ?_) (v := ?_) (by rfl) rfl ?_ ?_
    rotate_left 2
    · go_simp
      constructor
      · rfl
      · rfl
    refine hK.out _ _ ((pw_cell_below (by with_reducible repeat (first | exact Below.refl _ _ | apply below_alloc | apply pw_below_drewN | apply below_drew1)) hc)) (fun hHeld => ?_)
    clear hK K
    refine norm_ (a' := ?_) ?_ ?_
    rotate_left
    · show Act.put _ (some 25) _ = _
      simp only [Act.put, List.setIfInBounds_toArray, List.set_cons_zero, List.set_cons_succ, i64_w, i32_w]
      rfl
    refine one_ (i := 8) (N := some 32) #[true, true, true, true, true, true, true, true, true, true, true, true, true, true, true, true, false, false, false, false] rfl rfl (one_of HT_.out (by kernel_rfl)) (by decide) (fun K hK => ?_)
    clear hw1 hw2
    refine step_app_rows w0.heap.size rfl (.tmp 25) (.tmp 31) 22 rfl Try.underlying22 (.slice (some ⟨W1.heap.size, 0, none⟩) 0 0) [] (hs.take i) rfl ?ho ⟨gr, 0, none⟩ i cap rfl HSP.out.2.2.2 ?hnews ?hbs ?hlt ?_
    case ho => first | exact (HRow.empty W1 w0.heap.size HBS1.out).below (below_drew1 (Below.refl _ _)) | exact HRow.empty W1 w0.heap.size HBS1.out
    case hnews => exact fun j u hu => pw_cell_below (show Below W1.heap.size W1 _ from (by with_reducible repeat (first | exact Below.refl _ _ | apply below_alloc | apply pw_below_drewN | apply below_drew1))) (by have h := row_news HROW.out HSP.out.1 j u hu; simpa using h)
    case hbs => (have := HBS1.out; simp; omega)
    case hlt => (have := HKI.out; simp; omega)
    intro v32 w32 hp hf hat
    have hb32 : Below W1.heap.size W1 w32 := hf.below (by with_reducible repeat (first | exact Below.refl _ _ | apply below_alloc | apply pw_below_drewN | apply below_drew1)) (fun k hk => Nat.le_of_eq (Option.some.inj hk))
    have HB32 := Aside0.mk hb32
    have HF32 : Aside0 (∀ k, v32.ownBlock = some k → W1.heap.size ≤ k) := ⟨fun k hk => (hat_orR hat k hk).elim (fun h => Nat.le_of_eq (Option.some.inj h)) (fun h => Nat.le_trans (by simp) h)⟩
    rw [List.nil_append] at hp
    obtain ⟨A32, c32, rfl⟩ := hp.form
    have HO32 := Aside0.mk hp
    have hc32 := pw_cell_below hb32 hc
    clear hp hf hat hb32
    refine hK.out _ _ (hc32) (fun hHeld => ?_)
    clear hK K
    refine norm_ (a' := ?_) ?_ ?_
    rotate_left
    · show Act.put _ (some 32) _ = _
      simp only [Act.put, List.setIfInBounds_toArray, List.set_cons_zero, List.set_cons_succ, i64_w, i32_w]
      rfl
    refine one_ (i := 16) (N := some 40) #[true, true, true, true, true, true, true, true, true, true, true, true, true, true, true, true, true, false, false, false] rfl rfl (one_of HT_.out (by kernel_rfl)) (by decide) (fun K hK => ?_)
    refine step_app_rows w0.heap.size rfl (.tmp 32) (.tmp 39) 22 rfl Try.underlying22 (.slice A32 (hs.take i).length c32) (hs.take i) (hs.drop k) rfl ?ho ⟨gr, k * 8, none⟩ (n - k) (cap - k) rfl (by rw [List.length_drop, HN.out]) ?hnews ?hbs ?hlt ?_
    case ho => exact HO32.out
    case hnews => exact fun j u hu => pw_cell_below HB32.out (by have h := row_news HROW.out HSP.out.2.1 j u hu; rw [HSP.out.2.2.1] at h; exact h)
    case hbs => exact Nat.le_trans HBS1.out HB32.out.size
    case hlt => (have := HKI.out; rw [HSP.out.2.2.2]; omega)
    intro v40 w40 hp hf hat
    have hb40 : Below W1.heap.size W1 w40 := hf.below HB32.out (fun k hk => HF32.out k hk)
    have HB40 := Aside0.mk hb40
    have HF40 : Aside0 (∀ k, v40.ownBlock = some k → W1.heap.size ≤ k) := ⟨fun k hk => (hat_orR hat k hk).elim (fun h => HF32.out k h) (fun h => Nat.le_trans HB32.out.size h)⟩
    obtain ⟨A40, c40, rfl⟩ := hp.form
    have HO40 := Aside0.mk hp
    have hc40 := pw_cell_below hb40 hc
    have hz40 := blk_frozen (blk_below HH1.out.hd hb40) 1
    clear hp hf hat hb40
    refine hK.out _ _ (hc40) (fun hHeld => ?_)
    clear hK K
    refine norm_ (a' := ?_) ?_ ?_
    rotate_left
    · show Act.put _ (some 40) _ = _
      simp only [Act.put, List.setIfInBounds_toArray, List.set_cons_zero, List.set_cons_succ, i64_w, i32_w]
      rfl
    refine pure_ (i := 17) (N := some 41) (v := ?_) (a' := ?_) #[true, true, true, true, true, true, true, true, true, true, true, true, true, true, true, true, true, true, false, false] rfl rfl (any_of HT_.out (by kernel_rfl)) (fun _ _ _ h => h) (Or.inl ⟨by rfl, ?_⟩) ?_ ?_
    rotate_left
    · intro w'
      go_simp
      with_reducible rfl
    rotate_left
    · simp only [Act.put, List.setIfInBounds_toArray, List.set_cons_zero, List.set_cons_succ, i64_w, i32_w]
      rfl
    refine pure_ (i := 18) (N := some 42) (v := ?_) (a' := ?_) #[true, true, true, true, true, true, true, true, true, true, true, true, true, true, true, true, true, true, true, false] rfl rfl (any_of HT_.out (by kernel_rfl)) (fun _ _ _ h => h) (Or.inl ⟨by rfl, ?_⟩) ?_ ?_
    rotate_left
    · intro w'
      go_simp
      with_reducible rfl
    rotate_left
    · simp only [Act.put, List.setIfInBounds_toArray, List.set_cons_zero, List.set_cons_succ, i64_w, i32_w]
      rfl
    refine last_ (i := 19) (N := none) #[true, true, true, true, true, true, true, true, true, true, true, true, true, true, true, true, true, true, true, true] rfl rfl (one_of HT_.out (by kernel_rfl)) (by decide) (fun K hK => ?_)
    refine skip_ (w1 := ?_) (by rfl) rfl ?_ ?_
    rotate_left
    · go_simp
      rfl
    refine hK.out _ _ ?_
    clear hK K
    refine done_ (done_of HT_.out (by kernel_rfl)) ?_
    go_upto_region 6 with fail
    have hL2 : min i hs.length + (hs.length - k) = (hs.take i ++ hs.drop k).length := by simp
    rw [hL2]
    obtain ⟨L, hL⟩ : ∃ L, (hs.take i ++ hs.drop k).length = L := ⟨_, rfl⟩
    have HO41 : Aside0 (HRow w40 w0.heap.size (.slice A40 L c40) (hs.take i ++ hs.drop k)) := ⟨by rw [← hL]; exact HO40.out⟩
    have HF41 : Aside0 (∀ k, (Value.slice A40 L c40).ownBlock = some k → W1.heap.size ≤ k) := ⟨by rw [← hL]; exact HF40.out⟩
    rw [hL]
    clear hL2 hL hc40 hz40
    refine gen_world (fun W2 hW2 => ?_)
    have hf2 : Fr w40 W2 (fun k => k = g) := by rw [hW2]; exact Fr.set (Fr.refl _ (fun k => k = g)) (.inl rfl) _ _
    have hd2 : W2.heap[g]? = some (.cells #[.int .i64 most, .slice A40 L c40] 50 (0, 0)) := by
      rw [hW2]
      have := blk_set (blk_below HH1.out.hd HB40.out) 1 (.slice A40 L c40)
      simpa using this
    have hy9 := hf2.blk (blk_below HY9.out HB40.out) (fun e => HG9.out.2.1 e.symm)
    have hy6 := hf2.blk (blk_below HY6.out HB40.out) (fun e => HG.out.2.1 e.symm)
    obtain ⟨x0, x1, x2, x3, x4, x5, x6, x7, -⟩ := cells8z hy9
    obtain ⟨y0, y1, y2, y3, y4, y5, y6, y7, z0, z1, z2, z3, z4, z5, z6, z7⟩ := cells8z hy6
    have hne := HG9.out.2.2
    have hne' := Ne.symm HG9.out.2.2
    have HD2 := Aside0.mk hd2
    have HY62 := Aside0.mk hy6
    have HF2 := Aside0.mk hf2
    clear hW2 hf2 hd2 hy9 hy6
    go_wp2
    refine gen_bp (fun W7 hW7 => ?_)
    have h7 : W7.heap[g6]? = some (.cells #[.int .i64 p.e.f0, .int .i64 p.e.f1, .int .u64 p.e.f2, .int .i64 p.e.f3.f0, .int .i64 p.e.f3.f1, .int .i64 p.e.f4, .slice p.A p.e.f5.length p.c, .int .u64 p.e.f6] 33 (0, 0)) := by
      rw [hW7]
      with_reducible exact heap_setv HY62.out _ _ _ _ _ _ _ _
    have hf7 : Fr W2 W7 (fun k => k = g6) := by rw [hW7]; repeat (with_reducible first | exact Fr.refl _ _ | refine Fr.setg ?_ _ _)
    clear hW7
    refine bodyPost_ret (results_ct rfl _ W7 g6 33 _ (0, 0) _ rfl h7 Try.underlying33 rfl (by kernel_rfl)) rfl ?_
    have hF : Fr w W7 (fun k => k = g) := (((Fr.ofBelow (fun k => k = g) (HB16.out.trans (HBW1.out.mono HB16.out.size))).trans (Fr.ofBelow (fun k => k = g) HB40.out) (fun _ _ h => h)).trans HF2.out (fun _ _ h => h)).trans hf7 (fun q hq e => by have := HG.out.1; omega)
    refine ⟨i, p, rfl, HP.out, HK.out, .slice A40 L c40, ⟨hf7.blk HD2.out HG.out.2.1, ?_, HH0.out.bs, fun q hq => ?_, hF.below HH0.out.bel (fun k hk => by rw [hk]; exact HH0.out.bs)⟩, hF, fun k hk => Nat.le_trans (HB16.out.trans (HBW1.out.mono HB16.out.size)).size (HF41.out k hk)⟩
    · rw [← HKI.out.1]
      refine (HO41.out.fr HF2.out (fun k hk e => ?_)).fr hf7 (fun k hk e => ?_)
      · have h1 := HF41.out k hk
        have h2 := blk_lt HH1.out.hd
        omega
      · have h1 := HF41.out k hk
        have h2 := blk_lt HY6.out
        omega
    · rw [← HKI.out.1] at hq
      rcases List.mem_append.1 hq with hq | hq
      · exact HH0.out.rd q (List.mem_of_mem_take hq)
      · exact HH0.out.rd q (List.mem_of_mem_drop hq)
end Go.Proofs.Ytekhpogigndlkaa.K

namespace Go.Proofs.Ytekhpogigndlkaa.K
open Go.RowKit Go.Proofs.YtekhpogigndlkaaW.PrintWords Go.Proofs.YtekhpogigndlkaaW.PrintLast Go.Proofs.YtekhpogigndlkaaW.PrintMore
set_option linter.unusedVariables false
set_option linter.unusedSimpArgs false

/-- An entry's bytes are bytes. -/
def Byt (e : En) : Prop := ∀ x ∈ e.f5, 0 ≤ x ∧ x ≤ 255
theorem nums_inj : ∀ (x y : List Int), (∀ a ∈ x, 0 ≤ a ∧ a ≤ 255) → (∀ a ∈ y, 0 ≤ a ∧ a ≤ 255) → (x.map fun n => UInt8.ofNat n.toNat) = (y.map fun n => UInt8.ofNat n.toNat) → x = y
  | [], [], _, _, _ => rfl
  | [], _ :: _, _, _, h => by simp at h
  | _ :: _, [], _, _, h => by simp at h
  | a :: x, b :: y, hx, hy, h => by
    simp only [List.map_cons, List.cons.injEq] at h
    have h1 := hx a List.mem_cons_self
    have h2 := hy b List.mem_cons_self
    have h3 := congrArg UInt8.toNat h.1
    simp only [UInt8.toNat_ofNat'] at h3
    have h4 : a = b := by omega
    rw [h4, nums_inj x y (fun c hc => hx c (List.mem_cons_of_mem _ hc)) (fun c hc => hy c (List.mem_cons_of_mem _ hc)) h.2]
theorem equal_f (x y : List Int) (hx : ∀ a ∈ x, 0 ≤ a ∧ a ≤ 255) (hy : ∀ a ∈ y, 0 ≤ a ∧ a ≤ 255) : X.bytes_Equal.f x y = some (decide (x = y)) := by
  unfold X.bytes_Equal.f
  rw [Go.Lib.strOfNums_toList, Go.Lib.strOfNums_toList]
  congr 1
  rw [Bool.eq_iff_iff, beq_iff_eq, decide_eq_true_eq]
  exact ⟨fun h => nums_inj x y hx hy h, fun h => by rw [h]⟩
theorem rsame_ne (x y : List Int) (hx : x.length ≤ 1000000) (hl : x.length = y.length) : ∀ (k n : Nat), x.length < n + k → n ≤ x.length → X.cachetteref01_Same.l0 k x y (n : Int) = some (decide (x.drop n = y.drop n))
  | 0, n, h1, h2 => by omega
  | k + 1, n, h1, h2 => by
    unfold X.cachetteref01_Same.l0
    by_cases h : n < x.length
    · have hn2 : n < y.length := by omega
      have r1 : rd x (n : Int) = x[n] := by rw [rd, Int.toNat_natCast, List.getD_eq_getElem?_getD, List.getElem?_eq_getElem h]; rfl
      have r2 : rd y (n : Int) = y[n] := by rw [rd, Int.toNat_natCast, List.getD_eq_getElem?_getD, List.getElem?_eq_getElem hn2]; rfl
      rw [if_pos (show (n : Int) < (x.length : Int) by omega), if_pos (show (0 : Int) ≤ n by omega), if_pos (show (n : Int) < (y.length : Int) by omega), r1, r2, List.drop_eq_getElem_cons h, List.drop_eq_getElem_cons hn2]
      by_cases he : x[n] = y[n]
      · rw [if_pos he, w64 (x := (n : Int) + 1) (y := ((n + 1 : Nat) : Int)) (by simp) (by omega), rsame_ne x y hx hl k (n + 1) (by omega) (by omega)]
        congr 1
        rw [Bool.eq_iff_iff, decide_eq_true_eq, decide_eq_true_eq, List.cons.injEq]
        exact ⟨fun h => ⟨he, h⟩, fun h => h.2⟩
      · rw [if_neg he]
        congr 1
        rw [Bool.eq_iff_iff, decide_eq_true_eq, List.cons.injEq]
        exact ⟨fun h => Bool.noConfusion h, fun h => absurd h.1 he⟩
    · have hn : n = x.length := by omega
      rw [if_neg (by omega), hn, List.drop_length, hl, List.drop_length]
      rfl
theorem rsame_dec (x y : List Int) (hx : x.length ≤ 1000000) (k : Nat) (hk : x.length < k) : X.cachetteref01_Same.f k x y = some (decide (x = y)) := by
  rw [X.cachetteref01_Same.f]
  by_cases h : (x.length : Int) = (y.length : Int)
  · rw [if_pos h]
    have := rsame_ne x y hx (by omega) k 0 (by omega) (Nat.zero_le _)
    simpa using this
  · rw [if_neg h]
    congr 1
    rw [Bool.eq_iff_iff, decide_eq_true_eq]
    exact ⟨fun h => Bool.noConfusion h, fun e => absurd (by rw [e]) h⟩
theorem fsame_f (a b : En) (ha : Byt a) (hb : Byt b) (hl : a.f5.length ≤ 1100) : X.cachetteref06_Same.f 2000 a.f0 a.f1 a.f2 a.f3.f0 a.f3.f1 a.f4 a.f5 a.f6 b.f0 b.f1 b.f2 b.f3.f0 b.f3.f1 b.f4 b.f5 b.f6 = some (sameE a b) := by
  have h1 := esame_f a b
  unfold X.entry_Same.f at h1
  rw [equal_f _ _ ha hb, Option.bind_some] at h1
  unfold X.cachetteref06_Same.f
  rw [rsame_dec _ _ (by omega) 2000 (by omega), Option.bind_some, ← h1]
  clear h1
  have hz : ∀ x y : Int, (x == y) = decide (x = y) := fun x y => rfl
  by_cases g0 : a.f5 = b.f5
  · simp only [g0, decide_true, if_true]
    by_cases g1 : a.f0 = b.f0
    · by_cases g2 : a.f1 = b.f1
      · by_cases g3 : a.f2 = b.f2
        · by_cases g4 : (a.f3.f0 == b.f3.f0 && a.f3.f1 == b.f3.f1) = true
          · by_cases g5 : a.f4 = b.f4
            · by_cases g6 : a.f6 = b.f6 <;> simp [g1, g2, g3, g4, g5, g6]
            · simp [g1, g2, g3, g4, g5]
          · simp only [g1, g2, g3, g4, if_true, if_false]; rfl
        · simp [g1, g2, g3]
      · simp [g1, g2]
    · simp [g1]
  · simp only [g0, decide_false]
    repeat' split
    all_goals simp_all
theorem fsame_gen (p q : EP) (w : World) (hp : Rd w p.b p.e.f5) (hq : Rd w q.b q.e.f5) (hl : p.e.f5.length ≤ 1100) (hbp : Byt p.e) (hbq : Byt q.e) :
    Calls Try.prog 16 #[.agg #[.int .i64 p.e.f0, .int .i64 p.e.f1, .int .u64 p.e.f2, .int .i64 p.e.f3.f0, .int .i64 p.e.f3.f1, .int .i64 p.e.f4, .slice p.A p.e.f5.length p.c, .int .u64 p.e.f6], .agg #[.int .i64 q.e.f0, .int .i64 q.e.f1, .int .u64 q.e.f2, .int .i64 q.e.f3.f0, .int .i64 q.e.f3.f1, .int .i64 q.e.f4, .slice q.A q.e.f5.length q.c, .int .u64 q.e.f6]] w fun e w' => e = .returned (.bool (sameE p.e q.e)) ∧ Below w.heap.size w w' := by
  obtain ⟨A, c, hv, hc, hC⟩ := hp
  injection hv with h1 h2 h3
  subst h1 h3
  obtain ⟨A, c, hv, hc', hC'⟩ := hq
  injection hv with h1 h2 h3
  subst h1 h3
  exact X.cachetteref06_Same.calls 2000 p.e.f0 p.e.f1 p.e.f2 p.e.f3.f0 p.e.f3.f1 p.e.f4 p.A p.c p.e.f5 p.e.f6 q.e.f0 q.e.f1 q.e.f2 q.e.f3.f0 q.e.f3.f1 q.e.f4 q.A q.c q.e.f5 q.e.f6 (sameE p.e q.e) w hC hc hC' hc' (fsame_f p.e q.e hbp hbq hl)
theorem fright_f (e : En) : X.cachetteref06_Right.f e.f0 e.f1 e.f2 e.f3.f0 e.f3.f1 e.f4 e.f5 e.f6 = some (rightE e) := by
  have h4 : X.cachetteref04_Right.f e.f3.f0 e.f3.f1 = some (decide (1 ≤ e.f3.f0 ∧ e.f3.f0 ≤ 1099511627776 ∧ 0 ≤ e.f3.f1 ∧ e.f3.f1 < 8)) := by
    unfold X.cachetteref04_Right.f
    repeat' split
    all_goals ((try simp only [Option.bind_some]); congr 1; rw [Bool.eq_iff_iff]; simp only [decide_eq_true_eq, Bool.false_eq_true, false_iff]; omega)
  have hb : ((e.f2 == 0) == (e.f1 == 0)) = decide (e.f2 = 0 ↔ e.f1 = 0) := by
    show (decide (e.f2 = 0) == decide (e.f1 = 0)) = _
    by_cases h1 : e.f2 = 0 <;> by_cases h2 : e.f1 = 0 <;> simp [h1, h2]
  unfold X.cachetteref06_Right.f
  rw [h4, hb]
  simp only [Option.bind_some, decide_eq_true_eq, rightE]
  repeat' split
  all_goals (congr 1; rw [Bool.eq_iff_iff]; simp only [decide_eq_true_eq, Bool.false_eq_true, false_iff]; first | omega | (intro h; omega) | (intro h; exact absurd h.2.2.2.2.1 ‹_›))
theorem fright_calls (p : EP) (w : World) (hr : Rd w p.b p.e.f5) :
    Calls Try.prog 35 #[enV p] w fun e w' => e = .returned (.bool (rightE p.e)) ∧ Below w.heap.size w w' := by
  obtain ⟨A, c, hv, hc, hC⟩ := hr
  injection hv with h1 h2 h3
  subst h1 h3
  exact X.cachetteref06_Right.calls p.e.f0 p.e.f1 p.e.f2 p.e.f3.f0 p.e.f3.f1 p.e.f4 p.A p.c p.e.f5 p.e.f6 _ w hC hc (fright_f p.e)
theorem rless_calls (p q : EP) (w : World) (hp : Rd w p.b p.e.f5) (hq : Rd w q.b q.e.f5) :
    Calls Try.prog 37 #[.agg #[.int .i64 p.e.f0, .int .i64 p.e.f1, .int .u64 p.e.f2, .int .i64 p.e.f3.f0, .int .i64 p.e.f3.f1, .int .i64 p.e.f4, .slice p.A p.e.f5.length p.c, .int .u64 p.e.f6], .agg #[.int .i64 q.e.f0, .int .i64 q.e.f1, .int .u64 q.e.f2, .int .i64 q.e.f3.f0, .int .i64 q.e.f3.f1, .int .i64 q.e.f4, .slice q.A q.e.f5.length q.c, .int .u64 q.e.f6]] w fun e w' => e = .returned (.bool (decide (ltK (keyE p.e) (keyE q.e)))) ∧ Below w.heap.size w w' := by
  obtain ⟨A, c, hv, hc, hC⟩ := hp
  injection hv with h1 h2 h3
  subst h1 h3
  obtain ⟨A, c, hv, hc', hC'⟩ := hq
  injection hv with h1 h2 h3
  subst h1 h3
  have hf : X.cachetteref08_Less.f p.e.f0 p.e.f1 p.e.f2 p.e.f3.f0 p.e.f3.f1 p.e.f4 p.e.f5 p.e.f6 q.e.f0 q.e.f1 q.e.f2 q.e.f3.f0 q.e.f3.f1 q.e.f4 q.e.f5 q.e.f6 = some (decide (ltK (keyE p.e) (keyE q.e))) := by
    unfold X.cachetteref08_Less.f
    repeat' split
    all_goals (congr 1; rw [Bool.eq_iff_iff]; simp only [decide_eq_true_eq, Bool.false_eq_true, false_iff, eq_self, true_iff]; first | omega | (have hL : ltK (keyE p.e) (keyE q.e) ↔ (p.e.f0 < q.e.f0 ∨ (p.e.f0 = q.e.f0 ∧ p.e.f1 < q.e.f1)) := Iff.rfl; simp only [hL]; omega))
  exact X.cachetteref08_Less.calls p.e.f0 p.e.f1 p.e.f2 p.e.f3.f0 p.e.f3.f1 p.e.f4 p.A p.c p.e.f5 p.e.f6 q.e.f0 q.e.f1 q.e.f2 q.e.f3.f0 q.e.f3.f1 q.e.f4 q.A q.c q.e.f5 q.e.f6 _ w hC hc hC' hc' hf
set_option maxRecDepth 100000 in
set_option maxHeartbeats 4000000 in
theorem rhold_bad (g : Nat) (a0 : Value) (p : EP) (w : World) (hr : Rd w p.b p.e.f5) (hright : rightE p.e = false) :
    Calls Try.prog 18 #[.pointer (some ⟨g, 0, none⟩), enV p] w fun e w' => e = .returned (.int .i64 1) ∧ Below w.heap.size w w' := by
  have HR0 := Aside0.mk hr
  have HRT : Aside0 (rightE p.e = false) := ⟨hright⟩
  clear hr hright
  simp only [enV]
  go_enter Try.func18, Try.ntmps18
  go_upto_region 1 with fail
  refine gen_world (fun W2 hW2 => ?_)
  have hB2 : Below w.heap.size w W2 := by rw [hW2]; with_reducible exact below_alloc (Below.refl _ _) _
  have hx2 : W2.heap[w.heap.size]? = some (.cells #[.int .i64 p.e.f0, .int .i64 p.e.f1, .int .u64 p.e.f2, .int .i64 p.e.f3.f0, .int .i64 p.e.f3.f1, .int .i64 p.e.f4, .slice p.A p.e.f5.length p.c, .int .u64 p.e.f6] 33 (0, 0)) := by rw [hW2]; with_reducible exact heap_alloc_new _ _
  obtain ⟨g3, hg3⟩ : ∃ g, g = w.heap.size := ⟨_, rfl⟩
  rw [← hg3] at hx2 ⊢
  obtain ⟨x0, x1, x2, x3, x4, x5, x6, x7, -⟩ := cells8z hx2
  have HB2 := Aside0.mk hB2
  clear hW2 hB2 hx2 hg3
  go_wp2_with (first
    | (go_at_call 35; go_must (refine (fright_calls p _ (HR0.out.below HB2.out)).mono ?_; rw [HRT.out]; rintro e w9 ⟨rfl, hb⟩; have HB9 : Aside0 (Below w.heap.size w w9) := ⟨HB2.out.trans (hb.mono HB2.out.size)⟩; clear hb)))
  go_ret
  exact ⟨rfl, HB9.out⟩
set_option maxRecDepth 100000 in
set_option maxHeartbeats 8000000 in
theorem rhold_found (g n : Nat) (most : Int) (A : Option Addr) (c : Nat) (hs : List EP) (p : EP) (w0 w : World) (h : RefB w0 w g most (.slice A n c) hs) (hn : hs.length = n) (hl : n ≤ 100000) (hr : Rd w p.b p.e.f5) (hright : rightE p.e = true) (hyes : ∃ q ∈ hs, keyE q.e = keyE p.e) (hbp : Byt p.e) (hbs : ∀ q ∈ hs, Byt q.e) (hrs : ∀ q ∈ hs, rightE q.e = true) :
    Calls Try.prog 18 #[.pointer (some ⟨g, 0, none⟩), enV p] w fun e w' => (∃ q ∈ hs, keyE q.e = keyE p.e ∧ e = .returned (.int .i64 (if sameE q.e p.e = true then 8 else 9))) ∧ Below w.heap.size w w' := by
  have HH := Aside0.mk h
  have HN := Aside0.mk hn
  have HL := Aside0.mk hl
  have HR0 := Aside0.mk hr
  have HRT : Aside0 (rightE p.e = true) := ⟨hright⟩
  have HYES := Aside0.mk hyes
  have HBY := Aside0.mk (And.intro hbp (And.intro hbs hrs))
  clear h hn hl hr hright hyes hbp hbs hrs
  simp only [enV]
  go_enter Try.func18, Try.ntmps18
  go_upto_region 1 with fail
  refine gen_world (fun W2 hW2 => ?_)
  have hB2 : Below w.heap.size w W2 := by rw [hW2]; with_reducible exact below_alloc (Below.refl _ _) _
  have hx2 : W2.heap[w.heap.size]? = some (.cells #[.int .i64 p.e.f0, .int .i64 p.e.f1, .int .u64 p.e.f2, .int .i64 p.e.f3.f0, .int .i64 p.e.f3.f1, .int .i64 p.e.f4, .slice p.A p.e.f5.length p.c, .int .u64 p.e.f6] 33 (0, 0)) := by rw [hW2]; with_reducible exact heap_alloc_new _ _
  obtain ⟨g3, hg3⟩ : ∃ g, g = w.heap.size := ⟨_, rfl⟩
  rw [← hg3] at hx2 ⊢
  obtain ⟨x0, x1, x2, x3, x4, x5, x6, x7, -⟩ := cells8z hx2
  have HX2 := Aside0.mk hx2
  have HB2 := Aside0.mk hB2
  clear hW2 hB2 hx2 hg3
  go_upto_region 5 with (first
    | (go_at_call 35; go_must (refine (fright_calls p _ (HR0.out.below HB2.out)).mono ?_; rw [HRT.out]; rintro e w9 ⟨rfl, hb⟩; have HX9 := Aside0.mk (blk_below HX2.out hb); obtain ⟨x0, x1, x2, x3, x4, x5, x6, x7, -⟩ := cells8z HX9.out; have HB9 : Aside0 (Below w.heap.size w w9) := ⟨HB2.out.trans (hb.mono HB2.out.size)⟩; clear hb))
    | (go_at_call 36; go_must (refine (rfind_calls g n most A c hs p.e.f0 p.e.f1 w0 _ (HH.out.below HB9.out) HN.out HL.out).mono ?_; rintro e w14 ⟨r, rfl, hr, hb⟩; obtain ⟨i, q, rfl, hp, hk⟩ := fnd_yes hr HYES.out; have hi0 : (0 : Int) ≤ i := (by omega); have HP := Aside0.mk hp; have HK := Aside0.mk hk; clear hp hk; have HX14 := Aside0.mk (blk_below HX9.out hb); obtain ⟨x0, x1, x2, x3, x4, x5, x6, x7, -⟩ := cells8z HX14.out; have HB14 : Aside0 (Below w.heap.size w w14) := ⟨HB9.out.trans (hb.mono HB9.out.size)⟩; clear hr hb)))
  have HP14 := Aside0.mk (HH.out.below HB14.out)
  have hrow := HP14.out.row
  rw [← HN.out] at hrow
  obtain ⟨gr, rfl, y0, y1, y2, y3, y4, y5, y6, y7⟩ := hrow.at HP.out
  clear hrow
  have c14 := HP14.out.cell
  have hin : (i : Int) < n := by have h1 := (List.getElem?_eq_some_iff.1 HP.out).1; have h2 := HN.out; omega
  have hd : decide ((0 : Int) ≤ i) = true := decide_eq_true hi0
  have HMEM : Aside0 (q ∈ hs) := ⟨List.mem_of_getElem? HP.out⟩
  have HQL : Aside0 (q.e.f5.length ≤ 1100) := ⟨by
    have h := HBY.out.2.2 q HMEM.out
    simp only [rightE, decide_eq_true_eq] at h
    exact h.2.2.2.2.2.2.2.2.2⟩
  go_region_held3 (fun w' => w'.cell? ⟨g, 1, none⟩ = some (.slice (some ⟨gr, 0, none⟩) n c) ∧ (w'.cell? ⟨gr, i * 8, none⟩ = some (.int .i64 q.e.f0) ∧ w'.cell? ⟨gr, i * 8 + 1, none⟩ = some (.int .i64 q.e.f1) ∧ w'.cell? ⟨gr, i * 8 + 2, none⟩ = some (.int .u64 q.e.f2) ∧ w'.cell? ⟨gr, i * 8 + 3, none⟩ = some (.int .i64 q.e.f3.f0) ∧ w'.cell? ⟨gr, i * 8 + 4, none⟩ = some (.int .i64 q.e.f3.f1) ∧ w'.cell? ⟨gr, i * 8 + 5, none⟩ = some (.int .i64 q.e.f4) ∧ w'.cell? ⟨gr, i * 8 + 6, none⟩ = some (.slice q.A q.e.f5.length q.c) ∧ w'.cell? ⟨gr, i * 8 + 7, none⟩ = some (.int .u64 q.e.f6)) ∧ w'.cell? ⟨g3, 0, none⟩ = some (.int .i64 p.e.f0) ∧ w'.cell? ⟨g3, 1, none⟩ = some (.int .i64 p.e.f1) ∧ w'.cell? ⟨g3, 2, none⟩ = some (.int .u64 p.e.f2) ∧ w'.cell? ⟨g3, 3, none⟩ = some (.int .i64 p.e.f3.f0) ∧ w'.cell? ⟨g3, 4, none⟩ = some (.int .i64 p.e.f3.f1) ∧ w'.cell? ⟨g3, 5, none⟩ = some (.int .i64 p.e.f4) ∧ w'.cell? ⟨g3, 6, none⟩ = some (.slice p.A p.e.f5.length p.c) ∧ w'.cell? ⟨g3, 7, none⟩ = some (.int .u64 p.e.f6))
    (first | exact ⟨c14, ⟨y0, y1, y2, y3, y4, y5, y6, y7⟩, x0, x1, x2, x3, x4, x5, x6, x7⟩ | (go_split_ands; exact ⟨pw_cell_below hb (by assumption), ⟨pw_cell_below hb (by assumption), pw_cell_below hb (by assumption), pw_cell_below hb (by assumption), pw_cell_below hb (by assumption), pw_cell_below hb (by assumption), pw_cell_below hb (by assumption), pw_cell_below hb (by assumption), pw_cell_below hb (by assumption)⟩, pw_cell_below hb (by assumption), pw_cell_below hb (by assumption), pw_cell_below hb (by assumption), pw_cell_below hb (by assumption), pw_cell_below hb (by assumption), pw_cell_below hb (by assumption), pw_cell_below hb (by assumption), pw_cell_below hb (by assumption)⟩))
    (first
      | (go_at_call 16; (with_reducible refine (fsame_gen q p _ ?h1 ?h2 HQL.out (HBY.out.2.1 q HMEM.out) HBY.out.1).mono ?_); (case h1 => first | exact HP14.out.rdp HMEM.out | exact (HP14.out.rdp HMEM.out).below (below_drew1 (Below.refl _ _))); (case h2 => first | exact HR0.out.below HB14.out | exact HR0.out.below (below_drew1 HB14.out)); rintro e w27 ⟨rfl, hb⟩))
  all_goals
    have HB27 : Aside0 (Below w.heap.size w w27) := ⟨below_step (by with_reducible repeat (first | exact HB14.out | apply below_drew1 | apply pw_below_drewN)) hb⟩
    clear hb
    cases hs : sameE q.e p.e
    · go_wp2
      go_ret
      exact ⟨⟨q, HMEM.out, HK.out, by rw [hs]; rfl⟩, HB27.out⟩
    · go_wp2
      go_ret
      exact ⟨⟨q, HMEM.out, HK.out, by rw [hs]; rfl⟩, HB27.out⟩
set_option maxRecDepth 100000 in
set_option maxHeartbeats 8000000 in
theorem rhold_full (g n : Nat) (most : Int) (A : Option Addr) (c : Nat) (hs : List EP) (p : EP) (w0 w : World) (h : RefB w0 w g most (.slice A n c) hs) (hn : hs.length = n) (hl : n ≤ 100000) (hr : Rd w p.b p.e.f5) (hright : rightE p.e = true) (hno : ∀ q ∈ hs, keyE q.e ≠ keyE p.e) (hfull : most ≤ n) :
    Calls Try.prog 18 #[.pointer (some ⟨g, 0, none⟩), enV p] w fun e w' => e = .returned (.int .i64 3) ∧ Below w.heap.size w w' := by
  have HH := Aside0.mk h
  have HN := Aside0.mk hn
  have HL := Aside0.mk hl
  have HR0 := Aside0.mk hr
  have HRT : Aside0 (rightE p.e = true) := ⟨hright⟩
  have HNO := Aside0.mk hno
  clear h hn hl hr hright hno
  simp only [enV]
  go_enter Try.func18, Try.ntmps18
  go_upto_region 1 with fail
  refine gen_world (fun W2 hW2 => ?_)
  have hB2 : Below w.heap.size w W2 := by rw [hW2]; with_reducible exact below_alloc (Below.refl _ _) _
  have hx2 : W2.heap[w.heap.size]? = some (.cells #[.int .i64 p.e.f0, .int .i64 p.e.f1, .int .u64 p.e.f2, .int .i64 p.e.f3.f0, .int .i64 p.e.f3.f1, .int .i64 p.e.f4, .slice p.A p.e.f5.length p.c, .int .u64 p.e.f6] 33 (0, 0)) := by rw [hW2]; with_reducible exact heap_alloc_new _ _
  obtain ⟨g3, hg3⟩ : ∃ g, g = w.heap.size := ⟨_, rfl⟩
  rw [← hg3] at hx2 ⊢
  obtain ⟨x0, x1, x2, x3, x4, x5, x6, x7, -⟩ := cells8z hx2
  have HX2 := Aside0.mk hx2
  have HB2 := Aside0.mk hB2
  clear hW2 hB2 hx2 hg3
  go_upto_region 8 with (first
    | (go_at_call 35; go_must (refine (fright_calls p _ (HR0.out.below HB2.out)).mono ?_; rw [HRT.out]; rintro e w9 ⟨rfl, hb⟩; have HX9 := Aside0.mk (blk_below HX2.out hb); obtain ⟨x0, x1, x2, x3, x4, x5, x6, x7, -⟩ := cells8z HX9.out; have HB9 : Aside0 (Below w.heap.size w w9) := ⟨HB2.out.trans (hb.mono HB2.out.size)⟩; clear hb))
    | (go_at_call 36; go_must (refine (rfind_calls g n most A c hs p.e.f0 p.e.f1 w0 _ (HH.out.below HB9.out) HN.out HL.out).mono ?_; rintro e w14 ⟨r, rfl, hr, hb⟩; obtain rfl := fnd_no hr HNO.out; have HX14 := Aside0.mk (blk_below HX9.out hb); obtain ⟨x0, x1, x2, x3, x4, x5, x6, x7, -⟩ := cells8z HX14.out; have HB14 : Aside0 (Below w.heap.size w w14) := ⟨HB9.out.trans (hb.mono HB9.out.size)⟩; clear hr hb)))
  have HP14 := Aside0.mk (HH.out.below HB14.out)
  have c14 := HP14.out.cell
  have m14 := HP14.out.cell0
  go_quiet (fail)
  all_goals
    go_wp2
    go_ret
    exact ⟨rfl, by with_reducible repeat (first | exact HB14.out | apply pw_below_drewN)⟩
end Go.Proofs.Ytekhpogigndlkaa.K

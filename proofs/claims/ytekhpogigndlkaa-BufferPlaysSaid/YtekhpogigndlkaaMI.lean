/- A buffer as a list: First, Take; two buffers; rows of entries whose bytes are the caller's. slices.DeleteFunc of a pile, at Drop's closure. slices.DeleteFunc of a pile. (*buffer.Buffer).Drop. -/
import Derived.Test.YtekhpogigndlkaaMH
namespace Go.Proofs.Ytekhpogigndlkaa.K
open Go.RowKit Go.Proofs.YtekhpogigndlkaaW.PrintWords Go.Proofs.YtekhpogigndlkaaW.PrintLast Go.Proofs.YtekhpogigndlkaaW.PrintMore
set_option linter.unusedVariables false
set_option linter.unusedSimpArgs false

/-- What First leaves. -/
def BFirstP (w : World) (base : Nat) (L : List En) (e : Ending) (W : World) : Prop :=
  ∃ q : EP, e = .returned (.tuple #[enV q, .bool true]) ∧ q.e ∈ L ∧ (∀ x ∈ L, ¬ ltK (keyE x) (keyE q.e)) ∧ Own W base q.b q.e.f5 ∧ Below w.heap.size w W
theorem bfirst (base g : Nat) (most : Int) (v : Value) (L : List En) (w : World) (h : Buf w base g most v L) (hL : L ≠ []) :
    Calls Try.prog 14 #[.pointer (some ⟨g, 0, none⟩)] w fun e w' => BFirstP w base L e w' := by
  obtain ⟨ps, A, c, rfl, h2, h3, h4, h5, h6, h7, h8⟩ := h
  have hlen : ps.length = L.length := by simpa using h4.length_eq
  have hpos : 0 < ps.length := by
    rw [hlen]
    exact List.length_pos_iff.2 hL
  obtain ⟨p, hp⟩ : ∃ p, ps[0]? = some p := ⟨_, List.getElem?_eq_getElem hpos⟩
  have hm : p.e ∈ L := h4.mem_iff.1 (List.mem_map.2 ⟨p, List.mem_of_getElem? hp, rfl⟩)
  have hr := h6 p.e hm
  simp only [rightE, decide_eq_true_eq] at hr
  have hl := hr.2.2.2.2.2.2.2.2.2
  refine (first_some base g _ c most A ps p w h2 rfl hp (by omega) (Nat.le_of_lt (Nat.lt_of_le_of_lt h2.bs (blk_lt h2.hd)))).mono ?_
  rintro e w' ⟨q, rfl, hq, ho, hb⟩
  refine ⟨q, rfl, by rw [hq]; exact hm, fun x hx => ?_, ho, hb⟩
  obtain ⟨x', hx', rfl⟩ := List.mem_map.1 (h4.mem_iff.2 hx)
  rw [hq]
  exact ky_min h3 rfl hp hx'
theorem bfirst_none (base g : Nat) (most : Int) (v : Value) (w : World) (h : Buf w base g most v []) :
    Calls Try.prog 14 #[.pointer (some ⟨g, 0, none⟩)] w fun e w' => e = .returned (.tuple #[enV zEP, .bool false]) ∧ Below w.heap.size w w' := by
  obtain ⟨ps, A, c, rfl, h2, h3, h4, h5, h6, h7, h8⟩ := h
  have hlen : ps.length = 0 := by simpa using h4.length_eq
  rw [hlen] at h2
  exact first_none base g c most A ps w h2
/-- What Take takes. -/
def BTakeP (w : World) (base g : Nat) (most : Int) (v : Value) (L : List En) (k : Ky) (e : Ending) (W : World) : Prop :=
  ∃ (f : EP) (M : List En) (v' : Value), e = .returned (.tuple #[enV f, .bool true]) ∧ keyE f.e = k ∧ Buf W base g most v' M ∧ (f.e :: M).Perm L ∧ Own W base f.b f.e.f5 ∧ Fr w W (SP g v) ∧ (∀ k, v'.ownBlock = some k → v.ownBlock = some k)
theorem btake (base g : Nat) (most : Int) (v : Value) (L : List En) (x y : Int) (w : World) (h : Buf w base g most v L) (hy : ∃ e ∈ L, keyE e = (x, y)) :
    Calls Try.prog 15 #[.pointer (some ⟨g, 0, none⟩), .int .i64 x, .int .i64 y] w fun e w' => BTakeP w base g most v L (x, y) e w' := by
  obtain ⟨ps, A, c, rfl, h2, h3, h4, h5, h6, h7, h8⟩ := h
  have hlen : ps.length = L.length := by simpa using h4.length_eq
  obtain ⟨e0, he0, hk0⟩ := hy
  obtain ⟨p0, hp0, rfl⟩ := List.mem_map.1 (h4.mem_iff.2 he0)
  have hne : ps.length ≠ 0 := fun e => by
    rw [List.eq_nil_of_length_eq_zero e] at hp0
    simp at hp0
  obtain ⟨m, hm⟩ : ∃ m, ps.length = m + 1 := ⟨ps.length - 1, by omega⟩
  have hA : ∃ gr, A = some ⟨gr, 0, none⟩ := by
    rcases h2.row.slice with ⟨h1, hq⟩ | ⟨g, cap, cur, h1, _⟩
    · exact absurd (by rw [hq]; rfl) hne
    · injection h1 with h1 _ _
      exact ⟨g, h1⟩
  obtain ⟨gr, rfl⟩ := hA
  rw [hm] at h2 h3
  refine (take_some base g m gr c most ps x y w h2 hm (by omega) ⟨p0, hp0, hk0⟩ h3).mono ?_
  rintro e w' ⟨p, qs, rfl, i1, i2, i3, i4, i5, i6⟩
  have hql : qs.length = m := by
    have := i3.length_eq
    simp only [List.length_cons] at this
    omega
  have hpm : (p.e :: qs.map (fun x => x.e)).Perm L := List.Perm.trans (List.Perm.map (fun x : EP => x.e) i3) h4
  have hnd := (hpm.map keyE).nodup_iff.2 h5
  rw [List.map_cons, List.nodup_cons] at hnd
  refine ⟨p, qs.map (·.e), .slice (some ⟨gr, 0, none⟩) m c, rfl, i1, ⟨qs, _, c, by rw [hql], i2, by rw [hql]; exact i4, List.Perm.refl _, hnd.2, fun e he => h6 e (hpm.mem_iff.1 (List.mem_cons_of_mem _ he)), by simp; omega, by simp; omega⟩, hpm, i5, by rw [hm]; exact i6, fun k hk => hk⟩
theorem btake_none (base g : Nat) (most : Int) (v : Value) (L : List En) (x y : Int) (w : World) (h : Buf w base g most v L) (hno : ∀ e ∈ L, keyE e ≠ (x, y)) :
    Calls Try.prog 15 #[.pointer (some ⟨g, 0, none⟩), .int .i64 x, .int .i64 y] w fun e w' => e = .returned (.tuple #[enV zEP, .bool false]) ∧ Below w.heap.size w w' := by
  obtain ⟨ps, A, c, rfl, h2, h3, h4, h5, h6, h7, h8⟩ := h
  have hlen : ps.length = L.length := by simpa using h4.length_eq
  exact take_none base g _ c most A ps x y w h2 rfl (by omega) (fun p hp => hno p.e (h4.mem_iff.1 (List.mem_map.2 ⟨p, hp, rfl⟩)))
/-- A row of entries, their bytes wherever they are. -/
structure HRow (W : World) (base : Nat) (v : Value) (ps : List EP) : Prop where
  row : W.ownsRow base 33 8 v ps.length (flE ps)
theorem HRow.nil (W : World) (base : Nat) : HRow W base (.slice none 0 0) [] := ⟨own_nil _ _ _ _⟩
theorem HRow.fr {w W : World} {S : Nat → Prop} {base : Nat} {v : Value} {ps : List EP} (h : HRow w base v ps) (hf : Fr w W S) (hv : ∀ k, v.ownBlock = some k → ¬ S k) : HRow W base v ps := ⟨own_move h.row (fun k hk => hf.block k (own_lt h.row k hk) (hv k hk))⟩
theorem HRow.below {w W : World} {base : Nat} {v : Value} {ps : List EP} (h : HRow w base v ps) (hb : Below w.heap.size w W) : HRow W base v ps := h.fr (Fr.ofBelow (fun _ => False) hb) (fun _ _ h => h)
theorem HRow.lt {w : World} {base : Nat} {v : Value} {ps : List EP} (h : HRow w base v ps) (k : Nat) (hk : v.ownBlock = some k) : k < w.heap.size := own_lt h.row k hk
theorem HRow.slice {w : World} {base : Nat} {v : Value} {ps : List EP} (h : HRow w base v ps) : v = .slice none 0 0 ∧ ps = [] ∨ ∃ g cap cur, v = .slice (some ⟨g, 0, none⟩) ps.length cap ∧ base ≤ g ∧ w.heap[g]? = some (.cells cur 33 (0, 0)) ∧ ps.length ≤ cap ∧ cap ≤ maxLen ∧ cur.size = cap * 8 ∧ cur.toList.take (ps.length * 8) = flE ps := by
  rcases h.row.2 with ⟨h1, h2⟩ | ⟨g, cap, cur, h1, h2, h3, h4, h5, h6, h7⟩
  · exact .inl ⟨h1, List.eq_nil_of_length_eq_zero h2⟩
  · exact .inr ⟨g, cap, cur, h1, h2, h3, h4, h5, h6, h7⟩
theorem HRow.form {w : World} {base : Nat} {v : Value} {ps : List EP} (h : HRow w base v ps) : ∃ A c, v = .slice A ps.length c := by
  rcases h.slice with ⟨h1, h2⟩ | ⟨g, cap, cur, h1, _⟩
  · exact ⟨none, 0, by rw [h1, h2]; rfl⟩
  · exact ⟨_, cap, h1⟩
theorem HRow.at {w : World} {base n : Nat} {A : Option Addr} {c : Nat} {ps : List EP} (h : HRow w base (.slice A n c) ps) {i : Nat} {p : EP} (hp : ps[i]? = some p) :
    ∃ gr, A = some ⟨gr, 0, none⟩ ∧ w.cell? ⟨gr, i * 8, none⟩ = some (.int .i64 p.e.f0) ∧ w.cell? ⟨gr, i * 8 + 1, none⟩ = some (.int .i64 p.e.f1) ∧ w.cell? ⟨gr, i * 8 + 2, none⟩ = some (.int .u64 p.e.f2) ∧ w.cell? ⟨gr, i * 8 + 3, none⟩ = some (.int .i64 p.e.f3.f0) ∧ w.cell? ⟨gr, i * 8 + 4, none⟩ = some (.int .i64 p.e.f3.f1) ∧ w.cell? ⟨gr, i * 8 + 5, none⟩ = some (.int .i64 p.e.f4) ∧ w.cell? ⟨gr, i * 8 + 6, none⟩ = some (.slice p.A p.e.f5.length p.c) ∧ w.cell? ⟨gr, i * 8 + 7, none⟩ = some (.int .u64 p.e.f6) := by
  rcases h.slice with ⟨h1, h2⟩ | ⟨g, cap, cur, h1, hbg, hcur, hnc, hcm, hsz, htk⟩
  · subst h2
    simp at hp
  · injection h1 with h1 _ _
    exact ⟨g, h1, cells_at hcur htk hp⟩
/-- append of one entry onto such a row. -/
theorem app_held {ops : Array Oper} {rest : List Oper} {o : Oper} {a : Act} {Q : Exit → Act → World → Prop} {W : World} (base : Nat) (hgd : o.guard = none) (s x : Operand) (t : TypeId)
    (ho : o.op = .call { callee := .builtin .append, args := #[s, x], argTypes := #[t, t] }) (ht : Try.prog.underlying t = some (.slice 33))
    (v : Value) (ps : List EP) (p : EP) (hs : a.eval s = v) (HO : HRow W base v ps) (ad : Addr) (c : Nat) (hx : a.eval x = .slice (some ad) 1 c)
    (hnews : ∀ j u, (enC p)[j]? = some u → W.cell? (ad.add j) = some u) (hbase : base ≤ W.heap.size) (hl : ps.length + 1 ≤ 1000000)
    (h : ∀ v1 w1, HRow w1 base v1 (ps ++ [p]) → Fr W w1 (fun k => v.ownBlock = some k) → (v1.ownBlock = v.ownBlock ∨ v1.ownBlock = some W.heap.size) → wpList Try.prog ops Q rest (a.put o.dst v1) w1) :
    wpList Try.prog ops Q (o :: rest) a W := by
  obtain ⟨i, hi, hzz⟩ := Option.map_eq_some_iff.1 infoEn
  simp only [Prod.mk.injEq] at hzz
  obtain ⟨hz, hs8, hs80⟩ := hzz
  refine wpList_append_own_at W hgd s x t ho base 33 i _ 8 80 ht hi hz hs8 hs80 rfl (by decide) v ps.length (flE ps) hs HO.row ad 1 c (enC p) hx rfl hnews (enC_one p) (by simp only [maxLen]; omega) (by omega) hbase (fun v' w' h1 h2 _ h4 => ?_)
  refine h v' w' ⟨?_⟩ (grown_fr h2) h4
  rw [List.length_append, flE_append]
  simpa [flE] using h1
end Go.Proofs.Ytekhpogigndlkaa.K

namespace Go.Proofs.Ytekhpogigndlkaa.K
open Go.RowKit Go.Proofs.YtekhpogigndlkaaW.PrintWords Go.Proofs.YtekhpogigndlkaaW.PrintLast Go.Proofs.YtekhpogigndlkaaW.PrintMore
set_option linter.unusedVariables false
set_option linter.unusedSimpArgs false

/-- What is dropped. -/
def delE (x y : Int) (e : En) : Bool := decide (e.f0 = x ∧ e.f1 < y)
def kpP (x y : Int) (p : EP) : Bool := !(delE x y p.e)
set_option maxHeartbeats 4000000 in
theorem drop1_calls (p : EP) (x y : Int) (g4 g5 : Nat) (w : World) (c4 : w.cell? ⟨g4, 0, none⟩ = some (.int .i64 x)) (c5 : w.cell? ⟨g5, 0, none⟩ = some (.int .i64 y)) :
    Calls Try.prog 39 #[enV p, .pointer (some ⟨g4, 0, none⟩), .pointer (some ⟨g5, 0, none⟩)] w fun e w' => e = .returned (.bool (delE x y p.e)) ∧ Below w.heap.size w w' := by
  have d4 : (w.alloc (.cells (enC p).toArray 33)).cell? ⟨g4, 0, none⟩ = some (.int .i64 x) := pw_cell_below (below_alloc (Below.refl _ _) _) c4
  have d5 : (w.alloc (.cells (enC p).toArray 33)).cell? ⟨g5, 0, none⟩ = some (.int .i64 y) := pw_cell_below (below_alloc (Below.refl _ _) _) c5
  simp only [enV, enC] at d4 d5 ⊢
  by_cases h1 : p.e.f0 = x
  · have hb1 : (p.e.f0 == x) = true := by simp [h1]
    by_cases h2 : p.e.f1 < y
    · have HD : Aside0 (delE x y p.e = true) := ⟨decide_eq_true ⟨h1, h2⟩⟩
      clear h1
      go_enter Try.func39, Try.ntmps39
      go_wp2
      go_ret
      exact ⟨by rw [HD.out]; rfl, below_alloc (Below.refl _ _) _⟩
    · have HD : Aside0 (delE x y p.e = false) := ⟨decide_eq_false (fun h => h2 h.2)⟩
      clear h1
      go_enter Try.func39, Try.ntmps39
      go_wp2
      go_ret
      exact ⟨by rw [HD.out]; rfl, below_alloc (Below.refl _ _) _⟩
  · have HD : Aside0 (delE x y p.e = false) := ⟨decide_eq_false (fun h => h1 h.1)⟩
    have hb1 : (p.e.f0 == x) = false := by simp [h1]
    clear h1
    go_enter Try.func39, Try.ntmps39
    go_wp2
    go_ret
    exact ⟨by rw [HD.out]; rfl, below_alloc (Below.refl _ _) _⟩
/-- The first that is dropped. -/
def FndD (ps : List EP) (x y : Int) (r : Int) : Prop := (r = -1 ∧ ∀ p ∈ ps, delE x y p.e = false) ∨ ∃ (i : Nat) (p : EP), r = i ∧ ps[i]? = some p ∧ delE x y p.e = true ∧ ∀ (j : Nat) (q : EP), j < i → ps[j]? = some q → delE x y q.e = false
set_option maxRecDepth 100000 in
set_option maxHeartbeats 4000000 in
theorem indexd_calls (base n : Nat) (A : Option Addr) (c : Nat) (ps : List EP) (x y : Int) (g4 g5 : Nat) (w : World) (h : PlR w base (.slice A n c) ps) (hn : ps.length = n) (hl : n ≤ 100000) (c4 : w.cell? ⟨g4, 0, none⟩ = some (.int .i64 x)) (c5 : w.cell? ⟨g5, 0, none⟩ = some (.int .i64 y)) :
    Calls Try.prog 43 #[.slice A n c, .func (.func 39) #[] #[.pointer (some ⟨g4, 0, none⟩), .pointer (some ⟨g5, 0, none⟩)]] w fun e w' => ∃ r : Int, e = .returned (.int .i64 r) ∧ FndD ps x y r ∧ Below w.heap.size w w' := by
  have HH := Aside0.mk h
  have HN := Aside0.mk hn
  have HL := Aside0.mk hl
  have HC4 := Aside0.mk c4
  have HC5 := Aside0.mk c5
  clear h hn hl c4 c5
  go_enter Try.func43, Try.ntmps43
  go_wp2
  go_loopg [8] n (fun g v8 wr => ∃ (j : Nat), g = n - j ∧ v8 = .int .i64 j ∧ j ≤ n ∧ Aside0 (∀ (i : Nat) (p : EP), i < j → ps[i]? = some p → delE x y p.e = false) ∧ Aside0 (Below w.heap.size w wr))
  case atStart => exact ⟨0, rfl, rfl, Nat.zero_le _, ⟨fun i p hi => absurd hi (Nat.not_lt_zero i)⟩, ⟨Below.refl _ _⟩⟩
  case round =>
    obtain ⟨j, hg, rfl, hj, HS, HB⟩ := hrel
    have HG := Aside0.mk hg
    clear hg
    by_cases hjn : j = n
    · subst hjn
      have hlt : ¬ (j : Int) < (j : Int) := by omega
      have HF : Aside0 (FndD ps x y (-1)) := ⟨.inl ⟨rfl, fun p hp => by
        obtain ⟨i, hi, he⟩ := List.mem_iff_getElem.1 hp
        exact HS.out i p (by have := HN.out; omega) (by rw [List.getElem?_eq_getElem hi, he])⟩⟩
      go_wp2
      go_ret
      exact ⟨_, rfl, HF.out, HB.out⟩
    · obtain ⟨p, hp⟩ : ∃ p, ps[j]? = some p := ⟨_, List.getElem?_eq_getElem (by have := HN.out; omega)⟩
      have HPB := HH.out.below HB.out
      obtain ⟨gr, rfl, c0, c1, c2, c3, c4, c5, c6, c7⟩ := HPB.at HN.out hp
      have HJ : Aside0 (j < n ∧ n ≤ 100000) := ⟨by omega, HL.out⟩
      have hk : (-1000000 : Int) ≤ (j : Int) + 1 ∧ (j : Int) + 1 ≤ 1000000 := by have := HJ.out; omega
      have hlt : (j : Int) < n := by omega
      have h0 : (0 : Int) ≤ j := by omega
      have HP := Aside0.mk hp
      have hw1 := iw (x := (j : Int) + 1) rfl hk
      have hw2 := w64 (x := (j : Int) + 1) rfl hk
      clear hk hp HPB hj hjn
      obtain ⟨d, hd⟩ : ∃ d, delE x y p.e = d := ⟨_, rfl⟩
      have HD := Aside0.mk hd
      clear hd
      cases d
      · go_wp2_with (first
          | (go_at_call 39; go_must (refine (drop1_calls p x y g4 g5 _ (pw_cell_below HB.out HC4.out) (pw_cell_below HB.out HC5.out)).mono ?_; rw [HD.out]; rintro e w16 ⟨rfl, hb⟩; have HB16 := Aside0.mk (HB.out.trans (hb.mono HB.out.size)); clear hb)))
        clear hw1 hw2
        go_roundg (n - (j + 1))
        case measure => rw [HG.out]; have := HJ.out; omega
        case rel => exact ⟨j + 1, rfl, by simp, by have := HJ.out; omega, ⟨fun i q hi hq => by
          by_cases e : i = j
          · subst e
            rw [HP.out] at hq
            injection hq with hq
            rw [← hq]
            exact HD.out
          · exact HS.out i q (by omega) hq⟩, HB16⟩
      · have HF : Aside0 (FndD ps x y j) := ⟨.inr ⟨j, p, rfl, HP.out, HD.out, HS.out⟩⟩
        go_wp2_with (first
          | (go_at_call 39; go_must (refine (drop1_calls p x y g4 g5 _ (pw_cell_below HB.out HC4.out) (pw_cell_below HB.out HC5.out)).mono ?_; rw [HD.out]; rintro e w16 ⟨rfl, hb⟩; have HB16 := Aside0.mk (HB.out.trans (hb.mono HB.out.size)); clear hb)))
        go_ret
        exact ⟨_, rfl, HF.out, HB16.out⟩
/-- One entry stored. -/
theorem PlR.setOne {w W : World} {base gr n cap i : Nat} {ps : List EP} {p : EP} {cur : Array Value} (h : PlR w base (.slice (some ⟨gr, 0, none⟩) n cap) ps) (hn : ps.length = n) (hi : i < n) (hp : Own w base p.b p.e.f5)
    (hbg : base ≤ gr) (hcur : w.heap[gr]? = some (.cells cur 33 (0, 0))) (hnc : ps.length ≤ cap) (hcm : cap ≤ maxLen) (hsz : cur.size = cap * 8) (htk : cur.toList.take (ps.length * 8) = flE ps)
    (hb : W.heap[gr]? = some (.cells (setA cur (i * 8) (enC p)) 33 (0, 0))) (hf : Fr w W (SR gr)) : PlR W base (.slice (some ⟨gr, 0, none⟩) n cap) (ps.set i p) := by
  subst hn
  have h1 := take_set htk (by omega) i hi p
  refine ⟨⟨by rw [flE_length], .inr ⟨gr, cap, _, ?_, hbg, hb, by rw [List.length_set]; exact hnc, hcm, by rw [setA_size]; exact hsz, h1⟩⟩, fun q hq => ?_⟩
  · rw [List.length_set]
  · have hO : Own w base q.b q.e.f5 := by
      rcases List.mem_or_eq_of_mem_set hq with hq | rfl
      · exact h.bod q hq
      · exact hp
    exact Own.fr hO hf (fun k hk e => Own.typed hO hcur (by decide) k hk e)
end Go.Proofs.Ytekhpogigndlkaa.K

namespace Go.Proofs.Ytekhpogigndlkaa.K
open Go.RowKit Go.Proofs.YtekhpogigndlkaaW.PrintWords Go.Proofs.YtekhpogigndlkaaW.PrintLast Go.Proofs.YtekhpogigndlkaaW.PrintMore
set_option linter.unusedVariables false
set_option linter.unusedSimpArgs false

/-- What DeleteFunc leaves. -/
def DelP (w : World) (base : Nat) (v : Value) (ps : List EP) (x y : Int) (e : Ending) (W : World) : Prop :=
  ∃ (A : Option Addr) (c : Nat), e = .returned (.slice A (ps.filter (kpP x y)).length c) ∧ PlR W base (.slice A (ps.filter (kpP x y)).length c) (ps.filter (kpP x y)) ∧ Fr w W (fun k => v.ownBlock = some k) ∧ (∀ k, (Value.slice A (ps.filter (kpP x y)).length c).ownBlock = some k → v.ownBlock = some k)
/-- DeleteFunc's loop. -/
structure DelI (w : World) (base gr n cap : Nat) (ps : List EP) (x y : Int) (i j : Nat) (qs : List EP) (W : World) : Prop where
  row : PlR W base (.slice (some ⟨gr, 0, none⟩) n cap) qs
  len : qs.length = n
  kept : qs.take i = (ps.take j).filter (kpP x y)
  left : qs.drop j = ps.drop j
  lt : i < j
  le : j ≤ n
  fr : Fr w W (SR gr)
theorem DelI.at {w W : World} {base gr n cap : Nat} {ps qs : List EP} {x y : Int} {i j : Nat} {p : EP} (h : DelI w base gr n cap ps x y i j qs W) (hp : ps[j]? = some p) : qs[j]? = some p := by
  have := congrArg (fun l => l[0]?) h.left
  simp only [List.getElem?_drop, Nat.add_zero] at this
  rw [this]
  exact hp
theorem DelI.below {w W X : World} {base gr n cap : Nat} {ps qs : List EP} {x y : Int} {i j : Nat} (h : DelI w base gr n cap ps x y i j qs W) (hb : Below W.heap.size W X) : DelI w base gr n cap ps x y i j qs X :=
  ⟨h.row.below hb, h.len, h.kept, h.left, h.lt, h.le, h.fr.stepB hb⟩
theorem take_filter {ps : List EP} {j : Nat} {p : EP} (f : EP → Bool) (hp : ps[j]? = some p) : (ps.take (j + 1)).filter f = (ps.take j).filter f ++ (if f p = true then [p] else []) := by
  obtain ⟨hj, rfl⟩ := List.getElem?_eq_some_iff.1 hp
  rw [List.take_succ_eq_append_getElem hj, List.filter_append]
  congr 1
  by_cases h : f ps[j] = true
  · simp [h]
  · simp [h]
theorem DelI.skip {w W : World} {base gr n cap : Nat} {ps qs : List EP} {x y : Int} {i j : Nat} {p : EP} (h : DelI w base gr n cap ps x y i j qs W) (hp : ps[j]? = some p) (hj : j < n) (hd : delE x y p.e = true) : DelI w base gr n cap ps x y i (j + 1) qs W := by
  refine ⟨h.row, h.len, ?_, ?_, by have := h.lt; omega, hj, h.fr⟩
  · rw [take_filter _ hp, h.kept, if_neg (by simp [kpP, hd]), List.append_nil]
  · have := congrArg (List.drop 1) h.left
    simpa [List.drop_drop, Nat.add_comm] using this
theorem DelI.keep {w W X : World} {base gr n cap : Nat} {ps qs : List EP} {x y : Int} {i j : Nat} {p : EP} (h : DelI w base gr n cap ps x y i j qs W) (hp : ps[j]? = some p) (hj : j < n) (hd : delE x y p.e = false) (hr : PlR X base (.slice (some ⟨gr, 0, none⟩) n cap) (qs.set i p)) (hf : Fr W X (SR gr)) : DelI w base gr n cap ps x y (i + 1) (j + 1) (qs.set i p) X := by
  have hlt := h.lt
  have hle := h.le
  have hlen := h.len
  refine ⟨hr, by rw [List.length_set]; exact hlen, ?_, ?_, by omega, hj, h.fr.step hf⟩
  · rw [take_filter _ hp, ← h.kept, if_pos (by simp [kpP, hd])]
    rw [List.take_succ_eq_append_getElem (by rw [List.length_set]; omega), List.getElem_set_self, List.take_set_of_le (Nat.le_refl i)]
  · rw [List.drop_set_of_lt (by omega)]
    have := congrArg (List.drop 1) h.left
    simpa [List.drop_drop, Nat.add_comm] using this
/-- The rest is cleared. -/
theorem run_clear_pile (W : World) (g i m c : Nat) (cur : Array Value) (hg : W.heap[g]? = some (.cells cur 33 (0, 0))) (hm : 0 < m) (hfit : i * 8 + m * 8 ≤ cur.size) :
    ∃ cur', (Builtin.clear_ #[57] 0 #[.slice (some ⟨g, i * 8, none⟩) m c]).run Try.prog W = .ok (.tuple #[]) (W.setRow g cur') ∧ (W.setRow g cur').heap[g]? = some (.cells cur' 33 (0, 0)) ∧ cur'.size = cur.size ∧ cur'.toList.take (i * 8) = cur.toList.take (i * 8) := by
  obtain ⟨i0, hi, hz⟩ := Option.map_eq_some_iff.1 infoEn
  simp only [Prod.mk.injEq] at hz
  have hv : ∀ w, (zeroValue 33).run Try.prog w = .ok (.agg #[.int .i64 0, .int .i64 0, .int .u64 0, .int .i64 0, .int .i64 0, .int .i64 0, .slice none 0 0, .int .u64 0]) w := by
    intro w
    simp [zeroValue, typeInfo, hi, hz.1]
  obtain ⟨zs, hzs⟩ : ∃ zs, (Builtin.zeroCells (Value.agg #[.int .i64 0, .int .i64 0, .int .u64 0, .int .i64 0, .int .i64 0, .int .i64 0, .slice none 0 0, .int .u64 0]).cells m).toList = zs := ⟨_, rfl⟩
  have hl : zs.length = m * 8 := by
    rw [← hzs, Array.length_toList, size_zeroCells]
    rfl
  have h1 : ∀ v ∈ zs, v.oneCell' = true := by
    rw [← hzs]
    intro v hv
    rw [Array.mem_toList_iff] at hv
    unfold Builtin.zeroCells at hv
    obtain ⟨a, _, rfl⟩ := Array.mem_map.1 hv
    simp only [Value.cells]
    have h8 : a % 8 < 8 := Nat.mod_lt _ (by decide)
    rcases (show a % 8 = 0 ∨ a % 8 = 1 ∨ a % 8 = 2 ∨ a % 8 = 3 ∨ a % 8 = 4 ∨ a % 8 = 5 ∨ a % 8 = 6 ∨ a % 8 = 7 by omega) with h | h | h | h | h | h | h | h <;> simp [h, Value.oneCell']
  have hst := run_storeCells_at Try.prog g (i * 8) 33 zs 0 cur W hg (by omega) h1
  simp only [Nat.add_zero] at hst
  refine ⟨(cur.toList.take (i * 8) ++ zs ++ cur.toList.drop (i * 8 + zs.length)).toArray, ?_, setRow_heap W g cur _ 33 _ hg, ?_, ?_⟩
  rotate_left
  · simp only [List.size_toArray, List.length_append, List.length_take, List.length_drop, Array.length_toList]
    omega
  · simp only [List.append_assoc]
    rw [List.take_append_of_le_length (by rw [List.length_take, Array.length_toList]; omega), List.take_take, Nat.min_self]
  · obtain ⟨m', rfl⟩ : ∃ m', m = m' + 1 := ⟨m - 1, by omega⟩
    simp [Builtin.clear_, run_underlying Try.underlying57, hv, hzs, hst]
theorem PlR.cut {w W : World} {base gr n m cap : Nat} {ps : List EP} {cur cur' : Array Value} (h : PlR w base (.slice (some ⟨gr, 0, none⟩) n cap) ps) (hn : ps.length = n) (hbg : base ≤ gr) (hcur : w.heap[gr]? = some (.cells cur 33 (0, 0))) (hnc : ps.length ≤ cap) (hcm : cap ≤ maxLen) (hsz : cur.size = cap * 8) (htk : cur.toList.take (ps.length * 8) = flE ps)
    (hm : m ≤ n) (hb : W.heap[gr]? = some (.cells cur' 33 (0, 0))) (hs : cur'.size = cur.size) (ht : cur'.toList.take (m * 8) = cur.toList.take (m * 8)) (hf : Fr w W (SR gr)) : PlR W base (.slice (some ⟨gr, 0, none⟩) m cap) (ps.take m) := by
  subst hn
  have hl : (ps.take m).length = m := by rw [List.length_take]; omega
  refine ⟨⟨by rw [flE_length], .inr ⟨gr, cap, cur', by rw [hl], hbg, hb, by omega, hcm, by rw [hs]; exact hsz, ?_⟩⟩, fun p hp => ?_⟩
  · rw [hl, ht]
    have e : flE ps = flE (ps.take m) ++ flE (ps.drop m) := by rw [← flE_append, List.take_append_drop]
    have h8 := congrArg (List.take (m * 8)) htk
    rw [List.take_take, show min (m * 8) (ps.length * 8) = m * 8 by omega, e] at h8
    rw [h8, List.take_append_of_le_length (by rw [flE_length, hl]; exact Nat.le_refl _), List.take_of_length_le (by rw [flE_length, hl]; exact Nat.le_refl _)]
  · have hO := h.bod p (List.mem_of_mem_take hp)
    exact Own.fr hO hf (fun k hk e => Own.typed hO hcur (by decide) k hk e)
theorem fndd_no {ps : List EP} {x y r : Int} (h : FndD ps x y r) (hno : ∀ p ∈ ps, delE x y p.e = false) : r = -1 := by
  rcases h with ⟨h, _⟩ | ⟨i, p, _, hp, hk, _⟩
  · exact h
  · rw [hno p (List.mem_of_getElem? hp)] at hk
    cases hk
theorem fndd_yes {ps : List EP} {x y r : Int} (h : FndD ps x y r) (hy : ¬ ∀ p ∈ ps, delE x y p.e = false) : ∃ (i : Nat) (p : EP), r = i ∧ ps[i]? = some p ∧ delE x y p.e = true ∧ ∀ (j : Nat) (q : EP), j < i → ps[j]? = some q → delE x y q.e = false := by
  rcases h with ⟨_, h⟩ | h
  · exact absurd h hy
  · exact h
set_option maxRecDepth 100000 in
set_option maxHeartbeats 8000000 in
theorem delf_calls (base n : Nat) (A : Option Addr) (c : Nat) (ps : List EP) (x y : Int) (g4 g5 : Nat) (w : World) (h : PlR w base (.slice A n c) ps) (hn : ps.length = n) (hl : n ≤ 100000) (c4 : w.cell? ⟨g4, 0, none⟩ = some (.int .i64 x)) (c5 : w.cell? ⟨g5, 0, none⟩ = some (.int .i64 y)) (hg4 : ∀ k, (Value.slice A n c).ownBlock = some k → g4 ≠ k ∧ g5 ≠ k) :
    Calls Try.prog 38 #[.slice A n c, .func (.func 39) #[] #[.pointer (some ⟨g4, 0, none⟩), .pointer (some ⟨g5, 0, none⟩)]] w fun e w' => DelP w base (.slice A n c) ps x y e w' := by
  have HH := Aside0.mk h
  have HN := Aside0.mk hn
  have HL := Aside0.mk hl
  have HC4 := Aside0.mk c4
  have HC5 := Aside0.mk c5
  have HGG := Aside0.mk hg4
  clear h hn hl c4 c5 hg4
  by_cases hany : ∀ p ∈ ps, delE x y p.e = false
  · have hfil : ps.filter (kpP x y) = ps := List.filter_eq_self.2 (fun p hp => by simp [kpP, hany p hp])
    have HFIL := Aside0.mk hfil
    have HANY := Aside0.mk hany
    clear hfil hany
    go_enter Try.func38, Try.ntmps38
    go_wp2_with (first
      | (go_at_call 43; go_must (refine (indexd_calls base n A c ps x y g4 g5 _ HH.out HN.out HL.out HC4.out HC5.out).mono ?_; rintro e w10 ⟨r, rfl, hr, hb⟩; obtain rfl := fndd_no hr HANY.out; have HB10 := Aside0.mk hb; clear hr hb)))
    go_ret
    refine ⟨A, c, ?_, ?_, Fr.ofBelow _ HB10.out, ?_⟩
    · rw [HFIL.out, HN.out]; rfl
    · rw [HFIL.out, HN.out]; exact HH.out.below HB10.out
    · rw [HFIL.out, HN.out]; exact fun k hk => hk
  · have HANY := Aside0.mk hany
    clear hany
    go_enter Try.func38, Try.ntmps38
    go_upto_region 4 with (first
      | (go_at_call 43; go_must (refine (indexd_calls base n A c ps x y g4 g5 _ HH.out HN.out HL.out HC4.out HC5.out).mono ?_; rintro e w10 ⟨r, rfl, hr, hb⟩; obtain ⟨i, p, rfl, hp, hd, hbe⟩ := fndd_yes hr HANY.out; have hi1 : ((i : Int) == -1) = false := (by first | (simp; done) | (simp; omega)); have hi2 : ¬ (i : Int) = -1 := (by omega); have HP := Aside0.mk hp; have HD := Aside0.mk hd; have HBE := Aside0.mk hbe; have HB10 := Aside0.mk hb; clear hr hb hp hd hbe)))
    have hilt : i < n := by have h1 := (List.getElem?_eq_some_iff.1 HP.out).1; have h2 := HN.out; omega
    have hA : ∃ gr, A = some ⟨gr, 0, none⟩ := by
      rcases HH.out.slice with ⟨h1, h2⟩ | ⟨g, cap, cur, h1, _⟩
      · have := HP.out
        rw [h2] at this
        simp at this
      · injection h1 with h1 _ _
        exact ⟨g, h1⟩
    obtain ⟨gr, rfl⟩ := hA
    have HI0 : Aside0 (DelI w base gr n c ps x y i (i + 1) ps w10) := ⟨⟨HH.out.below HB10.out, HN.out, by rw [take_filter _ HP.out, if_neg (by simp [kpP, HD.out]), List.append_nil]; exact (List.filter_eq_self.2 (fun q hq => by
      obtain ⟨j, hj, rfl⟩ := List.mem_iff_getElem.1 hq
      rw [List.length_take] at hj
      simp only [kpP, Bool.not_eq_true']
      refine HBE.out j _ (by omega) ?_
      rw [List.getElem_take]
      exact List.getElem?_eq_getElem (by omega))).symm, rfl, Nat.lt_succ_self i, hilt, Fr.ofBelow _ HB10.out⟩⟩
    have hk : (-1000000 : Int) ≤ (i : Int) + 1 ∧ (i : Int) + 1 ≤ 1000000 := by have := HL.out; omega
    have hw1 := iw (x := (i : Int) + 1) rfl hk
    have hw2 := w64 (x := (i : Int) + 1) rfl hk
    have hne4 := (HGG.out gr rfl).1
    have hne5 := (HGG.out gr rfl).2
    clear hk hilt HB10
    go_wp2
    clear hw1 hw2
    go_loopg [5, 6] (n - (i + 1)) (fun gg v5 v6 wr => ∃ (i j : Nat) (qs : List EP), gg = n - j ∧ v5 = .int .i64 i ∧ v6 = .int .i64 j ∧ Aside0 (DelI w base gr n c ps x y i j qs wr))
    case atStart => exact ⟨i, i + 1, ps, rfl, rfl, by simp, HI0⟩
    case round =>
      clear HI0 HP HD HBE
      obtain ⟨i, j, qs, hg, rfl, rfl, HI⟩ := hrel
      have HG := Aside0.mk hg
      clear hg
      have hij := HI.out.lt
      have hjn' := HI.out.le
      by_cases hjn : j < n
      · obtain ⟨p, hp⟩ : ∃ p, ps[j]? = some p := ⟨_, List.getElem?_eq_getElem (by have := HN.out; omega)⟩
        have HP := Aside0.mk hp
        have hpq := HI.out.at hp
        have HPQ := Aside0.mk hpq
        rcases HI.out.row.slice with ⟨h1, _⟩ | ⟨g, cap', cur, h1, hbg, hcur, hnc, hcm, hsz, htk⟩
        · cases h1
        injection h1 with h1 hle h2
        injection h1 with h1
        injection h1 with h1
        subst h1 h2
        obtain ⟨x0, x1, x2, x3, x4, x5, x6, x7⟩ := cells_at hcur htk hpq
        have HFS := Aside0.mk (And.intro hbg (And.intro hnc (And.intro hcm hsz)))
        have HCUR := Aside0.mk hcur
        have HTK := Aside0.mk htk
        have hlt : (j : Int) < n := by omega
        have h0 : (0 : Int) ≤ j := by omega
        have h0i : (0 : Int) ≤ i := by omega
        have hlti : (i : Int) < n := by omega
        have hk : (-1000000 : Int) ≤ (j : Int) + 1 ∧ (j : Int) + 1 ≤ 1000000 := by have := HL.out; omega
        have hki : (-1000000 : Int) ≤ (i : Int) + 1 ∧ (i : Int) + 1 ≤ 1000000 := by have := HL.out; omega
        have hw1 := iw (x := (j : Int) + 1) rfl hk
        have hw2 := w64 (x := (j : Int) + 1) rfl hk
        have hw3 := iw (x := (i : Int) + 1) rfl hki
        have hw4 := w64 (x := (i : Int) + 1) rfl hki
        have HJ : Aside0 (i < j ∧ j < n) := ⟨hij, hjn⟩
        have HC4' : Aside0 (wr.cell? ⟨g4, 0, none⟩ = some (.int .i64 x)) := ⟨HI.out.fr.cell HC4.out hne4⟩
        have HC5' : Aside0 (wr.cell? ⟨g5, 0, none⟩ = some (.int .i64 y)) := ⟨HI.out.fr.cell HC5.out hne5⟩
        clear hk hki hp hpq hbg hnc hcm hsz hcur htk hle hij hjn hjn'
        go_upto_region 8 with fail
        refine gen_world (fun W1 hW1 => ?_)
        have hB1 : Below wr.heap.size wr W1 := by rw [hW1]; with_reducible exact below_alloc (Below.refl _ _) _
        have hy1 : W1.heap[wr.heap.size]? = some (.cells #[.int .i64 p.e.f0, .int .i64 p.e.f1, .int .u64 p.e.f2, .int .i64 p.e.f3.f0, .int .i64 p.e.f3.f1, .int .i64 p.e.f4, .slice p.A p.e.f5.length p.c, .int .u64 p.e.f6] 33 (0, 0)) := by rw [hW1]; with_reducible exact heap_alloc_new _ _
        obtain ⟨g7, hg7⟩ : ∃ g, g = wr.heap.size := ⟨_, rfl⟩
        rw [← hg7] at hy1 ⊢
        have hne7 : g7 ≠ gr := by have := blk_lt HCUR.out; omega
        obtain ⟨y0, y1, y2, y3, y4, y5, y6, y7, -⟩ := cells8z hy1
        have HY1 := Aside0.mk hy1
        have HB1 := Aside0.mk hB1
        clear hW1 hB1 hy1 hg7 x0 x1 x2 x3 x4 x5 x6 x7
        obtain ⟨d, hd⟩ : ∃ d, delE x y p.e = d := ⟨_, rfl⟩
        have HD := Aside0.mk hd
        clear hd
        cases d
        · go_upto_region 9 with (first
            | (go_at_call 39; go_must (refine (drop1_calls p x y g4 g5 _ (pw_cell_below HB1.out HC4'.out) (pw_cell_below HB1.out HC5'.out)).mono ?_; rw [HD.out]; rintro e w28 ⟨rfl, hb⟩; have HY28 := Aside0.mk (blk_below HY1.out hb); have HI28 := Aside0.mk ((HI.out.below HB1.out).below hb); have HCUR28 := Aside0.mk (blk_below (blk_below HCUR.out HB1.out) hb); clear hb)))
          clear y0 y1 y2 y3 y4 y5 y6 y7
          obtain ⟨y0, y1, y2, y3, y4, y5, y6, y7, -⟩ := cells8z HY28.out
          obtain ⟨_v0, _v1, _v2, _v3, _v4, _v5, _v6, _v7, b0, b1, b2, b3, b4, b5, b6, b7, e0, e1, e2, e3, e4, e5, e6, e7⟩ := cells8 HCUR28.out (i := i) (by have := HFS.out; have := HI.out.len; have := HJ.out; omega)
          go_wp2
          clear hw1 hw2 hw3 hw4
          refine gen_K (fun W3 hW3 => ?_)
          have hc3 : W3.heap[gr]? = some (.cells (setA cur (i * 8) (enC p)) 33 (0, 0)) := by rw [hW3]; exact heap_set8 HCUR28.out (i * 8) p
          have hf3 : Fr w28 W3 (SR gr) := by rw [hW3]; repeat (with_reducible first | exact Fr.refl _ _ | refine Fr.setg ?_ _ _)
          have HI3 : Aside0 (DelI w base gr n c ps x y (i + 1) (j + 1) (qs.set i p) W3) := ⟨HI28.out.keep HP.out HJ.out.2 HD.out (HI28.out.row.setOne HI28.out.len (by have := HJ.out; omega) (HI28.out.row.bod p (List.mem_of_getElem? HPQ.out)) HFS.out.1 HCUR28.out HFS.out.2.1 HFS.out.2.2.1 HFS.out.2.2.2 HTK.out hc3 hf3) hf3⟩
          clear hW3 hc3 hf3
          go_roundg (n - (j + 1))
          case measure => rw [HG.out]; have := HJ.out; omega
          case rel => exact ⟨i + 1, j + 1, qs.set i p, rfl, by simp, by simp, HI3⟩
        · go_wp2_with (first
            | (go_at_call 39; go_must (refine (drop1_calls p x y g4 g5 _ (pw_cell_below HB1.out HC4'.out) (pw_cell_below HB1.out HC5'.out)).mono ?_; rw [HD.out]; rintro e w28 ⟨rfl, hb⟩; have HI28 := Aside0.mk (((HI.out.below HB1.out).below hb).skip HP.out HJ.out.2 HD.out); clear hb)))
          clear hw1 hw2 hw3 hw4
          go_roundg (n - (j + 1))
          case measure => rw [HG.out]; have := HJ.out; omega
          case rel => exact ⟨i, j + 1, qs, rfl, rfl, by simp, HI28⟩
      · have hjn2 : j = n := by omega
        subst hjn2
        have hlt : ¬ (j : Int) < (j : Int) := by omega
        rcases HI.out.row.slice with ⟨h1, _⟩ | ⟨g, cap', cur, h1, hbg, hcur, hnc, hcm, hsz, htk⟩
        · cases h1
        injection h1 with h1 hle h2
        injection h1 with h1
        injection h1 with h1
        subst h1 h2
        have hlen := HI.out.len
        obtain ⟨cur', hclr, hcl1, hcl2, hcl3⟩ := run_clear_pile wr gr i (j - i) (c - i) cur hcur (by omega) (by omega)
        have h0i : (0 : Int) ≤ i := by omega
        have hij1 : (i : Int) ≤ j := by omega
        have hij2 : i ≤ j := by omega
        have hic1 : (i : Int) ≤ c := by omega
        have hic2 : i ≤ c := by omega
        have hic3 : ¬ i = c := by omega
        have hic4 : ¬ c = i := by omega
        have HFS := Aside0.mk (And.intro hbg (And.intro hnc (And.intro hcm (And.intro hsz hcur))))
        have HTK := Aside0.mk htk
        have HCL := Aside0.mk (And.intro hcl1 (And.intro hcl2 hcl3))
        clear hbg hnc hcm hsz hcur htk hle hlen hcl1 hcl2 hcl3 hjn hjn' HG
        go_wp2
        go_ret
        have hfil : ps.filter (kpP x y) = qs.take i := by rw [HI.out.kept, List.take_of_length_le (by rw [HN.out]; exact Nat.le_refl _)]
        have hli : (qs.take i).length = i := by rw [List.length_take, HI.out.len]; omega
        have hfr : Fr wr (wr.setRow gr cur') (SR gr) := ⟨rfl, rfl, rfl, by simp, fun k _ hk => setRow_other wr gr k _ (fun e => hk e)⟩
        have hrow := HI.out.row.cut HI.out.len HFS.out.1 HFS.out.2.2.2.2 HFS.out.2.1 HFS.out.2.2.1 HFS.out.2.2.2.1 HTK.out hij2 HCL.out.1 HCL.out.2.1 HCL.out.2.2 hfr
        refine ⟨some ⟨gr, 0, none⟩, c, ?_, ?_, (HI.out.fr.step hfr).mono (fun k _ hk => by rw [hk]; rfl), fun k hk => hk⟩
        · rw [hfil, hli]
          rfl
        · rw [hfil, hli]
          exact hrow
end Go.Proofs.Ytekhpogigndlkaa.K

namespace Go.Proofs.Ytekhpogigndlkaa.K
open Go.RowKit Go.Proofs.YtekhpogigndlkaaW.PrintWords Go.Proofs.YtekhpogigndlkaaW.PrintLast Go.Proofs.YtekhpogigndlkaaW.PrintMore
set_option linter.unusedVariables false
set_option linter.unusedSimpArgs false

/-- What Drop leaves. -/
def DropP (w : World) (base g : Nat) (most : Int) (v : Value) (ps : List EP) (x y : Int) (e : Ending) (W : World) : Prop :=
  ∃ (A : Option Addr) (c : Nat) (qs : List EP), e = .returned (.int .i64 ((ps.length : Int) - qs.length)) ∧ BufW W base g most (.slice A qs.length c) qs ∧ qs.Perm (ps.filter (kpP x y)) ∧ HeapF (ky qs) qs.length 0 ∧ Fr w W (SP g v) ∧ (∀ k, (Value.slice A qs.length c).ownBlock = some k → v.ownBlock = some k)
set_option maxRecDepth 100000 in
set_option maxHeartbeats 8000000 in
theorem drop_calls (base g n : Nat) (most : Int) (A : Option Addr) (c : Nat) (ps : List EP) (x y : Int) (w : World) (h : BufW w base g most (.slice A n c) ps) (hn : ps.length = n) (hl : n ≤ 100000) :
    Calls Try.prog 21 #[.pointer (some ⟨g, 0, none⟩), .int .i64 x, .int .i64 y] w fun e w' => DropP w base g most (.slice A n c) ps x y e w' := by
  have hmf : ∀ (fn : Fn) (first cap : Array Value) (w : World), (Instr.makeFunc fn first cap).run Try.prog w = .ok (.func fn first cap) w := fun _ _ _ _ => rfl
  have HH := Aside0.mk h
  have HN := Aside0.mk hn
  have HL := Aside0.mk hl
  have hc := h.cell
  have HVB : Aside0 (∀ k, (Value.slice A n c).ownBlock = some k → k < w.heap.size) := ⟨fun k hk => own_lt h.row.row k hk⟩
  have HGB : Aside0 (g < w.heap.size) := ⟨blk_lt h.hd⟩
  clear h hn hl
  go_enter Try.func21, Try.ntmps21
  go_upto_region 3 with fail
  refine gen_world (fun W2 hW2 => ?_)
  have hB2 : Below w.heap.size w W2 := by rw [hW2]; with_reducible exact below_alloc (below_alloc (Below.refl _ _) _) _
  have hx2 : W2.heap[w.heap.size]? = some (.cells #[.int .i64 x] 3 (0, 0)) := by rw [hW2]; exact (heap_alloc_old _ _ (by simp)).trans (heap_alloc_new _ _)
  have hy2 : W2.heap[w.heap.size + 1]? = some (.cells #[.int .i64 y] 3 (0, 0)) := by rw [hW2]; exact (congrArg _ (by simp)).trans (heap_alloc_new _ _)
  obtain ⟨g4, hg4⟩ : ∃ g, g = w.heap.size := ⟨_, rfl⟩
  obtain ⟨g5, hg5⟩ : ∃ g, g = w.heap.size + 1 := ⟨_, rfl⟩
  rw [← hg5] at hy2 ⊢
  rw [← hg4] at hx2 ⊢
  have HG45 : Aside0 (w.heap.size ≤ g4 ∧ w.heap.size ≤ g5) := ⟨by omega⟩
  have c2 := pw_cell_below hB2 hc
  have HH2 := Aside0.mk (HH.out.below hB2)
  have HX2 : Aside0 (W2.cell? ⟨g4, 0, none⟩ = some (.int .i64 x)) := ⟨blk_cell hx2 0⟩
  have HY2 : Aside0 (W2.cell? ⟨g5, 0, none⟩ = some (.int .i64 y)) := ⟨blk_cell hy2 0⟩
  have HB2 := Aside0.mk hB2
  have hz2 := blk_frozen (HH.out.below hB2).hd 1
  clear hW2 hB2 hx2 hy2 hg4 hg5 hc
  go_upto_region 5 with (first
    | (go_at_call 38; go_must (refine (delf_calls base n A c ps x y g4 g5 _ HH2.out.row HN.out HL.out HX2.out HY2.out (fun k hk => by have h1 := HVB.out k hk; have h2 := HG45.out; exact ⟨(by omega), (by omega)⟩)).mono ?_; rintro e w20 ⟨A', c', rfl, h1, h2, h3⟩; have HR20 := Aside0.mk h1; have HF20 := Aside0.mk h2; have HO20 := Aside0.mk h3; have hd20 := h2.blk HH2.out.hd (fun e => HH2.out.ne g e rfl); have HD20 := Aside0.mk hd20; have q20 := blk_cell hd20 1; have z20 := blk_frozen hd20 1; clear h1 h2 h3 hd20)))
  obtain ⟨fs, hfs⟩ : ∃ fs, ps.filter (kpP x y) = fs := ⟨_, rfl⟩
  have HFS := Aside0.mk hfs
  have HLE : Aside0 (fs.length ≤ n) := ⟨by rw [← hfs, ← HN.out]; exact List.length_filter_le _ _⟩
  rw [hfs] at HR20 HO20 ⊢
  clear hfs
  obtain ⟨m, hm⟩ : ∃ m, fs.length = m := ⟨_, rfl⟩
  have HM := Aside0.mk hm
  rw [hm] at HR20 HO20 HLE ⊢
  clear hm
  refine gen_world (fun W6 hW6 => ?_)
  have hF6 : Fr w20 W6 (fun k => k = g) := by rw [hW6]; exact Fr.set (Fr.refl _ (fun k => k = g)) (.inl rfl) _ _
  have HP6 : Aside0 (BufW W6 base g most (.slice A' m c') fs) := ⟨⟨by
    rw [hW6]
    have := blk_set HD20.out 1 (.slice A' m c')
    rw [setIfInBounds_twice] at this
    exact this, HH.out.lt, HH.out.ht, HR20.out.fr hF6 (fun k hk e => by
      obtain ⟨cs', hc⟩ := HR20.out.typed k hk
      rw [e, HD20.out] at hc
      injection hc with hc
      injection hc with _ hc
      exact HH.out.ht.2 hc) (fun p hp k hk e => Own.typed (HR20.out.bod p hp) HD20.out HH.out.ht.1 k hk e), HH.out.bs⟩⟩
  have HF6 : Aside0 (Fr w W6 (SP g (.slice A n c))) := ⟨(((Fr.ofBelow (SP g (.slice A n c)) HB2.out).trans HF20.out (fun k _ hk => .inr hk))).trans hF6 (fun k _ hk => .inl hk)⟩
  clear hW6 hF6 q20 z20 c2 hz2
  have hk : (-1000000 : Int) ≤ (n : Int) - m ∧ (n : Int) - m ≤ 1000000 := by have := HL.out; have := HLE.out; omega
  have hw1 := iw (x := (n : Int) - m) rfl hk
  have hw2 := w64 (x := (n : Int) - m) rfl hk
  clear hk
  go_wp2_with (first
    | (go_at_call 40; go_must (refine (hinit_calls base g 1 59 m A' c' #[.int .i64 most, .slice none 0 0] fs _ HP6.out HM.out (Nat.le_trans HLE.out HL.out)).mono ?_; rintro e w27 ⟨rfl, qs, h1, h2, h3, h4⟩; have HP27 := Aside0.mk h1; have HPM := Aside0.mk h2; have HH27 := Aside0.mk h3; have HF27 := Aside0.mk h4; have c27 := Pile.cell h1; clear h1 h2 h3 h4)))
  go_ret
  have hql : qs.length = m := HPM.out.length_eq.trans HM.out
  refine ⟨A', c', qs, ?_, ?_, by rw [HFS.out]; exact HPM.out, by rw [hql]; exact HH27.out, HF6.out.trans HF27.out (fun k _ hk => ?_), ?_⟩
  · rw [hql, HN.out]
    rfl
  · rw [hql]
    exact HP27.out
  · rcases hk with hk | hk
    · exact .inl hk
    · exact .inr (HO20.out k hk)
  · rw [hql]
    exact HO20.out
/-- What Drop leaves of a list. -/
def BDropP (w : World) (base g : Nat) (most : Int) (v : Value) (L : List En) (x y : Int) (e : Ending) (W : World) : Prop :=
  ∃ (v' : Value), e = .returned (.int .i64 ((L.length : Int) - (L.filter (fun e => !(delE x y e))).length)) ∧ Buf W base g most v' (L.filter (fun e => !(delE x y e))) ∧ Fr w W (SP g v) ∧ (∀ k, v'.ownBlock = some k → v.ownBlock = some k)
theorem bdrop (base g : Nat) (most : Int) (v : Value) (L : List En) (x y : Int) (w : World) (h : Buf w base g most v L) :
    Calls Try.prog 21 #[.pointer (some ⟨g, 0, none⟩), .int .i64 x, .int .i64 y] w fun e w' => BDropP w base g most v L x y e w' := by
  obtain ⟨ps, A, c, rfl, h2, h3, h4, h5, h6, h7, h8⟩ := h
  have hlen : ps.length = L.length := by simpa using h4.length_eq
  refine (drop_calls base g _ most A c ps x y w h2 rfl (by omega)).mono ?_
  rintro e w' ⟨A', c', qs, rfl, i1, i2, i3, i4, i5⟩
  have hmf : (ps.filter (kpP x y)).map (fun p => p.e) = (ps.map (fun p => p.e)).filter (fun e => !(delE x y e)) := by rw [List.filter_map]; rfl
  have hpm : (qs.map (fun p => p.e)).Perm (L.filter (fun e => !(delE x y e))) := by
    refine (i2.map (fun p : EP => p.e)).trans ?_
    rw [hmf]
    exact h4.filter _
  have hql : qs.length = (L.filter (fun e => !(delE x y e))).length := by simpa using hpm.length_eq
  have hsub := List.filter_sublist (p := fun e => !(delE x y e)) (l := L)
  have hle := hsub.length_le
  refine ⟨_, by rw [hlen, hql], ⟨qs, A', c', rfl, i1, i3, hpm, (hsub.map keyE).nodup h5, fun e he => h6 e (hsub.subset he), by omega, by omega⟩, i4, i5⟩
end Go.Proofs.Ytekhpogigndlkaa.K

/- A buffer as a list: First, Take; two buffers; rows of entries whose bytes are the caller's. The law BufferOnce. A slice of whole numbers that came in. -/
import Derived.Test.YtekhpogigndlkaaMH
import Derived.Test.YtekhpogigndlkaaMG
namespace Go.Proofs.Ytekhpogigndlkaa.K
open Go.RowKit Go.Proofs.YtekhpogigndlkaaW.PrintWords Go.Proofs.YtekhpogigndlkaaW.PrintLast Go.Proofs.YtekhpogigndlkaaW.PrintMore
set_option linter.unusedVariables false
set_option linter.unusedSimpArgs false

/-- What First leaves. -/
def BFirstP (w : World) (base : Nat) (L : List En) (e : Ending) (W : World) : Prop :=
  ∃ q : EP, e = .returned (.tuple #[enV q, .bool true]) ∧ q.e ∈ L ∧ (∀ x ∈ L, ¬ ltK (keyE x) (keyE q.e)) ∧ Own W base q.b q.e.f5 ∧ Below w.heap.size w W
theorem bfirst (base g : Nat) (most : Int) (v : Value) (L : List En) (w : World) (h : Buf w base g most v L) (hL : L ≠ []) :
    Calls Try.prog 14 #[.pointer (some ⟨g, 0, none⟩)] w fun e w' => BFirstP w base L e w' := by
  obtain ⟨ps, A, c, rfl, h2, h3, h4, h5, h6, h7, h8⟩ := h
  have hlen : ps.length = L.length := by simpa using h4.length_eq
  have hpos : 0 < ps.length := by
    rw [hlen]
    exact List.length_pos_iff.2 hL
  obtain ⟨p, hp⟩ : ∃ p, ps[0]? = some p := ⟨_, List.getElem?_eq_getElem hpos⟩
  have hm : p.e ∈ L := h4.mem_iff.1 (List.mem_map.2 ⟨p, List.mem_of_getElem? hp, rfl⟩)
  have hr := h6 p.e hm
  simp only [rightE, decide_eq_true_eq] at hr
  have hl := hr.2.2.2.2.2.2.2.2.2
  refine (first_some base g _ c most A ps p w h2 rfl hp (by omega) (Nat.le_of_lt (Nat.lt_of_le_of_lt h2.bs (blk_lt h2.hd)))).mono ?_
  rintro e w' ⟨q, rfl, hq, ho, hb⟩
  refine ⟨q, rfl, by rw [hq]; exact hm, fun x hx => ?_, ho, hb⟩
  obtain ⟨x', hx', rfl⟩ := List.mem_map.1 (h4.mem_iff.2 hx)
  rw [hq]
  exact ky_min h3 rfl hp hx'
theorem bfirst_none (base g : Nat) (most : Int) (v : Value) (w : World) (h : Buf w base g most v []) :
    Calls Try.prog 14 #[.pointer (some ⟨g, 0, none⟩)] w fun e w' => e = .returned (.tuple #[enV zEP, .bool false]) ∧ Below w.heap.size w w' := by
  obtain ⟨ps, A, c, rfl, h2, h3, h4, h5, h6, h7, h8⟩ := h
  have hlen : ps.length = 0 := by simpa using h4.length_eq
  rw [hlen] at h2
  exact first_none base g c most A ps w h2
/-- What Take takes. -/
def BTakeP (w : World) (base g : Nat) (most : Int) (v : Value) (L : List En) (k : Ky) (e : Ending) (W : World) : Prop :=
  ∃ (f : EP) (M : List En) (v' : Value), e = .returned (.tuple #[enV f, .bool true]) ∧ keyE f.e = k ∧ Buf W base g most v' M ∧ (f.e :: M).Perm L ∧ Own W base f.b f.e.f5 ∧ Fr w W (SP g v) ∧ (∀ k, v'.ownBlock = some k → v.ownBlock = some k)
theorem btake (base g : Nat) (most : Int) (v : Value) (L : List En) (x y : Int) (w : World) (h : Buf w base g most v L) (hy : ∃ e ∈ L, keyE e = (x, y)) :
    Calls Try.prog 15 #[.pointer (some ⟨g, 0, none⟩), .int .i64 x, .int .i64 y] w fun e w' => BTakeP w base g most v L (x, y) e w' := by
  obtain ⟨ps, A, c, rfl, h2, h3, h4, h5, h6, h7, h8⟩ := h
  have hlen : ps.length = L.length := by simpa using h4.length_eq
  obtain ⟨e0, he0, hk0⟩ := hy
  obtain ⟨p0, hp0, rfl⟩ := List.mem_map.1 (h4.mem_iff.2 he0)
  have hne : ps.length ≠ 0 := fun e => by
    rw [List.eq_nil_of_length_eq_zero e] at hp0
    simp at hp0
  obtain ⟨m, hm⟩ : ∃ m, ps.length = m + 1 := ⟨ps.length - 1, by omega⟩
  have hA : ∃ gr, A = some ⟨gr, 0, none⟩ := by
    rcases h2.row.slice with ⟨h1, hq⟩ | ⟨g, cap, cur, h1, _⟩
    · exact absurd (by rw [hq]; rfl) hne
    · injection h1 with h1 _ _
      exact ⟨g, h1⟩
  obtain ⟨gr, rfl⟩ := hA
  rw [hm] at h2 h3
  refine (take_some base g m gr c most ps x y w h2 hm (by omega) ⟨p0, hp0, hk0⟩ h3).mono ?_
  rintro e w' ⟨p, qs, rfl, i1, i2, i3, i4, i5, i6⟩
  have hql : qs.length = m := by
    have := i3.length_eq
    simp only [List.length_cons] at this
    omega
  have hpm : (p.e :: qs.map (fun x => x.e)).Perm L := List.Perm.trans (List.Perm.map (fun x : EP => x.e) i3) h4
  have hnd := (hpm.map keyE).nodup_iff.2 h5
  rw [List.map_cons, List.nodup_cons] at hnd
  refine ⟨p, qs.map (·.e), .slice (some ⟨gr, 0, none⟩) m c, rfl, i1, ⟨qs, _, c, by rw [hql], i2, by rw [hql]; exact i4, List.Perm.refl _, hnd.2, fun e he => h6 e (hpm.mem_iff.1 (List.mem_cons_of_mem _ he)), by simp; omega, by simp; omega⟩, hpm, i5, by rw [hm]; exact i6, fun k hk => hk⟩
theorem btake_none (base g : Nat) (most : Int) (v : Value) (L : List En) (x y : Int) (w : World) (h : Buf w base g most v L) (hno : ∀ e ∈ L, keyE e ≠ (x, y)) :
    Calls Try.prog 15 #[.pointer (some ⟨g, 0, none⟩), .int .i64 x, .int .i64 y] w fun e w' => e = .returned (.tuple #[enV zEP, .bool false]) ∧ Below w.heap.size w w' := by
  obtain ⟨ps, A, c, rfl, h2, h3, h4, h5, h6, h7, h8⟩ := h
  have hlen : ps.length = L.length := by simpa using h4.length_eq
  exact take_none base g _ c most A ps x y w h2 rfl (by omega) (fun p hp => hno p.e (h4.mem_iff.1 (List.mem_map.2 ⟨p, hp, rfl⟩)))
/-- One buffer beside another one's ways. -/
theorem Buf.beside {w W : World} {base gb ga : Nat} {mb ma : Int} {vb va : Value} {Lb La : List En} (h : Buf w base gb mb vb Lb) (ha : Buf w base ga ma va La) (hf : Fr w W (SP ga va)) (hd : ∀ k, SP gb vb k → ¬ SP ga va k) : Buf W base gb mb vb Lb := by
  obtain ⟨ps, A, c, h1, h2, h3⟩ := h
  obtain ⟨qs, A', c', e1, e2, e3⟩ := ha
  refine ⟨ps, A, c, h1, ⟨hf.blk h2.hd (hd gb (.inl rfl)), h2.lt, h2.ht, h2.row.fr hf (fun k hk => hd k (.inr hk)) (fun p hp k hk e => ?_), h2.bs⟩, h3⟩
  rcases e with rfl | e
  · exact Own.typed (h2.row.bod p hp) e2.hd e2.ht.1 k hk rfl
  · obtain ⟨cs', hc⟩ := e2.row.typed k e
    exact Own.typed (h2.row.bod p hp) hc (by decide) k hk rfl
/-- A row of entries, their bytes wherever they are. -/
structure HRow (W : World) (base : Nat) (v : Value) (ps : List EP) : Prop where
  row : W.ownsRow base 33 8 v ps.length (flE ps)
theorem HRow.nil (W : World) (base : Nat) : HRow W base (.slice none 0 0) [] := ⟨own_nil _ _ _ _⟩
theorem HRow.fr {w W : World} {S : Nat → Prop} {base : Nat} {v : Value} {ps : List EP} (h : HRow w base v ps) (hf : Fr w W S) (hv : ∀ k, v.ownBlock = some k → ¬ S k) : HRow W base v ps := ⟨own_move h.row (fun k hk => hf.block k (own_lt h.row k hk) (hv k hk))⟩
theorem HRow.below {w W : World} {base : Nat} {v : Value} {ps : List EP} (h : HRow w base v ps) (hb : Below w.heap.size w W) : HRow W base v ps := h.fr (Fr.ofBelow (fun _ => False) hb) (fun _ _ h => h)
theorem HRow.lt {w : World} {base : Nat} {v : Value} {ps : List EP} (h : HRow w base v ps) (k : Nat) (hk : v.ownBlock = some k) : k < w.heap.size := own_lt h.row k hk
theorem HRow.slice {w : World} {base : Nat} {v : Value} {ps : List EP} (h : HRow w base v ps) : v = .slice none 0 0 ∧ ps = [] ∨ ∃ g cap cur, v = .slice (some ⟨g, 0, none⟩) ps.length cap ∧ base ≤ g ∧ w.heap[g]? = some (.cells cur 33 (0, 0)) ∧ ps.length ≤ cap ∧ cap ≤ maxLen ∧ cur.size = cap * 8 ∧ cur.toList.take (ps.length * 8) = flE ps := by
  rcases h.row.2 with ⟨h1, h2⟩ | ⟨g, cap, cur, h1, h2, h3, h4, h5, h6, h7⟩
  · exact .inl ⟨h1, List.eq_nil_of_length_eq_zero h2⟩
  · exact .inr ⟨g, cap, cur, h1, h2, h3, h4, h5, h6, h7⟩
theorem HRow.form {w : World} {base : Nat} {v : Value} {ps : List EP} (h : HRow w base v ps) : ∃ A c, v = .slice A ps.length c := by
  rcases h.slice with ⟨h1, h2⟩ | ⟨g, cap, cur, h1, _⟩
  · exact ⟨none, 0, by rw [h1, h2]; rfl⟩
  · exact ⟨_, cap, h1⟩
theorem HRow.at {w : World} {base n : Nat} {A : Option Addr} {c : Nat} {ps : List EP} (h : HRow w base (.slice A n c) ps) {i : Nat} {p : EP} (hp : ps[i]? = some p) :
    ∃ gr, A = some ⟨gr, 0, none⟩ ∧ w.cell? ⟨gr, i * 8, none⟩ = some (.int .i64 p.e.f0) ∧ w.cell? ⟨gr, i * 8 + 1, none⟩ = some (.int .i64 p.e.f1) ∧ w.cell? ⟨gr, i * 8 + 2, none⟩ = some (.int .u64 p.e.f2) ∧ w.cell? ⟨gr, i * 8 + 3, none⟩ = some (.int .i64 p.e.f3.f0) ∧ w.cell? ⟨gr, i * 8 + 4, none⟩ = some (.int .i64 p.e.f3.f1) ∧ w.cell? ⟨gr, i * 8 + 5, none⟩ = some (.int .i64 p.e.f4) ∧ w.cell? ⟨gr, i * 8 + 6, none⟩ = some (.slice p.A p.e.f5.length p.c) ∧ w.cell? ⟨gr, i * 8 + 7, none⟩ = some (.int .u64 p.e.f6) := by
  rcases h.slice with ⟨h1, h2⟩ | ⟨g, cap, cur, h1, hbg, hcur, hnc, hcm, hsz, htk⟩
  · subst h2
    simp at hp
  · injection h1 with h1 _ _
    exact ⟨g, h1, cells_at hcur htk hp⟩
/-- append of one entry onto such a row. -/
theorem app_held {ops : Array Oper} {rest : List Oper} {o : Oper} {a : Act} {Q : Exit → Act → World → Prop} {W : World} (base : Nat) (hgd : o.guard = none) (s x : Operand) (t : TypeId)
    (ho : o.op = .call { callee := .builtin .append, args := #[s, x], argTypes := #[t, t] }) (ht : Try.prog.underlying t = some (.slice 33))
    (v : Value) (ps : List EP) (p : EP) (hs : a.eval s = v) (HO : HRow W base v ps) (ad : Addr) (c : Nat) (hx : a.eval x = .slice (some ad) 1 c)
    (hnews : ∀ j u, (enC p)[j]? = some u → W.cell? (ad.add j) = some u) (hbase : base ≤ W.heap.size) (hl : ps.length + 1 ≤ 1000000)
    (h : ∀ v1 w1, HRow w1 base v1 (ps ++ [p]) → Fr W w1 (fun k => v.ownBlock = some k) → (v1.ownBlock = v.ownBlock ∨ v1.ownBlock = some W.heap.size) → wpList Try.prog ops Q rest (a.put o.dst v1) w1) :
    wpList Try.prog ops Q (o :: rest) a W := by
  obtain ⟨i, hi, hzz⟩ := Option.map_eq_some_iff.1 infoEn
  simp only [Prod.mk.injEq] at hzz
  obtain ⟨hz, hs8, hs80⟩ := hzz
  refine wpList_append_own_at W hgd s x t ho base 33 i _ 8 80 ht hi hz hs8 hs80 rfl (by decide) v ps.length (flE ps) hs HO.row ad 1 c (enC p) hx rfl hnews (enC_one p) (by simp only [maxLen]; omega) (by omega) hbase (fun v' w' h1 h2 _ h4 => ?_)
  refine h v' w' ⟨?_⟩ (grown_fr h2) h4
  rw [List.length_append, flE_append]
  simpa [flE] using h1
end Go.Proofs.Ytekhpogigndlkaa.K

namespace Go.Proofs.Ytekhpogigndlkaa.K
open Go.RowKit Go.Proofs.YtekhpogigndlkaaW.PrintWords Go.Proofs.YtekhpogigndlkaaW.PrintLast Go.Proofs.YtekhpogigndlkaaW.PrintMore
set_option linter.unusedVariables false
set_option linter.unusedSimpArgs false

/-- A slice of whole numbers. -/
def IRd (W : World) (v : Value) (l : List Int) : Prop := ∃ A c, v = .slice A l.length c ∧ ∀ (i : Nat) (x : Int), l[i]? = some x → ∃ ad, A = some ad ∧ W.cell? (ad.add i) = some (.int .i64 x)
/-- Two buffers and what was held. -/
structure St (w0 W : World) (ga gb : Nat) (va vb vh : Value) (La Lb : List En) (hs : List EP) : Prop where
  a : Buf W w0.heap.size ga 16 va La
  b : Buf W w0.heap.size gb 16 vb Lb
  h : HRow W w0.heap.size vh hs
  r : ∀ p ∈ hs, Rd w0 p.b p.e.f5
  ab : ∀ k, SP gb vb k → ¬ SP ga va k
  ha : ∀ k, vh.ownBlock = some k → ¬ SP ga va k
  hb : ∀ k, vh.ownBlock = some k → ¬ SP gb vb k
  bel : Below w0.heap.size w0 W
section
variable {w0 w W : World} {ga gb : Nat} {va vb vh : Value} {La Lb : List En} {hs : List EP}
theorem St.below (s : St w0 w ga gb va vb vh La Lb hs) (hb : Below w.heap.size w W) : St w0 W ga gb va vb vh La Lb hs :=
  ⟨s.a.below hb, s.b.below hb, s.h.below hb, s.r, s.ab, s.ha, s.hb, s.bel.trans (hb.mono s.bel.size)⟩
theorem St.holdA (s : St w0 w ga gb va vb vh La Lb hs) {va' : Value} {La' : List En} (h1 : Buf W w0.heap.size ga 16 va' La') (h2 : Fr w W (SP ga va)) (h3 : ∀ k, va'.ownBlock = some k → va.ownBlock = some k ∨ w.heap.size ≤ k) : St w0 W ga gb va' vb vh La' Lb hs := by
  have key : ∀ k, k < w.heap.size → ¬ SP ga va k → ¬ SP ga va' k := fun k hk hn e => by
    rcases e with e | e
    · exact hn (.inl e)
    · rcases h3 k e with e | e
      · exact hn (.inr e)
      · omega
  exact ⟨h1, s.b.beside s.a h2 s.ab, s.h.fr h2 s.ha, s.r, fun k hk => key k (s.b.lt k hk) (s.ab k hk), fun k hk => key k (s.h.lt k hk) (s.ha k hk), s.hb, s.a.step h2 s.bel⟩
theorem St.holdB (s : St w0 w ga gb va vb vh La Lb hs) {vb' : Value} {Lb' : List En} (h1 : Buf W w0.heap.size gb 16 vb' Lb') (h2 : Fr w W (SP gb vb)) (h3 : ∀ k, vb'.ownBlock = some k → vb.ownBlock = some k ∨ w.heap.size ≤ k) : St w0 W ga gb va vb' vh La Lb' hs := by
  have key : ∀ k, k < w.heap.size → ¬ SP gb vb k → ¬ SP gb vb' k := fun k hk hn e => by
    rcases e with e | e
    · exact hn (.inl e)
    · rcases h3 k e with e | e
      · exact hn (.inr e)
      · omega
  have ba : ∀ k, SP ga va k → ¬ SP gb vb k := fun k hk e => s.ab k e hk
  exact ⟨s.a.beside s.b h2 ba, h1, s.h.fr h2 s.hb, s.r, fun k hk e => key k (s.a.lt k e) (ba k e) hk, s.ha, fun k hk => key k (s.h.lt k hk) (s.hb k hk), s.b.step h2 s.bel⟩
theorem Buf.held {w W : World} {g : Nat} {most : Int} {v u : Value} {L : List En} {os : List EP} (h : Buf w w0.heap.size g most v L) (ho : HRow w w0.heap.size u os) (hf : Fr w W (fun k => u.ownBlock = some k)) (hd : ∀ k, u.ownBlock = some k → ¬ SP g v k) : Buf W w0.heap.size g most v L := by
  obtain ⟨ps, A, c, h1, h2, h3⟩ := h
  refine ⟨ps, A, c, h1, ⟨hf.blk h2.hd (fun e => hd g e (.inl rfl)), h2.lt, h2.ht, h2.row.fr hf (fun k hk e => hd k e (.inr hk)) (fun p hp k hk e => ?_), h2.bs⟩, h3⟩
  obtain ⟨cs', hc⟩ := own_typed ho.row k e
  exact Own.typed (h2.row.bod p hp) hc (by decide) k hk rfl
theorem HRow.up {v : Value} (h : HRow w w0.heap.size v hs) : ∀ k, v.ownBlock = some k → w0.heap.size ≤ k := by
  intro k hk
  rcases h.slice with ⟨h1, _⟩ | ⟨g, cap, cur, h1, h2, _⟩
  · rw [h1] at hk
    simp [Value.ownBlock] at hk
  · rw [h1] at hk
    have hk : g = k := Option.some.inj hk
    omega
/-- The row is changed. -/
theorem St.held (s : St w0 w ga gb va vb vh La Lb hs) {vh' : Value} {hs' : List EP} (h1 : HRow W w0.heap.size vh' hs') (h2 : Fr w W (fun k => vh.ownBlock = some k)) (h3 : ∀ k, vh'.ownBlock = some k → vh.ownBlock = some k ∨ w.heap.size ≤ k) (hr : ∀ p ∈ hs', Rd w0 p.b p.e.f5) : St w0 W ga gb va vb vh' La Lb hs' :=
  ⟨s.a.held s.h h2 s.ha, s.b.held s.h h2 s.hb, h1, hr, s.ab, fun k hk e => by
    rcases h3 k hk with h | h
    · exact s.ha k h e
    · have := s.a.lt k e; omega, fun k hk e => by
    rcases h3 k hk with h | h
    · exact s.hb k h e
    · have := s.b.lt k e; omega, h2.below s.bel (fun k hk => s.h.up k hk)⟩
end
theorem hat_or {u' u : Value} {n : Nat} (h : u'.ownBlock = u.ownBlock ∨ u'.ownBlock = some n) : ∀ k, u'.ownBlock = some k → u.ownBlock = some k ∨ n ≤ k := by
  intro k hk
  rcases h with h | h
  · rw [h] at hk
    exact .inl hk
  · rw [h] at hk
    exact .inr (Nat.le_of_eq (Option.some.inj hk))
theorem rd_snoc {w : World} {hs : List EP} {p : EP} (h : ∀ q ∈ hs, Rd w q.b q.e.f5) (hp : Rd w p.b p.e.f5) : ∀ q ∈ hs ++ [p], Rd w q.b q.e.f5 := by
  intro q hq
  rcases List.mem_append.1 hq with hq | hq
  · exact h q hq
  · rw [List.mem_singleton.1 hq]
    exact hp
theorem HRow.swap {w W : World} {gr cap base k : Nat} {hs : List EP} {p0 pk : EP} {cur : Array Value} (h : HRow w base (.slice (some ⟨gr, 0, none⟩) hs.length cap) hs) (h0 : hs[0]? = some p0) (hk : hs[k]? = some pk)
    (hbg : base ≤ gr) (hnc : hs.length ≤ cap) (hcm : cap ≤ maxLen) (hsz : cur.size = cap * 8) (htk : cur.toList.take (hs.length * 8) = flE hs)
    (hb : W.heap[gr]? = some (.cells (setA (setA cur 0 (enC pk)) (k * 8) (enC p0)) 33 (0, 0))) : HRow W base (.slice (some ⟨gr, 0, none⟩) hs.length cap) (swapP hs 0 k p0 pk) := by
  have hil := (List.getElem?_eq_some_iff.1 h0).1
  have hjl := (List.getElem?_eq_some_iff.1 hk).1
  have h1 := take_set htk (by omega) 0 hil pk
  rw [Nat.zero_mul] at h1
  have h2 := take_set h1 (by rw [setA_size, List.length_set]; omega) k (by rw [List.length_set]; exact hjl) p0
  refine ⟨⟨by rw [flE_length], .inr ⟨gr, cap, _, ?_, hbg, hb, by rw [swapP_length]; exact hnc, hcm, by rw [setA_size, setA_size]; exact hsz, h2⟩⟩⟩
  rw [swapP_length]
theorem tmod_k (a : Int) (n : Nat) (hn : 0 < n) (h16 : n ≤ 16) : -16 ≤ a.tmod n ∧ a.tmod n ≤ 16 ∧ -1000000 ≤ a.tmod n + n ∧ a.tmod n + n ≤ 1000000 ∧ ∃ k : Nat, k < n ∧ (a.tmod n + n).tmod n = (k : Int) := by
  have h1 : a.tmod n < n := Int.tmod_lt_of_pos a (by omega)
  have h2 : -(n : Int) < a.tmod n := by
    have := Int.lt_tmod_of_pos a (show (0 : Int) < n by omega)
    exact this
  have h3 : 0 ≤ a.tmod n + n := by omega
  refine ⟨by omega, by omega, by omega, by omega, ((a.tmod n + n).tmod n).toNat, ?_, ?_⟩
  · have h4 := Int.tmod_lt_of_pos (a.tmod n + n) (show (0 : Int) < n by omega)
    have h5 := Int.tmod_nonneg (n : Int) h3
    omega
  · have h5 := Int.tmod_nonneg (n : Int) h3
    omega
theorem take_map_succ {hs : List EP} {j : Nat} {p : EP} (hp : hs[j]? = some p) : (hs.take (j + 1)).map (·.e) = (hs.take j).map (·.e) ++ [p.e] := by
  obtain ⟨hj, rfl⟩ := List.getElem?_eq_some_iff.1 hp
  rw [List.take_succ_eq_append_getElem hj, List.map_append, List.map_singleton]
theorem take_keys {hs : List EP} {j : Nat} {p : EP} (hn : ((hs.map (·.e)).map keyE).Nodup) (hp : hs[j]? = some p) : ∀ q ∈ (hs.take j).map (·.e), keyE q ≠ keyE p.e := by
  intro q hq e
  obtain ⟨q', hq', rfl⟩ := List.mem_map.1 hq
  obtain ⟨i, hi, rfl⟩ := List.mem_iff_getElem.1 hq'
  rw [List.length_take] at hi
  obtain ⟨hj, rfl⟩ := List.getElem?_eq_some_iff.1 hp
  rw [List.getElem_take] at e
  have := (List.pairwise_iff_getElem.1 hn) i j (by simp; omega) (by simp; exact hj) (by omega)
  simp only [List.getElem_map] at this
  exact this e
theorem fsame_calls (p q : EP) (w : World) (he : p.e = q.e) (hp : Rd w p.b p.e.f5) (hq : Rd w q.b q.e.f5) (hl : p.e.f5.length ≤ 1100) :
    Calls Try.prog 16 #[.agg #[.int .i64 p.e.f0, .int .i64 p.e.f1, .int .u64 p.e.f2, .int .i64 p.e.f3.f0, .int .i64 p.e.f3.f1, .int .i64 p.e.f4, .slice p.A p.e.f5.length p.c, .int .u64 p.e.f6], .agg #[.int .i64 q.e.f0, .int .i64 q.e.f1, .int .u64 q.e.f2, .int .i64 q.e.f3.f0, .int .i64 q.e.f3.f1, .int .i64 q.e.f4, .slice q.A q.e.f5.length q.c, .int .u64 q.e.f6]] w fun e w' => e = .returned (.bool true) ∧ Below w.heap.size w w' := by
  obtain ⟨A, c, hv, hc, hC⟩ := hp
  injection hv with h1 h2 h3
  subst h1 h3
  obtain ⟨A, c, hv, hc', hC'⟩ := hq
  injection hv with h1 h2 h3
  subst h1 h3
  have hf : X.cachetteref06_Same.f 2000 p.e.f0 p.e.f1 p.e.f2 p.e.f3.f0 p.e.f3.f1 p.e.f4 p.e.f5 p.e.f6 q.e.f0 q.e.f1 q.e.f2 q.e.f3.f0 q.e.f3.f1 q.e.f4 q.e.f5 q.e.f6 = some true := by
    rw [← he]
    exact esame_refl p.e (by omega) 2000 (by omega)
  exact X.cachetteref06_Same.calls 2000 p.e.f0 p.e.f1 p.e.f2 p.e.f3.f0 p.e.f3.f1 p.e.f4 p.A p.c p.e.f5 p.e.f6 q.e.f0 q.e.f1 q.e.f2 q.e.f3.f0 q.e.f3.f1 q.e.f4 q.A q.c q.e.f5 q.e.f6 true w hC hc hC' hc' hf
theorem one_key {L M : List En} {q f : En} (hn : (L.map keyE).Nodup) (hp : (f :: M).Perm L) (hq : q ∈ L) (hk : keyE f = keyE q) : f = q ∧ ∀ e ∈ M, keyE e ≠ keyE q := by
  have hn' := (hp.map keyE).nodup_iff.2 hn
  rw [List.map_cons, List.nodup_cons] at hn'
  have h2 : ∀ e ∈ M, keyE e ≠ keyE q := fun e he h => hn'.1 (by rw [hk, ← h]; exact List.mem_map.2 ⟨e, he, rfl⟩)
  refine ⟨?_, h2⟩
  rcases List.mem_cons.1 (hp.mem_iff.2 hq) with h | h
  · exact h.symm
  · exact absurd rfl (h2 q h)
/-- An entry that came in: its cells, for good. -/
theorem ent_in {W : World} {A : Option Addr} {l : List En} (h : Kd.C X.k33 W A l.length l) {i : Nat} (hi : i < l.length) : ∃ (ad : Addr) (p : EP), A = some ad ∧ Rd W p.b p.e.f5 ∧ W.cell? (ad.add (i * 8)) = some (.int .i64 p.e.f0) ∧ W.cell? ⟨(ad.add (i * 8)).block, (ad.add (i * 8)).off + 1, none⟩ = some (.int .i64 p.e.f1) ∧ W.cell? ⟨(ad.add (i * 8)).block, (ad.add (i * 8)).off + 2, none⟩ = some (.int .u64 p.e.f2) ∧ W.cell? ⟨(ad.add (i * 8)).block, (ad.add (i * 8)).off + 3, none⟩ = some (.int .i64 p.e.f3.f0) ∧ W.cell? ⟨(ad.add (i * 8)).block, (ad.add (i * 8)).off + 4, none⟩ = some (.int .i64 p.e.f3.f1) ∧ W.cell? ⟨(ad.add (i * 8)).block, (ad.add (i * 8)).off + 5, none⟩ = some (.int .i64 p.e.f4) ∧ W.cell? ⟨(ad.add (i * 8)).block, (ad.add (i * 8)).off + 6, none⟩ = some (.slice p.A p.e.f5.length p.c) ∧ W.cell? ⟨(ad.add (i * 8)).block, (ad.add (i * 8)).off + 7, none⟩ = some (.int .u64 p.e.f6) := by
  obtain ⟨ad, p, h1, _, h2, h3⟩ := ent_at h hi
  exact ⟨ad, p, h1, h2, h3⟩
theorem own_sp {w : World} {base g : Nat} {most : Int} {v b : Value} {L : List En} {l : List Int} (h : Buf w base g most v L) (ho : Own w base b l) (k : Nat) (hk : b.ownBlock = some k) (e : SP g v k) : False := by
  obtain ⟨ps, A, c, h1, h2, _⟩ := h
  rcases e with rfl | e
  · exact Own.typed ho h2.hd h2.ht.1 k hk rfl
  · obtain ⟨cs', hc⟩ := h2.row.typed k e
    exact Own.typed ho hc (by decide) k hk rfl
theorem hold_new {L : List En} {e : En} (h : holdK 16 L e = 0) : holdL 16 L e = L ++ [e] := by rw [holdL, if_pos h]
theorem hold_stay {L : List En} {e : En} (h : ¬ holdK 16 L e = 0) : holdL 16 L e = L := by rw [holdL, if_neg h]
theorem hold_zero {L : List En} {e : En} (hr : rightE e = true) (hno : ∀ q ∈ L, keyE q ≠ keyE e) (hl : L.length < 16) : holdK 16 L e = 0 := by
  rw [holdK, if_pos hr, fnd_none.2 hno]
  simp only
  rw [if_neg (by omega)]
set_option maxRecDepth 100000 in
set_option maxHeartbeats 16000000 in
theorem once_walk (v : Value) (l : List En) (v2 : Value) (tn : List Int) (w : World) (hv : ERd w v l) (hbb : ∀ e ∈ l, ∀ x ∈ e.f5, 0 ≤ x ∧ x ≤ 255) (hv2 : IRd w v2 tn) (_h : True) :
    Calls Try.prog 4 #[v, v2] w fun e w' => e = .returned (.bool true) ∧ Below w.heap.size w w' := by
  obtain ⟨A, c, rfl, hc, hC⟩ := hv
  obtain ⟨At, ct, rfl, hT⟩ := hv2
  have HC := Aside0.mk hC
  have HT := Aside0.mk hT
  have HW := Aside0.mk (Below.refl w.heap.size w)
  clear hC hc hbb hT _h
  by_cases h16 : (16 : Int) < l.length
  · go_enter Try.func4, Try.ntmps4
    go_wp2_with (first | (go_at_call 7; go_must (refine (alive_calls _).mono ?_; rintro e wz ⟨rfl, hb⟩; have HBZ := Aside0.mk (HW.out.trans (hb.mono HW.out.size)); clear hb)))
    go_ret
    exact ⟨rfl, HBZ.out⟩
  by_cases h40 : (40 : Int) < tn.length
  · go_enter Try.func4, Try.ntmps4
    go_wp2_with (first | (go_at_call 7; go_must (refine (alive_calls _).mono ?_; rintro e wz ⟨rfl, hb⟩; have HBZ := Aside0.mk (HW.out.trans (hb.mono HW.out.size)); clear hb)))
    go_ret
    exact ⟨rfl, HBZ.out⟩
  have HL16 : Aside0 (l.length ≤ 16 ∧ tn.length ≤ 40) := ⟨by omega⟩
  have HTA : Aside0 (∀ q : EP, enV q = .agg #[.int .i64 q.e.f0, .int .i64 q.e.f1, .int .u64 q.e.f2, .int .i64 q.e.f3.f0, .int .i64 q.e.f3.f1, .int .i64 q.e.f4, .slice q.A q.e.f5.length q.c, .int .u64 q.e.f6]) := ⟨fun _ => rfl⟩
  go_enter Try.func4, Try.ntmps4
  go_wp2_with (first
    | (go_at_call 8; go_must (first
      | (refine (bnew w.heap.size 16 _ (by decide) (by decide) HW1.out.size).mono ?_; rintro e w2 ⟨gb, rfl, h1, h2, h3⟩; have HB2 := Aside0.mk h1; have HA2 := Aside0.mk (HA1.out.below h3); have HW2 := Aside0.mk (HW1.out.trans (h3.mono HW1.out.size)); have HGG : Aside0 (ga ≠ gb) := ⟨(by have := HA1.out.lt ga (.inl rfl); omega)⟩; clear h1 h2 h3)
      | (refine (bnew w.heap.size 16 _ (by decide) (by decide) (Nat.le_refl _)).mono ?_; rintro e w1 ⟨ga, rfl, h1, -, h2⟩; have HA1 := Aside0.mk h1; have HW1 := Aside0.mk h2; clear h1 h2))))
  have HS0 : Aside0 (St w w2 ga gb (.slice none 0 0) (.slice none 0 0) (.slice none 0 0) [] [] []) := ⟨HA2.out, HB2.out, HRow.nil _ _, fun p hp => by simp at hp, fun k h1 h2 => by
    rcases h1 with h1 | h1
    · rcases h2 with h2 | h2
      · exact HGG.out (h2.symm.trans h1)
      · simp [Value.ownBlock] at h2
    · simp [Value.ownBlock] at h1, fun k hk => by simp [Value.ownBlock] at hk, fun k hk => by simp [Value.ownBlock] at hk, HW2.out⟩
  clear HA2 HB2 HA1 HW1 HW2
  go_loopg [9, 10] l.length (fun gg v9 v10 wr => ∃ (j : Nat) (va : Value) (Ah : Option Addr) (ch : Nat) (hs : List EP), gg = l.length - j ∧ v9 = .slice Ah hs.length ch ∧ v10 = .int .i64 j ∧ j ≤ l.length ∧ Aside0 (St w wr ga gb va (.slice none 0 0) v9 (hs.map (·.e)) [] hs))
  case atStart => exact ⟨0, _, none, 0, [], rfl, rfl, rfl, Nat.zero_le _, HS0⟩
  case round =>
    clear HS0
    obtain ⟨j, va, Ah, ch, hs, hg, rfl, rfl, hj, HS⟩ := hrel
    have HG := Aside0.mk hg
    clear hg
    by_cases hjl : j < l.length
    · obtain ⟨ad, p, rfl, hrd, y0, y1, y2, y3, y4, y5, y6, y7⟩ := ent_in HC.out hjl
      have HRD := Aside0.mk hrd
      have HYY := Aside0.mk (And.intro y0 (And.intro y1 (And.intro y2 (And.intro y3 (And.intro y4 (And.intro y5 (And.intro y6 y7)))))))
      have x6 := pw_cell_below HS.out.bel y6
      have hlt : (j : Int) < l.length := by omega
      have h0 : (0 : Int) ≤ j := by omega
      have hk : (-1000000 : Int) ≤ (j : Int) + 1 ∧ (j : Int) + 1 ≤ 1000000 := by have := HL16.out; omega
      have hw1 := iw (x := (j : Int) + 1) rfl hk
      have hw2 := w64 (x := (j : Int) + 1) rfl hk
      have HJL := Aside0.mk hjl
      clear hrd hk hj hjl
      by_cases hbig : (1200 : Int) < p.e.f5.length
      · have HWr := Aside0.mk HS.out.bel
        clear y0 y1 y2 y3 y4 y5 y6 y7
        go_wp2_with (first | (go_at_call 7; go_must (refine (alive_calls _).mono ?_; rintro e wz ⟨rfl, hb⟩; have HBZ := Aside0.mk (HWr.out.trans (hb.mono HWr.out.size)); clear hb)))
        go_ret
        exact ⟨rfl, HBZ.out⟩
      · have x0 := pw_cell_below HS.out.bel y0
        have x1 := pw_cell_below HS.out.bel y1
        have x2 := pw_cell_below HS.out.bel y2
        have x3 := pw_cell_below HS.out.bel y3
        have x4 := pw_cell_below HS.out.bel y4
        have x5 := pw_cell_below HS.out.bel y5
        have x7 := pw_cell_below HS.out.bel y7
        clear y0 y1 y2 y3 y4 y5 y6 y7
        obtain ⟨K, hK⟩ : ∃ K, holdK 16 (hs.map (·.e)) p.e = K := ⟨_, rfl⟩
        have HK := Aside0.mk hK
        by_cases k0 : K = 0
        · subst k0
          go_wp2_with (first
            | (go_at_call 9; go_must (refine (bhold w.heap.size ga 16 va _ p _ HS.out.a (HRD.out.below HS.out.bel) (by decide)).mono ?_; rw [HK.out]; rintro e w44 ⟨rfl, v44, h1, h2, h3, -⟩; rw [hold_new HK.out] at h1; have HS44 := Aside0.mk (HS.out.holdA h1 h2 h3); clear h1 h2 h3; obtain ⟨y0, y1, y2, y3, y4, y5, y6, y7⟩ := HYY.out; have x0 := pw_cell_below HS44.out.bel y0; have x1 := pw_cell_below HS44.out.bel y1; have x2 := pw_cell_below HS44.out.bel y2; have x3 := pw_cell_below HS44.out.bel y3; have x4 := pw_cell_below HS44.out.bel y4; have x5 := pw_cell_below HS44.out.bel y5; have x6 := pw_cell_below HS44.out.bel y6; have x7 := pw_cell_below HS44.out.bel y7; clear y0 y1 y2 y3 y4 y5 y6 y7))
            | ((with_reducible refine gate_builtin (b := .append) (xs := #[.tmp 66, .tmp 71]) rfl ?_); at_builtin; go_must (refine app_held w.heap.size rfl (.tmp 66) (.tmp 71) 22 rfl Try.underlying22 (.slice Ah hs.length ch) hs p rfl ?ho0 ⟨w44.heap.size, 0, none⟩ 1 rfl ?hnw ?hbs ?hlt ?_; (case ho0 => exact HS44.out.h.below (below_alloc (Below.refl _ _) _)); (case hnw => exact fun j u hu => World.news_of_block (heap_alloc_new _ _) j u (by simpa [enC] using hu)); (case hbs => (have := HS44.out.bel.size; simp; omega)); (case hlt => (have h1 := HS44.out.a.len.1; simp only [List.length_append, List.length_map] at h1; omega)); intro v72 w72 hp hf hat; have HS72 := Aside0.mk ((HS44.out.below (below_alloc (Below.refl _ _) _)).held (W := w72) hp hf (hat_or hat) (rd_snoc HS44.out.r HRD.out)); obtain ⟨A72, c72, rfl⟩ := hp.form; clear hp hf hat)))
          clear hw1 hw2
          have HS73 : Aside0 (St w w72 ga gb v44 (.slice none 0 0) (.slice A72 (hs.length + 1) c72) ((hs ++ [p]).map (·.e)) [] (hs ++ [p])) := ⟨by have h := HS72.out; simpa using h⟩
          go_roundg (l.length - (j + 1))
          case measure => rw [HG.out]; have := HJL.out; omega
          case rel => exact ⟨j + 1, v44, A72, c72, hs ++ [p], rfl, by simp, by simp, by have := HJL.out; omega, HS73⟩
        · go_wp2_with (first
            | (go_at_call 9; go_must (refine (bhold w.heap.size ga 16 va _ p _ HS.out.a (HRD.out.below HS.out.bel) (by decide)).mono ?_; rw [HK.out]; rintro e w44 ⟨rfl, v44, h1, h2, h3, -⟩; rw [hold_stay (by rw [HK.out]; exact k0)] at h1; have HS44 := Aside0.mk (HS.out.holdA h1 h2 h3); clear h1 h2 h3)))
          clear hw1 hw2
          go_roundg (l.length - (j + 1))
          case measure => rw [HG.out]; have := HJL.out; omega
          case rel => exact ⟨j + 1, v44, Ah, ch, hs, rfl, rfl, by simp, by have := HJL.out; omega, HS44⟩
    · have hlt : ¬ (j : Int) < l.length := by omega
      have HN16 : Aside0 (hs.length ≤ 16) := ⟨by have h := HS.out.a.len.2; simp only [List.length_map] at h; omega⟩
      clear HG hj hjl
      go_wp2
      go_loopg [11] tn.length (fun gg v11 wr2 => ∃ (j : Nat) (ks : List EP), gg = tn.length - j ∧ v11 = .int .i64 j ∧ j ≤ tn.length ∧ Aside0 (ks.Perm hs) ∧ Aside0 (St w wr2 ga gb va (.slice none 0 0) (.slice Ah hs.length ch) (hs.map (·.e)) [] ks))
      case atStart => exact ⟨0, hs, rfl, rfl, Nat.zero_le _, ⟨List.Perm.refl _⟩, HS⟩
      case round =>
        clear HS
        obtain ⟨j, ks, hg, rfl, hj, HPM, HS⟩ := hrel
        have HG := Aside0.mk hg
        have HKL : Aside0 (ks.length = hs.length) := ⟨HPM.out.length_eq⟩
        clear hg
        by_cases hjl : j < tn.length
        · by_cases hn0 : 0 < hs.length
          · have hlt2 : (j : Int) < tn.length := by omega
            have h0 : (0 : Int) ≤ j := by omega
            have hn1 : (0 : Int) < hs.length := by omega
            obtain ⟨a, ha⟩ : ∃ a, tn[j]? = some a := ⟨_, List.getElem?_eq_getElem hjl⟩
            obtain ⟨at_, rfl, hca⟩ := HT.out j a ha
            have ca := pw_cell_below HS.out.bel hca
            obtain ⟨t1, t2, t3, t4, k, hkn, hkk⟩ := tmod_k a hs.length hn0 HN16.out
            obtain ⟨r, hr⟩ : ∃ r, r = a.tmod (hs.length : Int) := ⟨_, rfl⟩
            rw [← hr] at t1 t2 t3 t4 hkk
            obtain ⟨u, hu⟩ : ∃ u, u = r + (hs.length : Int) := ⟨_, rfl⟩
            rw [← hu] at t3 t4 hkk
            have hk : (-1000000 : Int) ≤ (j : Int) + 1 ∧ (j : Int) + 1 ≤ 1000000 := by have := HL16.out; omega
            have hkb : (-1000000 : Int) ≤ (k : Int) ∧ (k : Int) ≤ 1000000 := by have := HN16.out; omega
            have hw1 := iw (x := (j : Int) + 1) rfl hk
            have hw2 := w64 (x := (j : Int) + 1) rfl hk
            have hw3 := iw (x := a.tmod (hs.length : Int)) hr.symm ⟨by omega, by omega⟩
            have hw4 := w64 (x := a.tmod (hs.length : Int)) hr.symm ⟨by omega, by omega⟩
            have hw5 := iw hu.symm ⟨t3, t4⟩
            have hw6 := w64 hu.symm ⟨t3, t4⟩
            have hw7 := iw hkk hkb
            have hw8 := w64 hkk hkb
            have hw9 := iw (x := u) rfl ⟨t3, t4⟩
            have hwa := w64 (x := u) rfl ⟨t3, t4⟩
            have hr' := hr.symm
            have hu' := hu.symm
            obtain ⟨p0, hp0⟩ : ∃ p, ks[0]? = some p := ⟨_, List.getElem?_eq_getElem (by have := HKL.out; omega)⟩
            obtain ⟨pk, hpk⟩ : ∃ p, ks[k]? = some p := ⟨_, List.getElem?_eq_getElem (by have := HKL.out; omega)⟩
            have HP0 := Aside0.mk hp0
            have HPK := Aside0.mk hpk
            rcases HS.out.h.slice with ⟨h1, h2⟩ | ⟨gr, cap, cur, h1, hbg, hcur, hnc, hcm, hsz, htk⟩
            · rw [h2] at hp0
              simp at hp0
            injection h1 with h1 h2 h3
            subst h1 h3
            obtain ⟨x0, x1, x2, x3, x4, x5, x6, x7⟩ := cells_at hcur htk hp0
            simp only [Nat.zero_mul, Nat.zero_add] at x0 x1 x2 x3 x4 x5 x6 x7
            have HCUR := Aside0.mk hcur
            have HTK := Aside0.mk htk
            have HFS := Aside0.mk (And.intro hbg (And.intro hnc (And.intro hcm hsz)))
            have HJL := Aside0.mk hjl
            have hk0 : (0 : Int) ≤ k := by omega
            have hkn2 : (k : Int) < hs.length := by omega
            have HKN := Aside0.mk hkn
            clear hr hu t1 t2 t3 t4 hk hkb hp0 hpk hcur htk hbg hnc hcm hsz h2 hjl hj hn0 ha hca hkn
            go_upto_region 20 with fail
            refine gen_world (fun W1 hW1 => ?_)
            have hB1 : Below wr.heap.size wr W1 := by rw [hW1]; with_reducible exact below_alloc (Below.refl _ _) _
            have hy1 : W1.heap[wr.heap.size]? = some (.cells #[.int .i64 p0.e.f0, .int .i64 p0.e.f1, .int .u64 p0.e.f2, .int .i64 p0.e.f3.f0, .int .i64 p0.e.f3.f1, .int .i64 p0.e.f4, .slice p0.A p0.e.f5.length p0.c, .int .u64 p0.e.f6] 33 (0, 0)) := by rw [hW1]; with_reducible exact heap_alloc_new _ _
            obtain ⟨g13, hg13⟩ : ∃ g, g = wr.heap.size := ⟨_, rfl⟩
            rw [← hg13] at hy1 ⊢
            have hne : gr ≠ g13 := by have := blk_lt HCUR.out; omega
            have hne' : g13 ≠ gr := Ne.symm hne
            have hc1 := blk_below HCUR.out hB1
            obtain ⟨z0, z1, z2, z3, z4, z5, z6, z7⟩ := cells_at hc1 HTK.out HPK.out
            obtain ⟨_u0, _u1, _u2, _u3, _u4, _u5, _u6, _u7, d0, d1, d2, d3, d4, d5, d6, d7, e0, e1, e2, e3, e4, e5, e6, e7⟩ := cells8 hc1 (i := 0) (by have := HFS.out; have := HKL.out; have := HKN.out; omega)
            simp only [Nat.zero_mul, Nat.zero_add] at d0 d1 d2 d3 d4 d5 d6 d7 e0 e1 e2 e3 e4 e5 e6 e7
            have HC1 := Aside0.mk hc1
            have HY1 := Aside0.mk hy1
            have HB1 := Aside0.mk hB1
            clear hW1 hB1 hy1 hc1 hg13 x0 x1 x2 x3 x4 x5 x6 x7
            go_upto_region 21 with fail
            refine gen_world (fun W2 hW2 => ?_)
            have hc2 : W2.heap[gr]? = some (.cells (setA cur 0 (enC pk)) 33 (0, 0)) := by
              rw [hW2]
              have h8 := heap_set8 HC1.out 0 pk
              simp only [Nat.zero_add] at h8
              exact h8
            have hf2 : Fr W1 W2 (fun k => k = gr) := by rw [hW2]; repeat (with_reducible first | exact Fr.refl _ _ | refine Fr.setg ?_ _ _)
            have hy2 := hf2.blk HY1.out hne'
            obtain ⟨x0, x1, x2, x3, x4, x5, x6, x7, -⟩ := cells8z hy2
            obtain ⟨_v0, _v1, _v2, _v3, _v4, _v5, _v6, _v7, b0, b1, b2, b3, b4, b5, b6, b7, e0, e1, e2, e3, e4, e5, e6, e7⟩ := cells8 hc2 (i := k) (by rw [setA_size]; have := HFS.out; have := HKL.out; have := HKN.out; omega)
            have HC2 := Aside0.mk hc2
            have HF2 := Aside0.mk hf2
            clear hW2 hc2 hf2 hy2 z0 z1 z2 z3 z4 z5 z6 z7 d0 d1 d2 d3 d4 d5 d6 d7
            go_wp2
            clear hw1 hw2 hw3 hw4 hw5 hw6 hw7 hw8 hw9 hwa
            refine gen_K (fun W3 hW3 => ?_)
            have hc3 : W3.heap[gr]? = some (.cells (setA (setA cur 0 (enC pk)) (k * 8) (enC p0)) 33 (0, 0)) := by rw [hW3]; exact heap_set8 HC2.out (k * 8) p0
            have hf3 : Fr W2 W3 (fun k => k = gr) := by rw [hW3]; repeat (with_reducible first | exact Fr.refl _ _ | refine Fr.setg ?_ _ _)
            have HS3 : Aside0 (St w W3 ga gb va (.slice none 0 0) (.slice (some ⟨gr, 0, none⟩) hs.length ch) (hs.map (·.e)) [] (swapP ks 0 k p0 pk)) := ⟨by
              have hh := HS.out.h
              rw [← HKL.out] at hh ⊢
              refine HS.out.held (HKL.out ▸ HRow.swap hh HP0.out HPK.out HFS.out.1 HFS.out.2.1 HFS.out.2.2.1 HFS.out.2.2.2 HTK.out hc3) ?_ (fun k hk => .inl hk) (fun q hq => HS.out.r q ((swapP_perm HP0.out HPK.out).mem_iff.1 hq))
              exact ((Fr.ofBelow (fun k => k = gr) HB1.out).trans (HF2.out.trans hf3 (fun _ _ h => h)) (fun _ _ h => h)).mono (fun k _ hk => by rw [hk]; rfl)⟩
            clear hW3 hc3 hf3
            go_roundg (tn.length - (j + 1))
            case measure => rw [HG.out]; have := HJL.out; omega
            case rel => exact ⟨j + 1, _, rfl, by simp, by have := HJL.out; omega, ⟨(swapP_perm HP0.out HPK.out).trans HPM.out⟩, HS3⟩
          · have hlt2 : (j : Int) < tn.length := by omega
            have hn1 : ¬ (0 : Int) < hs.length := by omega
            clear HG hj hjl hn0
            go_wp2
            go_loopg [14] hs.length (fun gg v14 wr3 => ∃ (j : Nat) (vb : Value), gg = hs.length - j ∧ v14 = .int .i64 j ∧ j ≤ hs.length ∧ Aside0 (St w wr3 ga gb va vb (.slice Ah hs.length ch) (hs.map (·.e)) ((ks.take j).map (·.e)) ks))
            case atStart => exact ⟨0, _, rfl, rfl, Nat.zero_le _, HS⟩
            case round =>
              clear HS
              obtain ⟨j, vb, hg, rfl, hj, HS⟩ := hrel
              have HG := Aside0.mk hg
              clear hg
              by_cases hjl : j < hs.length
              · obtain ⟨p, hp⟩ : ∃ p, ks[j]? = some p := ⟨_, List.getElem?_eq_getElem (by have := HKL.out; omega)⟩
                obtain ⟨gr, rfl, x0, x1, x2, x3, x4, x5, x6, x7⟩ := HS.out.h.at hp
                have hmem : p ∈ ks := List.mem_of_getElem? hp
                have HRD : Aside0 (Rd wr p.b p.e.f5) := ⟨(HS.out.r p hmem).below HS.out.bel⟩
                have hkn : ((ks.map (·.e)).map keyE).Nodup := (((HPM.out.map (fun x : EP => x.e)).map keyE).nodup_iff).2 HS.out.a.nodup
                have HK : Aside0 (holdK 16 ((ks.take j).map (·.e)) p.e = 0) := ⟨hold_zero (HS.out.a.rights p.e (List.mem_map.2 ⟨p, HPM.out.mem_iff.1 hmem, rfl⟩)) (take_keys hkn hp) (by have := HN16.out; have := HKL.out; simp; omega)⟩
                have hlt3 : (j : Int) < hs.length := by omega
                have h0 : (0 : Int) ≤ j := by omega
                have hk : (-1000000 : Int) ≤ (j : Int) + 1 ∧ (j : Int) + 1 ≤ 1000000 := by have := HN16.out; omega
                have hw1 := iw (x := (j : Int) + 1) rfl hk
                have hw2 := w64 (x := (j : Int) + 1) rfl hk
                have HJL := Aside0.mk hjl
                have HP := Aside0.mk hp
                clear hk hp hmem hkn hj hjl
                go_wp2_with (first
                  | (go_at_call 9; go_must (refine (bhold w.heap.size gb 16 vb _ p _ HS.out.b HRD.out (by decide)).mono ?_; rw [HK.out]; rintro e w121 ⟨rfl, v121, h1, h2, h3, -⟩; rw [hold_new HK.out, ← take_map_succ HP.out] at h1; have HS121 := Aside0.mk (HS.out.holdB h1 h2 h3); clear h1 h2 h3)))
                clear hw1 hw2
                go_roundg (hs.length - (j + 1))
                case measure => rw [HG.out]; have := HJL.out; omega
                case rel => exact ⟨j + 1, v121, rfl, by simp, by have := HJL.out; omega, HS121⟩
              · have hlt3 : ¬ (j : Int) < hs.length := by omega
                have HLb : Aside0 (((ks.take j).map (fun x => x.e)).Perm (hs.map (fun x => x.e))) := ⟨by rw [List.take_of_length_le (by have := HKL.out; omega)]; exact HPM.out.map _⟩
                have HA := Aside0.mk HS.out.a
                have HB : Aside0 (Buf wr w.heap.size gb 16 vb (hs.map (fun x => x.e))) := ⟨HS.out.b.perm HLb.out⟩
                have HWr := Aside0.mk HS.out.bel
                clear HG hj hjl
                go_wp2_with (first
                  | (go_at_call 10; go_must (first
                    | (refine (ball w.heap.size gb 16 vb _ _ HB124.out).mono ?_; rintro e w126 ⟨us, Au, cu, rfl, h1, h2, h3, h4, -⟩; have HRU := Aside0.mk h1; have HPU := Aside0.mk h2; have HSU := Aside0.mk h3; have HRT126 := Aside0.mk (HRT.out.below h4); have HA126 := Aside0.mk (HA124.out.below h4); have HW126 := Aside0.mk (HW124.out.trans (h4.mono HW124.out.size)); clear h1 h2 h3 h4)
                    | (refine (ball w.heap.size ga 16 va _ _ HA.out).mono ?_; rintro e w124 ⟨ts, Ats, cts, rfl, h1, h2, h3, h4, -⟩; have HRT := Aside0.mk h1; have HPT := Aside0.mk h2; have HST := Aside0.mk h3; have HA124 := Aside0.mk (HA.out.below h4); have HB124 := Aside0.mk (HB.out.below h4); have HW124 := Aside0.mk (HWr.out.trans (h4.mono HWr.out.size)); clear h1 h2 h3 h4)))
                  | (go_at_call 12; go_must (refine (fall_calls _ _ _ Ats Au cts cu ts us HRT126.out HRU.out (rows_eq HA.out HPT.out HPU.out HST.out HSU.out).1 (rows_eq HA.out HPT.out HPU.out HST.out HSU.out).2.1 (rows_eq HA.out HPT.out HPU.out HST.out HSU.out).2.2).mono ?_; rintro e w127 ⟨rfl, hb⟩; have HA127 := Aside0.mk (HA126.out.below hb); have HW127 := Aside0.mk (HW126.out.trans (hb.mono HW126.out.size)); clear hb))
                  | (go_at_call 13; go_must (refine (blen w.heap.size ga 16 va _ _ HA127.out).mono ?_; rw [List.length_map]; rintro e w131 ⟨rfl, hb⟩; have HA131 := Aside0.mk (HA127.out.below hb); have HW131 := Aside0.mk (HW127.out.trans (hb.mono HW127.out.size)); clear hb)))
                go_loopg [15] hs.length (fun gg v15 wr4 => ∃ (j : Nat) (va : Value) (La : List En), gg = j ∧ v15 = .int .i64 j ∧ j ≤ 16 ∧ La.length = j ∧ Aside0 (Buf wr4 w.heap.size ga 16 va La) ∧ Aside0 (Below w.heap.size w wr4))
                case atStart => exact ⟨hs.length, va, _, rfl, rfl, HN16.out, List.length_map _, HA131, HW131⟩
                case round =>
                  clear HA131 HW131
                  obtain ⟨j, va, La, hg, rfl, hj, hl, HA, HWr⟩ := hrel
                  have hg := hg.symm
                  subst hg
                  have HLA := Aside0.mk hl
                  have HJ16 := Aside0.mk hj
                  by_cases hj0 : j = 0
                  · subst hj0
                    clear hl hj
                    go_wp2_with (first | (go_at_call 7; go_must (refine (alive_calls _).mono ?_; rintro e wz ⟨rfl, hb⟩; have HBZ := Aside0.mk (HWr.out.trans (hb.mono HWr.out.size)); clear hb)))
                    go_ret
                    exact ⟨rfl, HBZ.out⟩
                  · obtain ⟨m, rfl⟩ : ∃ m, j = m + 1 := ⟨j - 1, by omega⟩
                    have hne : La ≠ [] := fun e => by rw [e] at hl; simp at hl
                    have HNE := Aside0.mk hne
                    have hj1 : (0 : Int) < ((m + 1 : Nat) : Int) := by omega
                    have hj2 : (0 : Int) < (m : Int) + 1 := by omega
                    have hk : (-1000000 : Int) ≤ (m : Int) ∧ (m : Int) ≤ 1000000 := by omega
                    have e1 : ((m + 1 : Nat) : Int) - 1 = m := by omega
                    have e3 : (m : Int) + 1 - 1 = m := by omega
                    have hw1 := iw e1 hk
                    have hw2 := w64 e1 hk
                    have hw3 := iw e3 hk
                    have hw4 := w64 e3 hk
                    have hw5 : wrap64 (m : Int) = m := w64 rfl hk
                    have hw6 : IntKind.i64.wrap (m : Int) = m := iw rfl hk
                    clear e1 e3 hk hl hj hj0 hne
                    go_upto_region 33 with (first
                      | (go_at_call 14; go_must (refine (bfirst w.heap.size ga 16 va La _ HA.out HNE.out).mono ?_; rintro e w144 ⟨q, rfl, h1, h2, h3, h4⟩; rw [HTA.out]; have HQL := Aside0.mk h1; have HOQ := Aside0.mk h3; have HA144 := Aside0.mk (HA.out.below h4); have HW144 := Aside0.mk (HWr.out.trans (h4.mono HWr.out.size)); clear h1 h2 h3 h4)))
                    refine gen_world (fun W3 hW3 => ?_)
                    have hB3 : Below w144.heap.size w144 W3 := by rw [hW3]; with_reducible exact below_alloc (Below.refl _ _) _
                    have hx3 : W3.heap[w144.heap.size]? = some (.cells #[.int .i64 q.e.f0, .int .i64 q.e.f1, .int .u64 q.e.f2, .int .i64 q.e.f3.f0, .int .i64 q.e.f3.f1, .int .i64 q.e.f4, .slice q.A q.e.f5.length q.c, .int .u64 q.e.f6] 33 (0, 0)) := by rw [hW3]; with_reducible exact heap_alloc_new _ _
                    obtain ⟨g16, hg16⟩ : ∃ g, g = w144.heap.size := ⟨_, rfl⟩
                    rw [← hg16] at hx3 ⊢
                    have HG16 : Aside0 (∀ k, SP ga va k → k < g16) := ⟨fun k hk => by rw [hg16]; exact HA144.out.lt k hk⟩
                    have HX3 := Aside0.mk hx3
                    have HA3 := Aside0.mk (HA144.out.below hB3)
                    have HW3 := Aside0.mk (HW144.out.trans (hB3.mono HW144.out.size))
                    have HO3 := Aside0.mk (Own.below HOQ.out hB3)
                    obtain ⟨x0, x1, -⟩ := cells8z hx3
                    clear hW3 hB3 hx3 hg16
                    go_upto_region 34 with (first
                      | (go_at_call 15; go_must (refine (btake w.heap.size ga 16 va La q.e.f0 q.e.f1 _ HA3.out ⟨q.e, HQL.out, rfl⟩).mono ?_; rintro e w153 ⟨f, M, v153, rfl, h1, h2, h3, h4, h5, -⟩; rw [HTA.out]; have H1K := Aside0.mk (one_key HA3.out.nodup h3 HQL.out h1); have HPM3 := Aside0.mk h3; have HA153 := Aside0.mk h2; have HOF := Aside0.mk h4; have HX153 := Aside0.mk (h5.blk HX3.out (fun e => Nat.lt_irrefl _ (HG16.out g16 e))); have HO153 := Aside0.mk (Own.fr HO3.out h5 (fun k hk e => own_sp HA3.out HO3.out k hk e)); have HW153 := Aside0.mk (HA3.out.step h5 HW3.out); clear h1 h2 h3 h4 h5)))
                    refine gen_world (fun W4 hW4 => ?_)
                    have hB4 : Below w153.heap.size w153 W4 := by rw [hW4]; with_reducible exact below_alloc (Below.refl _ _) _
                    have hy4 : W4.heap[w153.heap.size]? = some (.cells #[.int .i64 f.e.f0, .int .i64 f.e.f1, .int .u64 f.e.f2, .int .i64 f.e.f3.f0, .int .i64 f.e.f3.f1, .int .i64 f.e.f4, .slice f.A f.e.f5.length f.c, .int .u64 f.e.f6] 33 (0, 0)) := by rw [hW4]; with_reducible exact heap_alloc_new _ _
                    obtain ⟨g18, hg18⟩ : ∃ g, g = w153.heap.size := ⟨_, rfl⟩
                    rw [← hg18] at hy4 ⊢
                    have hx4 := blk_below HX153.out hB4
                    have HX4 := Aside0.mk hx4
                    have HY4 := Aside0.mk hy4
                    have HA4 := Aside0.mk (HA153.out.below hB4)
                    have HW4 := Aside0.mk (HW153.out.trans (hB4.mono HW153.out.size))
                    have HO4 := Aside0.mk (Own.below HO153.out hB4)
                    have HOF4 := Aside0.mk (Own.below HOF.out hB4)
                    obtain ⟨x0, x1, -⟩ := cells8z hx4
                    clear hW4 hB4 hx4 hy4 hg18
                    go_upto_region 35 with (first
                      | (go_at_call 15; go_must (refine (btake_none w.heap.size ga 16 v153 M q.e.f0 q.e.f1 _ HA4.out H1K.out.2).mono ?_; rintro e w162 ⟨rfl, hb⟩; rw [HTA.out]; have HX162 := Aside0.mk (blk_below HX4.out hb); have HY162 := Aside0.mk (blk_below HY4.out hb); have HA162 := Aside0.mk (HA4.out.below hb); have HW162 := Aside0.mk (HW4.out.trans (hb.mono HW4.out.size)); have HO162 := Aside0.mk (Own.below HO4.out hb); have HOF162 := Aside0.mk (Own.below HOF4.out hb); clear hb)))
                    refine gen_world (fun W5 hW5 => ?_)
                    have hB5 : Below w162.heap.size w162 W5 := by rw [hW5]; with_reducible exact below_alloc (Below.refl _ _) _
                    obtain ⟨x0, x1, x2, x3, x4, x5, x6, x7, -⟩ := cells8z (blk_below HX162.out hB5)
                    obtain ⟨y0, y1, y2, y3, y4, y5, y6, y7, -⟩ := cells8z (blk_below HY162.out hB5)
                    have HA5 := Aside0.mk (HA162.out.below hB5)
                    have HW5 := Aside0.mk (HW162.out.trans (hB5.mono HW162.out.size))
                    have HO5 : Aside0 (Rd W5 q.b q.e.f5) := ⟨Own.rd (Own.below HO162.out hB5)⟩
                    have HOF5 : Aside0 (Rd W5 f.b f.e.f5) := ⟨Own.rd (Own.below HOF162.out hB5)⟩
                    have HQ1100 : Aside0 (q.e.f5.length ≤ 1100) := ⟨by have h := HA.out.rights q.e HQL.out; simp only [rightE, decide_eq_true_eq] at h; exact h.2.2.2.2.2.2.2.2.2⟩
                    have HM : Aside0 (M.length = m) := ⟨Nat.succ.inj ((HPM3.out.length_eq).trans HLA.out)⟩
                    clear hW5 hB5
                    go_wp2_with (first
                      | (go_at_call 16; go_must (refine (fsame_calls q f _ H1K.out.1.symm HO5.out HOF5.out HQ1100.out).mono ?_; rintro e w177 ⟨rfl, hb⟩; have HA177 := Aside0.mk (HA5.out.below hb); have HW177 := Aside0.mk (HW5.out.trans (hb.mono HW5.out.size)); clear hb))
                      | (go_at_call 13; go_must (refine (blen w.heap.size ga 16 v153 M _ HA177.out).mono ?_; rw [HM.out]; rintro e w182 ⟨rfl, hb⟩; have HA182 := Aside0.mk (HA177.out.below hb); have HW182 := Aside0.mk (HW177.out.trans (hb.mono HW177.out.size)); clear hb)))
                    clear hw1 hw2 hw3 hw4 hw5 hw6
                    go_roundg m
                    case measure => exact Nat.lt_succ_self m
                    case rel => exact ⟨m, v153, M, rfl, rfl, by have := HJ16.out; omega, HM.out, HA182, HW182⟩
        · have hlt2 : ¬ (j : Int) < tn.length := by omega
          clear HG hj hjl
          go_wp2
          go_loopg [14] hs.length (fun gg v14 wr3 => ∃ (j : Nat) (vb : Value), gg = hs.length - j ∧ v14 = .int .i64 j ∧ j ≤ hs.length ∧ Aside0 (St w wr3 ga gb va vb (.slice Ah hs.length ch) (hs.map (·.e)) ((ks.take j).map (·.e)) ks))
          case atStart => exact ⟨0, _, rfl, rfl, Nat.zero_le _, HS⟩
          case round =>
            clear HS
            obtain ⟨j, vb, hg, rfl, hj, HS⟩ := hrel
            have HG := Aside0.mk hg
            clear hg
            by_cases hjl : j < hs.length
            · obtain ⟨p, hp⟩ : ∃ p, ks[j]? = some p := ⟨_, List.getElem?_eq_getElem (by have := HKL.out; omega)⟩
              obtain ⟨gr, rfl, x0, x1, x2, x3, x4, x5, x6, x7⟩ := HS.out.h.at hp
              have hmem : p ∈ ks := List.mem_of_getElem? hp
              have HRD : Aside0 (Rd wr p.b p.e.f5) := ⟨(HS.out.r p hmem).below HS.out.bel⟩
              have hkn : ((ks.map (·.e)).map keyE).Nodup := (((HPM.out.map (fun x : EP => x.e)).map keyE).nodup_iff).2 HS.out.a.nodup
              have HK : Aside0 (holdK 16 ((ks.take j).map (·.e)) p.e = 0) := ⟨hold_zero (HS.out.a.rights p.e (List.mem_map.2 ⟨p, HPM.out.mem_iff.1 hmem, rfl⟩)) (take_keys hkn hp) (by have := HN16.out; have := HKL.out; simp; omega)⟩
              have hlt3 : (j : Int) < hs.length := by omega
              have h0 : (0 : Int) ≤ j := by omega
              have hk : (-1000000 : Int) ≤ (j : Int) + 1 ∧ (j : Int) + 1 ≤ 1000000 := by have := HN16.out; omega
              have hw1 := iw (x := (j : Int) + 1) rfl hk
              have hw2 := w64 (x := (j : Int) + 1) rfl hk
              have HJL := Aside0.mk hjl
              have HP := Aside0.mk hp
              clear hk hp hmem hkn hj hjl
              go_wp2_with (first
                | (go_at_call 9; go_must (refine (bhold w.heap.size gb 16 vb _ p _ HS.out.b HRD.out (by decide)).mono ?_; rw [HK.out]; rintro e w121 ⟨rfl, v121, h1, h2, h3, -⟩; rw [hold_new HK.out, ← take_map_succ HP.out] at h1; have HS121 := Aside0.mk (HS.out.holdB h1 h2 h3); clear h1 h2 h3)))
              clear hw1 hw2
              go_roundg (hs.length - (j + 1))
              case measure => rw [HG.out]; have := HJL.out; omega
              case rel => exact ⟨j + 1, v121, rfl, by simp, by have := HJL.out; omega, HS121⟩
            · have hlt3 : ¬ (j : Int) < hs.length := by omega
              have HLb : Aside0 (((ks.take j).map (fun x => x.e)).Perm (hs.map (fun x => x.e))) := ⟨by rw [List.take_of_length_le (by have := HKL.out; omega)]; exact HPM.out.map _⟩
              have HA := Aside0.mk HS.out.a
              have HB : Aside0 (Buf wr w.heap.size gb 16 vb (hs.map (fun x => x.e))) := ⟨HS.out.b.perm HLb.out⟩
              have HWr := Aside0.mk HS.out.bel
              clear HG hj hjl
              go_wp2_with (first
                | (go_at_call 10; go_must (first
                  | (refine (ball w.heap.size gb 16 vb _ _ HB124.out).mono ?_; rintro e w126 ⟨us, Au, cu, rfl, h1, h2, h3, h4, -⟩; have HRU := Aside0.mk h1; have HPU := Aside0.mk h2; have HSU := Aside0.mk h3; have HRT126 := Aside0.mk (HRT.out.below h4); have HA126 := Aside0.mk (HA124.out.below h4); have HW126 := Aside0.mk (HW124.out.trans (h4.mono HW124.out.size)); clear h1 h2 h3 h4)
                  | (refine (ball w.heap.size ga 16 va _ _ HA.out).mono ?_; rintro e w124 ⟨ts, Ats, cts, rfl, h1, h2, h3, h4, -⟩; have HRT := Aside0.mk h1; have HPT := Aside0.mk h2; have HST := Aside0.mk h3; have HA124 := Aside0.mk (HA.out.below h4); have HB124 := Aside0.mk (HB.out.below h4); have HW124 := Aside0.mk (HWr.out.trans (h4.mono HWr.out.size)); clear h1 h2 h3 h4)))
                | (go_at_call 12; go_must (refine (fall_calls _ _ _ Ats Au cts cu ts us HRT126.out HRU.out (rows_eq HA.out HPT.out HPU.out HST.out HSU.out).1 (rows_eq HA.out HPT.out HPU.out HST.out HSU.out).2.1 (rows_eq HA.out HPT.out HPU.out HST.out HSU.out).2.2).mono ?_; rintro e w127 ⟨rfl, hb⟩; have HA127 := Aside0.mk (HA126.out.below hb); have HW127 := Aside0.mk (HW126.out.trans (hb.mono HW126.out.size)); clear hb))
                | (go_at_call 13; go_must (refine (blen w.heap.size ga 16 va _ _ HA127.out).mono ?_; rw [List.length_map]; rintro e w131 ⟨rfl, hb⟩; have HA131 := Aside0.mk (HA127.out.below hb); have HW131 := Aside0.mk (HW127.out.trans (hb.mono HW127.out.size)); clear hb)))
              go_loopg [15] hs.length (fun gg v15 wr4 => ∃ (j : Nat) (va : Value) (La : List En), gg = j ∧ v15 = .int .i64 j ∧ j ≤ 16 ∧ La.length = j ∧ Aside0 (Buf wr4 w.heap.size ga 16 va La) ∧ Aside0 (Below w.heap.size w wr4))
              case atStart => exact ⟨hs.length, va, _, rfl, rfl, HN16.out, List.length_map _, HA131, HW131⟩
              case round =>
                clear HA131 HW131
                obtain ⟨j, va, La, hg, rfl, hj, hl, HA, HWr⟩ := hrel
                have hg := hg.symm
                subst hg
                have HLA := Aside0.mk hl
                have HJ16 := Aside0.mk hj
                by_cases hj0 : j = 0
                · subst hj0
                  clear hl hj
                  go_wp2_with (first | (go_at_call 7; go_must (refine (alive_calls _).mono ?_; rintro e wz ⟨rfl, hb⟩; have HBZ := Aside0.mk (HWr.out.trans (hb.mono HWr.out.size)); clear hb)))
                  go_ret
                  exact ⟨rfl, HBZ.out⟩
                · obtain ⟨m, rfl⟩ : ∃ m, j = m + 1 := ⟨j - 1, by omega⟩
                  have hne : La ≠ [] := fun e => by rw [e] at hl; simp at hl
                  have HNE := Aside0.mk hne
                  have hj1 : (0 : Int) < ((m + 1 : Nat) : Int) := by omega
                  have hj2 : (0 : Int) < (m : Int) + 1 := by omega
                  have hk : (-1000000 : Int) ≤ (m : Int) ∧ (m : Int) ≤ 1000000 := by omega
                  have e1 : ((m + 1 : Nat) : Int) - 1 = m := by omega
                  have e3 : (m : Int) + 1 - 1 = m := by omega
                  have hw1 := iw e1 hk
                  have hw2 := w64 e1 hk
                  have hw3 := iw e3 hk
                  have hw4 := w64 e3 hk
                  have hw5 : wrap64 (m : Int) = m := w64 rfl hk
                  have hw6 : IntKind.i64.wrap (m : Int) = m := iw rfl hk
                  clear e1 e3 hk hl hj hj0 hne
                  go_upto_region 33 with (first
                    | (go_at_call 14; go_must (refine (bfirst w.heap.size ga 16 va La _ HA.out HNE.out).mono ?_; rintro e w144 ⟨q, rfl, h1, h2, h3, h4⟩; rw [HTA.out]; have HQL := Aside0.mk h1; have HOQ := Aside0.mk h3; have HA144 := Aside0.mk (HA.out.below h4); have HW144 := Aside0.mk (HWr.out.trans (h4.mono HWr.out.size)); clear h1 h2 h3 h4)))
                  refine gen_world (fun W3 hW3 => ?_)
                  have hB3 : Below w144.heap.size w144 W3 := by rw [hW3]; with_reducible exact below_alloc (Below.refl _ _) _
                  have hx3 : W3.heap[w144.heap.size]? = some (.cells #[.int .i64 q.e.f0, .int .i64 q.e.f1, .int .u64 q.e.f2, .int .i64 q.e.f3.f0, .int .i64 q.e.f3.f1, .int .i64 q.e.f4, .slice q.A q.e.f5.length q.c, .int .u64 q.e.f6] 33 (0, 0)) := by rw [hW3]; with_reducible exact heap_alloc_new _ _
                  obtain ⟨g16, hg16⟩ : ∃ g, g = w144.heap.size := ⟨_, rfl⟩
                  rw [← hg16] at hx3 ⊢
                  have HG16 : Aside0 (∀ k, SP ga va k → k < g16) := ⟨fun k hk => by rw [hg16]; exact HA144.out.lt k hk⟩
                  have HX3 := Aside0.mk hx3
                  have HA3 := Aside0.mk (HA144.out.below hB3)
                  have HW3 := Aside0.mk (HW144.out.trans (hB3.mono HW144.out.size))
                  have HO3 := Aside0.mk (Own.below HOQ.out hB3)
                  obtain ⟨x0, x1, -⟩ := cells8z hx3
                  clear hW3 hB3 hx3 hg16
                  go_upto_region 34 with (first
                    | (go_at_call 15; go_must (refine (btake w.heap.size ga 16 va La q.e.f0 q.e.f1 _ HA3.out ⟨q.e, HQL.out, rfl⟩).mono ?_; rintro e w153 ⟨f, M, v153, rfl, h1, h2, h3, h4, h5, -⟩; rw [HTA.out]; have H1K := Aside0.mk (one_key HA3.out.nodup h3 HQL.out h1); have HPM3 := Aside0.mk h3; have HA153 := Aside0.mk h2; have HOF := Aside0.mk h4; have HX153 := Aside0.mk (h5.blk HX3.out (fun e => Nat.lt_irrefl _ (HG16.out g16 e))); have HO153 := Aside0.mk (Own.fr HO3.out h5 (fun k hk e => own_sp HA3.out HO3.out k hk e)); have HW153 := Aside0.mk (HA3.out.step h5 HW3.out); clear h1 h2 h3 h4 h5)))
                  refine gen_world (fun W4 hW4 => ?_)
                  have hB4 : Below w153.heap.size w153 W4 := by rw [hW4]; with_reducible exact below_alloc (Below.refl _ _) _
                  have hy4 : W4.heap[w153.heap.size]? = some (.cells #[.int .i64 f.e.f0, .int .i64 f.e.f1, .int .u64 f.e.f2, .int .i64 f.e.f3.f0, .int .i64 f.e.f3.f1, .int .i64 f.e.f4, .slice f.A f.e.f5.length f.c, .int .u64 f.e.f6] 33 (0, 0)) := by rw [hW4]; with_reducible exact heap_alloc_new _ _
                  obtain ⟨g18, hg18⟩ : ∃ g, g = w153.heap.size := ⟨_, rfl⟩
                  rw [← hg18] at hy4 ⊢
                  have hx4 := blk_below HX153.out hB4
                  have HX4 := Aside0.mk hx4
                  have HY4 := Aside0.mk hy4
                  have HA4 := Aside0.mk (HA153.out.below hB4)
                  have HW4 := Aside0.mk (HW153.out.trans (hB4.mono HW153.out.size))
                  have HO4 := Aside0.mk (Own.below HO153.out hB4)
                  have HOF4 := Aside0.mk (Own.below HOF.out hB4)
                  obtain ⟨x0, x1, -⟩ := cells8z hx4
                  clear hW4 hB4 hx4 hy4 hg18
                  go_upto_region 35 with (first
                    | (go_at_call 15; go_must (refine (btake_none w.heap.size ga 16 v153 M q.e.f0 q.e.f1 _ HA4.out H1K.out.2).mono ?_; rintro e w162 ⟨rfl, hb⟩; rw [HTA.out]; have HX162 := Aside0.mk (blk_below HX4.out hb); have HY162 := Aside0.mk (blk_below HY4.out hb); have HA162 := Aside0.mk (HA4.out.below hb); have HW162 := Aside0.mk (HW4.out.trans (hb.mono HW4.out.size)); have HO162 := Aside0.mk (Own.below HO4.out hb); have HOF162 := Aside0.mk (Own.below HOF4.out hb); clear hb)))
                  refine gen_world (fun W5 hW5 => ?_)
                  have hB5 : Below w162.heap.size w162 W5 := by rw [hW5]; with_reducible exact below_alloc (Below.refl _ _) _
                  obtain ⟨x0, x1, x2, x3, x4, x5, x6, x7, -⟩ := cells8z (blk_below HX162.out hB5)
                  obtain ⟨y0, y1, y2, y3, y4, y5, y6, y7, -⟩ := cells8z (blk_below HY162.out hB5)
                  have HA5 := Aside0.mk (HA162.out.below hB5)
                  have HW5 := Aside0.mk (HW162.out.trans (hB5.mono HW162.out.size))
                  have HO5 : Aside0 (Rd W5 q.b q.e.f5) := ⟨Own.rd (Own.below HO162.out hB5)⟩
                  have HOF5 : Aside0 (Rd W5 f.b f.e.f5) := ⟨Own.rd (Own.below HOF162.out hB5)⟩
                  have HQ1100 : Aside0 (q.e.f5.length ≤ 1100) := ⟨by have h := HA.out.rights q.e HQL.out; simp only [rightE, decide_eq_true_eq] at h; exact h.2.2.2.2.2.2.2.2.2⟩
                  have HM : Aside0 (M.length = m) := ⟨Nat.succ.inj ((HPM3.out.length_eq).trans HLA.out)⟩
                  clear hW5 hB5
                  go_wp2_with (first
                    | (go_at_call 16; go_must (refine (fsame_calls q f _ H1K.out.1.symm HO5.out HOF5.out HQ1100.out).mono ?_; rintro e w177 ⟨rfl, hb⟩; have HA177 := Aside0.mk (HA5.out.below hb); have HW177 := Aside0.mk (HW5.out.trans (hb.mono HW5.out.size)); clear hb))
                    | (go_at_call 13; go_must (refine (blen w.heap.size ga 16 v153 M _ HA177.out).mono ?_; rw [HM.out]; rintro e w182 ⟨rfl, hb⟩; have HA182 := Aside0.mk (HA177.out.below hb); have HW182 := Aside0.mk (HW177.out.trans (hb.mono HW177.out.size)); clear hb)))
                  clear hw1 hw2 hw3 hw4 hw5 hw6
                  go_roundg m
                  case measure => exact Nat.lt_succ_self m
                  case rel => exact ⟨m, v153, M, rfl, rfl, by have := HJ16.out; omega, HM.out, HA182, HW182⟩
end Go.Proofs.Ytekhpogigndlkaa.K

namespace Go.Proofs.Ytekhpogigndlkaa.K
open Go.RowKit Go.Deep Go.ChangeShapes Go.WideShapes Go.ChangeAt Go.Proofs.YtekhpogigndlkaaW.PrintWords Go.Proofs.YtekhpogigndlkaaW.PrintLast Go.Proofs.YtekhpogigndlkaaW.PrintMore
set_option linter.unusedVariables false

theorem open_nums {H : Type} {enc : TypeId × Value → H} {w : World} {base : Nat} {held : Bool} {d : DataW H} {p : List MemPlace} {a0 : Option Addr} {len0 cap0 : Nat} (h : DataW.Trod enc Try.prog w base (fun _ => true) held 38 (.slice a0 len0 cap0) d p) :
    ∃ l : List Int, IRd w (.slice a0 len0 cap0) l ∧ True := by
  obtain ⟨fuel, hf⟩ := h
  rcases open_ints Try.underlying38 Try.underlying3 (by kernel_rfl) hf with ⟨hcs, _⟩ | ⟨x, len, cap, zs, hcs, _, hl, hm, hz, _, hcell, hwz⟩
  · simp [Value.cells] at hcs
    obtain ⟨rfl, rfl, rfl⟩ := hcs
    exact ⟨[], ⟨none, 0, rfl, fun i x hx => by simp at hx⟩, trivial⟩
  · simp [Value.cells] at hcs
    obtain ⟨rfl, rfl, rfl⟩ := hcs
    have hlz : len0 ≤ zs.length := by rw [hz]; split <;> omega
    refine ⟨zs.take len0, ⟨some x, cap0, by rw [List.length_take]; congr 1; omega, fun i y hy => ⟨x, rfl, ?_⟩⟩, trivial⟩
    have hi : i < len0 := by
      have := (List.getElem?_eq_some_iff.1 hy).1
      rw [List.length_take] at this
      omega
    rw [List.getElem?_take_of_lt hi] at hy
    rw [hcell i (by omega), List.getD_eq_getElem?_getD, hy]
    rfl
end Go.Proofs.Ytekhpogigndlkaa.K

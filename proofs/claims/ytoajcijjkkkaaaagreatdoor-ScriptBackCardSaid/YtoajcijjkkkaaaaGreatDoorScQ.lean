/- script.Unquote. -/
import Derived.Test.YtoajcijjkkkaaaaGreatDoorScP
import Derived.RegionTactic
namespace Go.Proofs.YtoajcijjkkkaaaaGreatDoor.K
open Go.RowKit Go.Proofs.YtoajcijjkkkaaaaGreatDoorW.PrintWords Go.Proofs.YtoajcijjkkkaaaaGreatDoorW.PrintLast Go.Proofs.YtoajcijjkkkaaaaGreatDoorW.PrintMore
set_option linter.unusedVariables false
set_option linter.unusedSimpArgs false

/-- The blocks of Unquote and ParseLine: the result's variable at b, the reader behind it, the reader's variable, try's variable. -/
structure Bxs (w0 w : World) (b : Nat) (o : Obj) (x : Bool) (l : Bs) : Prop where
  res : w.heap[b]? = some o
  rd : Rr w0 w (b + 1) l
  ptr : w.heap[b + 2]? = some (.cells #[.pointer (some ⟨b + 1, 0, none⟩)] 69 (0, 0))
  is_ : w.heap[b + 3]? = some (.cells #[.bool x] 4 (0, 0))
  base : w0.heap.size = b
theorem Bxs.keep {w0 w w' : World} {b : Nat} {o : Obj} {x : Bool} {l r : Bs} (h : Bxs w0 w b o x l) (hk : KeepBut w w' (b + 1) none) (hr : Rr w0 w' (b + 1) r) : Bxs w0 w' b o x r :=
  ⟨hk.blk h.res (by omega) (by simp), hr, hk.blk h.ptr (by omega) (by simp), hk.blk h.is_ (by omega) (by simp), h.base⟩

set_option maxHeartbeats 1000000 in
theorem unq1_none (w0 w : World) (b : Nat) (o : Obj) (l : Bs) (h : Bxs w0 w b o false l) (hu : unqO l = none) :
    Calls Tryz.prog 45 #[.pointer (some ⟨b + 2, 0, none⟩), .pointer (some ⟨b, 0, none⟩)] w fun e w' => e = Mal ∧ w'.heap[b + 3]? = some (.cells #[.bool false] 4 (0, 0)) ∧ (∃ o', w'.heap[b]? = some o' ∧ o = o') ∧ Below w0.heap.size w0 w' := by
  have c0 : w.cell? ⟨b + 2, 0, none⟩ = some (.pointer (some ⟨b + 1, 0, none⟩)) := (blk_cell h.ptr 0).trans rfl
  have HQ := quoted_calls w0 w (b + 1) l h.rd
  rw [hu] at HQ
  have H := Aside0.mk h
  clear h hu
  go_enter Tryz.func45, Tryz.ntmps45
  go_wp2_with (go_at_call 46; (with_reducible refine HQ.mono ?_); rintro e w' ⟨rfl, hb, hk⟩)
  exact ⟨rfl, rfl, hk.blk H.out.is_ (by omega) (by simp), ⟨o, hk.blk H.out.res (by omega) (by simp), rfl⟩, hb⟩
set_option maxHeartbeats 1000000 in
theorem unq1_some (w0 w : World) (b : Nat) (s : Value) (l t r : Bs) (h : Bxs w0 w b (.cells #[s] 9 (0, 0)) false l) (hu : unqO l = some (t, r)) :
    Calls Tryz.prog 45 #[.pointer (some ⟨b + 2, 0, none⟩), .pointer (some ⟨b, 0, none⟩)] w fun e w' => e = .returned (.tuple #[]) ∧ w'.heap[b + 3]? = some (.cells #[.bool false] 4 (0, 0)) ∧ Bxs w0 w' b (.cells #[.string ⟨t.toArray⟩] 9 (0, 0)) false r := by
  have c0 : w.cell? ⟨b + 2, 0, none⟩ = some (.pointer (some ⟨b + 1, 0, none⟩)) := (blk_cell h.ptr 0).trans rfl
  have HQ := quoted_calls w0 w (b + 1) l h.rd
  rw [hu] at HQ
  have H := Aside0.mk h
  clear h hu
  go_enter Tryz.func45, Tryz.ntmps45
  go_wp2_with (go_at_call 46; (with_reducible refine HQ.mono ?_); rintro e w1 ⟨rfl, hr, hk⟩; have h1 := H.out.keep hk hr; have c1 : w1.cell? ⟨b, 0, none⟩ = some s := (blk_cell h1.res 0).trans rfl; have f1 : w1.frozen? ⟨b, 0, none⟩ = false := blk_frozen h1.res 0; have H1 := Aside0.mk h1; clear hr hk h1)
  go_end0
  have h1 := H1.out
  have far : ∀ k, k ≠ b → (w1.setCell ⟨b, 0, none⟩ (.string ⟨t.toArray⟩)).heap[k]? = w1.heap[k]? := fun k hk => Below.heap_setCell _ _ _ _ hk
  refine ⟨rfl, (far _ (by omega)).trans h1.is_, blk_set h1.res 0 _, ?_, (far _ (by omega)).trans h1.ptr, (far _ (by omega)).trans h1.is_, h1.base⟩
  obtain ⟨s', hk, hs, hg, hb, hl⟩ := h1.rd
  exact ⟨s', (far _ (by omega)).trans hk, hs, hg, hb.setCell (by have := h1.base; simp; omega) _, hl⟩

/-- What Unquote hands back. -/
def uqV (R : Option (Bs × Bs)) : Value :=
  match R with
  | none => .tuple #[.string ⟨#[]⟩, .string ⟨#[]⟩, .int .i64 4]
  | some (t, r) => .tuple #[.string ⟨t.toArray⟩, .string ⟨r.toArray⟩, .int .i64 0]

/-- The world ahead of try. -/
def W3of (w : World) (cs : Array Value) (T : TypeId) (s : ByteArray) : World :=
  ((w.alloc (.cells cs T)).alloc (.cells #[.string s] 71)).alloc (.cells #[.pointer (some ⟨w.heap.size + 1, 0, none⟩)] 69)
theorem W3_size (w : World) (cs : Array Value) (T : TypeId) (s : ByteArray) : (W3of w cs T s).heap.size = w.heap.size + 3 := by simp [W3of]
theorem W3_below (w : World) (cs : Array Value) (T : TypeId) (s : ByteArray) : Below w.heap.size w (W3of w cs T s) := below_alloc (below_alloc (below_alloc (Below.refl _ _) _) _) _
theorem bxs_new (w0 w : World) (hw : w0 = w) (cs : Array Value) (T : TypeId) (s : ByteArray) (hs : s.size ≤ 4294967280) :
    Bxs w0 ((W3of w cs T s).alloc (.cells #[.bool false] 4)) w0.heap.size (.cells cs T (0, 0)) false s.data.toList := by
  subst hw
  have h1 : ((w0.alloc (.cells cs T))).heap.size = w0.heap.size + 1 := by simp
  have h2 : ((w0.alloc (.cells cs T)).alloc (.cells #[.string s] 71)).heap.size = w0.heap.size + 2 := by simp
  refine ⟨blk_alloc (blk_alloc (blk_alloc (blk_new _ _) _) _) _, ⟨s, ?_, rfl, by omega, below_alloc (W3_below w0 cs T s) _, by rw [← ba_size]; exact hs⟩, ?_, ?_, rfl⟩
  · rw [← h1]
    exact blk_alloc (blk_alloc (blk_new _ _) _) _
  · rw [← h2]
    exact blk_alloc (blk_new _ _) _
  · rw [← W3_size w0 cs T s]
    exact blk_new _ _

theorem bxs_true {w0 w : World} {b : Nat} {o : Obj} {x y : Bool} {l : Bs} (h : Bxs w0 w b o x l) : Bxs w0 (w.setCell ⟨b + 3, 0, none⟩ (.bool y)) b o y l := by
  have far : ∀ k, k ≠ b + 3 → (w.setCell ⟨b + 3, 0, none⟩ (.bool y)).heap[k]? = w.heap[k]? := fun k hk => Below.heap_setCell _ _ _ _ hk
  refine ⟨(far _ (by omega)).trans h.res, ?_, (far _ (by omega)).trans h.ptr, blk_set h.is_ 0 _, h.base⟩
  obtain ⟨s', hk, hs, hg, hb, hl⟩ := h.rd
  exact ⟨s', (far _ (by omega)).trans hk, hs, hg, hb.setCell (by have := h.base; simp; omega) _, hl⟩
theorem rr_cell {w0 w : World} {g : Nat} {l : Bs} (h : Rr w0 w g l) : w.cell? ⟨g, 0, none⟩ = some (.string ⟨l.toArray⟩) := by
  obtain ⟨s, hk, hs, _⟩ := h
  rw [← ba_eq hs]
  exact (blk_cell hk 0).trans rfl
set_option maxHeartbeats 1000000 in
theorem unquote_none (s : ByteArray) (hs : s.size ≤ 4294967280) (w : World) (hu : unqO s.data.toList = none) :
    Calls Tryz.prog 21 #[.string s] w fun e w' => e = .returned (.tuple #[.string ⟨#[]⟩, .string ⟨#[]⟩, .int .i64 4]) ∧ Below w.heap.size w w' := by
  have hmf : ∀ (fn : Fn) (first cap : Array Value) (w : World), (Instr.makeFunc fn first cap).run Tryz.prog w = .ok (.func fn first cap) w := fun _ _ _ _ => rfl
  have hB := bxs_new w w rfl #[.string ⟨#[]⟩] 9 s hs
  have hT := try_no 45 #[.pointer (some ⟨w.heap.size + 2, 0, none⟩), .pointer (some ⟨w.heap.size, 0, none⟩)] (W3of w #[.string ⟨#[]⟩] 9 s) (fun w1 => w1.heap[w.heap.size]? = some (.cells #[.string ⟨#[]⟩] 9 (0, 0)) ∧ Below w.heap.size w w1) (enters_of Tryz.func45 (by kernel_rfl) rfl)
    ((unq1_none w _ w.heap.size _ s.data.toList hB hu).mono (by
      rintro e w1 ⟨rfl, h1, ⟨o', h2, rfl⟩, h3⟩
      rw [W3_size]
      exact ⟨rfl, h1, h2, h3⟩))
  rw [W3_size] at hT
  have HT := Aside0.mk hT
  clear hT hB hu hs
  go_enter Tryz.func21, Tryz.ntmps21
  go_upto_region 2 with (fail)
  obtain ⟨b, hb⟩ : ∃ b, w.heap.size = b := ⟨_, rfl⟩
  have hW : ((w.alloc (.cells #[.string ⟨#[]⟩] 9)).alloc (.cells #[.string s] 71)).alloc (.cells #[.pointer (some ⟨w.heap.size + 1, 0, none⟩)] 69) = W3of w #[.string ⟨#[]⟩] 9 s := rfl
  rw [hW]
  obtain ⟨W3, hW3⟩ : ∃ W3, W3of w #[.string ⟨#[]⟩] 9 s = W3 := ⟨_, rfl⟩
  rw [hW3] at HT ⊢
  rw [hb] at HT ⊢
  clear hW hW3
  go_wp2_with (go_at_call 31; (with_reducible refine HT.out.mono ?_); rintro e w' ⟨rfl, w1, ⟨h1, h2⟩, rfl⟩; have h3 := Below.heap_setCell w1 ⟨b + 3, 0, none⟩ (.bool false) b (by simp); have h4 := h3.trans h1; have H2 : Aside0 (Below b w (w1.setCell ⟨b + 3, 0, none⟩ (.bool false))) := ⟨h2.setCell (by simp) _⟩; obtain ⟨w2, hw2⟩ : ∃ w2, w1.setCell ⟨b + 3, 0, none⟩ (.bool false) = w2 := ⟨_, rfl⟩; rw [hw2] at h4 H2 ⊢; have c1 : w2.cell? ⟨b, 0, none⟩ = some (.string ⟨#[]⟩) := (blk_cell h4 0).trans rfl; have f1 : w2.frozen? ⟨b, 0, none⟩ = false := blk_frozen h4 0; have H4 := Aside0.mk h4; clear h1 h2 h3 h4 hw2)
  have c2 : (w2.setCell ⟨b, 0, none⟩ (.string ⟨#[]⟩)).cell? ⟨b, 0, none⟩ = some (.string ⟨#[]⟩) := (blk_cell (blk_set H4.out 0 (.string ⟨#[]⟩)) 0).trans rfl
  refine bodyPost_ret (v := .tuple #[.string ⟨#[]⟩, .string ⟨#[]⟩, .int .i64 4]) (by simp [results, Tryz.results21, go_sem, c2]) rfl ⟨rfl, ?_⟩
  rw [hb]
  exact H2.out.setCell (by simp) _
set_option maxHeartbeats 1000000 in
theorem unquote_some (s : ByteArray) (hs : s.size ≤ 4294967280) (w : World) (t r : Bs) (hu : unqO s.data.toList = some (t, r)) :
    Calls Tryz.prog 21 #[.string s] w fun e w' => e = .returned (.tuple #[.string ⟨t.toArray⟩, .string ⟨r.toArray⟩, .int .i64 0]) ∧ Below w.heap.size w w' := by
  have hmf : ∀ (fn : Fn) (first cap : Array Value) (w : World), (Instr.makeFunc fn first cap).run Tryz.prog w = .ok (.func fn first cap) w := fun _ _ _ _ => rfl
  have hB := bxs_new w w rfl #[.string ⟨#[]⟩] 9 s hs
  have hT := try_ok 45 #[.pointer (some ⟨w.heap.size + 2, 0, none⟩), .pointer (some ⟨w.heap.size, 0, none⟩)] (W3of w #[.string ⟨#[]⟩] 9 s) (fun w1 => Bxs w w1 w.heap.size (.cells #[.string ⟨t.toArray⟩] 9 (0, 0)) false r) (enters_of Tryz.func45 (by kernel_rfl) rfl)
    ((unq1_some w _ w.heap.size _ s.data.toList t r hB hu).mono (by
      rintro e w1 ⟨rfl, h1, h2⟩
      rw [W3_size]
      exact ⟨rfl, h1, h2⟩))
  rw [W3_size] at hT
  have HT := Aside0.mk hT
  clear hT hB hu hs
  go_enter Tryz.func21, Tryz.ntmps21
  go_upto_region 2 with (fail)
  obtain ⟨b, hb⟩ : ∃ b, w.heap.size = b := ⟨_, rfl⟩
  have hW : ((w.alloc (.cells #[.string ⟨#[]⟩] 9)).alloc (.cells #[.string s] 71)).alloc (.cells #[.pointer (some ⟨w.heap.size + 1, 0, none⟩)] 69) = W3of w #[.string ⟨#[]⟩] 9 s := rfl
  rw [hW]
  obtain ⟨W3, hW3⟩ : ∃ W3, W3of w #[.string ⟨#[]⟩] 9 s = W3 := ⟨_, rfl⟩
  rw [hW3] at HT ⊢
  rw [hb] at HT ⊢
  clear hW hW3
  go_wp2_with (go_at_call 31; (with_reducible refine HT.out.mono ?_); rintro e w' ⟨rfl, w1, h1, rfl⟩; have h2 := bxs_true (y := true) h1; obtain ⟨w2, hw2⟩ : ∃ w2, w1.setCell ⟨b + 3, 0, none⟩ (.bool true) = w2 := ⟨_, rfl⟩; rw [hw2] at h2 ⊢; have c1 : w2.cell? ⟨b, 0, none⟩ = some (.string ⟨t.toArray⟩) := (blk_cell h2.res 0).trans rfl; have f1 : w2.frozen? ⟨b, 0, none⟩ = false := blk_frozen h2.res 0; have c2 : w2.cell? ⟨b + 1 + 1, 0, none⟩ = some (.pointer (some ⟨b + 1, 0, none⟩)) := (blk_cell h2.ptr 0).trans rfl; have c3 : w2.cell? ⟨b + 1, 0, none⟩ = some (.string ⟨r.toArray⟩) := rr_cell h2.rd; have H2 := Aside0.mk h2; clear h1 h2 hw2)
  go_region
  all_goals
    go_wp2_with fail
    have c4 : (w2.setCell ⟨b, 0, none⟩ (.string ⟨t.toArray⟩)).drew.cell? ⟨b, 0, none⟩ = some (.string ⟨t.toArray⟩) := (blk_cell (blk_drew (blk_set H2.out.res 0 (.string ⟨t.toArray⟩))) 0).trans rfl
    refine bodyPost_ret (v := .tuple #[.string ⟨t.toArray⟩, .string ⟨r.toArray⟩, .int .i64 0]) (by simp [results, Tryz.results21, go_sem, c4]) rfl ⟨rfl, ?_⟩
    exact below_drew1 (H2.out.rd.below.setCell (by rw [hb]; exact Nat.le_refl _) _)
theorem unquote_calls (s : ByteArray) (hs : s.size ≤ 4294967280) (w : World) :
    Calls Tryz.prog 21 #[.string s] w fun e w' => e = .returned (uqV (unqO s.data.toList)) ∧ Below w.heap.size w w' := by
  cases hu : unqO s.data.toList with
  | none => exact unquote_none s hs w hu
  | some p =>
    obtain ⟨t, r⟩ := p
    exact unquote_some s hs w t r hu
end Go.Proofs.YtoajcijjkkkaaaaGreatDoor.K

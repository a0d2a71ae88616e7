/- cachetteref08's Hold, where it holds. cachetteref08's Run. A buffer and the reference's one: what each pair of ways does. A script of the buffer's that came in; light. -/
import Derived.Test.YtekhpogigndlkaaMJ
import Derived.Test.YtekhpogigndlkaaWTab
import Derived.Deep.RegionLaw
import Derived.Test.YtekhpogigndlkaaMG
namespace Go.Proofs.Ytekhpogigndlkaa.K
open Go.RowKit Go.Proofs.YtekhpogigndlkaaW.PrintWords Go.Proofs.YtekhpogigndlkaaW.PrintLast Go.Proofs.YtekhpogigndlkaaW.PrintMore
set_option linter.unusedVariables false
set_option linter.unusedSimpArgs false

theorem rless_true (p q : EP) (w : World) (hp : Rd w p.b p.e.f5) (hq : Rd w q.b q.e.f5) (h : ltK (keyE p.e) (keyE q.e)) :
    Calls Try.prog 37 #[.agg #[.int .i64 p.e.f0, .int .i64 p.e.f1, .int .u64 p.e.f2, .int .i64 p.e.f3.f0, .int .i64 p.e.f3.f1, .int .i64 p.e.f4, .slice p.A p.e.f5.length p.c, .int .u64 p.e.f6], .agg #[.int .i64 q.e.f0, .int .i64 q.e.f1, .int .u64 q.e.f2, .int .i64 q.e.f3.f0, .int .i64 q.e.f3.f1, .int .i64 q.e.f4, .slice q.A q.e.f5.length q.c, .int .u64 q.e.f6]] w fun e w' => e = .returned (.bool true) ∧ Below w.heap.size w w' := by
  have := rless_calls p q w hp hq
  rw [decide_eq_true h] at this
  exact this
theorem rless_false (p q : EP) (w : World) (hp : Rd w p.b p.e.f5) (hq : Rd w q.b q.e.f5) (h : ¬ ltK (keyE p.e) (keyE q.e)) :
    Calls Try.prog 37 #[.agg #[.int .i64 p.e.f0, .int .i64 p.e.f1, .int .u64 p.e.f2, .int .i64 p.e.f3.f0, .int .i64 p.e.f3.f1, .int .i64 p.e.f4, .slice p.A p.e.f5.length p.c, .int .u64 p.e.f6], .agg #[.int .i64 q.e.f0, .int .i64 q.e.f1, .int .u64 q.e.f2, .int .i64 q.e.f3.f0, .int .i64 q.e.f3.f1, .int .i64 q.e.f4, .slice q.A q.e.f5.length q.c, .int .u64 q.e.f6]] w fun e w' => e = .returned (.bool false) ∧ Below w.heap.size w w' := by
  have := rless_calls p q w hp hq
  rw [decide_eq_false h] at this
  exact this
theorem take_next {α : Type} {l : List α} {j : Nat} {p : α} (h : l[j]? = some p) : l.take (j + 1) = l.take j ++ [p] := by
  obtain ⟨hj, rfl⟩ := List.getElem?_eq_some_iff.1 h
  exact List.take_succ_eq_append_getElem hj
/-- What an append adds. -/
def SrcE (W : World) (X : Value) (qs : List EP) : Prop := (X = .slice none 0 0 ∧ qs = []) ∨ ∃ ad m c, X = .slice (some ad) m c ∧ qs.length = m ∧ ∀ j u, (flE qs)[j]? = some u → W.cell? (ad.add j) = some u
theorem SrcE.below {w W : World} {X : Value} {qs : List EP} (h : SrcE w X qs) (hb : Below w.heap.size w W) : SrcE W X qs := by
  rcases h with h | ⟨ad, m, c, h1, h2, h3⟩
  · exact .inl h
  · exact .inr ⟨ad, m, c, h1, h2, fun j u hu => pw_cell_below hb (h3 j u hu)⟩
theorem srcE_take {W : World} {base gr n cap k : Nat} {hs : List EP} (h : HRow W base (.slice (some ⟨gr, 0, none⟩) n cap) hs) (hn : hs.length = n) (hk : k ≤ n) : SrcE W (.slice (some ⟨gr, 0, none⟩) k cap) (hs.take k) :=
  .inr ⟨_, _, _, rfl, by rw [List.length_take]; omega, fun j u hu => by
    have h := row_news h (l := []) (m := hs.take k) (r := hs.drop k) (by simp) j u hu
    simpa using h⟩
theorem srcE_drop {W : World} {base gr n cap k : Nat} {hs : List EP} (h : HRow W base (.slice (some ⟨gr, 0, none⟩) n cap) hs) (hn : hs.length = n) (hk : k ≤ n) : SrcE W (.slice (some ⟨gr, k * 8, none⟩) (n - k) (cap - k)) (hs.drop k) :=
  .inr ⟨_, _, _, rfl, by rw [List.length_drop]; omega, fun j u hu => by
    have h := row_news h (l := hs.take k) (m := hs.drop k) (r := []) (by simp) j u hu
    rw [List.length_take, Nat.min_eq_left (by omega)] at h
    exact h⟩
theorem HRow.cap {W : World} {base n cap : Nat} {A : Option Addr} {hs : List EP} (h : HRow W base (.slice A n cap) hs) : hs.length ≤ cap := by
  rcases h.slice with ⟨h1, h2⟩ | ⟨g, cap', cur, h1, h2, h3, h4, _⟩
  · rw [h2]
    exact Nat.zero_le _
  · injection h1 with _ _ h5
    omega
theorem HRow.empty2 (W : World) (o : Obj) (base : Nat) (hb : base ≤ W.heap.size) : HRow ((W.alloc o).alloc (.cells #[] 33)) base (.slice (some ⟨W.heap.size + 1, 0, none⟩) 0 0) [] := by
  have h := HRow.empty (W.alloc o) base (Nat.le_trans hb (by simp))
  rw [World.size_alloc] at h
  exact h
/-- append of no or more entries onto a row of one's own, as a step of a region that draws its order. -/
theorem step_app_src {ops : Array Oper} {o : Oper} {a : Act} {K : Act → World → Prop} {Q : Exit → Act → World → Prop} {E : Prop} {W : World} (base : Nat) (hgd : o.guard = none) (s x : Operand) (t : TypeId)
    (ho : o.op = .call { callee := .builtin .append, args := #[s, x], argTypes := #[t, t] }) (ht : Try.prog.underlying t = some (.slice 33))
    (v : Value) (ps qs : List EP) (hs : a.eval s = v) (HO : HRow W base v ps) (X : Value) (hx : a.eval x = X) (hsrc : SrcE W X qs) (hbase : base ≤ W.heap.size) (hl : ps.length + qs.length ≤ 1000000)
    (h : ∀ v1 w1, HRow w1 base v1 (ps ++ qs) → Fr W w1 (fun k => v.ownBlock = some k) → (v1.ownBlock = v.ownBlock ∨ v1.ownBlock = some W.heap.size) → K (a.put o.dst v1) w1) :
    if Region.wanted o (yielded ops a.tmps) = true then Oper.wp Try.prog o a W K Q else E := by
  rcases hsrc with ⟨rfl, rfl⟩ | ⟨ad, m, c, rfl, hm, hnews⟩
  · have hw : Region.wanted o (yielded ops a.tmps) = true := by simp [Region.wanted, hgd]
    rw [if_pos hw]
    obtain ⟨i, hi, hzz⟩ := Option.map_eq_some_iff.1 infoEn
    have hr : (Builtin.append_ #[t, t] o.type #[v, .slice none 0 0]).run Try.prog W = .ok v W := by
      rcases HO.slice with ⟨h1, h2⟩ | ⟨g, cap', cur, h1, h2, h3, h4, _⟩
      · rw [h1]
        simp [Builtin.append_, run_underlying ht, sizeOf, typeInfo, hi, Builtin.lenOf, Builtin.firstCells, loadCells, loadCellsFrom]
      · rw [h1]
        simp [Builtin.append_, run_underlying ht, sizeOf, typeInfo, hi, Builtin.lenOf, Builtin.firstCells, loadCells, loadCellsFrom, storeCells, h4]
    unfold Oper.wp execOp
    simp only [ho, resolve, invoke, builtin, Sem.run_bind, Sem.run_pure, Result.andThen_ok, List.map_toArray, List.map_cons, List.map_nil, hs, hx, hr]
    exact h v W (by rw [List.append_nil]; exact HO) (Fr.refl _ _) (.inl rfl)
  · exact step_app_rows base hgd s x t ho ht v ps qs hs HO ad m c hx hm hnews hbase (by omega) h
/-- What the reference's Hold leaves where it holds. -/
def RHoldP (w0 w : World) (g : Nat) (most : Int) (hs : List EP) (p : EP) (W : World) : Prop :=
  ∃ k : Nat, k ≤ hs.length ∧ (∀ q ∈ hs.take k, ltK (keyE q.e) (keyE p.e)) ∧ (∀ q, hs[k]? = some q → ¬ ltK (keyE q.e) (keyE p.e)) ∧ RefP w0 w g most (hs.take k ++ [p] ++ hs.drop k) W
def rhold_ok.T11 : Bool × List (List Nat × List Nat) := (true, [([], []), ([], []), ([1], [1]), ([2], [2]), ([3], [3]), ([4], [4]), ([0, 5], [0, 5]), ([6], [6]), ([7], [7]), ([8, 7], [7, 8]), ([9, 7], [7, 9]), ([10, 7], [7, 10]), ([7], [7]), ([11, 12, 7], [7, 11, 12]), ([13, 7], [7, 13]), ([7], [7]), ([14, 15, 7, 7], [7, 14, 15]), ([7, 16], [7, 16])])
def rhold_ok.B11 : List Nat := [0, 0, 2, 6, 14, 30, 63, 127, 255, 511, 1023, 2047, 255, 8191, 16383, 255, 65535, 131071]
theorem rhold_ok.tab11 : rtab .any (opsOf Try.f18 11) = rhold_ok.T11 := by kernel_rfl
theorem rhold_ok.bits11 : waitsOk rhold_ok.T11.2 rhold_ok.B11 = true := by kernel_rfl
def rhold_ok.T13 : Bool × List (List Nat × List Nat) := (true, [([], []), ([], []), ([], []), ([2], [2]), ([3], [3]), ([4], [4]), ([], []), ([5, 6], [5, 6]), ([1, 7], [1, 7]), ([], []), ([9], [9]), ([8, 10, 8], [8, 10]), ([], []), ([12], [12]), ([13], [13]), ([14], [14]), ([], []), ([15, 16], [15, 16]), ([11, 17, 11], [11, 17]), ([0, 0, 1, 2, 3, 4, 5, 6, 7, 8, 9, 10, 11, 12, 13, 14, 15, 16, 17, 18], [0]), ([19, 0, 1, 2, 3, 4, 5, 6, 7, 8, 9, 10, 11, 12, 13, 14, 15, 16, 17, 18], [19]), ([20, 18, 18, 0, 1, 2, 3, 4, 5, 6, 7, 8, 9, 10, 11, 12, 13, 14, 15, 16, 17, 18], [18, 20])])
def rhold_ok.B13 : List Nat := [0, 0, 0, 4, 12, 28, 0, 124, 254, 0, 512, 2046, 0, 4096, 12288, 28672, 0, 126976, 262142, 524287, 1048575, 2097151]
theorem rhold_ok.tab13 : rtab .any (opsOf Try.f18 13) = rhold_ok.T13 := by kernel_rfl
theorem rhold_ok.bits13 : waitsOk rhold_ok.T13.2 rhold_ok.B13 = true := by kernel_rfl
def rhold_nil.T11 : Bool × List (List Nat × List Nat) := (true, [([], []), ([], []), ([1], [1]), ([2], [2]), ([3], [3]), ([4], [4]), ([0, 5], [0, 5]), ([6], [6]), ([7], [7]), ([8, 7], [7, 8]), ([9, 7], [7, 9]), ([10, 7], [7, 10]), ([7], [7]), ([11, 12, 7], [7, 11, 12]), ([13, 7], [7, 13]), ([7], [7]), ([14, 15, 7, 7], [7, 14, 15]), ([7, 16], [7, 16])])
def rhold_nil.B11 : List Nat := [0, 0, 2, 6, 14, 30, 63, 127, 255, 511, 1023, 2047, 255, 8191, 16383, 255, 65535, 131071]
theorem rhold_nil.tab11 : rtab .any (opsOf Try.f18 11) = rhold_nil.T11 := by kernel_rfl
theorem rhold_nil.bits11 : waitsOk rhold_nil.T11.2 rhold_nil.B11 = true := by kernel_rfl
def rhold_nil.T13 : Bool × List (List Nat × List Nat) := (true, [([], []), ([], []), ([], []), ([2], [2]), ([3], [3]), ([4], [4]), ([], []), ([5, 6], [5, 6]), ([1, 7], [1, 7]), ([], []), ([9], [9]), ([8, 10, 8], [8, 10]), ([], []), ([12], [12]), ([13], [13]), ([14], [14]), ([], []), ([15, 16], [15, 16]), ([11, 17, 11], [11, 17]), ([0, 0, 1, 2, 3, 4, 5, 6, 7, 8, 9, 10, 11, 12, 13, 14, 15, 16, 17, 18], [0]), ([19, 0, 1, 2, 3, 4, 5, 6, 7, 8, 9, 10, 11, 12, 13, 14, 15, 16, 17, 18], [19]), ([20, 18, 18, 0, 1, 2, 3, 4, 5, 6, 7, 8, 9, 10, 11, 12, 13, 14, 15, 16, 17, 18], [18, 20])])
def rhold_nil.B13 : List Nat := [0, 0, 0, 4, 12, 28, 0, 124, 254, 0, 512, 2046, 0, 4096, 12288, 28672, 0, 126976, 262142, 524287, 1048575, 2097151]
theorem rhold_nil.tab13 : rtab .any (opsOf Try.f18 13) = rhold_nil.T13 := by kernel_rfl
theorem rhold_nil.bits13 : waitsOk rhold_nil.T13.2 rhold_nil.B13 = true := by kernel_rfl
set_option maxRecDepth 100000 in
set_option maxHeartbeats 16000000 in
theorem rhold_ok (g n gr cap : Nat) (most : Int) (hs : List EP) (p : EP) (w0 w : World) (h : RefB w0 w g most (.slice (some ⟨gr, 0, none⟩) n cap) hs) (hn : hs.length = n) (hl : n ≤ 100000) (hr : Rd w0 p.b p.e.f5) (hright : rightE p.e = true) (hno : ∀ q ∈ hs, keyE q.e ≠ keyE p.e) (hfull : ¬ most ≤ n) :
    Calls Try.prog 18 #[.pointer (some ⟨g, 0, none⟩), enV p] w fun e w' => e = .returned (.int .i64 0) ∧ RHoldP w0 w g most hs p w' := by
  have HH := Aside0.mk h
  have HN := Aside0.mk hn
  have HL := Aside0.mk hl
  have HW0 : Aside0 (Below w0.heap.size w0 w) := ⟨h.bel⟩
  have HR00 := Aside0.mk hr
  have HR0 : Aside0 (Rd w p.b p.e.f5) := ⟨hr.below h.bel⟩
  have HRT : Aside0 (rightE p.e = true) := ⟨hright⟩
  have HNO := Aside0.mk hno
  clear h hn hl hr hright hno
  simp only [enV]
  go_enter Try.func18, Try.ntmps18
  go_upto_region 1 with fail
  refine gen_world (fun W2 hW2 => ?_)
  have hB2 : Below w.heap.size w W2 := by rw [hW2]; with_reducible exact below_alloc (Below.refl _ _) _
  have hx2 : W2.heap[w.heap.size]? = some (.cells #[.int .i64 p.e.f0, .int .i64 p.e.f1, .int .u64 p.e.f2, .int .i64 p.e.f3.f0, .int .i64 p.e.f3.f1, .int .i64 p.e.f4, .slice p.A p.e.f5.length p.c, .int .u64 p.e.f6] 33 (0, 0)) := by rw [hW2]; with_reducible exact heap_alloc_new _ _
  obtain ⟨g3, hg3⟩ : ∃ g, g = w.heap.size := ⟨_, rfl⟩
  rw [← hg3] at hx2 ⊢
  obtain ⟨x0, x1, x2, x3, x4, x5, x6, x7, -⟩ := cells8z hx2
  have HX2 := Aside0.mk hx2
  have HB2 := Aside0.mk hB2
  clear hW2 hB2 hx2 hg3
  go_upto_region 8 with (first
    | (go_at_call 35; go_must (refine (fright_calls p _ (HR0.out.below HB2.out)).mono ?_; rw [HRT.out]; rintro e w9 ⟨rfl, hb⟩; have HX9 := Aside0.mk (blk_below HX2.out hb); obtain ⟨x0, x1, x2, x3, x4, x5, x6, x7, -⟩ := cells8z HX9.out; have HB9 : Aside0 (Below w.heap.size w w9) := ⟨HB2.out.trans (hb.mono HB2.out.size)⟩; clear hb))
    | (go_at_call 36; go_must (refine (rfind_calls g n most _ cap hs p.e.f0 p.e.f1 w0 _ (HH.out.below HB9.out) HN.out HL.out).mono ?_; rintro e w14 ⟨r, rfl, hr, hb⟩; obtain rfl := fnd_no hr HNO.out; have HX14 := Aside0.mk (blk_below HX9.out hb); obtain ⟨x0, x1, x2, x3, x4, x5, x6, x7, -⟩ := cells8z HX14.out; have HB14 : Aside0 (Below w.heap.size w w14) := ⟨HB9.out.trans (hb.mono HB9.out.size)⟩; clear hr hb)))
  have HP14 := Aside0.mk (HH.out.below HB14.out)
  have c14 := HP14.out.cell
  have m14 := HP14.out.cell0
  clear x0 x1 x2 x3 x4 x5 x6 x7
  go_quiet (fail)
  go_upto_region 10 with fail
  clear hfull
  refine gen_world (fun W5 hW5 => ?_)
  have hB5 : Below w14.heap.size w14 W5 := by rw [hW5]; with_reducible repeat (first | exact Below.refl _ _ | apply pw_below_drewN)
  have HB5 := Aside0.mk hB5
  clear hW5 hB5 c14 m14
  go_wp2
  go_loopg [6] n (fun gg v6 wr => ∃ k : Nat, gg = n - k ∧ v6 = .int .i64 k ∧ k ≤ n ∧ Aside0 (∀ q ∈ hs.take k, ltK (keyE q.e) (keyE p.e)) ∧ Aside0 (Below w14.heap.size w14 wr))
  case atStart => exact ⟨0, by simp, rfl, Nat.zero_le _, ⟨by simp⟩, HB5⟩
  case round =>
    clear HB5
    obtain ⟨k, hg, rfl, hkn2, HT, HB⟩ := hrel
    have HG := Aside0.mk hg
    clear hg
    by_cases hkn : k < n
    · obtain ⟨q, hq⟩ : ∃ q, hs[k]? = some q := ⟨_, List.getElem?_eq_getElem (by have := HN.out; omega)⟩
      have HQ := Aside0.mk hq
      clear hq
      have hknZ : (k : Int) < n := by omega
      have hk0 : (0 : Int) ≤ k := by omega
      have hkb : decide ((k : Int) < (n : Int)) = true := by simpa using hkn
      go_upto_region 11 with fail
      refine gen_world (fun wx hwx => ?_)
      have HBX : Aside0 (Below w14.heap.size w14 wx ∧ w0.heap.size ≤ wx.heap.size) := ⟨by
        have h : Below w14.heap.size w14 wx := by rw [hwx]; with_reducible repeat (first | exact HB.out | apply pw_below_drewN | apply below_drew1)
        exact ⟨h, Nat.le_trans HP14.out.bel.size h.size⟩⟩
      have HHX := Aside0.mk (HP14.out.below HBX.out.1)
      have hc := HHX.out.cell
      have HXX := Aside0.mk (blk_below HX14.out HBX.out.1)
      obtain ⟨x0, x1, x2, x3, x4, x5, x6, x7, -⟩ := cells8z HXX.out
      have hrow := HHX.out.row
      rw [← HN.out] at hrow
      obtain ⟨gr', hgr, y0, y1, y2, y3, y4, y5, y6, y7⟩ := hrow.at HQ.out
      injection hgr with hgr
      injection hgr with hgr
      subst hgr
      clear hrow hwx
      have HRQ : Aside0 (Rd wx q.b q.e.f5) := ⟨HHX.out.rdp (List.mem_of_getElem? HQ.out)⟩
      have HRP : Aside0 (Rd wx p.b p.e.f5) := ⟨HR0.out.below (HB14.out.trans (HBX.out.1.mono HB14.out.size))⟩
      have HBX1 : Aside0 (Below w14.heap.size w14 wx) := ⟨HBX.out.1⟩
      clear HBX
      by_cases hlt : ltK (keyE q.e) (keyE p.e)
      · have HLT := Aside0.mk hlt
        clear hlt
        refine start_ (n := 18) (S := fun w' => w'.cell? ⟨g, 1, none⟩ = some (.slice (some ⟨gr, 0, none⟩) n cap) ∧ w'.cell? ⟨gr, k * 8, none⟩ = some (.int .i64 q.e.f0) ∧ w'.cell? ⟨gr, k * 8 + 1, none⟩ = some (.int .i64 q.e.f1) ∧ w'.cell? ⟨gr, k * 8 + 2, none⟩ = some (.int .u64 q.e.f2) ∧ w'.cell? ⟨gr, k * 8 + 3, none⟩ = some (.int .i64 q.e.f3.f0) ∧ w'.cell? ⟨gr, k * 8 + 4, none⟩ = some (.int .i64 q.e.f3.f1) ∧ w'.cell? ⟨gr, k * 8 + 5, none⟩ = some (.int .i64 q.e.f4) ∧ w'.cell? ⟨gr, k * 8 + 6, none⟩ = some (.slice q.A q.e.f5.length q.c) ∧ w'.cell? ⟨gr, k * 8 + 7, none⟩ = some (.int .u64 q.e.f6) ∧ w'.cell? ⟨g3, 0, none⟩ = some (.int .i64 p.e.f0) ∧ w'.cell? ⟨g3, 1, none⟩ = some (.int .i64 p.e.f1) ∧ w'.cell? ⟨g3, 2, none⟩ = some (.int .u64 p.e.f2) ∧ w'.cell? ⟨g3, 3, none⟩ = some (.int .i64 p.e.f3.f0) ∧ w'.cell? ⟨g3, 4, none⟩ = some (.int .i64 p.e.f3.f1) ∧ w'.cell? ⟨g3, 5, none⟩ = some (.int .i64 p.e.f4) ∧ w'.cell? ⟨g3, 6, none⟩ = some (.slice p.A p.e.f5.length p.c) ∧ w'.cell? ⟨g3, 7, none⟩ = some (.int .u64 p.e.f6)) (ds := []) #[false, false, false, false, false, false, false, false, false, false, false, false, false, false, false, false, false, false] (by kernel_rfl) rfl rfl ⟨hc, y0, y1, y2, y3, y4, y5, y6, y7, x0, x1, x2, x3, x4, x5, x6, x7⟩ (fun hHeld => ?_)
        refine with_tabW rhold_ok.tab11 rhold_ok.bits11 (fun HT_ HW_ => ?_)
        refine pure_ (i := 0) (N := some 37) (v := ?_) (a' := ?_) #[true, false, false, false, false, false, false, false, false, false, false, false, false, false, false, false, false, false] rfl rfl (any_of HT_.out (by kernel_rfl)) (fun _ _ _ h => h) (Or.inl ⟨by rfl, ?_⟩) ?_ ?_
        rotate_left
        · intro w'
          go_simp
          with_reducible rfl
        rotate_left
        · simp only [Act.put, List.setIfInBounds_toArray, List.set_cons_zero, List.set_cons_succ, i64_w, i32_w]
          rfl
        refine pure_ (i := 1) (N := some 38) (v := ?_) (a' := ?_) #[true, true, false, false, false, false, false, false, false, false, false, false, false, false, false, false, false, false] rfl rfl (any_of HT_.out (by kernel_rfl)) (fun _ _ _ h => h) (Or.inl ⟨by rfl, ?_⟩) ?_ ?_
        rotate_left
        · intro w'
          go_simp
          with_reducible rfl
        rotate_left
        · simp only [Act.put, List.setIfInBounds_toArray, List.set_cons_zero, List.set_cons_succ, i64_w, i32_w]
          rfl
        refine pure_ (i := 2) (N := some 39) (v := ?_) (a' := ?_) #[true, true, true, false, false, false, false, false, false, false, false, false, false, false, false, false, false, false] rfl rfl (any_of HT_.out (by kernel_rfl)) (fun _ _ _ h => h) (Or.inl ⟨by rfl, ?_⟩) ?_ ?_
        rotate_left
        · intro w'
          go_simp
          with_reducible rfl
        rotate_left
        · simp only [Act.put, List.setIfInBounds_toArray, List.set_cons_zero, List.set_cons_succ, i64_w, i32_w]
          rfl
        refine pure_ (i := 3) (N := some 40) (v := ?_) (a' := ?_) #[true, true, true, true, false, false, false, false, false, false, false, false, false, false, false, false, false, false] rfl rfl (any_of HT_.out (by kernel_rfl)) (fun _ _ _ h => h) (Or.inl ⟨by rfl, ?_⟩) ?_ ?_
        rotate_left
        · intro w'
          go_simp
          with_reducible rfl
        rotate_left
        · simp only [Act.put, List.setIfInBounds_toArray, List.set_cons_zero, List.set_cons_succ, i64_w, i32_w]
          rfl
        refine take_ (i := 4) (N := some 41) (v := ?_) (a' := ?_) #[true, true, true, true, true, false, false, false, false, false, false, false, false, false, false, false, false, false] rfl rfl (take_ofW HT_.out HW_.out (by kernel_rfl)) (fun _ _ _ h => h) (Or.inl ⟨by rfl, ?_⟩) hHeld ?_ ?_
        rotate_left
        · rintro w' ⟨s0, s1, s2, s3, s4, s5, s6, s7, s8, s9, s10, s11, s12, s13, s14, s15, s16⟩
          go_simp
          with_reducible rfl
        rotate_left
        · simp only [Act.put, List.setIfInBounds_toArray, List.set_cons_zero, List.set_cons_succ, i64_w, i32_w]
          rfl
        refine pure_ (i := 5) (N := some 42) (v := ?_) (a' := ?_) #[true, true, true, true, true, true, false, false, false, false, false, false, false, false, false, false, false, false] rfl rfl (any_of HT_.out (by kernel_rfl)) (fun _ _ _ h => h) (Or.inl ⟨by rfl, ?_⟩) ?_ ?_
        rotate_left
        · intro w'
          go_simp
          with_reducible rfl
        rotate_left
        · simp only [Act.put, List.setIfInBounds_toArray, List.set_cons_zero, List.set_cons_succ, i64_w, i32_w]
          rfl
        refine pure_ (i := 6) (N := some 43) (v := ?_) (a' := ?_) #[true, true, true, true, true, true, true, false, false, false, false, false, false, false, false, false, false, false] rfl rfl (any_of HT_.out (by kernel_rfl)) (fun _ _ _ h => h) (Or.inl ⟨by rfl, ?_⟩) ?_ ?_
        rotate_left
        · intro w'
          go_simp
          with_reducible rfl
        rotate_left
        · simp only [Act.put, List.setIfInBounds_toArray, List.set_cons_zero, List.set_cons_succ, i64_w, i32_w]
          rfl
        refine pure_ (i := 7) (N := some 44) (v := ?_) (a' := ?_) #[true, true, true, true, true, true, true, true, false, false, false, false, false, false, false, false, false, false] rfl rfl (any_of HT_.out (by kernel_rfl)) (fun _ _ _ h => h) (Or.inl ⟨by rfl, ?_⟩) ?_ ?_
        rotate_left
        · intro w'
          go_simp
          with_reducible rfl
        rotate_left
        · simp only [Act.put, List.setIfInBounds_toArray, List.set_cons_zero, List.set_cons_succ, i64_w, i32_w]
          rfl
        refine pure_ (i := 8) (N := some 45) (v := ?_) (a' := ?_) #[true, true, true, true, true, true, true, true, true, false, false, false, false, false, false, false, false, false] rfl rfl (any_of HT_.out (by kernel_rfl)) (fun _ _ _ h => h) (Or.inl ⟨by rfl, ?_⟩) ?_ ?_
        rotate_left
        · intro w'
          go_simp
          with_reducible rfl
        rotate_left
        · simp only [Act.put, List.setIfInBounds_toArray, List.set_cons_zero, List.set_cons_succ, i64_w, i32_w]
          rfl
        refine pure_ (i := 9) (N := some 46) (v := ?_) (a' := ?_) #[true, true, true, true, true, true, true, true, true, true, false, false, false, false, false, false, false, false] rfl rfl (any_of HT_.out (by kernel_rfl)) (fun _ _ _ h => h) (Or.inl ⟨by rfl, ?_⟩) ?_ ?_
        rotate_left
        · intro w'
          go_simp
          with_reducible rfl
        rotate_left
        · simp only [Act.put, List.setIfInBounds_toArray, List.set_cons_zero, List.set_cons_succ, i64_w, i32_w]
          rfl
        refine pure_ (i := 10) (N := some 47) (v := ?_) (a' := ?_) #[true, true, true, true, true, true, true, true, true, true, true, false, false, false, false, false, false, false] rfl rfl (any_of HT_.out (by kernel_rfl)) (fun _ _ _ h => h) (Or.inl ⟨by rfl, ?_⟩) ?_ ?_
        rotate_left
        · intro w'
          go_simp
          with_reducible rfl
        rotate_left
        · simp only [Act.put, List.setIfInBounds_toArray, List.set_cons_zero, List.set_cons_succ, i64_w, i32_w]
          rfl
        refine pure_ (i := 12) (N := some 49) (v := ?_) (a' := ?_) #[true, true, true, true, true, true, true, true, true, true, true, false, true, false, false, false, false, false] rfl rfl (any_of HT_.out (by kernel_rfl)) (fun _ _ _ h => h) (Or.inl ⟨by rfl, ?_⟩) ?_ ?_
        rotate_left
        · intro w'
          go_simp
          with_reducible rfl
        rotate_left
        · simp only [Act.put, List.setIfInBounds_toArray, List.set_cons_zero, List.set_cons_succ, i64_w, i32_w]
          rfl
        refine take_ (i := 11) (N := some 48) (v := ?_) (a' := ?_) #[true, true, true, true, true, true, true, true, true, true, true, true, true, false, false, false, false, false] rfl rfl (take_ofW HT_.out HW_.out (by kernel_rfl)) (fun _ _ _ h => h) (Or.inl ⟨by rfl, ?_⟩) hHeld ?_ ?_
        rotate_left
        · rintro w' ⟨s0, s1, s2, s3, s4, s5, s6, s7, s8, s9, s10, s11, s12, s13, s14, s15, s16⟩
          go_simp
          with_reducible rfl
        rotate_left
        · simp only [Act.put, List.setIfInBounds_toArray, List.set_cons_zero, List.set_cons_succ, i64_w, i32_w]
          rfl
        refine pure_ (i := 13) (N := some 50) (v := ?_) (a' := ?_) #[true, true, true, true, true, true, true, true, true, true, true, true, true, true, false, false, false, false] rfl rfl (any_of HT_.out (by kernel_rfl)) (fun _ _ _ h => h) (Or.inl ⟨by rfl, ?_⟩) ?_ ?_
        rotate_left
        · intro w'
          go_simp
          with_reducible rfl
        rotate_left
        · simp only [Act.put, List.setIfInBounds_toArray, List.set_cons_zero, List.set_cons_succ, i64_w, i32_w]
          rfl
        refine take_ (i := 14) (N := some 51) (v := ?_) (a' := ?_) #[true, true, true, true, true, true, true, true, true, true, true, true, true, true, true, false, false, false] rfl rfl (take_ofW HT_.out HW_.out (by kernel_rfl)) (fun _ _ _ h => h) (Or.inl ⟨by rfl, ?_⟩) hHeld ?_ ?_
        rotate_left
        · rintro w' ⟨s0, s1, s2, s3, s4, s5, s6, s7, s8, s9, s10, s11, s12, s13, s14, s15, s16⟩
          go_simp
          with_reducible rfl
        rotate_left
        · simp only [Act.put, List.setIfInBounds_toArray, List.set_cons_zero, List.set_cons_succ, i64_w, i32_w]
          rfl
        refine take_ (i := 15) (N := some 52) (v := ?_) (a' := ?_) #[true, true, true, true, true, true, true, true, true, true, true, true, true, true, true, true, false, false] rfl rfl (take_ofW HT_.out HW_.out (by kernel_rfl)) (fun _ _ _ h => h) (Or.inl ⟨by rfl, ?_⟩) hHeld ?_ ?_
        rotate_left
        · rintro w' ⟨s0, s1, s2, s3, s4, s5, s6, s7, s8, s9, s10, s11, s12, s13, s14, s15, s16⟩
          go_simp
          with_reducible rfl
        rotate_left
        · simp only [Act.put, List.setIfInBounds_toArray, List.set_cons_zero, List.set_cons_succ, i64_w, i32_w]
          rfl
        refine one_ (i := 16) (N := some 53) #[true, true, true, true, true, true, true, true, true, true, true, true, true, true, true, true, true, false] rfl rfl (one_of HT_.out (by kernel_rfl)) (by decide) (fun K hK => ?_)
        refine goes_ Try.func37 (by kernel_rfl) rfl #[.agg #[.int .i64 q.e.f0, .int .i64 q.e.f1, .int .u64 q.e.f2, .int .i64 q.e.f3.f0, .int .i64 q.e.f3.f1, .int .i64 q.e.f4, .slice q.A q.e.f5.length q.c, .int .u64 q.e.f6], .agg #[.int .i64 p.e.f0, .int .i64 p.e.f1, .int .u64 p.e.f2, .int .i64 p.e.f3.f0, .int .i64 p.e.f3.f1, .int .i64 p.e.f4, .slice p.A p.e.f5.length p.c, .int .u64 p.e.f6]] (by rfl) rfl rfl (by simp only [List.map_toArray, List.map_cons, List.map_nil]; rfl) ?_
        with_reducible refine (rless_true q p _ (HRQ.out.below (below_drew1 (Below.refl _ _))) (HRP.out.below (below_drew1 (Below.refl _ _))) HLT.out).mono ?_
        rintro e w3 ⟨rfl, hb3⟩
        refine ⟨_, rfl, ?_⟩
        refine hK.out _ _ ⟨(pw_cell_below hb3 hc), (pw_cell_below hb3 y0), (pw_cell_below hb3 y1), (pw_cell_below hb3 y2), (pw_cell_below hb3 y3), (pw_cell_below hb3 y4), (pw_cell_below hb3 y5), (pw_cell_below hb3 y6), (pw_cell_below hb3 y7), (pw_cell_below hb3 x0), (pw_cell_below hb3 x1), (pw_cell_below hb3 x2), (pw_cell_below hb3 x3), (pw_cell_below hb3 x4), (pw_cell_below hb3 x5), (pw_cell_below hb3 x6), (pw_cell_below hb3 x7)⟩ (fun hHeld => ?_)
        clear hK K
        refine norm_ (a' := ?_) ?_ ?_
        rotate_left
        · show Act.put _ (some 53) _ = _
          simp only [Act.put, List.setIfInBounds_toArray, List.set_cons_zero, List.set_cons_succ, i64_w, i32_w]
          rfl
        refine pure_ (i := 17) (N := some 54) (v := ?_) (a' := ?_) #[true, true, true, true, true, true, true, true, true, true, true, true, true, true, true, true, true, true] rfl rfl (any_of HT_.out (by kernel_rfl)) (fun _ _ _ h => h) (Or.inl ⟨by rfl, ?_⟩) ?_ ?_
        rotate_left
        · intro w'
          go_simp
          with_reducible rfl
        rotate_left
        · simp only [Act.put, List.setIfInBounds_toArray, List.set_cons_zero, List.set_cons_succ, i64_w, i32_w]
          rfl
        refine done_ (done_of HT_.out (by kernel_rfl)) ?_
        have HBK : Aside0 (Below w14.heap.size w14 w3) := ⟨below_step (below_drew1 HBX1.out) hb3⟩
        clear hb3
        have hk : (-1000000 : Int) ≤ (k : Int) + 1 ∧ (k : Int) + 1 ≤ 1000000 := by have := HL.out; omega
        have hw1 := iw (x := (k : Int) + 1) rfl hk
        have hw2 := w64 (x := (k : Int) + 1) rfl hk
        have HKN := Aside0.mk hkn
        clear hk hkn hknZ hk0 hkb hkn2 hc x0 x1 x2 x3 x4 x5 x6 x7 y0 y1 y2 y3 y4 y5 y6 y7
        go_wp2
        clear hw1 hw2
        go_roundg (n - (k + 1))
        case measure => rw [HG.out]; have := HKN.out; omega
        case rel => exact ⟨k + 1, rfl, by simp, by have := HKN.out; omega, ⟨fun q' hq' => by
          rw [take_next HQ.out, List.mem_append, List.mem_singleton] at hq'
          rcases hq' with hq' | hq'
          · exact HT.out q' hq'
          · rw [hq']
            exact HLT.out⟩, ⟨by with_reducible repeat (first | exact HBK.out | apply pw_below_drewN | apply below_drew1)⟩⟩
      · have HLT := Aside0.mk hlt
        clear hlt
        refine start_ (n := 18) (S := fun w' => w'.cell? ⟨g, 1, none⟩ = some (.slice (some ⟨gr, 0, none⟩) n cap) ∧ w'.cell? ⟨gr, k * 8, none⟩ = some (.int .i64 q.e.f0) ∧ w'.cell? ⟨gr, k * 8 + 1, none⟩ = some (.int .i64 q.e.f1) ∧ w'.cell? ⟨gr, k * 8 + 2, none⟩ = some (.int .u64 q.e.f2) ∧ w'.cell? ⟨gr, k * 8 + 3, none⟩ = some (.int .i64 q.e.f3.f0) ∧ w'.cell? ⟨gr, k * 8 + 4, none⟩ = some (.int .i64 q.e.f3.f1) ∧ w'.cell? ⟨gr, k * 8 + 5, none⟩ = some (.int .i64 q.e.f4) ∧ w'.cell? ⟨gr, k * 8 + 6, none⟩ = some (.slice q.A q.e.f5.length q.c) ∧ w'.cell? ⟨gr, k * 8 + 7, none⟩ = some (.int .u64 q.e.f6) ∧ w'.cell? ⟨g3, 0, none⟩ = some (.int .i64 p.e.f0) ∧ w'.cell? ⟨g3, 1, none⟩ = some (.int .i64 p.e.f1) ∧ w'.cell? ⟨g3, 2, none⟩ = some (.int .u64 p.e.f2) ∧ w'.cell? ⟨g3, 3, none⟩ = some (.int .i64 p.e.f3.f0) ∧ w'.cell? ⟨g3, 4, none⟩ = some (.int .i64 p.e.f3.f1) ∧ w'.cell? ⟨g3, 5, none⟩ = some (.int .i64 p.e.f4) ∧ w'.cell? ⟨g3, 6, none⟩ = some (.slice p.A p.e.f5.length p.c) ∧ w'.cell? ⟨g3, 7, none⟩ = some (.int .u64 p.e.f6)) (ds := []) #[false, false, false, false, false, false, false, false, false, false, false, false, false, false, false, false, false, false] (by kernel_rfl) rfl rfl ⟨hc, y0, y1, y2, y3, y4, y5, y6, y7, x0, x1, x2, x3, x4, x5, x6, x7⟩ (fun hHeld => ?_)
        refine with_tabW rhold_ok.tab11 rhold_ok.bits11 (fun HT_ HW_ => ?_)
        refine pure_ (i := 0) (N := some 37) (v := ?_) (a' := ?_) #[true, false, false, false, false, false, false, false, false, false, false, false, false, false, false, false, false, false] rfl rfl (any_of HT_.out (by kernel_rfl)) (fun _ _ _ h => h) (Or.inl ⟨by rfl, ?_⟩) ?_ ?_
        rotate_left
        · intro w'
          go_simp
          with_reducible rfl
        rotate_left
        · simp only [Act.put, List.setIfInBounds_toArray, List.set_cons_zero, List.set_cons_succ, i64_w, i32_w]
          rfl
        refine pure_ (i := 1) (N := some 38) (v := ?_) (a' := ?_) #[true, true, false, false, false, false, false, false, false, false, false, false, false, false, false, false, false, false] rfl rfl (any_of HT_.out (by kernel_rfl)) (fun _ _ _ h => h) (Or.inl ⟨by rfl, ?_⟩) ?_ ?_
        rotate_left
        · intro w'
          go_simp
          with_reducible rfl
        rotate_left
        · simp only [Act.put, List.setIfInBounds_toArray, List.set_cons_zero, List.set_cons_succ, i64_w, i32_w]
          rfl
        refine pure_ (i := 2) (N := some 39) (v := ?_) (a' := ?_) #[true, true, true, false, false, false, false, false, false, false, false, false, false, false, false, false, false, false] rfl rfl (any_of HT_.out (by kernel_rfl)) (fun _ _ _ h => h) (Or.inl ⟨by rfl, ?_⟩) ?_ ?_
        rotate_left
        · intro w'
          go_simp
          with_reducible rfl
        rotate_left
        · simp only [Act.put, List.setIfInBounds_toArray, List.set_cons_zero, List.set_cons_succ, i64_w, i32_w]
          rfl
        refine pure_ (i := 3) (N := some 40) (v := ?_) (a' := ?_) #[true, true, true, true, false, false, false, false, false, false, false, false, false, false, false, false, false, false] rfl rfl (any_of HT_.out (by kernel_rfl)) (fun _ _ _ h => h) (Or.inl ⟨by rfl, ?_⟩) ?_ ?_
        rotate_left
        · intro w'
          go_simp
          with_reducible rfl
        rotate_left
        · simp only [Act.put, List.setIfInBounds_toArray, List.set_cons_zero, List.set_cons_succ, i64_w, i32_w]
          rfl
        refine take_ (i := 4) (N := some 41) (v := ?_) (a' := ?_) #[true, true, true, true, true, false, false, false, false, false, false, false, false, false, false, false, false, false] rfl rfl (take_ofW HT_.out HW_.out (by kernel_rfl)) (fun _ _ _ h => h) (Or.inl ⟨by rfl, ?_⟩) hHeld ?_ ?_
        rotate_left
        · rintro w' ⟨s0, s1, s2, s3, s4, s5, s6, s7, s8, s9, s10, s11, s12, s13, s14, s15, s16⟩
          go_simp
          with_reducible rfl
        rotate_left
        · simp only [Act.put, List.setIfInBounds_toArray, List.set_cons_zero, List.set_cons_succ, i64_w, i32_w]
          rfl
        refine pure_ (i := 5) (N := some 42) (v := ?_) (a' := ?_) #[true, true, true, true, true, true, false, false, false, false, false, false, false, false, false, false, false, false] rfl rfl (any_of HT_.out (by kernel_rfl)) (fun _ _ _ h => h) (Or.inl ⟨by rfl, ?_⟩) ?_ ?_
        rotate_left
        · intro w'
          go_simp
          with_reducible rfl
        rotate_left
        · simp only [Act.put, List.setIfInBounds_toArray, List.set_cons_zero, List.set_cons_succ, i64_w, i32_w]
          rfl
        refine pure_ (i := 6) (N := some 43) (v := ?_) (a' := ?_) #[true, true, true, true, true, true, true, false, false, false, false, false, false, false, false, false, false, false] rfl rfl (any_of HT_.out (by kernel_rfl)) (fun _ _ _ h => h) (Or.inl ⟨by rfl, ?_⟩) ?_ ?_
        rotate_left
        · intro w'
          go_simp
          with_reducible rfl
        rotate_left
        · simp only [Act.put, List.setIfInBounds_toArray, List.set_cons_zero, List.set_cons_succ, i64_w, i32_w]
          rfl
        refine pure_ (i := 7) (N := some 44) (v := ?_) (a' := ?_) #[true, true, true, true, true, true, true, true, false, false, false, false, false, false, false, false, false, false] rfl rfl (any_of HT_.out (by kernel_rfl)) (fun _ _ _ h => h) (Or.inl ⟨by rfl, ?_⟩) ?_ ?_
        rotate_left
        · intro w'
          go_simp
          with_reducible rfl
        rotate_left
        · simp only [Act.put, List.setIfInBounds_toArray, List.set_cons_zero, List.set_cons_succ, i64_w, i32_w]
          rfl
        refine pure_ (i := 8) (N := some 45) (v := ?_) (a' := ?_) #[true, true, true, true, true, true, true, true, true, false, false, false, false, false, false, false, false, false] rfl rfl (any_of HT_.out (by kernel_rfl)) (fun _ _ _ h => h) (Or.inl ⟨by rfl, ?_⟩) ?_ ?_
        rotate_left
        · intro w'
          go_simp
          with_reducible rfl
        rotate_left
        · simp only [Act.put, List.setIfInBounds_toArray, List.set_cons_zero, List.set_cons_succ, i64_w, i32_w]
          rfl
        refine pure_ (i := 9) (N := some 46) (v := ?_) (a' := ?_) #[true, true, true, true, true, true, true, true, true, true, false, false, false, false, false, false, false, false] rfl rfl (any_of HT_.out (by kernel_rfl)) (fun _ _ _ h => h) (Or.inl ⟨by rfl, ?_⟩) ?_ ?_
        rotate_left
        · intro w'
          go_simp
          with_reducible rfl
        rotate_left
        · simp only [Act.put, List.setIfInBounds_toArray, List.set_cons_zero, List.set_cons_succ, i64_w, i32_w]
          rfl
        refine pure_ (i := 10) (N := some 47) (v := ?_) (a' := ?_) #[true, true, true, true, true, true, true, true, true, true, true, false, false, false, false, false, false, false] rfl rfl (any_of HT_.out (by kernel_rfl)) (fun _ _ _ h => h) (Or.inl ⟨by rfl, ?_⟩) ?_ ?_
        rotate_left
        · intro w'
          go_simp
          with_reducible rfl
        rotate_left
        · simp only [Act.put, List.setIfInBounds_toArray, List.set_cons_zero, List.set_cons_succ, i64_w, i32_w]
          rfl
        refine pure_ (i := 12) (N := some 49) (v := ?_) (a' := ?_) #[true, true, true, true, true, true, true, true, true, true, true, false, true, false, false, false, false, false] rfl rfl (any_of HT_.out (by kernel_rfl)) (fun _ _ _ h => h) (Or.inl ⟨by rfl, ?_⟩) ?_ ?_
        rotate_left
        · intro w'
          go_simp
          with_reducible rfl
        rotate_left
        · simp only [Act.put, List.setIfInBounds_toArray, List.set_cons_zero, List.set_cons_succ, i64_w, i32_w]
          rfl
        refine take_ (i := 11) (N := some 48) (v := ?_) (a' := ?_) #[true, true, true, true, true, true, true, true, true, true, true, true, true, false, false, false, false, false] rfl rfl (take_ofW HT_.out HW_.out (by kernel_rfl)) (fun _ _ _ h => h) (Or.inl ⟨by rfl, ?_⟩) hHeld ?_ ?_
        rotate_left
        · rintro w' ⟨s0, s1, s2, s3, s4, s5, s6, s7, s8, s9, s10, s11, s12, s13, s14, s15, s16⟩
          go_simp
          with_reducible rfl
        rotate_left
        · simp only [Act.put, List.setIfInBounds_toArray, List.set_cons_zero, List.set_cons_succ, i64_w, i32_w]
          rfl
        refine pure_ (i := 13) (N := some 50) (v := ?_) (a' := ?_) #[true, true, true, true, true, true, true, true, true, true, true, true, true, true, false, false, false, false] rfl rfl (any_of HT_.out (by kernel_rfl)) (fun _ _ _ h => h) (Or.inl ⟨by rfl, ?_⟩) ?_ ?_
        rotate_left
        · intro w'
          go_simp
          with_reducible rfl
        rotate_left
        · simp only [Act.put, List.setIfInBounds_toArray, List.set_cons_zero, List.set_cons_succ, i64_w, i32_w]
          rfl
        refine take_ (i := 14) (N := some 51) (v := ?_) (a' := ?_) #[true, true, true, true, true, true, true, true, true, true, true, true, true, true, true, false, false, false] rfl rfl (take_ofW HT_.out HW_.out (by kernel_rfl)) (fun _ _ _ h => h) (Or.inl ⟨by rfl, ?_⟩) hHeld ?_ ?_
        rotate_left
        · rintro w' ⟨s0, s1, s2, s3, s4, s5, s6, s7, s8, s9, s10, s11, s12, s13, s14, s15, s16⟩
          go_simp
          with_reducible rfl
        rotate_left
        · simp only [Act.put, List.setIfInBounds_toArray, List.set_cons_zero, List.set_cons_succ, i64_w, i32_w]
          rfl
        refine take_ (i := 15) (N := some 52) (v := ?_) (a' := ?_) #[true, true, true, true, true, true, true, true, true, true, true, true, true, true, true, true, false, false] rfl rfl (take_ofW HT_.out HW_.out (by kernel_rfl)) (fun _ _ _ h => h) (Or.inl ⟨by rfl, ?_⟩) hHeld ?_ ?_
        rotate_left
        · rintro w' ⟨s0, s1, s2, s3, s4, s5, s6, s7, s8, s9, s10, s11, s12, s13, s14, s15, s16⟩
          go_simp
          with_reducible rfl
        rotate_left
        · simp only [Act.put, List.setIfInBounds_toArray, List.set_cons_zero, List.set_cons_succ, i64_w, i32_w]
          rfl
        refine one_ (i := 16) (N := some 53) #[true, true, true, true, true, true, true, true, true, true, true, true, true, true, true, true, true, false] rfl rfl (one_of HT_.out (by kernel_rfl)) (by decide) (fun K hK => ?_)
        refine goes_ Try.func37 (by kernel_rfl) rfl #[.agg #[.int .i64 q.e.f0, .int .i64 q.e.f1, .int .u64 q.e.f2, .int .i64 q.e.f3.f0, .int .i64 q.e.f3.f1, .int .i64 q.e.f4, .slice q.A q.e.f5.length q.c, .int .u64 q.e.f6], .agg #[.int .i64 p.e.f0, .int .i64 p.e.f1, .int .u64 p.e.f2, .int .i64 p.e.f3.f0, .int .i64 p.e.f3.f1, .int .i64 p.e.f4, .slice p.A p.e.f5.length p.c, .int .u64 p.e.f6]] (by rfl) rfl rfl (by simp only [List.map_toArray, List.map_cons, List.map_nil]; rfl) ?_
        with_reducible refine (rless_false q p _ (HRQ.out.below (below_drew1 (Below.refl _ _))) (HRP.out.below (below_drew1 (Below.refl _ _))) HLT.out).mono ?_
        rintro e w3 ⟨rfl, hb3⟩
        refine ⟨_, rfl, ?_⟩
        refine hK.out _ _ ⟨(pw_cell_below hb3 hc), (pw_cell_below hb3 y0), (pw_cell_below hb3 y1), (pw_cell_below hb3 y2), (pw_cell_below hb3 y3), (pw_cell_below hb3 y4), (pw_cell_below hb3 y5), (pw_cell_below hb3 y6), (pw_cell_below hb3 y7), (pw_cell_below hb3 x0), (pw_cell_below hb3 x1), (pw_cell_below hb3 x2), (pw_cell_below hb3 x3), (pw_cell_below hb3 x4), (pw_cell_below hb3 x5), (pw_cell_below hb3 x6), (pw_cell_below hb3 x7)⟩ (fun hHeld => ?_)
        clear hK K
        refine norm_ (a' := ?_) ?_ ?_
        rotate_left
        · show Act.put _ (some 53) _ = _
          simp only [Act.put, List.setIfInBounds_toArray, List.set_cons_zero, List.set_cons_succ, i64_w, i32_w]
          rfl
        refine pure_ (i := 17) (N := some 54) (v := ?_) (a' := ?_) #[true, true, true, true, true, true, true, true, true, true, true, true, true, true, true, true, true, true] rfl rfl (any_of HT_.out (by kernel_rfl)) (fun _ _ _ h => h) (Or.inl ⟨by rfl, ?_⟩) ?_ ?_
        rotate_left
        · intro w'
          go_simp
          with_reducible rfl
        rotate_left
        · simp only [Act.put, List.setIfInBounds_toArray, List.set_cons_zero, List.set_cons_succ, i64_w, i32_w]
          rfl
        refine done_ (done_of HT_.out (by kernel_rfl)) ?_
        have HBK : Aside0 (Below w14.heap.size w14 w3) := ⟨below_step (below_drew1 HBX1.out) hb3⟩
        clear hb3 HHX HXX hc x0 x1 x2 x3 x4 x5 x6 x7 y0 y1 y2 y3 y4 y5 y6 y7 HRQ HRP hknZ hk0 hkb
        go_wp2
        go_upto_region 13 with fail
        refine gen_world (fun wx hwx => ?_)
        have HBX : Aside0 (Below w14.heap.size w14 wx ∧ w0.heap.size ≤ wx.heap.size) := ⟨by
          have h : Below w14.heap.size w14 wx := by rw [hwx]; with_reducible repeat (first | exact HBK.out | apply pw_below_drewN | apply below_drew1)
          exact ⟨h, Nat.le_trans HP14.out.bel.size h.size⟩⟩
        have HHX := Aside0.mk (HP14.out.below HBX.out.1)
        have hc := HHX.out.cell
        have HXX := Aside0.mk (blk_below HX14.out HBX.out.1)
        obtain ⟨x0, x1, x2, x3, x4, x5, x6, x7, -⟩ := cells8z HXX.out
        have HBW : Aside0 (Below w.heap.size w wx) := ⟨HB14.out.trans (HBX.out.1.mono HB14.out.size)⟩
        have HKI : Aside0 (k ≤ n ∧ n ≤ 100000 ∧ hs.length = n) := ⟨hkn2, HL.out, HN.out⟩
        have hrow := HHX.out.row
        have HS1 : Aside0 (SrcE wx (.slice (some ⟨gr, 0, none⟩) k cap) (hs.take k)) := ⟨srcE_take hrow HN.out hkn2⟩
        have HS2 : Aside0 (k < cap → SrcE wx (.slice (some ⟨gr, k * 8, none⟩) (n - k) (cap - k)) (hs.drop k)) := ⟨fun _ => srcE_drop hrow HN.out hkn2⟩
        have hnc : n ≤ cap := by
          have h := hrow.cap
          rw [HN.out] at h
          exact h
        clear hrow
        have hkc : k ≤ cap := by omega
        have hkc3 : (k : Int) ≤ cap := by omega
        have h0k : (0 : Int) ≤ k := by omega
        have hknI : (k : Int) ≤ n := by omega
        have hck2 : ¬ cap = k := by omega
        have hck3 : (k : Int) < cap := by omega
        have HS2 := Aside0.mk (HS2.out (by omega))
        clear hwx
        refine start_ (n := 22) (S := fun w' => w'.cell? ⟨g, 1, none⟩ = some (.slice (some ⟨gr, 0, none⟩) n cap) ∧ w'.cell? ⟨g3, 0, none⟩ = some (.int .i64 p.e.f0) ∧ w'.cell? ⟨g3, 1, none⟩ = some (.int .i64 p.e.f1) ∧ w'.cell? ⟨g3, 2, none⟩ = some (.int .u64 p.e.f2) ∧ w'.cell? ⟨g3, 3, none⟩ = some (.int .i64 p.e.f3.f0) ∧ w'.cell? ⟨g3, 4, none⟩ = some (.int .i64 p.e.f3.f1) ∧ w'.cell? ⟨g3, 5, none⟩ = some (.int .i64 p.e.f4) ∧ w'.cell? ⟨g3, 6, none⟩ = some (.slice p.A p.e.f5.length p.c) ∧ w'.cell? ⟨g3, 7, none⟩ = some (.int .u64 p.e.f6)) (ds := [21]) #[false, false, false, false, false, false, false, false, false, false, false, false, false, false, false, false, false, false, false, false, false, false] (by kernel_rfl) rfl rfl ⟨hc, x0, x1, x2, x3, x4, x5, x6, x7⟩ (fun hHeld => ?_)
        refine with_tabW rhold_ok.tab13 rhold_ok.bits13 (fun HT_ HW_ => ?_)
        refine pure_ (i := 0) (N := some 57) (v := ?_) (a' := ?_) #[true, false, false, false, false, false, false, false, false, false, false, false, false, false, false, false, false, false, false, false, false, false] rfl rfl (any_of HT_.out (by kernel_rfl)) (fun _ _ _ h => h) (Or.inl ⟨by rfl, ?_⟩) ?_ ?_
        rotate_left
        · intro w'
          go_simp
          with_reducible rfl
        rotate_left
        · simp only [Act.put, List.setIfInBounds_toArray, List.set_cons_zero, List.set_cons_succ, i64_w, i32_w]
          rfl
        refine pure_ (i := 2) (N := some 59) (v := ?_) (a' := ?_) #[true, false, true, false, false, false, false, false, false, false, false, false, false, false, false, false, false, false, false, false, false, false] rfl rfl (any_of HT_.out (by kernel_rfl)) (fun _ _ _ h => h) (Or.inl ⟨by rfl, ?_⟩) ?_ ?_
        rotate_left
        · intro w'
          go_simp
          with_reducible rfl
        rotate_left
        · simp only [Act.put, List.setIfInBounds_toArray, List.set_cons_zero, List.set_cons_succ, i64_w, i32_w]
          rfl
        refine pure_ (i := 3) (N := some 60) (v := ?_) (a' := ?_) #[true, false, true, true, false, false, false, false, false, false, false, false, false, false, false, false, false, false, false, false, false, false] rfl rfl (any_of HT_.out (by kernel_rfl)) (fun _ _ _ h => h) (Or.inl ⟨by rfl, ?_⟩) ?_ ?_
        rotate_left
        · intro w'
          go_simp
          with_reducible rfl
        rotate_left
        · simp only [Act.put, List.setIfInBounds_toArray, List.set_cons_zero, List.set_cons_succ, i64_w, i32_w]
          rfl
        refine pure_ (i := 4) (N := some 61) (v := ?_) (a' := ?_) #[true, false, true, true, true, false, false, false, false, false, false, false, false, false, false, false, false, false, false, false, false, false] rfl rfl (any_of HT_.out (by kernel_rfl)) (fun _ _ _ h => h) (Or.inl ⟨by rfl, ?_⟩) ?_ ?_
        rotate_left
        · intro w'
          go_simp
          with_reducible rfl
        rotate_left
        · simp only [Act.put, List.setIfInBounds_toArray, List.set_cons_zero, List.set_cons_succ, i64_w, i32_w]
          rfl
        refine pure_ (i := 6) (N := some 63) (v := ?_) (a' := ?_) #[true, false, true, true, true, false, true, false, false, false, false, false, false, false, false, false, false, false, false, false, false, false] rfl rfl (any_of HT_.out (by kernel_rfl)) (fun _ _ _ h => h) (Or.inl ⟨by rfl, ?_⟩) ?_ ?_
        rotate_left
        · intro w'
          go_simp
          with_reducible rfl
        rotate_left
        · simp only [Act.put, List.setIfInBounds_toArray, List.set_cons_zero, List.set_cons_succ, i64_w, i32_w]
          rfl
        refine pure_ (i := 12) (N := some 69) (v := ?_) (a' := ?_) #[true, false, true, true, true, false, true, false, false, false, false, false, true, false, false, false, false, false, false, false, false, false] rfl rfl (any_of HT_.out (by kernel_rfl)) (fun _ _ _ h => h) (Or.inl ⟨by rfl, ?_⟩) ?_ ?_
        rotate_left
        · intro w'
          go_simp
          with_reducible rfl
        rotate_left
        · simp only [Act.put, List.setIfInBounds_toArray, List.set_cons_zero, List.set_cons_succ, i64_w, i32_w]
          rfl
        refine pure_ (i := 13) (N := some 70) (v := ?_) (a' := ?_) #[true, false, true, true, true, false, true, false, false, false, false, false, true, true, false, false, false, false, false, false, false, false] rfl rfl (any_of HT_.out (by kernel_rfl)) (fun _ _ _ h => h) (Or.inl ⟨by rfl, ?_⟩) ?_ ?_
        rotate_left
        · intro w'
          go_simp
          with_reducible rfl
        rotate_left
        · simp only [Act.put, List.setIfInBounds_toArray, List.set_cons_zero, List.set_cons_succ, i64_w, i32_w]
          rfl
        refine pure_ (i := 14) (N := some 71) (v := ?_) (a' := ?_) #[true, false, true, true, true, false, true, false, false, false, false, false, true, true, true, false, false, false, false, false, false, false] rfl rfl (any_of HT_.out (by kernel_rfl)) (fun _ _ _ h => h) (Or.inl ⟨by rfl, ?_⟩) ?_ ?_
        rotate_left
        · intro w'
          go_simp
          with_reducible rfl
        rotate_left
        · simp only [Act.put, List.setIfInBounds_toArray, List.set_cons_zero, List.set_cons_succ, i64_w, i32_w]
          rfl
        refine pure_ (i := 16) (N := some 73) (v := ?_) (a' := ?_) #[true, false, true, true, true, false, true, false, false, false, false, false, true, true, true, false, true, false, false, false, false, false] rfl rfl (any_of HT_.out (by kernel_rfl)) (fun _ _ _ h => h) (Or.inl ⟨by rfl, ?_⟩) ?_ ?_
        rotate_left
        · intro w'
          go_simp
          with_reducible rfl
        rotate_left
        · simp only [Act.put, List.setIfInBounds_toArray, List.set_cons_zero, List.set_cons_succ, i64_w, i32_w]
          rfl
        refine take_ (i := 5) (N := some 62) (v := ?_) (a' := ?_) #[true, false, true, true, true, true, true, false, false, false, false, false, true, true, true, false, true, false, false, false, false, false] rfl rfl (take_ofW HT_.out HW_.out (by kernel_rfl)) (fun _ _ _ h => h) (Or.inl ⟨by rfl, ?_⟩) hHeld ?_ ?_
        rotate_left
        · rintro w' ⟨s0, s1, s2, s3, s4, s5, s6, s7, s8⟩
          go_simp
          with_reducible rfl
        rotate_left
        · simp only [Act.put, List.setIfInBounds_toArray, List.set_cons_zero, List.set_cons_succ, i64_w, i32_w]
          rfl
        refine pure_ (i := 7) (N := some 64) (v := ?_) (a' := ?_) #[true, false, true, true, true, true, true, true, false, false, false, false, true, true, true, false, true, false, false, false, false, false] rfl rfl (any_of HT_.out (by kernel_rfl)) (fun _ _ _ h => h) (Or.inl ⟨by rfl, ?_⟩) ?_ ?_
        rotate_left
        · intro w'
          go_simp
          with_reducible rfl
        rotate_left
        · simp only [Act.put, List.setIfInBounds_toArray, List.set_cons_zero, List.set_cons_succ, i64_w, i32_w]
          rfl
        refine take_ (i := 9) (N := some 66) (v := ?_) (a' := ?_) #[true, false, true, true, true, true, true, true, false, true, false, false, true, true, true, false, true, false, false, false, false, false] rfl rfl (take_ofW HT_.out HW_.out (by kernel_rfl)) (fun _ _ _ h => h) (Or.inl ⟨by rfl, ?_⟩) hHeld ?_ ?_
        rotate_left
        · rintro w' ⟨s0, s1, s2, s3, s4, s5, s6, s7, s8⟩
          go_simp
          with_reducible rfl
        rotate_left
        · simp only [Act.put, List.setIfInBounds_toArray, List.set_cons_zero, List.set_cons_succ, i64_w, i32_w]
          rfl
        refine take_ (i := 15) (N := some 72) (v := ?_) (a' := ?_) #[true, false, true, true, true, true, true, true, false, true, false, false, true, true, true, true, true, false, false, false, false, false] rfl rfl (take_ofW HT_.out HW_.out (by kernel_rfl)) (fun _ _ _ h => h) (Or.inl ⟨by rfl, ?_⟩) hHeld ?_ ?_
        rotate_left
        · rintro w' ⟨s0, s1, s2, s3, s4, s5, s6, s7, s8⟩
          go_simp
          with_reducible rfl
        rotate_left
        · simp only [Act.put, List.setIfInBounds_toArray, List.set_cons_zero, List.set_cons_succ, i64_w, i32_w]
          rfl
        refine pure_ (i := 17) (N := some 74) (v := ?_) (a' := ?_) #[true, false, true, true, true, true, true, true, false, true, false, false, true, true, true, true, true, true, false, false, false, false] rfl rfl (any_of HT_.out (by kernel_rfl)) (fun _ _ _ h => h) (Or.inl ⟨by rfl, ?_⟩) ?_ ?_
        rotate_left
        · intro w'
          go_simp
          with_reducible rfl
        rotate_left
        · simp only [Act.put, List.setIfInBounds_toArray, List.set_cons_zero, List.set_cons_succ, i64_w, i32_w]
          rfl
        refine join_ (σ := Nat × Value × Nat) 5 #[true, true, true, true, true, true, true, true, true, true, true, false, true, true, true, true, true, true, false, false, false, false] (fun s => [(58, .slice (some ⟨s.1, 0, none⟩) 0 0), (65, s.2.1), (67, .slice (some ⟨s.2.2, 0, none⟩) 1 1)]) (fun s w' => (HRow w' w0.heap.size s.2.1 (hs.take k) ∧ w'.heap[s.2.2]? = some (.cells #[.int .i64 p.e.f0, .int .i64 p.e.f1, .int .u64 p.e.f2, .int .i64 p.e.f3.f0, .int .i64 p.e.f3.f1, .int .i64 p.e.f4, .slice p.A p.e.f5.length p.c, .int .u64 p.e.f6] 33 (0, 0)) ∧ Below wx.heap.size wx w' ∧ ∀ j, s.2.1.ownBlock = some j → wx.heap.size ≤ j) ∧ w'.cell? ⟨g, 1, none⟩ = some (.slice (some ⟨gr, 0, none⟩) n cap) ∧ w'.cell? ⟨g3, 0, none⟩ = some (.int .i64 p.e.f0) ∧ w'.cell? ⟨g3, 1, none⟩ = some (.int .i64 p.e.f1) ∧ w'.cell? ⟨g3, 2, none⟩ = some (.int .u64 p.e.f2) ∧ w'.cell? ⟨g3, 3, none⟩ = some (.int .i64 p.e.f3.f0) ∧ w'.cell? ⟨g3, 4, none⟩ = some (.int .i64 p.e.f3.f1) ∧ w'.cell? ⟨g3, 5, none⟩ = some (.int .i64 p.e.f4) ∧ w'.cell? ⟨g3, 6, none⟩ = some (.slice p.A p.e.f5.length p.c) ∧ w'.cell? ⟨g3, 7, none⟩ = some (.int .u64 p.e.f6)) ?_ ?_
        rotate_left
        · intro hCont
          refine two_ (i := 1) (j := 10) (Ni := some 58) (Nj := some 67) #[true, true, true, true, true, true, true, true, false, true, false, false, true, true, true, true, true, true, false, false, false, false] #[true, false, true, true, true, true, true, true, false, true, true, false, true, true, true, true, true, true, false, false, false, false] rfl rfl rfl rfl (two_of HT_.out (by kernel_rfl)) (by decide) (by decide) (fun K hK => ?_) (fun K hK => ?_)
          · skip
            refine value_ (w1 := ?_) (v := ?_) (by rfl) rfl ?_ ?_
            rotate_left 2
            · go_simp
              constructor
              · rfl
              · rfl
            refine hK.out _ _ ⟨(pw_cell_below (by with_reducible repeat (first | exact Below.refl _ _ | apply below_alloc | apply pw_below_drewN | apply below_drew1)) hc), (pw_cell_below (by with_reducible repeat (first | exact Below.refl _ _ | apply below_alloc | apply pw_below_drewN | apply below_drew1)) x0), (pw_cell_below (by with_reducible repeat (first | exact Below.refl _ _ | apply below_alloc | apply pw_below_drewN | apply below_drew1)) x1), (pw_cell_below (by with_reducible repeat (first | exact Below.refl _ _ | apply below_alloc | apply pw_below_drewN | apply below_drew1)) x2), (pw_cell_below (by with_reducible repeat (first | exact Below.refl _ _ | apply below_alloc | apply pw_below_drewN | apply below_drew1)) x3), (pw_cell_below (by with_reducible repeat (first | exact Below.refl _ _ | apply below_alloc | apply pw_below_drewN | apply below_drew1)) x4), (pw_cell_below (by with_reducible repeat (first | exact Below.refl _ _ | apply below_alloc | apply pw_below_drewN | apply below_drew1)) x5), (pw_cell_below (by with_reducible repeat (first | exact Below.refl _ _ | apply below_alloc | apply pw_below_drewN | apply below_drew1)) x6), (pw_cell_below (by with_reducible repeat (first | exact Below.refl _ _ | apply below_alloc | apply pw_below_drewN | apply below_drew1)) x7)⟩ (fun hHeld => ?_)
            clear hK K
            refine norm_ (a' := ?_) ?_ ?_
            rotate_left
            · show Act.put _ (some 58) _ = _
              simp only [Act.put, List.setIfInBounds_toArray, List.set_cons_zero, List.set_cons_succ, i64_w, i32_w]
              rfl
            refine two_ (i := 8) (j := 10) (Ni := some 65) (Nj := some 67) #[true, true, true, true, true, true, true, true, true, true, false, false, true, true, true, true, true, true, false, false, false, false] #[true, true, true, true, true, true, true, true, false, true, true, false, true, true, true, true, true, true, false, false, false, false] rfl rfl rfl rfl (two_of HT_.out (by kernel_rfl)) (by decide) (by decide) (fun K hK => ?_) (fun K hK => ?_)
            · skip
              refine step_app_src w0.heap.size rfl (.tmp 58) (.tmp 64) 22 rfl Try.underlying22 _ [] (hs.take k) rfl ?ho _ rfl ?hsrc ?hbs ?hlt ?_
              case hsrc => exact HS1.out.below (show Below wx.heap.size wx _ from (by with_reducible repeat (first | exact Below.refl _ _ | apply below_alloc | apply pw_below_drewN | apply below_drew1)))
              case hlt => (have := HKI.out; simp only [List.length_nil, List.length_append, List.length_take, List.length_drop, List.length_cons]; omega)
              case ho => exact HRow.empty wx.drew w0.heap.size HBX.out.2
              case hbs => exact Nat.le_trans HBX.out.2 (show Below wx.heap.size wx _ from (by with_reducible repeat (first | exact Below.refl _ _ | apply below_alloc | apply pw_below_drewN | apply below_drew1))).size
              intro v65 w65 hp hf hat
              rw [List.nil_append] at hp
              have hb65 : Below wx.heap.size wx w65 := hf.below (by with_reducible repeat (first | exact Below.refl _ _ | apply below_alloc | apply pw_below_drewN | apply below_drew1)) (fun j hj => Nat.le_of_eq (Option.some.inj hj))
              have hf65 : ∀ j, v65.ownBlock = some j → wx.heap.size ≤ j := fun j hj => (hat_orR hat j hj).elim (fun hj => Nat.le_of_eq (Option.some.inj hj)) (fun h => Nat.le_trans (show Below wx.heap.size wx _ from (by with_reducible repeat (first | exact Below.refl _ _ | apply below_alloc | apply pw_below_drewN | apply below_drew1))).size h)
              refine hK.out _ _ ⟨(pw_cell_below hb65 hc), (pw_cell_below hb65 x0), (pw_cell_below hb65 x1), (pw_cell_below hb65 x2), (pw_cell_below hb65 x3), (pw_cell_below hb65 x4), (pw_cell_below hb65 x5), (pw_cell_below hb65 x6), (pw_cell_below hb65 x7)⟩ (fun hHeld => ?_)
              clear hK K
              refine norm_ (a' := ?_) ?_ ?_
              rotate_left
              · show Act.put _ (some 65) _ = _
                simp only [Act.put, List.setIfInBounds_toArray, List.set_cons_zero, List.set_cons_succ, i64_w, i32_w]
                rfl
              refine one_ (i := 10) (N := some 67) #[true, true, true, true, true, true, true, true, true, true, true, false, true, true, true, true, true, true, false, false, false, false] rfl rfl (one_of HT_.out (by kernel_rfl)) (by decide) (fun K hK => ?_)
              refine value_ (w1 := ?_) (v := ?_) (by rfl) rfl ?_ ?_
              rotate_left 2
              · go_simp
                constructor
                · rfl
                · rfl
              refine hK.out _ _ ⟨(pw_cell_below (by with_reducible repeat (first | exact hb65 | apply below_alloc | apply pw_below_drewN | apply below_drew1)) hc), (pw_cell_below (by with_reducible repeat (first | exact hb65 | apply below_alloc | apply pw_below_drewN | apply below_drew1)) x0), (pw_cell_below (by with_reducible repeat (first | exact hb65 | apply below_alloc | apply pw_below_drewN | apply below_drew1)) x1), (pw_cell_below (by with_reducible repeat (first | exact hb65 | apply below_alloc | apply pw_below_drewN | apply below_drew1)) x2), (pw_cell_below (by with_reducible repeat (first | exact hb65 | apply below_alloc | apply pw_below_drewN | apply below_drew1)) x3), (pw_cell_below (by with_reducible repeat (first | exact hb65 | apply below_alloc | apply pw_below_drewN | apply below_drew1)) x4), (pw_cell_below (by with_reducible repeat (first | exact hb65 | apply below_alloc | apply pw_below_drewN | apply below_drew1)) x5), (pw_cell_below (by with_reducible repeat (first | exact hb65 | apply below_alloc | apply pw_below_drewN | apply below_drew1)) x6), (pw_cell_below (by with_reducible repeat (first | exact hb65 | apply below_alloc | apply pw_below_drewN | apply below_drew1)) x7)⟩ (fun hHeld => ?_)
              clear hK K
              refine norm_ (a' := ?_) ?_ ?_
              rotate_left
              · show Act.put _ (some 67) _ = _
                simp only [Act.put, List.setIfInBounds_toArray, List.set_cons_zero, List.set_cons_succ, i64_w, i32_w]
                rfl
              exact norm_ (by simp only [putAll, Act.put, List.setIfInBounds_toArray, List.set_cons_zero, List.set_cons_succ]) (hCont (wx.heap.size, v65, w65.heap.size) _ ⟨⟨hp.below (below_alloc (Below.refl _ _) _), blk_new w65 _, below_alloc hb65 _, hf65⟩, pw_cell_below (by with_reducible repeat (first | exact hb65 | apply below_alloc | apply pw_below_drewN | apply below_drew1)) hc, pw_cell_below (by with_reducible repeat (first | exact hb65 | apply below_alloc | apply pw_below_drewN | apply below_drew1)) x0, pw_cell_below (by with_reducible repeat (first | exact hb65 | apply below_alloc | apply pw_below_drewN | apply below_drew1)) x1, pw_cell_below (by with_reducible repeat (first | exact hb65 | apply below_alloc | apply pw_below_drewN | apply below_drew1)) x2, pw_cell_below (by with_reducible repeat (first | exact hb65 | apply below_alloc | apply pw_below_drewN | apply below_drew1)) x3, pw_cell_below (by with_reducible repeat (first | exact hb65 | apply below_alloc | apply pw_below_drewN | apply below_drew1)) x4, pw_cell_below (by with_reducible repeat (first | exact hb65 | apply below_alloc | apply pw_below_drewN | apply below_drew1)) x5, pw_cell_below (by with_reducible repeat (first | exact hb65 | apply below_alloc | apply pw_below_drewN | apply below_drew1)) x6, pw_cell_below (by with_reducible repeat (first | exact hb65 | apply below_alloc | apply pw_below_drewN | apply below_drew1)) x7⟩)
            · skip
              refine value_ (w1 := ?_) (v := ?_) (by rfl) rfl ?_ ?_
              rotate_left 2
              · go_simp
                constructor
                · rfl
                · rfl
              refine hK.out _ _ ⟨(pw_cell_below (by with_reducible repeat (first | exact Below.refl _ _ | apply below_alloc | apply pw_below_drewN | apply below_drew1)) hc), (pw_cell_below (by with_reducible repeat (first | exact Below.refl _ _ | apply below_alloc | apply pw_below_drewN | apply below_drew1)) x0), (pw_cell_below (by with_reducible repeat (first | exact Below.refl _ _ | apply below_alloc | apply pw_below_drewN | apply below_drew1)) x1), (pw_cell_below (by with_reducible repeat (first | exact Below.refl _ _ | apply below_alloc | apply pw_below_drewN | apply below_drew1)) x2), (pw_cell_below (by with_reducible repeat (first | exact Below.refl _ _ | apply below_alloc | apply pw_below_drewN | apply below_drew1)) x3), (pw_cell_below (by with_reducible repeat (first | exact Below.refl _ _ | apply below_alloc | apply pw_below_drewN | apply below_drew1)) x4), (pw_cell_below (by with_reducible repeat (first | exact Below.refl _ _ | apply below_alloc | apply pw_below_drewN | apply below_drew1)) x5), (pw_cell_below (by with_reducible repeat (first | exact Below.refl _ _ | apply below_alloc | apply pw_below_drewN | apply below_drew1)) x6), (pw_cell_below (by with_reducible repeat (first | exact Below.refl _ _ | apply below_alloc | apply pw_below_drewN | apply below_drew1)) x7)⟩ (fun hHeld => ?_)
              clear hK K
              refine norm_ (a' := ?_) ?_ ?_
              rotate_left
              · show Act.put _ (some 67) _ = _
                simp only [Act.put, List.setIfInBounds_toArray, List.set_cons_zero, List.set_cons_succ, i64_w, i32_w]
                rfl
              refine one_ (i := 8) (N := some 65) #[true, true, true, true, true, true, true, true, true, true, true, false, true, true, true, true, true, true, false, false, false, false] rfl rfl (one_of HT_.out (by kernel_rfl)) (by decide) (fun K hK => ?_)
              refine step_app_src w0.heap.size rfl (.tmp 58) (.tmp 64) 22 rfl Try.underlying22 _ [] (hs.take k) rfl ?ho _ rfl ?hsrc ?hbs ?hlt ?_
              case hsrc => exact HS1.out.below (show Below wx.heap.size wx _ from (by with_reducible repeat (first | exact Below.refl _ _ | apply below_alloc | apply pw_below_drewN | apply below_drew1)))
              case hlt => (have := HKI.out; simp only [List.length_nil, List.length_append, List.length_take, List.length_drop, List.length_cons]; omega)
              case ho => exact (HRow.empty wx.drew w0.heap.size HBX.out.2).below (below_alloc (Below.refl _ _) _)
              case hbs => exact Nat.le_trans HBX.out.2 (show Below wx.heap.size wx _ from (by with_reducible repeat (first | exact Below.refl _ _ | apply below_alloc | apply pw_below_drewN | apply below_drew1))).size
              intro v65 w65 hp hf hat
              rw [List.nil_append] at hp
              have hb65 : Below wx.heap.size wx w65 := hf.below (by with_reducible repeat (first | exact Below.refl _ _ | apply below_alloc | apply pw_below_drewN | apply below_drew1)) (fun j hj => Nat.le_of_eq (Option.some.inj hj))
              have hf65 : ∀ j, v65.ownBlock = some j → wx.heap.size ≤ j := fun j hj => (hat_orR hat j hj).elim (fun hj => Nat.le_of_eq (Option.some.inj hj)) (fun h => Nat.le_trans (show Below wx.heap.size wx _ from (by with_reducible repeat (first | exact Below.refl _ _ | apply below_alloc | apply pw_below_drewN | apply below_drew1))).size h)
              have hx65 := hf.blk (heap_alloc_new (wx.drew.alloc (.cells #[] 33)) (.cells #[.int .i64 p.e.f0, .int .i64 p.e.f1, .int .u64 p.e.f2, .int .i64 p.e.f3.f0, .int .i64 p.e.f3.f1, .int .i64 p.e.f4, .slice p.A p.e.f5.length p.c, .int .u64 p.e.f6] 33 (0, 0))) (fun hj => by have h := Option.some.inj hj; simp at h)
              refine hK.out _ _ ⟨(pw_cell_below hb65 hc), (pw_cell_below hb65 x0), (pw_cell_below hb65 x1), (pw_cell_below hb65 x2), (pw_cell_below hb65 x3), (pw_cell_below hb65 x4), (pw_cell_below hb65 x5), (pw_cell_below hb65 x6), (pw_cell_below hb65 x7)⟩ (fun hHeld => ?_)
              clear hK K
              refine norm_ (a' := ?_) ?_ ?_
              rotate_left
              · show Act.put _ (some 65) _ = _
                simp only [Act.put, List.setIfInBounds_toArray, List.set_cons_zero, List.set_cons_succ, i64_w, i32_w]
                rfl
              exact norm_ (by simp only [putAll, Act.put, List.setIfInBounds_toArray, List.set_cons_zero, List.set_cons_succ]) (hCont (wx.heap.size, v65, (wx.heap.size + 1)) _ ⟨⟨hp, by simpa using hx65, hb65, hf65⟩, pw_cell_below hb65 hc, pw_cell_below hb65 x0, pw_cell_below hb65 x1, pw_cell_below hb65 x2, pw_cell_below hb65 x3, pw_cell_below hb65 x4, pw_cell_below hb65 x5, pw_cell_below hb65 x6, pw_cell_below hb65 x7⟩)
          · skip
            refine value_ (w1 := ?_) (v := ?_) (by rfl) rfl ?_ ?_
            rotate_left 2
            · go_simp
              constructor
              · rfl
              · rfl
            refine hK.out _ _ ⟨(pw_cell_below (by with_reducible repeat (first | exact Below.refl _ _ | apply below_alloc | apply pw_below_drewN | apply below_drew1)) hc), (pw_cell_below (by with_reducible repeat (first | exact Below.refl _ _ | apply below_alloc | apply pw_below_drewN | apply below_drew1)) x0), (pw_cell_below (by with_reducible repeat (first | exact Below.refl _ _ | apply below_alloc | apply pw_below_drewN | apply below_drew1)) x1), (pw_cell_below (by with_reducible repeat (first | exact Below.refl _ _ | apply below_alloc | apply pw_below_drewN | apply below_drew1)) x2), (pw_cell_below (by with_reducible repeat (first | exact Below.refl _ _ | apply below_alloc | apply pw_below_drewN | apply below_drew1)) x3), (pw_cell_below (by with_reducible repeat (first | exact Below.refl _ _ | apply below_alloc | apply pw_below_drewN | apply below_drew1)) x4), (pw_cell_below (by with_reducible repeat (first | exact Below.refl _ _ | apply below_alloc | apply pw_below_drewN | apply below_drew1)) x5), (pw_cell_below (by with_reducible repeat (first | exact Below.refl _ _ | apply below_alloc | apply pw_below_drewN | apply below_drew1)) x6), (pw_cell_below (by with_reducible repeat (first | exact Below.refl _ _ | apply below_alloc | apply pw_below_drewN | apply below_drew1)) x7)⟩ (fun hHeld => ?_)
            clear hK K
            refine norm_ (a' := ?_) ?_ ?_
            rotate_left
            · show Act.put _ (some 67) _ = _
              simp only [Act.put, List.setIfInBounds_toArray, List.set_cons_zero, List.set_cons_succ, i64_w, i32_w]
              rfl
            refine one_ (i := 1) (N := some 58) #[true, true, true, true, true, true, true, true, false, true, true, false, true, true, true, true, true, true, false, false, false, false] rfl rfl (one_of HT_.out (by kernel_rfl)) (by decide) (fun K hK => ?_)
            refine value_ (w1 := ?_) (v := ?_) (by rfl) rfl ?_ ?_
            rotate_left 2
            · go_simp
              constructor
              · rfl
              · rfl
            refine hK.out _ _ ⟨(pw_cell_below (by with_reducible repeat (first | exact Below.refl _ _ | apply below_alloc | apply pw_below_drewN | apply below_drew1)) hc), (pw_cell_below (by with_reducible repeat (first | exact Below.refl _ _ | apply below_alloc | apply pw_below_drewN | apply below_drew1)) x0), (pw_cell_below (by with_reducible repeat (first | exact Below.refl _ _ | apply below_alloc | apply pw_below_drewN | apply below_drew1)) x1), (pw_cell_below (by with_reducible repeat (first | exact Below.refl _ _ | apply below_alloc | apply pw_below_drewN | apply below_drew1)) x2), (pw_cell_below (by with_reducible repeat (first | exact Below.refl _ _ | apply below_alloc | apply pw_below_drewN | apply below_drew1)) x3), (pw_cell_below (by with_reducible repeat (first | exact Below.refl _ _ | apply below_alloc | apply pw_below_drewN | apply below_drew1)) x4), (pw_cell_below (by with_reducible repeat (first | exact Below.refl _ _ | apply below_alloc | apply pw_below_drewN | apply below_drew1)) x5), (pw_cell_below (by with_reducible repeat (first | exact Below.refl _ _ | apply below_alloc | apply pw_below_drewN | apply below_drew1)) x6), (pw_cell_below (by with_reducible repeat (first | exact Below.refl _ _ | apply below_alloc | apply pw_below_drewN | apply below_drew1)) x7)⟩ (fun hHeld => ?_)
            clear hK K
            refine norm_ (a' := ?_) ?_ ?_
            rotate_left
            · show Act.put _ (some 58) _ = _
              simp only [Act.put, List.setIfInBounds_toArray, List.set_cons_zero, List.set_cons_succ, i64_w, i32_w]
              rfl
            refine one_ (i := 8) (N := some 65) #[true, true, true, true, true, true, true, true, true, true, true, false, true, true, true, true, true, true, false, false, false, false] rfl rfl (one_of HT_.out (by kernel_rfl)) (by decide) (fun K hK => ?_)
            refine step_app_src w0.heap.size rfl (.tmp 58) (.tmp 64) 22 rfl Try.underlying22 _ [] (hs.take k) rfl ?ho _ rfl ?hsrc ?hbs ?hlt ?_
            case hsrc => exact HS1.out.below (show Below wx.heap.size wx _ from (by with_reducible repeat (first | exact Below.refl _ _ | apply below_alloc | apply pw_below_drewN | apply below_drew1)))
            case hlt => (have := HKI.out; simp only [List.length_nil, List.length_append, List.length_take, List.length_drop, List.length_cons]; omega)
            case ho => exact (HRow.empty2 wx (.cells #[.int .i64 p.e.f0, .int .i64 p.e.f1, .int .u64 p.e.f2, .int .i64 p.e.f3.f0, .int .i64 p.e.f3.f1, .int .i64 p.e.f4, .slice p.A p.e.f5.length p.c, .int .u64 p.e.f6] 33) w0.heap.size HBX.out.2).below (below_drew1 (Below.refl _ _))
            case hbs => exact Nat.le_trans HBX.out.2 (show Below wx.heap.size wx _ from (by with_reducible repeat (first | exact Below.refl _ _ | apply below_alloc | apply pw_below_drewN | apply below_drew1))).size
            intro v65 w65 hp hf hat
            rw [List.nil_append] at hp
            have hb65 : Below wx.heap.size wx w65 := hf.below (by with_reducible repeat (first | exact Below.refl _ _ | apply below_alloc | apply pw_below_drewN | apply below_drew1)) (fun j hj => (by have h := Option.some.inj hj; simp at h; omega))
            have hf65 : ∀ j, v65.ownBlock = some j → wx.heap.size ≤ j := fun j hj => (hat_orR hat j hj).elim (fun hj => (by have h := Option.some.inj hj; simp at h; omega)) (fun h => Nat.le_trans (show Below wx.heap.size wx _ from (by with_reducible repeat (first | exact Below.refl _ _ | apply below_alloc | apply pw_below_drewN | apply below_drew1))).size h)
            have hx65 := hf.blk (blk_alloc (blk_new wx.drew (.cells #[.int .i64 p.e.f0, .int .i64 p.e.f1, .int .u64 p.e.f2, .int .i64 p.e.f3.f0, .int .i64 p.e.f3.f1, .int .i64 p.e.f4, .slice p.A p.e.f5.length p.c, .int .u64 p.e.f6] 33 (0, 0))) (.cells #[] 33 (0, 0))) (fun hj => by have h := Option.some.inj hj; simp at h)
            refine hK.out _ _ ⟨(pw_cell_below hb65 hc), (pw_cell_below hb65 x0), (pw_cell_below hb65 x1), (pw_cell_below hb65 x2), (pw_cell_below hb65 x3), (pw_cell_below hb65 x4), (pw_cell_below hb65 x5), (pw_cell_below hb65 x6), (pw_cell_below hb65 x7)⟩ (fun hHeld => ?_)
            clear hK K
            refine norm_ (a' := ?_) ?_ ?_
            rotate_left
            · show Act.put _ (some 65) _ = _
              simp only [Act.put, List.setIfInBounds_toArray, List.set_cons_zero, List.set_cons_succ, i64_w, i32_w]
              rfl
            exact norm_ (by simp only [putAll, Act.put, List.setIfInBounds_toArray, List.set_cons_zero, List.set_cons_succ]) (hCont ((wx.heap.size + 1), v65, wx.heap.size) _ ⟨⟨hp, by simpa using hx65, hb65, hf65⟩, pw_cell_below hb65 hc, pw_cell_below hb65 x0, pw_cell_below hb65 x1, pw_cell_below hb65 x2, pw_cell_below hb65 x3, pw_cell_below hb65 x4, pw_cell_below hb65 x5, pw_cell_below hb65 x6, pw_cell_below hb65 x7⟩)
        rintro ⟨a58, v65, b67⟩ w67 ⟨⟨hO65, hx67, hb67, hf67⟩, hHeld⟩
        change HRow w67 w0.heap.size v65 _ at hO65
        change w67.heap[b67]? = _ at hx67
        change ∀ j, v65.ownBlock = some j → _ at hf67
        refine norm_ (a' := ?_) ?_ ?_
        rotate_left
        · simp only [putAll, Act.put, List.setIfInBounds_toArray, List.set_cons_zero, List.set_cons_succ]
          rfl
        refine one_ (i := 11) (N := some 68) #[true, true, true, true, true, true, true, true, true, true, true, true, true, true, true, true, true, true, false, false, false, false] rfl rfl (one_of HT_.out (by kernel_rfl)) (by decide) (fun K hK => ?_)
        refine step_app_src w0.heap.size rfl (.tmp 65) (.tmp 67) 22 rfl Try.underlying22 v65 (hs.take k) [p] rfl ?ho _ rfl ?hsrc ?hbs ?hlt ?_
        case hsrc => exact .inr ⟨_, 1, _, rfl, rfl, fun j u hu => World.news_of_block hx67 j u (by simpa [flE, enC] using hu)⟩
        case hlt => (have := HKI.out; simp only [List.length_nil, List.length_append, List.length_take, List.length_drop, List.length_cons]; omega)
        case ho => exact hO65
        case hbs => exact Nat.le_trans HBX.out.2 hb67.size
        intro v68 w68 hp hf hat
        have hb68 : Below wx.heap.size wx w68 := hf.below hb67 (fun j hj => hf67 j hj)
        have hf68 : ∀ j, v68.ownBlock = some j → wx.heap.size ≤ j := fun j hj => (hat_orR hat j hj).elim (fun h => hf67 j h) (fun h => Nat.le_trans hb67.size h)
        have hO68 := hp
        clear hp hf hat
        refine hK.out _ _ ⟨(pw_cell_below hb68 hc), (pw_cell_below hb68 x0), (pw_cell_below hb68 x1), (pw_cell_below hb68 x2), (pw_cell_below hb68 x3), (pw_cell_below hb68 x4), (pw_cell_below hb68 x5), (pw_cell_below hb68 x6), (pw_cell_below hb68 x7)⟩ (fun hHeld => ?_)
        clear hK K
        refine norm_ (a' := ?_) ?_ ?_
        rotate_left
        · show Act.put _ (some 68) _ = _
          simp only [Act.put, List.setIfInBounds_toArray, List.set_cons_zero, List.set_cons_succ, i64_w, i32_w]
          rfl
        refine one_ (i := 18) (N := some 75) #[true, true, true, true, true, true, true, true, true, true, true, true, true, true, true, true, true, true, true, false, false, false] rfl rfl (one_of HT_.out (by kernel_rfl)) (by decide) (fun K hK => ?_)
        refine step_app_src w0.heap.size rfl (.tmp 68) (.tmp 74) 22 rfl Try.underlying22 v68 ((hs.take k) ++ [p]) (hs.drop k) rfl ?ho _ rfl ?hsrc ?hbs ?hlt ?_
        case hsrc => exact HS2.out.below hb68
        case hlt => (have := HKI.out; simp only [List.length_nil, List.length_append, List.length_take, List.length_drop, List.length_cons]; omega)
        case ho => exact hO68
        case hbs => exact Nat.le_trans HBX.out.2 hb68.size
        intro v75 w75 hp hf hat
        obtain ⟨A75, L75, c75, rfl⟩ : ∃ A L c, v75 = .slice A L c := (by obtain ⟨A, c, h⟩ := hp.form; exact ⟨A, _, c, h⟩)
        have hb75 : Below wx.heap.size wx w75 := hf.below hb68 (fun j hj => hf68 j hj)
        have hf75 : ∀ j, (Value.slice A75 L75 c75).ownBlock = some j → wx.heap.size ≤ j := fun j hj => (hat_orR hat j hj).elim (fun h => hf68 j h) (fun h => Nat.le_trans hb68.size h)
        have HB75 := Aside0.mk hb75
        have HF75 := Aside0.mk hf75
        have HO75 := Aside0.mk hp
        have hz75 := blk_frozen (blk_below HHX.out.hd hb75) 1
        clear hp hf hat hf75
        refine hK.out _ _ ⟨(pw_cell_below hb75 hc), (pw_cell_below hb75 x0), (pw_cell_below hb75 x1), (pw_cell_below hb75 x2), (pw_cell_below hb75 x3), (pw_cell_below hb75 x4), (pw_cell_below hb75 x5), (pw_cell_below hb75 x6), (pw_cell_below hb75 x7)⟩ (fun hHeld => ?_)
        clear hK K
        refine norm_ (a' := ?_) ?_ ?_
        rotate_left
        · show Act.put _ (some 75) _ = _
          simp only [Act.put, List.setIfInBounds_toArray, List.set_cons_zero, List.set_cons_succ, i64_w, i32_w]
          rfl
        refine pure_ (i := 19) (N := some 76) (v := ?_) (a' := ?_) #[true, true, true, true, true, true, true, true, true, true, true, true, true, true, true, true, true, true, true, true, false, false] rfl rfl (any_of HT_.out (by kernel_rfl)) (fun _ _ _ h => h) (Or.inl ⟨by rfl, ?_⟩) ?_ ?_
        rotate_left
        · intro w'
          go_simp
          with_reducible rfl
        rotate_left
        · simp only [Act.put, List.setIfInBounds_toArray, List.set_cons_zero, List.set_cons_succ, i64_w, i32_w]
          rfl
        refine pure_ (i := 20) (N := some 77) (v := ?_) (a' := ?_) #[true, true, true, true, true, true, true, true, true, true, true, true, true, true, true, true, true, true, true, true, true, false] rfl rfl (any_of HT_.out (by kernel_rfl)) (fun _ _ _ h => h) (Or.inl ⟨by rfl, ?_⟩) ?_ ?_
        rotate_left
        · intro w'
          go_simp
          with_reducible rfl
        rotate_left
        · simp only [Act.put, List.setIfInBounds_toArray, List.set_cons_zero, List.set_cons_succ, i64_w, i32_w]
          rfl
        refine last_ (i := 21) (N := none) #[true, true, true, true, true, true, true, true, true, true, true, true, true, true, true, true, true, true, true, true, true, true] rfl rfl (one_of HT_.out (by kernel_rfl)) (by decide) (fun K hK => ?_)
        refine skip_ (w1 := ?_) (by rfl) rfl ?_ ?_
        rotate_left
        · go_simp
          rfl
        refine hK.out _ _ ?_
        clear hK K
        refine done_ (done_of HT_.out (by kernel_rfl)) ?_
        go_upto_region 14 with fail
        refine gen_world (fun W7 hW7 => ?_)
        have h7 : W7.heap[g]? = some (.cells #[.int .i64 most, .slice A75 L75 c75] 50 (0, 0)) := by
          rw [hW7]
          have := blk_set (blk_below HHX.out.hd HB75.out) 1 (.slice A75 L75 c75)
          simpa using this
        have hf7 : Fr w75 W7 (fun j => j = g) := by rw [hW7]; exact Fr.set (Fr.refl _ (fun j => j = g)) (.inl rfl) _ _
        clear hW7
        have hF : Fr w W7 (fun j => j = g) := ((Fr.ofBelow (fun j => j = g) HBW.out).trans (Fr.ofBelow (fun j => j = g) HB75.out) (fun _ _ h => h)).trans hf7 (fun _ _ h => h)
        have HEND : Aside0 (RHoldP w0 w g most hs p W7) := ⟨k, (by have := HKI.out; omega), HT.out, (fun q' hq' => by rw [HQ.out] at hq'; injection hq' with hq'; rw [← hq']; exact HLT.out), .slice A75 L75 c75, ⟨h7, HO75.out.fr hf7 (fun j hj e => by
            have h1 := HF75.out j hj
            have h2 := blk_lt HHX.out.hd
            omega), HHX.out.bs, fun q hq => by
            rcases List.mem_append.1 hq with hq | hq
            · rcases List.mem_append.1 hq with hq | hq
              · exact HHX.out.rd q (List.mem_of_mem_take hq)
              · rw [List.mem_singleton.1 hq]
                exact HR00.out
            · exact HHX.out.rd q (List.mem_of_mem_drop hq), hF.below HW0.out (fun j hj => by rw [hj]; exact HHX.out.bs)⟩, hF, fun j hj => Nat.le_trans HBW.out.size (HF75.out j hj)⟩
        clear h7 hf7 hF
        go_wp2
        go_ret
        exact ⟨rfl, HEND.out⟩
    · have hkb : decide ((k : Int) < (n : Int)) = false := by simp; omega
      go_upto_region 11 with fail
      refine gen_world (fun wx hwx => ?_)
      have HBX : Aside0 (Below w14.heap.size w14 wx ∧ w0.heap.size ≤ wx.heap.size) := ⟨by
        have h : Below w14.heap.size w14 wx := by rw [hwx]; with_reducible repeat (first | exact HB.out | apply pw_below_drewN | apply below_drew1)
        exact ⟨h, Nat.le_trans HP14.out.bel.size h.size⟩⟩
      have HHX := Aside0.mk (HP14.out.below HBX.out.1)
      have hc := HHX.out.cell
      have HXX := Aside0.mk (blk_below HX14.out HBX.out.1)
      obtain ⟨x0, x1, x2, x3, x4, x5, x6, x7, -⟩ := cells8z HXX.out
      have HBK : Aside0 (Below w14.heap.size w14 wx.drew) := ⟨below_drew1 HBX.out.1⟩
      clear hwx HBX
      refine start_ (n := 18) (S := fun w' => w'.cell? ⟨g, 1, none⟩ = some (.slice (some ⟨gr, 0, none⟩) n cap)) (ds := []) #[false, false, false, false, false, false, false, false, false, false, false, false, false, false, false, false, false, false] (by kernel_rfl) rfl rfl (hc) (fun hHeld => ?_)
      refine with_tabW rhold_ok.tab11 rhold_ok.bits11 (fun HT_ HW_ => ?_)
      refine pure_ (i := 0) (N := some 37) (v := ?_) (a' := ?_) #[true, false, false, false, false, false, false, false, false, false, false, false, false, false, false, false, false, false] rfl rfl (any_of HT_.out (by kernel_rfl)) (fun _ _ _ h => h) (Or.inl ⟨by rfl, ?_⟩) ?_ ?_
      rotate_left
      · intro w'
        go_simp
        with_reducible rfl
      rotate_left
      · simp only [Act.put, List.setIfInBounds_toArray, List.set_cons_zero, List.set_cons_succ, i64_w, i32_w]
        rfl
      refine pure_ (i := 1) (N := some 38) (v := ?_) (a' := ?_) #[true, true, false, false, false, false, false, false, false, false, false, false, false, false, false, false, false, false] rfl rfl (any_of HT_.out (by kernel_rfl)) (fun _ _ _ h => h) (Or.inl ⟨by rfl, ?_⟩) ?_ ?_
      rotate_left
      · intro w'
        go_simp
        with_reducible rfl
      rotate_left
      · simp only [Act.put, List.setIfInBounds_toArray, List.set_cons_zero, List.set_cons_succ, i64_w, i32_w]
        rfl
      refine pure_ (i := 2) (N := some 39) (v := ?_) (a' := ?_) #[true, true, true, false, false, false, false, false, false, false, false, false, false, false, false, false, false, false] rfl rfl (any_of HT_.out (by kernel_rfl)) (fun _ _ _ h => h) (Or.inl ⟨by rfl, ?_⟩) ?_ ?_
      rotate_left
      · intro w'
        go_simp
        with_reducible rfl
      rotate_left
      · simp only [Act.put, List.setIfInBounds_toArray, List.set_cons_zero, List.set_cons_succ, i64_w, i32_w]
        rfl
      refine pure_ (i := 3) (N := some 40) (v := ?_) (a' := ?_) #[true, true, true, true, false, false, false, false, false, false, false, false, false, false, false, false, false, false] rfl rfl (any_of HT_.out (by kernel_rfl)) (fun _ _ _ h => h) (Or.inl ⟨by rfl, ?_⟩) ?_ ?_
      rotate_left
      · intro w'
        go_simp
        with_reducible rfl
      rotate_left
      · simp only [Act.put, List.setIfInBounds_toArray, List.set_cons_zero, List.set_cons_succ, i64_w, i32_w]
        rfl
      refine take_ (i := 4) (N := some 41) (v := ?_) (a' := ?_) #[true, true, true, true, true, false, false, false, false, false, false, false, false, false, false, false, false, false] rfl rfl (take_ofW HT_.out HW_.out (by kernel_rfl)) (fun _ _ _ h => h) (Or.inl ⟨by rfl, ?_⟩) hHeld ?_ ?_
      rotate_left
      · intro w' s0
        go_simp
        with_reducible rfl
      rotate_left
      · simp only [Act.put, List.setIfInBounds_toArray, List.set_cons_zero, List.set_cons_succ, i64_w, i32_w]
        rfl
      refine pure_ (i := 5) (N := some 42) (v := ?_) (a' := ?_) #[true, true, true, true, true, true, false, false, false, false, false, false, false, false, false, false, false, false] rfl rfl (any_of HT_.out (by kernel_rfl)) (fun _ _ _ h => h) (Or.inl ⟨by rfl, ?_⟩) ?_ ?_
      rotate_left
      · intro w'
        go_simp
        with_reducible rfl
      rotate_left
      · simp only [Act.put, List.setIfInBounds_toArray, List.set_cons_zero, List.set_cons_succ, i64_w, i32_w]
        rfl
      refine pure_ (i := 6) (N := some 43) (v := ?_) (a' := ?_) #[true, true, true, true, true, true, true, false, false, false, false, false, false, false, false, false, false, false] rfl rfl (any_of HT_.out (by kernel_rfl)) (fun _ _ _ h => h) (Or.inl ⟨by rfl, ?_⟩) ?_ ?_
      rotate_left
      · intro w'
        go_simp
        with_reducible rfl
      rotate_left
      · simp only [Act.put, List.setIfInBounds_toArray, List.set_cons_zero, List.set_cons_succ, i64_w, i32_w]
        rfl
      refine pure_ (i := 7) (N := some 44) (v := ?_) (a' := ?_) #[true, true, true, true, true, true, true, true, false, false, false, false, false, false, false, false, false, false] rfl rfl (any_of HT_.out (by kernel_rfl)) (fun _ _ _ h => h) (Or.inl ⟨by rfl, ?_⟩) ?_ ?_
      rotate_left
      · intro w'
        go_simp
        with_reducible rfl
      rotate_left
      · simp only [Act.put, List.setIfInBounds_toArray, List.set_cons_zero, List.set_cons_succ, i64_w, i32_w]
        rfl
      refine pure_ (i := 8) (N := some 45) (v := undef) (a' := ?_) #[true, true, true, true, true, true, true, true, true, false, false, false, false, false, false, false, false, false] rfl rfl (any_of HT_.out (by kernel_rfl)) (fun _ _ _ h => h) (Or.inr ⟨by rfl, rfl⟩) ?_ ?_
      rotate_left
      · simp only [Act.put, List.setIfInBounds_toArray, List.set_cons_zero, List.set_cons_succ, i64_w, i32_w]
        rfl
      refine pure_ (i := 9) (N := some 46) (v := undef) (a' := ?_) #[true, true, true, true, true, true, true, true, true, true, false, false, false, false, false, false, false, false] rfl rfl (any_of HT_.out (by kernel_rfl)) (fun _ _ _ h => h) (Or.inr ⟨by rfl, rfl⟩) ?_ ?_
      rotate_left
      · simp only [Act.put, List.setIfInBounds_toArray, List.set_cons_zero, List.set_cons_succ, i64_w, i32_w]
        rfl
      refine pure_ (i := 10) (N := some 47) (v := undef) (a' := ?_) #[true, true, true, true, true, true, true, true, true, true, true, false, false, false, false, false, false, false] rfl rfl (any_of HT_.out (by kernel_rfl)) (fun _ _ _ h => h) (Or.inr ⟨by rfl, rfl⟩) ?_ ?_
      rotate_left
      · simp only [Act.put, List.setIfInBounds_toArray, List.set_cons_zero, List.set_cons_succ, i64_w, i32_w]
        rfl
      refine pure_ (i := 11) (N := some 48) (v := undef) (a' := ?_) #[true, true, true, true, true, true, true, true, true, true, true, true, false, false, false, false, false, false] rfl rfl (any_of HT_.out (by kernel_rfl)) (fun _ _ _ h => h) (Or.inr ⟨by rfl, rfl⟩) ?_ ?_
      rotate_left
      · simp only [Act.put, List.setIfInBounds_toArray, List.set_cons_zero, List.set_cons_succ, i64_w, i32_w]
        rfl
      refine pure_ (i := 12) (N := some 49) (v := undef) (a' := ?_) #[true, true, true, true, true, true, true, true, true, true, true, true, true, false, false, false, false, false] rfl rfl (any_of HT_.out (by kernel_rfl)) (fun _ _ _ h => h) (Or.inr ⟨by rfl, rfl⟩) ?_ ?_
      rotate_left
      · simp only [Act.put, List.setIfInBounds_toArray, List.set_cons_zero, List.set_cons_succ, i64_w, i32_w]
        rfl
      refine pure_ (i := 13) (N := some 50) (v := undef) (a' := ?_) #[true, true, true, true, true, true, true, true, true, true, true, true, true, true, false, false, false, false] rfl rfl (any_of HT_.out (by kernel_rfl)) (fun _ _ _ h => h) (Or.inr ⟨by rfl, rfl⟩) ?_ ?_
      rotate_left
      · simp only [Act.put, List.setIfInBounds_toArray, List.set_cons_zero, List.set_cons_succ, i64_w, i32_w]
        rfl
      refine pure_ (i := 14) (N := some 51) (v := undef) (a' := ?_) #[true, true, true, true, true, true, true, true, true, true, true, true, true, true, true, false, false, false] rfl rfl (any_of HT_.out (by kernel_rfl)) (fun _ _ _ h => h) (Or.inr ⟨by rfl, rfl⟩) ?_ ?_
      rotate_left
      · simp only [Act.put, List.setIfInBounds_toArray, List.set_cons_zero, List.set_cons_succ, i64_w, i32_w]
        rfl
      refine pure_ (i := 15) (N := some 52) (v := undef) (a' := ?_) #[true, true, true, true, true, true, true, true, true, true, true, true, true, true, true, true, false, false] rfl rfl (any_of HT_.out (by kernel_rfl)) (fun _ _ _ h => h) (Or.inr ⟨by rfl, rfl⟩) ?_ ?_
      rotate_left
      · simp only [Act.put, List.setIfInBounds_toArray, List.set_cons_zero, List.set_cons_succ, i64_w, i32_w]
        rfl
      refine pure_ (i := 16) (N := some 53) (v := undef) (a' := ?_) #[true, true, true, true, true, true, true, true, true, true, true, true, true, true, true, true, true, false] rfl rfl (any_of HT_.out (by kernel_rfl)) (fun _ _ _ h => h) (Or.inr ⟨by rfl, rfl⟩) ?_ ?_
      rotate_left
      · simp only [Act.put, List.setIfInBounds_toArray, List.set_cons_zero, List.set_cons_succ, i64_w, i32_w]
        rfl
      refine pure_ (i := 17) (N := some 54) (v := ?_) (a' := ?_) #[true, true, true, true, true, true, true, true, true, true, true, true, true, true, true, true, true, true] rfl rfl (any_of HT_.out (by kernel_rfl)) (fun _ _ _ h => h) (Or.inl ⟨by rfl, ?_⟩) ?_ ?_
      rotate_left
      · intro w'
        go_simp
        with_reducible rfl
      rotate_left
      · simp only [Act.put, List.setIfInBounds_toArray, List.set_cons_zero, List.set_cons_succ, i64_w, i32_w]
        rfl
      refine done_ (done_of HT_.out (by kernel_rfl)) ?_
      have hkn3 : k = n := by omega
      have HKN3 := Aside0.mk hkn3
      clear hkn hkb hkn3 hc x0 x1 x2 x3 x4 x5 x6 x7 HHX HXX
      go_wp2
      by_cases hck : k = cap
      · have hnk : n = k := HKN3.out.symm
        subst hck
        subst hnk
        go_upto_region 13 with fail
        refine gen_world (fun wx hwx => ?_)
        have HBX : Aside0 (Below w14.heap.size w14 wx ∧ w0.heap.size ≤ wx.heap.size) := ⟨by
          have h : Below w14.heap.size w14 wx := by rw [hwx]; with_reducible repeat (first | exact HBK.out | apply pw_below_drewN | apply below_drew1)
          exact ⟨h, Nat.le_trans HP14.out.bel.size h.size⟩⟩
        have HHX := Aside0.mk (HP14.out.below HBX.out.1)
        have hc := HHX.out.cell
        have HXX := Aside0.mk (blk_below HX14.out HBX.out.1)
        obtain ⟨x0, x1, x2, x3, x4, x5, x6, x7, -⟩ := cells8z HXX.out
        have HBW : Aside0 (Below w.heap.size w wx) := ⟨HB14.out.trans (HBX.out.1.mono HB14.out.size)⟩
        have HKI : Aside0 (n ≤ n ∧ n ≤ 100000 ∧ hs.length = n) := ⟨hkn2, HL.out, HN.out⟩
        have HS1 : Aside0 (SrcE wx (.slice (some ⟨gr, 0, none⟩) n n) (hs.take n)) := ⟨srcE_take HHX.out.row HN.out hkn2⟩
        have HS2 : Aside0 (SrcE wx (.slice (some ⟨gr, 0, none⟩) 0 0) (hs.drop n)) := ⟨.inr ⟨_, _, _, rfl, by rw [List.length_drop, HN.out, Nat.sub_self], fun j u hu => by rw [List.drop_of_length_le (by rw [HN.out]; exact Nat.le_refl _)] at hu; simp [flE] at hu⟩⟩
        have h0k : (0 : Int) ≤ n := by omega
        clear hwx
        refine start_ (n := 22) (S := fun w' => w'.cell? ⟨g, 1, none⟩ = some (.slice (some ⟨gr, 0, none⟩) n n) ∧ w'.cell? ⟨g3, 0, none⟩ = some (.int .i64 p.e.f0) ∧ w'.cell? ⟨g3, 1, none⟩ = some (.int .i64 p.e.f1) ∧ w'.cell? ⟨g3, 2, none⟩ = some (.int .u64 p.e.f2) ∧ w'.cell? ⟨g3, 3, none⟩ = some (.int .i64 p.e.f3.f0) ∧ w'.cell? ⟨g3, 4, none⟩ = some (.int .i64 p.e.f3.f1) ∧ w'.cell? ⟨g3, 5, none⟩ = some (.int .i64 p.e.f4) ∧ w'.cell? ⟨g3, 6, none⟩ = some (.slice p.A p.e.f5.length p.c) ∧ w'.cell? ⟨g3, 7, none⟩ = some (.int .u64 p.e.f6)) (ds := [21]) #[false, false, false, false, false, false, false, false, false, false, false, false, false, false, false, false, false, false, false, false, false, false] (by kernel_rfl) rfl rfl ⟨hc, x0, x1, x2, x3, x4, x5, x6, x7⟩ (fun hHeld => ?_)
        refine with_tabW rhold_ok.tab13 rhold_ok.bits13 (fun HT_ HW_ => ?_)
        refine pure_ (i := 0) (N := some 57) (v := ?_) (a' := ?_) #[true, false, false, false, false, false, false, false, false, false, false, false, false, false, false, false, false, false, false, false, false, false] rfl rfl (any_of HT_.out (by kernel_rfl)) (fun _ _ _ h => h) (Or.inl ⟨by rfl, ?_⟩) ?_ ?_
        rotate_left
        · intro w'
          go_simp
          with_reducible rfl
        rotate_left
        · simp only [Act.put, List.setIfInBounds_toArray, List.set_cons_zero, List.set_cons_succ, i64_w, i32_w]
          rfl
        refine pure_ (i := 2) (N := some 59) (v := ?_) (a' := ?_) #[true, false, true, false, false, false, false, false, false, false, false, false, false, false, false, false, false, false, false, false, false, false] rfl rfl (any_of HT_.out (by kernel_rfl)) (fun _ _ _ h => h) (Or.inl ⟨by rfl, ?_⟩) ?_ ?_
        rotate_left
        · intro w'
          go_simp
          with_reducible rfl
        rotate_left
        · simp only [Act.put, List.setIfInBounds_toArray, List.set_cons_zero, List.set_cons_succ, i64_w, i32_w]
          rfl
        refine pure_ (i := 3) (N := some 60) (v := ?_) (a' := ?_) #[true, false, true, true, false, false, false, false, false, false, false, false, false, false, false, false, false, false, false, false, false, false] rfl rfl (any_of HT_.out (by kernel_rfl)) (fun _ _ _ h => h) (Or.inl ⟨by rfl, ?_⟩) ?_ ?_
        rotate_left
        · intro w'
          go_simp
          with_reducible rfl
        rotate_left
        · simp only [Act.put, List.setIfInBounds_toArray, List.set_cons_zero, List.set_cons_succ, i64_w, i32_w]
          rfl
        refine pure_ (i := 4) (N := some 61) (v := ?_) (a' := ?_) #[true, false, true, true, true, false, false, false, false, false, false, false, false, false, false, false, false, false, false, false, false, false] rfl rfl (any_of HT_.out (by kernel_rfl)) (fun _ _ _ h => h) (Or.inl ⟨by rfl, ?_⟩) ?_ ?_
        rotate_left
        · intro w'
          go_simp
          with_reducible rfl
        rotate_left
        · simp only [Act.put, List.setIfInBounds_toArray, List.set_cons_zero, List.set_cons_succ, i64_w, i32_w]
          rfl
        refine pure_ (i := 6) (N := some 63) (v := ?_) (a' := ?_) #[true, false, true, true, true, false, true, false, false, false, false, false, false, false, false, false, false, false, false, false, false, false] rfl rfl (any_of HT_.out (by kernel_rfl)) (fun _ _ _ h => h) (Or.inl ⟨by rfl, ?_⟩) ?_ ?_
        rotate_left
        · intro w'
          go_simp
          with_reducible rfl
        rotate_left
        · simp only [Act.put, List.setIfInBounds_toArray, List.set_cons_zero, List.set_cons_succ, i64_w, i32_w]
          rfl
        refine pure_ (i := 12) (N := some 69) (v := ?_) (a' := ?_) #[true, false, true, true, true, false, true, false, false, false, false, false, true, false, false, false, false, false, false, false, false, false] rfl rfl (any_of HT_.out (by kernel_rfl)) (fun _ _ _ h => h) (Or.inl ⟨by rfl, ?_⟩) ?_ ?_
        rotate_left
        · intro w'
          go_simp
          with_reducible rfl
        rotate_left
        · simp only [Act.put, List.setIfInBounds_toArray, List.set_cons_zero, List.set_cons_succ, i64_w, i32_w]
          rfl
        refine pure_ (i := 13) (N := some 70) (v := ?_) (a' := ?_) #[true, false, true, true, true, false, true, false, false, false, false, false, true, true, false, false, false, false, false, false, false, false] rfl rfl (any_of HT_.out (by kernel_rfl)) (fun _ _ _ h => h) (Or.inl ⟨by rfl, ?_⟩) ?_ ?_
        rotate_left
        · intro w'
          go_simp
          with_reducible rfl
        rotate_left
        · simp only [Act.put, List.setIfInBounds_toArray, List.set_cons_zero, List.set_cons_succ, i64_w, i32_w]
          rfl
        refine pure_ (i := 14) (N := some 71) (v := ?_) (a' := ?_) #[true, false, true, true, true, false, true, false, false, false, false, false, true, true, true, false, false, false, false, false, false, false] rfl rfl (any_of HT_.out (by kernel_rfl)) (fun _ _ _ h => h) (Or.inl ⟨by rfl, ?_⟩) ?_ ?_
        rotate_left
        · intro w'
          go_simp
          with_reducible rfl
        rotate_left
        · simp only [Act.put, List.setIfInBounds_toArray, List.set_cons_zero, List.set_cons_succ, i64_w, i32_w]
          rfl
        refine pure_ (i := 16) (N := some 73) (v := ?_) (a' := ?_) #[true, false, true, true, true, false, true, false, false, false, false, false, true, true, true, false, true, false, false, false, false, false] rfl rfl (any_of HT_.out (by kernel_rfl)) (fun _ _ _ h => h) (Or.inl ⟨by rfl, ?_⟩) ?_ ?_
        rotate_left
        · intro w'
          go_simp
          with_reducible rfl
        rotate_left
        · simp only [Act.put, List.setIfInBounds_toArray, List.set_cons_zero, List.set_cons_succ, i64_w, i32_w]
          rfl
        refine take_ (i := 5) (N := some 62) (v := ?_) (a' := ?_) #[true, false, true, true, true, true, true, false, false, false, false, false, true, true, true, false, true, false, false, false, false, false] rfl rfl (take_ofW HT_.out HW_.out (by kernel_rfl)) (fun _ _ _ h => h) (Or.inl ⟨by rfl, ?_⟩) hHeld ?_ ?_
        rotate_left
        · rintro w' ⟨s0, s1, s2, s3, s4, s5, s6, s7, s8⟩
          go_simp
          with_reducible rfl
        rotate_left
        · simp only [Act.put, List.setIfInBounds_toArray, List.set_cons_zero, List.set_cons_succ, i64_w, i32_w]
          rfl
        refine pure_ (i := 7) (N := some 64) (v := ?_) (a' := ?_) #[true, false, true, true, true, true, true, true, false, false, false, false, true, true, true, false, true, false, false, false, false, false] rfl rfl (any_of HT_.out (by kernel_rfl)) (fun _ _ _ h => h) (Or.inl ⟨by rfl, ?_⟩) ?_ ?_
        rotate_left
        · intro w'
          go_simp
          with_reducible rfl
        rotate_left
        · simp only [Act.put, List.setIfInBounds_toArray, List.set_cons_zero, List.set_cons_succ, i64_w, i32_w]
          rfl
        refine take_ (i := 9) (N := some 66) (v := ?_) (a' := ?_) #[true, false, true, true, true, true, true, true, false, true, false, false, true, true, true, false, true, false, false, false, false, false] rfl rfl (take_ofW HT_.out HW_.out (by kernel_rfl)) (fun _ _ _ h => h) (Or.inl ⟨by rfl, ?_⟩) hHeld ?_ ?_
        rotate_left
        · rintro w' ⟨s0, s1, s2, s3, s4, s5, s6, s7, s8⟩
          go_simp
          with_reducible rfl
        rotate_left
        · simp only [Act.put, List.setIfInBounds_toArray, List.set_cons_zero, List.set_cons_succ, i64_w, i32_w]
          rfl
        refine take_ (i := 15) (N := some 72) (v := ?_) (a' := ?_) #[true, false, true, true, true, true, true, true, false, true, false, false, true, true, true, true, true, false, false, false, false, false] rfl rfl (take_ofW HT_.out HW_.out (by kernel_rfl)) (fun _ _ _ h => h) (Or.inl ⟨by rfl, ?_⟩) hHeld ?_ ?_
        rotate_left
        · rintro w' ⟨s0, s1, s2, s3, s4, s5, s6, s7, s8⟩
          go_simp
          with_reducible rfl
        rotate_left
        · simp only [Act.put, List.setIfInBounds_toArray, List.set_cons_zero, List.set_cons_succ, i64_w, i32_w]
          rfl
        refine pure_ (i := 17) (N := some 74) (v := ?_) (a' := ?_) #[true, false, true, true, true, true, true, true, false, true, false, false, true, true, true, true, true, true, false, false, false, false] rfl rfl (any_of HT_.out (by kernel_rfl)) (fun _ _ _ h => h) (Or.inl ⟨by rfl, ?_⟩) ?_ ?_
        rotate_left
        · intro w'
          go_simp
          with_reducible rfl
        rotate_left
        · simp only [Act.put, List.setIfInBounds_toArray, List.set_cons_zero, List.set_cons_succ, i64_w, i32_w]
          rfl
        refine join_ (σ := Nat × Value × Nat) 5 #[true, true, true, true, true, true, true, true, true, true, true, false, true, true, true, true, true, true, false, false, false, false] (fun s => [(58, .slice (some ⟨s.1, 0, none⟩) 0 0), (65, s.2.1), (67, .slice (some ⟨s.2.2, 0, none⟩) 1 1)]) (fun s w' => (HRow w' w0.heap.size s.2.1 (hs.take n) ∧ w'.heap[s.2.2]? = some (.cells #[.int .i64 p.e.f0, .int .i64 p.e.f1, .int .u64 p.e.f2, .int .i64 p.e.f3.f0, .int .i64 p.e.f3.f1, .int .i64 p.e.f4, .slice p.A p.e.f5.length p.c, .int .u64 p.e.f6] 33 (0, 0)) ∧ Below wx.heap.size wx w' ∧ ∀ j, s.2.1.ownBlock = some j → wx.heap.size ≤ j) ∧ w'.cell? ⟨g, 1, none⟩ = some (.slice (some ⟨gr, 0, none⟩) n n) ∧ w'.cell? ⟨g3, 0, none⟩ = some (.int .i64 p.e.f0) ∧ w'.cell? ⟨g3, 1, none⟩ = some (.int .i64 p.e.f1) ∧ w'.cell? ⟨g3, 2, none⟩ = some (.int .u64 p.e.f2) ∧ w'.cell? ⟨g3, 3, none⟩ = some (.int .i64 p.e.f3.f0) ∧ w'.cell? ⟨g3, 4, none⟩ = some (.int .i64 p.e.f3.f1) ∧ w'.cell? ⟨g3, 5, none⟩ = some (.int .i64 p.e.f4) ∧ w'.cell? ⟨g3, 6, none⟩ = some (.slice p.A p.e.f5.length p.c) ∧ w'.cell? ⟨g3, 7, none⟩ = some (.int .u64 p.e.f6)) ?_ ?_
        rotate_left
        · intro hCont
          refine two_ (i := 1) (j := 10) (Ni := some 58) (Nj := some 67) #[true, true, true, true, true, true, true, true, false, true, false, false, true, true, true, true, true, true, false, false, false, false] #[true, false, true, true, true, true, true, true, false, true, true, false, true, true, true, true, true, true, false, false, false, false] rfl rfl rfl rfl (two_of HT_.out (by kernel_rfl)) (by decide) (by decide) (fun K hK => ?_) (fun K hK => ?_)
          · skip
            refine value_ (w1 := ?_) (v := ?_) (by rfl) rfl ?_ ?_
            rotate_left 2
            · go_simp
              constructor
              · rfl
              · rfl
            refine hK.out _ _ ⟨(pw_cell_below (by with_reducible repeat (first | exact Below.refl _ _ | apply below_alloc | apply pw_below_drewN | apply below_drew1)) hc), (pw_cell_below (by with_reducible repeat (first | exact Below.refl _ _ | apply below_alloc | apply pw_below_drewN | apply below_drew1)) x0), (pw_cell_below (by with_reducible repeat (first | exact Below.refl _ _ | apply below_alloc | apply pw_below_drewN | apply below_drew1)) x1), (pw_cell_below (by with_reducible repeat (first | exact Below.refl _ _ | apply below_alloc | apply pw_below_drewN | apply below_drew1)) x2), (pw_cell_below (by with_reducible repeat (first | exact Below.refl _ _ | apply below_alloc | apply pw_below_drewN | apply below_drew1)) x3), (pw_cell_below (by with_reducible repeat (first | exact Below.refl _ _ | apply below_alloc | apply pw_below_drewN | apply below_drew1)) x4), (pw_cell_below (by with_reducible repeat (first | exact Below.refl _ _ | apply below_alloc | apply pw_below_drewN | apply below_drew1)) x5), (pw_cell_below (by with_reducible repeat (first | exact Below.refl _ _ | apply below_alloc | apply pw_below_drewN | apply below_drew1)) x6), (pw_cell_below (by with_reducible repeat (first | exact Below.refl _ _ | apply below_alloc | apply pw_below_drewN | apply below_drew1)) x7)⟩ (fun hHeld => ?_)
            clear hK K
            refine norm_ (a' := ?_) ?_ ?_
            rotate_left
            · show Act.put _ (some 58) _ = _
              simp only [Act.put, List.setIfInBounds_toArray, List.set_cons_zero, List.set_cons_succ, i64_w, i32_w]
              rfl
            refine two_ (i := 8) (j := 10) (Ni := some 65) (Nj := some 67) #[true, true, true, true, true, true, true, true, true, true, false, false, true, true, true, true, true, true, false, false, false, false] #[true, true, true, true, true, true, true, true, false, true, true, false, true, true, true, true, true, true, false, false, false, false] rfl rfl rfl rfl (two_of HT_.out (by kernel_rfl)) (by decide) (by decide) (fun K hK => ?_) (fun K hK => ?_)
            · skip
              refine step_app_src w0.heap.size rfl (.tmp 58) (.tmp 64) 22 rfl Try.underlying22 _ [] (hs.take n) rfl ?ho _ rfl ?hsrc ?hbs ?hlt ?_
              case hsrc => exact HS1.out.below (show Below wx.heap.size wx _ from (by with_reducible repeat (first | exact Below.refl _ _ | apply below_alloc | apply pw_below_drewN | apply below_drew1)))
              case hlt => (have := HKI.out; simp only [List.length_nil, List.length_append, List.length_take, List.length_drop, List.length_cons]; omega)
              case ho => exact HRow.empty wx.drew w0.heap.size HBX.out.2
              case hbs => exact Nat.le_trans HBX.out.2 (show Below wx.heap.size wx _ from (by with_reducible repeat (first | exact Below.refl _ _ | apply below_alloc | apply pw_below_drewN | apply below_drew1))).size
              intro v65 w65 hp hf hat
              rw [List.nil_append] at hp
              have hb65 : Below wx.heap.size wx w65 := hf.below (by with_reducible repeat (first | exact Below.refl _ _ | apply below_alloc | apply pw_below_drewN | apply below_drew1)) (fun j hj => Nat.le_of_eq (Option.some.inj hj))
              have hf65 : ∀ j, v65.ownBlock = some j → wx.heap.size ≤ j := fun j hj => (hat_orR hat j hj).elim (fun hj => Nat.le_of_eq (Option.some.inj hj)) (fun h => Nat.le_trans (show Below wx.heap.size wx _ from (by with_reducible repeat (first | exact Below.refl _ _ | apply below_alloc | apply pw_below_drewN | apply below_drew1))).size h)
              refine hK.out _ _ ⟨(pw_cell_below hb65 hc), (pw_cell_below hb65 x0), (pw_cell_below hb65 x1), (pw_cell_below hb65 x2), (pw_cell_below hb65 x3), (pw_cell_below hb65 x4), (pw_cell_below hb65 x5), (pw_cell_below hb65 x6), (pw_cell_below hb65 x7)⟩ (fun hHeld => ?_)
              clear hK K
              refine norm_ (a' := ?_) ?_ ?_
              rotate_left
              · show Act.put _ (some 65) _ = _
                simp only [Act.put, List.setIfInBounds_toArray, List.set_cons_zero, List.set_cons_succ, i64_w, i32_w]
                rfl
              refine one_ (i := 10) (N := some 67) #[true, true, true, true, true, true, true, true, true, true, true, false, true, true, true, true, true, true, false, false, false, false] rfl rfl (one_of HT_.out (by kernel_rfl)) (by decide) (fun K hK => ?_)
              refine value_ (w1 := ?_) (v := ?_) (by rfl) rfl ?_ ?_
              rotate_left 2
              · go_simp
                constructor
                · rfl
                · rfl
              refine hK.out _ _ ⟨(pw_cell_below (by with_reducible repeat (first | exact hb65 | apply below_alloc | apply pw_below_drewN | apply below_drew1)) hc), (pw_cell_below (by with_reducible repeat (first | exact hb65 | apply below_alloc | apply pw_below_drewN | apply below_drew1)) x0), (pw_cell_below (by with_reducible repeat (first | exact hb65 | apply below_alloc | apply pw_below_drewN | apply below_drew1)) x1), (pw_cell_below (by with_reducible repeat (first | exact hb65 | apply below_alloc | apply pw_below_drewN | apply below_drew1)) x2), (pw_cell_below (by with_reducible repeat (first | exact hb65 | apply below_alloc | apply pw_below_drewN | apply below_drew1)) x3), (pw_cell_below (by with_reducible repeat (first | exact hb65 | apply below_alloc | apply pw_below_drewN | apply below_drew1)) x4), (pw_cell_below (by with_reducible repeat (first | exact hb65 | apply below_alloc | apply pw_below_drewN | apply below_drew1)) x5), (pw_cell_below (by with_reducible repeat (first | exact hb65 | apply below_alloc | apply pw_below_drewN | apply below_drew1)) x6), (pw_cell_below (by with_reducible repeat (first | exact hb65 | apply below_alloc | apply pw_below_drewN | apply below_drew1)) x7)⟩ (fun hHeld => ?_)
              clear hK K
              refine norm_ (a' := ?_) ?_ ?_
              rotate_left
              · show Act.put _ (some 67) _ = _
                simp only [Act.put, List.setIfInBounds_toArray, List.set_cons_zero, List.set_cons_succ, i64_w, i32_w]
                rfl
              exact norm_ (by simp only [putAll, Act.put, List.setIfInBounds_toArray, List.set_cons_zero, List.set_cons_succ]) (hCont (wx.heap.size, v65, w65.heap.size) _ ⟨⟨hp.below (below_alloc (Below.refl _ _) _), blk_new w65 _, below_alloc hb65 _, hf65⟩, pw_cell_below (by with_reducible repeat (first | exact hb65 | apply below_alloc | apply pw_below_drewN | apply below_drew1)) hc, pw_cell_below (by with_reducible repeat (first | exact hb65 | apply below_alloc | apply pw_below_drewN | apply below_drew1)) x0, pw_cell_below (by with_reducible repeat (first | exact hb65 | apply below_alloc | apply pw_below_drewN | apply below_drew1)) x1, pw_cell_below (by with_reducible repeat (first | exact hb65 | apply below_alloc | apply pw_below_drewN | apply below_drew1)) x2, pw_cell_below (by with_reducible repeat (first | exact hb65 | apply below_alloc | apply pw_below_drewN | apply below_drew1)) x3, pw_cell_below (by with_reducible repeat (first | exact hb65 | apply below_alloc | apply pw_below_drewN | apply below_drew1)) x4, pw_cell_below (by with_reducible repeat (first | exact hb65 | apply below_alloc | apply pw_below_drewN | apply below_drew1)) x5, pw_cell_below (by with_reducible repeat (first | exact hb65 | apply below_alloc | apply pw_below_drewN | apply below_drew1)) x6, pw_cell_below (by with_reducible repeat (first | exact hb65 | apply below_alloc | apply pw_below_drewN | apply below_drew1)) x7⟩)
            · skip
              refine value_ (w1 := ?_) (v := ?_) (by rfl) rfl ?_ ?_
              rotate_left 2
              · go_simp
                constructor
                · rfl
                · rfl
              refine hK.out _ _ ⟨(pw_cell_below (by with_reducible repeat (first | exact Below.refl _ _ | apply below_alloc | apply pw_below_drewN | apply below_drew1)) hc), (pw_cell_below (by with_reducible repeat (first | exact Below.refl _ _ | apply below_alloc | apply pw_below_drewN | apply below_drew1)) x0), (pw_cell_below (by with_reducible repeat (first | exact Below.refl _ _ | apply below_alloc | apply pw_below_drewN | apply below_drew1)) x1), (pw_cell_below (by with_reducible repeat (first | exact Below.refl _ _ | apply below_alloc | apply pw_below_drewN | apply below_drew1)) x2), (pw_cell_below (by with_reducible repeat (first | exact Below.refl _ _ | apply below_alloc | apply pw_below_drewN | apply below_drew1)) x3), (pw_cell_below (by with_reducible repeat (first | exact Below.refl _ _ | apply below_alloc | apply pw_below_drewN | apply below_drew1)) x4), (pw_cell_below (by with_reducible repeat (first | exact Below.refl _ _ | apply below_alloc | apply pw_below_drewN | apply below_drew1)) x5), (pw_cell_below (by with_reducible repeat (first | exact Below.refl _ _ | apply below_alloc | apply pw_below_drewN | apply below_drew1)) x6), (pw_cell_below (by with_reducible repeat (first | exact Below.refl _ _ | apply below_alloc | apply pw_below_drewN | apply below_drew1)) x7)⟩ (fun hHeld => ?_)
              clear hK K
              refine norm_ (a' := ?_) ?_ ?_
              rotate_left
              · show Act.put _ (some 67) _ = _
                simp only [Act.put, List.setIfInBounds_toArray, List.set_cons_zero, List.set_cons_succ, i64_w, i32_w]
                rfl
              refine one_ (i := 8) (N := some 65) #[true, true, true, true, true, true, true, true, true, true, true, false, true, true, true, true, true, true, false, false, false, false] rfl rfl (one_of HT_.out (by kernel_rfl)) (by decide) (fun K hK => ?_)
              refine step_app_src w0.heap.size rfl (.tmp 58) (.tmp 64) 22 rfl Try.underlying22 _ [] (hs.take n) rfl ?ho _ rfl ?hsrc ?hbs ?hlt ?_
              case hsrc => exact HS1.out.below (show Below wx.heap.size wx _ from (by with_reducible repeat (first | exact Below.refl _ _ | apply below_alloc | apply pw_below_drewN | apply below_drew1)))
              case hlt => (have := HKI.out; simp only [List.length_nil, List.length_append, List.length_take, List.length_drop, List.length_cons]; omega)
              case ho => exact (HRow.empty wx.drew w0.heap.size HBX.out.2).below (below_alloc (Below.refl _ _) _)
              case hbs => exact Nat.le_trans HBX.out.2 (show Below wx.heap.size wx _ from (by with_reducible repeat (first | exact Below.refl _ _ | apply below_alloc | apply pw_below_drewN | apply below_drew1))).size
              intro v65 w65 hp hf hat
              rw [List.nil_append] at hp
              have hb65 : Below wx.heap.size wx w65 := hf.below (by with_reducible repeat (first | exact Below.refl _ _ | apply below_alloc | apply pw_below_drewN | apply below_drew1)) (fun j hj => Nat.le_of_eq (Option.some.inj hj))
              have hf65 : ∀ j, v65.ownBlock = some j → wx.heap.size ≤ j := fun j hj => (hat_orR hat j hj).elim (fun hj => Nat.le_of_eq (Option.some.inj hj)) (fun h => Nat.le_trans (show Below wx.heap.size wx _ from (by with_reducible repeat (first | exact Below.refl _ _ | apply below_alloc | apply pw_below_drewN | apply below_drew1))).size h)
              have hx65 := hf.blk (heap_alloc_new (wx.drew.alloc (.cells #[] 33)) (.cells #[.int .i64 p.e.f0, .int .i64 p.e.f1, .int .u64 p.e.f2, .int .i64 p.e.f3.f0, .int .i64 p.e.f3.f1, .int .i64 p.e.f4, .slice p.A p.e.f5.length p.c, .int .u64 p.e.f6] 33 (0, 0))) (fun hj => by have h := Option.some.inj hj; simp at h)
              refine hK.out _ _ ⟨(pw_cell_below hb65 hc), (pw_cell_below hb65 x0), (pw_cell_below hb65 x1), (pw_cell_below hb65 x2), (pw_cell_below hb65 x3), (pw_cell_below hb65 x4), (pw_cell_below hb65 x5), (pw_cell_below hb65 x6), (pw_cell_below hb65 x7)⟩ (fun hHeld => ?_)
              clear hK K
              refine norm_ (a' := ?_) ?_ ?_
              rotate_left
              · show Act.put _ (some 65) _ = _
                simp only [Act.put, List.setIfInBounds_toArray, List.set_cons_zero, List.set_cons_succ, i64_w, i32_w]
                rfl
              exact norm_ (by simp only [putAll, Act.put, List.setIfInBounds_toArray, List.set_cons_zero, List.set_cons_succ]) (hCont (wx.heap.size, v65, (wx.heap.size + 1)) _ ⟨⟨hp, by simpa using hx65, hb65, hf65⟩, pw_cell_below hb65 hc, pw_cell_below hb65 x0, pw_cell_below hb65 x1, pw_cell_below hb65 x2, pw_cell_below hb65 x3, pw_cell_below hb65 x4, pw_cell_below hb65 x5, pw_cell_below hb65 x6, pw_cell_below hb65 x7⟩)
          · skip
            refine value_ (w1 := ?_) (v := ?_) (by rfl) rfl ?_ ?_
            rotate_left 2
            · go_simp
              constructor
              · rfl
              · rfl
            refine hK.out _ _ ⟨(pw_cell_below (by with_reducible repeat (first | exact Below.refl _ _ | apply below_alloc | apply pw_below_drewN | apply below_drew1)) hc), (pw_cell_below (by with_reducible repeat (first | exact Below.refl _ _ | apply below_alloc | apply pw_below_drewN | apply below_drew1)) x0), (pw_cell_below (by with_reducible repeat (first | exact Below.refl _ _ | apply below_alloc | apply pw_below_drewN | apply below_drew1)) x1), (pw_cell_below (by with_reducible repeat (first | exact Below.refl _ _ | apply below_alloc | apply pw_below_drewN | apply below_drew1)) x2), (pw_cell_below (by with_reducible repeat (first | exact Below.refl _ _ | apply below_alloc | apply pw_below_drewN | apply below_drew1)) x3), (pw_cell_below (by with_reducible repeat (first | exact Below.refl _ _ | apply below_alloc | apply pw_below_drewN | apply below_drew1)) x4), (pw_cell_below (by with_reducible repeat (first | exact Below.refl _ _ | apply below_alloc | apply pw_below_drewN | apply below_drew1)) x5), (pw_cell_below (by with_reducible repeat (first | exact Below.refl _ _ | apply below_alloc | apply pw_below_drewN | apply below_drew1)) x6), (pw_cell_below (by with_reducible repeat (first | exact Below.refl _ _ | apply below_alloc | apply pw_below_drewN | apply below_drew1)) x7)⟩ (fun hHeld => ?_)
            clear hK K
            refine norm_ (a' := ?_) ?_ ?_
            rotate_left
            · show Act.put _ (some 67) _ = _
              simp only [Act.put, List.setIfInBounds_toArray, List.set_cons_zero, List.set_cons_succ, i64_w, i32_w]
              rfl
            refine one_ (i := 1) (N := some 58) #[true, true, true, true, true, true, true, true, false, true, true, false, true, true, true, true, true, true, false, false, false, false] rfl rfl (one_of HT_.out (by kernel_rfl)) (by decide) (fun K hK => ?_)
            refine value_ (w1 := ?_) (v := ?_) (by rfl) rfl ?_ ?_
            rotate_left 2
            · go_simp
              constructor
              · rfl
              · rfl
            refine hK.out _ _ ⟨(pw_cell_below (by with_reducible repeat (first | exact Below.refl _ _ | apply below_alloc | apply pw_below_drewN | apply below_drew1)) hc), (pw_cell_below (by with_reducible repeat (first | exact Below.refl _ _ | apply below_alloc | apply pw_below_drewN | apply below_drew1)) x0), (pw_cell_below (by with_reducible repeat (first | exact Below.refl _ _ | apply below_alloc | apply pw_below_drewN | apply below_drew1)) x1), (pw_cell_below (by with_reducible repeat (first | exact Below.refl _ _ | apply below_alloc | apply pw_below_drewN | apply below_drew1)) x2), (pw_cell_below (by with_reducible repeat (first | exact Below.refl _ _ | apply below_alloc | apply pw_below_drewN | apply below_drew1)) x3), (pw_cell_below (by with_reducible repeat (first | exact Below.refl _ _ | apply below_alloc | apply pw_below_drewN | apply below_drew1)) x4), (pw_cell_below (by with_reducible repeat (first | exact Below.refl _ _ | apply below_alloc | apply pw_below_drewN | apply below_drew1)) x5), (pw_cell_below (by with_reducible repeat (first | exact Below.refl _ _ | apply below_alloc | apply pw_below_drewN | apply below_drew1)) x6), (pw_cell_below (by with_reducible repeat (first | exact Below.refl _ _ | apply below_alloc | apply pw_below_drewN | apply below_drew1)) x7)⟩ (fun hHeld => ?_)
            clear hK K
            refine norm_ (a' := ?_) ?_ ?_
            rotate_left
            · show Act.put _ (some 58) _ = _
              simp only [Act.put, List.setIfInBounds_toArray, List.set_cons_zero, List.set_cons_succ, i64_w, i32_w]
              rfl
            refine one_ (i := 8) (N := some 65) #[true, true, true, true, true, true, true, true, true, true, true, false, true, true, true, true, true, true, false, false, false, false] rfl rfl (one_of HT_.out (by kernel_rfl)) (by decide) (fun K hK => ?_)
            refine step_app_src w0.heap.size rfl (.tmp 58) (.tmp 64) 22 rfl Try.underlying22 _ [] (hs.take n) rfl ?ho _ rfl ?hsrc ?hbs ?hlt ?_
            case hsrc => exact HS1.out.below (show Below wx.heap.size wx _ from (by with_reducible repeat (first | exact Below.refl _ _ | apply below_alloc | apply pw_below_drewN | apply below_drew1)))
            case hlt => (have := HKI.out; simp only [List.length_nil, List.length_append, List.length_take, List.length_drop, List.length_cons]; omega)
            case ho => exact (HRow.empty2 wx (.cells #[.int .i64 p.e.f0, .int .i64 p.e.f1, .int .u64 p.e.f2, .int .i64 p.e.f3.f0, .int .i64 p.e.f3.f1, .int .i64 p.e.f4, .slice p.A p.e.f5.length p.c, .int .u64 p.e.f6] 33) w0.heap.size HBX.out.2).below (below_drew1 (Below.refl _ _))
            case hbs => exact Nat.le_trans HBX.out.2 (show Below wx.heap.size wx _ from (by with_reducible repeat (first | exact Below.refl _ _ | apply below_alloc | apply pw_below_drewN | apply below_drew1))).size
            intro v65 w65 hp hf hat
            rw [List.nil_append] at hp
            have hb65 : Below wx.heap.size wx w65 := hf.below (by with_reducible repeat (first | exact Below.refl _ _ | apply below_alloc | apply pw_below_drewN | apply below_drew1)) (fun j hj => (by have h := Option.some.inj hj; simp at h; omega))
            have hf65 : ∀ j, v65.ownBlock = some j → wx.heap.size ≤ j := fun j hj => (hat_orR hat j hj).elim (fun hj => (by have h := Option.some.inj hj; simp at h; omega)) (fun h => Nat.le_trans (show Below wx.heap.size wx _ from (by with_reducible repeat (first | exact Below.refl _ _ | apply below_alloc | apply pw_below_drewN | apply below_drew1))).size h)
            have hx65 := hf.blk (blk_alloc (blk_new wx.drew (.cells #[.int .i64 p.e.f0, .int .i64 p.e.f1, .int .u64 p.e.f2, .int .i64 p.e.f3.f0, .int .i64 p.e.f3.f1, .int .i64 p.e.f4, .slice p.A p.e.f5.length p.c, .int .u64 p.e.f6] 33 (0, 0))) (.cells #[] 33 (0, 0))) (fun hj => by have h := Option.some.inj hj; simp at h)
            refine hK.out _ _ ⟨(pw_cell_below hb65 hc), (pw_cell_below hb65 x0), (pw_cell_below hb65 x1), (pw_cell_below hb65 x2), (pw_cell_below hb65 x3), (pw_cell_below hb65 x4), (pw_cell_below hb65 x5), (pw_cell_below hb65 x6), (pw_cell_below hb65 x7)⟩ (fun hHeld => ?_)
            clear hK K
            refine norm_ (a' := ?_) ?_ ?_
            rotate_left
            · show Act.put _ (some 65) _ = _
              simp only [Act.put, List.setIfInBounds_toArray, List.set_cons_zero, List.set_cons_succ, i64_w, i32_w]
              rfl
            exact norm_ (by simp only [putAll, Act.put, List.setIfInBounds_toArray, List.set_cons_zero, List.set_cons_succ]) (hCont ((wx.heap.size + 1), v65, wx.heap.size) _ ⟨⟨hp, by simpa using hx65, hb65, hf65⟩, pw_cell_below hb65 hc, pw_cell_below hb65 x0, pw_cell_below hb65 x1, pw_cell_below hb65 x2, pw_cell_below hb65 x3, pw_cell_below hb65 x4, pw_cell_below hb65 x5, pw_cell_below hb65 x6, pw_cell_below hb65 x7⟩)
        rintro ⟨a58, v65, b67⟩ w67 ⟨⟨hO65, hx67, hb67, hf67⟩, hHeld⟩
        change HRow w67 w0.heap.size v65 _ at hO65
        change w67.heap[b67]? = _ at hx67
        change ∀ j, v65.ownBlock = some j → _ at hf67
        refine norm_ (a' := ?_) ?_ ?_
        rotate_left
        · simp only [putAll, Act.put, List.setIfInBounds_toArray, List.set_cons_zero, List.set_cons_succ]
          rfl
        refine one_ (i := 11) (N := some 68) #[true, true, true, true, true, true, true, true, true, true, true, true, true, true, true, true, true, true, false, false, false, false] rfl rfl (one_of HT_.out (by kernel_rfl)) (by decide) (fun K hK => ?_)
        refine step_app_src w0.heap.size rfl (.tmp 65) (.tmp 67) 22 rfl Try.underlying22 v65 (hs.take n) [p] rfl ?ho _ rfl ?hsrc ?hbs ?hlt ?_
        case hsrc => exact .inr ⟨_, 1, _, rfl, rfl, fun j u hu => World.news_of_block hx67 j u (by simpa [flE, enC] using hu)⟩
        case hlt => (have := HKI.out; simp only [List.length_nil, List.length_append, List.length_take, List.length_drop, List.length_cons]; omega)
        case ho => exact hO65
        case hbs => exact Nat.le_trans HBX.out.2 hb67.size
        intro v68 w68 hp hf hat
        have hb68 : Below wx.heap.size wx w68 := hf.below hb67 (fun j hj => hf67 j hj)
        have hf68 : ∀ j, v68.ownBlock = some j → wx.heap.size ≤ j := fun j hj => (hat_orR hat j hj).elim (fun h => hf67 j h) (fun h => Nat.le_trans hb67.size h)
        have hO68 := hp
        clear hp hf hat
        refine hK.out _ _ ⟨(pw_cell_below hb68 hc), (pw_cell_below hb68 x0), (pw_cell_below hb68 x1), (pw_cell_below hb68 x2), (pw_cell_below hb68 x3), (pw_cell_below hb68 x4), (pw_cell_below hb68 x5), (pw_cell_below hb68 x6), (pw_cell_below hb68 x7)⟩ (fun hHeld => ?_)
        clear hK K
        refine norm_ (a' := ?_) ?_ ?_
        rotate_left
        · show Act.put _ (some 68) _ = _
          simp only [Act.put, List.setIfInBounds_toArray, List.set_cons_zero, List.set_cons_succ, i64_w, i32_w]
          rfl
        refine one_ (i := 18) (N := some 75) #[true, true, true, true, true, true, true, true, true, true, true, true, true, true, true, true, true, true, true, false, false, false] rfl rfl (one_of HT_.out (by kernel_rfl)) (by decide) (fun K hK => ?_)
        refine step_app_src w0.heap.size rfl (.tmp 68) (.tmp 74) 22 rfl Try.underlying22 v68 ((hs.take n) ++ [p]) (hs.drop n) rfl ?ho _ rfl ?hsrc ?hbs ?hlt ?_
        case hsrc => exact HS2.out.below hb68
        case hlt => (have := HKI.out; simp only [List.length_nil, List.length_append, List.length_take, List.length_drop, List.length_cons]; omega)
        case ho => exact hO68
        case hbs => exact Nat.le_trans HBX.out.2 hb68.size
        intro v75 w75 hp hf hat
        obtain ⟨A75, L75, c75, rfl⟩ : ∃ A L c, v75 = .slice A L c := (by obtain ⟨A, c, h⟩ := hp.form; exact ⟨A, _, c, h⟩)
        have hb75 : Below wx.heap.size wx w75 := hf.below hb68 (fun j hj => hf68 j hj)
        have hf75 : ∀ j, (Value.slice A75 L75 c75).ownBlock = some j → wx.heap.size ≤ j := fun j hj => (hat_orR hat j hj).elim (fun h => hf68 j h) (fun h => Nat.le_trans hb68.size h)
        have HB75 := Aside0.mk hb75
        have HF75 := Aside0.mk hf75
        have HO75 := Aside0.mk hp
        have hz75 := blk_frozen (blk_below HHX.out.hd hb75) 1
        clear hp hf hat hf75
        refine hK.out _ _ ⟨(pw_cell_below hb75 hc), (pw_cell_below hb75 x0), (pw_cell_below hb75 x1), (pw_cell_below hb75 x2), (pw_cell_below hb75 x3), (pw_cell_below hb75 x4), (pw_cell_below hb75 x5), (pw_cell_below hb75 x6), (pw_cell_below hb75 x7)⟩ (fun hHeld => ?_)
        clear hK K
        refine norm_ (a' := ?_) ?_ ?_
        rotate_left
        · show Act.put _ (some 75) _ = _
          simp only [Act.put, List.setIfInBounds_toArray, List.set_cons_zero, List.set_cons_succ, i64_w, i32_w]
          rfl
        refine pure_ (i := 19) (N := some 76) (v := ?_) (a' := ?_) #[true, true, true, true, true, true, true, true, true, true, true, true, true, true, true, true, true, true, true, true, false, false] rfl rfl (any_of HT_.out (by kernel_rfl)) (fun _ _ _ h => h) (Or.inl ⟨by rfl, ?_⟩) ?_ ?_
        rotate_left
        · intro w'
          go_simp
          with_reducible rfl
        rotate_left
        · simp only [Act.put, List.setIfInBounds_toArray, List.set_cons_zero, List.set_cons_succ, i64_w, i32_w]
          rfl
        refine pure_ (i := 20) (N := some 77) (v := ?_) (a' := ?_) #[true, true, true, true, true, true, true, true, true, true, true, true, true, true, true, true, true, true, true, true, true, false] rfl rfl (any_of HT_.out (by kernel_rfl)) (fun _ _ _ h => h) (Or.inl ⟨by rfl, ?_⟩) ?_ ?_
        rotate_left
        · intro w'
          go_simp
          with_reducible rfl
        rotate_left
        · simp only [Act.put, List.setIfInBounds_toArray, List.set_cons_zero, List.set_cons_succ, i64_w, i32_w]
          rfl
        refine last_ (i := 21) (N := none) #[true, true, true, true, true, true, true, true, true, true, true, true, true, true, true, true, true, true, true, true, true, true] rfl rfl (one_of HT_.out (by kernel_rfl)) (by decide) (fun K hK => ?_)
        refine skip_ (w1 := ?_) (by rfl) rfl ?_ ?_
        rotate_left
        · go_simp
          rfl
        refine hK.out _ _ ?_
        clear hK K
        refine done_ (done_of HT_.out (by kernel_rfl)) ?_
        go_upto_region 14 with fail
        refine gen_world (fun W7 hW7 => ?_)
        have h7 : W7.heap[g]? = some (.cells #[.int .i64 most, .slice A75 L75 c75] 50 (0, 0)) := by
          rw [hW7]
          have := blk_set (blk_below HHX.out.hd HB75.out) 1 (.slice A75 L75 c75)
          simpa using this
        have hf7 : Fr w75 W7 (fun j => j = g) := by rw [hW7]; exact Fr.set (Fr.refl _ (fun j => j = g)) (.inl rfl) _ _
        clear hW7
        have hF : Fr w W7 (fun j => j = g) := ((Fr.ofBelow (fun j => j = g) HBW.out).trans (Fr.ofBelow (fun j => j = g) HB75.out) (fun _ _ h => h)).trans hf7 (fun _ _ h => h)
        have HEND : Aside0 (RHoldP w0 w g most hs p W7) := ⟨n, (by have := HKI.out; omega), HT.out, (fun q' hq' => by have h1 := (List.getElem?_eq_some_iff.1 hq').1; have h3 := HN.out; omega), .slice A75 L75 c75, ⟨h7, HO75.out.fr hf7 (fun j hj e => by
            have h1 := HF75.out j hj
            have h2 := blk_lt HHX.out.hd
            omega), HHX.out.bs, fun q hq => by
            rcases List.mem_append.1 hq with hq | hq
            · rcases List.mem_append.1 hq with hq | hq
              · exact HHX.out.rd q (List.mem_of_mem_take hq)
              · rw [List.mem_singleton.1 hq]
                exact HR00.out
            · exact HHX.out.rd q (List.mem_of_mem_drop hq), hF.below HW0.out (fun j hj => by rw [hj]; exact HHX.out.bs)⟩, hF, fun j hj => Nat.le_trans HBW.out.size (HF75.out j hj)⟩
        clear h7 hf7 hF
        go_wp2
        go_ret
        exact ⟨rfl, HEND.out⟩
      · skip
        go_upto_region 13 with fail
        refine gen_world (fun wx hwx => ?_)
        have HBX : Aside0 (Below w14.heap.size w14 wx ∧ w0.heap.size ≤ wx.heap.size) := ⟨by
          have h : Below w14.heap.size w14 wx := by rw [hwx]; with_reducible repeat (first | exact HBK.out | apply pw_below_drewN | apply below_drew1)
          exact ⟨h, Nat.le_trans HP14.out.bel.size h.size⟩⟩
        have HHX := Aside0.mk (HP14.out.below HBX.out.1)
        have hc := HHX.out.cell
        have HXX := Aside0.mk (blk_below HX14.out HBX.out.1)
        obtain ⟨x0, x1, x2, x3, x4, x5, x6, x7, -⟩ := cells8z HXX.out
        have HBW : Aside0 (Below w.heap.size w wx) := ⟨HB14.out.trans (HBX.out.1.mono HB14.out.size)⟩
        have HKI : Aside0 (k ≤ n ∧ n ≤ 100000 ∧ hs.length = n) := ⟨hkn2, HL.out, HN.out⟩
        have hrow := HHX.out.row
        have HS1 : Aside0 (SrcE wx (.slice (some ⟨gr, 0, none⟩) k cap) (hs.take k)) := ⟨srcE_take hrow HN.out hkn2⟩
        have HS2 : Aside0 (k < cap → SrcE wx (.slice (some ⟨gr, k * 8, none⟩) (n - k) (cap - k)) (hs.drop k)) := ⟨fun _ => srcE_drop hrow HN.out hkn2⟩
        have hnc : n ≤ cap := by
          have h := hrow.cap
          rw [HN.out] at h
          exact h
        clear hrow
        have hkc : k ≤ cap := by omega
        have hkc3 : (k : Int) ≤ cap := by omega
        have h0k : (0 : Int) ≤ k := by omega
        have hknI : (k : Int) ≤ n := by omega
        have hck2 : ¬ cap = k := by omega
        have hck3 : (k : Int) < cap := by omega
        have HS2 := Aside0.mk (HS2.out (by omega))
        clear hwx
        refine start_ (n := 22) (S := fun w' => w'.cell? ⟨g, 1, none⟩ = some (.slice (some ⟨gr, 0, none⟩) n cap) ∧ w'.cell? ⟨g3, 0, none⟩ = some (.int .i64 p.e.f0) ∧ w'.cell? ⟨g3, 1, none⟩ = some (.int .i64 p.e.f1) ∧ w'.cell? ⟨g3, 2, none⟩ = some (.int .u64 p.e.f2) ∧ w'.cell? ⟨g3, 3, none⟩ = some (.int .i64 p.e.f3.f0) ∧ w'.cell? ⟨g3, 4, none⟩ = some (.int .i64 p.e.f3.f1) ∧ w'.cell? ⟨g3, 5, none⟩ = some (.int .i64 p.e.f4) ∧ w'.cell? ⟨g3, 6, none⟩ = some (.slice p.A p.e.f5.length p.c) ∧ w'.cell? ⟨g3, 7, none⟩ = some (.int .u64 p.e.f6)) (ds := [21]) #[false, false, false, false, false, false, false, false, false, false, false, false, false, false, false, false, false, false, false, false, false, false] (by kernel_rfl) rfl rfl ⟨hc, x0, x1, x2, x3, x4, x5, x6, x7⟩ (fun hHeld => ?_)
        refine with_tabW rhold_ok.tab13 rhold_ok.bits13 (fun HT_ HW_ => ?_)
        refine pure_ (i := 0) (N := some 57) (v := ?_) (a' := ?_) #[true, false, false, false, false, false, false, false, false, false, false, false, false, false, false, false, false, false, false, false, false, false] rfl rfl (any_of HT_.out (by kernel_rfl)) (fun _ _ _ h => h) (Or.inl ⟨by rfl, ?_⟩) ?_ ?_
        rotate_left
        · intro w'
          go_simp
          with_reducible rfl
        rotate_left
        · simp only [Act.put, List.setIfInBounds_toArray, List.set_cons_zero, List.set_cons_succ, i64_w, i32_w]
          rfl
        refine pure_ (i := 2) (N := some 59) (v := ?_) (a' := ?_) #[true, false, true, false, false, false, false, false, false, false, false, false, false, false, false, false, false, false, false, false, false, false] rfl rfl (any_of HT_.out (by kernel_rfl)) (fun _ _ _ h => h) (Or.inl ⟨by rfl, ?_⟩) ?_ ?_
        rotate_left
        · intro w'
          go_simp
          with_reducible rfl
        rotate_left
        · simp only [Act.put, List.setIfInBounds_toArray, List.set_cons_zero, List.set_cons_succ, i64_w, i32_w]
          rfl
        refine pure_ (i := 3) (N := some 60) (v := ?_) (a' := ?_) #[true, false, true, true, false, false, false, false, false, false, false, false, false, false, false, false, false, false, false, false, false, false] rfl rfl (any_of HT_.out (by kernel_rfl)) (fun _ _ _ h => h) (Or.inl ⟨by rfl, ?_⟩) ?_ ?_
        rotate_left
        · intro w'
          go_simp
          with_reducible rfl
        rotate_left
        · simp only [Act.put, List.setIfInBounds_toArray, List.set_cons_zero, List.set_cons_succ, i64_w, i32_w]
          rfl
        refine pure_ (i := 4) (N := some 61) (v := ?_) (a' := ?_) #[true, false, true, true, true, false, false, false, false, false, false, false, false, false, false, false, false, false, false, false, false, false] rfl rfl (any_of HT_.out (by kernel_rfl)) (fun _ _ _ h => h) (Or.inl ⟨by rfl, ?_⟩) ?_ ?_
        rotate_left
        · intro w'
          go_simp
          with_reducible rfl
        rotate_left
        · simp only [Act.put, List.setIfInBounds_toArray, List.set_cons_zero, List.set_cons_succ, i64_w, i32_w]
          rfl
        refine pure_ (i := 6) (N := some 63) (v := ?_) (a' := ?_) #[true, false, true, true, true, false, true, false, false, false, false, false, false, false, false, false, false, false, false, false, false, false] rfl rfl (any_of HT_.out (by kernel_rfl)) (fun _ _ _ h => h) (Or.inl ⟨by rfl, ?_⟩) ?_ ?_
        rotate_left
        · intro w'
          go_simp
          with_reducible rfl
        rotate_left
        · simp only [Act.put, List.setIfInBounds_toArray, List.set_cons_zero, List.set_cons_succ, i64_w, i32_w]
          rfl
        refine pure_ (i := 12) (N := some 69) (v := ?_) (a' := ?_) #[true, false, true, true, true, false, true, false, false, false, false, false, true, false, false, false, false, false, false, false, false, false] rfl rfl (any_of HT_.out (by kernel_rfl)) (fun _ _ _ h => h) (Or.inl ⟨by rfl, ?_⟩) ?_ ?_
        rotate_left
        · intro w'
          go_simp
          with_reducible rfl
        rotate_left
        · simp only [Act.put, List.setIfInBounds_toArray, List.set_cons_zero, List.set_cons_succ, i64_w, i32_w]
          rfl
        refine pure_ (i := 13) (N := some 70) (v := ?_) (a' := ?_) #[true, false, true, true, true, false, true, false, false, false, false, false, true, true, false, false, false, false, false, false, false, false] rfl rfl (any_of HT_.out (by kernel_rfl)) (fun _ _ _ h => h) (Or.inl ⟨by rfl, ?_⟩) ?_ ?_
        rotate_left
        · intro w'
          go_simp
          with_reducible rfl
        rotate_left
        · simp only [Act.put, List.setIfInBounds_toArray, List.set_cons_zero, List.set_cons_succ, i64_w, i32_w]
          rfl
        refine pure_ (i := 14) (N := some 71) (v := ?_) (a' := ?_) #[true, false, true, true, true, false, true, false, false, false, false, false, true, true, true, false, false, false, false, false, false, false] rfl rfl (any_of HT_.out (by kernel_rfl)) (fun _ _ _ h => h) (Or.inl ⟨by rfl, ?_⟩) ?_ ?_
        rotate_left
        · intro w'
          go_simp
          with_reducible rfl
        rotate_left
        · simp only [Act.put, List.setIfInBounds_toArray, List.set_cons_zero, List.set_cons_succ, i64_w, i32_w]
          rfl
        refine pure_ (i := 16) (N := some 73) (v := ?_) (a' := ?_) #[true, false, true, true, true, false, true, false, false, false, false, false, true, true, true, false, true, false, false, false, false, false] rfl rfl (any_of HT_.out (by kernel_rfl)) (fun _ _ _ h => h) (Or.inl ⟨by rfl, ?_⟩) ?_ ?_
        rotate_left
        · intro w'
          go_simp
          with_reducible rfl
        rotate_left
        · simp only [Act.put, List.setIfInBounds_toArray, List.set_cons_zero, List.set_cons_succ, i64_w, i32_w]
          rfl
        refine take_ (i := 5) (N := some 62) (v := ?_) (a' := ?_) #[true, false, true, true, true, true, true, false, false, false, false, false, true, true, true, false, true, false, false, false, false, false] rfl rfl (take_ofW HT_.out HW_.out (by kernel_rfl)) (fun _ _ _ h => h) (Or.inl ⟨by rfl, ?_⟩) hHeld ?_ ?_
        rotate_left
        · rintro w' ⟨s0, s1, s2, s3, s4, s5, s6, s7, s8⟩
          go_simp
          with_reducible rfl
        rotate_left
        · simp only [Act.put, List.setIfInBounds_toArray, List.set_cons_zero, List.set_cons_succ, i64_w, i32_w]
          rfl
        refine pure_ (i := 7) (N := some 64) (v := ?_) (a' := ?_) #[true, false, true, true, true, true, true, true, false, false, false, false, true, true, true, false, true, false, false, false, false, false] rfl rfl (any_of HT_.out (by kernel_rfl)) (fun _ _ _ h => h) (Or.inl ⟨by rfl, ?_⟩) ?_ ?_
        rotate_left
        · intro w'
          go_simp
          with_reducible rfl
        rotate_left
        · simp only [Act.put, List.setIfInBounds_toArray, List.set_cons_zero, List.set_cons_succ, i64_w, i32_w]
          rfl
        refine take_ (i := 9) (N := some 66) (v := ?_) (a' := ?_) #[true, false, true, true, true, true, true, true, false, true, false, false, true, true, true, false, true, false, false, false, false, false] rfl rfl (take_ofW HT_.out HW_.out (by kernel_rfl)) (fun _ _ _ h => h) (Or.inl ⟨by rfl, ?_⟩) hHeld ?_ ?_
        rotate_left
        · rintro w' ⟨s0, s1, s2, s3, s4, s5, s6, s7, s8⟩
          go_simp
          with_reducible rfl
        rotate_left
        · simp only [Act.put, List.setIfInBounds_toArray, List.set_cons_zero, List.set_cons_succ, i64_w, i32_w]
          rfl
        refine take_ (i := 15) (N := some 72) (v := ?_) (a' := ?_) #[true, false, true, true, true, true, true, true, false, true, false, false, true, true, true, true, true, false, false, false, false, false] rfl rfl (take_ofW HT_.out HW_.out (by kernel_rfl)) (fun _ _ _ h => h) (Or.inl ⟨by rfl, ?_⟩) hHeld ?_ ?_
        rotate_left
        · rintro w' ⟨s0, s1, s2, s3, s4, s5, s6, s7, s8⟩
          go_simp
          with_reducible rfl
        rotate_left
        · simp only [Act.put, List.setIfInBounds_toArray, List.set_cons_zero, List.set_cons_succ, i64_w, i32_w]
          rfl
        refine pure_ (i := 17) (N := some 74) (v := ?_) (a' := ?_) #[true, false, true, true, true, true, true, true, false, true, false, false, true, true, true, true, true, true, false, false, false, false] rfl rfl (any_of HT_.out (by kernel_rfl)) (fun _ _ _ h => h) (Or.inl ⟨by rfl, ?_⟩) ?_ ?_
        rotate_left
        · intro w'
          go_simp
          with_reducible rfl
        rotate_left
        · simp only [Act.put, List.setIfInBounds_toArray, List.set_cons_zero, List.set_cons_succ, i64_w, i32_w]
          rfl
        refine join_ (σ := Nat × Value × Nat) 5 #[true, true, true, true, true, true, true, true, true, true, true, false, true, true, true, true, true, true, false, false, false, false] (fun s => [(58, .slice (some ⟨s.1, 0, none⟩) 0 0), (65, s.2.1), (67, .slice (some ⟨s.2.2, 0, none⟩) 1 1)]) (fun s w' => (HRow w' w0.heap.size s.2.1 (hs.take k) ∧ w'.heap[s.2.2]? = some (.cells #[.int .i64 p.e.f0, .int .i64 p.e.f1, .int .u64 p.e.f2, .int .i64 p.e.f3.f0, .int .i64 p.e.f3.f1, .int .i64 p.e.f4, .slice p.A p.e.f5.length p.c, .int .u64 p.e.f6] 33 (0, 0)) ∧ Below wx.heap.size wx w' ∧ ∀ j, s.2.1.ownBlock = some j → wx.heap.size ≤ j) ∧ w'.cell? ⟨g, 1, none⟩ = some (.slice (some ⟨gr, 0, none⟩) n cap) ∧ w'.cell? ⟨g3, 0, none⟩ = some (.int .i64 p.e.f0) ∧ w'.cell? ⟨g3, 1, none⟩ = some (.int .i64 p.e.f1) ∧ w'.cell? ⟨g3, 2, none⟩ = some (.int .u64 p.e.f2) ∧ w'.cell? ⟨g3, 3, none⟩ = some (.int .i64 p.e.f3.f0) ∧ w'.cell? ⟨g3, 4, none⟩ = some (.int .i64 p.e.f3.f1) ∧ w'.cell? ⟨g3, 5, none⟩ = some (.int .i64 p.e.f4) ∧ w'.cell? ⟨g3, 6, none⟩ = some (.slice p.A p.e.f5.length p.c) ∧ w'.cell? ⟨g3, 7, none⟩ = some (.int .u64 p.e.f6)) ?_ ?_
        rotate_left
        · intro hCont
          refine two_ (i := 1) (j := 10) (Ni := some 58) (Nj := some 67) #[true, true, true, true, true, true, true, true, false, true, false, false, true, true, true, true, true, true, false, false, false, false] #[true, false, true, true, true, true, true, true, false, true, true, false, true, true, true, true, true, true, false, false, false, false] rfl rfl rfl rfl (two_of HT_.out (by kernel_rfl)) (by decide) (by decide) (fun K hK => ?_) (fun K hK => ?_)
          · skip
            refine value_ (w1 := ?_) (v := ?_) (by rfl) rfl ?_ ?_
            rotate_left 2
            · go_simp
              constructor
              · rfl
              · rfl
            refine hK.out _ _ ⟨(pw_cell_below (by with_reducible repeat (first | exact Below.refl _ _ | apply below_alloc | apply pw_below_drewN | apply below_drew1)) hc), (pw_cell_below (by with_reducible repeat (first | exact Below.refl _ _ | apply below_alloc | apply pw_below_drewN | apply below_drew1)) x0), (pw_cell_below (by with_reducible repeat (first | exact Below.refl _ _ | apply below_alloc | apply pw_below_drewN | apply below_drew1)) x1), (pw_cell_below (by with_reducible repeat (first | exact Below.refl _ _ | apply below_alloc | apply pw_below_drewN | apply below_drew1)) x2), (pw_cell_below (by with_reducible repeat (first | exact Below.refl _ _ | apply below_alloc | apply pw_below_drewN | apply below_drew1)) x3), (pw_cell_below (by with_reducible repeat (first | exact Below.refl _ _ | apply below_alloc | apply pw_below_drewN | apply below_drew1)) x4), (pw_cell_below (by with_reducible repeat (first | exact Below.refl _ _ | apply below_alloc | apply pw_below_drewN | apply below_drew1)) x5), (pw_cell_below (by with_reducible repeat (first | exact Below.refl _ _ | apply below_alloc | apply pw_below_drewN | apply below_drew1)) x6), (pw_cell_below (by with_reducible repeat (first | exact Below.refl _ _ | apply below_alloc | apply pw_below_drewN | apply below_drew1)) x7)⟩ (fun hHeld => ?_)
            clear hK K
            refine norm_ (a' := ?_) ?_ ?_
            rotate_left
            · show Act.put _ (some 58) _ = _
              simp only [Act.put, List.setIfInBounds_toArray, List.set_cons_zero, List.set_cons_succ, i64_w, i32_w]
              rfl
            refine two_ (i := 8) (j := 10) (Ni := some 65) (Nj := some 67) #[true, true, true, true, true, true, true, true, true, true, false, false, true, true, true, true, true, true, false, false, false, false] #[true, true, true, true, true, true, true, true, false, true, true, false, true, true, true, true, true, true, false, false, false, false] rfl rfl rfl rfl (two_of HT_.out (by kernel_rfl)) (by decide) (by decide) (fun K hK => ?_) (fun K hK => ?_)
            · skip
              refine step_app_src w0.heap.size rfl (.tmp 58) (.tmp 64) 22 rfl Try.underlying22 _ [] (hs.take k) rfl ?ho _ rfl ?hsrc ?hbs ?hlt ?_
              case hsrc => exact HS1.out.below (show Below wx.heap.size wx _ from (by with_reducible repeat (first | exact Below.refl _ _ | apply below_alloc | apply pw_below_drewN | apply below_drew1)))
              case hlt => (have := HKI.out; simp only [List.length_nil, List.length_append, List.length_take, List.length_drop, List.length_cons]; omega)
              case ho => exact HRow.empty wx.drew w0.heap.size HBX.out.2
              case hbs => exact Nat.le_trans HBX.out.2 (show Below wx.heap.size wx _ from (by with_reducible repeat (first | exact Below.refl _ _ | apply below_alloc | apply pw_below_drewN | apply below_drew1))).size
              intro v65 w65 hp hf hat
              rw [List.nil_append] at hp
              have hb65 : Below wx.heap.size wx w65 := hf.below (by with_reducible repeat (first | exact Below.refl _ _ | apply below_alloc | apply pw_below_drewN | apply below_drew1)) (fun j hj => Nat.le_of_eq (Option.some.inj hj))
              have hf65 : ∀ j, v65.ownBlock = some j → wx.heap.size ≤ j := fun j hj => (hat_orR hat j hj).elim (fun hj => Nat.le_of_eq (Option.some.inj hj)) (fun h => Nat.le_trans (show Below wx.heap.size wx _ from (by with_reducible repeat (first | exact Below.refl _ _ | apply below_alloc | apply pw_below_drewN | apply below_drew1))).size h)
              refine hK.out _ _ ⟨(pw_cell_below hb65 hc), (pw_cell_below hb65 x0), (pw_cell_below hb65 x1), (pw_cell_below hb65 x2), (pw_cell_below hb65 x3), (pw_cell_below hb65 x4), (pw_cell_below hb65 x5), (pw_cell_below hb65 x6), (pw_cell_below hb65 x7)⟩ (fun hHeld => ?_)
              clear hK K
              refine norm_ (a' := ?_) ?_ ?_
              rotate_left
              · show Act.put _ (some 65) _ = _
                simp only [Act.put, List.setIfInBounds_toArray, List.set_cons_zero, List.set_cons_succ, i64_w, i32_w]
                rfl
              refine one_ (i := 10) (N := some 67) #[true, true, true, true, true, true, true, true, true, true, true, false, true, true, true, true, true, true, false, false, false, false] rfl rfl (one_of HT_.out (by kernel_rfl)) (by decide) (fun K hK => ?_)
              refine value_ (w1 := ?_) (v := ?_) (by rfl) rfl ?_ ?_
              rotate_left 2
              · go_simp
                constructor
                · rfl
                · rfl
              refine hK.out _ _ ⟨(pw_cell_below (by with_reducible repeat (first | exact hb65 | apply below_alloc | apply pw_below_drewN | apply below_drew1)) hc), (pw_cell_below (by with_reducible repeat (first | exact hb65 | apply below_alloc | apply pw_below_drewN | apply below_drew1)) x0), (pw_cell_below (by with_reducible repeat (first | exact hb65 | apply below_alloc | apply pw_below_drewN | apply below_drew1)) x1), (pw_cell_below (by with_reducible repeat (first | exact hb65 | apply below_alloc | apply pw_below_drewN | apply below_drew1)) x2), (pw_cell_below (by with_reducible repeat (first | exact hb65 | apply below_alloc | apply pw_below_drewN | apply below_drew1)) x3), (pw_cell_below (by with_reducible repeat (first | exact hb65 | apply below_alloc | apply pw_below_drewN | apply below_drew1)) x4), (pw_cell_below (by with_reducible repeat (first | exact hb65 | apply below_alloc | apply pw_below_drewN | apply below_drew1)) x5), (pw_cell_below (by with_reducible repeat (first | exact hb65 | apply below_alloc | apply pw_below_drewN | apply below_drew1)) x6), (pw_cell_below (by with_reducible repeat (first | exact hb65 | apply below_alloc | apply pw_below_drewN | apply below_drew1)) x7)⟩ (fun hHeld => ?_)
              clear hK K
              refine norm_ (a' := ?_) ?_ ?_
              rotate_left
              · show Act.put _ (some 67) _ = _
                simp only [Act.put, List.setIfInBounds_toArray, List.set_cons_zero, List.set_cons_succ, i64_w, i32_w]
                rfl
              exact norm_ (by simp only [putAll, Act.put, List.setIfInBounds_toArray, List.set_cons_zero, List.set_cons_succ]) (hCont (wx.heap.size, v65, w65.heap.size) _ ⟨⟨hp.below (below_alloc (Below.refl _ _) _), blk_new w65 _, below_alloc hb65 _, hf65⟩, pw_cell_below (by with_reducible repeat (first | exact hb65 | apply below_alloc | apply pw_below_drewN | apply below_drew1)) hc, pw_cell_below (by with_reducible repeat (first | exact hb65 | apply below_alloc | apply pw_below_drewN | apply below_drew1)) x0, pw_cell_below (by with_reducible repeat (first | exact hb65 | apply below_alloc | apply pw_below_drewN | apply below_drew1)) x1, pw_cell_below (by with_reducible repeat (first | exact hb65 | apply below_alloc | apply pw_below_drewN | apply below_drew1)) x2, pw_cell_below (by with_reducible repeat (first | exact hb65 | apply below_alloc | apply pw_below_drewN | apply below_drew1)) x3, pw_cell_below (by with_reducible repeat (first | exact hb65 | apply below_alloc | apply pw_below_drewN | apply below_drew1)) x4, pw_cell_below (by with_reducible repeat (first | exact hb65 | apply below_alloc | apply pw_below_drewN | apply below_drew1)) x5, pw_cell_below (by with_reducible repeat (first | exact hb65 | apply below_alloc | apply pw_below_drewN | apply below_drew1)) x6, pw_cell_below (by with_reducible repeat (first | exact hb65 | apply below_alloc | apply pw_below_drewN | apply below_drew1)) x7⟩)
            · skip
              refine value_ (w1 := ?_) (v := ?_) (by rfl) rfl ?_ ?_
              rotate_left 2
              · go_simp
                constructor
                · rfl
                · rfl
              refine hK.out _ _ ⟨(pw_cell_below (by with_reducible repeat (first | exact Below.refl _ _ | apply below_alloc | apply pw_below_drewN | apply below_drew1)) hc), (pw_cell_below (by with_reducible repeat (first | exact Below.refl _ _ | apply below_alloc | apply pw_below_drewN | apply below_drew1)) x0), (pw_cell_below (by with_reducible repeat (first | exact Below.refl _ _ | apply below_alloc | apply pw_below_drewN | apply below_drew1)) x1), (pw_cell_below (by with_reducible repeat (first | exact Below.refl _ _ | apply below_alloc | apply pw_below_drewN | apply below_drew1)) x2), (pw_cell_below (by with_reducible repeat (first | exact Below.refl _ _ | apply below_alloc | apply pw_below_drewN | apply below_drew1)) x3), (pw_cell_below (by with_reducible repeat (first | exact Below.refl _ _ | apply below_alloc | apply pw_below_drewN | apply below_drew1)) x4), (pw_cell_below (by with_reducible repeat (first | exact Below.refl _ _ | apply below_alloc | apply pw_below_drewN | apply below_drew1)) x5), (pw_cell_below (by with_reducible repeat (first | exact Below.refl _ _ | apply below_alloc | apply pw_below_drewN | apply below_drew1)) x6), (pw_cell_below (by with_reducible repeat (first | exact Below.refl _ _ | apply below_alloc | apply pw_below_drewN | apply below_drew1)) x7)⟩ (fun hHeld => ?_)
              clear hK K
              refine norm_ (a' := ?_) ?_ ?_
              rotate_left
              · show Act.put _ (some 67) _ = _
                simp only [Act.put, List.setIfInBounds_toArray, List.set_cons_zero, List.set_cons_succ, i64_w, i32_w]
                rfl
              refine one_ (i := 8) (N := some 65) #[true, true, true, true, true, true, true, true, true, true, true, false, true, true, true, true, true, true, false, false, false, false] rfl rfl (one_of HT_.out (by kernel_rfl)) (by decide) (fun K hK => ?_)
              refine step_app_src w0.heap.size rfl (.tmp 58) (.tmp 64) 22 rfl Try.underlying22 _ [] (hs.take k) rfl ?ho _ rfl ?hsrc ?hbs ?hlt ?_
              case hsrc => exact HS1.out.below (show Below wx.heap.size wx _ from (by with_reducible repeat (first | exact Below.refl _ _ | apply below_alloc | apply pw_below_drewN | apply below_drew1)))
              case hlt => (have := HKI.out; simp only [List.length_nil, List.length_append, List.length_take, List.length_drop, List.length_cons]; omega)
              case ho => exact (HRow.empty wx.drew w0.heap.size HBX.out.2).below (below_alloc (Below.refl _ _) _)
              case hbs => exact Nat.le_trans HBX.out.2 (show Below wx.heap.size wx _ from (by with_reducible repeat (first | exact Below.refl _ _ | apply below_alloc | apply pw_below_drewN | apply below_drew1))).size
              intro v65 w65 hp hf hat
              rw [List.nil_append] at hp
              have hb65 : Below wx.heap.size wx w65 := hf.below (by with_reducible repeat (first | exact Below.refl _ _ | apply below_alloc | apply pw_below_drewN | apply below_drew1)) (fun j hj => Nat.le_of_eq (Option.some.inj hj))
              have hf65 : ∀ j, v65.ownBlock = some j → wx.heap.size ≤ j := fun j hj => (hat_orR hat j hj).elim (fun hj => Nat.le_of_eq (Option.some.inj hj)) (fun h => Nat.le_trans (show Below wx.heap.size wx _ from (by with_reducible repeat (first | exact Below.refl _ _ | apply below_alloc | apply pw_below_drewN | apply below_drew1))).size h)
              have hx65 := hf.blk (heap_alloc_new (wx.drew.alloc (.cells #[] 33)) (.cells #[.int .i64 p.e.f0, .int .i64 p.e.f1, .int .u64 p.e.f2, .int .i64 p.e.f3.f0, .int .i64 p.e.f3.f1, .int .i64 p.e.f4, .slice p.A p.e.f5.length p.c, .int .u64 p.e.f6] 33 (0, 0))) (fun hj => by have h := Option.some.inj hj; simp at h)
              refine hK.out _ _ ⟨(pw_cell_below hb65 hc), (pw_cell_below hb65 x0), (pw_cell_below hb65 x1), (pw_cell_below hb65 x2), (pw_cell_below hb65 x3), (pw_cell_below hb65 x4), (pw_cell_below hb65 x5), (pw_cell_below hb65 x6), (pw_cell_below hb65 x7)⟩ (fun hHeld => ?_)
              clear hK K
              refine norm_ (a' := ?_) ?_ ?_
              rotate_left
              · show Act.put _ (some 65) _ = _
                simp only [Act.put, List.setIfInBounds_toArray, List.set_cons_zero, List.set_cons_succ, i64_w, i32_w]
                rfl
              exact norm_ (by simp only [putAll, Act.put, List.setIfInBounds_toArray, List.set_cons_zero, List.set_cons_succ]) (hCont (wx.heap.size, v65, (wx.heap.size + 1)) _ ⟨⟨hp, by simpa using hx65, hb65, hf65⟩, pw_cell_below hb65 hc, pw_cell_below hb65 x0, pw_cell_below hb65 x1, pw_cell_below hb65 x2, pw_cell_below hb65 x3, pw_cell_below hb65 x4, pw_cell_below hb65 x5, pw_cell_below hb65 x6, pw_cell_below hb65 x7⟩)
          · skip
            refine value_ (w1 := ?_) (v := ?_) (by rfl) rfl ?_ ?_
            rotate_left 2
            · go_simp
              constructor
              · rfl
              · rfl
            refine hK.out _ _ ⟨(pw_cell_below (by with_reducible repeat (first | exact Below.refl _ _ | apply below_alloc | apply pw_below_drewN | apply below_drew1)) hc), (pw_cell_below (by with_reducible repeat (first | exact Below.refl _ _ | apply below_alloc | apply pw_below_drewN | apply below_drew1)) x0), (pw_cell_below (by with_reducible repeat (first | exact Below.refl _ _ | apply below_alloc | apply pw_below_drewN | apply below_drew1)) x1), (pw_cell_below (by with_reducible repeat (first | exact Below.refl _ _ | apply below_alloc | apply pw_below_drewN | apply below_drew1)) x2), (pw_cell_below (by with_reducible repeat (first | exact Below.refl _ _ | apply below_alloc | apply pw_below_drewN | apply below_drew1)) x3), (pw_cell_below (by with_reducible repeat (first | exact Below.refl _ _ | apply below_alloc | apply pw_below_drewN | apply below_drew1)) x4), (pw_cell_below (by with_reducible repeat (first | exact Below.refl _ _ | apply below_alloc | apply pw_below_drewN | apply below_drew1)) x5), (pw_cell_below (by with_reducible repeat (first | exact Below.refl _ _ | apply below_alloc | apply pw_below_drewN | apply below_drew1)) x6), (pw_cell_below (by with_reducible repeat (first | exact Below.refl _ _ | apply below_alloc | apply pw_below_drewN | apply below_drew1)) x7)⟩ (fun hHeld => ?_)
            clear hK K
            refine norm_ (a' := ?_) ?_ ?_
            rotate_left
            · show Act.put _ (some 67) _ = _
              simp only [Act.put, List.setIfInBounds_toArray, List.set_cons_zero, List.set_cons_succ, i64_w, i32_w]
              rfl
            refine one_ (i := 1) (N := some 58) #[true, true, true, true, true, true, true, true, false, true, true, false, true, true, true, true, true, true, false, false, false, false] rfl rfl (one_of HT_.out (by kernel_rfl)) (by decide) (fun K hK => ?_)
            refine value_ (w1 := ?_) (v := ?_) (by rfl) rfl ?_ ?_
            rotate_left 2
            · go_simp
              constructor
              · rfl
              · rfl
            refine hK.out _ _ ⟨(pw_cell_below (by with_reducible repeat (first | exact Below.refl _ _ | apply below_alloc | apply pw_below_drewN | apply below_drew1)) hc), (pw_cell_below (by with_reducible repeat (first | exact Below.refl _ _ | apply below_alloc | apply pw_below_drewN | apply below_drew1)) x0), (pw_cell_below (by with_reducible repeat (first | exact Below.refl _ _ | apply below_alloc | apply pw_below_drewN | apply below_drew1)) x1), (pw_cell_below (by with_reducible repeat (first | exact Below.refl _ _ | apply below_alloc | apply pw_below_drewN | apply below_drew1)) x2), (pw_cell_below (by with_reducible repeat (first | exact Below.refl _ _ | apply below_alloc | apply pw_below_drewN | apply below_drew1)) x3), (pw_cell_below (by with_reducible repeat (first | exact Below.refl _ _ | apply below_alloc | apply pw_below_drewN | apply below_drew1)) x4), (pw_cell_below (by with_reducible repeat (first | exact Below.refl _ _ | apply below_alloc | apply pw_below_drewN | apply below_drew1)) x5), (pw_cell_below (by with_reducible repeat (first | exact Below.refl _ _ | apply below_alloc | apply pw_below_drewN | apply below_drew1)) x6), (pw_cell_below (by with_reducible repeat (first | exact Below.refl _ _ | apply below_alloc | apply pw_below_drewN | apply below_drew1)) x7)⟩ (fun hHeld => ?_)
            clear hK K
            refine norm_ (a' := ?_) ?_ ?_
            rotate_left
            · show Act.put _ (some 58) _ = _
              simp only [Act.put, List.setIfInBounds_toArray, List.set_cons_zero, List.set_cons_succ, i64_w, i32_w]
              rfl
            refine one_ (i := 8) (N := some 65) #[true, true, true, true, true, true, true, true, true, true, true, false, true, true, true, true, true, true, false, false, false, false] rfl rfl (one_of HT_.out (by kernel_rfl)) (by decide) (fun K hK => ?_)
            refine step_app_src w0.heap.size rfl (.tmp 58) (.tmp 64) 22 rfl Try.underlying22 _ [] (hs.take k) rfl ?ho _ rfl ?hsrc ?hbs ?hlt ?_
            case hsrc => exact HS1.out.below (show Below wx.heap.size wx _ from (by with_reducible repeat (first | exact Below.refl _ _ | apply below_alloc | apply pw_below_drewN | apply below_drew1)))
            case hlt => (have := HKI.out; simp only [List.length_nil, List.length_append, List.length_take, List.length_drop, List.length_cons]; omega)
            case ho => exact (HRow.empty2 wx (.cells #[.int .i64 p.e.f0, .int .i64 p.e.f1, .int .u64 p.e.f2, .int .i64 p.e.f3.f0, .int .i64 p.e.f3.f1, .int .i64 p.e.f4, .slice p.A p.e.f5.length p.c, .int .u64 p.e.f6] 33) w0.heap.size HBX.out.2).below (below_drew1 (Below.refl _ _))
            case hbs => exact Nat.le_trans HBX.out.2 (show Below wx.heap.size wx _ from (by with_reducible repeat (first | exact Below.refl _ _ | apply below_alloc | apply pw_below_drewN | apply below_drew1))).size
            intro v65 w65 hp hf hat
            rw [List.nil_append] at hp
            have hb65 : Below wx.heap.size wx w65 := hf.below (by with_reducible repeat (first | exact Below.refl _ _ | apply below_alloc | apply pw_below_drewN | apply below_drew1)) (fun j hj => (by have h := Option.some.inj hj; simp at h; omega))
            have hf65 : ∀ j, v65.ownBlock = some j → wx.heap.size ≤ j := fun j hj => (hat_orR hat j hj).elim (fun hj => (by have h := Option.some.inj hj; simp at h; omega)) (fun h => Nat.le_trans (show Below wx.heap.size wx _ from (by with_reducible repeat (first | exact Below.refl _ _ | apply below_alloc | apply pw_below_drewN | apply below_drew1))).size h)
            have hx65 := hf.blk (blk_alloc (blk_new wx.drew (.cells #[.int .i64 p.e.f0, .int .i64 p.e.f1, .int .u64 p.e.f2, .int .i64 p.e.f3.f0, .int .i64 p.e.f3.f1, .int .i64 p.e.f4, .slice p.A p.e.f5.length p.c, .int .u64 p.e.f6] 33 (0, 0))) (.cells #[] 33 (0, 0))) (fun hj => by have h := Option.some.inj hj; simp at h)
            refine hK.out _ _ ⟨(pw_cell_below hb65 hc), (pw_cell_below hb65 x0), (pw_cell_below hb65 x1), (pw_cell_below hb65 x2), (pw_cell_below hb65 x3), (pw_cell_below hb65 x4), (pw_cell_below hb65 x5), (pw_cell_below hb65 x6), (pw_cell_below hb65 x7)⟩ (fun hHeld => ?_)
            clear hK K
            refine norm_ (a' := ?_) ?_ ?_
            rotate_left
            · show Act.put _ (some 65) _ = _
              simp only [Act.put, List.setIfInBounds_toArray, List.set_cons_zero, List.set_cons_succ, i64_w, i32_w]
              rfl
            exact norm_ (by simp only [putAll, Act.put, List.setIfInBounds_toArray, List.set_cons_zero, List.set_cons_succ]) (hCont ((wx.heap.size + 1), v65, wx.heap.size) _ ⟨⟨hp, by simpa using hx65, hb65, hf65⟩, pw_cell_below hb65 hc, pw_cell_below hb65 x0, pw_cell_below hb65 x1, pw_cell_below hb65 x2, pw_cell_below hb65 x3, pw_cell_below hb65 x4, pw_cell_below hb65 x5, pw_cell_below hb65 x6, pw_cell_below hb65 x7⟩)
        rintro ⟨a58, v65, b67⟩ w67 ⟨⟨hO65, hx67, hb67, hf67⟩, hHeld⟩
        change HRow w67 w0.heap.size v65 _ at hO65
        change w67.heap[b67]? = _ at hx67
        change ∀ j, v65.ownBlock = some j → _ at hf67
        refine norm_ (a' := ?_) ?_ ?_
        rotate_left
        · simp only [putAll, Act.put, List.setIfInBounds_toArray, List.set_cons_zero, List.set_cons_succ]
          rfl
        refine one_ (i := 11) (N := some 68) #[true, true, true, true, true, true, true, true, true, true, true, true, true, true, true, true, true, true, false, false, false, false] rfl rfl (one_of HT_.out (by kernel_rfl)) (by decide) (fun K hK => ?_)
        refine step_app_src w0.heap.size rfl (.tmp 65) (.tmp 67) 22 rfl Try.underlying22 v65 (hs.take k) [p] rfl ?ho _ rfl ?hsrc ?hbs ?hlt ?_
        case hsrc => exact .inr ⟨_, 1, _, rfl, rfl, fun j u hu => World.news_of_block hx67 j u (by simpa [flE, enC] using hu)⟩
        case hlt => (have := HKI.out; simp only [List.length_nil, List.length_append, List.length_take, List.length_drop, List.length_cons]; omega)
        case ho => exact hO65
        case hbs => exact Nat.le_trans HBX.out.2 hb67.size
        intro v68 w68 hp hf hat
        have hb68 : Below wx.heap.size wx w68 := hf.below hb67 (fun j hj => hf67 j hj)
        have hf68 : ∀ j, v68.ownBlock = some j → wx.heap.size ≤ j := fun j hj => (hat_orR hat j hj).elim (fun h => hf67 j h) (fun h => Nat.le_trans hb67.size h)
        have hO68 := hp
        clear hp hf hat
        refine hK.out _ _ ⟨(pw_cell_below hb68 hc), (pw_cell_below hb68 x0), (pw_cell_below hb68 x1), (pw_cell_below hb68 x2), (pw_cell_below hb68 x3), (pw_cell_below hb68 x4), (pw_cell_below hb68 x5), (pw_cell_below hb68 x6), (pw_cell_below hb68 x7)⟩ (fun hHeld => ?_)
        clear hK K
        refine norm_ (a' := ?_) ?_ ?_
        rotate_left
        · show Act.put _ (some 68) _ = _
          simp only [Act.put, List.setIfInBounds_toArray, List.set_cons_zero, List.set_cons_succ, i64_w, i32_w]
          rfl
        refine one_ (i := 18) (N := some 75) #[true, true, true, true, true, true, true, true, true, true, true, true, true, true, true, true, true, true, true, false, false, false] rfl rfl (one_of HT_.out (by kernel_rfl)) (by decide) (fun K hK => ?_)
        refine step_app_src w0.heap.size rfl (.tmp 68) (.tmp 74) 22 rfl Try.underlying22 v68 ((hs.take k) ++ [p]) (hs.drop k) rfl ?ho _ rfl ?hsrc ?hbs ?hlt ?_
        case hsrc => exact HS2.out.below hb68
        case hlt => (have := HKI.out; simp only [List.length_nil, List.length_append, List.length_take, List.length_drop, List.length_cons]; omega)
        case ho => exact hO68
        case hbs => exact Nat.le_trans HBX.out.2 hb68.size
        intro v75 w75 hp hf hat
        obtain ⟨A75, L75, c75, rfl⟩ : ∃ A L c, v75 = .slice A L c := (by obtain ⟨A, c, h⟩ := hp.form; exact ⟨A, _, c, h⟩)
        have hb75 : Below wx.heap.size wx w75 := hf.below hb68 (fun j hj => hf68 j hj)
        have hf75 : ∀ j, (Value.slice A75 L75 c75).ownBlock = some j → wx.heap.size ≤ j := fun j hj => (hat_orR hat j hj).elim (fun h => hf68 j h) (fun h => Nat.le_trans hb68.size h)
        have HB75 := Aside0.mk hb75
        have HF75 := Aside0.mk hf75
        have HO75 := Aside0.mk hp
        have hz75 := blk_frozen (blk_below HHX.out.hd hb75) 1
        clear hp hf hat hf75
        refine hK.out _ _ ⟨(pw_cell_below hb75 hc), (pw_cell_below hb75 x0), (pw_cell_below hb75 x1), (pw_cell_below hb75 x2), (pw_cell_below hb75 x3), (pw_cell_below hb75 x4), (pw_cell_below hb75 x5), (pw_cell_below hb75 x6), (pw_cell_below hb75 x7)⟩ (fun hHeld => ?_)
        clear hK K
        refine norm_ (a' := ?_) ?_ ?_
        rotate_left
        · show Act.put _ (some 75) _ = _
          simp only [Act.put, List.setIfInBounds_toArray, List.set_cons_zero, List.set_cons_succ, i64_w, i32_w]
          rfl
        refine pure_ (i := 19) (N := some 76) (v := ?_) (a' := ?_) #[true, true, true, true, true, true, true, true, true, true, true, true, true, true, true, true, true, true, true, true, false, false] rfl rfl (any_of HT_.out (by kernel_rfl)) (fun _ _ _ h => h) (Or.inl ⟨by rfl, ?_⟩) ?_ ?_
        rotate_left
        · intro w'
          go_simp
          with_reducible rfl
        rotate_left
        · simp only [Act.put, List.setIfInBounds_toArray, List.set_cons_zero, List.set_cons_succ, i64_w, i32_w]
          rfl
        refine pure_ (i := 20) (N := some 77) (v := ?_) (a' := ?_) #[true, true, true, true, true, true, true, true, true, true, true, true, true, true, true, true, true, true, true, true, true, false] rfl rfl (any_of HT_.out (by kernel_rfl)) (fun _ _ _ h => h) (Or.inl ⟨by rfl, ?_⟩) ?_ ?_
        rotate_left
        · intro w'
          go_simp
          with_reducible rfl
        rotate_left
        · simp only [Act.put, List.setIfInBounds_toArray, List.set_cons_zero, List.set_cons_succ, i64_w, i32_w]
          rfl
        refine last_ (i := 21) (N := none) #[true, true, true, true, true, true, true, true, true, true, true, true, true, true, true, true, true, true, true, true, true, true] rfl rfl (one_of HT_.out (by kernel_rfl)) (by decide) (fun K hK => ?_)
        refine skip_ (w1 := ?_) (by rfl) rfl ?_ ?_
        rotate_left
        · go_simp
          rfl
        refine hK.out _ _ ?_
        clear hK K
        refine done_ (done_of HT_.out (by kernel_rfl)) ?_
        go_upto_region 14 with fail
        refine gen_world (fun W7 hW7 => ?_)
        have h7 : W7.heap[g]? = some (.cells #[.int .i64 most, .slice A75 L75 c75] 50 (0, 0)) := by
          rw [hW7]
          have := blk_set (blk_below HHX.out.hd HB75.out) 1 (.slice A75 L75 c75)
          simpa using this
        have hf7 : Fr w75 W7 (fun j => j = g) := by rw [hW7]; exact Fr.set (Fr.refl _ (fun j => j = g)) (.inl rfl) _ _
        clear hW7
        have hF : Fr w W7 (fun j => j = g) := ((Fr.ofBelow (fun j => j = g) HBW.out).trans (Fr.ofBelow (fun j => j = g) HB75.out) (fun _ _ h => h)).trans hf7 (fun _ _ h => h)
        have HEND : Aside0 (RHoldP w0 w g most hs p W7) := ⟨k, (by have := HKI.out; omega), HT.out, (fun q' hq' => by have h1 := (List.getElem?_eq_some_iff.1 hq').1; have h2 := HKN3.out; have h3 := HN.out; omega), .slice A75 L75 c75, ⟨h7, HO75.out.fr hf7 (fun j hj e => by
            have h1 := HF75.out j hj
            have h2 := blk_lt HHX.out.hd
            omega), HHX.out.bs, fun q hq => by
            rcases List.mem_append.1 hq with hq | hq
            · rcases List.mem_append.1 hq with hq | hq
              · exact HHX.out.rd q (List.mem_of_mem_take hq)
              · rw [List.mem_singleton.1 hq]
                exact HR00.out
            · exact HHX.out.rd q (List.mem_of_mem_drop hq), hF.below HW0.out (fun j hj => by rw [hj]; exact HHX.out.bs)⟩, hF, fun j hj => Nat.le_trans HBW.out.size (HF75.out j hj)⟩
        clear h7 hf7 hF
        go_wp2
        go_ret
        exact ⟨rfl, HEND.out⟩
set_option maxRecDepth 100000 in
set_option maxHeartbeats 16000000 in
theorem rhold_nil (g : Nat) (most : Int) (p : EP) (w0 w : World) (h : RefB w0 w g most (.slice none 0 0) []) (hr : Rd w0 p.b p.e.f5) (hright : rightE p.e = true) (hfull : ¬ most ≤ 0) :
    Calls Try.prog 18 #[.pointer (some ⟨g, 0, none⟩), enV p] w fun e w' => e = .returned (.int .i64 0) ∧ RHoldP w0 w g most [] p w' := by
  have hn : ([] : List EP).length = 0 := rfl
  have hl : (0 : Nat) ≤ 100000 := by omega
  have hno : ∀ q ∈ ([] : List EP), keyE q.e ≠ keyE p.e := fun q hq => by simp at hq
  have HH := Aside0.mk h
  have HN := Aside0.mk hn
  have HL := Aside0.mk hl
  have HW0 : Aside0 (Below w0.heap.size w0 w) := ⟨h.bel⟩
  have HR00 := Aside0.mk hr
  have HR0 : Aside0 (Rd w p.b p.e.f5) := ⟨hr.below h.bel⟩
  have HRT : Aside0 (rightE p.e = true) := ⟨hright⟩
  have HNO := Aside0.mk hno
  clear h hn hl hr hright hno
  simp only [enV]
  go_enter Try.func18, Try.ntmps18
  go_upto_region 1 with fail
  refine gen_world (fun W2 hW2 => ?_)
  have hB2 : Below w.heap.size w W2 := by rw [hW2]; with_reducible exact below_alloc (Below.refl _ _) _
  have hx2 : W2.heap[w.heap.size]? = some (.cells #[.int .i64 p.e.f0, .int .i64 p.e.f1, .int .u64 p.e.f2, .int .i64 p.e.f3.f0, .int .i64 p.e.f3.f1, .int .i64 p.e.f4, .slice p.A p.e.f5.length p.c, .int .u64 p.e.f6] 33 (0, 0)) := by rw [hW2]; with_reducible exact heap_alloc_new _ _
  obtain ⟨g3, hg3⟩ : ∃ g, g = w.heap.size := ⟨_, rfl⟩
  rw [← hg3] at hx2 ⊢
  obtain ⟨x0, x1, x2, x3, x4, x5, x6, x7, -⟩ := cells8z hx2
  have HX2 := Aside0.mk hx2
  have HB2 := Aside0.mk hB2
  clear hW2 hB2 hx2 hg3
  go_upto_region 8 with (first
    | (go_at_call 35; go_must (refine (fright_calls p _ (HR0.out.below HB2.out)).mono ?_; rw [HRT.out]; rintro e w9 ⟨rfl, hb⟩; have HX9 := Aside0.mk (blk_below HX2.out hb); obtain ⟨x0, x1, x2, x3, x4, x5, x6, x7, -⟩ := cells8z HX9.out; have HB9 : Aside0 (Below w.heap.size w w9) := ⟨HB2.out.trans (hb.mono HB2.out.size)⟩; clear hb))
    | (go_at_call 36; go_must (refine (rfind_calls g 0 most none 0 [] p.e.f0 p.e.f1 w0 _ (HH.out.below HB9.out) HN.out HL.out).mono ?_; rintro e w14 ⟨r, rfl, hr, hb⟩; obtain rfl := fnd_no hr HNO.out; have HX14 := Aside0.mk (blk_below HX9.out hb); obtain ⟨x0, x1, x2, x3, x4, x5, x6, x7, -⟩ := cells8z HX14.out; have HB14 : Aside0 (Below w.heap.size w w14) := ⟨HB9.out.trans (hb.mono HB9.out.size)⟩; clear hr hb)))
  have HP14 := Aside0.mk (HH.out.below HB14.out)
  have c14 := HP14.out.cell
  have m14 := HP14.out.cell0
  clear x0 x1 x2 x3 x4 x5 x6 x7
  go_quiet (fail)
  go_upto_region 10 with fail
  clear hfull
  refine gen_world (fun W5 hW5 => ?_)
  have hB5 : Below w14.heap.size w14 W5 := by rw [hW5]; with_reducible repeat (first | exact Below.refl _ _ | apply pw_below_drewN)
  have HB5 := Aside0.mk hB5
  clear hW5 hB5 c14 m14
  go_wp2
  go_loopg [6] 0 (fun gg v6 wr => v6 = .int .i64 0 ∧ Aside0 (Below w14.heap.size w14 wr))
  case atStart => exact ⟨rfl, HB5⟩
  case round =>
    clear HB5
    obtain ⟨rfl, HB⟩ := hrel
    have hkb : decide ((0 : Int) < (0 : Int)) = false := by simp
    go_upto_region 11 with fail
    refine gen_world (fun wx hwx => ?_)
    have HBX : Aside0 (Below w14.heap.size w14 wx ∧ w0.heap.size ≤ wx.heap.size) := ⟨by
      have h : Below w14.heap.size w14 wx := by rw [hwx]; with_reducible repeat (first | exact HB.out | apply pw_below_drewN | apply below_drew1)
      exact ⟨h, Nat.le_trans HP14.out.bel.size h.size⟩⟩
    have HHX := Aside0.mk (HP14.out.below HBX.out.1)
    have hc := HHX.out.cell
    have HXX := Aside0.mk (blk_below HX14.out HBX.out.1)
    obtain ⟨x0, x1, x2, x3, x4, x5, x6, x7, -⟩ := cells8z HXX.out
    have HBK : Aside0 (Below w14.heap.size w14 wx.drew) := ⟨below_drew1 HBX.out.1⟩
    clear hwx HBX
    refine start_ (n := 18) (S := fun w' => w'.cell? ⟨g, 1, none⟩ = some (.slice none 0 0)) (ds := []) #[false, false, false, false, false, false, false, false, false, false, false, false, false, false, false, false, false, false] (by kernel_rfl) rfl rfl (hc) (fun hHeld => ?_)
    refine with_tabW rhold_nil.tab11 rhold_nil.bits11 (fun HT_ HW_ => ?_)
    refine pure_ (i := 0) (N := some 37) (v := ?_) (a' := ?_) #[true, false, false, false, false, false, false, false, false, false, false, false, false, false, false, false, false, false] rfl rfl (any_of HT_.out (by kernel_rfl)) (fun _ _ _ h => h) (Or.inl ⟨by rfl, ?_⟩) ?_ ?_
    rotate_left
    · intro w'
      go_simp
      with_reducible rfl
    rotate_left
    · simp only [Act.put, List.setIfInBounds_toArray, List.set_cons_zero, List.set_cons_succ, i64_w, i32_w]
      rfl
    refine pure_ (i := 1) (N := some 38) (v := ?_) (a' := ?_) #[true, true, false, false, false, false, false, false, false, false, false, false, false, false, false, false, false, false] rfl rfl (any_of HT_.out (by kernel_rfl)) (fun _ _ _ h => h) (Or.inl ⟨by rfl, ?_⟩) ?_ ?_
    rotate_left
    · intro w'
      go_simp
      with_reducible rfl
    rotate_left
    · simp only [Act.put, List.setIfInBounds_toArray, List.set_cons_zero, List.set_cons_succ, i64_w, i32_w]
      rfl
    refine pure_ (i := 2) (N := some 39) (v := ?_) (a' := ?_) #[true, true, true, false, false, false, false, false, false, false, false, false, false, false, false, false, false, false] rfl rfl (any_of HT_.out (by kernel_rfl)) (fun _ _ _ h => h) (Or.inl ⟨by rfl, ?_⟩) ?_ ?_
    rotate_left
    · intro w'
      go_simp
      with_reducible rfl
    rotate_left
    · simp only [Act.put, List.setIfInBounds_toArray, List.set_cons_zero, List.set_cons_succ, i64_w, i32_w]
      rfl
    refine pure_ (i := 3) (N := some 40) (v := ?_) (a' := ?_) #[true, true, true, true, false, false, false, false, false, false, false, false, false, false, false, false, false, false] rfl rfl (any_of HT_.out (by kernel_rfl)) (fun _ _ _ h => h) (Or.inl ⟨by rfl, ?_⟩) ?_ ?_
    rotate_left
    · intro w'
      go_simp
      with_reducible rfl
    rotate_left
    · simp only [Act.put, List.setIfInBounds_toArray, List.set_cons_zero, List.set_cons_succ, i64_w, i32_w]
      rfl
    refine take_ (i := 4) (N := some 41) (v := ?_) (a' := ?_) #[true, true, true, true, true, false, false, false, false, false, false, false, false, false, false, false, false, false] rfl rfl (take_ofW HT_.out HW_.out (by kernel_rfl)) (fun _ _ _ h => h) (Or.inl ⟨by rfl, ?_⟩) hHeld ?_ ?_
    rotate_left
    · intro w' s0
      go_simp
      with_reducible rfl
    rotate_left
    · simp only [Act.put, List.setIfInBounds_toArray, List.set_cons_zero, List.set_cons_succ, i64_w, i32_w]
      rfl
    refine pure_ (i := 5) (N := some 42) (v := ?_) (a' := ?_) #[true, true, true, true, true, true, false, false, false, false, false, false, false, false, false, false, false, false] rfl rfl (any_of HT_.out (by kernel_rfl)) (fun _ _ _ h => h) (Or.inl ⟨by rfl, ?_⟩) ?_ ?_
    rotate_left
    · intro w'
      go_simp
      with_reducible rfl
    rotate_left
    · simp only [Act.put, List.setIfInBounds_toArray, List.set_cons_zero, List.set_cons_succ, i64_w, i32_w]
      rfl
    refine pure_ (i := 6) (N := some 43) (v := ?_) (a' := ?_) #[true, true, true, true, true, true, true, false, false, false, false, false, false, false, false, false, false, false] rfl rfl (any_of HT_.out (by kernel_rfl)) (fun _ _ _ h => h) (Or.inl ⟨by rfl, ?_⟩) ?_ ?_
    rotate_left
    · intro w'
      go_simp
      with_reducible rfl
    rotate_left
    · simp only [Act.put, List.setIfInBounds_toArray, List.set_cons_zero, List.set_cons_succ, i64_w, i32_w]
      rfl
    refine pure_ (i := 7) (N := some 44) (v := ?_) (a' := ?_) #[true, true, true, true, true, true, true, true, false, false, false, false, false, false, false, false, false, false] rfl rfl (any_of HT_.out (by kernel_rfl)) (fun _ _ _ h => h) (Or.inl ⟨by rfl, ?_⟩) ?_ ?_
    rotate_left
    · intro w'
      go_simp
      with_reducible rfl
    rotate_left
    · simp only [Act.put, List.setIfInBounds_toArray, List.set_cons_zero, List.set_cons_succ, i64_w, i32_w]
      rfl
    refine pure_ (i := 8) (N := some 45) (v := undef) (a' := ?_) #[true, true, true, true, true, true, true, true, true, false, false, false, false, false, false, false, false, false] rfl rfl (any_of HT_.out (by kernel_rfl)) (fun _ _ _ h => h) (Or.inr ⟨by rfl, rfl⟩) ?_ ?_
    rotate_left
    · simp only [Act.put, List.setIfInBounds_toArray, List.set_cons_zero, List.set_cons_succ, i64_w, i32_w]
      rfl
    refine pure_ (i := 9) (N := some 46) (v := undef) (a' := ?_) #[true, true, true, true, true, true, true, true, true, true, false, false, false, false, false, false, false, false] rfl rfl (any_of HT_.out (by kernel_rfl)) (fun _ _ _ h => h) (Or.inr ⟨by rfl, rfl⟩) ?_ ?_
    rotate_left
    · simp only [Act.put, List.setIfInBounds_toArray, List.set_cons_zero, List.set_cons_succ, i64_w, i32_w]
      rfl
    refine pure_ (i := 10) (N := some 47) (v := undef) (a' := ?_) #[true, true, true, true, true, true, true, true, true, true, true, false, false, false, false, false, false, false] rfl rfl (any_of HT_.out (by kernel_rfl)) (fun _ _ _ h => h) (Or.inr ⟨by rfl, rfl⟩) ?_ ?_
    rotate_left
    · simp only [Act.put, List.setIfInBounds_toArray, List.set_cons_zero, List.set_cons_succ, i64_w, i32_w]
      rfl
    refine pure_ (i := 11) (N := some 48) (v := undef) (a' := ?_) #[true, true, true, true, true, true, true, true, true, true, true, true, false, false, false, false, false, false] rfl rfl (any_of HT_.out (by kernel_rfl)) (fun _ _ _ h => h) (Or.inr ⟨by rfl, rfl⟩) ?_ ?_
    rotate_left
    · simp only [Act.put, List.setIfInBounds_toArray, List.set_cons_zero, List.set_cons_succ, i64_w, i32_w]
      rfl
    refine pure_ (i := 12) (N := some 49) (v := undef) (a' := ?_) #[true, true, true, true, true, true, true, true, true, true, true, true, true, false, false, false, false, false] rfl rfl (any_of HT_.out (by kernel_rfl)) (fun _ _ _ h => h) (Or.inr ⟨by rfl, rfl⟩) ?_ ?_
    rotate_left
    · simp only [Act.put, List.setIfInBounds_toArray, List.set_cons_zero, List.set_cons_succ, i64_w, i32_w]
      rfl
    refine pure_ (i := 13) (N := some 50) (v := undef) (a' := ?_) #[true, true, true, true, true, true, true, true, true, true, true, true, true, true, false, false, false, false] rfl rfl (any_of HT_.out (by kernel_rfl)) (fun _ _ _ h => h) (Or.inr ⟨by rfl, rfl⟩) ?_ ?_
    rotate_left
    · simp only [Act.put, List.setIfInBounds_toArray, List.set_cons_zero, List.set_cons_succ, i64_w, i32_w]
      rfl
    refine pure_ (i := 14) (N := some 51) (v := undef) (a' := ?_) #[true, true, true, true, true, true, true, true, true, true, true, true, true, true, true, false, false, false] rfl rfl (any_of HT_.out (by kernel_rfl)) (fun _ _ _ h => h) (Or.inr ⟨by rfl, rfl⟩) ?_ ?_
    rotate_left
    · simp only [Act.put, List.setIfInBounds_toArray, List.set_cons_zero, List.set_cons_succ, i64_w, i32_w]
      rfl
    refine pure_ (i := 15) (N := some 52) (v := undef) (a' := ?_) #[true, true, true, true, true, true, true, true, true, true, true, true, true, true, true, true, false, false] rfl rfl (any_of HT_.out (by kernel_rfl)) (fun _ _ _ h => h) (Or.inr ⟨by rfl, rfl⟩) ?_ ?_
    rotate_left
    · simp only [Act.put, List.setIfInBounds_toArray, List.set_cons_zero, List.set_cons_succ, i64_w, i32_w]
      rfl
    refine pure_ (i := 16) (N := some 53) (v := undef) (a' := ?_) #[true, true, true, true, true, true, true, true, true, true, true, true, true, true, true, true, true, false] rfl rfl (any_of HT_.out (by kernel_rfl)) (fun _ _ _ h => h) (Or.inr ⟨by rfl, rfl⟩) ?_ ?_
    rotate_left
    · simp only [Act.put, List.setIfInBounds_toArray, List.set_cons_zero, List.set_cons_succ, i64_w, i32_w]
      rfl
    refine pure_ (i := 17) (N := some 54) (v := ?_) (a' := ?_) #[true, true, true, true, true, true, true, true, true, true, true, true, true, true, true, true, true, true] rfl rfl (any_of HT_.out (by kernel_rfl)) (fun _ _ _ h => h) (Or.inl ⟨by rfl, ?_⟩) ?_ ?_
    rotate_left
    · intro w'
      go_simp
      with_reducible rfl
    rotate_left
    · simp only [Act.put, List.setIfInBounds_toArray, List.set_cons_zero, List.set_cons_succ, i64_w, i32_w]
      rfl
    refine done_ (done_of HT_.out (by kernel_rfl)) ?_
    clear hkb hc x0 x1 x2 x3 x4 x5 x6 x7 HHX HXX
    go_wp2
    go_upto_region 13 with fail
    refine gen_world (fun wx hwx => ?_)
    have HBX : Aside0 (Below w14.heap.size w14 wx ∧ w0.heap.size ≤ wx.heap.size) := ⟨by
      have h : Below w14.heap.size w14 wx := by rw [hwx]; with_reducible repeat (first | exact HBK.out | apply pw_below_drewN | apply below_drew1)
      exact ⟨h, Nat.le_trans HP14.out.bel.size h.size⟩⟩
    have HHX := Aside0.mk (HP14.out.below HBX.out.1)
    have hc := HHX.out.cell
    have HXX := Aside0.mk (blk_below HX14.out HBX.out.1)
    obtain ⟨x0, x1, x2, x3, x4, x5, x6, x7, -⟩ := cells8z HXX.out
    have HBW : Aside0 (Below w.heap.size w wx) := ⟨HB14.out.trans (HBX.out.1.mono HB14.out.size)⟩
    have HKI : Aside0 ((0 : Nat) ≤ 0 ∧ (0 : Nat) ≤ 100000 ∧ ([] : List EP).length = 0) := ⟨Nat.le_refl _, by omega, rfl⟩
    have HS1 : Aside0 (SrcE wx (.slice none 0 0) (([] : List EP).take 0)) := ⟨.inl ⟨rfl, rfl⟩⟩
    have HS2 : Aside0 (SrcE wx (.slice none 0 0) (([] : List EP).drop 0)) := ⟨.inl ⟨rfl, rfl⟩⟩
    clear hwx
    refine start_ (n := 22) (S := fun w' => w'.cell? ⟨g, 1, none⟩ = some (.slice none 0 0) ∧ w'.cell? ⟨g3, 0, none⟩ = some (.int .i64 p.e.f0) ∧ w'.cell? ⟨g3, 1, none⟩ = some (.int .i64 p.e.f1) ∧ w'.cell? ⟨g3, 2, none⟩ = some (.int .u64 p.e.f2) ∧ w'.cell? ⟨g3, 3, none⟩ = some (.int .i64 p.e.f3.f0) ∧ w'.cell? ⟨g3, 4, none⟩ = some (.int .i64 p.e.f3.f1) ∧ w'.cell? ⟨g3, 5, none⟩ = some (.int .i64 p.e.f4) ∧ w'.cell? ⟨g3, 6, none⟩ = some (.slice p.A p.e.f5.length p.c) ∧ w'.cell? ⟨g3, 7, none⟩ = some (.int .u64 p.e.f6)) (ds := [21]) #[false, false, false, false, false, false, false, false, false, false, false, false, false, false, false, false, false, false, false, false, false, false] (by kernel_rfl) rfl rfl ⟨hc, x0, x1, x2, x3, x4, x5, x6, x7⟩ (fun hHeld => ?_)
    refine with_tabW rhold_nil.tab13 rhold_nil.bits13 (fun HT_ HW_ => ?_)
    refine pure_ (i := 0) (N := some 57) (v := ?_) (a' := ?_) #[true, false, false, false, false, false, false, false, false, false, false, false, false, false, false, false, false, false, false, false, false, false] rfl rfl (any_of HT_.out (by kernel_rfl)) (fun _ _ _ h => h) (Or.inl ⟨by rfl, ?_⟩) ?_ ?_
    rotate_left
    · intro w'
      go_simp
      with_reducible rfl
    rotate_left
    · simp only [Act.put, List.setIfInBounds_toArray, List.set_cons_zero, List.set_cons_succ, i64_w, i32_w]
      rfl
    refine pure_ (i := 2) (N := some 59) (v := ?_) (a' := ?_) #[true, false, true, false, false, false, false, false, false, false, false, false, false, false, false, false, false, false, false, false, false, false] rfl rfl (any_of HT_.out (by kernel_rfl)) (fun _ _ _ h => h) (Or.inl ⟨by rfl, ?_⟩) ?_ ?_
    rotate_left
    · intro w'
      go_simp
      with_reducible rfl
    rotate_left
    · simp only [Act.put, List.setIfInBounds_toArray, List.set_cons_zero, List.set_cons_succ, i64_w, i32_w]
      rfl
    refine pure_ (i := 3) (N := some 60) (v := ?_) (a' := ?_) #[true, false, true, true, false, false, false, false, false, false, false, false, false, false, false, false, false, false, false, false, false, false] rfl rfl (any_of HT_.out (by kernel_rfl)) (fun _ _ _ h => h) (Or.inl ⟨by rfl, ?_⟩) ?_ ?_
    rotate_left
    · intro w'
      go_simp
      with_reducible rfl
    rotate_left
    · simp only [Act.put, List.setIfInBounds_toArray, List.set_cons_zero, List.set_cons_succ, i64_w, i32_w]
      rfl
    refine pure_ (i := 4) (N := some 61) (v := ?_) (a' := ?_) #[true, false, true, true, true, false, false, false, false, false, false, false, false, false, false, false, false, false, false, false, false, false] rfl rfl (any_of HT_.out (by kernel_rfl)) (fun _ _ _ h => h) (Or.inl ⟨by rfl, ?_⟩) ?_ ?_
    rotate_left
    · intro w'
      go_simp
      with_reducible rfl
    rotate_left
    · simp only [Act.put, List.setIfInBounds_toArray, List.set_cons_zero, List.set_cons_succ, i64_w, i32_w]
      rfl
    refine pure_ (i := 6) (N := some 63) (v := ?_) (a' := ?_) #[true, false, true, true, true, false, true, false, false, false, false, false, false, false, false, false, false, false, false, false, false, false] rfl rfl (any_of HT_.out (by kernel_rfl)) (fun _ _ _ h => h) (Or.inl ⟨by rfl, ?_⟩) ?_ ?_
    rotate_left
    · intro w'
      go_simp
      with_reducible rfl
    rotate_left
    · simp only [Act.put, List.setIfInBounds_toArray, List.set_cons_zero, List.set_cons_succ, i64_w, i32_w]
      rfl
    refine pure_ (i := 12) (N := some 69) (v := ?_) (a' := ?_) #[true, false, true, true, true, false, true, false, false, false, false, false, true, false, false, false, false, false, false, false, false, false] rfl rfl (any_of HT_.out (by kernel_rfl)) (fun _ _ _ h => h) (Or.inl ⟨by rfl, ?_⟩) ?_ ?_
    rotate_left
    · intro w'
      go_simp
      with_reducible rfl
    rotate_left
    · simp only [Act.put, List.setIfInBounds_toArray, List.set_cons_zero, List.set_cons_succ, i64_w, i32_w]
      rfl
    refine pure_ (i := 13) (N := some 70) (v := ?_) (a' := ?_) #[true, false, true, true, true, false, true, false, false, false, false, false, true, true, false, false, false, false, false, false, false, false] rfl rfl (any_of HT_.out (by kernel_rfl)) (fun _ _ _ h => h) (Or.inl ⟨by rfl, ?_⟩) ?_ ?_
    rotate_left
    · intro w'
      go_simp
      with_reducible rfl
    rotate_left
    · simp only [Act.put, List.setIfInBounds_toArray, List.set_cons_zero, List.set_cons_succ, i64_w, i32_w]
      rfl
    refine pure_ (i := 14) (N := some 71) (v := ?_) (a' := ?_) #[true, false, true, true, true, false, true, false, false, false, false, false, true, true, true, false, false, false, false, false, false, false] rfl rfl (any_of HT_.out (by kernel_rfl)) (fun _ _ _ h => h) (Or.inl ⟨by rfl, ?_⟩) ?_ ?_
    rotate_left
    · intro w'
      go_simp
      with_reducible rfl
    rotate_left
    · simp only [Act.put, List.setIfInBounds_toArray, List.set_cons_zero, List.set_cons_succ, i64_w, i32_w]
      rfl
    refine pure_ (i := 16) (N := some 73) (v := ?_) (a' := ?_) #[true, false, true, true, true, false, true, false, false, false, false, false, true, true, true, false, true, false, false, false, false, false] rfl rfl (any_of HT_.out (by kernel_rfl)) (fun _ _ _ h => h) (Or.inl ⟨by rfl, ?_⟩) ?_ ?_
    rotate_left
    · intro w'
      go_simp
      with_reducible rfl
    rotate_left
    · simp only [Act.put, List.setIfInBounds_toArray, List.set_cons_zero, List.set_cons_succ, i64_w, i32_w]
      rfl
    refine take_ (i := 5) (N := some 62) (v := ?_) (a' := ?_) #[true, false, true, true, true, true, true, false, false, false, false, false, true, true, true, false, true, false, false, false, false, false] rfl rfl (take_ofW HT_.out HW_.out (by kernel_rfl)) (fun _ _ _ h => h) (Or.inl ⟨by rfl, ?_⟩) hHeld ?_ ?_
    rotate_left
    · rintro w' ⟨s0, s1, s2, s3, s4, s5, s6, s7, s8⟩
      go_simp
      with_reducible rfl
    rotate_left
    · simp only [Act.put, List.setIfInBounds_toArray, List.set_cons_zero, List.set_cons_succ, i64_w, i32_w]
      rfl
    refine pure_ (i := 7) (N := some 64) (v := ?_) (a' := ?_) #[true, false, true, true, true, true, true, true, false, false, false, false, true, true, true, false, true, false, false, false, false, false] rfl rfl (any_of HT_.out (by kernel_rfl)) (fun _ _ _ h => h) (Or.inl ⟨by rfl, ?_⟩) ?_ ?_
    rotate_left
    · intro w'
      go_simp
      with_reducible rfl
    rotate_left
    · simp only [Act.put, List.setIfInBounds_toArray, List.set_cons_zero, List.set_cons_succ, i64_w, i32_w]
      rfl
    refine take_ (i := 9) (N := some 66) (v := ?_) (a' := ?_) #[true, false, true, true, true, true, true, true, false, true, false, false, true, true, true, false, true, false, false, false, false, false] rfl rfl (take_ofW HT_.out HW_.out (by kernel_rfl)) (fun _ _ _ h => h) (Or.inl ⟨by rfl, ?_⟩) hHeld ?_ ?_
    rotate_left
    · rintro w' ⟨s0, s1, s2, s3, s4, s5, s6, s7, s8⟩
      go_simp
      with_reducible rfl
    rotate_left
    · simp only [Act.put, List.setIfInBounds_toArray, List.set_cons_zero, List.set_cons_succ, i64_w, i32_w]
      rfl
    refine take_ (i := 15) (N := some 72) (v := ?_) (a' := ?_) #[true, false, true, true, true, true, true, true, false, true, false, false, true, true, true, true, true, false, false, false, false, false] rfl rfl (take_ofW HT_.out HW_.out (by kernel_rfl)) (fun _ _ _ h => h) (Or.inl ⟨by rfl, ?_⟩) hHeld ?_ ?_
    rotate_left
    · rintro w' ⟨s0, s1, s2, s3, s4, s5, s6, s7, s8⟩
      go_simp
      with_reducible rfl
    rotate_left
    · simp only [Act.put, List.setIfInBounds_toArray, List.set_cons_zero, List.set_cons_succ, i64_w, i32_w]
      rfl
    refine pure_ (i := 17) (N := some 74) (v := ?_) (a' := ?_) #[true, false, true, true, true, true, true, true, false, true, false, false, true, true, true, true, true, true, false, false, false, false] rfl rfl (any_of HT_.out (by kernel_rfl)) (fun _ _ _ h => h) (Or.inl ⟨by rfl, ?_⟩) ?_ ?_
    rotate_left
    · intro w'
      go_simp
      with_reducible rfl
    rotate_left
    · simp only [Act.put, List.setIfInBounds_toArray, List.set_cons_zero, List.set_cons_succ, i64_w, i32_w]
      rfl
    refine join_ (σ := Nat × Value × Nat) 5 #[true, true, true, true, true, true, true, true, true, true, true, false, true, true, true, true, true, true, false, false, false, false] (fun s => [(58, .slice (some ⟨s.1, 0, none⟩) 0 0), (65, s.2.1), (67, .slice (some ⟨s.2.2, 0, none⟩) 1 1)]) (fun s w' => (HRow w' w0.heap.size s.2.1 (([] : List EP).take 0) ∧ w'.heap[s.2.2]? = some (.cells #[.int .i64 p.e.f0, .int .i64 p.e.f1, .int .u64 p.e.f2, .int .i64 p.e.f3.f0, .int .i64 p.e.f3.f1, .int .i64 p.e.f4, .slice p.A p.e.f5.length p.c, .int .u64 p.e.f6] 33 (0, 0)) ∧ Below wx.heap.size wx w' ∧ ∀ j, s.2.1.ownBlock = some j → wx.heap.size ≤ j) ∧ w'.cell? ⟨g, 1, none⟩ = some (.slice none 0 0) ∧ w'.cell? ⟨g3, 0, none⟩ = some (.int .i64 p.e.f0) ∧ w'.cell? ⟨g3, 1, none⟩ = some (.int .i64 p.e.f1) ∧ w'.cell? ⟨g3, 2, none⟩ = some (.int .u64 p.e.f2) ∧ w'.cell? ⟨g3, 3, none⟩ = some (.int .i64 p.e.f3.f0) ∧ w'.cell? ⟨g3, 4, none⟩ = some (.int .i64 p.e.f3.f1) ∧ w'.cell? ⟨g3, 5, none⟩ = some (.int .i64 p.e.f4) ∧ w'.cell? ⟨g3, 6, none⟩ = some (.slice p.A p.e.f5.length p.c) ∧ w'.cell? ⟨g3, 7, none⟩ = some (.int .u64 p.e.f6)) ?_ ?_
    rotate_left
    · intro hCont
      refine two_ (i := 1) (j := 10) (Ni := some 58) (Nj := some 67) #[true, true, true, true, true, true, true, true, false, true, false, false, true, true, true, true, true, true, false, false, false, false] #[true, false, true, true, true, true, true, true, false, true, true, false, true, true, true, true, true, true, false, false, false, false] rfl rfl rfl rfl (two_of HT_.out (by kernel_rfl)) (by decide) (by decide) (fun K hK => ?_) (fun K hK => ?_)
      · skip
        refine value_ (w1 := ?_) (v := ?_) (by rfl) rfl ?_ ?_
        rotate_left 2
        · go_simp
          constructor
          · rfl
          · rfl
        refine hK.out _ _ ⟨(pw_cell_below (by with_reducible repeat (first | exact Below.refl _ _ | apply below_alloc | apply pw_below_drewN | apply below_drew1)) hc), (pw_cell_below (by with_reducible repeat (first | exact Below.refl _ _ | apply below_alloc | apply pw_below_drewN | apply below_drew1)) x0), (pw_cell_below (by with_reducible repeat (first | exact Below.refl _ _ | apply below_alloc | apply pw_below_drewN | apply below_drew1)) x1), (pw_cell_below (by with_reducible repeat (first | exact Below.refl _ _ | apply below_alloc | apply pw_below_drewN | apply below_drew1)) x2), (pw_cell_below (by with_reducible repeat (first | exact Below.refl _ _ | apply below_alloc | apply pw_below_drewN | apply below_drew1)) x3), (pw_cell_below (by with_reducible repeat (first | exact Below.refl _ _ | apply below_alloc | apply pw_below_drewN | apply below_drew1)) x4), (pw_cell_below (by with_reducible repeat (first | exact Below.refl _ _ | apply below_alloc | apply pw_below_drewN | apply below_drew1)) x5), (pw_cell_below (by with_reducible repeat (first | exact Below.refl _ _ | apply below_alloc | apply pw_below_drewN | apply below_drew1)) x6), (pw_cell_below (by with_reducible repeat (first | exact Below.refl _ _ | apply below_alloc | apply pw_below_drewN | apply below_drew1)) x7)⟩ (fun hHeld => ?_)
        clear hK K
        refine norm_ (a' := ?_) ?_ ?_
        rotate_left
        · show Act.put _ (some 58) _ = _
          simp only [Act.put, List.setIfInBounds_toArray, List.set_cons_zero, List.set_cons_succ, i64_w, i32_w]
          rfl
        refine two_ (i := 8) (j := 10) (Ni := some 65) (Nj := some 67) #[true, true, true, true, true, true, true, true, true, true, false, false, true, true, true, true, true, true, false, false, false, false] #[true, true, true, true, true, true, true, true, false, true, true, false, true, true, true, true, true, true, false, false, false, false] rfl rfl rfl rfl (two_of HT_.out (by kernel_rfl)) (by decide) (by decide) (fun K hK => ?_) (fun K hK => ?_)
        · skip
          refine step_app_src w0.heap.size rfl (.tmp 58) (.tmp 64) 22 rfl Try.underlying22 _ [] (([] : List EP).take 0) rfl ?ho _ rfl ?hsrc ?hbs ?hlt ?_
          case hsrc => exact HS1.out.below (show Below wx.heap.size wx _ from (by with_reducible repeat (first | exact Below.refl _ _ | apply below_alloc | apply pw_below_drewN | apply below_drew1)))
          case hlt => (have := HKI.out; simp only [List.length_nil, List.length_append, List.length_take, List.length_drop, List.length_cons]; omega)
          case ho => exact HRow.empty wx.drew w0.heap.size HBX.out.2
          case hbs => exact Nat.le_trans HBX.out.2 (show Below wx.heap.size wx _ from (by with_reducible repeat (first | exact Below.refl _ _ | apply below_alloc | apply pw_below_drewN | apply below_drew1))).size
          intro v65 w65 hp hf hat
          rw [List.nil_append] at hp
          have hb65 : Below wx.heap.size wx w65 := hf.below (by with_reducible repeat (first | exact Below.refl _ _ | apply below_alloc | apply pw_below_drewN | apply below_drew1)) (fun j hj => Nat.le_of_eq (Option.some.inj hj))
          have hf65 : ∀ j, v65.ownBlock = some j → wx.heap.size ≤ j := fun j hj => (hat_orR hat j hj).elim (fun hj => Nat.le_of_eq (Option.some.inj hj)) (fun h => Nat.le_trans (show Below wx.heap.size wx _ from (by with_reducible repeat (first | exact Below.refl _ _ | apply below_alloc | apply pw_below_drewN | apply below_drew1))).size h)
          refine hK.out _ _ ⟨(pw_cell_below hb65 hc), (pw_cell_below hb65 x0), (pw_cell_below hb65 x1), (pw_cell_below hb65 x2), (pw_cell_below hb65 x3), (pw_cell_below hb65 x4), (pw_cell_below hb65 x5), (pw_cell_below hb65 x6), (pw_cell_below hb65 x7)⟩ (fun hHeld => ?_)
          clear hK K
          refine norm_ (a' := ?_) ?_ ?_
          rotate_left
          · show Act.put _ (some 65) _ = _
            simp only [Act.put, List.setIfInBounds_toArray, List.set_cons_zero, List.set_cons_succ, i64_w, i32_w]
            rfl
          refine one_ (i := 10) (N := some 67) #[true, true, true, true, true, true, true, true, true, true, true, false, true, true, true, true, true, true, false, false, false, false] rfl rfl (one_of HT_.out (by kernel_rfl)) (by decide) (fun K hK => ?_)
          refine value_ (w1 := ?_) (v := ?_) (by rfl) rfl ?_ ?_
          rotate_left 2
          · go_simp
            constructor
            · rfl
            · rfl
          refine hK.out _ _ ⟨(pw_cell_below (by with_reducible repeat (first | exact hb65 | apply below_alloc | apply pw_below_drewN | apply below_drew1)) hc), (pw_cell_below (by with_reducible repeat (first | exact hb65 | apply below_alloc | apply pw_below_drewN | apply below_drew1)) x0), (pw_cell_below (by with_reducible repeat (first | exact hb65 | apply below_alloc | apply pw_below_drewN | apply below_drew1)) x1), (pw_cell_below (by with_reducible repeat (first | exact hb65 | apply below_alloc | apply pw_below_drewN | apply below_drew1)) x2), (pw_cell_below (by with_reducible repeat (first | exact hb65 | apply below_alloc | apply pw_below_drewN | apply below_drew1)) x3), (pw_cell_below (by with_reducible repeat (first | exact hb65 | apply below_alloc | apply pw_below_drewN | apply below_drew1)) x4), (pw_cell_below (by with_reducible repeat (first | exact hb65 | apply below_alloc | apply pw_below_drewN | apply below_drew1)) x5), (pw_cell_below (by with_reducible repeat (first | exact hb65 | apply below_alloc | apply pw_below_drewN | apply below_drew1)) x6), (pw_cell_below (by with_reducible repeat (first | exact hb65 | apply below_alloc | apply pw_below_drewN | apply below_drew1)) x7)⟩ (fun hHeld => ?_)
          clear hK K
          refine norm_ (a' := ?_) ?_ ?_
          rotate_left
          · show Act.put _ (some 67) _ = _
            simp only [Act.put, List.setIfInBounds_toArray, List.set_cons_zero, List.set_cons_succ, i64_w, i32_w]
            rfl
          exact norm_ (by simp only [putAll, Act.put, List.setIfInBounds_toArray, List.set_cons_zero, List.set_cons_succ]) (hCont (wx.heap.size, v65, w65.heap.size) _ ⟨⟨hp.below (below_alloc (Below.refl _ _) _), blk_new w65 _, below_alloc hb65 _, hf65⟩, pw_cell_below (by with_reducible repeat (first | exact hb65 | apply below_alloc | apply pw_below_drewN | apply below_drew1)) hc, pw_cell_below (by with_reducible repeat (first | exact hb65 | apply below_alloc | apply pw_below_drewN | apply below_drew1)) x0, pw_cell_below (by with_reducible repeat (first | exact hb65 | apply below_alloc | apply pw_below_drewN | apply below_drew1)) x1, pw_cell_below (by with_reducible repeat (first | exact hb65 | apply below_alloc | apply pw_below_drewN | apply below_drew1)) x2, pw_cell_below (by with_reducible repeat (first | exact hb65 | apply below_alloc | apply pw_below_drewN | apply below_drew1)) x3, pw_cell_below (by with_reducible repeat (first | exact hb65 | apply below_alloc | apply pw_below_drewN | apply below_drew1)) x4, pw_cell_below (by with_reducible repeat (first | exact hb65 | apply below_alloc | apply pw_below_drewN | apply below_drew1)) x5, pw_cell_below (by with_reducible repeat (first | exact hb65 | apply below_alloc | apply pw_below_drewN | apply below_drew1)) x6, pw_cell_below (by with_reducible repeat (first | exact hb65 | apply below_alloc | apply pw_below_drewN | apply below_drew1)) x7⟩)
        · skip
          refine value_ (w1 := ?_) (v := ?_) (by rfl) rfl ?_ ?_
          rotate_left 2
          · go_simp
            constructor
            · rfl
            · rfl
          refine hK.out _ _ ⟨(pw_cell_below (by with_reducible repeat (first | exact Below.refl _ _ | apply below_alloc | apply pw_below_drewN | apply below_drew1)) hc), (pw_cell_below (by with_reducible repeat (first | exact Below.refl _ _ | apply below_alloc | apply pw_below_drewN | apply below_drew1)) x0), (pw_cell_below (by with_reducible repeat (first | exact Below.refl _ _ | apply below_alloc | apply pw_below_drewN | apply below_drew1)) x1), (pw_cell_below (by with_reducible repeat (first | exact Below.refl _ _ | apply below_alloc | apply pw_below_drewN | apply below_drew1)) x2), (pw_cell_below (by with_reducible repeat (first | exact Below.refl _ _ | apply below_alloc | apply pw_below_drewN | apply below_drew1)) x3), (pw_cell_below (by with_reducible repeat (first | exact Below.refl _ _ | apply below_alloc | apply pw_below_drewN | apply below_drew1)) x4), (pw_cell_below (by with_reducible repeat (first | exact Below.refl _ _ | apply below_alloc | apply pw_below_drewN | apply below_drew1)) x5), (pw_cell_below (by with_reducible repeat (first | exact Below.refl _ _ | apply below_alloc | apply pw_below_drewN | apply below_drew1)) x6), (pw_cell_below (by with_reducible repeat (first | exact Below.refl _ _ | apply below_alloc | apply pw_below_drewN | apply below_drew1)) x7)⟩ (fun hHeld => ?_)
          clear hK K
          refine norm_ (a' := ?_) ?_ ?_
          rotate_left
          · show Act.put _ (some 67) _ = _
            simp only [Act.put, List.setIfInBounds_toArray, List.set_cons_zero, List.set_cons_succ, i64_w, i32_w]
            rfl
          refine one_ (i := 8) (N := some 65) #[true, true, true, true, true, true, true, true, true, true, true, false, true, true, true, true, true, true, false, false, false, false] rfl rfl (one_of HT_.out (by kernel_rfl)) (by decide) (fun K hK => ?_)
          refine step_app_src w0.heap.size rfl (.tmp 58) (.tmp 64) 22 rfl Try.underlying22 _ [] (([] : List EP).take 0) rfl ?ho _ rfl ?hsrc ?hbs ?hlt ?_
          case hsrc => exact HS1.out.below (show Below wx.heap.size wx _ from (by with_reducible repeat (first | exact Below.refl _ _ | apply below_alloc | apply pw_below_drewN | apply below_drew1)))
          case hlt => (have := HKI.out; simp only [List.length_nil, List.length_append, List.length_take, List.length_drop, List.length_cons]; omega)
          case ho => exact (HRow.empty wx.drew w0.heap.size HBX.out.2).below (below_alloc (Below.refl _ _) _)
          case hbs => exact Nat.le_trans HBX.out.2 (show Below wx.heap.size wx _ from (by with_reducible repeat (first | exact Below.refl _ _ | apply below_alloc | apply pw_below_drewN | apply below_drew1))).size
          intro v65 w65 hp hf hat
          rw [List.nil_append] at hp
          have hb65 : Below wx.heap.size wx w65 := hf.below (by with_reducible repeat (first | exact Below.refl _ _ | apply below_alloc | apply pw_below_drewN | apply below_drew1)) (fun j hj => Nat.le_of_eq (Option.some.inj hj))
          have hf65 : ∀ j, v65.ownBlock = some j → wx.heap.size ≤ j := fun j hj => (hat_orR hat j hj).elim (fun hj => Nat.le_of_eq (Option.some.inj hj)) (fun h => Nat.le_trans (show Below wx.heap.size wx _ from (by with_reducible repeat (first | exact Below.refl _ _ | apply below_alloc | apply pw_below_drewN | apply below_drew1))).size h)
          have hx65 := hf.blk (heap_alloc_new (wx.drew.alloc (.cells #[] 33)) (.cells #[.int .i64 p.e.f0, .int .i64 p.e.f1, .int .u64 p.e.f2, .int .i64 p.e.f3.f0, .int .i64 p.e.f3.f1, .int .i64 p.e.f4, .slice p.A p.e.f5.length p.c, .int .u64 p.e.f6] 33 (0, 0))) (fun hj => by have h := Option.some.inj hj; simp at h)
          refine hK.out _ _ ⟨(pw_cell_below hb65 hc), (pw_cell_below hb65 x0), (pw_cell_below hb65 x1), (pw_cell_below hb65 x2), (pw_cell_below hb65 x3), (pw_cell_below hb65 x4), (pw_cell_below hb65 x5), (pw_cell_below hb65 x6), (pw_cell_below hb65 x7)⟩ (fun hHeld => ?_)
          clear hK K
          refine norm_ (a' := ?_) ?_ ?_
          rotate_left
          · show Act.put _ (some 65) _ = _
            simp only [Act.put, List.setIfInBounds_toArray, List.set_cons_zero, List.set_cons_succ, i64_w, i32_w]
            rfl
          exact norm_ (by simp only [putAll, Act.put, List.setIfInBounds_toArray, List.set_cons_zero, List.set_cons_succ]) (hCont (wx.heap.size, v65, (wx.heap.size + 1)) _ ⟨⟨hp, by simpa using hx65, hb65, hf65⟩, pw_cell_below hb65 hc, pw_cell_below hb65 x0, pw_cell_below hb65 x1, pw_cell_below hb65 x2, pw_cell_below hb65 x3, pw_cell_below hb65 x4, pw_cell_below hb65 x5, pw_cell_below hb65 x6, pw_cell_below hb65 x7⟩)
      · skip
        refine value_ (w1 := ?_) (v := ?_) (by rfl) rfl ?_ ?_
        rotate_left 2
        · go_simp
          constructor
          · rfl
          · rfl
        refine hK.out _ _ ⟨(pw_cell_below (by with_reducible repeat (first | exact Below.refl _ _ | apply below_alloc | apply pw_below_drewN | apply below_drew1)) hc), (pw_cell_below (by with_reducible repeat (first | exact Below.refl _ _ | apply below_alloc | apply pw_below_drewN | apply below_drew1)) x0), (pw_cell_below (by with_reducible repeat (first | exact Below.refl _ _ | apply below_alloc | apply pw_below_drewN | apply below_drew1)) x1), (pw_cell_below (by with_reducible repeat (first | exact Below.refl _ _ | apply below_alloc | apply pw_below_drewN | apply below_drew1)) x2), (pw_cell_below (by with_reducible repeat (first | exact Below.refl _ _ | apply below_alloc | apply pw_below_drewN | apply below_drew1)) x3), (pw_cell_below (by with_reducible repeat (first | exact Below.refl _ _ | apply below_alloc | apply pw_below_drewN | apply below_drew1)) x4), (pw_cell_below (by with_reducible repeat (first | exact Below.refl _ _ | apply below_alloc | apply pw_below_drewN | apply below_drew1)) x5), (pw_cell_below (by with_reducible repeat (first | exact Below.refl _ _ | apply below_alloc | apply pw_below_drewN | apply below_drew1)) x6), (pw_cell_below (by with_reducible repeat (first | exact Below.refl _ _ | apply below_alloc | apply pw_below_drewN | apply below_drew1)) x7)⟩ (fun hHeld => ?_)
        clear hK K
        refine norm_ (a' := ?_) ?_ ?_
        rotate_left
        · show Act.put _ (some 67) _ = _
          simp only [Act.put, List.setIfInBounds_toArray, List.set_cons_zero, List.set_cons_succ, i64_w, i32_w]
          rfl
        refine one_ (i := 1) (N := some 58) #[true, true, true, true, true, true, true, true, false, true, true, false, true, true, true, true, true, true, false, false, false, false] rfl rfl (one_of HT_.out (by kernel_rfl)) (by decide) (fun K hK => ?_)
        refine value_ (w1 := ?_) (v := ?_) (by rfl) rfl ?_ ?_
        rotate_left 2
        · go_simp
          constructor
          · rfl
          · rfl
        refine hK.out _ _ ⟨(pw_cell_below (by with_reducible repeat (first | exact Below.refl _ _ | apply below_alloc | apply pw_below_drewN | apply below_drew1)) hc), (pw_cell_below (by with_reducible repeat (first | exact Below.refl _ _ | apply below_alloc | apply pw_below_drewN | apply below_drew1)) x0), (pw_cell_below (by with_reducible repeat (first | exact Below.refl _ _ | apply below_alloc | apply pw_below_drewN | apply below_drew1)) x1), (pw_cell_below (by with_reducible repeat (first | exact Below.refl _ _ | apply below_alloc | apply pw_below_drewN | apply below_drew1)) x2), (pw_cell_below (by with_reducible repeat (first | exact Below.refl _ _ | apply below_alloc | apply pw_below_drewN | apply below_drew1)) x3), (pw_cell_below (by with_reducible repeat (first | exact Below.refl _ _ | apply below_alloc | apply pw_below_drewN | apply below_drew1)) x4), (pw_cell_below (by with_reducible repeat (first | exact Below.refl _ _ | apply below_alloc | apply pw_below_drewN | apply below_drew1)) x5), (pw_cell_below (by with_reducible repeat (first | exact Below.refl _ _ | apply below_alloc | apply pw_below_drewN | apply below_drew1)) x6), (pw_cell_below (by with_reducible repeat (first | exact Below.refl _ _ | apply below_alloc | apply pw_below_drewN | apply below_drew1)) x7)⟩ (fun hHeld => ?_)
        clear hK K
        refine norm_ (a' := ?_) ?_ ?_
        rotate_left
        · show Act.put _ (some 58) _ = _
          simp only [Act.put, List.setIfInBounds_toArray, List.set_cons_zero, List.set_cons_succ, i64_w, i32_w]
          rfl
        refine one_ (i := 8) (N := some 65) #[true, true, true, true, true, true, true, true, true, true, true, false, true, true, true, true, true, true, false, false, false, false] rfl rfl (one_of HT_.out (by kernel_rfl)) (by decide) (fun K hK => ?_)
        refine step_app_src w0.heap.size rfl (.tmp 58) (.tmp 64) 22 rfl Try.underlying22 _ [] (([] : List EP).take 0) rfl ?ho _ rfl ?hsrc ?hbs ?hlt ?_
        case hsrc => exact HS1.out.below (show Below wx.heap.size wx _ from (by with_reducible repeat (first | exact Below.refl _ _ | apply below_alloc | apply pw_below_drewN | apply below_drew1)))
        case hlt => (have := HKI.out; simp only [List.length_nil, List.length_append, List.length_take, List.length_drop, List.length_cons]; omega)
        case ho => exact (HRow.empty2 wx (.cells #[.int .i64 p.e.f0, .int .i64 p.e.f1, .int .u64 p.e.f2, .int .i64 p.e.f3.f0, .int .i64 p.e.f3.f1, .int .i64 p.e.f4, .slice p.A p.e.f5.length p.c, .int .u64 p.e.f6] 33) w0.heap.size HBX.out.2).below (below_drew1 (Below.refl _ _))
        case hbs => exact Nat.le_trans HBX.out.2 (show Below wx.heap.size wx _ from (by with_reducible repeat (first | exact Below.refl _ _ | apply below_alloc | apply pw_below_drewN | apply below_drew1))).size
        intro v65 w65 hp hf hat
        rw [List.nil_append] at hp
        have hb65 : Below wx.heap.size wx w65 := hf.below (by with_reducible repeat (first | exact Below.refl _ _ | apply below_alloc | apply pw_below_drewN | apply below_drew1)) (fun j hj => (by have h := Option.some.inj hj; simp at h; omega))
        have hf65 : ∀ j, v65.ownBlock = some j → wx.heap.size ≤ j := fun j hj => (hat_orR hat j hj).elim (fun hj => (by have h := Option.some.inj hj; simp at h; omega)) (fun h => Nat.le_trans (show Below wx.heap.size wx _ from (by with_reducible repeat (first | exact Below.refl _ _ | apply below_alloc | apply pw_below_drewN | apply below_drew1))).size h)
        have hx65 := hf.blk (blk_alloc (blk_new wx.drew (.cells #[.int .i64 p.e.f0, .int .i64 p.e.f1, .int .u64 p.e.f2, .int .i64 p.e.f3.f0, .int .i64 p.e.f3.f1, .int .i64 p.e.f4, .slice p.A p.e.f5.length p.c, .int .u64 p.e.f6] 33 (0, 0))) (.cells #[] 33 (0, 0))) (fun hj => by have h := Option.some.inj hj; simp at h)
        refine hK.out _ _ ⟨(pw_cell_below hb65 hc), (pw_cell_below hb65 x0), (pw_cell_below hb65 x1), (pw_cell_below hb65 x2), (pw_cell_below hb65 x3), (pw_cell_below hb65 x4), (pw_cell_below hb65 x5), (pw_cell_below hb65 x6), (pw_cell_below hb65 x7)⟩ (fun hHeld => ?_)
        clear hK K
        refine norm_ (a' := ?_) ?_ ?_
        rotate_left
        · show Act.put _ (some 65) _ = _
          simp only [Act.put, List.setIfInBounds_toArray, List.set_cons_zero, List.set_cons_succ, i64_w, i32_w]
          rfl
        exact norm_ (by simp only [putAll, Act.put, List.setIfInBounds_toArray, List.set_cons_zero, List.set_cons_succ]) (hCont ((wx.heap.size + 1), v65, wx.heap.size) _ ⟨⟨hp, by simpa using hx65, hb65, hf65⟩, pw_cell_below hb65 hc, pw_cell_below hb65 x0, pw_cell_below hb65 x1, pw_cell_below hb65 x2, pw_cell_below hb65 x3, pw_cell_below hb65 x4, pw_cell_below hb65 x5, pw_cell_below hb65 x6, pw_cell_below hb65 x7⟩)
    rintro ⟨a58, v65, b67⟩ w67 ⟨⟨hO65, hx67, hb67, hf67⟩, hHeld⟩
    change HRow w67 w0.heap.size v65 _ at hO65
    change w67.heap[b67]? = _ at hx67
    change ∀ j, v65.ownBlock = some j → _ at hf67
    refine norm_ (a' := ?_) ?_ ?_
    rotate_left
    · simp only [putAll, Act.put, List.setIfInBounds_toArray, List.set_cons_zero, List.set_cons_succ]
      rfl
    refine one_ (i := 11) (N := some 68) #[true, true, true, true, true, true, true, true, true, true, true, true, true, true, true, true, true, true, false, false, false, false] rfl rfl (one_of HT_.out (by kernel_rfl)) (by decide) (fun K hK => ?_)
    refine step_app_src w0.heap.size rfl (.tmp 65) (.tmp 67) 22 rfl Try.underlying22 v65 (([] : List EP).take 0) [p] rfl ?ho _ rfl ?hsrc ?hbs ?hlt ?_
    case hsrc => exact .inr ⟨_, 1, _, rfl, rfl, fun j u hu => World.news_of_block hx67 j u (by simpa [flE, enC] using hu)⟩
    case hlt => (have := HKI.out; simp only [List.length_nil, List.length_append, List.length_take, List.length_drop, List.length_cons]; omega)
    case ho => exact hO65
    case hbs => exact Nat.le_trans HBX.out.2 hb67.size
    intro v68 w68 hp hf hat
    have hb68 : Below wx.heap.size wx w68 := hf.below hb67 (fun j hj => hf67 j hj)
    have hf68 : ∀ j, v68.ownBlock = some j → wx.heap.size ≤ j := fun j hj => (hat_orR hat j hj).elim (fun h => hf67 j h) (fun h => Nat.le_trans hb67.size h)
    have hO68 := hp
    clear hp hf hat
    refine hK.out _ _ ⟨(pw_cell_below hb68 hc), (pw_cell_below hb68 x0), (pw_cell_below hb68 x1), (pw_cell_below hb68 x2), (pw_cell_below hb68 x3), (pw_cell_below hb68 x4), (pw_cell_below hb68 x5), (pw_cell_below hb68 x6), (pw_cell_below hb68 x7)⟩ (fun hHeld => ?_)
    clear hK K
    refine norm_ (a' := ?_) ?_ ?_
    rotate_left
    · show Act.put _ (some 68) _ = _
      simp only [Act.put, List.setIfInBounds_toArray, List.set_cons_zero, List.set_cons_succ, i64_w, i32_w]
      rfl
    refine one_ (i := 18) (N := some 75) #[true, true, true, true, true, true, true, true, true, true, true, true, true, true, true, true, true, true, true, false, false, false] rfl rfl (one_of HT_.out (by kernel_rfl)) (by decide) (fun K hK => ?_)
    refine step_app_src w0.heap.size rfl (.tmp 68) (.tmp 74) 22 rfl Try.underlying22 v68 ((([] : List EP).take 0) ++ [p]) (([] : List EP).drop 0) rfl ?ho _ rfl ?hsrc ?hbs ?hlt ?_
    case hsrc => exact HS2.out.below hb68
    case hlt => (have := HKI.out; simp only [List.length_nil, List.length_append, List.length_take, List.length_drop, List.length_cons]; omega)
    case ho => exact hO68
    case hbs => exact Nat.le_trans HBX.out.2 hb68.size
    intro v75 w75 hp hf hat
    obtain ⟨A75, L75, c75, rfl⟩ : ∃ A L c, v75 = .slice A L c := (by obtain ⟨A, c, h⟩ := hp.form; exact ⟨A, _, c, h⟩)
    have hb75 : Below wx.heap.size wx w75 := hf.below hb68 (fun j hj => hf68 j hj)
    have hf75 : ∀ j, (Value.slice A75 L75 c75).ownBlock = some j → wx.heap.size ≤ j := fun j hj => (hat_orR hat j hj).elim (fun h => hf68 j h) (fun h => Nat.le_trans hb68.size h)
    have HB75 := Aside0.mk hb75
    have HF75 := Aside0.mk hf75
    have HO75 := Aside0.mk hp
    have hz75 := blk_frozen (blk_below HHX.out.hd hb75) 1
    clear hp hf hat hf75
    refine hK.out _ _ ⟨(pw_cell_below hb75 hc), (pw_cell_below hb75 x0), (pw_cell_below hb75 x1), (pw_cell_below hb75 x2), (pw_cell_below hb75 x3), (pw_cell_below hb75 x4), (pw_cell_below hb75 x5), (pw_cell_below hb75 x6), (pw_cell_below hb75 x7)⟩ (fun hHeld => ?_)
    clear hK K
    refine norm_ (a' := ?_) ?_ ?_
    rotate_left
    · show Act.put _ (some 75) _ = _
      simp only [Act.put, List.setIfInBounds_toArray, List.set_cons_zero, List.set_cons_succ, i64_w, i32_w]
      rfl
    refine pure_ (i := 19) (N := some 76) (v := ?_) (a' := ?_) #[true, true, true, true, true, true, true, true, true, true, true, true, true, true, true, true, true, true, true, true, false, false] rfl rfl (any_of HT_.out (by kernel_rfl)) (fun _ _ _ h => h) (Or.inl ⟨by rfl, ?_⟩) ?_ ?_
    rotate_left
    · intro w'
      go_simp
      with_reducible rfl
    rotate_left
    · simp only [Act.put, List.setIfInBounds_toArray, List.set_cons_zero, List.set_cons_succ, i64_w, i32_w]
      rfl
    refine pure_ (i := 20) (N := some 77) (v := ?_) (a' := ?_) #[true, true, true, true, true, true, true, true, true, true, true, true, true, true, true, true, true, true, true, true, true, false] rfl rfl (any_of HT_.out (by kernel_rfl)) (fun _ _ _ h => h) (Or.inl ⟨by rfl, ?_⟩) ?_ ?_
    rotate_left
    · intro w'
      go_simp
      with_reducible rfl
    rotate_left
    · simp only [Act.put, List.setIfInBounds_toArray, List.set_cons_zero, List.set_cons_succ, i64_w, i32_w]
      rfl
    refine last_ (i := 21) (N := none) #[true, true, true, true, true, true, true, true, true, true, true, true, true, true, true, true, true, true, true, true, true, true] rfl rfl (one_of HT_.out (by kernel_rfl)) (by decide) (fun K hK => ?_)
    refine skip_ (w1 := ?_) (by rfl) rfl ?_ ?_
    rotate_left
    · go_simp
      rfl
    refine hK.out _ _ ?_
    clear hK K
    refine done_ (done_of HT_.out (by kernel_rfl)) ?_
    go_upto_region 14 with fail
    refine gen_world (fun W7 hW7 => ?_)
    have h7 : W7.heap[g]? = some (.cells #[.int .i64 most, .slice A75 L75 c75] 50 (0, 0)) := by
      rw [hW7]
      have := blk_set (blk_below HHX.out.hd HB75.out) 1 (.slice A75 L75 c75)
      simpa using this
    have hf7 : Fr w75 W7 (fun j => j = g) := by rw [hW7]; exact Fr.set (Fr.refl _ (fun j => j = g)) (.inl rfl) _ _
    clear hW7
    have hF : Fr w W7 (fun j => j = g) := ((Fr.ofBelow (fun j => j = g) HBW.out).trans (Fr.ofBelow (fun j => j = g) HB75.out) (fun _ _ h => h)).trans hf7 (fun _ _ h => h)
    have HEND : Aside0 (RHoldP w0 w g most [] p W7) := ⟨0, (Nat.le_refl _), (fun q hq => by simp at hq), (fun q hq => by simp at hq), .slice A75 L75 c75, ⟨h7, HO75.out.fr hf7 (fun j hj e => by
        have h1 := HF75.out j hj
        have h2 := blk_lt HHX.out.hd
        omega), HHX.out.bs, fun q hq => by
        rcases List.mem_append.1 hq with hq | hq
        · rcases List.mem_append.1 hq with hq | hq
          · exact HHX.out.rd q (List.mem_of_mem_take hq)
          · rw [List.mem_singleton.1 hq]
            exact HR00.out
        · exact HHX.out.rd q (List.mem_of_mem_drop hq), hF.below HW0.out (fun j hj => by rw [hj]; exact HHX.out.bs)⟩, hF, fun j hj => Nat.le_trans HBW.out.size (HF75.out j hj)⟩
    clear h7 hf7 hF
    go_wp2
    go_ret
    exact ⟨rfl, HEND.out⟩
end Go.Proofs.Ytekhpogigndlkaa.K

namespace Go.Proofs.Ytekhpogigndlkaa.K
open Go.RowKit Go.Proofs.YtekhpogigndlkaaW.PrintWords Go.Proofs.YtekhpogigndlkaaW.PrintLast Go.Proofs.YtekhpogigndlkaaW.PrintMore
set_option linter.unusedVariables false
set_option linter.unusedSimpArgs false

/-- What the reference's Run has and leaves. -/
structure RRun (w0 w W : World) (g : Nat) (most : Int) (v0 : Value) (hs : List EP) (x idx : Int) (os qs : List EP) (u v : Value) : Prop where
  r : RefB w0 W g most v qs
  o : HRow W w0.heap.size u os
  pm : (os ++ qs).Perm hs
  sub : qs.Sublist hs
  key : ∀ (i : Nat) (p : EP), os[i]? = some p → keyE p.e = (x, idx + i)
  fr : Fr w W (fun k => k = g)
  f1 : ∀ k, u.ownBlock = some k → w.heap.size ≤ k
  dis : ∀ k, u.ownBlock = some k → v.ownBlock ≠ some k
  f2 : ∀ k, v.ownBlock = some k → v0.ownBlock = some k ∨ w.heap.size ≤ k
def RRunI (w0 w : World) (g : Nat) (most : Int) (v0 : Value) (hs : List EP) (x idx : Int) (j : Nat) (v7 v8 : Value) (W : World) : Prop :=
  ∃ (os qs : List EP) (A : Option Addr) (c : Nat) (B : Option Addr) (d : Nat), v7 = .slice A os.length c ∧ v8 = .int .i64 (idx + os.length) ∧ qs.length = j ∧ RRun w0 w W g most v0 hs x idx os qs v7 (.slice B j d)
def RRunP (w0 w : World) (g : Nat) (most : Int) (v0 : Value) (hs : List EP) (x idx : Int) (e : Ending) (W : World) : Prop :=
  ∃ (os qs : List EP) (A : Option Addr) (c : Nat) (v : Value), e = .returned (.slice A os.length c) ∧ (∀ q ∈ qs, keyE q.e ≠ (x, idx + os.length)) ∧ RRun w0 w W g most v0 hs x idx os qs (.slice A os.length c) v
theorem RRun.below {w0 w W X : World} {g : Nat} {most : Int} {v0 : Value} {hs : List EP} {x idx : Int} {os qs : List EP} {u v : Value} (h : RRun w0 w W g most v0 hs x idx os qs u v) (hb : Below W.heap.size W X) : RRun w0 w X g most v0 hs x idx os qs u v :=
  ⟨h.r.below hb, h.o.below hb, h.pm, h.sub, h.key, h.fr.trans (Fr.ofBelow (fun _ => False) hb) (fun _ _ h => h.elim), h.f1, h.dis, h.f2⟩
theorem drop_one {α : Type} {l : List α} {i : Nat} {p : α} (h : l[i]? = some p) : (p :: (l.take i ++ l.drop (i + 1))).Perm l ∧ (l.take i ++ l.drop (i + 1)).Sublist l := by
  obtain ⟨hi, rfl⟩ := List.getElem?_eq_some_iff.1 h
  constructor
  · refine (List.perm_middle.symm).trans ?_
    rw [← List.drop_eq_getElem_cons hi, List.take_append_drop]
  · have h2 : (l.take i ++ l.drop (i + 1)).Sublist (l.take i ++ l.drop i) := List.Sublist.append_left (by rw [List.drop_eq_getElem_cons hi]; exact List.sublist_cons_self _ _) _
    rw [List.take_append_drop] at h2
    exact h2
/-- A round of it: Take has taken p, and the box of p lies. -/
theorem RRun.took {w0 w W W1 : World} {g : Nat} {most : Int} {v0 : Value} {hs : List EP} {x idx : Int} {os qs : List EP} {u v v' : Value} {i : Nat} {p : EP} (h : RRun w0 w W g most v0 hs x idx os qs u v) (hp : qs[i]? = some p)
    (hr : RefB w0 W1 g most v' (qs.take i ++ qs.drop (i + 1))) (hf : Fr W W1 (fun k => k = g)) (hn : ∀ k, v'.ownBlock = some k → W.heap.size ≤ k) :
    RefB w0 W1 g most v' (qs.take i ++ qs.drop (i + 1)) ∧ HRow W1 w0.heap.size u os ∧ (os ++ [p] ++ (qs.take i ++ qs.drop (i + 1))).Perm hs ∧ (qs.take i ++ qs.drop (i + 1)).Sublist hs ∧ Fr w W1 (fun k => k = g) ∧ (∀ k, u.ownBlock = some k → v'.ownBlock ≠ some k) ∧ (∀ k, v'.ownBlock = some k → w.heap.size ≤ k) := by
  obtain ⟨h1, h2⟩ := drop_one hp
  refine ⟨hr, h.o.fr hf (fun k hk e => ?_), ?_, h2.trans h.sub, h.fr.trans hf (fun _ _ h => h), fun k hk e => ?_, fun k hk => Nat.le_trans h.fr.size (hn k hk)⟩
  · obtain ⟨cs, hc⟩ := own_typed h.o.row k hk
    rw [e, h.r.hd] at hc
    injection hc with hc
    injection hc with _ hc
    cases hc
  · refine List.Perm.trans ?_ h.pm
    rw [List.append_assoc]
    exact List.Perm.append_left _ (by simpa using h1)
  · have h3 := h.o.lt k hk
    have h4 := hn k e
    omega
/-- .. and p is behind what came. -/
theorem RRun.put {w0 w W1 W2 X : World} {g : Nat} {most : Int} {v0 : Value} {hs : List EP} {x idx : Int} {os qs : List EP} {u u' v' : Value} {p : EP}
    (hr : RefB w0 W1 g most v' qs) (hpm : (os ++ [p] ++ qs).Perm hs) (hsub : qs.Sublist hs) (hfr : Fr w W1 (fun k => k = g)) (hdis : ∀ k, u.ownBlock = some k → v'.ownBlock ≠ some k) (hn : ∀ k, v'.ownBlock = some k → w.heap.size ≤ k)
    (hkey : ∀ (i : Nat) (p : EP), os[i]? = some p → keyE p.e = (x, idx + i)) (hk : keyE p.e = (x, idx + os.length)) (hf1 : ∀ k, u.ownBlock = some k → w.heap.size ≤ k) (hu : ∀ k, u.ownBlock = some k → k ≠ g)
    (hX : Below W1.heap.size W1 X) (hf : Fr X W2 (fun k => u.ownBlock = some k)) (ho : HRow W2 w0.heap.size u' (os ++ [p])) (hat : u'.ownBlock = u.ownBlock ∨ u'.ownBlock = some X.heap.size) (hup : ∀ k, u.ownBlock = some k → w0.heap.size ≤ k) :
    RRun w0 w W2 g most v0 hs x idx (os ++ [p]) qs u' v' := by
  have hrX := hr.below hX
  have hs1 := hfr.size
  have hs2 := hX.size
  refine ⟨⟨hf.blk hrX.hd (fun e => hu g e rfl), hrX.row.fr hf (fun k hk e => hdis k e hk), hrX.bs, hrX.rd, hf.below hrX.bel (fun k hk => hup k hk)⟩, ho, hpm, hsub, fun i q hq => ?_, (hfr.trans (Fr.ofBelow (fun _ => False) hX) (fun _ _ h => h.elim)).trans hf (fun k hk e => by have := hf1 k e; omega), fun k hk => ?_, fun k hk e => ?_, fun k hk => .inr (hn k hk)⟩
  · by_cases hi : i < os.length
    · rw [List.getElem?_append_left hi] at hq
      exact hkey i q hq
    · rw [List.getElem?_append_right (by omega)] at hq
      have hi1 : i - os.length = 0 := by
        have := (List.getElem?_eq_some_iff.1 hq).1
        simp at this
        omega
      rw [hi1] at hq
      simp only [List.getElem?_cons_zero, Option.some.injEq] at hq
      rw [← hq, hk, show (i : Int) = os.length by omega]
  · rcases hat with hat | hat
    · exact hf1 k (hat ▸ hk)
    · rw [hat] at hk
      injection hk with hk
      omega
  · rcases hat with hat | hat
    · exact hdis k (hat ▸ hk) e
    · rw [hat] at hk
      injection hk with hk
      have h1 := hr.row.lt k e
      omega
set_option maxRecDepth 100000 in
set_option maxHeartbeats 16000000 in
theorem rrun_calls (g n : Nat) (most : Int) (A : Option Addr) (c : Nat) (hs : List EP) (x idx : Int) (w0 w : World) (h : RefB w0 w g most (.slice A n c) hs) (hn : hs.length = n) (hl : n ≤ 100000) (hrt : ∀ p ∈ hs, rightE p.e = true) :
    Calls Try.prog 20 #[.pointer (some ⟨g, 0, none⟩), .int .i64 x, .int .i64 idx] w fun e w' => RRunP w0 w g most (.slice A n c) hs x idx e w' := by
  have HN := Aside0.mk hn
  have HL := Aside0.mk hl
  have HRT := Aside0.mk hrt
  have HTA : Aside0 (∀ q : EP, enV q = .agg #[.int .i64 q.e.f0, .int .i64 q.e.f1, .int .u64 q.e.f2, .int .i64 q.e.f3.f0, .int .i64 q.e.f3.f1, .int .i64 q.e.f4, .slice q.A q.e.f5.length q.c, .int .u64 q.e.f6]) := ⟨fun _ => rfl⟩
  have HI0 : Aside0 (RRunI w0 w g most (.slice A n c) hs x idx n (.slice none 0 0) (.int .i64 idx) w) := ⟨[], hs, none, 0, A, c, rfl, by simp, hn, h, HRow.nil _ _, List.Perm.refl _, List.Sublist.refl _, fun i o ho => by simp at ho, Fr.refl _ _, fun k hk => by simp [Value.ownBlock] at hk, fun k hk => by simp [Value.ownBlock] at hk, fun k hk => .inl hk⟩
  clear h hn hl hrt
  go_enter Try.func20, Try.ntmps20
  go_wp2
  go_loopg [7, 8] n (fun gg v7 v8 wr => ∃ (j : Nat), gg = j ∧ j ≤ n ∧ Aside0 (RRunI w0 w g most (.slice A n c) hs x idx j v7 v8 wr))
  case atStart => exact ⟨n, rfl, Nat.le_refl _, HI0⟩
  case round =>
    clear HI0
    obtain ⟨j, hg, hjn, HI⟩ := hrel
    have hg := hg.symm
    subst hg
    obtain ⟨os, qs, A1, c1, A2, c2, rfl, rfl, hql, hR⟩ := HI.out
    obtain ⟨y, hy⟩ : ∃ y : Int, y = idx + os.length := ⟨_, rfl⟩
    rw [← hy]
    have HY := Aside0.mk hy
    have HQL := Aside0.mk hql
    have HR := Aside0.mk hR
    have HJN := Aside0.mk hjn
    by_cases hyes : ∃ q ∈ qs, keyE q.e = (x, y)
    · have HYES := Aside0.mk hyes
      have hA : ∃ gr, A2 = some ⟨gr, 0, none⟩ := by
        rcases hR.r.row.slice with ⟨h1, h2⟩ | ⟨g, cap, cur, h1, _⟩
        · obtain ⟨q, hq, _⟩ := hyes
          rw [h2] at hq
          simp at hq
        · injection h1 with h1 _ _
          exact ⟨g, h1⟩
      obtain ⟨gr, rfl⟩ := hA
      clear hR hql hjn hy HI hyes
      go_upto_region 5 with (first
        | (go_at_call 19; go_must (refine (rtake_some g j gr c2 most qs x y w0 _ HR.out.r HQL.out (Nat.le_trans HJN.out HL.out) HYES.out).mono ?_; rintro e w13 ⟨i, p, rfl, h1, h2, v', h3, h4, h5⟩; rw [HTA.out]; have HP13 := Aside0.mk h1; have HK13 := Aside0.mk h2; have HT13 := Aside0.mk (HR.out.took h1 h3 h4 h5); clear h1 h2 h3 h4 h5)))
      refine gen_world (fun W9 hW9 => ?_)
      have hB9 : Below w13.heap.size w13 W9 := by rw [hW9]; with_reducible exact below_alloc (Below.refl _ _) _
      have hx9 : W9.heap[w13.heap.size]? = some (.cells #[.int .i64 p.e.f0, .int .i64 p.e.f1, .int .u64 p.e.f2, .int .i64 p.e.f3.f0, .int .i64 p.e.f3.f1, .int .i64 p.e.f4, .slice p.A p.e.f5.length p.c, .int .u64 p.e.f6] 33 (0, 0)) := by rw [hW9]; with_reducible exact heap_alloc_new _ _
      obtain ⟨x0, x1, x2, x3, x4, x5, x6, x7, -⟩ := cells8z hx9
      have HB9 := Aside0.mk hB9
      have HO9 : Aside0 (HRow W9 w0.heap.size (.slice A1 os.length c1) os) := ⟨HT13.out.2.1.below hB9⟩
      have HBS9 : Aside0 (w0.heap.size ≤ W9.heap.size) := ⟨(HT13.out.1.below hB9).bel.size⟩
      have HUP : Aside0 (∀ k, (Value.slice A1 os.length c1).ownBlock = some k → w0.heap.size ≤ k ∧ k ≠ g) := ⟨fun k hk => by
        constructor
        · rcases HR.out.o.slice with ⟨h1, _⟩ | ⟨g', cap, cur, h1, h2, _⟩
          · rw [h1] at hk
            simp [Value.ownBlock] at hk
          · rw [h1] at hk
            have hk : g' = k := Option.some.inj hk
            omega
        · intro e
          obtain ⟨cs, hc⟩ := own_typed HR.out.o.row k hk
          rw [e, HR.out.r.hd] at hc
          injection hc with hc
          injection hc with _ hc
          cases hc⟩
      have hpm : p ∈ hs := HR.out.sub.subset (List.mem_of_getElem? HP13.out)
      have HOL : Aside0 (os.length + 1 ≤ n) := ⟨by
        have h1 := HT13.out.2.2.1.length_eq
        have h2 := HN.out
        simp only [List.length_append, List.length_cons, List.length_nil] at h1
        omega⟩
      have hyb : 0 ≤ y ∧ y < 200 := by
        have h2 := HRT.out p hpm
        simp only [rightE, decide_eq_true_eq] at h2
        have h3 := HK13.out
        simp only [keyE, Prod.mk.injEq] at h3
        omega
      have hk2 : (-1000000 : Int) ≤ y + 1 ∧ y + 1 ≤ 1000000 := by omega
      have hw1 := iw (x := y + 1) rfl hk2
      have hw2 := w64 (x := y + 1) rfl hk2
      clear hW9 hB9 hx9 hyb hk2 hpm
      go_wp2_with (first
        | ((with_reducible refine gate_builtin (b := .append) (xs := #[.tmp 24, .tmp 26]) rfl ?_); at_builtin; go_must (refine app_held w0.heap.size rfl (.tmp 24) (.tmp 26) 22 rfl Try.underlying22 (.slice A1 os.length c1) os p rfl ?ho0 ⟨W9.heap.size, 0, none⟩ 1 rfl ?hnw ?hbs ?hlt ?_; (case ho0 => exact HO9.out.below (below_alloc (Below.refl _ _) _)); (case hnw => exact fun j u hu => World.news_of_block (heap_alloc_new _ _) j u (by simpa [enC] using hu)); (case hbs => (have h1 := HBS9.out; simp; omega)); (case hlt => (have h1 := HOL.out; have h2 := HL.out; omega)); intro v27 w27 hp hf hat; have HV := Aside0.mk (RRun.put (v0 := .slice A n c) (x := x) (idx := idx) HT13.out.1 HT13.out.2.2.1 HT13.out.2.2.2.1 HT13.out.2.2.2.2.1 HT13.out.2.2.2.2.2.1 HT13.out.2.2.2.2.2.2 HR.out.key (by rw [HK13.out, HY.out]) HR.out.f1 (fun k hk => (HUP.out k hk).2) (below_alloc HB9.out _) hf hp hat (fun k hk => (HUP.out k hk).1)); obtain ⟨A27, c27, rfl⟩ := hp.form; clear hp hf hat)))
      have hql : (qs.take i ++ qs.drop (i + 1)).length = j - 1 := by
        have h1 := (drop_one HP13.out).1.length_eq
        have h2 := HQL.out
        simp only [List.length_cons] at h1
        omega
      have hj0 : 0 < j := by
        have h1 := (List.getElem?_eq_some_iff.1 HP13.out).1
        have h2 := HQL.out
        omega
      have hl1 : (os ++ [p]).length = os.length + 1 := by simp
      have HVv := HV.out
      rw [hl1] at HVv
      obtain ⟨A3, c3, hv3⟩ := HVv.r.row.form
      rw [hql] at hv3
      rw [hv3] at HVv
      have hI : RRunI w0 w g most (.slice A n c) hs x idx (j - 1) (.slice A27 (os.length + 1) c27) (.int .i64 (y + 1)) w27 := ⟨os ++ [p], _, A27, c27, A3, c3, by rw [hl1], by rw [hl1, HY.out]; congr 1; push_cast; omega, hql, HVv⟩
      have HI' := Aside0.mk hI
      have HJ0 := Aside0.mk hj0
      clear hI HVv hv3 hl1 hql hw1 hw2 hj0 x0 x1 x2 x3 x4 x5 x6 x7
      go_roundg (j - 1)
      case measure => have := HJ0.out; omega
      case rel => exact ⟨j - 1, rfl, by have := HJN.out; omega, ⟨by simpa using HI'.out⟩⟩
    · have HNO : Aside0 (∀ q ∈ qs, keyE q.e ≠ (x, y)) := ⟨fun q hq e => hyes ⟨q, hq, e⟩⟩
      clear hR hql hjn hy HI hyes
      go_wp2_with (first
        | (go_at_call 19; go_must (refine (rtake_none g j most A2 c2 qs x y w0 _ HR.out.r HQL.out (Nat.le_trans HJN.out HL.out) HNO.out).mono ?_; rintro e w13 ⟨rfl, hb⟩; rw [HTA.out]; have HB13 := Aside0.mk hb; clear hb)))
      go_ret
      have hb : Below wr.heap.size wr (w13.alloc (.cells zCells 33)) := below_alloc HB13.out _
      exact ⟨os, qs, A1, c1, _, rfl, by rw [← HY.out]; exact HNO.out, HR.out.below hb⟩
end Go.Proofs.Ytekhpogigndlkaa.K

namespace Go.Proofs.Ytekhpogigndlkaa.K
open Go.RowKit Go.Proofs.YtekhpogigndlkaaW.PrintWords Go.Proofs.YtekhpogigndlkaaW.PrintLast Go.Proofs.YtekhpogigndlkaaW.PrintMore
set_option linter.unusedVariables false
set_option linter.unusedSimpArgs false

theorem Buf.notref {w0 w : World} {gb gr : Nat} {most : Int} {vb vr : Value} {L : List En} {hs : List EP} (h : Buf w w0.heap.size gb most vb L) (hr : RefB w0 w gr most vr hs) : ¬ SP gb vb gr := by
  obtain ⟨ps, A, c, h1, h2, h3⟩ := h
  rintro (e | e)
  · have hh := h2.hd
    rw [← e, hr.hd] at hh
    injection hh with hh
    injection hh with _ hh
    cases hh
  · obtain ⟨cs, hc⟩ := own_typed h2.row.row gr e
    rw [hr.hd] at hc
    injection hc with hc
    injection hc with _ hc
    cases hc
theorem Buf.besideR {w0 w W : World} {gb gr : Nat} {most : Int} {vb vr : Value} {L : List En} {hs : List EP} (h : Buf w w0.heap.size gb most vb L) (hr : RefB w0 w gr most vr hs) (hf : Fr w W (fun k => k = gr)) : Buf W w0.heap.size gb most vb L := by
  have hn := h.notref hr
  obtain ⟨ps, A, c, h1, h2, h3⟩ := h
  exact ⟨ps, A, c, h1, ⟨hf.blk h2.hd (fun e => hn (.inl e.symm)), h2.lt, h2.ht, h2.row.fr hf (fun k hk e => hn (by rw [← e]; exact .inr hk)) (fun p hp k hk e => Own.typed (h2.row.bod p hp) hr.hd (by decide) k hk e), h2.bs⟩, h3⟩
theorem Own.besideR {w0 w W : World} {base gr : Nat} {most : Int} {vr b : Value} {l : List Int} {hs : List EP} (h : Own w base b l) (hr : RefB w0 w gr most vr hs) (hf : Fr w W (fun k => k = gr)) : Own W base b l :=
  h.fr hf (fun k hk e => Own.typed h hr.hd (by decide) k hk e)
theorem PlR.besideR {w0 w W : World} {base gr : Nat} {most : Int} {v vr : Value} {ps hs : List EP} (h : PlR w base v ps) (hr : RefB w0 w gr most vr hs) (hf : Fr w W (fun k => k = gr)) : PlR W base v ps := by
  refine h.fr hf (fun k hk e => ?_) (fun p hp k hk e => Own.typed (h.bod p hp) hr.hd (by decide) k hk e)
  obtain ⟨cs, hc⟩ := h.typed k hk
  rw [e, hr.hd] at hc
  injection hc with hc
  injection hc with _ hc
  cases hc
/-- Both, and a block of the caller's. -/
def StB (w0 W : World) (gb gr : Nat) (most : Int) (L : List En) (hs : List EP) (bx : Nat) (ob : Obj) : Prop :=
  ∃ vb vr, Buf W w0.heap.size gb most vb L ∧ RefB w0 W gr most vr hs ∧ (∀ k, vr.ownBlock = some k → ¬ SP gb vb k) ∧ W.heap[bx]? = some ob ∧ ¬ SP gb vb bx ∧ bx ≠ gr
/-- Both. -/
def StZ (w0 W : World) (gb gr : Nat) (most : Int) (L : List En) (hs : List EP) : Prop :=
  ∃ vb vr, Buf W w0.heap.size gb most vb L ∧ RefB w0 W gr most vr hs ∧ (∀ k, vr.ownBlock = some k → ¬ SP gb vb k)
section
variable {w0 w W : World} {gb gr bx : Nat} {ob : Obj} {most : Int} {L : List En} {hs : List EP}
theorem StB.low (h : StB w0 w gb gr most L hs bx ob) : StZ w0 w gb gr most L hs := by
  obtain ⟨vb, vr, h1, h2, h3, _⟩ := h
  exact ⟨vb, vr, h1, h2, h3⟩
theorem StB.below (h : StB w0 w gb gr most L hs bx ob) (hb : Below w.heap.size w W) : StB w0 W gb gr most L hs bx ob := by
  obtain ⟨vb, vr, h1, h2, h3, h4, h5⟩ := h
  exact ⟨vb, vr, h1.below hb, h2.below hb, h3, blk_below h4 hb, h5⟩
theorem StZ.below (h : StZ w0 w gb gr most L hs) (hb : Below w.heap.size w W) : StZ w0 W gb gr most L hs := by
  obtain ⟨vb, vr, h1, h2, h3⟩ := h
  exact ⟨vb, vr, h1.below hb, h2.below hb, h3⟩
theorem StZ.box (h : StZ w0 w gb gr most L hs) (hb : Below w.heap.size w W) (hx : W.heap[w.heap.size]? = some ob) : StB w0 W gb gr most L hs w.heap.size ob := by
  obtain ⟨vb, vr, h1, h2, h3⟩ := h
  exact ⟨vb, vr, h1.below hb, h2.below hb, h3, hx, fun e => Nat.lt_irrefl _ (h1.lt _ e), fun e => by
    have := blk_lt h2.hd
    omega⟩
theorem StB.low0 (h : StB w0 w gb gr most L hs bx ob) : Below w0.heap.size w0 w := by
  obtain ⟨vb, vr, h1, h2, h3⟩ := h
  exact h2.bel
theorem StZ.low0 (h : StZ w0 w gb gr most L hs) : Below w0.heap.size w0 w := by
  obtain ⟨vb, vr, h1, h2, h3⟩ := h
  exact h2.bel
theorem StB.perm (h : StB w0 w gb gr most L hs bx ob) {M : List En} (hp : L.Perm M) : StB w0 w gb gr most M hs bx ob := by
  obtain ⟨vb, vr, h1, h2⟩ := h
  exact ⟨vb, vr, h1.perm hp, h2⟩
theorem StB.hbx (h : StB w0 w gb gr most L hs bx ob) : w.heap[bx]? = some ob := by
  obtain ⟨vb, vr, h1, h2, h3, h4, _⟩ := h
  exact h4
theorem StB.of_buf {vb vr vb' : Value} {L' : List En} (h1 : Buf w w0.heap.size gb most vb L) (h2 : RefB w0 w gr most vr hs) (h3 : ∀ k, vr.ownBlock = some k → ¬ SP gb vb k) (h4 : w.heap[bx]? = some ob) (h5 : ¬ SP gb vb bx) (h6 : bx ≠ gr)
    (g1 : Buf W w0.heap.size gb most vb' L') (g2 : Fr w W (SP gb vb)) (g3 : ∀ k, vb'.ownBlock = some k → vb.ownBlock = some k ∨ w.heap.size ≤ k) : StB w0 W gb gr most L' hs bx ob := by
  have key : ∀ k, k < w.heap.size → ¬ SP gb vb k → ¬ SP gb vb' k := fun k hk hn e => by
    rcases e with e | e
    · exact hn (.inl e)
    · rcases g3 k e with e | e
      · exact hn (.inr e)
      · omega
  exact ⟨vb', vr, g1, ⟨g2.blk h2.hd (h1.notref h2), h2.row.fr g2 (fun k hk => h3 k hk), h2.bs, h2.rd, g2.below h2.bel h1.up⟩, fun k hk => key k (h2.row.lt k hk) (h3 k hk), g2.blk h4 h5, key bx (blk_lt h4) h5, h6⟩
theorem StB.of_ref {vb vr vr' : Value} {hs' : List EP} (h1 : Buf w w0.heap.size gb most vb L) (h2 : RefB w0 w gr most vr hs) (h3 : ∀ k, vr.ownBlock = some k → ¬ SP gb vb k) (h4 : w.heap[bx]? = some ob) (h5 : ¬ SP gb vb bx) (h6 : bx ≠ gr)
    (g1 : RefB w0 W gr most vr' hs') (g2 : Fr w W (fun k => k = gr)) (g3 : ∀ k, vr'.ownBlock = some k → vr.ownBlock = some k ∨ w.heap.size ≤ k) : StB w0 W gb gr most L hs' bx ob :=
  ⟨vb, vr', h1.besideR h2 g2, g1, fun k hk e => by
    rcases g3 k hk with h | h
    · exact h3 k h e
    · have := h1.lt k e
      omega, g2.blk h4 h6, h5, h6⟩
end
/-- The reference's list. -/
structure Good (hs : List EP) : Prop where
  srt : srt (hs.map (·.e))
  byt : ∀ p ∈ hs, Byt p.e
  rights : ∀ p ∈ hs, rightE p.e = true
  nodup : ((hs.map (·.e)).map keyE).Nodup
  len : hs.length ≤ 16
theorem Good.nil : Good [] := ⟨List.Pairwise.nil, fun p hp => by simp at hp, fun p hp => by simp at hp, List.nodup_nil, by simp⟩
theorem Good.sub {hs ks : List EP} (h : Good hs) (hk : ks.Sublist hs) : Good ks :=
  ⟨h.srt.sublist (hk.map _), fun p hp => h.byt p (hk.subset hp), fun p hp => h.rights p (hk.subset hp), h.nodup.sublist ((hk.map _).map _), Nat.le_trans hk.length_le h.len⟩
theorem srt_ins {l r : List En} {x : En} (h : srt (l ++ r)) (hl : ∀ q ∈ l, ltK (keyE q) (keyE x)) (hr : ∀ q, r[0]? = some q → ¬ ltK (keyE q) (keyE x)) : srt (l ++ [x] ++ r) := by
  unfold srt at h ⊢
  rw [List.append_assoc, List.pairwise_append]
  rw [List.pairwise_append] at h
  have hx : ∀ b ∈ r, ¬ ltK (keyE b) (keyE x) := fun b hb => by
    cases r with
    | nil => simp at hb
    | cons a r =>
      have h0 := hr a rfl
      rcases List.mem_cons.1 hb with rfl | hb
      · exact h0
      · exact ltK.le_trans h0 ((List.pairwise_cons.1 h.2.1).1 b hb)
  refine ⟨h.1, ?_, fun a ha b hb => ?_⟩
  · exact List.pairwise_cons.2 ⟨hx, h.2.1⟩
  · rcases List.mem_cons.1 hb with rfl | hb
    · exact ltK.asym (hl a ha)
    · exact h.2.2 a ha b hb
theorem Good.ins {hs : List EP} {p : EP} {k : Nat} (h : Good hs) (hk : k ≤ hs.length) (h1 : ∀ q ∈ hs.take k, ltK (keyE q.e) (keyE p.e)) (h2 : ∀ q, hs[k]? = some q → ¬ ltK (keyE q.e) (keyE p.e)) (hb : Byt p.e) (hr : rightE p.e = true) (hn : ∀ q ∈ hs, keyE q.e ≠ keyE p.e) (hl : hs.length + 1 ≤ 16) :
    Good (hs.take k ++ [p] ++ hs.drop k) ∧ (hs.map (·.e) ++ [p.e]).Perm ((hs.take k ++ [p] ++ hs.drop k).map (·.e)) := by
  have hpm : (hs ++ [p]).Perm (hs.take k ++ [p] ++ hs.drop k) := by
    have h3 : (hs.take k ++ hs.drop k ++ [p]).Perm (hs.take k ++ [p] ++ hs.drop k) := by
      rw [List.append_assoc, List.append_assoc]
      exact List.Perm.append_left _ List.perm_append_comm
    rw [List.take_append_drop] at h3
    exact h3
  have hpm2 := hpm.map (·.e)
  rw [List.map_append, List.map_singleton] at hpm2
  refine ⟨⟨?_, fun q hq => ?_, fun q hq => ?_, ?_, ?_⟩, hpm2⟩
  · rw [List.map_append, List.map_append, List.map_singleton]
    refine srt_ins (by rw [← List.map_append, List.take_append_drop]; exact h.srt) (fun q hq => ?_) (fun q hq => ?_)
    · obtain ⟨q', hq', rfl⟩ := List.mem_map.1 hq
      exact h1 q' hq'
    · rw [List.getElem?_map, List.getElem?_drop, Option.map_eq_some_iff] at hq
      obtain ⟨q', hq', rfl⟩ := hq
      exact h2 q' (by simpa using hq')
  · rcases List.mem_append.1 (hpm.mem_iff.2 hq) with hq | hq
    · exact h.byt q hq
    · rw [List.mem_singleton.1 hq]; exact hb
  · rcases List.mem_append.1 (hpm.mem_iff.2 hq) with hq | hq
    · exact h.rights q hq
    · rw [List.mem_singleton.1 hq]; exact hr
  · refine (hpm2.map keyE).nodup_iff.1 (nodup_snoc h.nodup (fun q hq => ?_))
    obtain ⟨q', hq', rfl⟩ := List.mem_map.1 hq
    exact hn q' hq'
  · rw [← hpm.length_eq]
    simp
    omega
/-! ### Hold -/
section
variable {w0 w : World} {gb gr bx : Nat} {ob : Obj} {most : Int} {L : List En} {hs : List EP}
theorem st_hold_b (p : EP) (h : StB w0 w gb gr most L hs bx ob) (hr : Rd w0 p.b p.e.f5) (hm : most ≤ 16) :
    Calls Try.prog 9 #[.pointer (some ⟨gb, 0, none⟩), enV p] w fun e w' => e = .returned (.int .i64 (holdK most L p.e)) ∧ StB w0 w' gb gr most (holdL most L p.e) hs bx ob := by
  obtain ⟨vb, vr, h1, h2, h3, h4, h5, h6⟩ := h
  refine (bhold w0.heap.size gb most vb L p w h1 (hr.below h2.bel) hm).mono ?_
  rintro e w' ⟨rfl, v', g1, g2, g3, -⟩
  exact ⟨rfl, StB.of_buf h1 h2 h3 h4 h5 h6 g1 g2 g3⟩
theorem st_hold_r (p : EP) (h : StB w0 w gb gr most L hs bx ob) (hG : Good hs) (hr : Rd w0 p.b p.e.f5) (hb : Byt p.e) (hm : most ≤ 16) :
    Calls Try.prog 18 #[.pointer (some ⟨gr, 0, none⟩), enV p] w fun e w' => ∃ hs', e = .returned (.int .i64 (holdK most (hs.map (·.e)) p.e)) ∧ StB w0 w' gb gr most L hs' bx ob ∧ Good hs' ∧ (holdL most (hs.map (·.e)) p.e).Perm (hs'.map (·.e)) := by
  obtain ⟨vb, vr, h1, h2, h3, h4, h5, h6⟩ := h
  have stay : ∀ (e : Ending) (W : World) (k : Int), k = holdK most (hs.map (·.e)) p.e → k ≠ 0 → e = .returned (.int .i64 k) → Below w.heap.size w W → ∃ hs', e = .returned (.int .i64 (holdK most (hs.map (·.e)) p.e)) ∧ StB w0 W gb gr most L hs' bx ob ∧ Good hs' ∧ (holdL most (hs.map (·.e)) p.e).Perm (hs'.map (·.e)) := fun e W k hk h0 he hb => by
    refine ⟨hs, by rw [he, hk], StB.below ⟨vb, vr, h1, h2, h3, h4, h5, h6⟩ hb, hG, ?_⟩
    rw [holdL, if_neg (by rw [← hk]; exact h0)]
  obtain ⟨A, c, hv⟩ := h2.row.form
  by_cases hR : rightE p.e = true
  · by_cases hy : ∃ q ∈ hs, keyE q.e = keyE p.e
    · subst hv
      refine (rhold_found gr _ most A c hs p w0 w h2 rfl (by have := hG.len; omega) (hr.below h2.bel) hR hy hb hG.byt hG.rights).mono ?_
      rintro e w' ⟨⟨q, hq, hk, he⟩, hb⟩
      have hq' : q.e ∈ hs.map (·.e) := List.mem_map.2 ⟨q, hq, rfl⟩
      refine stay e w' _ ?_ ?_ he hb
      · rw [holdK, if_pos hR, fnd_some hG.nodup hq' hk]
      · split <;> decide
    · have hno : ∀ q ∈ hs, keyE q.e ≠ keyE p.e := fun q hq e => hy ⟨q, hq, e⟩
      have hno' : ∀ q ∈ hs.map (·.e), keyE q ≠ keyE p.e := fun q hq e => by
        obtain ⟨q', hq', rfl⟩ := List.mem_map.1 hq
        exact hno q' hq' e
      have hf := fnd_none.2 hno'
      have hll : (hs.map (·.e)).length = hs.length := List.length_map _
      by_cases hfull : most ≤ hs.length
      · subst hv
        refine (rhold_full gr _ most A c hs p w0 w h2 rfl (by have := hG.len; omega) (hr.below h2.bel) hR hno hfull).mono ?_
        rintro e w' ⟨he, hb⟩
        refine stay e w' 3 ?_ (by decide) he hb
        rw [holdK, if_pos hR, hf]
        simp only
        rw [if_pos (by omega)]
      · have hk0 : holdK most (hs.map (·.e)) p.e = 0 := by
          rw [holdK, if_pos hR, hf]
          simp only
          rw [if_neg (by omega)]
        have fin : ∀ (e : Ending) (W : World), e = .returned (.int .i64 0) ∧ RHoldP w0 w gr most hs p W → ∃ hs', e = .returned (.int .i64 (holdK most (hs.map (·.e)) p.e)) ∧ StB w0 W gb gr most L hs' bx ob ∧ Good hs' ∧ (holdL most (hs.map (·.e)) p.e).Perm (hs'.map (·.e)) := by
          rintro e W ⟨rfl, k, i1, i2, i3, v', i4, i5, i6⟩
          obtain ⟨j1, j2⟩ := hG.ins i1 i2 i3 hb hR hno (by omega)
          exact ⟨_, by rw [hk0], StB.of_ref h1 h2 h3 h4 h5 h6 i4 i5 (fun k hk => .inr (i6 k hk)), j1, by rw [holdL, if_pos hk0]; exact j2⟩
        rcases h2.row.slice with ⟨hv1, hv2⟩ | ⟨g, cap, cur, hv1, _⟩
        · subst hv1 hv2
          exact (rhold_nil gr most p w0 w h2 hr hR (by simpa using hfull)).mono fin
        · subst hv1
          exact (rhold_ok gr _ g cap most hs p w0 w h2 rfl (by have := hG.len; omega) hr hR hno hfull).mono fin
  · have hR : rightE p.e = false := by simpa using hR
    refine (rhold_bad gr vr p w (hr.below h2.bel) hR).mono ?_
    rintro e w' ⟨he, hb⟩
    refine stay e w' 1 ?_ (by decide) he hb
    rw [holdK, if_neg (by rw [hR]; decide)]
/-! ### Take -/
def TkP (L : List En) (k : Ky) (is : Bool) (f : En) (M : List En) : Prop := (is = true ∧ keyE f = k ∧ (f :: M).Perm L) ∨ (is = false ∧ f = zEn ∧ M = L ∧ ∀ q ∈ L, keyE q ≠ k)
theorem TkP.same {k : Ky} {is is' : Bool} {f f' : En} {M M' : List En} (hn : (L.map keyE).Nodup) (h : TkP L k is f M) (h' : TkP L k is' f' M') : is = is' ∧ f = f' ∧ M.Perm M' := by
  rcases h with ⟨h1, h2, h3⟩ | ⟨h1, h2, h3, h4⟩
  · have hf : f ∈ L := h3.mem_iff.1 List.mem_cons_self
    rcases h' with ⟨g1, g2, g3⟩ | ⟨g1, g2, g3, g4⟩
    · have hf' : f' ∈ L := g3.mem_iff.1 List.mem_cons_self
      have he : f = f' := by
        have e1 := fnd_some hn hf h2
        have e2 := fnd_some hn hf' g2
        exact Option.some.inj (e1.symm.trans e2)
      subst he
      exact ⟨by rw [h1, g1], rfl, (List.perm_cons f).1 (h3.trans g3.symm)⟩
    · exact absurd h2 (g4 f hf)
  · rcases h' with ⟨g1, g2, g3⟩ | ⟨g1, g2, g3, g4⟩
    · exact absurd g2 (h4 f' (g3.mem_iff.1 List.mem_cons_self))
    · exact ⟨by rw [h1, g1], by rw [h2, g2], by rw [h3, g3]⟩
theorem st_take_b (x y : Int) (h : StB w0 w gb gr most L hs bx ob) :
    Calls Try.prog 15 #[.pointer (some ⟨gb, 0, none⟩), .int .i64 x, .int .i64 y] w fun e w' => ∃ (is : Bool) (f : EP) (M : List En), e = .returned (.tuple #[enV f, .bool is]) ∧ TkP L (x, y) is f.e M ∧ StB w0 w' gb gr most M hs bx ob ∧ Own w' w0.heap.size f.b f.e.f5 := by
  obtain ⟨vb, vr, h1, h2, h3, h4, h5, h6⟩ := h
  by_cases hy : ∃ e ∈ L, keyE e = (x, y)
  · refine (btake w0.heap.size gb most vb L x y w h1 hy).mono ?_
    rintro e w' ⟨f, M, v', rfl, g1, g2, g3, g4, g5, g6⟩
    exact ⟨true, f, M, rfl, .inl ⟨rfl, g1, g3⟩, StB.of_buf h1 h2 h3 h4 h5 h6 g2 g5 (fun k hk => .inl (g6 k hk)), g4⟩
  · have hno : ∀ e ∈ L, keyE e ≠ (x, y) := fun e he hk => hy ⟨e, he, hk⟩
    refine (btake_none w0.heap.size gb most vb L x y w h1 hno).mono ?_
    rintro e w' ⟨rfl, hb⟩
    exact ⟨false, zEP, L, rfl, .inr ⟨rfl, rfl, rfl, hno⟩, StB.below ⟨vb, vr, h1, h2, h3, h4, h5, h6⟩ hb, Own.nil' _ _⟩
theorem st_take_r (x y : Int) (h : StB w0 w gb gr most L hs bx ob) (hG : Good hs) :
    Calls Try.prog 19 #[.pointer (some ⟨gr, 0, none⟩), .int .i64 x, .int .i64 y] w fun e w' => ∃ (is : Bool) (f : EP) (hs' : List EP), e = .returned (.tuple #[enV f, .bool is]) ∧ TkP (hs.map (·.e)) (x, y) is f.e (hs'.map (·.e)) ∧ Good hs' ∧ StB w0 w' gb gr most L hs' bx ob ∧ Rd w0 f.b f.e.f5 ∧ Fr w w' (fun k => k = gr) ∧ (∀ (b : Value) (l : List Int), Own w w0.heap.size b l → Own w' w0.heap.size b l) := by
  obtain ⟨vb, vr, h1, h2, h3, h4, h5, h6⟩ := h
  obtain ⟨A, c, hv⟩ := h2.row.form
  by_cases hy : ∃ p ∈ hs, keyE p.e = (x, y)
  · have hA : ∃ g cap, vr = .slice (some ⟨g, 0, none⟩) hs.length cap := by
      rcases h2.row.slice with ⟨_, h⟩ | ⟨g, cap, cur, h, _⟩
      · obtain ⟨p, hp, _⟩ := hy
        rw [h] at hp
        simp at hp
      · exact ⟨g, cap, h⟩
    obtain ⟨g, cap, rfl⟩ := hA
    refine (rtake_some gr _ g cap most hs x y w0 w h2 rfl (by have := hG.len; omega) hy).mono ?_
    rintro e w' ⟨i, p, rfl, i1, i2, v', i3, i4, i5⟩
    obtain ⟨j1, j2⟩ := drop_one i1
    exact ⟨true, p, _, rfl, .inl ⟨rfl, i2, (by have h := List.Perm.map (fun x : EP => x.e) j1; rw [List.map_cons] at h; exact h)⟩, hG.sub j2, StB.of_ref h1 h2 h3 h4 h5 h6 i3 i4 (fun k hk => .inr (i5 k hk)), h2.rd p (List.mem_of_getElem? i1), i4, fun b l ho => ho.besideR h2 i4⟩
  · have hno : ∀ p ∈ hs, keyE p.e ≠ (x, y) := fun e he hk => hy ⟨e, he, hk⟩
    subst hv
    refine (rtake_none gr _ most A c hs x y w0 w h2 rfl (by have := hG.len; omega) hno).mono ?_
    rintro e w' ⟨rfl, hb⟩
    exact ⟨false, zEP, hs, rfl, .inr ⟨rfl, rfl, rfl, fun q hq => by obtain ⟨q', hq', rfl⟩ := List.mem_map.1 hq; exact hno q' hq'⟩, hG, StB.below ⟨vb, _, h1, h2, h3, h4, h5, h6⟩ hb, Rd.nil _, Fr.ofBelow _ hb, fun b l ho => ho.below hb⟩
/-! ### Run -/
def RnP (L : List En) (x idx : Int) (os M : List En) : Prop := (os ++ M).Perm L ∧ (∀ (i : Nat) (o : En), os[i]? = some o → keyE o = (x, idx + i)) ∧ ∀ q ∈ M, keyE q ≠ (x, idx + os.length)
theorem RnP.le {x idx : Int} {os os' M M' : List En} (h : RnP L x idx os M) (h' : RnP L x idx os' M') : os'.length ≤ os.length := by
  refine Nat.le_of_not_lt (fun hlt => ?_)
  obtain ⟨o, ho⟩ : ∃ o, os'[os.length]? = some o := ⟨_, List.getElem?_eq_getElem hlt⟩
  have hk := h'.2.1 _ o ho
  have hm : o ∈ L := h'.1.mem_iff.1 (List.mem_append.2 (.inl (List.mem_of_getElem? ho)))
  rcases List.mem_append.1 (h.1.mem_iff.2 hm) with hm | hm
  · obtain ⟨i, hi, he⟩ := List.mem_iff_getElem.1 hm
    have := h.2.1 i o (by rw [List.getElem?_eq_getElem hi, he])
    rw [hk] at this
    simp only [Prod.mk.injEq, true_and] at this
    omega
  · exact h.2.2 o hm hk
theorem RnP.same {x idx : Int} {os os' M M' : List En} (hn : (L.map keyE).Nodup) (h : RnP L x idx os M) (h' : RnP L x idx os' M') : os = os' ∧ M.Perm M' := by
  have hl : os.length = os'.length := Nat.le_antisymm (h'.le h) (h.le h')
  have he : os = os' := by
    apply List.ext_getElem hl
    intro i h1 h2
    have k1 := h.2.1 i _ (List.getElem?_eq_getElem h1)
    have k2 := h'.2.1 i _ (List.getElem?_eq_getElem h2)
    have m1 : os[i] ∈ L := h.1.mem_iff.1 (List.mem_append.2 (.inl (List.getElem_mem h1)))
    have m2 : os'[i] ∈ L := h'.1.mem_iff.1 (List.mem_append.2 (.inl (List.getElem_mem h2)))
    exact Option.some.inj ((fnd_some hn m1 k1).symm.trans (fnd_some hn m2 k2))
  subst he
  exact ⟨rfl, (List.perm_append_left_iff os).1 (h.1.trans h'.1.symm)⟩
theorem st_run_b (x y : Int) (h : StB w0 w gb gr most L hs bx ob) :
    Calls Try.prog 11 #[.pointer (some ⟨gb, 0, none⟩), .int .i64 x, .int .i64 y] w fun e w' => ∃ (os : List EP) (M : List En) (A : Option Addr) (c : Nat), e = .returned (.slice A os.length c) ∧ RnP L x y (os.map (·.e)) M ∧ StB w0 w' gb gr most M hs bx ob ∧ PlR w' w0.heap.size (.slice A os.length c) os := by
  obtain ⟨vb, vr, h1, h2, h3, h4, h5, h6⟩ := h
  refine (brun w0.heap.size gb most vb L x y w h1).mono ?_
  rintro e w' ⟨os, M, A, c, v', rfl, g1, g2, g3, g4, g5, g6, g7, g8⟩
  refine ⟨os, M, A, c, rfl, ⟨g3, fun i o ho => ?_, by rw [List.length_map]; exact g5⟩, StB.of_buf h1 h2 h3 h4 h5 h6 g1 g6 (fun k hk => .inl (g8 k hk)), g2⟩
  rw [List.getElem?_map, Option.map_eq_some_iff] at ho
  obtain ⟨o', ho', rfl⟩ := ho
  exact g4 i o' ho'
theorem st_run_r (x y : Int) (h : StB w0 w gb gr most L hs bx ob) (hG : Good hs) :
    Calls Try.prog 20 #[.pointer (some ⟨gr, 0, none⟩), .int .i64 x, .int .i64 y] w fun e w' => ∃ (os hs' : List EP) (A : Option Addr) (c : Nat), e = .returned (.slice A os.length c) ∧ RnP (hs.map (·.e)) x y (os.map (·.e)) (hs'.map (·.e)) ∧ Good hs' ∧ StB w0 w' gb gr most L hs' bx ob ∧ HRow w' w0.heap.size (.slice A os.length c) os ∧ (∀ p ∈ os, p ∈ hs ∧ Rd w' p.b p.e.f5) ∧ (∀ (v : Value) (ps : List EP), PlR w w0.heap.size v ps → PlR w' w0.heap.size v ps) := by
  obtain ⟨vb, vr, h1, h2, h3, h4, h5, h6⟩ := h
  obtain ⟨A, c, rfl⟩ := h2.row.form
  refine (rrun_calls gr _ most A c hs x y w0 w h2 rfl (by have := hG.len; omega) hG.rights).mono ?_
  rintro e w' ⟨os, qs, A', c', v, rfl, g1, g2⟩
  have hpm := g2.pm.map (·.e)
  rw [List.map_append] at hpm
  refine ⟨os, qs, A', c', rfl, ⟨hpm, fun i o ho => ?_, fun q hq => ?_⟩, hG.sub g2.sub, StB.of_ref h1 h2 h3 h4 h5 h6 g2.r g2.fr g2.f2, g2.o, fun p hp => ?_, fun v ps hp => hp.besideR h2 g2.fr⟩
  · rw [List.getElem?_map, Option.map_eq_some_iff] at ho
    obtain ⟨o', ho', rfl⟩ := ho
    exact g2.key i o' ho'
  · obtain ⟨q', hq', rfl⟩ := List.mem_map.1 hq
    rw [List.length_map]
    exact g1 q' hq'
  · have hm : p ∈ hs := g2.pm.mem_iff.1 (List.mem_append.2 (.inl hp))
    exact ⟨hm, (h2.rd p hm).below g2.r.bel⟩
/-! ### Drop -/
theorem st_drop_b (x y : Int) (h : StB w0 w gb gr most L hs bx ob) :
    Calls Try.prog 21 #[.pointer (some ⟨gb, 0, none⟩), .int .i64 x, .int .i64 y] w fun e w' => e = .returned (.int .i64 ((L.length : Int) - (L.filter (fun e => !(delE x y e))).length)) ∧ StB w0 w' gb gr most (L.filter (fun e => !(delE x y e))) hs bx ob := by
  obtain ⟨vb, vr, h1, h2, h3, h4, h5, h6⟩ := h
  refine (bdrop w0.heap.size gb most vb L x y w h1).mono ?_
  rintro e w' ⟨v', rfl, g1, g2, g3⟩
  exact ⟨rfl, StB.of_buf h1 h2 h3 h4 h5 h6 g1 g2 (fun k hk => .inl (g3 k hk))⟩
theorem st_drop_r (x y : Int) (h : StB w0 w gb gr most L hs bx ob) (hG : Good hs) :
    Calls Try.prog 22 #[.pointer (some ⟨gr, 0, none⟩), .int .i64 x, .int .i64 y] w fun e w' => ∃ hs', e = .returned (.int .i64 (((hs.map (·.e)).length : Int) - ((hs.map (·.e)).filter (fun e => !(delE x y e))).length)) ∧ StB w0 w' gb gr most L hs' bx ob ∧ Good hs' ∧ (hs.map (·.e)).filter (fun e => !(delE x y e)) = hs'.map (·.e) := by
  obtain ⟨vb, vr, h1, h2, h3, h4, h5, h6⟩ := h
  obtain ⟨A, c, rfl⟩ := h2.row.form
  refine (rdrop_calls gr _ most A c hs x y w0 w h2 rfl (by have := hG.len; omega)).mono ?_
  rintro e w' ⟨rfl, v', g1, g2, g3⟩
  have hmf : (hs.map (fun p => p.e)).filter (fun e => !(delE x y e)) = (hs.filter (kpP x y)).map (fun p => p.e) := by rw [List.filter_map]; rfl
  exact ⟨hs.filter (kpP x y), by rw [hmf, List.length_map, List.length_map], StB.of_ref h1 h2 h3 h4 h5 h6 g1 g2 (fun k hk => .inr (g3 k hk)), hG.sub List.filter_sublist, hmf⟩
/-! ### First, All, Len -/
theorem st_first_b (h : StZ w0 w gb gr most (hs.map (·.e)) hs) (hG : Good hs) :
    Calls Try.prog 14 #[.pointer (some ⟨gb, 0, none⟩)] w fun e w' => ∃ f : EP, e = .returned (.tuple #[enV f, .bool (!hs.isEmpty)]) ∧ f.e = (hs.map (·.e)).headD zEn ∧ Own w' w0.heap.size f.b f.e.f5 ∧ Below w.heap.size w w' := by
  obtain ⟨vb, vr, h1, h2, h3⟩ := h
  cases hs with
  | nil =>
    refine (bfirst_none w0.heap.size gb most vb w h1).mono ?_
    rintro e w' ⟨rfl, hb⟩
    exact ⟨zEP, rfl, rfl, Own.nil' _ _, hb⟩
  | cons a t =>
    refine (bfirst w0.heap.size gb most vb _ w h1 (by simp)).mono ?_
    rintro e w' ⟨q, rfl, g1, g2, g3, g4⟩
    refine ⟨q, rfl, ?_, g3, g4⟩
    show q.e = a.e
    have hs1 := hG.srt
    have hn1 := hG.nodup
    simp only [List.map_cons] at hs1 hn1 g1 g2
    rcases List.mem_cons.1 g1 with h | h
    · exact h
    · exfalso
      have k1 := (List.pairwise_cons.1 hs1).1 q.e h
      have k2 := g2 a.e List.mem_cons_self
      have k3 := ltK.eq k2 k1
      exact (List.nodup_cons.1 hn1).1 (by rw [k3]; exact List.mem_map.2 ⟨q.e, h, rfl⟩)
theorem st_first_r {L : List En} (h : StZ w0 w gb gr most L hs) (hG : Good hs) :
    Calls Try.prog 23 #[.pointer (some ⟨gr, 0, none⟩)] w fun e w' => ∃ f : EP, e = .returned (.tuple #[enV f, .bool (!hs.isEmpty)]) ∧ f.e = (hs.map (·.e)).headD zEn ∧ Rd w0 f.b f.e.f5 ∧ Below w.heap.size w w' := by
  obtain ⟨vb, vr, h1, h2, h3⟩ := h
  obtain ⟨A, c, rfl⟩ := h2.row.form
  cases hs with
  | nil =>
    refine (rfirst_none gr c most A [] w0 w h2).mono ?_
    rintro e w' ⟨rfl, hb⟩
    exact ⟨zEP, rfl, rfl, Rd.nil _, hb⟩
  | cons a t =>
    refine (rfirst_some gr _ c most A (a :: t) a w0 w h2 rfl rfl).mono ?_
    rintro e w' ⟨rfl, hb⟩
    exact ⟨a, rfl, rfl, h2.rd a List.mem_cons_self, hb⟩
end
/-- Lists of entries that read alike. -/
theorem fall_gen (w : World) (A A' : Option Addr) (n n' c c' : Nat) (l l' : List En) (hn : l.length = n) (hn' : l'.length = n') (hc : n ≤ c) (hc' : n' ≤ c') (hC : Kd.C X.k33 w A n l) (hC' : Kd.C X.k33 w A' n' l') (he : l = l') (hl : l.length ≤ 100000) (hb : ∀ e ∈ l, e.f5.length ≤ 1100) :
    Calls Try.prog 12 #[.slice A n c, .slice A' n' c'] w fun e w' => e = .returned (.bool true) ∧ Below w.heap.size w w' := by
  subst he hn hn'
  exact X.cachetteref06_All.calls 200000 A c l A' c' l true w hC hc hC' hc' (all_f _ hl hb)
theorem HRow.reads {w : World} {base : Nat} {v : Value} {ps : List EP} (h : HRow w base v ps) (hb : ∀ p ∈ ps, Rd w p.b p.e.f5) : ∃ A c, v = .slice A ps.length c ∧ ps.length ≤ c ∧ Kd.C X.k33 w A (ps.map (·.e)).length (ps.map (·.e)) := by
  rcases h.slice with ⟨rfl, rfl⟩ | ⟨g, cap, cur, rfl, h2, h3, h4, h5, h6, h7⟩
  · exact ⟨none, 0, rfl, Nat.le_refl _, Kd.C_nil _ _⟩
  · refine ⟨_, _, rfl, h4, ⟨rfl, by rw [List.length_map]; exact Nat.le_trans h4 h5, fun hp => ⟨_, rfl, fun j x hx => ?_⟩⟩⟩
    rw [List.getElem?_map, Option.map_eq_some_iff] at hx
    obtain ⟨p, hp', rfl⟩ := hx
    obtain ⟨A, c, hv, hl, hC⟩ := hb p (List.mem_of_getElem? hp')
    injection hv with e1 e2 e3
    refine ⟨enC p, rfl, ?_, fun q u hu => ?_⟩
    · exact X.k33_mk w p.e (A6 := p.A) (c6 := p.c) (by rw [e3]; exact hl) (by rw [e1]; exact hC)
    · rw [Addr.add_lit, Nat.zero_add, blk_cell h3]
      exact cur_at h7 hp' q u hu
/-- All of a row of the buffer's and one of the reference's. -/
theorem fall_mix (w : World) (b1 b2 : Nat) (A A' : Option Addr) (c c' n' : Nat) (os hs : List EP) (h : PlR w b1 (.slice A os.length c) os) (h' : HRow w b2 (.slice A' n' c') hs) (hr : ∀ p ∈ hs, Rd w p.b p.e.f5) (he : os.map (·.e) = hs.map (·.e)) (hn : n' = hs.length) (hl : hs.length ≤ 100000) (hb : ∀ p ∈ hs, p.e.f5.length ≤ 1100) :
    Calls Try.prog 12 #[.slice A os.length c, .slice A' n' c'] w fun e w' => e = .returned (.bool true) ∧ Below w.heap.size w w' := by
  subst hn
  obtain ⟨A1, c1, e1, hc1, hC1⟩ := h.reads
  injection e1 with e2 _ e3
  subst e2 e3
  obtain ⟨A2, c2, e1, hc2, hC2⟩ := h'.reads hr
  injection e1 with e2 _ e3
  subst e2 e3
  rw [List.length_map] at hC1 hC2
  exact fall_gen w A A' _ _ c c' _ _ (List.length_map _) (List.length_map _) hc1 hc2 hC1 hC2 he (by rw [he, List.length_map]; exact hl) (fun e hm => by
    rw [he] at hm
    obtain ⟨p, hp, rfl⟩ := List.mem_map.1 hm
    exact hb p hp)
end Go.Proofs.Ytekhpogigndlkaa.K

namespace Go.Proofs.Ytekhpogigndlkaa.K
open Go.RowKit Go.Deep Go.ChangeShapes Go.WideShapes Go.ChangeAt Go.Proofs.YtekhpogigndlkaaW.PrintWords Go.Proofs.YtekhpogigndlkaaW.PrintLast Go.Proofs.YtekhpogigndlkaaW.PrintMore
set_option linter.unusedVariables false

abbrev Bo := X.S52
def ORd (W : World) (v : Value) (l : List Bo) : Prop := ∃ A c, v = .slice A l.length c ∧ l.length ≤ c ∧ Kd.C X.k52 W A l.length l
theorem op_at {W : World} {A : Option Addr} {l : List Bo} (h : Kd.C X.k52 W A l.length l) {i : Nat} (hi : i < l.length) :
    ∃ (ad : Addr) (o : Bo) (p : EP), A = some ad ∧ o ∈ l ∧ p.e = o.f3 ∧ Rd W p.b p.e.f5 ∧ W.cell? (ad.add (i * 11)) = some (.int .i64 o.f0) ∧ W.cell? ⟨(ad.add (i * 11)).block, (ad.add (i * 11)).off + 1, none⟩ = some (.int .i64 o.f1) ∧ W.cell? ⟨(ad.add (i * 11)).block, (ad.add (i * 11)).off + 2, none⟩ = some (.int .i64 o.f2) ∧ W.cell? ⟨(ad.add (i * 11)).block, (ad.add (i * 11)).off + 3, none⟩ = some (.int .i64 p.e.f0) ∧ W.cell? ⟨(ad.add (i * 11)).block, (ad.add (i * 11)).off + 4, none⟩ = some (.int .i64 p.e.f1) ∧ W.cell? ⟨(ad.add (i * 11)).block, (ad.add (i * 11)).off + 5, none⟩ = some (.int .u64 p.e.f2) ∧ W.cell? ⟨(ad.add (i * 11)).block, (ad.add (i * 11)).off + 6, none⟩ = some (.int .i64 p.e.f3.f0) ∧ W.cell? ⟨(ad.add (i * 11)).block, (ad.add (i * 11)).off + 7, none⟩ = some (.int .i64 p.e.f3.f1) ∧ W.cell? ⟨(ad.add (i * 11)).block, (ad.add (i * 11)).off + 8, none⟩ = some (.int .i64 p.e.f4) ∧ W.cell? ⟨(ad.add (i * 11)).block, (ad.add (i * 11)).off + 9, none⟩ = some (.slice p.A p.e.f5.length p.c) ∧ W.cell? ⟨(ad.add (i * 11)).block, (ad.add (i * 11)).off + 10, none⟩ = some (.int .u64 p.e.f6) := by
  obtain ⟨ad, A9, c9, e, x0, x1, x2, x3, x4, x5, x6, x7, x8, x9, x10, hc, hC⟩ := X.at_T52 h (i : Int) (by omega) (by omega)
  rw [Int.toNat_natCast] at x0 x1 x2 x3 x4 x5 x6 x7 x8 x9 x10
  refine ⟨ad, X.rd_T52 l (i : Int), ⟨(X.rd_T52 l (i : Int)).f3, A9, c9⟩, e, ?_, rfl, ⟨A9, c9, rfl, hc, hC⟩, x0, x1, x2, x3, x4, x5, x6, x7, x8, x9, x10⟩
  unfold X.rd_T52
  rw [Int.toNat_natCast, List.getD_eq_getElem?_getD, List.getElem?_eq_getElem hi]
  exact List.getElem_mem hi
theorem light_l (l : List Bo) (hl : l.length ≤ 60) : ∀ (k n : Nat), l.length < n + k → n ≤ l.length → ∃ r, X.cachettelaw08_light.l0 k l (n : Int) = some r
  | 0, n, h1, h2 => by omega
  | k + 1, n, h1, h2 => by
    unfold X.cachettelaw08_light.l0
    by_cases h : n < l.length
    · rw [if_pos (show (n : Int) < (l.length : Int) by omega), if_pos (show (0 : Int) ≤ n by omega)]
      split
      · exact ⟨_, rfl⟩
      · rw [w64 (x := (n : Int) + 1) (y := ((n + 1 : Nat) : Int)) (by simp) (by omega)]
        exact light_l l hl k (n + 1) (by omega) (by omega)
    · rw [if_neg (by omega)]
      exact ⟨_, rfl⟩
theorem light_calls (w : World) (A : Option Addr) (c : Nat) (l : List Bo) (hC : Kd.C X.k52 w A l.length l) (hc : l.length ≤ c) :
    ∃ r : Bool, (r = true → l.length ≤ 60) ∧ Calls Try.prog 17 #[.slice A l.length c] w fun e w' => e = .returned (.bool r) ∧ Below w.heap.size w w' := by
  by_cases hl : (l.length : Int) > 60
  · refine ⟨false, fun h => Bool.noConfusion h, (X.cachettelaw08_light.calls 100 A c l false w hC hc ?_).mono ?_⟩
    · rw [X.cachettelaw08_light.f, if_pos hl]
    · rintro e w' ⟨h1, h2⟩
      exact ⟨h1, by first | exact h2 | exact h2.below⟩
  · obtain ⟨r, hr⟩ := light_l l (by omega) 100 0 (by omega) (Nat.zero_le _)
    refine ⟨r, fun _ => by omega, (X.cachettelaw08_light.calls 100 A c l r w hC hc ?_).mono ?_⟩
    · rw [X.cachettelaw08_light.f, if_neg hl]
      exact hr
    · rintro e w' ⟨h1, h2⟩
      exact ⟨h1, by first | exact h2 | exact h2.below⟩
def boC (o : Bo) (p : EP) : List Value := [.int .i64 o.f0, .int .i64 o.f1, .int .i64 o.f2] ++ enC p
theorem open_bo {H : Type} {enc : TypeId × Value → H} {w : World} {base : Nat} {held : Bool} {fuel : Nat} {x0 x1 x2 x3 x4 x5 x6 x7 x8 x9 x10 : Value} {y : DataW H × List MemPlace}
    (hf : DataW.trod enc Try.prog w base (fun _ => true) held fuel 52 [x0, x1, x2, x3, x4, x5, x6, x7, x8, x9, x10] = some y) :
    ∃ (o : Bo) (p : EP), p.e = o.f3 ∧ [x0, x1, x2, x3, x4, x5, x6, x7, x8, x9, x10] = boC o p ∧ Rd w p.b p.e.f5 ∧ (∀ x ∈ p.e.f5, 0 ≤ x ∧ x ≤ 255) := by
  obtain ⟨xs, n, _, _, _, hlen, hF⟩ := DataW.trod_struct Try.underlying52 hf
  have e1 : Try.prog.cellsOf 3 = 1 := by kernel_rfl
  have e2 : Try.prog.cellsOf 33 = 8 := by kernel_rfl
  have hl4 : xs.length = 4 := hlen
  have g : ∀ i, i < 4 → ∃ y, xs[i]? = some y := fun i hi => ⟨_, List.getElem?_eq_getElem (by omega)⟩
  obtain ⟨y0, g0⟩ := g 0 (by omega)
  obtain ⟨y1, g1⟩ := g 1 (by omega)
  obtain ⟨y2, g2⟩ := g 2 (by omega)
  obtain ⟨y3, g3⟩ := g 3 (by omega)
  have f0 : DataW.trod enc Try.prog w base (fun _ => true) held n 3 (([x0, x1, x2, x3, x4, x5, x6, x7, x8, x9, x10].drop 0).take (Try.prog.cellsOf 3)) = xs[0]? := hF 0 _ rfl
  have f1 : DataW.trod enc Try.prog w base (fun _ => true) held n 3 (([x0, x1, x2, x3, x4, x5, x6, x7, x8, x9, x10].drop 1).take (Try.prog.cellsOf 3)) = xs[1]? := hF 1 _ rfl
  have f2 : DataW.trod enc Try.prog w base (fun _ => true) held n 3 (([x0, x1, x2, x3, x4, x5, x6, x7, x8, x9, x10].drop 2).take (Try.prog.cellsOf 3)) = xs[2]? := hF 2 _ rfl
  have f3 : DataW.trod enc Try.prog w base (fun _ => true) held n 33 (([x0, x1, x2, x3, x4, x5, x6, x7, x8, x9, x10].drop 3).take (Try.prog.cellsOf 33)) = xs[3]? := hF 3 _ rfl
  rw [g0] at f0
  rw [g1] at f1
  rw [g2] at f2
  rw [g3] at f3
  simp only [e1, e2, List.drop_zero, List.drop_succ_cons, List.take_succ_cons, List.take_zero] at f0 f1 f2 f3
  obtain ⟨a0, b0, _, _⟩ := DataW.trod_int Try.underlying3 f0
  obtain ⟨a1, b1, _, _⟩ := DataW.trod_int Try.underlying3 f1
  obtain ⟨a2, b2, _, _⟩ := DataW.trod_int Try.underlying3 f2
  obtain ⟨p, hp, hr, hb⟩ := open_en f3
  simp only [List.cons.injEq, and_true] at b0 b1 b2
  subst b0 b1 b2
  refine ⟨⟨a0, a1, a2, p.e⟩, p, rfl, ?_, hr, hb⟩
  rw [boC, ← hp]
  rfl
theorem open_scr {H : Type} {enc : TypeId × Value → H} {w : World} {base : Nat} {held : Bool} {d : DataW H} {p : List MemPlace} {a0 : Option Addr} {len0 cap0 : Nat} (h : DataW.Trod enc Try.prog w base (fun _ => true) held 46 (.slice a0 len0 cap0) d p) :
    ∃ l : List Bo, ORd w (.slice a0 len0 cap0) l ∧ ∀ o ∈ l, ∀ x ∈ o.f3.f5, 0 ≤ x ∧ x ≤ 255 := by
  obtain ⟨fuel, hf⟩ := h
  rcases open_slice Try.underlying46 hf with ⟨hcs, _⟩ | ⟨a, len, cap, m, n, D, Pl, hcs, hb, hl, hm, hmm, hx, hi⟩
  · simp [Value.cells] at hcs
    obtain ⟨rfl, rfl, rfl⟩ := hcs
    exact ⟨[], ⟨none, 0, rfl, Nat.le_refl _, Kd.C_nil _ _⟩, fun e he => by simp at he⟩
  · simp [Value.cells] at hcs
    obtain ⟨rfl, rfl, rfl⟩ := hcs
    have hC : Try.prog.cellsOf 52 = 11 := by kernel_rfl
    have H1 : ∀ i, ∃ q : Bo × EP, i < len0 → (∀ j u, (boC q.1 q.2)[j]? = some u → w.cell? (a.add (i * 11 + j)) = some u) ∧ q.2.e = q.1.f3 ∧ Rd w q.2.b q.2.e.f5 ∧ ∀ x ∈ q.2.e.f5, 0 ≤ x ∧ x ≤ 255 := by
      intro i
      by_cases him : i < len0
      · have hm' : i < m := by rw [hmm]; split <;> omega
        obtain ⟨cs', hc, ht'⟩ := hi i hm'
        rw [hC] at hc
        obtain ⟨_, hcl, hat⟩ := World.cells?_some hc
        match cs', hcl with
        | [x0, x1, x2, x3, x4, x5, x6, x7, x8, x9, x10], _ =>
          obtain ⟨o, q, he, hq, hr, hb⟩ := open_bo ht'
          refine ⟨(o, q), fun _ => ⟨fun j u hu => ?_, he, hr, hb⟩⟩
          rw [← hq] at hu
          have hj : j < 11 := (List.getElem?_eq_some_iff.1 hu).1
          rw [← Go.Deep.add_add, hat j hj]
          exact hu
      · exact ⟨(⟨0, 0, 0, ⟨0, 0, 0, ⟨0, 0⟩, 0, [], 0⟩⟩, ⟨⟨0, 0, 0, ⟨0, 0⟩, 0, [], 0⟩, none, 0⟩), fun h => absurd h him⟩
    obtain ⟨f, hf⟩ := Classical.axiomOfChoice H1
    refine ⟨(List.range len0).map (fun i => (f i).1), ⟨some a, cap0, by simp, by simpa using hl, ⟨rfl, ?_, fun hp => ?_⟩⟩, fun e he => ?_⟩
    · simp only [List.length_map, List.length_range]
      exact Nat.le_trans hl hm
    · refine ⟨a, rfl, fun j q hj => ?_⟩
      have hjl : j < len0 := by
        have := (List.getElem?_eq_some_iff.1 hj).1
        simpa using this
      rw [List.getElem?_map, List.getElem?_range hjl] at hj
      simp at hj
      subst hj
      obtain ⟨h1, he, h2, _⟩ := hf j hjl
      obtain ⟨A, c, hv, hc, hCC⟩ := h2
      injection hv with e1 e2 e3
      refine ⟨boC (f j).1 (f j).2, rfl, ?_, fun i u hu => h1 i u hu⟩
      have := X.k52_mk w (f j).1 (A9 := (f j).2.A) (c9 := (f j).2.c) (by rw [← he, e3]; exact hc) (by rw [← he, e1]; exact hCC)
      rw [boC, enC, he]
      exact this
    · obtain ⟨i, hi', rfl⟩ := List.mem_map.1 he
      obtain ⟨_, he, _, hb⟩ := hf i (List.mem_range.1 hi')
      rw [← he]
      exact hb
end Go.Proofs.Ytekhpogigndlkaa.K

/- script.Quote. -/
import Derived.Test.YtoajcijjkkkaaaaGreatDoorScE
namespace Go.Proofs.YtoajcijjkkkaaaaGreatDoor.K
open Go.RowKit Go.Proofs.YtoajcijjkkkaaaaGreatDoorW.PrintWords Go.Proofs.YtoajcijjkkkaaaaGreatDoorW.PrintLast Go.Proofs.YtoajcijjkkkaaaaGreatDoorW.PrintMore
set_option linter.unusedVariables false
set_option linter.unusedSimpArgs false

theorem lit_C (W : World) (xs : List Int) (h : xs.length ≤ 1000) : Kd.C B (W.alloc (.cells (nums .u8 xs).toArray 5)) (some ⟨W.heap.size, 0, none⟩) xs.length xs := by
  refine Kd.C_of_reads (d := (0 : Int)) (h1 := fun _ => rfl) ⟨rfl, by omega, fun _ => ⟨_, rfl, fun j hj => ?_⟩⟩
  rw [add_plain, blk_cell (blk_new W (.cells (nums .u8 xs).toArray 5)) j]
  simp [nums, List.getD_eq_getElem?_getD, hj]
theorem lit_rd (W : World) (xs : List Int) (h : xs.length ≤ 1000) : Rd (W.alloc (.cells (nums .u8 xs).toArray 5)) (.slice (some ⟨W.heap.size, 0, none⟩) xs.length xs.length) xs :=
  ⟨_, _, rfl, Nat.le_refl _, lit_C W xs h⟩
theorem Own.alloc_ {w : World} {b : Nat} {v : Value} {l : List Int} (h : Own w b v l) (o : Obj) : Own (w.alloc o) b v l := Kd.R_alloc h o
theorem ni_app (a b : Bs) : ni (a ++ b) = ni a ++ ni b := by simp [ni]
theorem and_lo_all : ∀ x : Fin 256, bits .and .u8 (x.val : Int) 15 = ((x.val % 16 : Nat) : Int) := by decide +kernel
theorem and_lo (c : UInt8) : bits .and .u8 (c.toNat : Int) 15 = ((c.toNat % 16 : Nat) : Int) := and_lo_all ⟨c.toNat, c.toNat_lt⟩
theorem hex_at {P : Program} (t : TypeId) (ht : P.underlying t = some .string) (i : Nat) (hi : i < 16) (w : World) :
    (Instr.index t (.string ⟨#[48, 49, 50, 51, 52, 53, 54, 55, 56, 57, 97, 98, 99, 100, 101, 102]⟩) (.int .u8 (i : Int))).run P w = .ok (.int .u8 ((hexd i).toNat : Int)) w := by
  have h : ∀ j : Fin 16, ((⟨#[48, 49, 50, 51, 52, 53, 54, 55, 56, 57, 97, 98, 99, 100, 101, 102]⟩ : ByteArray).data.toList.getD j.val 0) = hexd j.val := by decide +kernel
  have h2 := h ⟨i, hi⟩
  rw [run_index_string (P := P) w t _ .u8 (i : Int) ht, dif_pos (by refine ⟨by omega, ?_⟩; show (i : Int) < 16; omega)]
  rw [← h2]
  simp only [Int.toNat_natCast]
  congr 3
  have hs : i < (⟨#[48, 49, 50, 51, 52, 53, 54, 55, 56, 57, 97, 98, 99, 100, 101, 102]⟩ : ByteArray).data.toList.length := hi
  rw [List.getD_eq_getElem?_getD, List.getElem?_eq_getElem hs]
  rfl

/-- A row of bytes of the call's own, not in block X. -/
abbrev OwnX (w : World) (base X : Nat) (v : Value) (l : List Int) : Prop := Kd.R B 5 w base (fun k => k ≠ X) v l
theorem OwnX.own {w : World} {base X : Nat} {v : Value} {l : List Int} (h : OwnX w base X v l) : Own w base v l := Kd.R_mono h (fun _ _ => trivial)
theorem ownX_of {w : World} {base X : Nat} {v : Value} {l : List Int} (h : Own w base v l) (hX : w.heap.size ≤ X) : OwnX w base X v l := Kd.R_mono (Kd.R_bound h) (fun k hk => by have := hk.2.2.1; omega)
theorem ownX_ne {w : World} {base X : Nat} {v : Value} {l : List Int} (h : OwnX w base X v l) : some X ≠ v.ownBlock := fun e => h.1 X e.symm rfl
section
variable {P : Program} {ops : Array Oper} {rest : List Oper} {o : Oper} {a : Act} {Q : Exit → Act → World → Prop} {Kc : Act → World → Prop} {w0 W : World}
/-- append of a literal just made. -/
theorem app_x (base X : Nat) (hgd : o.guard = none) (s x : Operand) (t : TypeId)
    (ho : o.op = .call { callee := .builtin .append, args := #[s, x], argTypes := #[t, t] }) (ht : P.underlying t = some (.slice 5))
    (hinfo : (P.info? 5).map (fun i => (i.zero, i.size, i.bytes)) = some (some (.int .u8 0), 1, 1))
    (v : Value) (xs ys : List Int) (hy : ys.length ≤ 1000) (hs : a.eval s = v) (hx : a.eval x = .slice (some ⟨W.heap.size, 0, none⟩) ys.length ys.length)
    (HO : OwnX W base X v xs) (hX : X < W.heap.size) (HB : Below base w0 W) (hbase : base ≤ W.heap.size) (hl : xs.length + ys.length ≤ 140737488355328)
    (h : ∀ v1 w1, OwnX w1 base X v1 (xs ++ ys) → Below base w0 w1 → w1.heap[X]? = W.heap[X]? → wpList P ops Q rest (a.put o.dst v1) w1) :
    wpList P ops Q (o :: rest) a (W.alloc (.cells (nums .u8 ys).toArray 5)) :=
  Kd.R_append_rows B base hgd s x t 5 (.int .u8 0) 1 ho ht hinfo rfl (by decide) (by omega) v xs ys _ _ _ (fun k => k ≠ X) (fun _ => False) hs hx (Kd.R_alloc HO _) (lit_C W ys hy) (fun _ _ h => h) (fun _ h => h.elim) (fun k hk => by simp only [World.size_alloc] at hk; omega) (HB.alloc hbase _) (by simp only [World.size_alloc]; omega) (by omega)
    (fun v1 w1 h1 h2 h3 _ => h v1 w1 h1 h2 ((h3.block X (by simp only [World.size_alloc]; omega) (ownX_ne HO)).trans (Below.heap_alloc W _ X hX)))
theorem app_x_step (base X : Nat) (hw : Region.wanted o (yielded ops a.tmps) = true) (s x : Operand) (t : TypeId)
    (ho : o.op = .call { callee := .builtin .append, args := #[s, x], argTypes := #[t, t] }) (ht : P.underlying t = some (.slice 5))
    (hinfo : (P.info? 5).map (fun i => (i.zero, i.size, i.bytes)) = some (some (.int .u8 0), 1, 1))
    (v : Value) (xs ys : List Int) (hy : ys.length ≤ 1000) (hs : a.eval s = v) (hx : a.eval x = .slice (some ⟨W.heap.size, 0, none⟩) ys.length ys.length)
    (HO : OwnX W base X v xs) (hX : X < W.heap.size) (HB : Below base w0 W) (hbase : base ≤ W.heap.size) (hl : xs.length + ys.length ≤ 140737488355328)
    (h : ∀ v1 w1, OwnX w1 base X v1 (xs ++ ys) → Below base w0 w1 → w1.heap[X]? = W.heap[X]? → Kc (a.put o.dst v1) w1) :
    if Region.wanted o (yielded ops a.tmps) = true then Oper.wp P o a (W.alloc (.cells (nums .u8 ys).toArray 5)) Kc Q else Kc (a.put o.dst undef) (W.alloc (.cells (nums .u8 ys).toArray 5)) :=
  Kd.R_append_rows_step B base hw s x t 5 (.int .u8 0) 1 ho ht hinfo rfl (by decide) (by omega) v xs ys _ _ _ (fun k => k ≠ X) (fun _ => False) hs hx (Kd.R_alloc HO _) (lit_C W ys hy) (fun _ _ h => h) (fun _ h => h.elim) (fun k hk => by simp only [World.size_alloc] at hk; omega) (HB.alloc hbase _) (by simp only [World.size_alloc]; omega) (by omega)
    (fun v1 w1 h1 h2 h3 _ => h v1 w1 h1 h2 ((h3.block X (by simp only [World.size_alloc]; omega) (ownX_ne HO)).trans (Below.heap_alloc W _ X hX)))
end
theorem cell_same {w w' : World} {b : Nat} (h : w'.heap[b]? = w.heap[b]?) (j : Nat) : w'.cell? ⟨b, j, none⟩ = w.cell? ⟨b, j, none⟩ := by
  unfold World.cell?
  rw [h]

set_option maxHeartbeats 4000000 in
theorem quote_calls (s : ByteArray) (hs : s.size ≤ 100000000) (w : World) :
    Calls Tryz.prog 22 #[.string s] w fun e w' => e = .returned (.string ⟨(quote s.data.toList).toArray⟩) ∧ Below w.heap.size w w' := by
  have kb := fun W => print_bytes (P := Tryz.prog) 9 64 5 Tryz.underlying9 Tryz.underlying64 Tryz.underlying5 s W
  have hus2 : (s.size : Int) ≤ 100000000 := by omega
  have HUS := Aside0.mk (ba_size s)
  have HB := Aside0.mk (Below.refl w.heap.size w)
  obtain ⟨U, hU⟩ : ∃ U, s.data.toList = U := ⟨_, rfl⟩
  have HUD := Aside0.mk hU
  rw [hU] at HUS
  rw [hU]
  clear hs hU
  go_enter Tryz.func22, Tryz.ntmps22
  go_upto_region 2 with (first
    | ((with_reducible refine gate_dst (N := 6) rfl ?_); go_must (((try (refine gate_guard (by rfl) ?_; dsimp only)); refine lit_bytes (w0 := w) (w).heap.size 6 ?hg ?hd ([34]) ?hr ?hm HB.out HB.out.size ?_; (case hd => rfl); (case hg => rfl); (case hr => first | (go_simp; done) | (go_simp; rfl)); (case hm => simp); intro vHL6 wHL6 ho hb hbw; have HL6 := Aside0.mk ho; clear HB; have HB := Aside0.mk hb; clear ho hb hbw))))
  obtain ⟨w1, hw1⟩ : ∃ w1, wHL6 = w1 := ⟨_, rfl⟩
  subst hw1
  go_wp2
  obtain ⟨A6, c6, e6⟩ := Kd.R_slice HL6.out
  subst e6
  obtain ⟨B1, hB1⟩ : ∃ B1, wHL6.heap.size = B1 := ⟨_, rfl⟩
  have hC : ∀ j, j < U.length → (Lib.bytesWorld wHL6 5 s).cell? ⟨B1, j, none⟩ = some (.int .u8 (U.getD j 0).toNat) := by
    intro j hj
    rw [← hB1, Lib.bytesWorld_cell wHL6 5 s j (by rw [HUS.out]; exact hj), HUD.out]
  have hbw : Below wHL6.heap.size wHL6 (Lib.bytesWorld wHL6 5 s) := bytes_below (Below.refl _ _) (Nat.le_refl _) _ _
  replace HL6 : Aside0 (OwnX (Lib.bytesWorld wHL6 5 s) w.heap.size B1 (.slice A6 [34].length c6) (ni [34])) := Aside0.mk (Kd.R_below (ownX_of HL6.out (by omega)) hbw)
  replace HB := Aside0.mk (HB.out.trans (hbw.mono HB.out.size))
  have hB2 : B1 < (Lib.bytesWorld wHL6 5 s).heap.size := by rw [Lib.bytesWorld_size]; omega
  rw [hB1]
  obtain ⟨W2, hW2⟩ : ∃ W2, Lib.bytesWorld wHL6 5 s = W2 := ⟨_, rfl⟩
  obtain ⟨gc, hgc⟩ : ∃ gc, grownCap wHL6 s.size 0 5 = gc := ⟨_, rfl⟩
  rw [hW2] at hC HB HL6 hB2 ⊢
  rw [hgc]
  obtain ⟨N, hN⟩ : ∃ N, s.size = N := ⟨_, rfl⟩
  rw [hN] at HUS hus2 ⊢
  have HC := Aside0.mk hC
  have HB2 := Aside0.mk hB2
  have HWW : Aside0 (w.heap.size ≤ W2.heap.size) := ⟨HB.out.size⟩
  clear hC hbw hW2 hB1 kb hgc hB2 hN
  go_loopg [3, 10] (N + 1) (fun gf v3 v10 wr => ∃ (k : Nat) (bl : Bs), v10 = .int .i64 k ∧ k ≤ N ∧ Aside0 (OwnX wr w.heap.size B1 v3 (ni bl)) ∧ Aside0 (bl = 34 :: qs (U.take k)) ∧ Aside0 (bl.length ≤ 1 + 4 * k) ∧ Aside0 (Below w.heap.size w wr) ∧ Aside0 (wr.heap[B1]? = W2.heap[B1]?) ∧ N < k + gf)
  case atStart => exact ⟨0, [34], rfl, by omega, HL6, ⟨by simp [qs_nil]⟩, ⟨by simp⟩, HB, ⟨rfl⟩, by omega⟩
  case round =>
    obtain ⟨k, bl, rfl, hk, HO, HE, HBL, HB, HG, hgf⟩ := hrel
    obtain ⟨n, rfl⟩ : ∃ n, gk = n + 1 := ⟨gk - 1, by omega⟩
    obtain ⟨A, c0, rfl⟩ := Kd.R_slice HO.out
    have HX : Aside0 (B1 < wr.heap.size) := ⟨by
      have h1 := HB2.out
      have h2 := HG.out
      rw [Array.getElem?_eq_getElem h1] at h2
      exact (Array.getElem?_eq_some_iff.1 h2).1⟩
    by_cases hlt : k < N
    · have hcell := (cell_same HG.out k).trans (HC.out k (by rw [← HUS.out]; exact hlt))
      obtain ⟨c, hc⟩ : ∃ c, U.getD k 0 = c := ⟨_, rfl⟩
      have htk : U.take (k + 1) = U.take k ++ [c] := by
        have hk2 : k < U.length := by rw [← HUS.out]; exact hlt
        rw [List.take_succ_eq_append_getElem hk2, ← hc]
        simp [List.getD_eq_getElem?_getD, List.getElem?_eq_getElem hk2]
      rw [hc] at hcell
      have HTK := Aside0.mk htk
      clear hc htk
      by_cases h34 : c = 34
      · subst h34
        have e34 : ((UInt8.toNat 34 : Nat) : Int) = 34 := rfl
        rw [e34] at hcell
        have hq : ni (q1 34) = [92, 34] := rfl
        have HQ := Aside0.mk hq
        clear hq e34
        go_wp2_with (first
          | ((with_reducible refine gate_builtin (b := .append) (xs := #[.tmp 23, .tmp 25]) rfl ?_); at_builtin; (go_must (refine app_x (w0 := w) w.heap.size B1 rfl (.tmp 23) (.tmp 25) 64 rfl Tryz.underlying64 info5 (.slice A (ni bl).length c0) (ni bl) ([92, 34]) (by simp) rfl rfl HO.out HX.out HB.out HB.out.size ?aL ?_; (case aL => have h2 := HBL.out; have h3 := hk; rw [ni_len]; simp; omega); intro v9 w9 ho hb hg; have HO9 := Aside0.mk ho; have HB9 := Aside0.mk hb; have HG9 := Aside0.mk hg; clear ho hb hg))))
        go_roundg n
        case measure => omega
        case rel => exact ⟨k + 1, bl ++ q1 34, by go_num, by omega, ⟨by rw [ni_app, HQ.out]; exact HO9.out⟩, ⟨by rw [HTK.out, HE.out, List.cons_append, qs_snoc]⟩, ⟨by have := q1_len 34; have := HBL.out; rw [List.length_append]; omega⟩, HB9, ⟨HG9.out.trans HG.out⟩, by omega⟩
      · have n34 := ne_u8 (k := 34) h34
        have n34' : ((c.toNat : Int) == 34) = false := n34
        clear n34
        by_cases h92 : c = 92
        · subst h92
          have e92 : ((UInt8.toNat 92 : Nat) : Int) = 92 := rfl
          rw [e92] at hcell
          have hq : ni (q1 92) = [92, 92] := rfl
          have HQ := Aside0.mk hq
          clear hq e92 n34' h34
          go_wp2_with (first
            | ((with_reducible refine gate_builtin (b := .append) (xs := #[.tmp 23, .tmp 25]) rfl ?_); at_builtin; (go_must (refine app_x (w0 := w) w.heap.size B1 rfl (.tmp 23) (.tmp 25) 64 rfl Tryz.underlying64 info5 (.slice A (ni bl).length c0) (ni bl) ([92, 92]) (by simp) rfl rfl HO.out HX.out HB.out HB.out.size ?aL ?_; (case aL => have h2 := HBL.out; have h3 := hk; rw [ni_len]; simp; omega); intro v9 w9 ho hb hg; have HO9 := Aside0.mk ho; have HB9 := Aside0.mk hb; have HG9 := Aside0.mk hg; clear ho hb hg))))
          go_roundg n
          case measure => omega
          case rel => exact ⟨k + 1, bl ++ q1 92, by go_num, by omega, ⟨by rw [ni_app, HQ.out]; exact HO9.out⟩, ⟨by rw [HTK.out, HE.out, List.cons_append, qs_snoc]⟩, ⟨by have := q1_len 92; have := HBL.out; rw [List.length_append]; omega⟩, HB9, ⟨HG9.out.trans HG.out⟩, by omega⟩
        · have n92 : ((c.toNat : Int) == 92) = false := ne_u8 (k := 92) h92
          have nq : ¬ (c = 34 ∨ c = 92) := fun h => h.elim h34 h92
          by_cases hp : c.toNat < 32 ∨ 126 < c.toNat
          · have hq : ni (q1 c) = [92, 120, ((hexd (c.toNat / 16)).toNat : Int), ((hexd (c.toNat % 16)).toNat : Int)] := by rw [q1, if_neg nq, if_pos hp]; rfl
            have HQ := Aside0.mk hq
            have hlt' := c.toNat_lt
            have s1 : ((c.toNat : Int) / 16) = ((c.toNat / 16 : Nat) : Int) := by omega
            have s2 := and_lo c
            obtain ⟨a, ha⟩ : ∃ a, c.toNat / 16 = a := ⟨_, rfl⟩
            obtain ⟨b, hb⟩ : ∃ b, c.toNat % 16 = b := ⟨_, rfl⟩
            have ha16 : a < 16 := by omega
            have hb16 : b < 16 := by omega
            rw [ha] at s1 HQ
            rw [hb] at s2 HQ
            have x1 := fun w => hex_at (P := Tryz.prog) 9 Tryz.underlying9 a ha16 w
            have x2 := fun w => hex_at (P := Tryz.prog) 9 Tryz.underlying9 b hb16 w
            obtain ⟨ya, hya⟩ : ∃ ya : Int, ((hexd a).toNat : Int) = ya := ⟨_, rfl⟩
            obtain ⟨yb, hyb⟩ : ∃ yb : Int, ((hexd b).toNat : Int) = yb := ⟨_, rfl⟩
            rw [hya] at x1 HQ
            rw [hyb] at x2 HQ
            have hp2 : (c.toNat : Int) < 32 ∨ (¬ (c.toNat : Int) < 32 ∧ 126 < (c.toNat : Int)) := by omega
            clear hq hya hyb ha hb h34 h92 nq hp ha16 hb16 hlt'
            rcases hp2 with d1 | ⟨d1', d2⟩
            · go_wp2_with fail
              go_region_law ((refine app_x_step (w0 := w) (W := wr.drew) w.heap.size B1 rfl (.tmp 32) (.tmp 39) 64 rfl Tryz.underlying64 info5 (.slice A (ni bl).length c0) (ni bl) [92, 120, ya, yb] (by simp) rfl rfl (Kd.R_drew HO.out) HX.out (below_drew1 HB.out) HB.out.size ?aL ?_; (case aL => have h2 := HBL.out; have h3 := hk; rw [ni_len]; simp; omega); intro v9 w9 ho hb hg; have HO9 := Aside0.mk ho; have HB9 := Aside0.mk hb; have HG9 := Aside0.mk hg; clear ho hb hg))
              all_goals
                go_wp2_with fail
                go_roundg n
                case measure => omega
                case rel => exact ⟨k + 1, bl ++ q1 c, by go_num, by omega, ⟨by rw [ni_app, HQ.out]; exact HO9.out⟩, ⟨by rw [HTK.out, HE.out, List.cons_append, qs_snoc]⟩, ⟨by have := q1_len c; have := HBL.out; rw [List.length_append]; omega⟩, HB9, ⟨HG9.out.trans HG.out⟩, by omega⟩
            · go_wp2_with fail
              go_region_law ((refine app_x_step (w0 := w) (W := wr.drew) w.heap.size B1 rfl (.tmp 32) (.tmp 39) 64 rfl Tryz.underlying64 info5 (.slice A (ni bl).length c0) (ni bl) [92, 120, ya, yb] (by simp) rfl rfl (Kd.R_drew HO.out) HX.out (below_drew1 HB.out) HB.out.size ?aL ?_; (case aL => have h2 := HBL.out; have h3 := hk; rw [ni_len]; simp; omega); intro v9 w9 ho hb hg; have HO9 := Aside0.mk ho; have HB9 := Aside0.mk hb; have HG9 := Aside0.mk hg; clear ho hb hg))
              all_goals
                go_wp2_with fail
                go_roundg n
                case measure => omega
                case rel => exact ⟨k + 1, bl ++ q1 c, by go_num, by omega, ⟨by rw [ni_app, HQ.out]; exact HO9.out⟩, ⟨by rw [HTK.out, HE.out, List.cons_append, qs_snoc]⟩, ⟨by have := q1_len c; have := HBL.out; rw [List.length_append]; omega⟩, HB9, ⟨HG9.out.trans HG.out⟩, by omega⟩
          · have hq : ni (q1 c) = [(c.toNat : Int)] := by rw [q1, if_neg nq, if_neg hp]; rfl
            have HQ := Aside0.mk hq
            have d1 : decide ((c.toNat : Int) < 32) = false := by rw [decide_eq_false_iff_not]; omega
            have d2 : decide (126 < (c.toNat : Int)) = false := by rw [decide_eq_false_iff_not]; omega
            clear hq h34 h92 nq hp
            go_wp2_with (first
              | ((with_reducible refine gate_builtin (b := .append) (xs := #[.tmp 14, .tmp 16]) rfl ?_); at_builtin; (go_must (refine app_x (w0 := w) w.heap.size B1 rfl (.tmp 14) (.tmp 16) 64 rfl Tryz.underlying64 info5 (.slice A (ni bl).length c0) (ni bl) ([(c.toNat : Int)]) (by simp) rfl rfl HO.out HX.out HB.out HB.out.size ?aL ?_; (case aL => have h2 := HBL.out; have h3 := hk; rw [ni_len]; simp; omega); intro v9 w9 ho hb hg; have HO9 := Aside0.mk ho; have HB9 := Aside0.mk hb; have HG9 := Aside0.mk hg; clear ho hb hg))))
            go_roundg n
            case measure => omega
            case rel => exact ⟨k + 1, bl ++ q1 c, by go_num, by omega, ⟨by rw [ni_app, HQ.out]; exact HO9.out⟩, ⟨by rw [HTK.out, HE.out, List.cons_append, qs_snoc]⟩, ⟨by have := q1_len c; have := HBL.out; rw [List.length_append]; omega⟩, HB9, ⟨HG9.out.trans HG.out⟩, by omega⟩
    · obtain rfl : k = N := by omega
      have hu : U.take k = U := by rw [List.take_of_length_le]; rw [← HUS.out]; omega
      have HE2 : Aside0 (bl ++ [34] = quote U) := ⟨by rw [HE.out, hu]; simp [quote]⟩
      clear hu
      go_wp2_with ((with_reducible refine gate_builtin (b := .append) (xs := #[.tmp 42, .tmp 43]) rfl ?_); at_builtin; (go_must (refine app_x (w0 := w) w.heap.size B1 rfl (.tmp 42) (.tmp 43) 64 rfl Tryz.underlying64 info5 (.slice A (ni bl).length c0) (ni bl) ([34]) (by simp) rfl rfl HO.out HX.out HB.out HB.out.size ?aL ?_; (case aL => have h2 := HBL.out; have h3 := hk; rw [ni_len]; simp; omega); intro v9 w9 ho hb hg; have HO9 := Aside0.mk ho; have HB9 := Aside0.mk hb; have HG9 := Aside0.mk hg; clear ho hb hg)); have hcv := own_string (P := Tryz.prog) Tryz.underlying64 Tryz.underlying5 Tryz.underlying9 (Kd.own_of_R HO9.out))
      go_ret
      refine ⟨?_, HB9.out⟩
      rw [← HE2.out, ← ni_str, ni_app]
      rfl
end Go.Proofs.YtoajcijjkkkaaaaGreatDoor.K

/- script's reader: keep. -/
import Derived.Test.YtoajcijjkkkaaaaGreatDoorScG
namespace Go.Proofs.YtoajcijjkkkaaaaGreatDoor.K
open Go.RowKit Go.Proofs.YtoajcijjkkkaaaaGreatDoorW.PrintWords Go.Proofs.YtoajcijjkkkaaaaGreatDoorW.PrintLast Go.Proofs.YtoajcijjkkkaaaaGreatDoorW.PrintMore
set_option linter.unusedVariables false
set_option linter.unusedSimpArgs false

theorem info_bool : (Tryz.prog.info? 4).map (fun i => (i.zero, i.size, i.bytes)) = some (some (.bool false), 1, 1) := by kernel_rfl
/-- A slice of bools of the call's own. -/
abbrev OwnB (w : World) (base : Nat) (v : Value) (l : List Bool) : Prop := Kd.R Kd.bool 4 w base (fun _ => True) v l
theorem OwnB.keep {w1 w2 : World} {b g : Nat} {v : Value} {l : List Bool} (h : OwnB w1 b v l) (hk : KeepBut w1 w2 g none) (hg : g < b) : OwnB w2 b v l :=
  Kd.R_mono (Kd.R_step (Kd.R_bound h) (fun k ho hl => hk.2 k hl (by have := ho.2.1; omega) (by simp))) (fun _ _ => trivial)
theorem OwnB.on {w1 w2 : World} {b : Nat} {v : Value} {l : List Bool} (h : OwnB w1 b v l) (hb : Below w1.heap.size w1 w2) : OwnB w2 b v l := Kd.R_below h hb
/-- What a reading that hands back digits leaves. -/
def KPost (w0 w : World) (g : Nat) (R : Option (List Bool × Bs)) (e : Ending) (w' : World) : Prop :=
  match R with
  | none => Wrong w0 w g e w'
  | some (l, r) => (∃ v, e = .returned v ∧ OwnB w' w.heap.size v l) ∧ Rr w0 w' g r ∧ KeepBut w w' g none
theorem beq_u8 (c k : UInt8) : ((c.toNat : Int) == (k.toNat : Int)) = (c == k) := by
  by_cases h : c = k
  · subst h; simp
  · rw [ne_u8 h]
    exact (beq_eq_false_iff_ne.2 h).symm

set_option maxHeartbeats 2000000 in
theorem keep_calls (w0 w : World) (g : Nat) (l : Bs) (h : Rr w0 w g l) :
    Calls Tryz.prog 59 #[.pointer (some ⟨g, 0, none⟩)] w (KPost w0 w g (rdKeep l)) := by
  have HW := word_calls w0 w g l h
  have hgw : g < w.heap.size := by obtain ⟨_, hk, _⟩ := h; exact blk_lt hk
  have hul : (upTo l).length ≤ 4294967280 := by have := up_len l; obtain ⟨_, _, _, _, _, hl⟩ := h; omega
  obtain ⟨u, hu⟩ : ∃ u : ByteArray, (⟨(upTo l).toArray⟩ : ByteArray) = u := ⟨_, rfl⟩
  have hud : u.data.toList = upTo l := by rw [← hu]
  have hud2 : u.toList = upTo l := by rw [Lib.toList_data, hud]
  have hus : u.size = (upTo l).length := by rw [ba_size, hud]
  rw [hu] at HW
  obtain ⟨R, hR⟩ : ∃ R, rdKeep l = R := ⟨_, rfl⟩
  rw [hR]
  unfold rdKeep at hR
  obtain ⟨U, hU⟩ : ∃ U, upTo l = U := ⟨_, rfl⟩
  rw [hU] at hR hul hud hud2 hus
  clear h hu hU
  by_cases h1 : U.isEmpty = true
  · rw [if_pos h1] at hR
    subst hR
    have e1 : u.toList.isEmpty = true := by rw [hud2]; exact h1
    clear hud hud2 hus h1 hul
    go_enter Tryz.func59, Tryz.ntmps59
    go_wp2_with (first
      | (go_at_call 56; (with_reducible refine HW.mono ?_); rintro e w1 ⟨rfl, hr, hk⟩; have HR1 := Aside0.mk hr; have HK1 := Aside0.mk hk; clear hr hk)
      | (go_at_call 54; (with_reducible refine (must_false _ _).mono ?_); rintro e w' ⟨rfl, rfl⟩))
    exact ⟨rfl, rfl, HR1.out.below, HK1.out⟩
  · rw [if_neg h1] at hR
    have e1 : u.toList.isEmpty = false := by rw [hud2]; simpa using h1
    by_cases h2 : U = [45]
    · rw [if_pos h2] at hR
      subst hR
      have e2 : u.toList = ([45] : List UInt8) := by rw [hud2]; exact h2
      have e3 : (u.toList == ([45] : List UInt8)) = true := by rw [e2]; rfl
      clear hud hud2 hus h1 hul e2
      go_enter Tryz.func59, Tryz.ntmps59
      go_wp2_with (first
        | (go_at_call 56; (with_reducible refine HW.mono ?_); rintro e w1 ⟨rfl, hr, hk⟩; have HR1 := Aside0.mk hr; have HK1 := Aside0.mk hk; clear hr hk)
        | (go_at_call 54; (with_reducible refine (must_true _ _).mono ?_); rintro e w' ⟨rfl, rfl⟩))
      go_ret
      exact ⟨⟨_, rfl, Kd.R_nil _ _ _ _ _⟩, HR1.out, HK1.out⟩
    · rw [if_neg h2] at hR
      have e3 : (u.toList == ([45] : List UInt8)) = false := by rw [hud2]; exact beq_eq_false_iff_ne.2 h2
      have HUD := Aside0.mk hud
      have HRR := Aside0.mk hR
      have HUL := Aside0.mk hul
      have hus2 : (u.size : Int) ≤ 4294967280 := by omega
      have HUS := Aside0.mk hus
      have kb := fun W => print_bytes (P := Tryz.prog) 9 64 5 Tryz.underlying9 Tryz.underlying64 Tryz.underlying5 u W
      clear hud hud2 h1 h2 hul hR hus
      go_enter Tryz.func59, Tryz.ntmps59
      go_wp2_with (first
        | (go_at_call 56; (with_reducible refine HW.mono ?_); rintro e w1 ⟨rfl, hr, hk⟩; have HR1 := Aside0.mk hr; have HK1 := Aside0.mk hk; clear hr hk)
        | (go_at_call 54; (with_reducible refine (must_true _ _).mono ?_); rintro e w' ⟨rfl, rfl⟩))
      obtain ⟨B1, hB1⟩ : ∃ B1, w1.heap.size = B1 := ⟨_, rfl⟩
      have hC : ∀ j, j < U.length → (Lib.bytesWorld w1 5 u).cell? ⟨B1, j, none⟩ = some (.int .u8 (U.getD j 0).toNat) := by
        intro j hj
        rw [← hB1, Lib.bytesWorld_cell w1 5 u j (by rw [HUS.out]; exact hj), HUD.out]
      have hbw : Below w1.heap.size w1 (Lib.bytesWorld w1 5 u) := bytes_below (Below.refl _ _) (Nat.le_refl _) _ _
      replace HR1 := Aside0.mk (HR1.out.on hbw)
      replace HK1 := Aside0.mk (keep_on HK1.out hbw)
      have hB2 : B1 < (Lib.bytesWorld w1 5 u).heap.size := by rw [Lib.bytesWorld_size]; omega
      rw [hB1]
      obtain ⟨W2, hW2⟩ : ∃ W2, Lib.bytesWorld w1 5 u = W2 := ⟨_, rfl⟩
      obtain ⟨gc, hgc⟩ : ∃ gc, grownCap w1 u.size 0 5 = gc := ⟨_, rfl⟩
      rw [hW2] at hC HR1 HK1 hB2 ⊢
      rw [hgc]
      obtain ⟨N, hN⟩ : ∃ N, u.size = N := ⟨_, rfl⟩
      rw [hN] at HUS hus2 ⊢
      have HC := Aside0.mk hC
      have HB2 := Aside0.mk hB2
      have HWW : Aside0 (w.heap.size ≤ W2.heap.size) := ⟨HK1.out.1⟩
      clear hC hbw hW2 hB1 kb hgc hB2 hN
      go_loopg [2, 17] (N + 1) (fun gf v2 v17 wr => ∃ (k : Nat) (bl : List Bool), v17 = .int .i64 k ∧ k ≤ N ∧ Aside0 (OwnB wr W2.heap.size v2 bl) ∧ Aside0 (bl = (U.take k).map (fun c => c == 49)) ∧ Aside0 (bl.length ≤ N) ∧ Aside0 ((U.take k).all (fun c => c == 48 || c == 49) = true) ∧ Aside0 (Below W2.heap.size W2 wr) ∧ Aside0 (Rr w0 wr g (onw l)) ∧ Aside0 (KeepBut w wr g none) ∧ N < k + gf)
      case atStart => exact ⟨0, [], rfl, by omega, ⟨Kd.R_nil _ _ _ _ _⟩, ⟨by simp⟩, ⟨by simp⟩, ⟨by simp⟩, ⟨Below.refl _ _⟩, HR1, HK1, by omega⟩
      case round =>
        obtain ⟨k, bl, rfl, hk, HO, HE, HBL, HA, HB, HR, HK, hgf⟩ := hrel
        obtain ⟨n, rfl⟩ : ∃ n, gk = n + 1 := ⟨gk - 1, by omega⟩
        obtain ⟨A, c0, rfl⟩ := Kd.R_slice HO.out
        have HS : Aside0 (W2.heap.size ≤ wr.heap.size) := ⟨HB.out.size⟩
        by_cases hlt : k < N
        · have hcell := pw_cell_below HB.out (HC.out k (by rw [← HUS.out]; exact hlt))
          obtain ⟨c, hc⟩ : ∃ c, U.getD k 0 = c := ⟨_, rfl⟩
          have htk : U.take (k + 1) = U.take k ++ [c] := by
            have hk2 : k < U.length := by rw [← HUS.out]; exact hlt
            rw [List.take_succ_eq_append_getElem hk2, ← hc]
            simp [List.getD_eq_getElem?_getD, List.getElem?_eq_getElem hk2]
          rw [hc] at hcell
          have HTK := Aside0.mk htk
          have b48 := beq_u8 c 48
          have b49 := beq_u8 c 49
          have e48 : ((UInt8.toNat 48 : Nat) : Int) = 48 := rfl
          have e49 : ((UInt8.toNat 49 : Nat) : Int) = 49 := rfl
          rw [e48] at b48
          rw [e49] at b49
          clear hc htk e48 e49
          by_cases hd : (c == 48 || c == 49) = true
          · have HD := Aside0.mk hd
            have hd2 : (c == 48) = true ∨ ((c == 48) = false ∧ (c == 49) = true) := by
              cases h1 : (c == 48)
              · rw [h1, Bool.false_or] at hd; exact .inr ⟨rfl, hd⟩
              · exact .inl rfl
            clear hd
            rcases hd2 with d1 | ⟨d1, d2⟩
            · rw [d1] at b48
              go_wp2_with (first
                | (go_at_call 54; (with_reducible refine (must_true _ _).mono ?_); rintro e w' ⟨rfl, rfl⟩)
                | ((with_reducible refine gate_builtin (b := .append) (xs := #[.tmp 29, .tmp 32]) rfl ?_); at_builtin; go_must (refine Kd.R_append Kd.bool (w0 := wr) W2.heap.size rfl (.tmp 29) (.tmp 32) 22 4 (.bool false) 1 rfl Tryz.underlying22 info_bool rfl (by decide) (by omega) (.slice A (bl).length c0) bl (c == 49) [.bool (c == 49)] (fun _ => True) (fun _ => False) rfl rfl ?aP (fun _ hk => hk.elim) ?aF ?aO ?aB ?aS ?aL ?_; (case aP => exact rfl); (case aB => exact Below.refl _ _); (case aF => exact (fun _ _ => trivial)); (case aO => exact HO.out); (case aS => exact HS.out); (case aL => have h1 := HUL.out; have h2 := HBL.out; omega); intro v9 w9 ho hb hg hat; have HO9 := Aside0.mk ho; have HB9 := Aside0.mk hb; clear ho hb hg hat)))
              go_roundg n
              case measure => omega
              case rel => exact ⟨k + 1, bl ++ [c == 49], by go_num, by omega, HO9, ⟨by rw [HTK.out, HE.out]; simp⟩, ⟨by rw [HE.out]; simp; omega⟩, ⟨by rw [HTK.out, List.all_append, HA.out]; simpa using HD.out⟩, ⟨HB.out.trans HB9.out⟩, ⟨HR.out.grow HB9.out (by have := HWW.out; omega)⟩, ⟨keep_b HK.out (HB9.out.mono HWW.out)⟩, by omega⟩
            · rw [d1] at b48
              rw [d2] at b49
              go_wp2_with (first
                | (go_at_call 54; (with_reducible refine (must_true _ _).mono ?_); rintro e w' ⟨rfl, rfl⟩)
                | ((with_reducible refine gate_builtin (b := .append) (xs := #[.tmp 29, .tmp 32]) rfl ?_); at_builtin; go_must (refine Kd.R_append Kd.bool (w0 := wr) W2.heap.size rfl (.tmp 29) (.tmp 32) 22 4 (.bool false) 1 rfl Tryz.underlying22 info_bool rfl (by decide) (by omega) (.slice A (bl).length c0) bl true [.bool true] (fun _ => True) (fun _ => False) rfl rfl ?aP (fun _ hk => hk.elim) ?aF ?aO ?aB ?aS ?aL ?_; (case aP => exact rfl); (case aB => exact Below.refl _ _); (case aF => exact (fun _ _ => trivial)); (case aO => exact HO.out); (case aS => exact HS.out); (case aL => have h1 := HUL.out; have h2 := HBL.out; omega); intro v9 w9 ho hb hg hat; have HO9 := Aside0.mk ho; have HB9 := Aside0.mk hb; clear ho hb hg hat)))
              go_roundg n
              case measure => omega
              case rel => exact ⟨k + 1, bl ++ [true], by go_num, by omega, HO9, ⟨by rw [HTK.out, HE.out, List.map_append, List.map_cons, List.map_nil, d2]⟩, ⟨by rw [HE.out]; simp; omega⟩, ⟨by rw [HTK.out, List.all_append, HA.out]; simpa using HD.out⟩, ⟨HB.out.trans HB9.out⟩, ⟨HR.out.grow HB9.out (by have := HWW.out; omega)⟩, ⟨keep_b HK.out (HB9.out.mono HWW.out)⟩, by omega⟩
          · have hd2 : (c == 48) = false ∧ (c == 49) = false := by simpa using hd
            obtain ⟨d1, d2⟩ := hd2
            rw [d1] at b48
            rw [d2] at b49
            have hR2 : R = none := by
              rw [← HRR.out, if_neg]
              intro ha
              have hk2 : k < U.length := by rw [← HUS.out]; exact hlt
              have h1 : c ∈ U := by
                have h2 : c ∈ U.take (k + 1) := by rw [HTK.out]; simp
                exact List.mem_of_mem_take h2
              have h3 := List.all_eq_true.1 ha c h1
              rw [d1, d2] at h3
              exact absurd h3 (by simp)
            subst hR2
            clear hd
            go_wp2_with (first
              | (go_at_call 54; (with_reducible refine (must_false _ _).mono ?_); rintro e w' ⟨rfl, rfl⟩))
            exact ⟨rfl, rfl, HR.out.below, HK.out⟩
        · obtain rfl : k = N := by omega
          have hu : U.take k = U := by rw [List.take_of_length_le]; rw [← HUS.out]; omega
          have hR2 : R = some (bl, onw l) := by
            have h2 := HA.out
            rw [hu] at h2
            rw [← HRR.out, if_pos h2, HE.out, hu]
          subst hR2
          clear hu
          go_wp2_with fail
          go_ret
          exact ⟨⟨_, rfl, Kd.R_lower HO.out HWW.out⟩, HR.out, HK.out⟩
end Go.Proofs.YtoajcijjkkkaaaaGreatDoor.K

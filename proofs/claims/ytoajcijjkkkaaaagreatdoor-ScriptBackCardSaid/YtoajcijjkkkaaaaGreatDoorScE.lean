/- script's reader: quoted. -/
import Derived.Test.YtoajcijjkkkaaaaGreatDoorScD
namespace Go.Proofs.YtoajcijjkkkaaaaGreatDoor.K
open Go.RowKit Go.Proofs.YtoajcijjkkkaaaaGreatDoorW.PrintWords Go.Proofs.YtoajcijjkkkaaaaGreatDoorW.PrintLast Go.Proofs.YtoajcijjkkkaaaaGreatDoorW.PrintMore
set_option linter.unusedVariables false
set_option linter.unusedSimpArgs false

/-- Bytes as whole numbers. -/
def ni (l : Bs) : List Int := l.map (fun c => (c.toNat : Int))
theorem ni_len (l : Bs) : (ni l).length = l.length := by simp [ni]
theorem ni_snoc (l : Bs) (c : UInt8) : ni (l ++ [c]) = ni l ++ [(c.toNat : Int)] := by simp [ni]
theorem ni_str (l : Bs) : strOfNums (ni l) = ⟨l.toArray⟩ := by
  unfold strOfNums ni
  rw [List.map_map]
  congr 2
  conv => rhs; rw [← List.map_id l]
  apply List.map_congr_left
  intro c _
  simp
theorem Own.keep {w1 w2 : World} {b g : Nat} {v : Value} {l : List Int} (h : Own w1 b v l) (hk : KeepBut w1 w2 g none) (hg : g < b) : Own w2 b v l :=
  Kd.R_mono (Kd.R_step (Kd.R_bound h) (fun k ho hl => hk.2 k hl (by have := ho.2.1; omega) (by simp))) (fun _ _ => trivial)
theorem Rr.grow {w0 w1 w2 : World} {g B : Nat} {l : Bs} (h : Rr w0 w1 g l) (hb : Below B w1 w2) (hB : g < B) : Rr w0 w2 g l := by
  obtain ⟨s, hk, hs, hg, hbb, hl⟩ := h
  exact ⟨s, (hb.block g hB).trans hk, hs, hg, hbb.trans (hb.mono (by omega)), hl⟩
theorem keep_b {w w1 w2 : World} {g : Nat} (hk : KeepBut w w1 g none) (hb : Below w.heap.size w1 w2) : KeepBut w w2 g none :=
  ⟨Nat.le_trans hk.1 hb.size, fun i hi h1 h2 => (hb.block i hi).trans (hk.2 i hi h1 h2)⟩

theorem unq_nil (n : Nat) (acc : Bs) : unq n acc [] = none := by cases n <;> rfl
theorem unq_q (n : Nat) (acc r : Bs) : unq (n + 1) acc (34 :: r) = if acc.length ≤ 500 then some (acc, r) else none := by simp [unq]
theorem unq_e (n : Nat) (acc r : Bs) (c : UInt8) (hc : c ≠ 34) (h : tok (c :: r) = none) : unq (n + 1) acc (c :: r) = none := by simp [unq, hc, h]
theorem unq_s (n : Nat) (acc r r' : Bs) (c v : UInt8) (hc : c ≠ 34) (h : tok (c :: r) = some (v, r')) : unq (n + 1) acc (c :: r) = unq n (acc ++ [v]) r' := by simp [unq, hc, h]
theorem ne_u8 {c k : UInt8} (h : c ≠ k) : ((c.toNat : Int) == (k.toNat : Int)) = false := by
  rw [beq_eq_false_iff_ne]
  exact fun e => h (UInt8.toNat_inj.1 (by omega))

/-- What a reading that hands back a text leaves. -/
def QPost (w0 w : World) (g : Nat) (R : Option (Bs × Bs)) (e : Ending) (w' : World) : Prop :=
  match R with
  | none => Wrong w0 w g e w'
  | some (t, r) => e = .returned (.string ⟨t.toArray⟩) ∧ Rr w0 w' g r ∧ KeepBut w w' g none

theorem quoted_head (w0 w : World) (g : Nat) (s : Bs) (h : Rr w0 w g s) (hs : s.head? ≠ some 34) :
    Calls Tryz.prog 46 #[.pointer (some ⟨g, 0, none⟩)] w (Wrong w0 w g) := by
  cases s with
  | nil =>
    have HR := Aside0.mk h
    clear h hs
    go_enter Tryz.func46, Tryz.ntmps46
    go_wp2_with (go_at_call 55; (with_reducible refine (byte_nil w0 w g HR.out).mono ?_); rintro e w' ⟨rfl, hb, hk⟩)
    exact ⟨rfl, rfl, hb, hk⟩
  | cons c r =>
    have HR := Aside0.mk h
    have e1 : ((c.toNat : Int) == 34) = false := ne_u8 (k := 34) (by simpa using hs)
    clear h hs
    go_enter Tryz.func46, Tryz.ntmps46
    go_wp2_with (first
      | (go_at_call 55; (with_reducible refine (byte_cons w0 w g c r HR.out).mono ?_); rintro e w1 ⟨rfl, hr, hk⟩; have HR1 := Aside0.mk hr; have HK := Aside0.mk hk; clear hr hk)
      | (go_at_call 54; (with_reducible refine (must_false _ _).mono ?_); rintro e w' ⟨rfl, rfl⟩))
    exact ⟨rfl, rfl, HR1.out.below, HK.out⟩

set_option maxHeartbeats 2000000 in
theorem quoted_in (w0 w : World) (g : Nat) (r0 : Bs) (h : Rr w0 w g (34 :: r0)) (hgw : g < w.heap.size) (R : Option (Bs × Bs)) (hR : unq (r0.length + 1) [] r0 = R) :
    Calls Tryz.prog 46 #[.pointer (some ⟨g, 0, none⟩)] w (QPost w0 w g R) := by
  have HC := byte_cons w0 w g 34 _ h
  have e34 : ((UInt8.toNat 34 : Nat) : Int) = 34 := rfl
  rw [e34] at HC
  have HUQ := Aside0.mk hR
  have HL0 : Aside0 (r0.length ≤ 4294967280) := ⟨by obtain ⟨_, _, _, _, _, hl⟩ := h; simp only [List.length_cons] at hl; omega⟩
  clear h hR
  go_enter Tryz.func46, Tryz.ntmps46
  go_wp2_with (first
    | (go_at_call 55; (with_reducible refine HC.mono ?_); rintro e w1 ⟨rfl, hr, hk⟩; have HR1 := Aside0.mk hr; have HK := Aside0.mk hk; clear hr hk)
    | (go_at_call 54; (with_reducible refine (must_true _ _).mono ?_); rintro e w' ⟨rfl, rfl⟩))
  go_loopg [3] (r0.length + 1) (fun gf v3 wr => ∃ (acc l : Bs), Aside0 (Own wr w.heap.size v3 (ni acc)) ∧ Aside0 (Rr w0 wr g l) ∧ Aside0 (KeepBut w wr g none) ∧ Aside0 (l.length < gf) ∧ Aside0 (acc.length + l.length ≤ r0.length) ∧ Aside0 (unq gf acc l = R))
  case atStart => exact ⟨[], r0, ⟨Kd.R_nil _ _ _ _ _⟩, HR1, HK, ⟨by omega⟩, ⟨by simp⟩, HUQ⟩
  case round =>
    obtain ⟨acc, l, HO, HR, HK, HF, HA, HU⟩ := hrel
    obtain ⟨n, rfl⟩ : ∃ n, gk = n + 1 := ⟨gk - 1, by have := HF.out; omega⟩
    obtain ⟨A, c0, rfl⟩ := Kd.R_slice HO.out
    cases l with
    | nil =>
      obtain rfl : R = none := by rw [← HU.out, unq_nil]
      go_wp2_with (go_at_call 55; (with_reducible refine (byte_nil w0 wr g HR.out).mono ?_); rintro e w' ⟨rfl, hb, hk⟩)
      exact ⟨rfl, rfl, hb, keep2 HK.out hk⟩
    | cons c r =>
      by_cases hc : c = 34
      · subst hc
        have HC2 := byte_cons w0 wr g 34 r HR.out
        rw [e34] at HC2
        have HU2 := Aside0.mk ((unq_q n acc r).symm.trans HU.out)
        clear HU
        by_cases hlen : acc.length ≤ 500
        · have hd : decide (((ni acc).length : Int) ≤ 500) = true := by rw [ni_len]; simp; omega
          obtain rfl : R = some (acc, r) := by rw [← HU2.out, if_pos hlen]
          go_wp2_with (first
            | (go_at_call 55; (with_reducible refine HC2.mono ?_); rintro e w2 ⟨rfl, hr, hk⟩; have HR2 := Aside0.mk hr; have HK2 := Aside0.mk hk; clear hr hk; have hcv := own_string (P := Tryz.prog) Tryz.underlying64 Tryz.underlying5 Tryz.underlying9 (Kd.own_of_R (Own.keep HO.out HK2.out hgw)))
            | (go_at_call 54; (with_reducible refine (must_true _ _).mono ?_); rintro e w' ⟨rfl, rfl⟩))
          go_ret
          exact ⟨by rw [ni_str]; rfl, HR2.out, keep2 HK.out HK2.out⟩
        · have hd : decide (((ni acc).length : Int) ≤ 500) = false := by rw [ni_len]; simp; omega
          obtain rfl : R = none := by rw [← HU2.out, if_neg hlen]
          go_wp2_with (first
            | (go_at_call 55; (with_reducible refine HC2.mono ?_); rintro e w2 ⟨rfl, hr, hk⟩; have HR2 := Aside0.mk hr; have HK2 := Aside0.mk hk; clear hr hk)
            | (go_at_call 54; (with_reducible refine (must_false _ _).mono ?_); rintro e w' ⟨rfl, rfl⟩))
          exact ⟨rfl, rfl, HR2.out.below, keep2 HK.out HK2.out⟩
      · have HC2 := byte_cons w0 wr g c r HR.out
        have e1 := ne_u8 (k := 34) hc
        have e1' : ((c.toNat : Int) == 34) = false := e1
        clear e1
        by_cases h92 : c = 92
        · subst h92
          have e92 : ((UInt8.toNat 92 : Nat) : Int) = 92 := rfl
          rw [e92] at HC2
          clear e1'
          have ht : tok (92 :: r) = esc r := rfl
          cases he : esc r with
          | none =>
            rw [he] at ht
            obtain rfl : R = none := by rw [← HU.out, unq_e n acc r 92 hc ht]
            have HE := Aside0.mk he
            clear he ht hc
            go_wp2_with (first
              | (go_at_call 55; (with_reducible refine HC2.mono ?_); rintro e w2 ⟨rfl, hr, hk⟩; have HR2 := Aside0.mk hr; have HK2 := Aside0.mk hk; have HO2 := Aside0.mk (Own.keep HO.out hk hgw); have HS2 : Aside0 (w.heap.size ≤ w2.heap.size) := ⟨Nat.le_trans HK.out.1 hk.1⟩; clear hr hk)
              | (go_at_call 65; (with_reducible refine (escaped_none w0 _ g r HR2.out HE.out).mono ?_); rintro e w' ⟨rfl, hb, hk⟩))
            exact ⟨rfl, rfl, hb, keep2 HK.out (keep2 HK2.out hk)⟩
          | some p =>
            obtain ⟨v, r2⟩ := p
            rw [he] at ht
            have HU2 := Aside0.mk ((unq_s n acc r r2 92 v hc ht).symm.trans HU.out)
            have HT := Aside0.mk (tok_lt ht)
            have HE := Aside0.mk he
            clear he ht hc HU
            go_wp2_with (first
              | (go_at_call 55; (with_reducible refine HC2.mono ?_); rintro e w2 ⟨rfl, hr, hk⟩; have HR2 := Aside0.mk hr; have HK2 := Aside0.mk hk; have HO2 := Aside0.mk (Own.keep HO.out hk hgw); have HS2 : Aside0 (w.heap.size ≤ w2.heap.size) := ⟨Nat.le_trans HK.out.1 hk.1⟩; clear hr hk)
              | (go_at_call 65; (with_reducible refine (escaped_some w0 _ g r r2 v HR2.out HE.out).mono ?_); rintro e w3 ⟨rfl, hr, hk⟩; have HR3 := Aside0.mk hr; have HK3 := Aside0.mk hk; replace HO2 := Aside0.mk (Own.keep HO2.out hk hgw); replace HS2 : Aside0 (w.heap.size ≤ w3.heap.size) := ⟨Nat.le_trans HS2.out hk.1⟩; clear hr hk)
              | ((with_reducible refine gate_builtin (b := .append) (xs := #[.tmp 35, .tmp 37]) rfl ?_); at_builtin; go_must (refine Kd.R_append B (w0 := w3) w.heap.size rfl (.tmp 35) (.tmp 37) 64 5 (.int .u8 0) 1 rfl Tryz.underlying64 info5 rfl (by decide) (by omega) (.slice A (ni acc).length c0) (ni acc) (v.toNat : Int) [.int .u8 (v.toNat : Int)] (fun _ => True) (fun _ => False) rfl rfl ?aP (fun _ hk => hk.elim) ?aF ?aO ?aB ?aS ?aL ?_; (case aP => exact rfl); (case aB => exact Below.refl _ _); (case aF => exact (fun _ _ => trivial)); (case aO => exact HO2.out); (case aS => exact HS2.out); (case aL => have h1 := HL0.out; have h2 := HA.out; rw [ni_len]; simp only [List.length_cons] at h2; omega); intro v9 w9 ho hb hg hat; have HO9 := Aside0.mk ho; have HB9 := Aside0.mk hb; clear ho hb hg hat)))
            go_roundg n
            case measure => omega
            case rel => exact ⟨acc ++ [v], r2, ⟨by rw [ni_snoc]; exact HO9.out⟩, ⟨HR3.out.grow HB9.out hgw⟩, ⟨keep_b (keep2 HK.out (keep2 HK2.out HK3.out)) HB9.out⟩, ⟨by have h1 := HF.out; have h2 := HT.out; simp only [List.length_cons] at h1 h2; omega⟩, ⟨by have h1 := HA.out; have h2 := HT.out; simp only [List.length_append, List.length_cons, List.length_nil] at h1 h2 ⊢; omega⟩, HU2⟩
        · have e2 : ((c.toNat : Int) == 92) = false := ne_u8 (k := 92) h92
          by_cases hp : 32 ≤ c.toNat ∧ c.toNat ≤ 126
          · have ht : tok (c :: r) = some (c, r) := by unfold tok; simp only [h92, hp, if_false, and_self, if_true]
            have HU2 := Aside0.mk ((unq_s n acc r r c c hc ht).symm.trans HU.out)
            have HT := Aside0.mk (tok_lt ht)
            have d1 : decide (32 ≤ (c.toNat : Int)) = true := by rw [decide_eq_true_eq]; omega
            have d2 : decide ((c.toNat : Int) ≤ 126) = true := by rw [decide_eq_true_eq]; omega
            have d3 : (32 : Int) ≤ (c.toNat : Int) := by omega
            have d4 : (c.toNat : Int) ≤ 126 := by omega
            clear ht hc h92 hp HU
            go_wp2_with (first
              | (go_at_call 55; (with_reducible refine HC2.mono ?_); rintro e w2 ⟨rfl, hr, hk⟩; have HR2 := Aside0.mk hr; have HK2 := Aside0.mk hk; have HO2 := Aside0.mk (Own.keep HO.out hk hgw); have HS2 : Aside0 (w.heap.size ≤ w2.heap.size) := ⟨Nat.le_trans HK.out.1 hk.1⟩; clear hr hk)
              | (go_at_call 54; (with_reducible refine (must_true _ _).mono ?_); rintro e w' ⟨rfl, rfl⟩)
              | ((with_reducible refine gate_builtin (b := .append) (xs := #[.tmp 35, .tmp 37]) rfl ?_); at_builtin; go_must (refine Kd.R_append B (w0 := w2) w.heap.size rfl (.tmp 35) (.tmp 37) 64 5 (.int .u8 0) 1 rfl Tryz.underlying64 info5 rfl (by decide) (by omega) (.slice A (ni acc).length c0) (ni acc) (c.toNat : Int) [.int .u8 (c.toNat : Int)] (fun _ => True) (fun _ => False) rfl rfl ?aP (fun _ hk => hk.elim) ?aF ?aO ?aB ?aS ?aL ?_; (case aP => exact rfl); (case aB => exact Below.refl _ _); (case aF => exact (fun _ _ => trivial)); (case aO => exact HO2.out); (case aS => exact HS2.out); (case aL => have h1 := HL0.out; have h2 := HA.out; rw [ni_len]; simp only [List.length_cons] at h2; omega); intro v9 w9 ho hb hg hat; have HO9 := Aside0.mk ho; have HB9 := Aside0.mk hb; clear ho hb hg hat)))
            go_roundg n
            case measure => omega
            case rel => exact ⟨acc ++ [c], r, ⟨by rw [ni_snoc]; exact HO9.out⟩, ⟨HR2.out.grow HB9.out hgw⟩, ⟨keep_b (keep2 HK.out HK2.out) HB9.out⟩, ⟨by have h1 := HF.out; have h2 := HT.out; simp only [List.length_cons] at h1 h2; omega⟩, ⟨by have h1 := HA.out; have h2 := HT.out; simp only [List.length_append, List.length_cons, List.length_nil] at h1 h2 ⊢; omega⟩, HU2⟩
          · have ht : tok (c :: r) = none := by unfold tok; simp only [h92, hp, if_false]
            obtain rfl : R = none := by rw [← HU.out, unq_e n acc r c hc ht]
            have hp2 : (c.toNat : Int) < 32 ∨ ((32 : Int) ≤ (c.toNat : Int) ∧ 126 < (c.toNat : Int)) := by omega
            clear ht hc h92 hp
            rcases hp2 with d1 | ⟨d1, d2⟩
            · have d0 : decide (32 ≤ (c.toNat : Int)) = false := by rw [decide_eq_false_iff_not]; omega
              go_wp2_with (first
                | (go_at_call 55; (with_reducible refine HC2.mono ?_); rintro e w2 ⟨rfl, hr, hk⟩; have HR2 := Aside0.mk hr; have HK2 := Aside0.mk hk; have HO2 := Aside0.mk (Own.keep HO.out hk hgw); have HS2 : Aside0 (w.heap.size ≤ w2.heap.size) := ⟨Nat.le_trans HK.out.1 hk.1⟩; clear hr hk)
                | (go_at_call 54; (with_reducible refine (must_false _ _).mono ?_); rintro e w' ⟨rfl, rfl⟩))
              exact ⟨rfl, rfl, HR2.out.below, keep2 HK.out HK2.out⟩
            · have d0 : decide ((c.toNat : Int) ≤ 126) = false := by rw [decide_eq_false_iff_not]; omega
              go_wp2_with (first
                | (go_at_call 55; (with_reducible refine HC2.mono ?_); rintro e w2 ⟨rfl, hr, hk⟩; have HR2 := Aside0.mk hr; have HK2 := Aside0.mk hk; have HO2 := Aside0.mk (Own.keep HO.out hk hgw); have HS2 : Aside0 (w.heap.size ≤ w2.heap.size) := ⟨Nat.le_trans HK.out.1 hk.1⟩; clear hr hk)
                | (go_at_call 54; (with_reducible refine (must_false _ _).mono ?_); rintro e w' ⟨rfl, rfl⟩))
              exact ⟨rfl, rfl, HR2.out.below, keep2 HK.out HK2.out⟩
/-- A text in quotes. -/
theorem quoted_calls (w0 w : World) (g : Nat) (s : Bs) (h : Rr w0 w g s) :
    Calls Tryz.prog 46 #[.pointer (some ⟨g, 0, none⟩)] w (QPost w0 w g (unqO s)) := by
  have hgw : g < w.heap.size := by obtain ⟨_, hk, _⟩ := h; exact blk_lt hk
  cases s with
  | nil => exact quoted_head w0 w g [] h (by simp)
  | cons c r =>
    by_cases hc : c = 34
    · subst hc
      exact quoted_in w0 w g r h hgw _ (by simp [unqO])
    · have e : unqO (c :: r) = none := by simp [unqO, hc]
      rw [e]
      exact quoted_head w0 w g (c :: r) h (by simpa using hc)
end Go.Proofs.YtoajcijjkkkaaaaGreatDoor.K

/- script's reader: number, keep. -/
import Derived.Test.YtoajcijjkkkaaaaGreatDoorScF
namespace Go.Proofs.YtoajcijjkkkaaaaGreatDoor.K
open Go.RowKit Go.Proofs.YtoajcijjkkkaaaaGreatDoorW.PrintWords Go.Proofs.YtoajcijjkkkaaaaGreatDoorW.PrintLast Go.Proofs.YtoajcijjkkkaaaaGreatDoorW.PrintMore
set_option linter.unusedVariables false
set_option linter.unusedSimpArgs false

theorem itoa_calls (n : Int) (h0 : -9223372036854775808 ≤ n) (h1 : n ≤ 9223372036854775807) (w0 w : World) (hT : Tb w0) (hb : Below w0.heap.size w0 w) :
    Calls Tryz.prog 24 #[.int .i64 n] w fun e w' => e = .returned (.string ⟨(Lib.itoa n).toArray⟩) ∧ Below w.heap.size w w' := by
  refine (L.strconv_Itoa n h0 h1 w (hT.below hb).pow).mono ?_
  rintro e w' ⟨rfl, k, os, rfl⟩
  exact ⟨rfl, Lib.below_grow _ _ (Nat.le_refl _) _ _⟩
theorem atoi_ok_calls (s : ByteArray) (hs : s.size ≤ 4294967280) (v : Int) (h : Lib.atoiAll s.data.toList = .ok v) (w : World) :
    Calls Tryz.prog 70 #[.string s] w fun e w' => e = .returned (.tuple #[.int .i64 v, .nilIface]) ∧ Below w.heap.size w w' := by
  refine (L.strconv_Atoi_ok s (by omega) v h w).mono ?_
  rintro e w' ⟨rfl, rfl | ⟨t, rfl⟩⟩
  · exact ⟨rfl, Below.refl _ _⟩
  · exact ⟨rfl, bytes_below (Below.refl _ _) (Nat.le_refl _) _ _⟩
def AtoiNo (w : World) (e : Ending) (w' : World) : Prop := ∃ (v : Int) (N : Nat), e = .returned (.tuple #[.int .i64 v, .iface 138 (.pointer (some ⟨N, 0, none⟩))]) ∧ Below w.heap.size w w'
theorem atoi_no_calls (s : ByteArray) (hs : s.size ≤ 4294967280) (h : ∀ v, Lib.atoiAll s.data.toList ≠ .ok v) (w0 w : World) (hT : Tb w0) (hb : Below w0.heap.size w0 w) :
    Calls Tryz.prog 70 #[.string s] w (AtoiNo w) := by
  have hT2 := hT.below hb
  by_cases he : Lib.atoiAll s.data.toList = .range
  · obtain ⟨tp, p, hv⟩ := hT2.rng
    refine (L.strconv_Atoi_range_var s (by omega) he tp p w hv).mono ?_
    rintro e w' ⟨N, rfl, _, _, hb2⟩
    exact ⟨_, N, rfl, hb2⟩
  · obtain ⟨tp, p, hv⟩ := hT2.syn
    refine (L.strconv_Atoi_bad_var s (by omega) h he tp p w hv).mono ?_
    rintro e w' ⟨N, rfl, _, _, hb2⟩
    exact ⟨_, N, rfl, hb2⟩

/-- What a reading that hands back a number leaves. -/
def NPost (w0 w : World) (g : Nat) (R : Option (Int × Bs)) (e : Ending) (w' : World) : Prop :=
  match R with
  | none => Wrong w0 w g e w'
  | some (v, r) => e = .returned (.int .i64 v) ∧ Rr w0 w' g r ∧ KeepBut w w' g none

theorem Rr.on {w0 w1 w2 : World} {g : Nat} {l : Bs} (h : Rr w0 w1 g l) (hb : Below w1.heap.size w1 w2) : Rr w0 w2 g l := by
  refine h.grow hb ?_
  obtain ⟨_, hk, _⟩ := h
  exact blk_lt hk
theorem keep_on {w w1 w2 : World} {g : Nat} (hk : KeepBut w w1 g none) (hb : Below w1.heap.size w1 w2) : KeepBut w w2 g none := keep2 hk (KeepBut.of_below hb g none)
theorem up_len (l : Bs) : (upTo l).length ≤ l.length := (List.takeWhile_prefix _).length_le

set_option maxHeartbeats 800000 in
theorem number_calls (w0 w : World) (g : Nat) (l : Bs) (hT : Tb w0) (h : Rr w0 w g l) :
    Calls Tryz.prog 53 #[.pointer (some ⟨g, 0, none⟩)] w (NPost w0 w g (rdNum l)) := by
  have HT := Aside0.mk hT
  have HW := word_calls w0 w g l h
  have hul : (upTo l).length ≤ 4294967280 := by have := up_len l; obtain ⟨_, _, _, _, _, hl⟩ := h; omega
  obtain ⟨u, hu⟩ : ∃ u : ByteArray, (⟨(upTo l).toArray⟩ : ByteArray) = u := ⟨_, rfl⟩
  have hud : u.data.toList = upTo l := by rw [← hu]
  have hus : u.size ≤ 4294967280 := by rw [ba_size, hud]; exact hul
  rw [hu] at HW
  obtain ⟨R, hR⟩ : ∃ R, rdNum l = R := ⟨_, rfl⟩
  rw [hR]
  clear h hu hul hT
  by_cases hok : ∃ v, Lib.atoiAll (upTo l) = .ok v
  · obtain ⟨v, hv⟩ := hok
    have hbd := Lib.atoiAll_bounds hv
    have HA := fun w => atoi_ok_calls u hus v (by rw [hud]; exact hv) w
    unfold rdNum at hR
    rw [hv] at hR
    simp only at hR
    by_cases h0 : 0 ≤ v
    · obtain ⟨t, ht⟩ : ∃ t : ByteArray, (⟨(Lib.itoa v).toArray⟩ : ByteArray) = t := ⟨_, rfl⟩
      have htd : t.toList = Lib.itoa v := by rw [Lib.toList_data, ← ht]
      have hud2 : u.toList = upTo l := by rw [Lib.toList_data, hud]
      have HI := fun w1 (hb : Below w0.heap.size w0 w1) => itoa_calls v (by omega) (by omega) w0 w1 HT.out hb
      rw [ht] at HI
      by_cases he : Lib.itoa v = upTo l
      · have e1 : (t.toList == u.toList) = true := by rw [htd, hud2, he, beq_self_eq_true]
        rw [if_pos ⟨h0, he⟩] at hR
        subst hR
        clear he htd hud2 ht hud hus hv
        go_enter Tryz.func53, Tryz.ntmps53
        go_wp2_with (first
          | (go_at_call 56; (with_reducible refine HW.mono ?_); rintro e w1 ⟨rfl, hr, hk⟩; have HR1 := Aside0.mk hr; have HK1 := Aside0.mk hk; clear hr hk)
          | (go_at_call 70; (with_reducible refine (HA _).mono ?_); rintro e w2 ⟨rfl, hb⟩; replace HR1 := Aside0.mk (HR1.out.on hb); replace HK1 := Aside0.mk (keep_on HK1.out hb); clear hb)
          | (go_at_call 24; (with_reducible refine (HI _ HR1.out.below).mono ?_); rintro e w3 ⟨rfl, hb⟩; replace HR1 := Aside0.mk (HR1.out.on hb); replace HK1 := Aside0.mk (keep_on HK1.out hb); clear hb)
          | (go_at_call 54; (with_reducible refine (must_true _ _).mono ?_); rintro e w' ⟨rfl, rfl⟩))
        go_ret
        exact ⟨rfl, HR1.out, HK1.out⟩
      · have e1 : (t.toList == u.toList) = false := by rw [htd, hud2, beq_eq_false_iff_ne]; exact he
        rw [if_neg (fun h => he h.2)] at hR
        subst hR
        clear he htd hud2 ht hud hus hv
        go_enter Tryz.func53, Tryz.ntmps53
        go_wp2_with (first
          | (go_at_call 56; (with_reducible refine HW.mono ?_); rintro e w1 ⟨rfl, hr, hk⟩; have HR1 := Aside0.mk hr; have HK1 := Aside0.mk hk; clear hr hk)
          | (go_at_call 70; (with_reducible refine (HA _).mono ?_); rintro e w2 ⟨rfl, hb⟩; replace HR1 := Aside0.mk (HR1.out.on hb); replace HK1 := Aside0.mk (keep_on HK1.out hb); clear hb)
          | (go_at_call 24; (with_reducible refine (HI _ HR1.out.below).mono ?_); rintro e w3 ⟨rfl, hb⟩; replace HR1 := Aside0.mk (HR1.out.on hb); replace HK1 := Aside0.mk (keep_on HK1.out hb); clear hb)
          | (go_at_call 54; (with_reducible refine (must_false _ _).mono ?_); rintro e w' ⟨rfl, rfl⟩))
        exact ⟨rfl, rfl, HR1.out.below, HK1.out⟩
    · have hneg : decide (0 ≤ v) = false := by rw [decide_eq_false_iff_not]; exact h0
      rw [if_neg (fun h => h0 h.1)] at hR
      subst hR
      clear hud hus hv
      go_enter Tryz.func53, Tryz.ntmps53
      go_wp2_with (first
        | (go_at_call 56; (with_reducible refine HW.mono ?_); rintro e w1 ⟨rfl, hr, hk⟩; have HR1 := Aside0.mk hr; have HK1 := Aside0.mk hk; clear hr hk)
        | (go_at_call 70; (with_reducible refine (HA _).mono ?_); rintro e w2 ⟨rfl, hb⟩; replace HR1 := Aside0.mk (HR1.out.on hb); replace HK1 := Aside0.mk (keep_on HK1.out hb); clear hb)
        | (go_at_call 54; (with_reducible refine (must_false _ _).mono ?_); rintro e w' ⟨rfl, rfl⟩))
      exact ⟨rfl, rfl, HR1.out.below, HK1.out⟩
  · have HA := fun w1 (hb : Below w0.heap.size w0 w1) => atoi_no_calls u hus (by rw [hud]; exact fun v hv => hok ⟨v, hv⟩) w0 w1 HT.out hb
    have hR2 : R = none := by
      rw [← hR]
      unfold rdNum
      split
      · exact absurd ⟨_, by assumption⟩ hok
      · rfl
      · rfl
    subst hR2
    clear hud hus hok hR
    go_enter Tryz.func53, Tryz.ntmps53
    go_wp2_with (first
      | (go_at_call 56; (with_reducible refine HW.mono ?_); rintro e w1 ⟨rfl, hr, hk⟩; have HR1 := Aside0.mk hr; have HK1 := Aside0.mk hk; clear hr hk)
      | (go_at_call 70; (with_reducible refine (HA _ HR1.out.below).mono ?_); rintro e w2 ⟨v, N, rfl, hb⟩; replace HR1 := Aside0.mk (HR1.out.on hb); replace HK1 := Aside0.mk (keep_on HK1.out hb); clear hb)
      | (go_at_call 54; (with_reducible refine (must_false _ _).mono ?_); rintro e w' ⟨rfl, rfl⟩))
    exact ⟨rfl, rfl, HR1.out.below, HK1.out⟩
end Go.Proofs.YtoajcijjkkkaaaaGreatDoor.K

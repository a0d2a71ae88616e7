/- script's reader: escaped, quoted. -/
import Derived.Test.YtoajcijjkkkaaaaGreatDoorScC
namespace Go.Proofs.YtoajcijjkkkaaaaGreatDoor.K
open Go.RowKit Go.Proofs.YtoajcijjkkkaaaaGreatDoorW.PrintWords Go.Proofs.YtoajcijjkkkaaaaGreatDoorW.PrintLast Go.Proofs.YtoajcijjkkkaaaaGreatDoorW.PrintMore
set_option linter.unusedVariables false
set_option linter.unusedSimpArgs false

theorem or_nib_all : ∀ x y : Fin 16, bits .or .u8 ((x.val : Int) * 16) (y.val : Int) = ((x.val * 16 + y.val : Nat) : Int) := by decide +kernel
theorem or_nib {x y : Nat} (hx : x < 16) (hy : y < 16) : bits .or .u8 ((x : Int) * 16) (y : Int) = ((x * 16 + y : Nat) : Int) := or_nib_all ⟨x, hx⟩ ⟨y, hy⟩
theorem Rr.below {w0 w : World} {g : Nat} {l : Bs} (h : Rr w0 w g l) : Below w0.heap.size w0 w := by
  obtain ⟨s, _, _, _, hb, _⟩ := h
  exact hb
theorem keep2 {a b c : World} {g : Nat} (h : KeepBut a b g none) (k : KeepBut b c g none) : KeepBut a c g none := h.trans k (.inl rfl)

set_option maxHeartbeats 400000 in
theorem escaped_nil (w0 w : World) (g : Nat) (h : Rr w0 w g []) :
    Calls Tryz.prog 65 #[.pointer (some ⟨g, 0, none⟩)] w (Wrong w0 w g) := by
  have HR := Aside0.mk h
  clear h
  go_enter Tryz.func65, Tryz.ntmps65
  go_wp2_with (go_at_call 55; (with_reducible refine (byte_nil w0 w g HR.out).mono ?_); rintro e w' ⟨rfl, hb, hk⟩)
  exact ⟨rfl, rfl, hb, hk⟩
set_option maxHeartbeats 400000 in
/-- A byte that is no x: a quote or a \, or else it is wrong. -/
theorem escaped_one (w0 w : World) (g : Nat) (c : UInt8) (r : Bs) (h : Rr w0 w g (c :: r)) (hx : c ≠ 120) (hq : c = 34 ∨ c = 92) :
    Calls Tryz.prog 65 #[.pointer (some ⟨g, 0, none⟩)] w fun e w' => e = .returned (.int .u8 c.toNat) ∧ Rr w0 w' g r ∧ KeepBut w w' g none := by
  have HR := Aside0.mk h
  have e1 : ((c.toNat : Int) != 120) = true := by
    rw [bne_iff_ne]
    exact fun e => hx (UInt8.toNat_inj.1 (by have e2 : ((UInt8.toNat 120 : Nat) : Int) = 120 := rfl
                                             omega))
  obtain ⟨k, hk⟩ : ∃ k : Int, (c.toNat : Int) = k := ⟨_, rfl⟩
  have hk2 : k = 34 ∨ k = 92 := by rcases hq with rfl | rfl <;> simp at hk <;> omega
  have HC := byte_cons w0 w g c r h
  rw [hk] at HC e1 ⊢
  clear h hx hq hk
  rcases hk2 with rfl | rfl
  all_goals
    go_enter Tryz.func65, Tryz.ntmps65
    go_wp2_with (first
      | (go_at_call 55; (with_reducible refine HC.mono ?_); rintro e w1 ⟨rfl, hr, hk⟩; have HR1 := Aside0.mk hr; have HK := Aside0.mk hk; clear hr hk)
      | (go_at_call 54; (with_reducible refine (must_true _ _).mono ?_); rintro e w' ⟨rfl, rfl⟩))
    go_ret
    exact ⟨rfl, HR1.out, HK.out⟩
set_option maxHeartbeats 400000 in
theorem escaped_odd (w0 w : World) (g : Nat) (c : UInt8) (r : Bs) (h : Rr w0 w g (c :: r)) (hx : c ≠ 120) (hq : ¬ (c = 34 ∨ c = 92)) :
    Calls Tryz.prog 65 #[.pointer (some ⟨g, 0, none⟩)] w (Wrong w0 w g) := by
  have HR := Aside0.mk h
  have ne : ∀ k : UInt8, c ≠ k → ((c.toNat : Int) == (k.toNat : Int)) = false := fun k hk => by
    rw [beq_eq_false_iff_ne]
    exact fun e => hk (UInt8.toNat_inj.1 (by omega))
  have e1 : ((c.toNat : Int) != 120) = true := by simpa using ne 120 hx
  have e2 : ((c.toNat : Int) == 34) = false := ne 34 (fun e => hq (.inl e))
  have e3 : ((c.toNat : Int) == 92) = false := ne 92 (fun e => hq (.inr e))
  clear h hx hq ne
  go_enter Tryz.func65, Tryz.ntmps65
  go_wp2_with (first
    | (go_at_call 55; (with_reducible refine (byte_cons w0 w g c r HR.out).mono ?_); rintro e w1 ⟨rfl, hr, hk⟩; have HR1 := Aside0.mk hr; have HK := Aside0.mk hk; clear hr hk)
    | (go_at_call 54; (with_reducible refine (must_false _ _).mono ?_); rintro e w' ⟨rfl, rfl⟩))
  exact ⟨rfl, rfl, HR1.out.below, HK.out⟩
set_option maxHeartbeats 400000 in
theorem escaped_xl (w0 w : World) (g : Nat) (a b : UInt8) (r : Bs) (x y : Nat) (h : Rr w0 w g (120 :: a :: b :: r)) (hx : nib a = some x) (hy : nib b = some y) (hv : x * 16 + y < 32) :
    Calls Tryz.prog 65 #[.pointer (some ⟨g, 0, none⟩)] w fun e w' => e = .returned (.int .u8 (x * 16 + y : Nat)) ∧ Rr w0 w' g r ∧ KeepBut w w' g none := by
  have HC := byte_cons w0 w g 120 _ h
  have e120 : ((UInt8.toNat 120 : Nat) : Int) = 120 := rfl
  rw [e120] at HC
  have HX := Aside0.mk hx
  have HY := Aside0.mk hy
  have hlx := (hexd_nib hx).1
  have hly := (hexd_nib hy).1
  have ho := or_nib hlx hly
  clear h hx hy
  obtain ⟨v, hvv⟩ : ∃ v : Nat, x * 16 + y = v := ⟨_, rfl⟩
  rw [hvv] at ho hv ⊢
  have w1 : IntKind.u8.wrap ((x : Int) * 16) = (x : Int) * 16 := by simp [IntKind.wrap, IntKind.bits, IntKind.signed]; omega
  clear hvv
  have hv1 : (v : Int) < 32 := by omega
  clear hv
  go_enter Tryz.func65, Tryz.ntmps65
  go_wp2_with (first | (go_at_call 55; (with_reducible refine HC.mono ?_); rintro e w1 ⟨rfl, hr, hk⟩; have HR1 := Aside0.mk hr; have HK := Aside0.mk hk; clear hr hk))
  refine (nibble_some w0 _ g a _ x HR1.out HX.out).mono ?_
  rintro e w2 ⟨rfl, hr, hk⟩
  have HR2 := Aside0.mk hr
  have HK2 := Aside0.mk (keep2 HK.out hk)
  clear hr hk HR1 HK
  go_wp2_with fail
  refine (nibble_some w0 _ g b _ y HR2.out HY.out).mono ?_
  rintro e w3 ⟨rfl, hr, hk⟩
  have HR3 := Aside0.mk hr
  have HK3 := Aside0.mk (keep2 HK2.out hk)
  clear hr hk HR2 HK2
  go_wp2_with (go_at_call 54; (with_reducible refine (must_true _ _).mono ?_); rintro e w' ⟨rfl, rfl⟩)
  go_ret
  exact ⟨rfl, HR3.out, HK3.out⟩
set_option maxHeartbeats 400000 in
theorem escaped_xh (w0 w : World) (g : Nat) (a b : UInt8) (r : Bs) (x y : Nat) (h : Rr w0 w g (120 :: a :: b :: r)) (hx : nib a = some x) (hy : nib b = some y) (hv : 126 < x * 16 + y) :
    Calls Tryz.prog 65 #[.pointer (some ⟨g, 0, none⟩)] w fun e w' => e = .returned (.int .u8 (x * 16 + y : Nat)) ∧ Rr w0 w' g r ∧ KeepBut w w' g none := by
  have HC := byte_cons w0 w g 120 _ h
  have e120 : ((UInt8.toNat 120 : Nat) : Int) = 120 := rfl
  rw [e120] at HC
  have HX := Aside0.mk hx
  have HY := Aside0.mk hy
  have hlx := (hexd_nib hx).1
  have hly := (hexd_nib hy).1
  have ho := or_nib hlx hly
  clear h hx hy
  obtain ⟨v, hvv⟩ : ∃ v : Nat, x * 16 + y = v := ⟨_, rfl⟩
  rw [hvv] at ho hv ⊢
  have w1 : IntKind.u8.wrap ((x : Int) * 16) = (x : Int) * 16 := by simp [IntKind.wrap, IntKind.bits, IntKind.signed]; omega
  clear hvv
  have hv1 : decide ((v : Int) < 32) = false := by rw [decide_eq_false_iff_not]; omega
  have hv2 : decide (126 < (v : Int)) = true := by rw [decide_eq_true_eq]; omega
  clear hv
  go_enter Tryz.func65, Tryz.ntmps65
  go_wp2_with (first | (go_at_call 55; (with_reducible refine HC.mono ?_); rintro e w1 ⟨rfl, hr, hk⟩; have HR1 := Aside0.mk hr; have HK := Aside0.mk hk; clear hr hk))
  refine (nibble_some w0 _ g a _ x HR1.out HX.out).mono ?_
  rintro e w2 ⟨rfl, hr, hk⟩
  have HR2 := Aside0.mk hr
  have HK2 := Aside0.mk (keep2 HK.out hk)
  clear hr hk HR1 HK
  go_wp2_with fail
  refine (nibble_some w0 _ g b _ y HR2.out HY.out).mono ?_
  rintro e w3 ⟨rfl, hr, hk⟩
  have HR3 := Aside0.mk hr
  have HK3 := Aside0.mk (keep2 HK2.out hk)
  clear hr hk HR2 HK2
  go_wp2_with (go_at_call 54; (with_reducible refine (must_true _ _).mono ?_); rintro e w' ⟨rfl, rfl⟩)
  go_ret
  exact ⟨rfl, HR3.out, HK3.out⟩
set_option maxHeartbeats 400000 in
theorem escaped_xm (w0 w : World) (g : Nat) (a b : UInt8) (r : Bs) (x y : Nat) (h : Rr w0 w g (120 :: a :: b :: r)) (hx : nib a = some x) (hy : nib b = some y) (hv : ¬ (x * 16 + y < 32 ∨ 126 < x * 16 + y)) :
    Calls Tryz.prog 65 #[.pointer (some ⟨g, 0, none⟩)] w (Wrong w0 w g) := by
  have HC := byte_cons w0 w g 120 _ h
  have e120 : ((UInt8.toNat 120 : Nat) : Int) = 120 := rfl
  rw [e120] at HC
  have HX := Aside0.mk hx
  have HY := Aside0.mk hy
  have hlx := (hexd_nib hx).1
  have hly := (hexd_nib hy).1
  have ho := or_nib hlx hly
  clear h hx hy
  obtain ⟨v, hvv⟩ : ∃ v : Nat, x * 16 + y = v := ⟨_, rfl⟩
  rw [hvv] at ho hv
  have w1 : IntKind.u8.wrap ((x : Int) * 16) = (x : Int) * 16 := by simp [IntKind.wrap, IntKind.bits, IntKind.signed]; omega
  clear hvv
  have hv1 : decide ((v : Int) < 32) = false := by rw [decide_eq_false_iff_not]; omega
  have hv2 : decide (126 < (v : Int)) = false := by rw [decide_eq_false_iff_not]; omega
  clear hv
  go_enter Tryz.func65, Tryz.ntmps65
  go_wp2_with (first | (go_at_call 55; (with_reducible refine HC.mono ?_); rintro e w1 ⟨rfl, hr, hk⟩; have HR1 := Aside0.mk hr; have HK := Aside0.mk hk; clear hr hk))
  refine (nibble_some w0 _ g a _ x HR1.out HX.out).mono ?_
  rintro e w2 ⟨rfl, hr, hk⟩
  have HR2 := Aside0.mk hr
  have HK2 := Aside0.mk (keep2 HK.out hk)
  clear hr hk HR1 HK
  go_wp2_with fail
  refine (nibble_some w0 _ g b _ y HR2.out HY.out).mono ?_
  rintro e w3 ⟨rfl, hr, hk⟩
  have HR3 := Aside0.mk hr
  have HK3 := Aside0.mk (keep2 HK2.out hk)
  clear hr hk HR2 HK2
  go_wp2_with (go_at_call 54; (with_reducible refine (must_false _ _).mono ?_); rintro e w' ⟨rfl, rfl⟩)
  exact ⟨rfl, rfl, HR3.out.below, HK3.out⟩
set_option maxHeartbeats 400000 in
theorem escaped_x0 (w0 w : World) (g : Nat) (h : Rr w0 w g [120])  :
    Calls Tryz.prog 65 #[.pointer (some ⟨g, 0, none⟩)] w (Wrong w0 w g) := by
  have HC := byte_cons w0 w g 120 _ h
  have e120 : ((UInt8.toNat 120 : Nat) : Int) = 120 := rfl
  rw [e120] at HC
  clear h
  go_enter Tryz.func65, Tryz.ntmps65
  go_wp2_with (first | (go_at_call 55; (with_reducible refine HC.mono ?_); rintro e w1 ⟨rfl, hr, hk⟩; have HR1 := Aside0.mk hr; have HK := Aside0.mk hk; clear hr hk))
  refine (nibble_nil w0 _ g HR1.out).mono ?_
  rintro e w9 ⟨rfl, hb, hk⟩
  exact ⟨rfl, rfl, hb, keep2 HK.out hk⟩
set_option maxHeartbeats 400000 in
theorem escaped_xa (w0 w : World) (g : Nat) (a : UInt8) (r : Bs) (h : Rr w0 w g (120 :: a :: r)) (hn : nib a = none) :
    Calls Tryz.prog 65 #[.pointer (some ⟨g, 0, none⟩)] w (Wrong w0 w g) := by
  have HC := byte_cons w0 w g 120 _ h
  have e120 : ((UInt8.toNat 120 : Nat) : Int) = 120 := rfl
  rw [e120] at HC
  clear h
  go_enter Tryz.func65, Tryz.ntmps65
  go_wp2_with (first | (go_at_call 55; (with_reducible refine HC.mono ?_); rintro e w1 ⟨rfl, hr, hk⟩; have HR1 := Aside0.mk hr; have HK := Aside0.mk hk; clear hr hk))
  refine (nibble_none w0 _ g a _ HR1.out hn).mono ?_
  rintro e w9 ⟨rfl, hb, hk⟩
  exact ⟨rfl, rfl, hb, keep2 HK.out hk⟩
set_option maxHeartbeats 400000 in
theorem escaped_xa0 (w0 w : World) (g : Nat) (a : UInt8) (x : Nat) (h : Rr w0 w g [120, a]) (hx : nib a = some x)  :
    Calls Tryz.prog 65 #[.pointer (some ⟨g, 0, none⟩)] w (Wrong w0 w g) := by
  have HC := byte_cons w0 w g 120 _ h
  have e120 : ((UInt8.toNat 120 : Nat) : Int) = 120 := rfl
  rw [e120] at HC
  have HX := Aside0.mk hx
  clear hx
  clear h
  go_enter Tryz.func65, Tryz.ntmps65
  go_wp2_with (first | (go_at_call 55; (with_reducible refine HC.mono ?_); rintro e w1 ⟨rfl, hr, hk⟩; have HR1 := Aside0.mk hr; have HK := Aside0.mk hk; clear hr hk))
  refine (nibble_some w0 _ g a _ x HR1.out HX.out).mono ?_
  rintro e w2 ⟨rfl, hr, hk⟩
  have HR2 := Aside0.mk hr
  have HK2 := Aside0.mk (keep2 HK.out hk)
  clear hr hk HR1 HK
  go_wp2_with fail
  refine (nibble_nil w0 _ g HR2.out).mono ?_
  rintro e w9 ⟨rfl, hb, hk⟩
  exact ⟨rfl, rfl, hb, keep2 HK2.out hk⟩
set_option maxHeartbeats 400000 in
theorem escaped_xb (w0 w : World) (g : Nat) (a b : UInt8) (r : Bs) (x : Nat) (h : Rr w0 w g (120 :: a :: b :: r)) (hx : nib a = some x) (hn : nib b = none) :
    Calls Tryz.prog 65 #[.pointer (some ⟨g, 0, none⟩)] w (Wrong w0 w g) := by
  have HC := byte_cons w0 w g 120 _ h
  have e120 : ((UInt8.toNat 120 : Nat) : Int) = 120 := rfl
  rw [e120] at HC
  have HX := Aside0.mk hx
  clear hx
  clear h
  go_enter Tryz.func65, Tryz.ntmps65
  go_wp2_with (first | (go_at_call 55; (with_reducible refine HC.mono ?_); rintro e w1 ⟨rfl, hr, hk⟩; have HR1 := Aside0.mk hr; have HK := Aside0.mk hk; clear hr hk))
  refine (nibble_some w0 _ g a _ x HR1.out HX.out).mono ?_
  rintro e w2 ⟨rfl, hr, hk⟩
  have HR2 := Aside0.mk hr
  have HK2 := Aside0.mk (keep2 HK.out hk)
  clear hr hk HR1 HK
  go_wp2_with fail
  refine (nibble_none w0 _ g b _ HR2.out hn).mono ?_
  rintro e w9 ⟨rfl, hb, hk⟩
  exact ⟨rfl, rfl, hb, keep2 HK2.out hk⟩
theorem escaped_none (w0 w : World) (g : Nat) (s : Bs) (h : Rr w0 w g s) (he : esc s = none) :
    Calls Tryz.prog 65 #[.pointer (some ⟨g, 0, none⟩)] w (Wrong w0 w g) := by
  unfold esc at he
  split at he
  · exact escaped_nil w0 w g h
  · rename_i d r
    by_cases hd : d = 120
    · rw [if_pos hd] at he
      subst hd
      cases r with
      | nil => exact escaped_x0 w0 w g h
      | cons a r =>
        cases hx : nib a with
        | none => exact escaped_xa w0 w g a r h hx
        | some x =>
          cases r with
          | nil => exact escaped_xa0 w0 w g a x h hx
          | cons b r =>
            cases hy : nib b with
            | none => exact escaped_xb w0 w g a b r x h hx hy
            | some y =>
              simp only [hx, hy] at he
              split at he
              · exact absurd he (by simp)
              · exact escaped_xm w0 w g a b r x y h hx hy (by assumption)
    · rw [if_neg hd] at he
      by_cases hq : d = 34 ∨ d = 92
      · rw [if_pos hq] at he
        exact absurd he (by simp)
      · exact escaped_odd w0 w g d r h hd hq
theorem escaped_some (w0 w : World) (g : Nat) (s r : Bs) (v : UInt8) (h : Rr w0 w g s) (he : esc s = some (v, r)) :
    Calls Tryz.prog 65 #[.pointer (some ⟨g, 0, none⟩)] w fun e w' => e = .returned (.int .u8 v.toNat) ∧ Rr w0 w' g r ∧ KeepBut w w' g none := by
  unfold esc at he
  split at he
  · exact absurd he (by simp)
  · rename_i d r0
    by_cases hd : d = 120
    · rw [if_pos hd] at he
      subst hd
      split at he
      · rename_i a b r1
        split at he
        · rename_i x y hx hy
          split at he
          · rename_i hv
            simp only [Option.some.injEq, Prod.mk.injEq] at he
            obtain ⟨rfl, rfl⟩ := he
            have e : (UInt8.ofNat (x * 16 + y)).toNat = x * 16 + y := by
              have := (hexd_nib hx).1
              have := (hexd_nib hy).1
              rw [UInt8.toNat_ofNat']
              omega
            rw [e]
            rcases hv with hv | hv
            · exact escaped_xl w0 w g a b r1 x y h hx hy hv
            · exact escaped_xh w0 w g a b r1 x y h hx hy hv
          · exact absurd he (by simp)
        · exact absurd he (by simp)
      · exact absurd he (by simp)
    · rw [if_neg hd] at he
      by_cases hq : d = 34 ∨ d = 92
      · rw [if_pos hq] at he
        simp only [Option.some.injEq, Prod.mk.injEq] at he
        obtain ⟨rfl, rfl⟩ := he
        exact escaped_one w0 w g d r0 h hd hq
      · rw [if_neg hq] at he
        exact absurd he (by simp)
end Go.Proofs.YtoajcijjkkkaaaaGreatDoor.K

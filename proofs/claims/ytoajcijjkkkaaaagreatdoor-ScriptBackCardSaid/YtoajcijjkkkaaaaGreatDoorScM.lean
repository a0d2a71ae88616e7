/- script.digits. -/
import Derived.Test.YtoajcijjkkkaaaaGreatDoorScL
import Derived.Test.YtoajcijjkkkaaaaGreatDoorScH
namespace Go.Proofs.YtoajcijjkkkaaaaGreatDoor.K
open Go.RowKit Go.Proofs.YtoajcijjkkkaaaaGreatDoorW.PrintWords Go.Proofs.YtoajcijjkkkaaaaGreatDoorW.PrintLast Go.Proofs.YtoajcijjkkkaaaaGreatDoorW.PrintMore
set_option linter.unusedVariables false
set_option linter.unusedSimpArgs false

/-- The digit of a bool. -/
def dg1 (b : Bool) : UInt8 := if b then 49 else 48
theorem digits_eq (l : List Bool) : digits l = if l.isEmpty then [45] else l.map dg1 := rfl

set_option maxRecDepth 100000 in
set_option maxHeartbeats 2000000 in
theorem digits_calls (l : List Bool) (A : Option Addr) (c : Nat) (w : World) (hC : Kd.bool.C w A l.length l) (hlen : l.length ≤ 1000) :
    Calls Tryz.prog 25 #[.slice A l.length c] w fun e w' => e = .returned (.string ⟨(digits l).toArray⟩) ∧ Below w.heap.size w w' := by
  have HC := Aside0.mk hC
  obtain ⟨N, hN⟩ : ∃ N, l.length = N := ⟨_, rfl⟩
  rw [hN] at hlen ⊢
  have HN := Aside0.mk hN
  clear hC hN
  by_cases h0 : N = 0
  · subst h0
    have hl : l = [] := List.eq_nil_of_length_eq_zero HN.out
    subst hl
    go_enter Tryz.func25, Tryz.ntmps25
    go_wp2
    go_ret
    exact ⟨rfl, Below.refl _ _⟩
  · have e0 : ((N : Int) == 0) = false := by rw [beq_eq_false_iff_ne]; omega
    have hm : (N : Int) ≤ 1000 := by omega
    have HD : Aside0 (digits l = l.map dg1) := ⟨by rw [digits_eq, if_neg]; rw [List.isEmpty_iff]; rintro rfl; exact h0 HN.out.symm⟩
    have hmf : ∀ (fn : Fn) (first cap : Array Value) (w : World), (Instr.makeFunc fn first cap).run Tryz.prog w = .ok (.func fn first cap) w := fun _ _ _ _ => rfl
    clear h0
    go_enter Tryz.func25, Tryz.ntmps25
    go_wp2_with fail
    obtain ⟨b, hb⟩ : ∃ b, w.heap.size = b := ⟨_, rfl⟩
    have HBLD : Aside0 (Bld b b [] (w.alloc (.cells #[.pointer none, .slice none 0 0] 83))) := ⟨by
      rw [← hb]
      exact .inl ⟨Nat.le_refl _, _, blk_new w (.cells #[.pointer none, .slice none 0 0] 83 (0, 0)), ⟨rfl, .inl ⟨rfl, rfl⟩⟩, by simp [Value.ownBlock]⟩⟩
    have HB : Aside0 (Below b w (w.alloc (.cells #[.pointer none, .slice none 0 0] 83))) := ⟨by rw [← hb]; exact below_alloc (Below.refl _ _) _⟩
    have HBW : Aside0 (w.heap.size = b) := ⟨hb⟩
    rw [hb]
    clear hb hmf
    go_loopg [14] (N + 1) (fun gf v14 wr => ∃ (k : Nat), v14 = .int .i64 k ∧ k ≤ N ∧ Aside0 (Bld b b ((l.take k).map dg1) wr) ∧ Aside0 (Below b w wr) ∧ N < k + gf)
    case atStart => exact ⟨0, rfl, by omega, HBLD, HB, by omega⟩
    case round =>
      obtain ⟨k, rfl, hk, HBLD, HB, hgf⟩ := hrel
      obtain ⟨n, rfl⟩ : ∃ n, gk = n + 1 := ⟨gk - 1, by omega⟩
      have HS : Aside0 (b ≤ wr.heap.size) := ⟨by have := HB.out.size; have := HBW.out; omega⟩
      by_cases hlt : k < N
      · obtain ⟨ad, rfl, hx⟩ := Kd.at_bool (by rw [HN.out] at HC; exact HC.out) (k : Int) (by omega) (by omega)
        rw [Int.toNat_natCast] at hx
        obtain ⟨x, hxx⟩ : ∃ x, rdOf false l (k : Int) = x := ⟨_, rfl⟩
        rw [hxx] at hx
        have htk : (l.take (k + 1)).map dg1 = (l.take k).map dg1 ++ [dg1 x] := by
          have hk2 : k < l.length := by rw [HN.out]; exact hlt
          have h2 : l[k] = x := by
            rw [← hxx]
            unfold rdOf
            rw [Int.toNat_natCast, List.getD_eq_getElem?_getD, List.getElem?_eq_getElem hk2]
            rfl
          rw [List.take_succ_eq_append_getElem hk2, h2, List.map_append]
          rfl
        have HTK := Aside0.mk htk
        have hlen2 : ((l.take k).map dg1).length + 1 ≤ 1000000000 := by rw [List.length_map, List.length_take]; omega
        have HBB : Below w.heap.size w wr := HBW.out.symm ▸ HB.out
        have hcell := pw_cell_below HBB hx
        have hwb := wbyte_calls b b ((l.take k).map dg1) (dg1 x) wr HBLD.out hlen2 HS.out
        clear hxx htk hlen2 hx HBB
        cases x
        · have e48 : ((dg1 false).toNat : Int) = 48 := rfl
          rw [e48] at hwb
          clear e48
          go_wp2_with (go_at_call 50; (with_reducible refine hwb.mono ?_); rintro e w9 ⟨rfl, h1, h2⟩; have H1 := Aside0.mk h1; have H2 := Aside0.mk h2; clear h1 h2)
          go_roundg n
          case measure => omega
          case rel => exact ⟨k + 1, by go_num, by omega, ⟨by rw [HTK.out]; exact H1.out⟩, ⟨HB.out.trans H2.out⟩, by omega⟩
        · have e49 : ((dg1 true).toNat : Int) = 49 := rfl
          rw [e49] at hwb
          clear e49
          go_wp2_with (go_at_call 50; (with_reducible refine hwb.mono ?_); rintro e w9 ⟨rfl, h1, h2⟩; have H1 := Aside0.mk h1; have H2 := Aside0.mk h2; clear h1 h2)
          go_roundg n
          case measure => omega
          case rel => exact ⟨k + 1, by go_num, by omega, ⟨by rw [HTK.out]; exact H1.out⟩, ⟨HB.out.trans H2.out⟩, by omega⟩
      · obtain rfl : k = N := by omega
        have hu : l.take k = l := by rw [List.take_of_length_le]; rw [HN.out]; omega
        have hs := bstr_calls b b ((l.take k).map dg1) wr HBLD.out HS.out
        rw [hu, ← HD.out] at hs
        clear hu
        go_wp2_with (go_at_call 42; (with_reducible refine hs.mono ?_); rintro e w9 ⟨rfl, h2⟩; have H2 := Aside0.mk h2; clear h2)
        go_ret
        exact ⟨rfl, by rw [HBW.out]; exact HB.out.trans H2.out⟩
end Go.Proofs.YtoajcijjkkkaaaaGreatDoor.K

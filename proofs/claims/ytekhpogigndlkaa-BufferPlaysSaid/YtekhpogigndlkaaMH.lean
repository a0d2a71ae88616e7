/- cachetteref06.All on a list and itself; lists in order; nil ways. The law BufferFull. -/
import Derived.Test.YtekhpogigndlkaaMG
namespace Go.Proofs.Ytekhpogigndlkaa.K
open Go.RowKit Go.Proofs.YtekhpogigndlkaaW.PrintWords Go.Proofs.YtekhpogigndlkaaW.PrintLast Go.Proofs.YtekhpogigndlkaaW.PrintMore
set_option linter.unusedVariables false
set_option linter.unusedSimpArgs false

theorem rsame_l (x : List Int) (hx : x.length ≤ 1000000) : ∀ (k n : Nat), x.length < n + k → n ≤ x.length → X.cachetteref01_Same.l0 k x x (n : Int) = some true
  | 0, n, h1, h2 => by omega
  | k + 1, n, h1, h2 => by
    unfold X.cachetteref01_Same.l0
    by_cases h : n < x.length
    · rw [if_pos (show (n : Int) < (x.length : Int) by omega), if_pos (show (0 : Int) ≤ n by omega), if_pos (show (n : Int) < (x.length : Int) by omega), if_pos rfl, w64 (x := (n : Int) + 1) (y := ((n + 1 : Nat) : Int)) (by simp) (by omega)]
      exact rsame_l x hx k (n + 1) (by omega) (by omega)
    · rw [if_neg (by omega)]
theorem rsame_f (x : List Int) (hx : x.length ≤ 1000000) (k : Nat) (hk : x.length < k) : X.cachetteref01_Same.f k x x = some true := by
  rw [X.cachetteref01_Same.f, if_pos rfl]
  exact rsame_l x hx k 0 (by omega) (Nat.zero_le _)
theorem esame_refl (e : En) (he : e.f5.length ≤ 1000000) (k : Nat) (hk : e.f5.length < k) : X.cachetteref06_Same.f k e.f0 e.f1 e.f2 e.f3.f0 e.f3.f1 e.f4 e.f5 e.f6 e.f0 e.f1 e.f2 e.f3.f0 e.f3.f1 e.f4 e.f5 e.f6 = some true := by
  unfold X.cachetteref06_Same.f
  simp [rsame_f e.f5 he k hk]
theorem all_l (x : List En) (hx : x.length ≤ 100000) (hb : ∀ e ∈ x, e.f5.length ≤ 1100) : ∀ (k n : Nat), x.length + 2000 < n + k → n ≤ x.length → X.cachetteref06_All.l0 k x x (n : Int) = some true
  | 0, n, h1, h2 => by omega
  | k + 1, n, h1, h2 => by
    unfold X.cachetteref06_All.l0
    by_cases h : n < x.length
    · have hm : X.rd_T33 x (n : Int) ∈ x := by
        unfold X.rd_T33
        rw [Int.toNat_natCast, List.getD_eq_getElem?_getD, List.getElem?_eq_getElem h]
        exact List.getElem_mem h
      have hb' := hb _ hm
      rw [if_pos (show (n : Int) < (x.length : Int) by omega), if_pos (show (0 : Int) ≤ n by omega), if_pos (show (n : Int) < (x.length : Int) by omega), esame_refl _ (by omega) k (by omega), Option.bind_some, if_pos rfl, w64 (x := (n : Int) + 1) (y := ((n + 1 : Nat) : Int)) (by simp) (by omega)]
      exact all_l x hx hb k (n + 1) (by omega) (by omega)
    · rw [if_neg (by omega)]
theorem all_f (x : List En) (hx : x.length ≤ 100000) (hb : ∀ e ∈ x, e.f5.length ≤ 1100) : X.cachetteref06_All.f 200000 x x = some true := by
  rw [X.cachetteref06_All.f, if_pos rfl]
  exact all_l x hx hb 200000 0 (by omega) (Nat.zero_le _)
/-- What is in order and has each key once is one list. -/
theorem srt_eq : ∀ {l m : List En}, srt l → srt m → l.Perm m → (l.map keyE).Nodup → l = m
  | [], m, _, _, hp, _ => by
    have := hp.length_eq
    exact (List.eq_nil_of_length_eq_zero (by simpa using this.symm)).symm
  | a :: l, [], _, _, hp, _ => by simpa using hp.length_eq
  | a :: l, b :: m, hl, hm, hp, hn => by
    have hl' := List.pairwise_cons.1 hl
    have hm' := List.pairwise_cons.1 hm
    have hab : a = b := by
      rcases List.mem_cons.1 (hp.mem_iff.1 List.mem_cons_self) with h | h
      · exact h
      · rcases List.mem_cons.1 (hp.mem_iff.2 List.mem_cons_self) with h' | h'
        · exact h'.symm
        · have hk : keyE a = keyE b := ltK.eq (hm'.1 a h) (hl'.1 b h')
          exfalso
          rw [List.map_cons, List.nodup_cons] at hn
          exact hn.1 (by rw [hk]; exact List.mem_map.2 ⟨b, h', rfl⟩)
    subst hab
    rw [srt_eq hl'.2 hm'.2 ((List.perm_cons a).1 hp) (by rw [List.map_cons, List.nodup_cons] at hn; exact hn.2)]
end Go.Proofs.Ytekhpogigndlkaa.K

namespace Go.Proofs.Ytekhpogigndlkaa.K
open Go.RowKit Go.Proofs.YtekhpogigndlkaaW.PrintWords Go.Proofs.YtekhpogigndlkaaW.PrintLast Go.Proofs.YtekhpogigndlkaaW.PrintMore
set_option linter.unusedVariables false
set_option linter.unusedSimpArgs false

end Go.Proofs.Ytekhpogigndlkaa.K

/- A text's lines; what script.Parse makes of them. Plain. -/
import Derived.Test.YtoajcijjkkkaaaaGreatDoorScW
import Derived.Lib.SplitLaws
namespace Go.Proofs.YtoajcijjkkkaaaaGreatDoor.K
open Go.RowKit
set_option linter.unusedVariables false
set_option linter.unusedSimpArgs false

/-- The lines of a text. -/
def lns : Bs → List Bs
  | [] => [[]]
  | c :: l => if c = 10 then [] :: lns l else match lns l with
    | [] => [[c]]
    | h :: t => (c :: h) :: t
theorem lns_ne (l : Bs) : lns l ≠ [] := by
  cases l with
  | nil => simp [lns]
  | cons c l =>
    unfold lns
    split
    · simp
    · split <;> simp
theorem lns_nl (l : Bs) : lns (10 :: l) = [] :: lns l := by simp [lns]
theorem lns_other {c : UInt8} {l h : Bs} {t : List Bs} (hc : c ≠ 10) (e : lns l = h :: t) : lns (c :: l) = (c :: h) :: t := by
  rw [lns, if_neg hc, e]
theorem lns_len (l : Bs) : (lns l).length ≤ l.length + 1 := by
  induction l with
  | nil => simp [lns]
  | cons c l ih =>
    by_cases hc : c = 10
    · subst hc; rw [lns_nl]; simp only [List.length_cons]; omega
    · obtain ⟨h, t, e⟩ := List.exists_cons_of_ne_nil (lns_ne l)
      rw [lns_other hc e]
      rw [e] at ih
      simp only [List.length_cons] at ih ⊢
      omega
theorem lns_mem (l : Bs) : ∀ t ∈ lns l, t.length ≤ l.length := by
  induction l with
  | nil => intro t ht; simp [lns] at ht; subst ht; simp
  | cons c l ih =>
    intro u hu
    by_cases hc : c = 10
    · subst hc
      rw [lns_nl] at hu
      rcases List.mem_cons.1 hu with rfl | hu
      · simp
      · have := ih u hu; simp only [List.length_cons]; omega
    · obtain ⟨h, t, e⟩ := List.exists_cons_of_ne_nil (lns_ne l)
      rw [lns_other hc e] at hu
      rw [e] at ih
      rcases List.mem_cons.1 hu with rfl | hu
      · have := ih h (by simp); simp only [List.length_cons]; omega
      · have := ih u (by simp [hu]); simp only [List.length_cons]; omega
/-- A line, and what is behind it. -/
theorem lns_app : ∀ (a b : Bs), (∀ c ∈ a, c ≠ 10) → lns (a ++ 10 :: b) = a :: lns b
  | [], b, _ => lns_nl b
  | c :: a, b, h => by
    rw [List.cons_append]
    exact lns_other (h c (by simp)) (lns_app a b (fun x hx => h x (by simp [hx])))
theorem lns_one : ∀ (a : Bs), (∀ c ∈ a, c ≠ 10) → lns a = [a]
  | [], _ => rfl
  | c :: a, h => lns_other (h c (by simp)) (lns_one a (fun x hx => h x (by simp [hx])))
theorem index_nl_eq (l : Bs) : Lib.index (10 :: l) [10] = 0 := by rw [Lib.index]; simp [List.isPrefixOf]
theorem index_nl_ne {b : UInt8} (l : Bs) (h : b ≠ 10) : Lib.index (b :: l) [10] = if Lib.index l [10] == -1 then -1 else Lib.index l [10] + 1 := by
  have hp : ([10] : List UInt8).isPrefixOf (b :: l) = false := by simp [List.isPrefixOf, Ne.symm h]
  rw [Lib.index, hp]
  simp
theorem splitK_lns : ∀ (k : Nat) (l : Bs), Lib.count l [10] = k → Lib.splitK [10] 0 k l = lns l
  | k, [], h => by
    have h0 : Lib.count ([] : Bs) [10] = 0 := by rw [Lib.count_one]; rfl
    rw [h0] at h
    subst h
    rfl
  | k, b :: l, h => by
    by_cases hb : b = 10
    · subst hb
      rw [Lib.count_cons_eq] at h
      obtain ⟨j, rfl⟩ : ∃ j, k = j + 1 := ⟨k - 1, by omega⟩
      unfold Lib.splitK
      rw [index_nl_eq]
      have e : ((0 : Int) == -1) = false := by decide
      rw [e]
      simp only [Bool.false_eq_true, if_false, Int.toNat_zero, Nat.zero_add, List.take_zero, List.length_cons, List.length_nil, List.drop_succ_cons, List.drop_zero]
      rw [lns_nl, splitK_lns j l (by omega)]
    · rw [Lib.count_cons_ne b 10 l hb] at h
      have ih := splitK_lns k l h
      cases k with
      | zero =>
        have e : lns l = [l] := ih.symm.trans rfl
        rw [lns_other hb e]
        rfl
      | succ j =>
        unfold Lib.splitK at ih ⊢
        rw [index_nl_ne l hb]
        by_cases hm : Lib.index l [10] = -1
        · rw [hm] at ih ⊢
          simp only [beq_self_eq_true, if_true] at ih ⊢
          rw [lns_other hb ih.symm]
        · have hge := Lib.index_ge l [10]
          obtain ⟨i, hi⟩ : ∃ i : Nat, Lib.index l [10] = i := ⟨(Lib.index l [10]).toNat, by omega⟩
          rw [hi] at ih ⊢
          have e1 : (((i : Nat) : Int) == -1) = false := by rw [beq_eq_false_iff_ne]; omega
          have e2 : (((i : Nat) : Int) + 1 == -1) = false := by rw [beq_eq_false_iff_ne]; omega
          have e3 : (((i : Nat) : Int) + 1).toNat = i + 1 := by omega
          rw [e1] at ih ⊢
          simp only [Bool.false_eq_true, if_false, e2, e3, Int.toNat_natCast, Nat.add_zero] at ih ⊢
          have e4 : i + 1 + ([10] : Bs).length = (i + [10].length) + 1 := by simp
          rw [List.take_succ_cons, e4, List.drop_succ_cons]
          exact (lns_other hb ih.symm).symm
theorem split_lns (s : ByteArray) : (Lib.splitB ⟨#[10]⟩ 0 (Lib.countB s ⟨#[10]⟩) s).map (·.data.toList) = lns s.data.toList := by
  rw [Lib.splitB_data]
  exact splitK_lns _ _ rfl

/-- A line that is passed over. -/
def skp (t : Bs) : Bool := t.isEmpty || t.head? == some 35
def stepOf (t : Bs) : List Stp := if skp t then [] else (whole t).toList
def badL (t : Bs) : Bool := !skp t && (whole t).isNone
def stepsOf (ls : List Bs) : List Stp := ls.flatMap stepOf
def fauOf : Nat → List Bs → List Nat
  | _, [] => []
  | i, t :: ts => if badL t then i :: fauOf (i + 1) ts else fauOf (i + 1) ts
theorem stepsOf_snoc (ls : List Bs) (t : Bs) : stepsOf (ls ++ [t]) = stepsOf ls ++ stepOf t := by simp [stepsOf]
theorem fauOf_snoc : ∀ (i : Nat) (ls : List Bs) (t : Bs), fauOf i (ls ++ [t]) = fauOf i ls ++ if badL t then [i + ls.length] else []
  | i, [], t => by simp [fauOf]
  | i, u :: ls, t => by
    rw [List.cons_append]
    unfold fauOf
    rw [fauOf_snoc (i + 1) ls t]
    have e : i + 1 + ls.length = i + (ls.length + 1) := by omega
    rw [List.length_cons, e]
    split <;> simp
theorem stepOf_len (t : Bs) : (stepOf t).length ≤ 1 := by
  unfold stepOf
  split
  · simp
  · cases whole t <;> simp
theorem stepsOf_len (ls : List Bs) : (stepsOf ls).length ≤ ls.length := by
  induction ls with
  | nil => simp [stepsOf]
  | cons t ls ih =>
    have := stepOf_len t
    have e : stepsOf (t :: ls) = stepOf t ++ stepsOf ls := by simp [stepsOf]
    rw [e, List.length_append, List.length_cons]
    omega
theorem fauOf_len : ∀ (i : Nat) (ls : List Bs), (fauOf i ls).length ≤ ls.length
  | _, [] => by simp [fauOf]
  | i, t :: ls => by
    have := fauOf_len (i + 1) ls
    unfold fauOf
    split <;> simp only [List.length_cons] <;> omega
def ofStp (x : Stp) : SS := ⟨x.who, x.kind, ⟨x.p.toArray⟩, ⟨x.q.toArray⟩, x.n, x.m, x.keep⟩
def ofFau (i : Nat) : SF := ⟨i, 4⟩
theorem toStp_of (x : Stp) : toStp (ofStp x) = x := by
  cases x
  simp [toStp, ofStp]
end Go.Proofs.YtoajcijjkkkaaaaGreatDoor.K

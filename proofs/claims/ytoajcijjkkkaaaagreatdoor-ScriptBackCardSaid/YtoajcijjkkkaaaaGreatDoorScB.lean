/- Layer 28, the plain law: a step, its line, and the step of a line. No program in this text. -/
import Derived.Test.YtoajcijjkkkaaaaGreatDoorScA
namespace Go.Proofs.YtoajcijjkkkaaaaGreatDoor.K
set_option linter.unusedVariables false
set_option linter.unusedSimpArgs false

/-- A step. -/
@[ext] structure Stp where
  who : Int
  kind : Int
  p : Bs
  q : Bs
  n : Int
  m : Int
  keep : List Bool
/-- The words, and which arguments each has. -/
def tab : List (Bs × Bs) :=
  [([109, 107, 100, 105, 114], [80]),
   ([119, 114, 105, 116, 101], [80, 81]),
   ([114, 101, 97, 100], [80]),
   ([108, 105, 115, 116], [80]),
   ([114, 101, 110, 97, 109, 101], [80, 81]),
   ([114, 101, 109, 111, 118, 101], [80, 78]),
   ([105, 110, 118, 105, 116, 101], [78]),
   ([114, 101, 118, 111, 107, 101], [78]),
   ([112, 117, 115, 104], []),
   ([112, 117, 108, 108], [78]),
   ([109, 101, 101, 116], [78]),
   ([100, 114, 111, 112], [78]),
   ([97, 103, 97, 105, 110], [78]),
   ([116, 117, 114, 110], [78, 77]),
   ([115, 119, 97, 112], [78, 77]),
   ([114, 101, 119, 105, 110, 100], []),
   ([99, 114, 97, 115, 104], [78]),
   ([114, 101, 115, 116, 97, 114, 116], [75]),
   ([99, 111, 109, 112, 97, 99, 116], [])]
theorem tab_len : tab.length = 19 := rfl
def wordOf (d : Int) : Bs := if 0 ≤ d ∧ d < 19 then (tab.getD d.toNat ([], [])).1 else []
def argsOf (d : Int) : Bs := if 0 ≤ d ∧ d < 19 then (tab.getD d.toNat ([], [])).2 else []
def hasA (d : Int) (a : UInt8) : Bool := (argsOf d).contains a
def numOk (n : Int) (has : Bool) : Bool := n == 0 || (has && decide (0 < n) && decide (n ≤ 1000000))
/-- Which steps are right. -/
def rightB (x : Stp) : Bool :=
  !(wordOf x.kind).isEmpty && decide (0 ≤ x.who) && decide (x.who < 8) &&
  decide (x.p.length ≤ 500) && decide (x.q.length ≤ 500) && decide (x.keep.length ≤ 100) && !(x.kind == 5 && decide (1 < x.n)) &&
  (x.p.isEmpty || hasA x.kind 80) && (x.q.isEmpty || hasA x.kind 81) && (x.keep.isEmpty || hasA x.kind 75) &&
  numOk x.n (hasA x.kind 78) && numOk x.m (hasA x.kind 77)
def digits (l : List Bool) : Bs := if l.isEmpty then [45] else l.map (fun b => if b then 49 else 48)
def encA (a : UInt8) (x : Stp) : Bs :=
  if a = 80 then quote x.p else if a = 81 then quote x.q else if a = 78 then Lib.itoa x.n else if a = 77 then Lib.itoa x.m else digits x.keep
/-- The line of a step. -/
def line (x : Stp) : Bs := Lib.itoa x.who ++ 32 :: (wordOf x.kind ++ (argsOf x.kind).flatMap (fun a => 32 :: encA a x))

/-- Up to a space, and the rest. -/
def upTo (s : Bs) : Bs := s.takeWhile (fun c => c != 32)
def onw (s : Bs) : Bs := s.dropWhile (fun c => c != 32)
theorem up_on (s : Bs) : upTo s ++ onw s = s := List.takeWhile_append_dropWhile
def rdNum (s : Bs) : Option (Int × Bs) :=
  match Lib.atoiAll (upTo s) with
  | .ok v => if 0 ≤ v ∧ Lib.itoa v = upTo s then some (v, onw s) else none
  | .syntax => none
  | .range => none
def rdKeep (s : Bs) : Option (List Bool × Bs) :=
  if (upTo s).isEmpty then none else if upTo s = [45] then some ([], onw s)
  else if (upTo s).all (fun c => c == 48 || c == 49) then some ((upTo s).map (fun c => c == 49), onw s) else none
def rdArg (a : UInt8) (s : Bs) (x : Stp) : Option (Stp × Bs) :=
  if a = 80 then (unqO s).map (fun y => ({ x with p := y.1 }, y.2)) else if a = 81 then (unqO s).map (fun y => ({ x with q := y.1 }, y.2))
  else if a = 78 then (rdNum s).map (fun y => ({ x with n := y.1 }, y.2)) else if a = 77 then (rdNum s).map (fun y => ({ x with m := y.1 }, y.2))
  else (rdKeep s).map (fun y => ({ x with keep := y.1 }, y.2))
def rdArgs : Bs → Bs → Stp → Option (Stp × Bs)
  | [], s, x => some (x, s)
  | a :: L, s, x =>
    match s with
    | [] => none
    | c :: r => if c = 32 then
      match rdArg a r x with
      | none => none
      | some (x', s') => rdArgs L s' x'
      else none
/-- The kind that a word names; -1: none. -/
def kindOf (w : Bs) : Int :=
  match tab.findIdx? (fun p => (w ++ [58]).isPrefixOf (p.1 ++ 58 :: p.2)) with
  | some i => (i : Int)
  | none => -1
/-- The step of a line. -/
def whole (s : Bs) : Option Stp :=
  match rdNum s with
  | none => none
  | some (n, s1) =>
    match s1 with
    | [] => none
    | c :: s2 => if c = 32 then
      match rdArgs (argsOf (kindOf (upTo s2))) (onw s2) ⟨n, kindOf (upTo s2), [], [], 0, 0, []⟩ with
      | none => none
      | some (x, r) => if r = [] ∧ rightB x = true then some x else none
      else none

/-- A rest that begins with a space, or is none. -/
def Sep (r : Bs) : Prop := r = [] ∨ ∃ t, r = 32 :: t
theorem up_app {w r : Bs} (hw : ∀ x ∈ w, x ≠ 32) (hr : Sep r) : upTo (w ++ r) = w ∧ onw (w ++ r) = r := by
  have h1 : ∀ x ∈ w, (fun c : UInt8 => c != 32) x = true := fun x hx => by simpa using hw x hx
  unfold upTo onw
  rw [List.takeWhile_append_of_pos h1, List.dropWhile_append_of_pos h1]
  rcases hr with rfl | ⟨t, rfl⟩
  · simp
  · simp [List.takeWhile_cons, List.dropWhile_cons]
theorem onw_sep (s : Bs) : Sep (onw s) := by
  unfold onw Sep
  cases h : s.dropWhile (fun c => c != 32) with
  | nil => exact .inl rfl
  | cons c r =>
    right
    have h2 := List.head?_dropWhile_not (fun c : UInt8 => c != 32) s
    rw [h] at h2
    simp only [List.head?_cons] at h2
    exact ⟨r, by congr 1; simpa using h2⟩
theorem rdNum_some {s r : Bs} {v : Int} (h : rdNum s = some (v, r)) : s = Lib.itoa v ++ r ∧ 0 ≤ v ∧ Sep r := by
  unfold rdNum at h
  split at h
  · rename_i u hu
    split at h
    · rename_i h1
      simp only [Option.some.injEq, Prod.mk.injEq] at h
      obtain ⟨rfl, rfl⟩ := h
      exact ⟨by rw [h1.2, up_on], h1.1, onw_sep s⟩
    · exact absurd h (by simp)
  · exact absurd h (by simp)
  · exact absurd h (by simp)
theorem itoa_clean {v : Int} (h : 0 ≤ v) : ∀ x ∈ Lib.itoa v, 48 ≤ x.toNat ∧ x.toNat ≤ 57 := by
  obtain ⟨n, rfl⟩ : ∃ n : Nat, v = n := ⟨v.toNat, by omega⟩
  rw [itoa_nat]
  exact dec_digit n
theorem itoa_ne {v : Int} (h : 0 ≤ v) : Lib.itoa v ≠ [] := by
  obtain ⟨n, rfl⟩ : ∃ n : Nat, v = n := ⟨v.toNat, by omega⟩
  rw [itoa_nat]
  exact dec_ne n
theorem ne32 {x : UInt8} (h : 33 ≤ x.toNat) : x ≠ 32 := by
  rintro rfl
  exact absurd h (by decide)
theorem rdNum_enc {v : Int} {r : Bs} (h0 : 0 ≤ v) (h1 : v < 9223372036854775808) (hr : Sep r) : rdNum (Lib.itoa v ++ r) = some (v, r) := by
  obtain ⟨e1, e2⟩ := up_app (w := Lib.itoa v) (r := r) (fun x hx => ne32 (by have := itoa_clean h0 x hx; omega)) hr
  unfold rdNum
  rw [e1, e2]
  obtain ⟨n, rfl⟩ : ∃ n : Nat, v = n := ⟨v.toNat, by omega⟩
  rw [itoa_nat, atoi_dec n (by omega)]
  simp only
  rw [if_pos ⟨by omega, itoa_nat n⟩]
theorem dig_back (l : List Bool) : (l.map (fun b => if b then (49 : UInt8) else 48)).map (fun c => c == 49) = l := by
  rw [List.map_map]
  conv => rhs; rw [← List.map_id l]
  apply List.map_congr_left
  intro b _
  cases b <;> rfl
theorem rdKeep_some {s r : Bs} {l : List Bool} (h : rdKeep s = some (l, r)) : s = digits l ++ r ∧ Sep r := by
  unfold rdKeep at h
  by_cases h1 : (upTo s).isEmpty = true
  · rw [if_pos h1] at h
    exact absurd h (by simp)
  · rw [if_neg h1] at h
    by_cases h2 : upTo s = [45]
    · rw [if_pos h2] at h
      simp only [Option.some.injEq, Prod.mk.injEq] at h
      obtain ⟨rfl, rfl⟩ := h
      exact ⟨by have e := up_on s; rw [h2] at e; exact e.symm, onw_sep s⟩
    · rw [if_neg h2] at h
      by_cases h3 : (upTo s).all (fun c => c == 48 || c == 49) = true
      · rw [if_pos h3] at h
        simp only [Option.some.injEq, Prod.mk.injEq] at h
        obtain ⟨rfl, rfl⟩ := h
        refine ⟨?_, onw_sep s⟩
        have e : digits ((upTo s).map (fun c => c == 49)) = upTo s := by
          unfold digits
          rw [if_neg (by simpa using h1), List.map_map]
          conv => rhs; rw [← List.map_id (upTo s)]
          apply List.map_congr_left
          intro c hc
          have := List.all_eq_true.1 h3 c hc
          simp only [Bool.or_eq_true, beq_iff_eq] at this
          rcases this with rfl | rfl <;> rfl
        rw [e, up_on]
      · rw [if_neg h3] at h
        exact absurd h (by simp)
theorem digits_clean (l : List Bool) : ∀ x ∈ digits l, 45 ≤ x.toNat ∧ x.toNat ≤ 57 := by
  intro x hx
  unfold digits at hx
  split at hx
  · simp only [List.mem_cons, List.not_mem_nil, or_false] at hx
    subst hx
    decide
  · simp only [List.mem_map] at hx
    obtain ⟨b, _, rfl⟩ := hx
    cases b <;> decide
theorem rdKeep_enc {l : List Bool} {r : Bs} (hr : Sep r) : rdKeep (digits l ++ r) = some (l, r) := by
  obtain ⟨e1, e2⟩ := up_app (w := digits l) (r := r) (fun x hx => ne32 (by have := digits_clean l x hx; omega)) hr
  unfold rdKeep
  rw [e1, e2]
  cases l with
  | nil => rfl
  | cons b l =>
    have h1 : digits (b :: l) = (b :: l).map (fun b => if b then 49 else 48) := rfl
    rw [h1, if_neg (by simp), if_neg (by cases b <;> simp), if_pos, dig_back]
    rw [List.all_eq_true]
    intro x hx
    simp only [List.mem_map] at hx
    obtain ⟨b, _, rfl⟩ := hx
    cases b <;> rfl

theorem tab_all (P : Bs × Bs → Prop) (h : ∀ i : Fin 19, P (tab.getD i.val ([], []))) {d : Int} (h0 : 0 ≤ d) (h1 : d < 19) : P (tab.getD d.toNat ([], [])) :=
  h ⟨d.toNat, by omega⟩
theorem args_kinds (d : Int) : argsOf d ∈ ([[], [80], [80, 81], [80, 78], [78], [78, 77], [75]] : List Bs) := by
  unfold argsOf
  split
  · rename_i h
    exact tab_all (fun p => p.2 ∈ ([[], [80], [80, 81], [80, 78], [78], [78, 77], [75]] : List Bs)) (by decide +kernel) h.1 h.2
  · decide
theorem word_clean (d : Int) : ∀ x ∈ wordOf d, 97 ≤ x.toNat ∧ x.toNat ≤ 122 := by
  unfold wordOf
  split
  · rename_i h
    exact tab_all (fun p => ∀ x ∈ p.1, 97 ≤ x.toNat ∧ x.toNat ≤ 122) (by decide +kernel) h.1 h.2
  · intro x hx
    simp at hx
theorem kind_word {d : Int} (h0 : 0 ≤ d) (h1 : d < 19) : kindOf (wordOf d) = d := by
  have h : ∀ i : Fin 19, kindOf (wordOf (i.val : Int)) = (i.val : Int) := by decide +kernel
  have h2 := h ⟨d.toNat, by omega⟩
  have e : ((d.toNat : Nat) : Int) = d := by omega
  simp only [e] at h2
  exact h2
theorem pre_word : ∀ (w u v : Bs), (w ++ [58]).isPrefixOf (u ++ 58 :: v) = true → (∀ x ∈ u, x ≠ 58) → (∀ x ∈ v, x ≠ 58) → w = u
  | [], [], v, h, hu, hv => rfl
  | [], c :: u, v, h, hu, hv => by
    simp only [List.nil_append, List.cons_append, List.isPrefixOf, Bool.and_eq_true, beq_iff_eq] at h
    exact absurd h.1.symm (hu c (by simp))
  | a :: w, [], v, h, hu, hv => by
    simp only [List.nil_append, List.cons_append, List.isPrefixOf, Bool.and_eq_true, beq_iff_eq] at h
    obtain ⟨_, h2⟩ := h
    have h3 : (58 : UInt8) ∈ v := by
      rw [List.isPrefixOf_iff_prefix] at h2
      exact h2.subset (by simp)
    exact absurd rfl (hv 58 h3)
  | a :: w, c :: u, v, h, hu, hv => by
    simp only [List.cons_append, List.isPrefixOf, Bool.and_eq_true, beq_iff_eq] at h
    obtain ⟨rfl, h2⟩ := h
    rw [pre_word w u v h2 (fun x hx => hu x (by simp [hx])) hv]
theorem kindOf_eq {w : Bs} (h : kindOf w ≠ -1) : 0 ≤ kindOf w ∧ kindOf w < 19 ∧ wordOf (kindOf w) = w := by
  unfold kindOf at h ⊢
  split at h
  · rename_i i hi
    obtain ⟨hlt0, hp, _⟩ := List.findIdx?_eq_some_iff_getElem.1 hi
    have hlt : i < 19 := hlt0
    refine ⟨by omega, by omega, ?_⟩
    have hc : ∀ j : Fin 19, (∀ x ∈ (tab.getD j.val ([], [])).1, x ≠ 58) ∧ (∀ x ∈ (tab.getD j.val ([], [])).2, x ≠ 58) := by decide +kernel
    have hc := hc ⟨i, hlt⟩
    have e : tab.getD i ([], []) = tab[i]'hlt0 := by simp [List.getD_eq_getElem?_getD, List.getElem?_eq_getElem hlt0]
    simp only [e] at hc
    have := pre_word w _ _ hp hc.1 hc.2
    unfold wordOf
    rw [if_pos ⟨by omega, by omega⟩, Int.toNat_natCast, e]
    exact this.symm
  · exact absurd rfl h
theorem word_out {d : Int} (h : wordOf d ≠ []) : 0 ≤ d ∧ d < 19 := by
  unfold wordOf at h
  split at h
  · assumption
  · exact absurd rfl h
theorem sep_flat (L : Bs) (x : Stp) : Sep (L.flatMap (fun a => 32 :: encA a x)) := by
  cases L with
  | nil => exact .inl rfl
  | cons a L => exact .inr ⟨_, by rw [List.flatMap_cons]; rfl⟩

theorem rightB_iff {x : Stp} : rightB x = true ↔ wordOf x.kind ≠ [] ∧ 0 ≤ x.who ∧ x.who < 8 ∧ x.p.length ≤ 500 ∧ x.q.length ≤ 500 ∧ x.keep.length ≤ 100 ∧ ¬ (x.kind = 5 ∧ 1 < x.n) ∧
    (x.p = [] ∨ hasA x.kind 80 = true) ∧ (x.q = [] ∨ hasA x.kind 81 = true) ∧ (x.keep = [] ∨ hasA x.kind 75 = true) ∧ numOk x.n (hasA x.kind 78) = true ∧ numOk x.m (hasA x.kind 77) = true := by
  unfold rightB
  simp only [Bool.and_eq_true, Bool.or_eq_true, Bool.not_eq_true', decide_eq_true_eq, List.isEmpty_iff, Bool.and_eq_false_iff, decide_eq_false_iff_not, List.isEmpty_eq_false_iff, beq_eq_false_iff_ne, ne_eq, and_assoc]
  constructor
  · rintro ⟨h1, h2, h3, h4, h5, h6, h7, h8, h9, h10, h11, h12⟩
    exact ⟨h1, h2, h3, h4, h5, h6, by rintro ⟨a, b⟩; rcases h7 with h7 | h7 <;> contradiction, h8, h9, h10, h11, h12⟩
  · rintro ⟨h1, h2, h3, h4, h5, h6, h7, h8, h9, h10, h11, h12⟩
    refine ⟨h1, h2, h3, h4, h5, h6, ?_, h8, h9, h10, h11, h12⟩
    by_cases a : x.kind = 5
    · exact .inr (fun b => h7 ⟨a, b⟩)
    · exact .inl a
theorem numOk_iff {n : Int} {b : Bool} : numOk n b = true ↔ 0 ≤ n ∧ n ≤ 1000000 ∧ (n = 0 ∨ b = true) := by
  unfold numOk
  cases b <;> simp <;> omega

/-- The step that is read has the line that was read. -/
theorem args_line (d : Int) {s r : Bs} {x y : Stp} (h : rdArgs (argsOf d) s x = some (y, r)) :
    y.who = x.who ∧ y.kind = x.kind ∧ s = (argsOf d).flatMap (fun a => 32 :: encA a y) ++ r := by
  have hk := args_kinds d
  generalize argsOf d = L at h hk
  have one : ∀ {a : UInt8} {L : Bs} {s r : Bs} {x y : Stp}, rdArgs (a :: L) s x = some (y, r) → ∃ s1 z s2, s = 32 :: s1 ∧ rdArg a s1 x = some (z, s2) ∧ rdArgs L s2 z = some (y, r) := by
    intro a L s r x y h
    simp only [rdArgs] at h
    split at h
    · exact absurd h (by simp)
    · rename_i c r0
      split at h
      · rename_i hc
        subst hc
        split at h
        · exact absurd h (by simp)
        · rename_i z s2 hz
          exact ⟨r0, z, s2, rfl, hz, h⟩
      · exact absurd h (by simp)
  have nil : ∀ {s r : Bs} {x y : Stp}, rdArgs [] s x = some (y, r) → y = x ∧ s = r := by
    intro s r x y h
    simp only [rdArgs, Option.some.injEq, Prod.mk.injEq] at h
    exact ⟨h.1.symm, h.2⟩
  have aP : ∀ {s r : Bs} {x y : Stp}, rdArg 80 s x = some (y, r) → y = { x with p := y.p } ∧ s = quote y.p ++ r := by
    intro s r x y h
    simp only [rdArg, if_true, Option.map_eq_some_iff, Prod.mk.injEq] at h
    obtain ⟨⟨t, r'⟩, h1, rfl, rfl⟩ := h
    exact ⟨rfl, (unqO_iff.1 h1).1⟩
  have aQ : ∀ {s r : Bs} {x y : Stp}, rdArg 81 s x = some (y, r) → y = { x with q := y.q } ∧ s = quote y.q ++ r := by
    intro s r x y h
    rw [rdArg, if_neg (by decide), if_pos rfl] at h
    simp only [Option.map_eq_some_iff, Prod.mk.injEq] at h
    obtain ⟨⟨t, r'⟩, h1, rfl, rfl⟩ := h
    exact ⟨rfl, (unqO_iff.1 h1).1⟩
  have aN : ∀ {s r : Bs} {x y : Stp}, rdArg 78 s x = some (y, r) → y = { x with n := y.n } ∧ s = Lib.itoa y.n ++ r := by
    intro s r x y h
    rw [rdArg, if_neg (by decide), if_neg (by decide), if_pos rfl] at h
    simp only [Option.map_eq_some_iff, Prod.mk.injEq] at h
    obtain ⟨⟨t, r'⟩, h1, rfl, rfl⟩ := h
    exact ⟨rfl, (rdNum_some h1).1⟩
  have aM : ∀ {s r : Bs} {x y : Stp}, rdArg 77 s x = some (y, r) → y = { x with m := y.m } ∧ s = Lib.itoa y.m ++ r := by
    intro s r x y h
    rw [rdArg, if_neg (by decide), if_neg (by decide), if_neg (by decide), if_pos rfl] at h
    simp only [Option.map_eq_some_iff, Prod.mk.injEq] at h
    obtain ⟨⟨t, r'⟩, h1, rfl, rfl⟩ := h
    exact ⟨rfl, (rdNum_some h1).1⟩
  have aK : ∀ {s r : Bs} {x y : Stp}, rdArg 75 s x = some (y, r) → y = { x with keep := y.keep } ∧ s = digits y.keep ++ r := by
    intro s r x y h
    rw [rdArg, if_neg (by decide), if_neg (by decide), if_neg (by decide), if_neg (by decide)] at h
    simp only [Option.map_eq_some_iff, Prod.mk.injEq] at h
    obtain ⟨⟨t, r'⟩, h1, rfl, rfl⟩ := h
    exact ⟨rfl, (rdKeep_some h1).1⟩
  have e0 : ∀ y : Stp, encA 80 y = quote y.p ∧ encA 81 y = quote y.q ∧ encA 78 y = Lib.itoa y.n ∧ encA 77 y = Lib.itoa y.m ∧ encA 75 y = digits y.keep := fun y => ⟨rfl, rfl, rfl, rfl, rfl⟩
  simp only [List.mem_cons, List.not_mem_nil, or_false] at hk
  rcases hk with rfl | rfl | rfl | rfl | rfl | rfl | rfl
  · obtain ⟨rfl, rfl⟩ := nil h
    exact ⟨rfl, rfl, rfl⟩
  · obtain ⟨s1, z, s2, rfl, h1, h2⟩ := one h
    obtain ⟨rfl, rfl⟩ := nil h2
    obtain ⟨e, rfl⟩ := aP h1
    exact ⟨by rw [e], by rw [e], by simp [List.flatMap_cons, (e0 y).1]⟩
  · obtain ⟨s1, z, s2, rfl, h1, h2⟩ := one h
    obtain ⟨s3, z2, s4, rfl, h3, h4⟩ := one h2
    obtain ⟨rfl, rfl⟩ := nil h4
    obtain ⟨e, rfl⟩ := aP h1
    obtain ⟨e2, rfl⟩ := aQ h3
    exact ⟨by rw [e2, e], by rw [e2, e], by rw [e2]; simp [List.flatMap_cons, encA]⟩
  · obtain ⟨s1, z, s2, rfl, h1, h2⟩ := one h
    obtain ⟨s3, z2, s4, rfl, h3, h4⟩ := one h2
    obtain ⟨rfl, rfl⟩ := nil h4
    obtain ⟨e, rfl⟩ := aP h1
    obtain ⟨e2, rfl⟩ := aN h3
    exact ⟨by rw [e2, e], by rw [e2, e], by rw [e2]; simp [List.flatMap_cons, encA]⟩
  · obtain ⟨s1, z, s2, rfl, h1, h2⟩ := one h
    obtain ⟨rfl, rfl⟩ := nil h2
    obtain ⟨e, rfl⟩ := aN h1
    exact ⟨by rw [e], by rw [e], by simp [List.flatMap_cons, (e0 y).2.2.1]⟩
  · obtain ⟨s1, z, s2, rfl, h1, h2⟩ := one h
    obtain ⟨s3, z2, s4, rfl, h3, h4⟩ := one h2
    obtain ⟨rfl, rfl⟩ := nil h4
    obtain ⟨e, rfl⟩ := aN h1
    obtain ⟨e2, rfl⟩ := aM h3
    exact ⟨by rw [e2, e], by rw [e2, e], by rw [e2]; simp [List.flatMap_cons, encA]⟩
  · obtain ⟨s1, z, s2, rfl, h1, h2⟩ := one h
    obtain ⟨rfl, rfl⟩ := nil h2
    obtain ⟨e, rfl⟩ := aK h1
    exact ⟨by rw [e], by rw [e], by simp [List.flatMap_cons, (e0 y).2.2.2.2]⟩
/-- The line of a right step is read as it. -/
theorem line_args (x : Stp) (hR : rightB x = true) : rdArgs (argsOf x.kind) ((argsOf x.kind).flatMap (fun a => 32 :: encA a x)) ⟨x.who, x.kind, [], [], 0, 0, []⟩ = some (x, []) := by
  obtain ⟨h1, h2, h3, h4, h5, h6, h7, h8, h9, h10, h11, h12⟩ := rightB_iff.1 hR
  rw [numOk_iff] at h11 h12
  have hk := args_kinds x.kind
  unfold hasA at h8 h9 h10 h11 h12
  generalize argsOf x.kind = L at hk h8 h9 h10 h11 h12 ⊢
  have step : ∀ (a : UInt8) (L s : Bs) (x y : Stp) (r : Bs), rdArg a s x = some (y, r) → rdArgs (a :: L) (32 :: s) x = rdArgs L r y := by
    intro a L s x y r h
    simp only [rdArgs, if_true, h]
  have pP : ∀ (t r : Bs) (y : Stp), t.length ≤ 500 → rdArg 80 (quote t ++ r) y = some ({ y with p := t }, r) := by
    intro t r y ht
    simp only [rdArg, if_true]
    rw [unqO_iff.2 ⟨rfl, ht⟩]
    rfl
  have pQ : ∀ (t r : Bs) (y : Stp), t.length ≤ 500 → rdArg 81 (quote t ++ r) y = some ({ y with q := t }, r) := by
    intro t r y ht
    rw [rdArg, if_neg (by decide), if_pos rfl, unqO_iff.2 ⟨rfl, ht⟩]
    rfl
  have pN : ∀ (v : Int) (r : Bs) (y : Stp), 0 ≤ v → v ≤ 1000000 → Sep r → rdArg 78 (Lib.itoa v ++ r) y = some ({ y with n := v }, r) := by
    intro v r y h0 h1 hr
    rw [rdArg, if_neg (by decide), if_neg (by decide), if_pos rfl, rdNum_enc h0 (by omega) hr]
    rfl
  have pM : ∀ (v : Int) (r : Bs) (y : Stp), 0 ≤ v → v ≤ 1000000 → Sep r → rdArg 77 (Lib.itoa v ++ r) y = some ({ y with m := v }, r) := by
    intro v r y h0 h1 hr
    rw [rdArg, if_neg (by decide), if_neg (by decide), if_neg (by decide), if_pos rfl, rdNum_enc h0 (by omega) hr]
    rfl
  have pK : ∀ (l : List Bool) (r : Bs) (y : Stp), Sep r → rdArg 75 (digits l ++ r) y = some ({ y with keep := l }, r) := by
    intro l r y hr
    rw [rdArg, if_neg (by decide), if_neg (by decide), if_neg (by decide), if_neg (by decide), rdKeep_enc hr]
    rfl
  have s0 : Sep [] := .inl rfl
  have s1 : ∀ t, Sep (32 :: t) := fun t => .inr ⟨t, rfl⟩
  simp only [List.mem_cons, List.not_mem_nil, or_false] at hk
  have c80 : ∀ {L : Bs}, (x.p = [] ∨ L.contains 80 = true) → L.contains 80 = false → x.p = [] := fun h h2 => h.resolve_right (by rw [h2]; decide)
  obtain ⟨who, kind, p, q, n, m, keep⟩ := x
  dsimp only at *
  rcases hk with rfl | rfl | rfl | rfl | rfl | rfl | rfl
  · simp at h8 h9 h10 h11 h12
    obtain ⟨_, _, rfl⟩ := h11
    obtain ⟨_, _, rfl⟩ := h12
    subst h8 h9 h10
    rfl
  · simp at h9 h10 h11 h12
    obtain ⟨_, _, rfl⟩ := h11
    obtain ⟨_, _, rfl⟩ := h12
    subst h9 h10
    simp only [List.flatMap_cons, List.flatMap_nil, List.append_nil, encA, if_true, List.cons_append]
    rw [step _ _ _ _ _ _ (by rw [← List.append_nil (quote p)]; exact pP p [] _ h4)]
    rfl
  · simp at h10 h11 h12
    obtain ⟨_, _, rfl⟩ := h11
    obtain ⟨_, _, rfl⟩ := h12
    subst h10
    have e : ([80, 81] : Bs).flatMap (fun a => 32 :: encA a ⟨who, kind, p, q, 0, 0, []⟩) = 32 :: (quote p ++ 32 :: (quote q ++ [])) := by simp [List.flatMap_cons, encA]
    rw [e, step _ _ _ _ _ _ (pP p _ _ h4), step _ _ _ _ _ _ (pQ q _ _ h5)]
    rfl
  · simp at h9 h10 h11 h12
    obtain ⟨_, _, rfl⟩ := h12
    subst h9 h10
    have e : ([80, 78] : Bs).flatMap (fun a => 32 :: encA a ⟨who, kind, p, [], n, 0, []⟩) = 32 :: (quote p ++ 32 :: (Lib.itoa n ++ [])) := by simp [List.flatMap_cons, encA]
    rw [e, step _ _ _ _ _ _ (pP p _ _ h4), step _ _ _ _ _ _ (pN n _ _ h11.1 h11.2 s0)]
    rfl
  · simp at h8 h9 h10 h11 h12
    obtain ⟨_, _, rfl⟩ := h12
    subst h8 h9 h10
    have e : ([78] : Bs).flatMap (fun a => 32 :: encA a ⟨who, kind, [], [], n, 0, []⟩) = 32 :: (Lib.itoa n ++ []) := by simp [List.flatMap_cons, encA]
    rw [e, step _ _ _ _ _ _ (pN n _ _ h11.1 h11.2 s0)]
    rfl
  · simp at h8 h9 h10 h11 h12
    subst h8 h9 h10
    have e : ([78, 77] : Bs).flatMap (fun a => 32 :: encA a ⟨who, kind, [], [], n, m, []⟩) = 32 :: (Lib.itoa n ++ 32 :: (Lib.itoa m ++ [])) := by simp [List.flatMap_cons, encA]
    rw [e, step _ _ _ _ _ _ (pN n _ _ h11.1 h11.2 (s1 _)), step _ _ _ _ _ _ (pM m _ _ h12.1 h12.2 s0)]
    rfl
  · simp at h8 h9 h11 h12
    obtain ⟨_, _, rfl⟩ := h11
    obtain ⟨_, _, rfl⟩ := h12
    subst h8 h9
    have e : ([75] : Bs).flatMap (fun a => 32 :: encA a ⟨who, kind, [], [], 0, 0, keep⟩) = 32 :: (digits keep ++ []) := by simp [List.flatMap_cons, encA]
    rw [e, step _ _ _ _ _ _ (pK keep _ _ s0)]
    rfl
/-- A line is read as a step just if it is the line of that step, and the step is right. -/
theorem whole_iff {s : Bs} {x : Stp} : whole s = some x ↔ rightB x = true ∧ line x = s := by
  constructor
  · intro h
    unfold whole at h
    split at h
    · exact absurd h (by simp)
    · rename_i n s1 hn
      obtain ⟨rfl, hn0, hs⟩ := rdNum_some hn
      split at h
      · exact absurd h (by simp)
      · rename_i c s2
        split at h
        · rename_i hc
          subst hc
          split at h
          · exact absurd h (by simp)
          · rename_i y r hy
            split at h
            · rename_i hr
              obtain ⟨rfl, hR⟩ := hr
              simp only [Option.some.injEq] at h
              subst h
              obtain ⟨e1, e2, e3⟩ := args_line _ hy
              dsimp only at e1 e2
              refine ⟨hR, ?_⟩
              have hw := (rightB_iff.1 hR).1
              rw [e2] at hw
              obtain ⟨_, _, hw2⟩ := kindOf_eq (w := upTo s2) (fun e => by
                rw [e] at hw
                exact hw rfl)
              unfold line
              rw [e1, e2, hw2]
              rw [List.append_nil] at e3
              rw [← e3, up_on]
            · exact absurd h (by simp)
        · exact absurd h (by simp)
  · rintro ⟨hR, rfl⟩
    obtain ⟨h1, h2, h3, _⟩ := rightB_iff.1 hR
    obtain ⟨k0, k1⟩ := word_out h1
    have hl : line x = Lib.itoa x.who ++ 32 :: (wordOf x.kind ++ (argsOf x.kind).flatMap (fun a => 32 :: encA a x)) := rfl
    rw [hl]
    unfold whole
    rw [rdNum_enc h2 (by omega) (.inr ⟨_, rfl⟩)]
    simp only [if_true]
    obtain ⟨e1, e2⟩ := up_app (w := wordOf x.kind) (r := (argsOf x.kind).flatMap (fun a => 32 :: encA a x)) (fun y hy => ne32 (by have := word_clean x.kind y hy; omega)) (sep_flat _ x)
    rw [e1, e2, kind_word k0 k1, line_args x hR]
    simp only
    rw [if_pos (by exact ⟨trivial, hR⟩)]
theorem line_clean {x : Stp} (hR : rightB x = true) : ∀ c ∈ line x, 32 ≤ c.toNat ∧ c.toNat ≤ 126 := by
  obtain ⟨h1, h2, h3, h4, h5, h6, h7, h8, h9, h10, h11, h12⟩ := rightB_iff.1 hR
  rw [numOk_iff] at h11 h12
  intro c hc
  simp only [line, List.mem_append, List.mem_cons, List.mem_flatMap] at hc
  rcases hc with hc | rfl | hc | ⟨a, ha, rfl | hc⟩
  · have := itoa_clean h2 c hc; omega
  · decide
  · have := word_clean _ c hc; omega
  · decide
  · unfold encA at hc
    split at hc
    · exact quote_clean _ c hc
    · split at hc
      · exact quote_clean _ c hc
      · split at hc
        · have := itoa_clean h11.1 c hc; omega
        · split at hc
          · have := itoa_clean h12.1 c hc; omega
          · have := digits_clean _ c hc; omega
theorem line_head {x : Stp} (hR : rightB x = true) : ∃ c r, line x = c :: r ∧ 48 ≤ c.toNat ∧ c.toNat ≤ 57 := by
  obtain ⟨h1, h2, _⟩ := rightB_iff.1 hR
  have h3 := itoa_ne h2
  have h4 := itoa_clean h2
  unfold line
  cases hd : Lib.itoa x.who with
  | nil => exact absurd hd h3
  | cons c r => exact ⟨c, _, rfl, h4 c (by rw [hd]; simp)⟩
end Go.Proofs.YtoajcijjkkkaaaaGreatDoor.K

/- Layer 28, the plain law: a quoted text, a numeral, a row of digits, and what each stands for. No program in this text. -/
import Derived.Lib.ItoaNum
import Derived.Lib.AtoiAllCases
namespace Go.Proofs.YtoajcijjkkkaaaaGreatDoor.K
set_option linter.unusedVariables false
set_option linter.unusedSimpArgs false

abbrev Bs := List UInt8
def hexs : Bs := [48, 49, 50, 51, 52, 53, 54, 55, 56, 57, 97, 98, 99, 100, 101, 102]
def hexd (n : Nat) : UInt8 := hexs.getD n 0
/-- The number of a hexadecimal digit. -/
def nib (c : UInt8) : Option Nat :=
  if 48 ≤ c.toNat ∧ c.toNat ≤ 57 then some (c.toNat - 48) else if 97 ≤ c.toNat ∧ c.toNat ≤ 102 then some (c.toNat - 87) else none
theorem nib_hexd : ∀ n, n < 16 → nib (hexd n) = some n := by decide
theorem hexd_nib_all : ∀ m : Fin 256, (nib (UInt8.ofNat m.val)).all (fun n => n < 16 && hexd n == UInt8.ofNat m.val) = true := by decide +kernel
theorem u8_of (c : UInt8) : UInt8.ofNat c.toNat = c := by simp
theorem hexd_nib {c : UInt8} {n : Nat} (h : nib c = some n) : n < 16 ∧ hexd n = c := by
  have h1 := hexd_nib_all ⟨c.toNat, c.toNat_lt⟩
  simp only [u8_of, h, Option.all_some, Bool.and_eq_true, decide_eq_true_eq, beq_iff_eq] at h1
  exact h1

/-- A byte in a quoted text. -/
def q1 (c : UInt8) : Bs :=
  if c = 34 ∨ c = 92 then [92, c] else if c.toNat < 32 ∨ 126 < c.toNat then [92, 120, hexd (c.toNat / 16), hexd (c.toNat % 16)] else [c]
def qs (l : Bs) : Bs := l.flatMap q1
def quote (l : Bs) : Bs := 34 :: (qs l ++ [34])
theorem qs_nil : qs [] = [] := rfl
theorem qs_cons (c : UInt8) (l : Bs) : qs (c :: l) = q1 c ++ qs l := by simp [qs]
theorem qs_snoc (l : Bs) (c : UInt8) : qs (l ++ [c]) = qs l ++ q1 c := by simp [qs]
theorem q1_len (c : UInt8) : 1 ≤ (q1 c).length ∧ (q1 c).length ≤ 4 := by
  unfold q1
  (repeat' split) <;> simp
theorem qs_len (l : Bs) : l.length ≤ (qs l).length ∧ (qs l).length ≤ 4 * l.length := by
  induction l with
  | nil => simp [qs]
  | cons c l ih =>
    have := q1_len c
    rw [qs_cons, List.length_append, List.length_cons]
    omega

/-- What stands behind a \. -/
def esc : Bs → Option (UInt8 × Bs)
  | [] => none
  | d :: r => if d = 120 then (match r with
      | a :: b :: r => match nib a, nib b with
        | some x, some y => if x * 16 + y < 32 ∨ 126 < x * 16 + y then some (UInt8.ofNat (x * 16 + y), r) else none
        | _, _ => none
      | _ => none) else if d = 34 ∨ d = 92 then some (d, r) else none
/-- A byte of a quoted text. -/
def tok : Bs → Option (UInt8 × Bs)
  | [] => none
  | c :: r => if c = 92 then esc r else if 32 ≤ c.toNat ∧ c.toNat ≤ 126 then some (c, r) else none

theorem esc_some {s r : Bs} {v : UInt8} (h : esc s = some (v, r)) : q1 v ++ r = 92 :: s := by
  unfold esc at h
  split at h
  · exact absurd h (by simp)
  · rename_i d r0
    by_cases hd : d = 120
    · rw [if_pos hd] at h
      subst hd
      split at h
      · rename_i a b r1
        split at h
        · rename_i x y hx hy
          by_cases hv : x * 16 + y < 32 ∨ 126 < x * 16 + y
          · rw [if_pos hv] at h
            simp only [Option.some.injEq, Prod.mk.injEq] at h
            obtain ⟨rfl, rfl⟩ := h
            obtain ⟨hx1, hx2⟩ := hexd_nib hx
            obtain ⟨hy1, hy2⟩ := hexd_nib hy
            have e : (UInt8.ofNat (x * 16 + y)).toNat = x * 16 + y := by
              rw [UInt8.toNat_ofNat']
              omega
            have n34 : ¬ (UInt8.ofNat (x * 16 + y) = 34 ∨ UInt8.ofNat (x * 16 + y) = 92) := by
              rintro (h1 | h1) <;> (have h2 := congrArg UInt8.toNat h1; rw [e] at h2; simp at h2; omega)
            rw [q1, if_neg n34, e, if_pos hv]
            have e1 : (x * 16 + y) / 16 = x := by omega
            have e2 : (x * 16 + y) % 16 = y := by omega
            rw [e1, e2, hx2, hy2]
            rfl
          · rw [if_neg hv] at h
            exact absurd h (by simp)
        · exact absurd h (by simp)
      · exact absurd h (by simp)
    · rw [if_neg hd] at h
      by_cases h34 : d = 34 ∨ d = 92
      · rw [if_pos h34] at h
        simp only [Option.some.injEq, Prod.mk.injEq] at h
        obtain ⟨rfl, rfl⟩ := h
        rw [q1, if_pos h34]
        rfl
      · rw [if_neg h34] at h
        exact absurd h (by simp)
theorem tok_some {s r : Bs} {v : UInt8} (h : tok s = some (v, r)) (h34 : s.head? ≠ some 34) : q1 v ++ r = s := by
  unfold tok at h
  split at h
  · exact absurd h (by simp)
  · rename_i c r0
    by_cases hc : c = 92
    · rw [if_pos hc] at h
      subst hc
      exact esc_some h
    · rw [if_neg hc] at h
      by_cases hp : 32 ≤ c.toNat ∧ c.toNat ≤ 126
      · rw [if_pos hp] at h
        simp only [Option.some.injEq, Prod.mk.injEq] at h
        obtain ⟨rfl, rfl⟩ := h
        have n34 : ¬ (c = 34 ∨ c = 92) := by
          rintro (h1 | h1)
          · subst h1; exact h34 rfl
          · exact hc h1
        rw [q1, if_neg n34, if_neg (by omega)]
        rfl
      · rw [if_neg hp] at h
        exact absurd h (by simp)
theorem tok_q1 (c : UInt8) (s : Bs) : tok (q1 c ++ s) = some (c, s) ∧ (q1 c ++ s).head? ≠ some 34 := by
  unfold q1
  by_cases h34 : c = 34 ∨ c = 92
  · rw [if_pos h34]
    refine ⟨?_, by simp⟩
    simp only [List.cons_append, List.nil_append, tok, if_true, esc]
    rw [if_neg (by rintro rfl; revert h34; decide), if_pos h34]
  · rw [if_neg h34]
    by_cases hp : c.toNat < 32 ∨ 126 < c.toNat
    · rw [if_pos hp]
      refine ⟨?_, by simp⟩
      have hlt := c.toNat_lt
      simp only [List.cons_append, List.nil_append, tok, if_true, esc]
      rw [nib_hexd _ (by omega), nib_hexd _ (by omega)]
      have e : c.toNat / 16 * 16 + c.toNat % 16 = c.toNat := by omega
      simp only [e]
      rw [if_pos hp, u8_of]
    · rw [if_neg hp]
      refine ⟨?_, ?_⟩
      · simp only [List.cons_append, List.nil_append, tok]
        rw [if_neg (fun h => h34 (.inr h)), if_pos (by omega)]
      · simp only [List.cons_append, List.nil_append, List.head?_cons, ne_eq, Option.some.injEq]
        exact fun h => h34 (.inl h)
theorem esc_lt {s r : Bs} {v : UInt8} (h : esc s = some (v, r)) : r.length < s.length := by
  have h1 := congrArg List.length (esc_some h)
  unfold q1 at h1
  unfold esc at h
  have h2 := q1_len v
  split at h
  · exact absurd h (by simp)
  · rename_i d r0
    have h3 : r.length ≤ r0.length := by
      by_cases hd : d = 120
      · rw [if_pos hd] at h
        split at h
        · rename_i a b r1
          split at h
          · split at h
            · simp only [Option.some.injEq, Prod.mk.injEq] at h
              obtain ⟨_, rfl⟩ := h
              simp only [List.length_cons]
              omega
            · exact absurd h (by simp)
          · exact absurd h (by simp)
        · exact absurd h (by simp)
      · rw [if_neg hd] at h
        split at h
        · simp only [Option.some.injEq, Prod.mk.injEq] at h
          obtain ⟨_, rfl⟩ := h
          exact Nat.le_refl _
        · exact absurd h (by simp)
    simp only [List.length_cons]
    omega
theorem tok_lt {s r : Bs} {v : UInt8} (h : tok s = some (v, r)) : r.length < s.length := by
  unfold tok at h
  split at h
  · exact absurd h (by simp)
  · rename_i c r0
    split at h
    · have := esc_lt h
      simp only [List.length_cons]
      omega
    · split at h
      · simp only [Option.some.injEq, Prod.mk.injEq] at h
        obtain ⟨_, rfl⟩ := h
        simp
      · exact absurd h (by simp)

/-- A quoted text behind its first quote: acc has been read. -/
def unq : Nat → Bs → Bs → Option (Bs × Bs)
  | 0, _, _ => none
  | n + 1, acc, s =>
    match s with
    | [] => none
    | c :: r => if c = 34 then (if acc.length ≤ 500 then some (acc, r) else none) else
      match tok (c :: r) with
      | none => none
      | some (v, r) => unq n (acc ++ [v]) r
def unqO (s : Bs) : Option (Bs × Bs) :=
  match s with
  | [] => none
  | c :: r => if c = 34 then unq (r.length + 1) [] r else none

theorem unq_more (n m : Nat) (acc s : Bs) (h1 : s.length < n) (h2 : s.length < m) : unq n acc s = unq m acc s := by
  induction n generalizing m acc s with
  | zero => omega
  | succ n ih =>
    obtain ⟨m, rfl⟩ : ∃ k, m = k + 1 := ⟨m - 1, by omega⟩
    cases s with
    | nil => rfl
    | cons c r =>
      simp only [unq]
      cases ht : tok (c :: r) with
      | none => rfl
      | some p =>
        obtain ⟨v, r1⟩ := p
        have hl := tok_lt ht
        simp only [List.length_cons] at hl h1 h2
        simp only
        rw [ih m (acc ++ [v]) r1 (by omega) (by omega)]
theorem unq_some {n : Nat} {acc s t r : Bs} (h : unq n acc s = some (t, r)) : ∃ t', t = acc ++ t' ∧ s = qs t' ++ 34 :: r ∧ t.length ≤ 500 := by
  induction n generalizing acc s with
  | zero => exact absurd h (by simp [unq])
  | succ n ih =>
    cases s with
    | nil => exact absurd h (by simp [unq])
    | cons c r0 =>
      simp only [unq] at h
      by_cases hc : c = 34
      · rw [if_pos hc] at h
        split at h
        · simp only [Option.some.injEq, Prod.mk.injEq] at h
          obtain ⟨rfl, rfl⟩ := h
          subst hc
          exact ⟨[], by simp, rfl, by assumption⟩
        · exact absurd h (by simp)
      · rw [if_neg hc] at h
        cases ht : tok (c :: r0) with
        | none => rw [ht] at h; exact absurd h (by simp)
        | some p =>
          obtain ⟨v, r1⟩ := p
          rw [ht] at h
          obtain ⟨t', rfl, rfl, hl⟩ := ih h
          refine ⟨v :: t', by simp, ?_, hl⟩
          have := tok_some ht (by simpa using hc)
          rw [qs_cons, ← this, List.append_assoc]
theorem unq_qs (t : Bs) : ∀ (n : Nat) (acc r : Bs), (qs t).length < n → unq n acc (qs t ++ 34 :: r) = if (acc ++ t).length ≤ 500 then some (acc ++ t, r) else none := by
  induction t with
  | nil =>
    intro n acc r hn
    obtain ⟨n, rfl⟩ : ∃ k, n = k + 1 := ⟨n - 1, by omega⟩
    simp [qs_nil, unq]
  | cons c t ih =>
    intro n acc r hn
    obtain ⟨n, rfl⟩ : ∃ k, n = k + 1 := ⟨n - 1, by omega⟩
    obtain ⟨h1, h2⟩ := tok_q1 c (qs t ++ 34 :: r)
    have h3 := q1_len c
    rw [qs_cons, List.length_append] at hn
    rw [qs_cons, List.append_assoc]
    cases hx : q1 c ++ (qs t ++ 34 :: r) with
    | nil =>
      have := congrArg List.length hx
      simp at this
    | cons d x =>
      rw [hx] at h1 h2
      simp only [unq]
      rw [if_neg (by simpa using h2), h1]
      simp only
      rw [ih n (acc ++ [c]) r (by omega)]
      simp
/-- What a text begins with, unquoted: it is the only one whose quote the text begins with. -/
theorem unqO_iff {s t r : Bs} : unqO s = some (t, r) ↔ s = quote t ++ r ∧ t.length ≤ 500 := by
  constructor
  · intro h
    unfold unqO at h
    split at h
    · exact absurd h (by simp)
    · rename_i c r0
      split at h
      · rename_i hc
        obtain ⟨t', rfl, rfl, hl⟩ := unq_some h
        subst hc
        exact ⟨by simp [quote], by simpa using hl⟩
      · exact absurd h (by simp)
  · rintro ⟨rfl, hl⟩
    have e : quote t ++ r = 34 :: (qs t ++ 34 :: r) := by simp [quote]
    rw [e]
    simp only [unqO, if_true]
    rw [unq_qs t _ [] r (by simp; omega)]
    simp [hl]
theorem quote_inj {t t' r r' : Bs} (h : quote t ++ r = quote t' ++ r') : t = t' ∧ r = r' := by
  have key : ∀ (t t' r r' : Bs), qs t ++ 34 :: r = qs t' ++ 34 :: r' → t = t' ∧ r = r' := by
    intro t
    induction t with
    | nil =>
      intro t' r r' h
      cases t' with
      | nil => simpa [qs_nil] using h
      | cons c t' =>
        have h2 := (tok_q1 c (qs t' ++ 34 :: r')).2
        rw [qs_nil, qs_cons, List.append_assoc] at h
        rw [← h] at h2
        simp at h2
    | cons c t ih =>
      intro t' r r' h
      cases t' with
      | nil =>
        have h2 := (tok_q1 c (qs t ++ 34 :: r)).2
        rw [qs_nil, qs_cons, List.append_assoc] at h
        rw [h] at h2
        simp at h2
      | cons c' t' =>
        have h1 := (tok_q1 c (qs t ++ 34 :: r)).1
        have h2 := (tok_q1 c' (qs t' ++ 34 :: r')).1
        rw [qs_cons, qs_cons, List.append_assoc, List.append_assoc] at h
        rw [h, h2] at h1
        simp only [Option.some.injEq, Prod.mk.injEq] at h1
        obtain ⟨rfl, h3⟩ := h1
        obtain ⟨rfl, rfl⟩ := ih t' r r' h3.symm
        exact ⟨rfl, rfl⟩
  have e : ∀ t r : Bs, quote t ++ r = 34 :: (qs t ++ 34 :: r) := by simp [quote]
  rw [e, e] at h
  exact key _ _ _ _ (List.cons.inj h).2
theorem q1_clean (c : UInt8) : ∀ x ∈ q1 c, 32 ≤ x.toNat ∧ x.toNat ≤ 126 := by
  have hx : ∀ n, n < 16 → 32 ≤ (hexd n).toNat ∧ (hexd n).toNat ≤ 126 := by decide
  intro x h
  have hlt := c.toNat_lt
  unfold q1 at h
  split at h
  · rename_i h34
    simp only [List.mem_cons, List.not_mem_nil, or_false] at h
    rcases h with rfl | rfl
    · decide
    · rcases h34 with rfl | rfl <;> decide
  · split at h
    · simp only [List.mem_cons, List.not_mem_nil, or_false] at h
      rcases h with rfl | rfl | rfl | rfl
      · decide
      · decide
      · exact hx _ (by omega)
      · exact hx _ (by omega)
    · simp only [List.mem_cons, List.not_mem_nil, or_false] at h
      subst h
      omega
theorem quote_clean (l : Bs) : ∀ x ∈ quote l, 32 ≤ x.toNat ∧ x.toNat ≤ 126 := by
  intro x h
  simp only [quote, qs, List.mem_cons, List.mem_append, List.mem_flatMap, List.not_mem_nil, or_false] at h
  rcases h with rfl | ⟨c, _, hc⟩ | rfl
  · decide
  · exact q1_clean c x hc
  · decide

/-- A numeral's bytes. -/
theorem dec_digit (u : Nat) : ∀ x ∈ Lib.decDigits u, 48 ≤ x.toNat ∧ x.toNat ≤ 57 := by
  induction u using Nat.strongRecOn with
  | _ u ih =>
    have h1 : ∀ k, k < 10 → (UInt8.ofNat (48 + k)).toNat = 48 + k := fun k hk => by rw [UInt8.toNat_ofNat']; omega
    intro x hx
    rw [Lib.decDigits] at hx
    split at hx
    · simp only [List.mem_cons, List.not_mem_nil, or_false] at hx
      subst hx
      rw [h1 _ (by assumption)]
      omega
    · simp only [List.mem_append, List.mem_cons, List.not_mem_nil, or_false] at hx
      rcases hx with hx | rfl
      · exact ih (u / 10) (by omega) x hx
      · rw [h1 _ (by omega)]
        omega
theorem dec_ne (u : Nat) : Lib.decDigits u ≠ [] := by
  intro h
  have := Lib.nDigits_pos u
  rw [← Lib.decDigits_length, h] at this
  exact absurd this (by decide)
theorem itoa_nat (n : Nat) : Lib.itoa (n : Int) = Lib.decDigits n := by
  unfold Lib.itoa
  rw [if_neg (by omega), Int.toNat_natCast]
theorem parse_dec (u : Nat) : u < 9223372036854775808 → ∀ acc l, acc * 10 ^ (Lib.nDigits u) + u < 9223372036854775808 → Lib.parseUint10 acc (Lib.decDigits u ++ l) = Lib.parseUint10 (acc * 10 ^ (Lib.nDigits u) + u) l := by
  induction u using Nat.strongRecOn with
  | _ u ih =>
    intro hu acc l h
    have h1 : ∀ k, k < 10 → (UInt8.ofNat (48 + k)).toNat = 48 + k := fun k hk => by rw [UInt8.toNat_ofNat']; omega
    have one : ∀ (acc k : Nat), k < 10 → acc * 10 + k < 9223372036854775808 → Lib.parseUint10 acc (UInt8.ofNat (48 + k) :: l) = Lib.parseUint10 (acc * 10 + k) l := by
      intro acc k hk hb
      simp only [Lib.parseUint10]
      rw [h1 k hk, if_pos (by omega), if_neg (by omega), if_neg (by omega)]
      have e : 48 + k - 48 = k := by omega
      rw [e]
    rw [Lib.decDigits]
    by_cases hs : u < 10
    · rw [dif_pos hs]
      rw [Lib.nDigits_small hs] at h ⊢
      exact one acc u hs (by simpa using h)
    · rw [dif_neg hs, List.append_assoc]
      rw [Lib.nDigits_big hs, Nat.pow_succ] at h ⊢
      have e : acc * (10 ^ Lib.nDigits (u / 10) * 10) + u = (acc * 10 ^ Lib.nDigits (u / 10) + u / 10) * 10 + u % 10 := by
        rw [Nat.add_mul, ← Nat.mul_assoc]
        omega
      rw [e] at h ⊢
      rw [ih (u / 10) (by omega) (by omega) acc _ (by omega)]
      exact one _ (u % 10) (by omega) h
theorem atoi_dec (n : Nat) (h : n < 9223372036854775808) : Lib.atoiAll (Lib.decDigits n) = .ok (n : Int) := by
  have h1 := parse_dec n h 0 [] (by omega)
  rw [Nat.zero_mul, Nat.zero_add, List.append_nil] at h1
  have h2 := dec_digit n
  have h3 := dec_ne n
  cases hd : Lib.decDigits n with
  | nil => exact absurd hd h3
  | cons c r =>
    have h4 := h2 c (by rw [hd]; simp)
    rw [hd] at h1
    rw [Lib.atoiAll_plain c r (by omega) (by omega)]
    unfold Lib.parseMag
    rw [if_neg (by simp), h1]
    simp only [Lib.parseUint10, Lib.signless]
    rw [if_neg (by omega)]
end Go.Proofs.YtoajcijjkkkaaaaGreatDoor.K

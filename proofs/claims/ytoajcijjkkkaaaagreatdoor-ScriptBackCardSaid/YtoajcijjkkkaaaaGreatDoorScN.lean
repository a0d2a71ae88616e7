/- Rows of strings of the call's own; how long a line is; strings.Join of a line's parts. -/
import Derived.Test.YtoajcijjkkkaaaaGreatDoorScM
import Derived.Test.YtoajcijjkkkaaaaGreatDoorScJ
namespace Go.Proofs.YtoajcijjkkkaaaaGreatDoor.K
open Go.RowKit Go.Proofs.YtoajcijjkkkaaaaGreatDoorW.PrintWords Go.Proofs.YtoajcijjkkkaaaaGreatDoorW.PrintLast Go.Proofs.YtoajcijjkkkaaaaGreatDoorW.PrintMore
set_option linter.unusedVariables false
set_option linter.unusedSimpArgs false

theorem info_str : (Tryz.prog.info? 9).map (fun i => (i.zero, i.size, i.bytes)) = some (some (.string ByteArray.empty), 1, 16) := by kernel_rfl
def sbs (xs : List Bs) : List ByteArray := xs.map (fun l => ⟨l.toArray⟩)
theorem sbs_len (xs : List Bs) : (sbs xs).length = xs.length := by simp [sbs]
theorem sbs_app (xs ys : List Bs) : sbs (xs ++ ys) = sbs xs ++ sbs ys := by simp [sbs]
theorem sbs_lists (xs : List Bs) : (sbs xs).map (fun x => x.data.toList) = xs := by
  unfold sbs
  rw [List.map_map]
  conv => rhs; rw [← List.map_id xs]
  apply List.map_congr_left
  intro l _
  simp
/-- A row of strings of the call's own, not in block X. -/
abbrev OwnS (w : World) (base X : Nat) (v : Value) (xs : List Bs) : Prop := Kd.R Kd.string 9 w base (fun k => k ≠ X) v (sbs xs)
theorem own_lit2 (W : World) (a b : Bs) (X : Nat) (hX : X ≠ W.heap.size) : OwnS (W.alloc (.cells #[.string ⟨a.toArray⟩, .string ⟨b.toArray⟩] 9)) W.heap.size X (.slice (some ⟨W.heap.size, 0, none⟩) 2 2) [a, b] := by
  refine Kd.R_of_own (enc := Value.string) (h1 := fun _ => rfl) ⟨rfl, .inr ⟨_, 2, _, rfl, Nat.le_refl _, blk_new W (.cells #[.string ⟨a.toArray⟩, .string ⟨b.toArray⟩] 9 (0, 0)), Nat.le_refl _, by decide, rfl, rfl⟩⟩ (fun k hk => ?_)
  simp only [Value.ownBlock, Option.some.injEq] at hk
  omega
section
variable {P : Program} {ops : Array Oper} {rest : List Oper} {o : Oper} {a : Act} {Q : Exit → Act → World → Prop} {w0 W : World}
/-- append of one string, a literal just made. -/
theorem app_s (base X : Nat) (hgd : o.guard = none) (s x : Operand) (t : TypeId)
    (ho : o.op = .call { callee := .builtin .append, args := #[s, x], argTypes := #[t, t] }) (ht : P.underlying t = some (.slice 9))
    (hinfo : (P.info? 9).map (fun i => (i.zero, i.size, i.bytes)) = some (some (.string ByteArray.empty), 1, 16))
    (v : Value) (xs : List Bs) (y : Bs) (hs : a.eval s = v) (hx : a.eval x = .slice (some ⟨W.heap.size, 0, none⟩) 1 1)
    (HO : OwnS W base X v xs) (hX : X < W.heap.size) (HB : Below base w0 W) (hbase : base ≤ W.heap.size) (hl : xs.length ≤ 1000)
    (h : ∀ v1 w1, OwnS w1 base X v1 (xs ++ [y]) → Below base w0 w1 → w1.heap[X]? = W.heap[X]? → wpList P ops Q rest (a.put o.dst v1) w1) :
    wpList P ops Q (o :: rest) a (W.alloc (.cells #[.string ⟨y.toArray⟩] 9)) :=
  Kd.R_append Kd.string base hgd s x t 9 (.string ByteArray.empty) 16 ho ht hinfo rfl (by decide) (by omega) v (sbs xs) ⟨y.toArray⟩ [.string ⟨y.toArray⟩] (fun k => k ≠ X) (fun _ => False) hs hx rfl (fun _ h => h.elim) (fun k hk => by omega) HO HB hbase (by rw [sbs_len]; omega)
    (fun v1 w1 h1 h2 h3 _ => h v1 w1 (by unfold OwnS; rw [sbs_app]; exact h1) h2 (h3.block X hX (fun e => HO.1 X e.symm rfl)))
end

theorem ndig_le (u : Nat) : Lib.nDigits u ≤ u + 1 := by
  induction u using Nat.strongRecOn with
  | _ u ih =>
    by_cases h : u < 10
    · rw [Lib.nDigits_small h]; omega
    · rw [Lib.nDigits_big h]
      have := ih (u / 10) (by omega)
      omega
theorem itoa_len {v : Int} (h0 : 0 ≤ v) (h1 : v ≤ 1000000) : (Lib.itoa v).length ≤ 1000001 := by
  obtain ⟨n, rfl⟩ : ∃ n : Nat, v = n := ⟨v.toNat, by omega⟩
  rw [itoa_nat, Lib.decDigits_length]
  have := ndig_le n
  omega
theorem word_len (d : Int) : (wordOf d).length ≤ 10 := by
  unfold wordOf
  split
  · rename_i h
    exact tab_all (fun p => p.1.length ≤ 10) (by decide +kernel) h.1 h.2
  · simp
theorem quote_len {l : Bs} (h : l.length ≤ 1000) : (quote l).length ≤ 4002 := by
  have := (qs_len l).2
  simp only [quote, List.length_cons, List.length_append, List.length_nil]
  omega
theorem digits_len {l : List Bool} (h : l.length ≤ 1000) : (digits l).length ≤ 1001 := by
  unfold digits
  split <;> simp
  omega
theorem encA_len {x : Stp} (hR : rightB x = true) (a : UInt8) : (encA a x).length ≤ 1000001 := by
  obtain ⟨h1, h2, h3, h4, h5, h6, h7, h8, h9, h10, h11, h12⟩ := rightB_iff.1 hR
  rw [numOk_iff] at h11 h12
  unfold encA
  split
  · have := quote_len (l := x.p) (by omega); omega
  · split
    · have := quote_len (l := x.q) (by omega); omega
    · split
      · exact itoa_len h11.1 h11.2.1
      · split
        · exact itoa_len h12.1 h12.2.1
        · have := digits_len (l := x.keep) (by omega); omega
theorem args_len (d : Int) : (argsOf d).length ≤ 2 := by
  have h := args_kinds d
  generalize argsOf d = L at h
  simp only [List.mem_cons, List.not_mem_nil, or_false] at h
  rcases h with rfl | rfl | rfl | rfl | rfl | rfl | rfl <;> simp
theorem args_mem {d : Int} {a : UInt8} (h : a ∈ argsOf d) : a = 80 ∨ a = 81 ∨ a = 78 ∨ a = 77 ∨ a = 75 := by
  have hk := args_kinds d
  generalize argsOf d = L at h hk
  simp only [List.mem_cons, List.not_mem_nil, or_false] at hk
  rcases hk with rfl | rfl | rfl | rfl | rfl | rfl | rfl <;> simp only [List.mem_cons, List.not_mem_nil, or_false] at h <;> (try rcases h with rfl | rfl) <;> (try subst h) <;> simp
theorem flat_len (x : Stp) (hR : rightB x = true) (L : Bs) : (L.flatMap (fun a => 32 :: encA a x)).length ≤ L.length * 1000002 := by
  induction L with
  | nil => simp
  | cons a L ih =>
    have := encA_len hR a
    rw [List.flatMap_cons, List.length_append, List.length_cons, List.length_cons, Nat.succ_mul]
    omega
theorem line_len {x : Stp} (hR : rightB x = true) : (line x).length ≤ 3100000 := by
  obtain ⟨h1, h2, h3, _⟩ := rightB_iff.1 hR
  have h4 := itoa_len h2 (by omega)
  have h5 := word_len x.kind
  have h6 := flat_len x hR (argsOf x.kind)
  have h7 := args_len x.kind
  have h8 : (argsOf x.kind).length * 1000002 ≤ 2 * 1000002 := Nat.mul_le_mul_right _ h7
  unfold line
  rw [List.length_append, List.length_cons, List.length_append]
  omega
/-- A line's parts. -/
def parts (x : Stp) (L : Bs) : List Bs := [Lib.itoa x.who, wordOf x.kind] ++ L.map (fun a => encA a x)
theorem parts_join (x : Stp) : Lib.join (parts x (argsOf x.kind)) [32] = line x := by
  unfold parts line
  rw [List.cons_append, Lib.join_cons]
  unfold Lib.joinTail
  rw [List.cons_append, List.map_cons, List.flatten_cons, List.nil_append, List.map_map]
  simp only [List.cons_append, List.nil_append]
  rw [List.flatMap_def]
  rfl
theorem parts_snoc (x : Stp) (L : Bs) (a : UInt8) : parts x (L ++ [a]) = parts x L ++ [encA a x] := by simp [parts]
theorem parts_len (x : Stp) (L : Bs) : (parts x L).length = L.length + 2 := by simp [parts]

theorem join_calls (g cap : Nat) (x : Stp) (hR : rightB x = true) (base X : Nat) (w : World) (h : OwnS w base X (.slice (some ⟨g, 0, none⟩) (parts x (argsOf x.kind)).length cap) (parts x (argsOf x.kind))) :
    Calls Tryz.prog 26 #[.slice (some ⟨g, 0, none⟩) (parts x (argsOf x.kind)).length cap, .string ⟨#[32]⟩] w fun e w' => e = .returned (.string ⟨(line x).toArray⟩) ∧ Below w.heap.size w w' := by
  have hl := line_len hR
  have hn := args_len x.kind
  have hpl := parts_len x (argsOf x.kind)
  have hcap : (sbs (parts x (argsOf x.kind))).length ≤ cap ∧ g < w.heap.size := by
    rcases (Kd.own_of_R h).2 with ⟨h1, _⟩ | ⟨g', cap', cur, h1, h2, h3, h4, _⟩
    · exact absurd h1 (by simp)
    · simp only [Value.slice.injEq, Option.some.injEq] at h1
      obtain ⟨h5, h6, rfl⟩ := h1
      obtain rfl : g = g' := by simpa using h5
      exact ⟨h4, blk_lt h3⟩
  have hj := L.strings_Join g 0 cap (sbs (parts x (argsOf x.kind))) ⟨#[32]⟩ w (fun j y hy => ?_) hcap.2 (by rw [sbs_len, hpl]; omega) hcap.1 (by rw [sbs_lists, show (⟨#[32]⟩ : ByteArray).data.toList = [32] from rfl, parts_join]; omega)
  · rw [sbs_lists, show (⟨#[32]⟩ : ByteArray).data.toList = [32] from rfl, parts_join, sbs_len] at hj
    exact hj
  · have hlt := (List.getElem?_eq_some_iff.1 hy).1
    have h2 := (Kd.R_cell (enc := Value.string) (h1 := fun _ => rfl) (d := ByteArray.empty) (by rw [← sbs_len] at h; exact h) (j : Int) (by omega) (by omega)).1
    rw [Int.toNat_natCast] at h2
    rw [Nat.zero_add, h2]
    unfold rdOf
    rw [Int.toNat_natCast, List.getD_eq_getElem?_getD, hy]
    rfl
end Go.Proofs.YtoajcijjkkkaaaaGreatDoor.K

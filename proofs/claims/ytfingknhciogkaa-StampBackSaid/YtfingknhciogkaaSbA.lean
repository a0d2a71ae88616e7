/- stamp.Put, stamp.Get: what they put and take; lists of stamps, how often one stands there. -/
import Derived.Test.YtfingknhciogkaaSsQ
namespace Go.Proofs.Ytfingknhciogkaa.K
open Go.RowKit Go.Proofs.YtfingknhciogkaaW.PrintWords Go.Proofs.YtfingknhciogkaaW.PrintLast Go.Proofs.YtfingknhciogkaaW.PrintMore
set_option linter.unusedVariables false
set_option linter.unusedSimpArgs false

theorem widF_ge (i : Nat) (l : List Int) (h : widF i l ≠ 0) : i + 1 ≤ widF i l := by
  induction l generalizing i with
  | nil => simp [widF] at h
  | cons c r ih =>
    simp only [widF] at h ⊢
    by_cases h9 : i = 9 ∧ c ≠ 1
    · rw [if_pos h9] at h
      exact absurd rfl h
    · rw [if_neg h9] at h ⊢
      by_cases h1 : c < 128
      · rw [if_pos h1] at h ⊢
        by_cases h0 : c = 0 ∧ 0 < i
        · rw [if_pos h0] at h
          exact absurd rfl h
        · rw [if_neg h0]
          omega
      · rw [if_neg h1] at h ⊢
        have := ih (i + 1) h
        omega
/-- The bytes of a number, up to its end: its form. -/
theorem numL_valF (i : Nat) (l : List Int) (hb : ∀ x ∈ l, 0 ≤ x ∧ x ≤ 255) (hi : widF i l ≠ 0) :
    numL (valF (l.take (widF i l - i))) = l.take (widF i l - i) ∧ (0 < i → 0 < valF (l.take (widF i l - i))) := by
  induction l generalizing i with
  | nil => simp [widF] at hi
  | cons c r ih =>
    have hc := hb c (by simp)
    by_cases h9 : i = 9 ∧ c ≠ 1
    · simp [widF, h9] at hi
    · by_cases h1 : c < 128
      · by_cases h0 : c = 0 ∧ 0 < i
        · simp [widF, h9, h1, h0] at hi
        · have e : widF i (c :: r) = i + 1 := by simp only [widF]; rw [if_neg h9, if_pos h1, if_neg h0]
          rw [e]
          have e2 : i + 1 - i = 1 := by omega
          rw [e2]
          simp only [List.take_succ_cons, List.take_zero, valF]
          have e3 : (c % 128).toNat + 128 * 0 = c.toNat := by omega
          rw [e3]
          constructor
          · rw [numL_small (by omega)]
            congr 1
            omega
          · intro hp
            omega
      · have e : widF i (c :: r) = widF (i + 1) r := by simp only [widF]; rw [if_neg h9, if_neg h1]
        rw [e] at hi ⊢
        have hge := widF_ge (i + 1) r hi
        have e2 : widF (i + 1) r - i = (widF (i + 1) r - (i + 1)) + 1 := by omega
        rw [e2]
        simp only [List.take_succ_cons, valF]
        obtain ⟨h2, h3⟩ := ih (i + 1) (fun x hx => hb x (by simp [hx])) hi
        have h4 := h3 (by omega)
        obtain ⟨m, hm⟩ : ∃ m, m = valF (r.take (widF (i + 1) r - (i + 1))) := ⟨_, rfl⟩
        rw [← hm] at h2 h3 h4 ⊢
        refine ⟨?_, fun _ => by omega⟩
        have hlt : ¬ ((c % 128).toNat + 128 * m) < 128 := by omega
        rw [numL_big hlt]
        have e3 : ((c % 128).toNat + 128 * m) / 128 = m := by omega
        have e4 : ((((c % 128).toNat + 128 * m) % 128 + 128 : Nat) : Int) = c := by omega
        rw [e3, e4, h2]
/-- What was put is taken. -/
theorem numL_wid (i n : Nat) (rest : List Int) (hn : n * 128 ^ i < 18446744073709551616) (hi : i ≤ 9) (h0 : 0 < i → 0 < n) :
    widF i (numL n ++ rest) = i + (numL n).length ∧ valF (numL n) = n := by
  induction n using Nat.strongRecOn generalizing i with
  | _ n ih =>
  by_cases hlt : n < 128
  · rw [numL_small hlt]
    constructor
    · simp only [List.singleton_append, widF, List.length_singleton]
      have h9 : ¬ (i = 9 ∧ (n : Int) ≠ 1) := by
        rintro ⟨rfl, h⟩
        have := h0 (by omega)
        omega
      rw [if_neg h9, if_pos (by omega), if_neg (by rintro ⟨h, hp⟩; have := h0 hp; omega)]
    · simp only [valF]
      omega
  · rw [numL_big hlt]
    have hi9 : i ≠ 9 := by
      rintro rfl
      omega
    have hq : (n / 128) * 128 ^ (i + 1) < 18446744073709551616 := by
      rw [Nat.pow_succ, Nat.mul_comm (128 ^ i), ← Nat.mul_assoc]
      exact Nat.lt_of_le_of_lt (Nat.mul_le_mul_right _ (Nat.div_mul_le_self n 128)) hn
    obtain ⟨h1, h2⟩ := ih (n / 128) (by omega) (i + 1) hq (by omega) (fun _ => by omega)
    constructor
    · simp only [List.cons_append, widF, List.length_cons]
      rw [if_neg (by omega), if_neg (by omega), h1]
      omega
    · simp only [valF, h2]
      omega
theorem numL_BL (n : Nat) : ∀ x ∈ numL n, 0 ≤ x ∧ x ≤ 255 := by
  induction n using Nat.strongRecOn with
  | _ n ih =>
  by_cases hlt : n < 128
  · rw [numL_small hlt]
    intro x hx
    simp at hx
    omega
  · rw [numL_big hlt]
    intro x hx
    simp at hx
    rcases hx with rfl | hx
    · omega
    · exact ih (n / 128) (by omega) x hx

/-- Num takes a number's form. -/
theorem numR_put (n : Nat) (rest : List Int) (hn : n < 18446744073709551616) : numR (numL n ++ rest) 0 = (n, rest, 0) := by
  obtain ⟨h1, h2⟩ := numL_wid 0 n rest (by simpa using hn) (by omega) (by omega)
  have hp := numL_pos n
  simp only [Nat.zero_add] at h1
  unfold numR
  rw [if_pos rfl, h1, if_neg (by omega), List.take_left, List.drop_left, h2]

/-- A store into another block. -/
theorem Rdr.far {T : Nat} {w0 W : World} {g : Nat} {l : List Int} {k : Int} (h : Rdr T w0 W g l k) {p : Addr} (hp : g ≠ p.block) (u : Value) : Rdr T w0 (W.setCell p u) g l k := by
  obtain ⟨v, hb, h2⟩ := h
  exact ⟨v, blk_far hb hp u, h2⟩
theorem Own.eq {w : World} {b : Nat} {v : Value} {l l' : List Int} (h : Own w b v l) (e : l = l') : Own w b v l' := e ▸ h
theorem Rdr.lt {T : Nat} {w0 W : World} {g : Nat} {l : List Int} {k : Int} (h : Rdr T w0 W g l k) : g < W.heap.size := by
  obtain ⟨v, hb, h2⟩ := h
  exact blk_lt hb
theorem Rdr.ge {T : Nat} {w0 W : World} {g : Nat} {l : List Int} {k : Int} (h : Rdr T w0 W g l k) : w0.heap.size ≤ g := by
  obtain ⟨v, hb, h2, _⟩ := h
  exact h2

/-- The stamp that bytes begin with: its time, its member, what is left, what is wrong. -/
def getS (l : List Int) (k : Int) : Int × Int × List Int × Int :=
  (unzz (numR l k).1, (countR 7 (numR l k).2.1 (numR l k).2.2).1, (countR 7 (numR l k).2.1 (numR l k).2.2).2.1, (countR 7 (numR l k).2.1 (numR l k).2.2).2.2)

set_option maxHeartbeats 2000000 in
theorem sget_calls (g : Nat) (l : List Int) (k : Int) (w0 w : World) (hI : Rdr 56 w0 w g l k) (hB : Below w0.heap.size w0 w) :
    Calls Try.prog 19 #[.pointer (some ⟨g, 0, none⟩)] w fun e w' => e = .returned (.agg #[.int .i64 (getS l k).1, .int .i64 (getS l k).2.1]) ∧ Rdr 56 w0 w' g (getS l k).2.2.1 (getS l k).2.2.2 ∧ Stp w0 w w' g := by
  have HI := Aside0.mk hI
  have HB := Aside0.mk hB
  have hg := hI.lt
  have hne : g ≠ w.heap.size := by omega
  have hle : w0.heap.size ≤ w.heap.size := hB.size
  clear hI hB
  obtain ⟨z, hz⟩ : ∃ n, unzz (numR l k).1 = n := ⟨_, rfl⟩
  obtain ⟨l1, hl1⟩ : ∃ n, (numR l k).2.1 = n := ⟨_, rfl⟩
  obtain ⟨k1, hk1⟩ : ∃ n, (numR l k).2.2 = n := ⟨_, rfl⟩
  obtain ⟨c, hc⟩ : ∃ n, (countR 7 l1 k1).1 = n := ⟨_, rfl⟩
  obtain ⟨l2, hl2⟩ : ∃ n, (countR 7 l1 k1).2.1 = n := ⟨_, rfl⟩
  obtain ⟨k2, hk2⟩ : ∃ n, (countR 7 l1 k1).2.2 = n := ⟨_, rfl⟩
  have HG : Aside0 (getS l k = (z, c, l2, k2)) := ⟨by unfold getS; rw [hz, hl1, hk1, hc, hl2, hk2]⟩
  have HZ := Aside0.mk hz
  have HL1 := Aside0.mk hl1
  have HK1 := Aside0.mk hk1
  have HC := Aside0.mk hc
  have HL2 := Aside0.mk hl2
  have HK2 := Aside0.mk hk2
  clear hz hl1 hk1 hc hl2 hk2
  go_enter Try.func19, Try.ntmps19
  go_wp2_with (first
    | (go_at_call 33; go_must ((refine (rint_calls g l k w0 _ (by exact HI.out.below (below_alloc (Below.refl _ _) _)) (by exact HB.out.alloc HB.out.size _)).mono ?_; rw [HZ.out, HL1.out, HK1.out]; rintro e w4 ⟨rfl, hr, hs⟩; have hb4 := hs.keep.blk (blk_new w _) (Ne.symm hne) (by simp); have f40 := blk_frozen hb4 0; have f41 := blk_frozen hb4 1; have c40 := (blk_cell hb4 0).trans rfl; have c41 := (blk_cell hb4 1).trans rfl; have H4 := Aside0.mk hb4; have HR4 := Aside0.mk hr; have HS4 := Aside0.mk hs; have hlt4 := blk_lt hb4; clear hr hs hb4)))
    | (go_at_call 34; go_must ((refine (count_calls g 7 l1 k1 w0 _ (by exact HR4.out.far (p := ⟨w.heap.size, 0, none⟩) hne _) (by exact HS4.out.below.setCell (p := ⟨w.heap.size, 0, none⟩) hle _)).mono ?_; rw [HC.out, HL2.out, HK2.out]; rintro e w7 ⟨rfl, hr, hs⟩; have hb7 := hs.keep.blk (blk_set H4.out 0 (.int .i64 z)) (Ne.symm hne) (by simp); have hb7' : w7.heap[w.heap.size]? = some (.cells #[.int .i64 z, .int .i64 0] 23 (0, 0)) := (by simpa using hb7); clear hb7; have f70 := blk_frozen hb7' 0; have f71 := blk_frozen hb7' 1; have c70 := (blk_cell hb7' 0).trans rfl; have c71 := (blk_cell hb7' 1).trans rfl; have H7 := Aside0.mk hb7'; have HR7 := Aside0.mk hr; have HS7 := Aside0.mk hs; clear hr hs hb7'))))
  have HR2 : (((w7.setCell ⟨w.heap.size, 1, none⟩ (.int .i64 c)).setCell ⟨w.heap.size, 0, none⟩ (.int .i64 z)).setCell ⟨w.heap.size, 1, none⟩ (.int .i64 c)).heap[w.heap.size]? = some (.cells #[.int .i64 z, .int .i64 c] 23 (0, 0)) := by
    simpa using blk_set (blk_set (blk_set H7.out 1 (.int .i64 c)) 0 (.int .i64 z)) 1 (.int .i64 c)
  have q0 := (blk_cell HR2 0).trans rfl
  have q1 := (blk_cell HR2 1).trans rfl
  rw [HG.out]
  have hk0 : KeepBut w w4 g none := KeepBut.trans (KeepBut.of_below (below_alloc (Below.refl w.heap.size w) _) g none) HS4.out.keep (.inl rfl)
  have hk1 : KeepBut w w7 g none := KeepBut.trans (keep_far hk0 (p := ⟨w.heap.size, 0, none⟩) (Nat.le_refl _) (.int .i64 z)) HS7.out.keep (.inl rfl)
  exact bodyPost_ret (v := .agg #[.int .i64 z, .int .i64 c]) (by simp [results, Try.results19, go_sem, q0, q1]) rfl ⟨rfl, ((HR7.out.far (p := ⟨w.heap.size, 1, none⟩) hne _).far (p := ⟨w.heap.size, 0, none⟩) hne _).far (p := ⟨w.heap.size, 1, none⟩) hne _, ((HS7.out.below.setCell (p := ⟨w.heap.size, 1, none⟩) hle _).setCell (p := ⟨w.heap.size, 0, none⟩) hle _).setCell (p := ⟨w.heap.size, 1, none⟩) hle _, keep_far (keep_far (keep_far hk1 (p := ⟨w.heap.size, 1, none⟩) (Nat.le_refl _) _) (p := ⟨w.heap.size, 0, none⟩) (Nat.le_refl _) _) (p := ⟨w.heap.size, 1, none⟩) (Nat.le_refl _) _⟩

/-- The form of a stamp. -/
def putS (t a : Int) : List Int := numL (zz t) ++ numL (max a 0).toNat
set_option maxRecDepth 100000 in
set_option maxHeartbeats 4000000 in
theorem sput_calls (v0 : Value) (l0 : List Int) (t a : Int) (w : World) (hr0 : Rd w v0 l0) (h1 : -9223372036854775808 ≤ t) (h2 : t ≤ 9223372036854775807) (h3 : a ≤ 9223372036854775807) (hl : l0.length ≤ 100000) :
    Calls Try.prog 18 #[v0, .agg #[.int .i64 t, .int .i64 a]] w fun e w' => ∃ v, e = .returned v ∧ Own w' w.heap.size v (l0 ++ putS t a) ∧ Below w.heap.size w w' := by
  have HR := Aside0.mk hr0
  have H1 := Aside0.mk h1
  have H2 := Aside0.mk h2
  obtain ⟨A0, c0, rfl, hc0, hC0⟩ := hr0
  have HB := Aside0.mk (Below.refl w.heap.size w)
  obtain ⟨n, hn⟩ : ∃ n : Nat, max a 0 = n := ⟨(max a 0).toNat, by omega⟩
  have hn2 : (n : Int) ≤ 9223372036854775807 := by omega
  have hn3 : (0 : Int) ≤ n := by omega
  have HN : Aside0 ((max a 0).toNat = n) := ⟨by rw [hn]; simp⟩
  have HLn : Aside0 ((numL n).length ≤ 10) := ⟨by have := numL_le n (by omega); omega⟩
  have HLz : Aside0 ((numL (zz t)).length ≤ 10) := ⟨by have := numL_le (zz t) (zz_lt h1 h2); omega⟩
  have x0 := (blk_cell (blk_new w (.cells #[.int .i64 t, .int .i64 a] 23 (0, 0))) 0).trans rfl
  have x1 := (blk_cell (blk_new w (.cells #[.int .i64 t, .int .i64 a] 23 (0, 0))) 1).trans rfl
  have HW : Aside0 (IntKind.u64.wrap (max a 0) = (n : Int)) := ⟨by rw [hn]; simp [IntKind.wrap, IntKind.bits, IntKind.signed]; omega⟩
  clear hC0 h1 h2 h3 hn hn2 hn3
  go_enter Try.func18, Try.ntmps18
  go_wp2
  go_region_held3 (fun w' => w'.cell? ⟨w.heap.size, 0, none⟩ = some (.int .i64 t) ∧ w'.cell? ⟨w.heap.size, 1, none⟩ = some (.int .i64 a))
    (first | exact ⟨x0, x1⟩ | (go_split_ands; exact ⟨pw_cell_below hb (by assumption), pw_cell_below hb (by assumption)⟩))
    (first
      | (go_at_call 32; refine (int_calls _ l0 t _ (HR.out.below (by repeat (first | (with_reducible first | exact HB.out | apply below_alloc | apply pw_below_drewN | apply below_drew1) | exact HB.out))) H1.out H2.out (by have := HLz.out; omega)).mono ?_; rintro e w8 ⟨v8, rfl, ho, hb⟩; have HO := Aside0.mk ho; replace HB := Aside0.mk (below_step (by repeat (first | (with_reducible first | exact HB.out | apply below_alloc | apply pw_below_drewN | apply below_drew1) | exact HB.out)) hb); clear ho)
      | (go_at_call 31; rw [HW.out]; refine (num_calls _ (l0 ++ numL (zz t)) n _ (by exact HO.out.rd) (by have := HLz.out; have := HLn.out; simp only [List.length_append]; omega)).mono ?_; rintro e w13 ⟨v13, rfl, ho, hb⟩; have HO2 := Aside0.mk (Kd.R_lower ho (Below.size (by repeat (first | (with_reducible first | exact HB.out | apply below_alloc | apply pw_below_drewN | apply below_drew1) | exact HB.out)))); replace HB := Aside0.mk (below_step (by repeat (first | (with_reducible first | exact HB.out | apply below_alloc | apply pw_below_drewN | apply below_drew1) | exact HB.out)) hb); clear ho))
  all_goals
    go_wp2
    go_ret
    exact ⟨_, rfl, Own.eq HO2.out (by unfold putS; rw [HN.out, List.append_assoc]), HB.out⟩

section
variable {P : Program} {ops : Array Oper} {o : Oper} {a : Act} {Q : Exit → Act → World → Prop} {Kc : Act → World → Prop} {w0 W : World}
/-- append of bytes onto a row of the call's own, in a region. -/
theorem app_bytes_step (base : Nat) (hw : Region.wanted o (yielded ops a.tmps) = true) (s x : Operand) (t : TypeId)
    (ho : o.op = .call { callee := .builtin .append, args := #[s, x], argTypes := #[t, t] }) (ht : P.underlying t = some (.slice 5))
    (hinfo : (P.info? 5).map (fun i => (i.zero, i.size, i.bytes)) = some (some (.int .u8 0), 1, 1))
    (v xv : Value) (xs ys : List Int) (hs : a.eval s = v) (hx : a.eval x = xv)
    (HO : Own W base v xs) (HR : Rd W xv ys) (HB : Below base w0 W) (hbase : base ≤ W.heap.size) (hl : xs.length + ys.length ≤ 140737488355328)
    (h : ∀ v1 w1, Own w1 base v1 (xs ++ ys) → Below base w0 w1 → W.grownBy w1 v.ownBlock → Kc (a.put o.dst v1) w1) :
    if Region.wanted o (yielded ops a.tmps) = true then Oper.wp P o a W Kc Q else Kc (a.put o.dst undef) W := by
  obtain ⟨A, c, rfl, hc, hC⟩ := HR
  exact Kd.R_append_rows_step B base hw s x t 5 (.int .u8 0) 1 ho ht hinfo rfl (by decide) (by omega) v xs ys A _ c (fun _ => True) (fun _ => False) hs hx HO hC (fun _ _ h => h) (fun _ h => h.elim) (fun _ _ => trivial) HB hbase (by omega) (fun v1 w1 h1 h2 h3 _ => h v1 w1 h1 h2 h3)
end

theorem countR_put' (n : Nat) (most : Int) (R : List Int) (hm : (n : Int) ≤ most) (hn : n < 4611686018427387904) : countR most (numL n ++ R) 0 = ((n : Int), R, 0) := by
  unfold countR
  rw [numR_put n R (by omega)]
  dsimp only
  rw [if_neg (by decide), if_neg (by omega)]
theorem getS_put (t a : Int) (R : List Int) (h1 : -9223372036854775808 ≤ t) (h2 : t ≤ 9223372036854775807) (h3 : 0 ≤ a) (h4 : a ≤ 7) : getS (putS t a ++ R) 0 = (t, a, R, 0) := by
  obtain ⟨n, rfl⟩ : ∃ n : Nat, a = n := ⟨a.toNat, by omega⟩
  have e : (max ((n : Nat) : Int) 0).toNat = n := by omega
  unfold getS putS
  rw [e, List.append_assoc, numR_put _ _ (zz_lt h1 h2)]
  dsimp only
  rw [countR_put' n 7 R h4 (by omega), unzz_zz]

/-- How often. -/
def cntS (x : St) : List St → Nat
  | [] => 0
  | y :: r => (if neB y x = false then 1 else 0) + cntS x r
theorem cntS_append (x : St) (a b : List St) : cntS x (a ++ b) = cntS x a + cntS x b := by
  induction a with
  | nil => simp [cntS]
  | cons y r ih =>
    show (if neB y x = false then 1 else 0) + cntS x (r ++ b) = (if neB y x = false then 1 else 0) + cntS x r + cntS x b
    rw [ih]
    omega
theorem cntS_le (x : St) (a : List St) : cntS x a ≤ a.length := by
  induction a with
  | nil => simp [cntS]
  | cons y r ih =>
    show (if neB y x = false then 1 else 0) + cntS x r ≤ r.length + 1
    split <;> omega
theorem cntS_none {x : St} {a : List St} (h : x ∉ a) : cntS x a = 0 := by
  induction a with
  | nil => rfl
  | cons y r ih =>
    show (if neB y x = false then 1 else 0) + cntS x r = 0
    rw [ih (fun h' => h (List.mem_cons_of_mem _ h'))]
    split
    · exact absurd (List.mem_cons.2 (.inl (neB_false ‹_›).symm)) h
    · rfl
theorem neB_self (x : St) : neB x x = false := by simp [neB]
theorem cntS_one {x : St} {a : List St} (hs : Strict a) (h : x ∈ a) : cntS x a = 1 := by
  induction a with
  | nil => simp at h
  | cons y r ih =>
    obtain ⟨h1, h2⟩ := List.pairwise_cons.1 hs
    show (if neB y x = false then 1 else 0) + cntS x r = 1
    by_cases hy : y = x
    · subst hy
      rw [if_pos (neB_self y), cntS_none (fun h' => (h1 y h').ne rfl)]
    · rw [if_neg (fun h' => hy (neB_false h')), ih h2 (by rcases List.mem_cons.1 h with h | h; exact absurd h.symm hy; exact h)]
theorem dd_len (l : List St) : (dd l).length ≤ l.length := by
  suffices h : ∀ (n : Nat) (l : List St), l.length = n → (dd l).length ≤ l.length from h _ l rfl
  intro n
  induction n with
  | zero =>
    intro l hl
    have : l = [] := List.eq_nil_of_length_eq_zero hl
    subst this
    exact Nat.le_refl _
  | succ n ih =>
    intro l hl
    rcases List.eq_nil_or_concat l with rfl | ⟨r, x, rfl⟩
    · simp at hl
    · rw [List.concat_eq_append] at *
      simp at hl
      have h1 := ih r hl
      by_cases hx : r.getLast? = some x
      · rw [dd_snoc r x hx, List.length_append]
        exact Nat.le_trans h1 (Nat.le_add_right _ _)
      · rw [dd_snoc' r x hx, List.length_append, List.length_append]
        exact Nat.add_le_add_right h1 _
theorem strict_at {l : List St} (h : Strict l) {i j : Nat} {x y : St} (hx : l[i]? = some x) (hy : l[j]? = some y) (hij : i < j) : Lt x y := by
  obtain ⟨a, rfl⟩ := List.getElem?_eq_some_iff.1 hx
  obtain ⟨b, rfl⟩ := List.getElem?_eq_some_iff.1 hy
  exact (List.pairwise_iff_getElem.1 h) i j a b hij
theorem rightS_true {t a : Int} (h : rightS t a = true) : 1 ≤ t ∧ t ≤ 1099511627776 ∧ 0 ≤ a ∧ a < 8 := of_decide_eq_true h
theorem putS_len {t a : Int} (h1 : -9223372036854775808 ≤ t) (h2 : t ≤ 9223372036854775807) (h3 : a ≤ 9223372036854775807) : (putS t a).length ≤ 20 := by
  unfold putS
  have := numL_le (zz t) (zz_lt h1 h2)
  have := numL_le (max a 0).toNat (by omega)
  rw [List.length_append]
  omega
theorem putS_BL {t a : Int} (h1 : -9223372036854775808 ≤ t) (h2 : t ≤ 9223372036854775807) (h3 : a ≤ 9223372036854775807) {l : List Int} (hb : ∀ x ∈ l, 0 ≤ x ∧ x ≤ 255) (hl : l.length ≤ 300) : BL (putS t a ++ l) := by
  refine ⟨fun x hx => ?_, ?_⟩
  · rcases List.mem_append.1 hx with hx | hx
    · unfold putS at hx
      rcases List.mem_append.1 hx with hx | hx
      · exact numL_BL _ x hx
      · exact numL_BL _ x hx
    · exact hb x hx
  · have := putS_len h1 h2 h3
    rw [List.length_append]
    omega
end Go.Proofs.Ytfingknhciogkaa.K

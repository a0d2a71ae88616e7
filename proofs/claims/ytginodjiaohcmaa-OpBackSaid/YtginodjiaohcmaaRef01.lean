/- cachetteref01: Same, and the forms; wire.Read. -/
import Derived.Test.YtginodjiaohcmaaRf
namespace Go.Proofs.Ytginodjiaohcmaa.K
open Go.RowKit Go.Proofs.YtginodjiaohcmaaW.PrintWords Go.Proofs.YtginodjiaohcmaaW.PrintLast Go.Proofs.YtginodjiaohcmaaW.PrintMore
set_option linter.unusedVariables false
set_option linter.unusedSimpArgs false

set_option maxHeartbeats 400000 in
theorem same_calls (v0 v1 : Value) (l0 l1 : List Int) (w : World) (hr0 : Rd w v0 l0) (hr1 : Rd w v1 l1) :
    Calls Try.prog 16 #[v0, v1] w fun e w' => e = .returned (.bool (decide (l0 = l1))) ∧ Drawn0 w w' := by
  obtain ⟨A0, c0, rfl, hc0, hC0⟩ := hr0
  obtain ⟨A1, c1, rfl, hc1, hC1⟩ := hr1
  have HC0 := Aside0.mk hC0
  have HC1 := Aside0.mk hC1
  have hm0 := hC0.2.1
  clear hc0 hc1 hC0 hC1
  by_cases hl : l0.length = l1.length
  · have hlb : (l0.length == l1.length) = true := by simpa using hl
    have hlb' : ((l0.length : Int) != (l1.length : Int)) = false := by simp [hl]
    have HL := Aside0.mk hl
    clear hl
    go_enter Try.func16, Try.ntmps16
    go_wp2
    go_loopw [5] (fun v5 wr => ∃ i : Nat, v5 = .int .i64 i ∧ i ≤ l0.length ∧ Aside0 (l0.take i = l1.take i) ∧ Drawn0 w wr) (fun v5 _ => l0.length - (intOf v5).toNat)
    case atStart => exact ⟨0, rfl, by omega, ⟨by simp⟩, by repeat (first | exact Drawn0.refl _ | apply Drawn0.step)⟩
    case round =>
      obtain ⟨i, rfl, hi, HE, ⟨m1, rfl⟩⟩ := hrel
      by_cases hlt : i < l0.length
      · have hlt1 : i < l1.length := by rw [← HL.out]; exact hlt
        obtain ⟨ad, rfl, hx⟩ := Kd.at_int HC0.out i (by omega) (by omega)
        obtain ⟨bd, rfl, hy⟩ := Kd.at_int HC1.out i (by omega) (by omega)
        rw [Int.toNat_natCast] at hx hy
        have HT0 := Aside0.mk (take_rd hlt)
        have HT1 := Aside0.mk (take_rd hlt1)
        obtain ⟨x, hxx⟩ : ∃ x, x = rd l0 i := ⟨_, rfl⟩
        obtain ⟨y, hyy⟩ : ∃ y, y = rd l1 i := ⟨_, rfl⟩
        rw [← hxx] at hx HT0
        rw [← hyy] at hy HT1
        clear hxx hyy
        by_cases hxy : x = y
        · subst hxy
          go_wp2
          repeat (go_quiet (fail); try go_wp2)
          go_roundw
          case rel => exact ⟨i + 1, by go_num, by omega, ⟨by rw [HT0.out, HT1.out, HE.out]⟩, by repeat (first | exact Drawn0.refl _ | apply Drawn0.step)⟩
          case measure => simp [intOf]; omega
        · have hb1 : (x != y) = true := by simpa using hxy
          have hb2 : (x == y) = false := by simpa using hxy
          have HXY := Aside0.mk hxy
          clear hxy
          go_wp2
          repeat (go_quiet (fail); try go_wp2)
          go_ret
          refine ⟨?_, by repeat (first | exact Drawn0.refl _ | apply Drawn0.step)⟩
          have hne : l0 ≠ l1 := by
            rintro rfl
            have h1 := HT0.out
            rw [HT1.out] at h1
            simp at h1
            exact HXY.out h1.symm
          simp [hne]
      · go_wp2
        go_ret
        refine ⟨?_, by repeat (first | exact Drawn0.refl _ | apply Drawn0.step)⟩
        have he : l0 = l1 := by
          have h1 := HE.out
          have h2 := HL.out
          rwa [List.take_of_length_le (by omega), List.take_of_length_le (by omega)] at h1
        simp [he]
  · have hlb' : ((l0.length : Int) != (l1.length : Int)) = true := by simp; omega
    have hlb : (l0.length == l1.length) = false := by simpa using hl
    have HL := Aside0.mk hl
    clear hl
    go_enter Try.func16, Try.ntmps16
    go_wp2
    go_ret
    refine ⟨?_, Drawn0.refl _⟩
    have hne : l0 ≠ l1 := by
      rintro rfl
      exact HL.out rfl
    simp [hne]

theorem add_128 (n : Nat) : ((n : Int) % 128 + 128 : Int) = ((n % 128 + 128 : Nat) : Int) := by omega
theorem numL_pos (n : Nat) : 0 < (numL n).length := by
  rw [numL]
  split <;> simp

set_option maxRecDepth 100000 in
set_option maxHeartbeats 400000 in
theorem fnum_calls (n : Nat) : ∀ (w : World) (hn : n < 18446744073709551616) (hl : (numL n).length ≤ 140737488355328),
    Calls Try.prog 22 #[.int .u64 n] w fun e w' => ∃ v, e = .returned v ∧ Own w' w.heap.size v (numL n) ∧ Below w.heap.size w w' := by
  induction n using Nat.strongRecOn with
  | _ n ih =>
  intro w hn hl
  have HL := Aside0.mk hl
  have HN := Aside0.mk hn
  have IH := Aside0.mk ih
  have HB := Aside0.mk (Below.refl w.heap.size w)
  clear hl ih
  by_cases hlt : n < 128
  · have HS := Aside0.mk (numL_small hlt)
    go_enter Try.func22, Try.ntmps22
    go_wp2_with (first
      | ((with_reducible refine gate_dst (N := 7) rfl ?_); go_must (((try (refine gate_guard (by rfl) ?_; dsimp only)); refine lit_bytes (w0 := w) (w).heap.size 7 ?hg ?hd ([(n : Int)]) ?hr ?hm HB.out HB.out.size ?_; (case hd => rfl); (case hg => rfl); (case hr => first | (go_simp; done) | (go_simp; rfl)); (case hm => simp); intro vHO1 wHO1 ho hb hbw; have HO1 := Aside0.mk ho; clear HB; have HB := Aside0.mk hb; clear ho hb hbw))))
    go_ret
    exact ⟨_, rfl, by rw [HS.out]; exact HO1.out, HB.out⟩
  · obtain ⟨m, hm⟩ : ∃ m : Nat, (n : Int) / 128 = (m : Int) := ⟨n / 128, by omega⟩
    have hm2 : n / 128 = m := by omega
    have HS : Aside0 (numL n = ((n % 128 + 128 : Nat) : Int) :: numL m) := ⟨by rw [← hm2]; exact numL_big hlt⟩
    clear hm2
    go_enter Try.func22, Try.ntmps22
    go_wp2_with (first
      | ((with_reducible refine gate_dst (N := 12) rfl ?_); go_must (((try (refine gate_guard (by rfl) ?_; dsimp only)); refine lit_bytes (w0 := w) (w).heap.size 12 ?hg ?hd ([((n % 128 + 128 : Nat) : Int)]) ?hr ?hm HB.out HB.out.size ?_; (case hd => rfl); (case hg => rfl); (case hr => first | (go_simp; done) | (go_simp; rfl)); (case hm => simp); intro vHO1 wHO1 ho hb hbw; have HO1 := Aside0.mk ho; clear HB; have HB := Aside0.mk hb; clear ho hb hbw)))
      | ((with_reducible refine gate_dst (N := 15) rfl ?_); go_must (((try (refine gate_guard (by rfl) ?_; dsimp only)); refine goesL_ (some 15) rfl rfl Try.func22 (by kernel_rfl) rfl #[.int .u64 (m : Int)] rfl ?hA ?_; (case hA => ((try simp only [List.map_toArray, List.map_cons, List.map_nil]); first | done | rfl)); refine (IH.out m (by omega) _ (by have := HN.out; omega) (by have := HL.out; rw [HS.out] at this; simp at this; omega)).mono ?_; rintro e w2 ⟨v, rfl, ho, hb⟩; refine ⟨_, rfl, ?_⟩; have HO2 := Aside0.mk ho; replace HO1 := Aside0.mk (HO1.out.below hb); replace HB := Aside0.mk (below_step HB.out hb); clear ho hb)))
      | ((with_reducible refine gate_builtin (b := .append) (xs := #[.tmp 12, .tmp 15]) rfl ?_); at_builtin; go_must (((try (refine gate_guard (by rfl) ?_; dsimp only)); refine app_bytes (w0 := w) (w).heap.size rfl (.tmp 12) (.tmp 15) 24 rfl Try.underlying24 info5 _ _ ([((n % 128 + 128 : Nat) : Int)]) (numL m) rfl rfl HO1.out ?aR HB.out HB.out.size ?aL ?_; (case aR => exact HO2.out.rd); (case aL => (have := HL.out; rw [HS.out] at this; simp at this ⊢; omega)); intro vHO3 wHO3 ho hb hg; have HO3 := Aside0.mk ho; clear HB; have HB := Aside0.mk hb; clear ho hb hg))))
    go_ret
    exact ⟨_, rfl, by rw [HS.out]; exact HO3.out, HB.out⟩

theorem numL_len (n k : Nat) (h : n < 128 ^ (k + 1)) : (numL n).length ≤ k + 1 := by
  induction k generalizing n with
  | zero => rw [numL_small (by simpa using h)]; simp
  | succ k ih =>
    rw [numL]
    split
    · simp
    · have h2 : n / 128 < 128 ^ (k + 1) := Nat.div_lt_of_lt_mul (by rw [Nat.pow_succ] at h; omega)
      have := ih (n / 128) h2
      simp only [List.length_cons]
      omega
theorem numL_le (n : Nat) (h : n < 18446744073709551616) : (numL n).length ≤ 10 := numL_len n 9 (Nat.lt_of_lt_of_le h (by decide))

set_option maxHeartbeats 400000 in
theorem fint_calls (n : Int) (w : World) (h1 : -9223372036854775808 ≤ n) (h2 : n ≤ 9223372036854775807) :
    Calls Try.prog 51 #[.int .i64 n] w fun e w' => ∃ v, e = .returned v ∧ Own w' w.heap.size v (numL (zz n)) ∧ Below w.heap.size w w' := by
  have hz := Aside0.mk (zz_lt h1 h2)
  by_cases h : 0 ≤ n
  · have HZ : Aside0 (n * 2 = ((zz n : Nat) : Int)) := ⟨by unfold zz; rw [if_pos h]; omega⟩
    go_enter Try.func51, Try.ntmps51
    go_wp2_with (go_at_call 22; go_must ((rw [HZ.out]; refine (fnum_calls (zz n) w hz.out (by have := numL_le _ hz.out; omega)).mono ?_; rintro e w1 ⟨v, rfl, ho, hb⟩; have HO := Aside0.mk ho; have HB := Aside0.mk hb; clear ho hb)))
    go_ret
    exact ⟨_, rfl, HO.out, HB.out⟩
  · have HZ : Aside0 (-(n + 1) * 2 + 1 = ((zz n : Nat) : Int)) := ⟨by unfold zz; rw [if_neg h]; omega⟩
    go_enter Try.func51, Try.ntmps51
    go_wp2_with (go_at_call 22; go_must ((rw [HZ.out]; refine (fnum_calls (zz n) w hz.out (by have := numL_le _ hz.out; omega)).mono ?_; rintro e w1 ⟨v, rfl, ho, hb⟩; have HO := Aside0.mk ho; have HB := Aside0.mk hb; clear ho hb)))
    go_ret
    exact ⟨_, rfl, HO.out, HB.out⟩

set_option maxHeartbeats 400000 in
theorem fbytes_calls (v1 : Value) (l1 : List Int) (w : World) (hr1 : Rd w v1 l1) (hl : (numL l1.length).length + l1.length ≤ 140737488355328) :
    Calls Try.prog 25 #[v1] w fun e w' => ∃ v, e = .returned v ∧ Own w' w.heap.size v (numL l1.length ++ l1) ∧ Below w.heap.size w w' := by
  have HR1 := Aside0.mk hr1
  have HL := Aside0.mk hl
  have HB := Aside0.mk (Below.refl w.heap.size w)
  have hm : (l1.length : Int) ≤ 9223372036854775807 := by omega
  obtain ⟨A1, c1, rfl, hc1, hC1⟩ := hr1
  clear hl hc1 hC1
  go_enter Try.func25, Try.ntmps25
  go_wp2_with (first
    | (go_at_call 22; go_must ((refine (fnum_calls l1.length w (by omega) (by have := HL.out; omega)).mono ?_; rintro e w1 ⟨v, rfl, ho, hb⟩; have HO := Aside0.mk ho; clear HB; have HB := Aside0.mk hb; clear ho hb)))
    | ((with_reducible refine gate_builtin (b := .append) (xs := #[.tmp 6, .tmp 7]) rfl ?_); at_builtin; go_must (((try (refine gate_guard (by rfl) ?_; dsimp only)); refine app_bytes (w0 := w) (w).heap.size rfl (.tmp 6) (.tmp 7) 24 rfl Try.underlying24 info5 _ _ (numL l1.length) (l1) rfl rfl HO.out ?aR HB.out HB.out.size ?aL ?_; (case aR => exact HR1.out.below HB.out); (case aL => exact HL.out); intro vHO2 wHO2 ho hb hg; have HO2 := Aside0.mk ho; clear HB; have HB := Aside0.mk hb; clear ho hb hg))))
  go_ret
  exact ⟨_, rfl, HO2.out, HB.out⟩

set_option maxHeartbeats 400000 in
theorem fbool_calls (b : Bool) (w : World) :
    Calls Try.prog 24 #[.bool b] w fun e w' => ∃ v, e = .returned v ∧ Own w' w.heap.size v [if b then 1 else 0] ∧ Below w.heap.size w w' := by
  have HB := Aside0.mk (Below.refl w.heap.size w)
  cases b
  · go_enter Try.func24, Try.ntmps24
    go_wp2_with (first
      | ((with_reducible refine gate_dst (N := 5) rfl ?_); go_must (((try (refine gate_guard (by rfl) ?_; dsimp only)); refine lit_bytes (w0 := w) (w).heap.size 5 ?hg ?hd ([(0 : Int)]) ?hr ?hm HB.out HB.out.size ?_; (case hd => rfl); (case hg => rfl); (case hr => first | (go_simp; done) | (go_simp; rfl)); (case hm => simp); intro vHO1 wHO1 ho hb hbw; have HO1 := Aside0.mk ho; clear HB; have HB := Aside0.mk hb; clear ho hb hbw))))
    go_ret
    exact ⟨_, rfl, HO1.out, HB.out⟩
  · go_enter Try.func24, Try.ntmps24
    go_wp2_with (first
      | ((with_reducible refine gate_dst (N := 4) rfl ?_); go_must (((try (refine gate_guard (by rfl) ?_; dsimp only)); refine lit_bytes (w0 := w) (w).heap.size 4 ?hg ?hd ([(1 : Int)]) ?hr ?hm HB.out HB.out.size ?_; (case hd => rfl); (case hg => rfl); (case hr => first | (go_simp; done) | (go_simp; rfl)); (case hm => simp); intro vHO1 wHO1 ho hb hbw; have HO1 := Aside0.mk ho; clear HB; have HB := Aside0.mk hb; clear ho hb hbw))))
    go_ret
    exact ⟨_, rfl, HO1.out, HB.out⟩

set_option maxHeartbeats 400000 in
theorem read_calls (v : Value) (l : List Int) (w0 w : World) (hr : Rd w0 v l) (hl : BL l) (hB : Below w0.heap.size w0 w) :
    Calls Try.prog 26 #[v] w fun e w' => ∃ g, e = .returned (.pointer (some ⟨g, 0, none⟩)) ∧ Rdr 71 w0 w' g l 0 ∧ w.heap.size ≤ g ∧ Below w.heap.size w w' := by
  have HR := Aside0.mk hr
  have HB := Aside0.mk hB
  obtain ⟨A, c, rfl, hc, hC⟩ := hr
  clear hC hB
  go_enter Try.func26, Try.ntmps26
  go_wp2
  go_ret
  exact ⟨_, rfl, ⟨_, by simpa using heap_alloc_new w _, HB.out.size, HR.out, hl⟩, Nat.le_refl _, below_alloc (Below.refl _ _) _⟩
end Go.Proofs.Ytginodjiaohcmaa.K

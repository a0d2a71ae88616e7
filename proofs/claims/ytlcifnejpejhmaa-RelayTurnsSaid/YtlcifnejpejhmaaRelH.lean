/- relay: cachetteref10.Lists of the same lists, cachettelaw22.alive. -/
import Derived.Test.YtlcifnejpejhmaaRelG
import Derived.Test.YtlcifnejpejhmaaX
import Derived.Lib.SlBytesConst
namespace Go.Proofs.Ytlcifnejpejhmaa.K
open Go.RowKit Go.Proofs.YtlcifnejpejhmaaW.PrintWords Go.Proofs.YtlcifnejpejhmaaW.PrintLast Go.Proofs.YtlcifnejpejhmaaW.PrintMore
set_option linter.unusedVariables false
set_option linter.unusedSimpArgs false

theorem wrap_up {i : Int} (h0 : 0 ≤ i) (h1 : i < 9223372036854775807) : wrap64 (i + 1) = i + 1 := by unfold wrap64; omega
theorem same_l0 (x : List Int) (hx : x.length ≤ 1000000) : ∀ (d k : Nat) (i : Int), 0 ≤ i → i ≤ x.length → (x.length : Int) - i ≤ d → d < k → X.cachetteref01_Same.l0 k x x i = some true := by
  intro d
  induction d with
  | zero =>
    intro k i h0 h1 h2 h3
    obtain ⟨k, rfl⟩ : ∃ m, k = m + 1 := ⟨k - 1, by omega⟩
    rw [X.cachetteref01_Same.l0, if_neg (by omega)]
  | succ d ih =>
    intro k i h0 h1 h2 h3
    obtain ⟨k, rfl⟩ : ∃ m, k = m + 1 := ⟨k - 1, by omega⟩
    rw [X.cachetteref01_Same.l0]
    by_cases hi : i < x.length
    · rw [if_pos hi, if_pos h0, if_pos hi, if_pos rfl, wrap_up h0 (by omega)]
      exact ih k (i + 1) (by omega) (by omega) (by omega) (by omega)
    · rw [if_neg hi]
theorem same_f (x : List Int) (hx : x.length ≤ 1000000) (k : Nat) (hk : x.length < k) : X.cachetteref01_Same.f k x x = some true := by
  rw [X.cachetteref01_Same.f, if_pos rfl]
  exact same_l0 x hx x.length k 0 (by omega) (by omega) (by omega) hk
theorem lists_l0 (x : List (List Int)) (M : Nat) (hM : M ≤ 1000000) (hx : x.length ≤ 1000000) (hm : ∀ y ∈ x, y.length ≤ M) : ∀ (d k : Nat) (i : Int), 0 ≤ i → i ≤ x.length → (x.length : Int) - i ≤ d → d + M + 1 < k → X.cachetteref10_Lists.l0 k x x i = some true := by
  intro d
  induction d with
  | zero =>
    intro k i h0 h1 h2 h3
    obtain ⟨k, rfl⟩ : ∃ m, k = m + 1 := ⟨k - 1, by omega⟩
    rw [X.cachetteref10_Lists.l0, if_neg (by omega)]
  | succ d ih =>
    intro k i h0 h1 h2 h3
    obtain ⟨k, rfl⟩ : ∃ m, k = m + 1 := ⟨k - 1, by omega⟩
    rw [X.cachetteref10_Lists.l0]
    by_cases hi : i < x.length
    · have hr : (x.getD i.toNat ([] : List Int)).length ≤ M := by
        have hit : i.toNat < x.length := by omega
        rw [List.getD_eq_getElem?_getD, List.getElem?_eq_getElem hit]
        exact hm _ (List.getElem_mem hit)
      have hs := same_f (x.getD i.toNat ([] : List Int)) (by omega) k (by omega)
      rw [if_pos hi, if_pos h0, if_pos hi]
      refine (congrArg (fun o : Option Bool => o.bind _) hs).trans ?_
      simp only [Option.bind_some, if_true]
      rw [wrap_up h0 (by omega)]
      exact ih k (i + 1) (by omega) (by omega) (by omega) (by omega)
    · rw [if_neg hi]
theorem lists_same (A0 A1 : Option Addr) (c0 c1 : Nat) (x : List (List Int)) (w : World) (h0 : Kd.C BK w A0 x.length x) (g0 : x.length ≤ c0) (h1 : Kd.C BK w A1 x.length x) (g1 : x.length ≤ c1) (M : Nat) (hM : M ≤ 1000000) (hx : x.length ≤ 1000000) (hm : ∀ y ∈ x, y.length ≤ M) :
    Calls Try.prog 27 #[.slice A0 x.length c0, .slice A1 x.length c1] w fun e w' => e = .returned (.bool true) ∧ Drawn0 w w' :=
  X.cachetteref10_Lists.calls (x.length + M + 2) A0 c0 x A1 c1 x true w h0 g0 h1 g1 (by
    rw [X.cachetteref10_Lists.f, if_pos rfl]
    exact lists_l0 x M hM hx hm x.length _ 0 (by omega) (by omega) (by omega) (by omega))

theorem rd_block {W : World} {b T : Nat} {f : Nat × Nat} {xs : List Int} (h : W.heap[b]? = some (.cells (nums .u8 xs).toArray T f)) (hm : xs.length ≤ maxLen) : Rd W (.slice (some ⟨b, 0, none⟩) xs.length xs.length) xs := by
  refine ⟨_, _, rfl, Nat.le_refl _, Kd.C_of_reads (d := (0 : Int)) (h1 := fun _ => rfl) ⟨rfl, hm, fun hn => ⟨_, rfl, fun j hj => ?_⟩⟩⟩
  rw [add0, cell_of_row W b j _ T f h]
  simp [nums, List.getElem?_eq_getElem hj, List.getD_eq_getElem?_getD]

set_option maxRecDepth 100000 in
set_option maxHeartbeats 4000000 in
theorem alive22_calls (w : World) :
    Calls Try.prog 21 #[] w fun e w' => e = .returned (.bool true) ∧ Below w.heap.size w w' := by
  have HB := Aside0.mk (Below.refl w.heap.size w)
  have hs97 : strOfNums [97] = ⟨#[97]⟩ := by decide
  have kc := fun (w : World) (C : Array Value) (n c : Nat) => Lib.run_convert_bytes_const (P := Try.prog) w 45 5 C n c Try.underlying45 Try.underlying5
  go_enter Try.func21, Try.ntmps21
  go_wp2_with (first
    | ((with_reducible refine gate_dst (N := 7) rfl ?_); go_must (((try (refine gate_guard (by rfl) ?_; dsimp only)); refine goesL_ (some 7) rfl rfl Try.func22 (by kernel_rfl) rfl #[.int .i64 2] rfl ?hA ?_; (case hA => ((try simp only [List.map_toArray, List.map_cons, List.map_nil]); first | done | rfl)); refine (rnew_ok 2 w w HB.out (by decide) (by decide)).mono ?_; rintro e w7 ⟨g, gq, rfl, hr, hB, _⟩; refine ⟨_, rfl, ?_⟩; have HR := Aside0.mk hr; replace HB := Aside0.mk hB; clear hr hB)))
    | (go_at_call 23; go_must ((refine (rput_ok g gq 0 (fun _ => 0) [] (List.replicate 2 []) (.slice (some ⟨w7.heap.size, 0, none⟩) 1 1) [97] w (w7.alloc (.cells #[.int .u8 97] 5 (1, 2))) (HR.out.below (below_alloc (Below.refl _ _) _)) (by decide) (by decide) (fun W _ hF => rd_block (f := (1, 2)) (xs := [97]) (hF w7.heap.size _ (1, 2) (blk_new w7 _)) (by decide)) (by decide) (by decide) (by decide) (below_alloc HB.out _)).mono ?_; rintro e w13 ⟨rfl, ⟨col, hr⟩, hB, hF⟩; have hr2 : Rel w13 w.heap.size g gq col [(⟨[97], false⟩ : It)] [[], [(⟨[97], false⟩ : It)]] := hr; clear HR hr; have HR := Aside0.mk hr2; replace HB := Aside0.mk hB; clear hr2 hB hF)))
    | ((with_reducible refine gate_dst (N := 16) rfl ?_); go_must (((try (refine gate_guard (by rfl) ?_; dsimp only)); refine goesL_ (some 16) rfl rfl Try.func24 (by kernel_rfl) rfl #[.pointer (some ⟨g, 0, none⟩), .int .i64 1] rfl ?hA ?_; (case hA => ((try simp only [List.map_toArray, List.map_cons, List.map_nil]); first | done | rfl)); refine (rnext_ok g gq 1 col [(⟨[97], false⟩ : It)] [[], [(⟨[97], false⟩ : It)]] w w13 HR.out (by decide) (by decide) (by decide) HB.out).mono ?_; rintro e w16 ⟨vb, rfl, ho, ⟨col', hr⟩, hB, hF⟩; refine ⟨_, rfl, ?_⟩; have ho2 : Kd.R (Kd.int .u8) 5 w16 w.heap.size (fun _ => True) vb [97] := ho; have hr2 : Rel w16 w.heap.size g gq col' [(⟨[97], false⟩ : It)] [[], []] := hr; obtain ⟨Ab, cb, hvb, hcb, hCb⟩ := Kd.R_reads ho2; rw [show ([97] : List Int).length = 1 from rfl] at hvb hCb; subst hvb; have hstr := Kd.C_string (P := Try.prog) (src := 45) (dst := 9) (e := 5) (c := cb) Try.underlying45 Try.underlying5 Try.underlying9 hCb; rw [hs97] at hstr; clear HR; have HR := Aside0.mk hr2; replace HB := Aside0.mk hB; clear ho ho2 hr hr2 hB hF hcb hCb)))
    | ((with_reducible refine gate_dst (N := 35) rfl ?_); go_must (((try (refine gate_guard (by rfl) ?_; dsimp only)); refine goesL_ (some 35) rfl rfl Try.func26 (by kernel_rfl) rfl #[.pointer (some ⟨g, 0, none⟩), .int .i64 0] rfl ?hA ?_; (case hA => ((try simp only [List.map_toArray, List.map_cons, List.map_nil]); first | done | rfl)); refine ((show Calls Try.prog 26 #[.pointer (some ⟨g, 0, none⟩), .int .i64 0] w16 (fun e w' => e = .returned (.int .i64 0) ∧ Drawn0 w16 w') from waits_in g gq 0 col' _ _ _ w16 HR.out (by decide))).mono ?_; rintro e w35 ⟨rfl, ⟨m35, rfl⟩⟩; refine ⟨_, rfl, ?_⟩; skip)))
    | ((with_reducible refine gate_dst (N := 40) rfl ?_); go_must (((try (refine gate_guard (by rfl) ?_; dsimp only)); refine goesL_ (some 40) rfl rfl Try.func28 (by kernel_rfl) rfl #[.pointer (some ⟨g, 0, none⟩)] rfl ?hA ?_; (case hA => ((try simp only [List.map_toArray, List.map_cons, List.map_nil]); first | done | rfl)); refine (rview_calls g gq col' [(⟨[97], false⟩ : It)] [[], []] w.heap.size (w16.drewN m35) (HR.out.drewN m35) (by decide) (by simp)).mono ?_; rintro e w40 ⟨vv, rfl, ho, hb⟩; refine ⟨_, rfl, ?_⟩; obtain ⟨Av, cv, rfl, hcv, hCv⟩ := Kd.R_reads ho; rw [show (List.map (fun x : It => x.f0) [(⟨[97], false⟩ : It)]).length = 1 from rfl]; replace HB := Aside0.mk (below_step (pw_below_drewN HB.out m35) hb); clear ho hcv hCv hb))))
  go_ret
  exact ⟨rfl, HB.out⟩
end Go.Proofs.Ytlcifnejpejhmaa.K

/- cachettelaw22.RelayTurns: the walk. -/
import Derived.Test.YtlcifnejpejhmaaRelN
namespace Go.Proofs.Ytlcifnejpejhmaa.K
open Go.RowKit Go.Proofs.YtlcifnejpejhmaaW.PrintWords Go.Proofs.YtlcifnejpejhmaaW.PrintLast Go.Proofs.YtlcifnejpejhmaaW.PrintMore
set_option linter.unusedVariables false
set_option linter.unusedSimpArgs false

theorem Rel.farC {W : World} {b0 g gq : Nat} {col : Nat → Nat} {vw : List It} {qs : List (List It)} (h : Rel W b0 g gq col vw qs) {k t : Nat} {cells : Array Value} (hk : W.heap[k]? = some (.cells cells t (0, 0)))
    (ht : t ≠ 99 ∧ t ≠ 97) (hc : qs.length < col k) (j : Nat) (u : Value) : Rel (W.setCell ⟨k, j, none⟩ u) b0 g gq col vw qs := by
  obtain ⟨⟨vv, h1, h2⟩, ⟨cs, h3, h4, h5⟩, h6⟩ := h
  refine ⟨⟨vv, blk_far h1 (blk_ne h1 hk (Ne.symm ht.1)) u, Kd.R_far h2 (p := ⟨k, j, none⟩) (fun k' hk' e => by rw [show k' = k from e] at hk'; omega) u⟩, ⟨cs, blk_far h3 (blk_ne h3 hk (Ne.symm ht.2)) u, h4, fun i hi => ?_⟩, h6⟩
  obtain ⟨v, e, r⟩ := h5 i hi
  exact ⟨v, e, Kd.R_far r (p := ⟨k, j, none⟩) (fun k' hk' e => by rw [show k' = k from e] at hk'; omega) u⟩

set_option maxRecDepth 100000 in
set_option maxHeartbeats 16000000 in
theorem turns_no (v0 : Value) (l : List Int) (at_ y : Int) (w : World) (hr0 : Rd w v0 l) (hl : l.length ≤ 100) (hn : at_ < 0 ∨ (l.length : Int) ≤ at_) :
    Calls Try.prog 8 #[v0, .int .i64 at_, .int .u8 y] w fun e w' => e = .returned (.bool true) ∧ Below w.heap.size w w' := by
  have HR0 := Aside0.mk hr0
  obtain ⟨A0, c0, rfl, hc0, hC0⟩ := hr0
  have HB := Aside0.mk (Below.refl w.heap.size w)
  have HN : Aside0 (at_ < 0 ∨ (l.length : Int) ≤ at_ ∨ ((⟨l, false⟩ : It)).f1 = true) := ⟨by rcases hn with h | h; exact .inl h; exact .inr (.inl h)⟩
  have hl2 : decide ((100 : Int) < l.length) = false := decide_eq_false (by omega)
  clear hC0 hc0
  rcases Int.lt_or_le at_ 0 with h0 | h0
  · have h0' : decide ((0 : Int) ≤ at_) = false := decide_eq_false (by omega)
    clear hn
    go_enter Try.func8, Try.ntmps8
    go_wp2_with (first
      | ((with_reducible refine gate_dst (N := 28) rfl ?_); go_must (((try (refine gate_guard (by rfl) ?_; dsimp only)); refine goesL_ (some 28) rfl rfl Try.func22 (by kernel_rfl) rfl #[.int .i64 3] rfl ?hA ?_; (case hA => ((try simp only [List.map_toArray, List.map_cons, List.map_nil]); first | done | rfl)); refine (rnew_ok 3 w w HB.out (by decide) (by decide)).mono ?_; rintro e w28 ⟨g, gq, rfl, hr, hB, _⟩; refine ⟨_, rfl, ?_⟩; have HR : Aside0 (Rel w28 w.heap.size g gq (fun _ => 0) [] [[], [], []]) := ⟨hr⟩; replace HB := Aside0.mk hB; clear hr hB)))
      | ((with_reducible refine gate_dst (N := 36) rfl ?_); go_must (((try (refine gate_guard (by rfl) ?_; dsimp only)); refine goesL_ (some 36) rfl rfl Try.func23 (by kernel_rfl) rfl #[.pointer (some ⟨g, 0, none⟩), .int .i64 0, .slice A0 l.length c0] rfl ?hA ?_; (case hA => ((try simp only [List.map_toArray, List.map_cons, List.map_nil]); first | done | rfl)); refine (rput_ok g gq 0 (fun _ => 0) [] [[], [], []] (.slice A0 l.length c0) l w w28 HR.out (by decide) (by decide) (fun W hB _ => HR0.out.below hB) (by omega) (by decide) (by decide) HB.out).mono ?_; rintro e w36 ⟨rfl, ⟨col1, hr⟩, hB, hF⟩; refine ⟨_, rfl, ?_⟩; have hr2 : Rel w36 w.heap.size g gq col1 [(⟨l, false⟩ : It)] [[], [(⟨l, false⟩ : It)], [(⟨l, false⟩ : It)]] := hr; clear HR; have HR := Aside0.mk hr2; replace HB := Aside0.mk hB; clear hr hr2 hB hF)))
      | ((with_reducible refine gate_dst (N := 42) rfl ?_); go_must (((try (refine gate_guard (by rfl) ?_; dsimp only)); refine goesL_ (some 42) rfl rfl Try.func32 (by kernel_rfl) rfl #[.pointer (some ⟨g, 0, none⟩), .int .i64 1, .int .i64 0, .int .i64 at_, .int .u8 y] rfl ?hA ?_; (case hA => ((try simp only [List.map_toArray, List.map_cons, List.map_nil]); first | done | rfl)); refine (rturn_no g gq 1 0 at_ y col1 [(⟨l, false⟩ : It)] [[], [(⟨l, false⟩ : It)], [(⟨l, false⟩ : It)]] w.heap.size w36 HR.out (by simp) (by simp) HN.out).mono ?_; rintro e w42 ⟨rfl, hb⟩; refine ⟨_, rfl, ?_⟩; replace HR := Aside0.mk (HR.out.below hb); (try replace HT := Aside0.mk (Kd.R_below HT.out hb)); (try replace HY := Aside0.mk (Kd.R_below HY.out hb)); (try replace HU := Aside0.mk (Kd.R_below HU.out hb)); (try replace HV := Aside0.mk (Kd.R_below HV.out hb)); replace HB := Aside0.mk (below_step (by repeat (first | (with_reducible first | exact HB.out | apply below_alloc | apply pw_below_drewN | apply below_drew1) | exact HB.out)) hb); have ⟨col2, hcol2⟩ : ∃ c, c = col1 := ⟨_, rfl⟩; subst hcol2; clear hb)))
      | ((with_reducible refine gate_dst (N := 55) rfl ?_); go_must (((try (refine gate_guard (by rfl) ?_; dsimp only)); refine goesL_ (some 55) rfl rfl Try.func33 (by kernel_rfl) rfl #[.pointer (some ⟨g, 0, none⟩), .int .i64 1, .int .i64 0] rfl ?hA ?_; (case hA => ((try simp only [List.map_toArray, List.map_cons, List.map_nil]); first | done | rfl)); refine (ragain_ok g gq 1 _ [(⟨l, false⟩ : It)] [[], [(⟨l, false⟩ : It)], [(⟨l, false⟩ : It)]] (⟨l, false⟩ : It) w w42 HR.out (by simp) rfl (by show l.length ≤ 100000; omega) HB.out).mono ?_; rintro e w55 ⟨rfl, ⟨col3, hr⟩, hB, hF⟩; refine ⟨_, rfl, ?_⟩; have hr2 : Rel w55 w.heap.size g gq col3 [(⟨l, false⟩ : It)] [[], [(⟨l, false⟩ : It), (⟨l, false⟩ : It)], [(⟨l, false⟩ : It)]] := hr; obtain ⟨col4, hcol4, hr4⟩ := hr2.recol' 99; clear HR; have HR := Aside0.mk hr4; have HCol := Aside0.mk hcol4; replace HB := Aside0.mk hB; have HB2 := Aside0.mk (Below.refl w55.heap.size w55); clear hr hr2 hB hF hr4 hcol4)))
      | ((with_reducible refine gate_dst (N := 58) rfl ?_); go_must (((try (refine gate_guard (by rfl) ?_; dsimp only)); refine lit_bytes (w0 := w55) (w55).heap.size 58 ?hg ?hd ([]) ?hr ?hm HB2.out HB2.out.size ?_; (case hd => rfl); (case hg => rfl); (case hr => first | (go_simp; done) | (go_simp; rfl)); (case hm => simp); intro vHO58 wHO58 ho hb hbw; have HO58 := Aside0.mk ho; clear HB2; have HB2 := Aside0.mk hb; clear ho hb hbw)))
      | (((with_reducible refine gate_builtin (b := .append) (xs := #[.tmp 58, .tmp 59]) rfl ?_); at_builtin; go_must (((try (refine gate_guard (by rfl) ?_; dsimp only)); refine app_bytes (w0 := w55) (w55).heap.size rfl (.tmp 58) (.tmp 59) 45 rfl Try.underlying45 info5 _ _ ([]) (l) rfl rfl HO58.out ?aR HB2.out HB2.out.size ?aL ?_; (case aR => exact HR0.out.below (HB.out.trans (HB2.out.mono HB.out.size))); (case aL => (simp; omega)); intro vHO60 wHO60 ho hb hg; have HO60 := Aside0.mk ho; clear HB2; have HB2 := Aside0.mk hb; clear ho hb hg))); go_must ((have hT : Kd.R (Kd.int .u8) 5 wHO60 w.heap.size (fun _ => True) vHO60 l := Kd.R_lower (by simpa using HO60.out) HB.out.size; obtain ⟨At, ct, hvt, hct, hCt⟩ := Kd.R_reads hT; subst hvt; have HT := Aside0.mk hT; replace HR := Aside0.mk (HR.out.below HB2.out); replace HB := Aside0.mk (HB.out.trans (HB2.out.mono HB.out.size)); clear hT hct hCt HO60 HB2)))
      | ((with_reducible refine gate_dst (N := 73) rfl ?_); go_must (((try (refine gate_guard (by rfl) ?_; dsimp only)); refine goesL_ (some 73) rfl rfl Try.func24 (by kernel_rfl) rfl #[.pointer (some ⟨g, 0, none⟩), .int .i64 2] rfl ?hA ?_; (case hA => ((try simp only [List.map_toArray, List.map_cons, List.map_nil]); first | done | rfl)); refine (rnext_cons g gq 2 col4 [(⟨l, false⟩ : It)] [[], [(⟨l, false⟩ : It), (⟨l, false⟩ : It)], [(⟨l, false⟩ : It)]] (⟨l, false⟩ : It) [] w _ HR.out (by simp) rfl (by simp) HB.out).mono ?_; rintro e w73 ⟨v73, rfl, ho, ⟨col5, hr⟩, hB, hF⟩; refine ⟨_, rfl, ?_⟩; have hr2 : Rel w73 w.heap.size g gq col5 [(⟨l, false⟩ : It)] [[], [(⟨l, false⟩ : It), (⟨l, false⟩ : It)], []] := hr; (try replace HT := Aside0.mk (own_frame HT.out hF)); (try replace HY := Aside0.mk (own_frame HY.out hF)); (try replace HU := Aside0.mk (own_frame HU.out hF)); (try replace HV := Aside0.mk (own_frame HV.out hF)); replace HB := Aside0.mk hB; clear HR; have HR := Aside0.mk hr2; have HN2 := Aside0.mk ho; clear hr hr2 hB hF ho)))
      | ((with_reducible refine gate_dst (N := 77) rfl ?_); go_must (((try (refine gate_guard (by rfl) ?_; dsimp only)); refine goesL_ (some 77) rfl rfl Try.func28 (by kernel_rfl) rfl #[.pointer (some ⟨g, 0, none⟩)] rfl ?hA ?_; (case hA => ((try simp only [List.map_toArray, List.map_cons, List.map_nil]); first | done | rfl)); refine (rview_calls g gq col5 [(⟨l, false⟩ : It)] [[], [(⟨l, false⟩ : It), (⟨l, false⟩ : It)], []] w.heap.size w73 HR.out (by simp) (by simp; omega)).mono ?_; rintro e w77 ⟨vv, rfl, ho, hb⟩; refine ⟨_, rfl, ?_⟩; have ho2 : Kd.R BK 45 w77 w73.heap.size (fun _ => True) vv [l] := ho; obtain ⟨Av, cv, hvv, hcv, hCv⟩ := Kd.R_reads ho2; rw [show ([l] : List (List Int)).length = 1 from rfl] at hvv hCv; subst hvv; obtain ⟨ae, Ae, ce, hae, hxe, hce, hCe⟩ := X.at_L3 hCv 0 (by simp) (by simp); have hae2 : Av = some ae := hae; subst hae2; have hxe2 : w77.cell? ae = some (.slice Ae l.length ce) := (by have h9 := hxe; simpa [Addr.add, X.rd_L3] using h9); have HXE := Aside0.mk hxe2; have HVe : Aside0 (Rd w77 (.slice Ae l.length ce) l) := ⟨⟨Ae, ce, rfl, hce, hCe⟩⟩; have HN3 := Aside0.mk (Kd.R_below HN2.out hb); replace HR := Aside0.mk (HR.out.below hb); (try replace HT := Aside0.mk (Kd.R_below HT.out hb)); (try replace HY := Aside0.mk (Kd.R_below HY.out hb)); (try replace HU := Aside0.mk (Kd.R_below HU.out hb)); (try replace HV := Aside0.mk (Kd.R_below HV.out hb)); replace HB := Aside0.mk (below_step (by repeat (first | (with_reducible first | exact HB.out | apply below_alloc | apply pw_below_drewN | apply below_drew1) | exact HB.out)) hb); clear ho ho2 hb hcv hCv hxe hCe hce hae HN2)))
      | ((with_reducible refine gate_dst (N := 80) rfl ?_); go_must (((try (refine gate_guard (by rfl) ?_; dsimp only)); refine goesL_ (some 80) rfl rfl Try.func25 (by kernel_rfl) rfl #[v73, .slice A0 l.length c0] rfl ?hA ?_; (case hA => ((try simp only [List.map_toArray, List.map_cons, List.map_nil]); first | done | rfl)); refine (same_true _ _ l _ (Own.rd HN3.out) (HR0.out.below HB.out)).mono ?_; rintro e w80 ⟨rfl, hb⟩; refine ⟨_, rfl, ?_⟩; have hxe2 := pw_cell_below hb HXE.out; have HVf := Aside0.mk (HVe.out.below hb); replace HR := Aside0.mk (HR.out.below hb); (try replace HT := Aside0.mk (Kd.R_below HT.out hb)); (try replace HY := Aside0.mk (Kd.R_below HY.out hb)); (try replace HU := Aside0.mk (Kd.R_below HU.out hb)); (try replace HV := Aside0.mk (Kd.R_below HV.out hb)); replace HB := Aside0.mk (below_step (by repeat (first | (with_reducible first | exact HB.out | apply below_alloc | apply pw_below_drewN | apply below_drew1) | exact HB.out)) hb); clear hb HN3 HXE)))
      | ((with_reducible refine gate_dst (N := 92) rfl ?_); go_must (((try (refine gate_guard (by rfl) ?_; dsimp only)); refine goesL_ (some 92) rfl rfl Try.func25 (by kernel_rfl) rfl #[.slice Ae l.length ce, .slice A0 l.length c0] rfl ?hA ?_; (case hA => ((try simp only [List.map_toArray, List.map_cons, List.map_nil]); first | done | rfl)); refine (same_true _ _ l _ (by exact HVf.out) (HR0.out.below HB.out)).mono ?_; rintro e w92 ⟨rfl, hb⟩; refine ⟨_, rfl, ?_⟩; replace HR := Aside0.mk (HR.out.below hb); (try replace HT := Aside0.mk (Kd.R_below HT.out hb)); (try replace HY := Aside0.mk (Kd.R_below HY.out hb)); (try replace HU := Aside0.mk (Kd.R_below HU.out hb)); (try replace HV := Aside0.mk (Kd.R_below HV.out hb)); replace HB := Aside0.mk (below_step (by repeat (first | (with_reducible first | exact HB.out | apply below_alloc | apply pw_below_drewN | apply below_drew1) | exact HB.out)) hb); clear hb hxe2)))
      | ((with_reducible refine gate_dst (N := 111) rfl ?_); go_must (((try (refine gate_guard (by rfl) ?_; dsimp only)); refine goesL_ (some 111) rfl rfl Try.func24 (by kernel_rfl) rfl #[.pointer (some ⟨g, 0, none⟩), .int .i64 1] rfl ?hA ?_; (case hA => ((try simp only [List.map_toArray, List.map_cons, List.map_nil]); first | done | rfl)); refine (rnext_cons g gq 1 col5 [(⟨l, false⟩ : It)] [[], [(⟨l, false⟩ : It), (⟨l, false⟩ : It)], []] (⟨l, false⟩ : It) [(⟨l, false⟩ : It)] w _ HR.out (by simp) rfl (by show 2 ≤ 100000; decide) HB.out).mono ?_; rintro e w111 ⟨v111, rfl, ho, ⟨col6, hr⟩, hB, hF⟩; refine ⟨_, rfl, ?_⟩; have hr2 : Rel w111 w.heap.size g gq col6 [(⟨l, false⟩ : It)] [[], [(⟨l, false⟩ : It)], []] := hr; (try replace HT := Aside0.mk (own_frame HT.out hF)); (try replace HY := Aside0.mk (own_frame HY.out hF)); (try replace HU := Aside0.mk (own_frame HU.out hF)); (try replace HV := Aside0.mk (own_frame HV.out hF)); replace HB := Aside0.mk hB; clear HR; have HR := Aside0.mk hr2; have HY := Aside0.mk ho; clear hr hr2 hB hF ho)))
      | ((with_reducible refine gate_dst (N := 116) rfl ?_); go_must (((try (refine gate_guard (by rfl) ?_; dsimp only)); refine goesL_ (some 116) rfl rfl Try.func24 (by kernel_rfl) rfl #[.pointer (some ⟨g, 0, none⟩), .int .i64 1] rfl ?hA ?_; (case hA => ((try simp only [List.map_toArray, List.map_cons, List.map_nil]); first | done | rfl)); refine (rnext_cons g gq 1 col6 [(⟨l, false⟩ : It)] [[], [(⟨l, false⟩ : It)], []] (⟨l, false⟩ : It) [] w w111 HR.out (by simp) rfl (by show 1 ≤ 100000; decide) HB.out).mono ?_; rintro e w116 ⟨v116, rfl, ho, ⟨col7, hr⟩, hB, hF⟩; refine ⟨_, rfl, ?_⟩; have hr2 : Rel w116 w.heap.size g gq col7 [(⟨l, false⟩ : It)] [[], [], []] := hr; (try replace HT := Aside0.mk (own_frame HT.out hF)); (try replace HY := Aside0.mk (own_frame HY.out hF)); (try replace HU := Aside0.mk (own_frame HU.out hF)); (try replace HV := Aside0.mk (own_frame HV.out hF)); replace HB := Aside0.mk hB; clear HR; have HR := Aside0.mk hr2; have HU := Aside0.mk ho; clear hr hr2 hB hF ho)))
      | ((with_reducible refine gate_dst (N := 120) rfl ?_); go_must (((try (refine gate_guard (by rfl) ?_; dsimp only)); refine goesL_ (some 120) rfl rfl Try.func34 (by kernel_rfl) rfl #[.pointer (some ⟨g, 0, none⟩), .int .i64 0] rfl ?hA ?_; (case hA => ((try simp only [List.map_toArray, List.map_cons, List.map_nil]); first | done | rfl)); refine (rrewind_ok g gq 0 col7 [(⟨l, false⟩ : It)] [[], [], []] w w116 HR.out (by simp) (by simp) (by simp; omega) HB.out).mono ?_; rintro e w120 ⟨rfl, ⟨col8, hr⟩, hB, hF⟩; refine ⟨_, rfl, ?_⟩; have hr2 : Rel w120 w.heap.size g gq col8 [(⟨l, false⟩ : It)] [[(⟨l, false⟩ : It)], [], []] := hr; (try replace HT := Aside0.mk (own_frame HT.out hF)); (try replace HY := Aside0.mk (own_frame HY.out hF)); (try replace HU := Aside0.mk (own_frame HU.out hF)); (try replace HV := Aside0.mk (own_frame HV.out hF)); replace HB := Aside0.mk hB; clear HR; have HR := Aside0.mk hr2; rw [show (([(⟨l, false⟩ : It)] : List It).length : Int) = 1 from rfl]; clear hr hr2 hB hF)))
      | ((with_reducible refine gate_dst (N := 124) rfl ?_); go_must (((try (refine gate_guard (by rfl) ?_; dsimp only)); refine goesL_ (some 124) rfl rfl Try.func24 (by kernel_rfl) rfl #[.pointer (some ⟨g, 0, none⟩), .int .i64 0] rfl ?hA ?_; (case hA => ((try simp only [List.map_toArray, List.map_cons, List.map_nil]); first | done | rfl)); refine (rnext_cons g gq 0 col8 [(⟨l, false⟩ : It)] [[(⟨l, false⟩ : It)], [], []] (⟨l, false⟩ : It) [] w w120 HR.out (by simp) rfl (by simp) HB.out).mono ?_; rintro e w124 ⟨v124, rfl, ho, ⟨col9, hr⟩, hB, hF⟩; refine ⟨_, rfl, ?_⟩; (try replace HT := Aside0.mk (own_frame HT.out hF)); (try replace HY := Aside0.mk (own_frame HY.out hF)); (try replace HU := Aside0.mk (own_frame HU.out hF)); (try replace HV := Aside0.mk (own_frame HV.out hF)); replace HB := Aside0.mk hB; clear HR; have HV := Aside0.mk ho; clear hr hB hF ho)))
      | ((with_reducible refine gate_dst (N := 129) rfl ?_); go_must (((try (refine gate_guard (by rfl) ?_; dsimp only)); refine goesL_ (some 129) rfl rfl Try.func24 (by kernel_rfl) rfl #[.pointer none, .int .i64 0] rfl ?hA ?_; (case hA => ((try simp only [List.map_toArray, List.map_cons, List.map_nil]); first | done | rfl)); refine (next_nil 0 _).mono ?_; rintro e w129 ⟨rfl, hb⟩; refine ⟨_, rfl, ?_⟩; (try replace HT := Aside0.mk (Kd.R_below HT.out hb)); (try replace HY := Aside0.mk (Kd.R_below HY.out hb)); (try replace HU := Aside0.mk (Kd.R_below HU.out hb)); (try replace HV := Aside0.mk (Kd.R_below HV.out hb)); replace HB := Aside0.mk (below_step (by repeat (first | (with_reducible first | exact HB.out | apply below_alloc | apply pw_below_drewN | apply below_drew1) | exact HB.out)) hb); clear hb))))
    go_wp2_with fail
    refine (same_true v111 _ l _ (Own.rd HY.out) (Own.rd HT.out)).mono ?_
    rintro e w134 ⟨rfl, hb⟩
    dsimp only
    first | (rename_i hx; refine hx _ _ ?_; clear hx) | (rename_i hx hx2; refine hx _ _ ?_; clear hx) | (rename_i hx hx2 hx3; refine hx _ _ ?_; clear hx)
    replace HT := Aside0.mk (Kd.R_below HT.out hb); replace HY := Aside0.mk (Kd.R_below HY.out hb); replace HU := Aside0.mk (Kd.R_below HU.out hb); replace HV := Aside0.mk (Kd.R_below HV.out hb); replace HB := Aside0.mk (below_step (by repeat (first | (with_reducible first | exact HB.out | apply below_alloc | apply pw_below_drewN | apply below_drew1) | exact HB.out)) hb)
    clear hb
    go_wp2_with fail
    refine (same_true v116 _ l _ (Own.rd HU.out) (Own.rd HT.out)).mono ?_
    rintro e w138 ⟨rfl, hb⟩
    dsimp only
    first | (rename_i hx; refine hx _ _ ?_; clear hx) | (rename_i hx hx2; refine hx _ _ ?_; clear hx) | (rename_i hx hx2 hx3; refine hx _ _ ?_; clear hx)
    replace HT := Aside0.mk (Kd.R_below HT.out hb); replace HY := Aside0.mk (Kd.R_below HY.out hb); replace HU := Aside0.mk (Kd.R_below HU.out hb); replace HV := Aside0.mk (Kd.R_below HV.out hb); replace HB := Aside0.mk (below_step (by repeat (first | (with_reducible first | exact HB.out | apply below_alloc | apply pw_below_drewN | apply below_drew1) | exact HB.out)) hb)
    clear hb
    go_wp2_with fail
    refine (same_true v124 _ l _ (Own.rd HV.out) (HR0.out.below HB.out)).mono ?_
    rintro e w143 ⟨rfl, hb⟩
    dsimp only
    first | (rename_i hx; refine hx _ _ ?_; clear hx) | (rename_i hx hx2; refine hx _ _ ?_; clear hx) | (rename_i hx hx2 hx3; refine hx _ _ ?_; clear hx)
    replace HB := Aside0.mk (below_step (by repeat (first | (with_reducible first | exact HB.out | apply below_alloc | apply pw_below_drewN | apply below_drew1) | exact HB.out)) hb)
    clear hb
    go_wp2_with fail
    refine (put_nil _ _).mono ?_
    rintro e w152 ⟨rfl, hb⟩
    dsimp only
    first | (rename_i hx; refine hx _ _ ?_; clear hx) | (rename_i hx hx2; refine hx _ _ ?_; clear hx) | (rename_i hx hx2 hx3; refine hx _ _ ?_; clear hx)
    replace HB := Aside0.mk (below_step (by repeat (first | (with_reducible first | exact HB.out | apply below_alloc | apply pw_below_drewN | apply below_drew1) | exact HB.out)) hb)
    clear hb
    go_wp2_with fail
    refine (forge_nil _ _).mono ?_
    rintro e w158 ⟨rfl, hb⟩
    dsimp only
    first | (rename_i hx; refine hx _ _ ?_; clear hx) | (rename_i hx hx2; refine hx _ _ ?_; clear hx) | (rename_i hx hx2 hx3; refine hx _ _ ?_; clear hx)
    replace HB := Aside0.mk (below_step (by repeat (first | (with_reducible first | exact HB.out | apply below_alloc | apply pw_below_drewN | apply below_drew1) | exact HB.out)) hb)
    clear hb
    go_wp2_with fail
    refine (waits_nil _).mono ?_
    rintro e w163 ⟨rfl, hb⟩
    dsimp only
    first | (rename_i hx; refine hx _ _ ?_; clear hx) | (rename_i hx hx2; refine hx _ _ ?_; clear hx) | (rename_i hx hx2 hx3; refine hx _ _ ?_; clear hx)
    replace HB := Aside0.mk (below_step (by repeat (first | (with_reducible first | exact HB.out | apply below_alloc | apply pw_below_drewN | apply below_drew1) | exact HB.out)) hb)
    clear hb
    go_wp2_with fail
    refine (rewind_nil _).mono ?_
    rintro e w165 ⟨rfl, hb⟩
    dsimp only
    first | (rename_i hx; refine hx _ _ ?_; clear hx) | (rename_i hx hx2; refine hx _ _ ?_; clear hx) | (rename_i hx hx2 hx3; refine hx _ _ ?_; clear hx)
    replace HB := Aside0.mk (below_step (by repeat (first | (with_reducible first | exact HB.out | apply below_alloc | apply pw_below_drewN | apply below_drew1) | exact HB.out)) hb)
    clear hb
    go_wp2_with fail
    refine (view_nil _).mono ?_
    rintro e w168 ⟨rfl, hb⟩
    dsimp only
    first | (rename_i hx; refine hx _ _ ?_; clear hx) | (rename_i hx hx2; refine hx _ _ ?_; clear hx) | (rename_i hx hx2 hx3; refine hx _ _ ?_; clear hx)
    replace HB := Aside0.mk (below_step (by repeat (first | (with_reducible first | exact HB.out | apply below_alloc | apply pw_below_drewN | apply below_drew1) | exact HB.out)) hb)
    clear hb
    go_wp2_with fail
    refine (drop_nil _).mono ?_
    rintro e w175 ⟨rfl, hb⟩
    dsimp only
    first | (rename_i hx; refine hx _ _ ?_; clear hx) | (rename_i hx hx2; refine hx _ _ ?_; clear hx) | (rename_i hx hx2 hx3; refine hx _ _ ?_; clear hx)
    replace HB := Aside0.mk (below_step (by repeat (first | (with_reducible first | exact HB.out | apply below_alloc | apply pw_below_drewN | apply below_drew1) | exact HB.out)) hb)
    clear hb
    go_wp2_with fail
    refine (again_nil _).mono ?_
    rintro e w180 ⟨rfl, hb⟩
    dsimp only
    first | (rename_i hx; refine hx _ _ ?_; clear hx) | (rename_i hx hx2; refine hx _ _ ?_; clear hx) | (rename_i hx hx2 hx3; refine hx _ _ ?_; clear hx)
    replace HB := Aside0.mk (below_step (by repeat (first | (with_reducible first | exact HB.out | apply below_alloc | apply pw_below_drewN | apply below_drew1) | exact HB.out)) hb)
    clear hb
    go_wp2_with fail
    refine (swap_nil _).mono ?_
    rintro e w185 ⟨rfl, hb⟩
    dsimp only
    first | (rename_i hx; refine hx _ _ ?_; clear hx) | (rename_i hx hx2; refine hx _ _ ?_; clear hx) | (rename_i hx hx2 hx3; refine hx _ _ ?_; clear hx)
    replace HB := Aside0.mk (below_step (by repeat (first | (with_reducible first | exact HB.out | apply below_alloc | apply pw_below_drewN | apply below_drew1) | exact HB.out)) hb)
    clear hb
    go_wp2_with fail
    refine (turn_nil _).mono ?_
    rintro e w190 ⟨rfl, hb⟩
    dsimp only
    first | (rename_i hx; refine hx _ _ ?_; clear hx) | (rename_i hx hx2; refine hx _ _ ?_; clear hx) | (rename_i hx hx2 hx3; refine hx _ _ ?_; clear hx)
    replace HB := Aside0.mk (below_step (by repeat (first | (with_reducible first | exact HB.out | apply below_alloc | apply pw_below_drewN | apply below_drew1) | exact HB.out)) hb)
    clear hb
    go_wp2_with fail
    refine (alive22_calls _).mono ?_
    rintro e w194 ⟨rfl, hb⟩
    dsimp only
    first | (rename_i hx; refine hx _ _ ?_; clear hx) | (rename_i hx hx2; refine hx _ _ ?_; clear hx) | (rename_i hx hx2 hx3; refine hx _ _ ?_; clear hx)
    replace HB := Aside0.mk (below_step (by repeat (first | (with_reducible first | exact HB.out | apply below_alloc | apply pw_below_drewN | apply below_drew1) | exact HB.out)) hb)
    clear hb
    go_wp2
    go_ret
    exact ⟨rfl, HB.out⟩
  · have h1 : (l.length : Int) ≤ at_ := by
      rcases hn with h | h
      · omega
      · exact h
    have h1' : decide (at_ < (l.length : Int)) = false := decide_eq_false (by omega)
    clear hn
    go_enter Try.func8, Try.ntmps8
    go_wp2_with (first
      | ((with_reducible refine gate_dst (N := 28) rfl ?_); go_must (((try (refine gate_guard (by rfl) ?_; dsimp only)); refine goesL_ (some 28) rfl rfl Try.func22 (by kernel_rfl) rfl #[.int .i64 3] rfl ?hA ?_; (case hA => ((try simp only [List.map_toArray, List.map_cons, List.map_nil]); first | done | rfl)); refine (rnew_ok 3 w w HB.out (by decide) (by decide)).mono ?_; rintro e w28 ⟨g, gq, rfl, hr, hB, _⟩; refine ⟨_, rfl, ?_⟩; have HR : Aside0 (Rel w28 w.heap.size g gq (fun _ => 0) [] [[], [], []]) := ⟨hr⟩; replace HB := Aside0.mk hB; clear hr hB)))
      | ((with_reducible refine gate_dst (N := 36) rfl ?_); go_must (((try (refine gate_guard (by rfl) ?_; dsimp only)); refine goesL_ (some 36) rfl rfl Try.func23 (by kernel_rfl) rfl #[.pointer (some ⟨g, 0, none⟩), .int .i64 0, .slice A0 l.length c0] rfl ?hA ?_; (case hA => ((try simp only [List.map_toArray, List.map_cons, List.map_nil]); first | done | rfl)); refine (rput_ok g gq 0 (fun _ => 0) [] [[], [], []] (.slice A0 l.length c0) l w w28 HR.out (by decide) (by decide) (fun W hB _ => HR0.out.below hB) (by omega) (by decide) (by decide) HB.out).mono ?_; rintro e w36 ⟨rfl, ⟨col1, hr⟩, hB, hF⟩; refine ⟨_, rfl, ?_⟩; have hr2 : Rel w36 w.heap.size g gq col1 [(⟨l, false⟩ : It)] [[], [(⟨l, false⟩ : It)], [(⟨l, false⟩ : It)]] := hr; clear HR; have HR := Aside0.mk hr2; replace HB := Aside0.mk hB; clear hr hr2 hB hF)))
      | ((with_reducible refine gate_dst (N := 42) rfl ?_); go_must (((try (refine gate_guard (by rfl) ?_; dsimp only)); refine goesL_ (some 42) rfl rfl Try.func32 (by kernel_rfl) rfl #[.pointer (some ⟨g, 0, none⟩), .int .i64 1, .int .i64 0, .int .i64 at_, .int .u8 y] rfl ?hA ?_; (case hA => ((try simp only [List.map_toArray, List.map_cons, List.map_nil]); first | done | rfl)); refine (rturn_no g gq 1 0 at_ y col1 [(⟨l, false⟩ : It)] [[], [(⟨l, false⟩ : It)], [(⟨l, false⟩ : It)]] w.heap.size w36 HR.out (by simp) (by simp) HN.out).mono ?_; rintro e w42 ⟨rfl, hb⟩; refine ⟨_, rfl, ?_⟩; replace HR := Aside0.mk (HR.out.below hb); (try replace HT := Aside0.mk (Kd.R_below HT.out hb)); (try replace HY := Aside0.mk (Kd.R_below HY.out hb)); (try replace HU := Aside0.mk (Kd.R_below HU.out hb)); (try replace HV := Aside0.mk (Kd.R_below HV.out hb)); replace HB := Aside0.mk (below_step (by repeat (first | (with_reducible first | exact HB.out | apply below_alloc | apply pw_below_drewN | apply below_drew1) | exact HB.out)) hb); have ⟨col2, hcol2⟩ : ∃ c, c = col1 := ⟨_, rfl⟩; subst hcol2; clear hb)))
      | ((with_reducible refine gate_dst (N := 55) rfl ?_); go_must (((try (refine gate_guard (by rfl) ?_; dsimp only)); refine goesL_ (some 55) rfl rfl Try.func33 (by kernel_rfl) rfl #[.pointer (some ⟨g, 0, none⟩), .int .i64 1, .int .i64 0] rfl ?hA ?_; (case hA => ((try simp only [List.map_toArray, List.map_cons, List.map_nil]); first | done | rfl)); refine (ragain_ok g gq 1 _ [(⟨l, false⟩ : It)] [[], [(⟨l, false⟩ : It)], [(⟨l, false⟩ : It)]] (⟨l, false⟩ : It) w w42 HR.out (by simp) rfl (by show l.length ≤ 100000; omega) HB.out).mono ?_; rintro e w55 ⟨rfl, ⟨col3, hr⟩, hB, hF⟩; refine ⟨_, rfl, ?_⟩; have hr2 : Rel w55 w.heap.size g gq col3 [(⟨l, false⟩ : It)] [[], [(⟨l, false⟩ : It), (⟨l, false⟩ : It)], [(⟨l, false⟩ : It)]] := hr; obtain ⟨col4, hcol4, hr4⟩ := hr2.recol' 99; clear HR; have HR := Aside0.mk hr4; have HCol := Aside0.mk hcol4; replace HB := Aside0.mk hB; have HB2 := Aside0.mk (Below.refl w55.heap.size w55); clear hr hr2 hB hF hr4 hcol4)))
      | ((with_reducible refine gate_dst (N := 58) rfl ?_); go_must (((try (refine gate_guard (by rfl) ?_; dsimp only)); refine lit_bytes (w0 := w55) (w55).heap.size 58 ?hg ?hd ([]) ?hr ?hm HB2.out HB2.out.size ?_; (case hd => rfl); (case hg => rfl); (case hr => first | (go_simp; done) | (go_simp; rfl)); (case hm => simp); intro vHO58 wHO58 ho hb hbw; have HO58 := Aside0.mk ho; clear HB2; have HB2 := Aside0.mk hb; clear ho hb hbw)))
      | (((with_reducible refine gate_builtin (b := .append) (xs := #[.tmp 58, .tmp 59]) rfl ?_); at_builtin; go_must (((try (refine gate_guard (by rfl) ?_; dsimp only)); refine app_bytes (w0 := w55) (w55).heap.size rfl (.tmp 58) (.tmp 59) 45 rfl Try.underlying45 info5 _ _ ([]) (l) rfl rfl HO58.out ?aR HB2.out HB2.out.size ?aL ?_; (case aR => exact HR0.out.below (HB.out.trans (HB2.out.mono HB.out.size))); (case aL => (simp; omega)); intro vHO60 wHO60 ho hb hg; have HO60 := Aside0.mk ho; clear HB2; have HB2 := Aside0.mk hb; clear ho hb hg))); go_must ((have hT : Kd.R (Kd.int .u8) 5 wHO60 w.heap.size (fun _ => True) vHO60 l := Kd.R_lower (by simpa using HO60.out) HB.out.size; obtain ⟨At, ct, hvt, hct, hCt⟩ := Kd.R_reads hT; subst hvt; have HT := Aside0.mk hT; replace HR := Aside0.mk (HR.out.below HB2.out); replace HB := Aside0.mk (HB.out.trans (HB2.out.mono HB.out.size)); clear hT hct hCt HO60 HB2)))
      | ((with_reducible refine gate_dst (N := 73) rfl ?_); go_must (((try (refine gate_guard (by rfl) ?_; dsimp only)); refine goesL_ (some 73) rfl rfl Try.func24 (by kernel_rfl) rfl #[.pointer (some ⟨g, 0, none⟩), .int .i64 2] rfl ?hA ?_; (case hA => ((try simp only [List.map_toArray, List.map_cons, List.map_nil]); first | done | rfl)); refine (rnext_cons g gq 2 col4 [(⟨l, false⟩ : It)] [[], [(⟨l, false⟩ : It), (⟨l, false⟩ : It)], [(⟨l, false⟩ : It)]] (⟨l, false⟩ : It) [] w _ HR.out (by simp) rfl (by simp) HB.out).mono ?_; rintro e w73 ⟨v73, rfl, ho, ⟨col5, hr⟩, hB, hF⟩; refine ⟨_, rfl, ?_⟩; have hr2 : Rel w73 w.heap.size g gq col5 [(⟨l, false⟩ : It)] [[], [(⟨l, false⟩ : It), (⟨l, false⟩ : It)], []] := hr; (try replace HT := Aside0.mk (own_frame HT.out hF)); (try replace HY := Aside0.mk (own_frame HY.out hF)); (try replace HU := Aside0.mk (own_frame HU.out hF)); (try replace HV := Aside0.mk (own_frame HV.out hF)); replace HB := Aside0.mk hB; clear HR; have HR := Aside0.mk hr2; have HN2 := Aside0.mk ho; clear hr hr2 hB hF ho)))
      | ((with_reducible refine gate_dst (N := 77) rfl ?_); go_must (((try (refine gate_guard (by rfl) ?_; dsimp only)); refine goesL_ (some 77) rfl rfl Try.func28 (by kernel_rfl) rfl #[.pointer (some ⟨g, 0, none⟩)] rfl ?hA ?_; (case hA => ((try simp only [List.map_toArray, List.map_cons, List.map_nil]); first | done | rfl)); refine (rview_calls g gq col5 [(⟨l, false⟩ : It)] [[], [(⟨l, false⟩ : It), (⟨l, false⟩ : It)], []] w.heap.size w73 HR.out (by simp) (by simp; omega)).mono ?_; rintro e w77 ⟨vv, rfl, ho, hb⟩; refine ⟨_, rfl, ?_⟩; have ho2 : Kd.R BK 45 w77 w73.heap.size (fun _ => True) vv [l] := ho; obtain ⟨Av, cv, hvv, hcv, hCv⟩ := Kd.R_reads ho2; rw [show ([l] : List (List Int)).length = 1 from rfl] at hvv hCv; subst hvv; obtain ⟨ae, Ae, ce, hae, hxe, hce, hCe⟩ := X.at_L3 hCv 0 (by simp) (by simp); have hae2 : Av = some ae := hae; subst hae2; have hxe2 : w77.cell? ae = some (.slice Ae l.length ce) := (by have h9 := hxe; simpa [Addr.add, X.rd_L3] using h9); have HXE := Aside0.mk hxe2; have HVe : Aside0 (Rd w77 (.slice Ae l.length ce) l) := ⟨⟨Ae, ce, rfl, hce, hCe⟩⟩; have HN3 := Aside0.mk (Kd.R_below HN2.out hb); replace HR := Aside0.mk (HR.out.below hb); (try replace HT := Aside0.mk (Kd.R_below HT.out hb)); (try replace HY := Aside0.mk (Kd.R_below HY.out hb)); (try replace HU := Aside0.mk (Kd.R_below HU.out hb)); (try replace HV := Aside0.mk (Kd.R_below HV.out hb)); replace HB := Aside0.mk (below_step (by repeat (first | (with_reducible first | exact HB.out | apply below_alloc | apply pw_below_drewN | apply below_drew1) | exact HB.out)) hb); clear ho ho2 hb hcv hCv hxe hCe hce hae HN2)))
      | ((with_reducible refine gate_dst (N := 80) rfl ?_); go_must (((try (refine gate_guard (by rfl) ?_; dsimp only)); refine goesL_ (some 80) rfl rfl Try.func25 (by kernel_rfl) rfl #[v73, .slice A0 l.length c0] rfl ?hA ?_; (case hA => ((try simp only [List.map_toArray, List.map_cons, List.map_nil]); first | done | rfl)); refine (same_true _ _ l _ (Own.rd HN3.out) (HR0.out.below HB.out)).mono ?_; rintro e w80 ⟨rfl, hb⟩; refine ⟨_, rfl, ?_⟩; have hxe2 := pw_cell_below hb HXE.out; have HVf := Aside0.mk (HVe.out.below hb); replace HR := Aside0.mk (HR.out.below hb); (try replace HT := Aside0.mk (Kd.R_below HT.out hb)); (try replace HY := Aside0.mk (Kd.R_below HY.out hb)); (try replace HU := Aside0.mk (Kd.R_below HU.out hb)); (try replace HV := Aside0.mk (Kd.R_below HV.out hb)); replace HB := Aside0.mk (below_step (by repeat (first | (with_reducible first | exact HB.out | apply below_alloc | apply pw_below_drewN | apply below_drew1) | exact HB.out)) hb); clear hb HN3 HXE)))
      | ((with_reducible refine gate_dst (N := 92) rfl ?_); go_must (((try (refine gate_guard (by rfl) ?_; dsimp only)); refine goesL_ (some 92) rfl rfl Try.func25 (by kernel_rfl) rfl #[.slice Ae l.length ce, .slice A0 l.length c0] rfl ?hA ?_; (case hA => ((try simp only [List.map_toArray, List.map_cons, List.map_nil]); first | done | rfl)); refine (same_true _ _ l _ (by exact HVf.out) (HR0.out.below HB.out)).mono ?_; rintro e w92 ⟨rfl, hb⟩; refine ⟨_, rfl, ?_⟩; replace HR := Aside0.mk (HR.out.below hb); (try replace HT := Aside0.mk (Kd.R_below HT.out hb)); (try replace HY := Aside0.mk (Kd.R_below HY.out hb)); (try replace HU := Aside0.mk (Kd.R_below HU.out hb)); (try replace HV := Aside0.mk (Kd.R_below HV.out hb)); replace HB := Aside0.mk (below_step (by repeat (first | (with_reducible first | exact HB.out | apply below_alloc | apply pw_below_drewN | apply below_drew1) | exact HB.out)) hb); clear hb hxe2)))
      | ((with_reducible refine gate_dst (N := 111) rfl ?_); go_must (((try (refine gate_guard (by rfl) ?_; dsimp only)); refine goesL_ (some 111) rfl rfl Try.func24 (by kernel_rfl) rfl #[.pointer (some ⟨g, 0, none⟩), .int .i64 1] rfl ?hA ?_; (case hA => ((try simp only [List.map_toArray, List.map_cons, List.map_nil]); first | done | rfl)); refine (rnext_cons g gq 1 col5 [(⟨l, false⟩ : It)] [[], [(⟨l, false⟩ : It), (⟨l, false⟩ : It)], []] (⟨l, false⟩ : It) [(⟨l, false⟩ : It)] w _ HR.out (by simp) rfl (by show 2 ≤ 100000; decide) HB.out).mono ?_; rintro e w111 ⟨v111, rfl, ho, ⟨col6, hr⟩, hB, hF⟩; refine ⟨_, rfl, ?_⟩; have hr2 : Rel w111 w.heap.size g gq col6 [(⟨l, false⟩ : It)] [[], [(⟨l, false⟩ : It)], []] := hr; (try replace HT := Aside0.mk (own_frame HT.out hF)); (try replace HY := Aside0.mk (own_frame HY.out hF)); (try replace HU := Aside0.mk (own_frame HU.out hF)); (try replace HV := Aside0.mk (own_frame HV.out hF)); replace HB := Aside0.mk hB; clear HR; have HR := Aside0.mk hr2; have HY := Aside0.mk ho; clear hr hr2 hB hF ho)))
      | ((with_reducible refine gate_dst (N := 116) rfl ?_); go_must (((try (refine gate_guard (by rfl) ?_; dsimp only)); refine goesL_ (some 116) rfl rfl Try.func24 (by kernel_rfl) rfl #[.pointer (some ⟨g, 0, none⟩), .int .i64 1] rfl ?hA ?_; (case hA => ((try simp only [List.map_toArray, List.map_cons, List.map_nil]); first | done | rfl)); refine (rnext_cons g gq 1 col6 [(⟨l, false⟩ : It)] [[], [(⟨l, false⟩ : It)], []] (⟨l, false⟩ : It) [] w w111 HR.out (by simp) rfl (by show 1 ≤ 100000; decide) HB.out).mono ?_; rintro e w116 ⟨v116, rfl, ho, ⟨col7, hr⟩, hB, hF⟩; refine ⟨_, rfl, ?_⟩; have hr2 : Rel w116 w.heap.size g gq col7 [(⟨l, false⟩ : It)] [[], [], []] := hr; (try replace HT := Aside0.mk (own_frame HT.out hF)); (try replace HY := Aside0.mk (own_frame HY.out hF)); (try replace HU := Aside0.mk (own_frame HU.out hF)); (try replace HV := Aside0.mk (own_frame HV.out hF)); replace HB := Aside0.mk hB; clear HR; have HR := Aside0.mk hr2; have HU := Aside0.mk ho; clear hr hr2 hB hF ho)))
      | ((with_reducible refine gate_dst (N := 120) rfl ?_); go_must (((try (refine gate_guard (by rfl) ?_; dsimp only)); refine goesL_ (some 120) rfl rfl Try.func34 (by kernel_rfl) rfl #[.pointer (some ⟨g, 0, none⟩), .int .i64 0] rfl ?hA ?_; (case hA => ((try simp only [List.map_toArray, List.map_cons, List.map_nil]); first | done | rfl)); refine (rrewind_ok g gq 0 col7 [(⟨l, false⟩ : It)] [[], [], []] w w116 HR.out (by simp) (by simp) (by simp; omega) HB.out).mono ?_; rintro e w120 ⟨rfl, ⟨col8, hr⟩, hB, hF⟩; refine ⟨_, rfl, ?_⟩; have hr2 : Rel w120 w.heap.size g gq col8 [(⟨l, false⟩ : It)] [[(⟨l, false⟩ : It)], [], []] := hr; (try replace HT := Aside0.mk (own_frame HT.out hF)); (try replace HY := Aside0.mk (own_frame HY.out hF)); (try replace HU := Aside0.mk (own_frame HU.out hF)); (try replace HV := Aside0.mk (own_frame HV.out hF)); replace HB := Aside0.mk hB; clear HR; have HR := Aside0.mk hr2; rw [show (([(⟨l, false⟩ : It)] : List It).length : Int) = 1 from rfl]; clear hr hr2 hB hF)))
      | ((with_reducible refine gate_dst (N := 124) rfl ?_); go_must (((try (refine gate_guard (by rfl) ?_; dsimp only)); refine goesL_ (some 124) rfl rfl Try.func24 (by kernel_rfl) rfl #[.pointer (some ⟨g, 0, none⟩), .int .i64 0] rfl ?hA ?_; (case hA => ((try simp only [List.map_toArray, List.map_cons, List.map_nil]); first | done | rfl)); refine (rnext_cons g gq 0 col8 [(⟨l, false⟩ : It)] [[(⟨l, false⟩ : It)], [], []] (⟨l, false⟩ : It) [] w w120 HR.out (by simp) rfl (by simp) HB.out).mono ?_; rintro e w124 ⟨v124, rfl, ho, ⟨col9, hr⟩, hB, hF⟩; refine ⟨_, rfl, ?_⟩; (try replace HT := Aside0.mk (own_frame HT.out hF)); (try replace HY := Aside0.mk (own_frame HY.out hF)); (try replace HU := Aside0.mk (own_frame HU.out hF)); (try replace HV := Aside0.mk (own_frame HV.out hF)); replace HB := Aside0.mk hB; clear HR; have HV := Aside0.mk ho; clear hr hB hF ho)))
      | ((with_reducible refine gate_dst (N := 129) rfl ?_); go_must (((try (refine gate_guard (by rfl) ?_; dsimp only)); refine goesL_ (some 129) rfl rfl Try.func24 (by kernel_rfl) rfl #[.pointer none, .int .i64 0] rfl ?hA ?_; (case hA => ((try simp only [List.map_toArray, List.map_cons, List.map_nil]); first | done | rfl)); refine (next_nil 0 _).mono ?_; rintro e w129 ⟨rfl, hb⟩; refine ⟨_, rfl, ?_⟩; (try replace HT := Aside0.mk (Kd.R_below HT.out hb)); (try replace HY := Aside0.mk (Kd.R_below HY.out hb)); (try replace HU := Aside0.mk (Kd.R_below HU.out hb)); (try replace HV := Aside0.mk (Kd.R_below HV.out hb)); replace HB := Aside0.mk (below_step (by repeat (first | (with_reducible first | exact HB.out | apply below_alloc | apply pw_below_drewN | apply below_drew1) | exact HB.out)) hb); clear hb))))
    go_wp2_with fail
    refine (same_true v111 _ l _ (Own.rd HY.out) (Own.rd HT.out)).mono ?_
    rintro e w134 ⟨rfl, hb⟩
    dsimp only
    first | (rename_i hx; refine hx _ _ ?_; clear hx) | (rename_i hx hx2; refine hx _ _ ?_; clear hx) | (rename_i hx hx2 hx3; refine hx _ _ ?_; clear hx)
    replace HT := Aside0.mk (Kd.R_below HT.out hb); replace HY := Aside0.mk (Kd.R_below HY.out hb); replace HU := Aside0.mk (Kd.R_below HU.out hb); replace HV := Aside0.mk (Kd.R_below HV.out hb); replace HB := Aside0.mk (below_step (by repeat (first | (with_reducible first | exact HB.out | apply below_alloc | apply pw_below_drewN | apply below_drew1) | exact HB.out)) hb)
    clear hb
    go_wp2_with fail
    refine (same_true v116 _ l _ (Own.rd HU.out) (Own.rd HT.out)).mono ?_
    rintro e w138 ⟨rfl, hb⟩
    dsimp only
    first | (rename_i hx; refine hx _ _ ?_; clear hx) | (rename_i hx hx2; refine hx _ _ ?_; clear hx) | (rename_i hx hx2 hx3; refine hx _ _ ?_; clear hx)
    replace HT := Aside0.mk (Kd.R_below HT.out hb); replace HY := Aside0.mk (Kd.R_below HY.out hb); replace HU := Aside0.mk (Kd.R_below HU.out hb); replace HV := Aside0.mk (Kd.R_below HV.out hb); replace HB := Aside0.mk (below_step (by repeat (first | (with_reducible first | exact HB.out | apply below_alloc | apply pw_below_drewN | apply below_drew1) | exact HB.out)) hb)
    clear hb
    go_wp2_with fail
    refine (same_true v124 _ l _ (Own.rd HV.out) (HR0.out.below HB.out)).mono ?_
    rintro e w143 ⟨rfl, hb⟩
    dsimp only
    first | (rename_i hx; refine hx _ _ ?_; clear hx) | (rename_i hx hx2; refine hx _ _ ?_; clear hx) | (rename_i hx hx2 hx3; refine hx _ _ ?_; clear hx)
    replace HB := Aside0.mk (below_step (by repeat (first | (with_reducible first | exact HB.out | apply below_alloc | apply pw_below_drewN | apply below_drew1) | exact HB.out)) hb)
    clear hb
    go_wp2_with fail
    refine (put_nil _ _).mono ?_
    rintro e w152 ⟨rfl, hb⟩
    dsimp only
    first | (rename_i hx; refine hx _ _ ?_; clear hx) | (rename_i hx hx2; refine hx _ _ ?_; clear hx) | (rename_i hx hx2 hx3; refine hx _ _ ?_; clear hx)
    replace HB := Aside0.mk (below_step (by repeat (first | (with_reducible first | exact HB.out | apply below_alloc | apply pw_below_drewN | apply below_drew1) | exact HB.out)) hb)
    clear hb
    go_wp2_with fail
    refine (forge_nil _ _).mono ?_
    rintro e w158 ⟨rfl, hb⟩
    dsimp only
    first | (rename_i hx; refine hx _ _ ?_; clear hx) | (rename_i hx hx2; refine hx _ _ ?_; clear hx) | (rename_i hx hx2 hx3; refine hx _ _ ?_; clear hx)
    replace HB := Aside0.mk (below_step (by repeat (first | (with_reducible first | exact HB.out | apply below_alloc | apply pw_below_drewN | apply below_drew1) | exact HB.out)) hb)
    clear hb
    go_wp2_with fail
    refine (waits_nil _).mono ?_
    rintro e w163 ⟨rfl, hb⟩
    dsimp only
    first | (rename_i hx; refine hx _ _ ?_; clear hx) | (rename_i hx hx2; refine hx _ _ ?_; clear hx) | (rename_i hx hx2 hx3; refine hx _ _ ?_; clear hx)
    replace HB := Aside0.mk (below_step (by repeat (first | (with_reducible first | exact HB.out | apply below_alloc | apply pw_below_drewN | apply below_drew1) | exact HB.out)) hb)
    clear hb
    go_wp2_with fail
    refine (rewind_nil _).mono ?_
    rintro e w165 ⟨rfl, hb⟩
    dsimp only
    first | (rename_i hx; refine hx _ _ ?_; clear hx) | (rename_i hx hx2; refine hx _ _ ?_; clear hx) | (rename_i hx hx2 hx3; refine hx _ _ ?_; clear hx)
    replace HB := Aside0.mk (below_step (by repeat (first | (with_reducible first | exact HB.out | apply below_alloc | apply pw_below_drewN | apply below_drew1) | exact HB.out)) hb)
    clear hb
    go_wp2_with fail
    refine (view_nil _).mono ?_
    rintro e w168 ⟨rfl, hb⟩
    dsimp only
    first | (rename_i hx; refine hx _ _ ?_; clear hx) | (rename_i hx hx2; refine hx _ _ ?_; clear hx) | (rename_i hx hx2 hx3; refine hx _ _ ?_; clear hx)
    replace HB := Aside0.mk (below_step (by repeat (first | (with_reducible first | exact HB.out | apply below_alloc | apply pw_below_drewN | apply below_drew1) | exact HB.out)) hb)
    clear hb
    go_wp2_with fail
    refine (drop_nil _).mono ?_
    rintro e w175 ⟨rfl, hb⟩
    dsimp only
    first | (rename_i hx; refine hx _ _ ?_; clear hx) | (rename_i hx hx2; refine hx _ _ ?_; clear hx) | (rename_i hx hx2 hx3; refine hx _ _ ?_; clear hx)
    replace HB := Aside0.mk (below_step (by repeat (first | (with_reducible first | exact HB.out | apply below_alloc | apply pw_below_drewN | apply below_drew1) | exact HB.out)) hb)
    clear hb
    go_wp2_with fail
    refine (again_nil _).mono ?_
    rintro e w180 ⟨rfl, hb⟩
    dsimp only
    first | (rename_i hx; refine hx _ _ ?_; clear hx) | (rename_i hx hx2; refine hx _ _ ?_; clear hx) | (rename_i hx hx2 hx3; refine hx _ _ ?_; clear hx)
    replace HB := Aside0.mk (below_step (by repeat (first | (with_reducible first | exact HB.out | apply below_alloc | apply pw_below_drewN | apply below_drew1) | exact HB.out)) hb)
    clear hb
    go_wp2_with fail
    refine (swap_nil _).mono ?_
    rintro e w185 ⟨rfl, hb⟩
    dsimp only
    first | (rename_i hx; refine hx _ _ ?_; clear hx) | (rename_i hx hx2; refine hx _ _ ?_; clear hx) | (rename_i hx hx2 hx3; refine hx _ _ ?_; clear hx)
    replace HB := Aside0.mk (below_step (by repeat (first | (with_reducible first | exact HB.out | apply below_alloc | apply pw_below_drewN | apply below_drew1) | exact HB.out)) hb)
    clear hb
    go_wp2_with fail
    refine (turn_nil _).mono ?_
    rintro e w190 ⟨rfl, hb⟩
    dsimp only
    first | (rename_i hx; refine hx _ _ ?_; clear hx) | (rename_i hx hx2; refine hx _ _ ?_; clear hx) | (rename_i hx hx2 hx3; refine hx _ _ ?_; clear hx)
    replace HB := Aside0.mk (below_step (by repeat (first | (with_reducible first | exact HB.out | apply below_alloc | apply pw_below_drewN | apply below_drew1) | exact HB.out)) hb)
    clear hb
    go_wp2_with fail
    refine (alive22_calls _).mono ?_
    rintro e w194 ⟨rfl, hb⟩
    dsimp only
    first | (rename_i hx; refine hx _ _ ?_; clear hx) | (rename_i hx hx2; refine hx _ _ ?_; clear hx) | (rename_i hx hx2 hx3; refine hx _ _ ?_; clear hx)
    replace HB := Aside0.mk (below_step (by repeat (first | (with_reducible first | exact HB.out | apply below_alloc | apply pw_below_drewN | apply below_drew1) | exact HB.out)) hb)
    clear hb
    go_wp2
    go_ret
    exact ⟨rfl, HB.out⟩

set_option maxRecDepth 100000 in
set_option maxHeartbeats 16000000 in
theorem turns_is (v0 : Value) (l : List Int) (a : Nat) (y : Int) (w : World) (hr0 : Rd w v0 l) (hl : l.length ≤ 100) (ha : a < l.length) :
    Calls Try.prog 8 #[v0, .int .i64 a, .int .u8 y] w fun e w' => e = .returned (.bool true) ∧ Below w.heap.size w w' := by
  have HR0 := Aside0.mk hr0
  obtain ⟨A0, c0, rfl, hc0, hC0⟩ := hr0
  have HB := Aside0.mk (Below.refl w.heap.size w)
  have hl2 : decide ((100 : Int) < l.length) = false := decide_eq_false (by omega)
  have ha1 : (a : Int) < l.length := by omega
  have ha0 : (0 : Int) ≤ a := by omega
  clear hC0 hc0
  go_enter Try.func8, Try.ntmps8
  go_wp2_with (first
    | ((with_reducible refine gate_dst (N := 28) rfl ?_); go_must (((try (refine gate_guard (by rfl) ?_; dsimp only)); refine goesL_ (some 28) rfl rfl Try.func22 (by kernel_rfl) rfl #[.int .i64 3] rfl ?hA ?_; (case hA => ((try simp only [List.map_toArray, List.map_cons, List.map_nil]); first | done | rfl)); refine (rnew_ok 3 w w HB.out (by decide) (by decide)).mono ?_; rintro e w28 ⟨g, gq, rfl, hr, hB, _⟩; refine ⟨_, rfl, ?_⟩; have HR : Aside0 (Rel w28 w.heap.size g gq (fun _ => 0) [] [[], [], []]) := ⟨hr⟩; replace HB := Aside0.mk hB; clear hr hB)))
    | ((with_reducible refine gate_dst (N := 36) rfl ?_); go_must (((try (refine gate_guard (by rfl) ?_; dsimp only)); refine goesL_ (some 36) rfl rfl Try.func23 (by kernel_rfl) rfl #[.pointer (some ⟨g, 0, none⟩), .int .i64 0, .slice A0 l.length c0] rfl ?hA ?_; (case hA => ((try simp only [List.map_toArray, List.map_cons, List.map_nil]); first | done | rfl)); refine (rput_ok g gq 0 (fun _ => 0) [] [[], [], []] (.slice A0 l.length c0) l w w28 HR.out (by decide) (by decide) (fun W hB _ => HR0.out.below hB) (by omega) (by decide) (by decide) HB.out).mono ?_; rintro e w36 ⟨rfl, ⟨col1, hr⟩, hB, hF⟩; refine ⟨_, rfl, ?_⟩; have hr2 : Rel w36 w.heap.size g gq col1 [(⟨l, false⟩ : It)] [[], [(⟨l, false⟩ : It)], [(⟨l, false⟩ : It)]] := hr; clear HR; have HR := Aside0.mk hr2; replace HB := Aside0.mk hB; clear hr hr2 hB hF)))
    | ((with_reducible refine gate_dst (N := 42) rfl ?_); go_must (((try (refine gate_guard (by rfl) ?_; dsimp only)); refine goesL_ (some 42) rfl rfl Try.func32 (by kernel_rfl) rfl #[.pointer (some ⟨g, 0, none⟩), .int .i64 1, .int .i64 0, .int .i64 a, .int .u8 y] rfl ?hA ?_; (case hA => ((try simp only [List.map_toArray, List.map_cons, List.map_nil]); first | done | rfl)); refine (rturn_ok g gq 1 a col1 [(⟨l, false⟩ : It)] [[], [(⟨l, false⟩ : It)], [(⟨l, false⟩ : It)]] l y w w36 HR.out (by simp) rfl ha (by omega) HB.out).mono ?_; rintro e w42 ⟨rfl, ⟨col2, hr⟩, hB⟩; refine ⟨_, rfl, ?_⟩; have hr2 : Rel w42 w.heap.size g gq col2 [(⟨l, false⟩ : It)] [[], [(⟨l.set a (bits .xor .u8 (rd l a) y), true⟩ : It)], [(⟨l, false⟩ : It)]] := hr; clear HR; have HR := Aside0.mk hr2; replace HB := Aside0.mk hB; clear hr hr2 hB)))
    | ((with_reducible refine gate_dst (N := 55) rfl ?_); go_must (((try (refine gate_guard (by rfl) ?_; dsimp only)); refine goesL_ (some 55) rfl rfl Try.func33 (by kernel_rfl) rfl #[.pointer (some ⟨g, 0, none⟩), .int .i64 1, .int .i64 0] rfl ?hA ?_; (case hA => ((try simp only [List.map_toArray, List.map_cons, List.map_nil]); first | done | rfl)); refine (ragain_ok g gq 1 _ [(⟨l, false⟩ : It)] [[], [(⟨l.set a (bits .xor .u8 (rd l a) y), true⟩ : It)], [(⟨l, false⟩ : It)]] (⟨l.set a (bits .xor .u8 (rd l a) y), true⟩ : It) w w42 HR.out (by simp) rfl (by show (l.set a (bits .xor .u8 (rd l a) y)).length ≤ 100000; rw [List.length_set]; omega) HB.out).mono ?_; rintro e w55 ⟨rfl, ⟨col3, hr⟩, hB, hF⟩; refine ⟨_, rfl, ?_⟩; have hr2 : Rel w55 w.heap.size g gq col3 [(⟨l, false⟩ : It)] [[], [(⟨l.set a (bits .xor .u8 (rd l a) y), true⟩ : It), (⟨l.set a (bits .xor .u8 (rd l a) y), true⟩ : It)], [(⟨l, false⟩ : It)]] := hr; obtain ⟨col4, hcol4, hr4⟩ := hr2.recol' 99; clear HR; have HR := Aside0.mk hr4; have HCol := Aside0.mk hcol4; replace HB := Aside0.mk hB; have HB2 := Aside0.mk (Below.refl w55.heap.size w55); clear hr hr2 hB hF hr4 hcol4)))
    | ((with_reducible refine gate_dst (N := 58) rfl ?_); go_must (((try (refine gate_guard (by rfl) ?_; dsimp only)); refine lit_bytes (w0 := w55) (w55).heap.size 58 ?hg ?hd ([]) ?hr ?hm HB2.out HB2.out.size ?_; (case hd => rfl); (case hg => rfl); (case hr => first | (go_simp; done) | (go_simp; rfl)); (case hm => simp); intro vHO58 wHO58 ho hb hbw; have HO58 := Aside0.mk ho; clear HB2; have HB2 := Aside0.mk hb; clear ho hb hbw)))
    | (((with_reducible refine gate_builtin (b := .append) (xs := #[.tmp 58, .tmp 59]) rfl ?_); at_builtin; go_must (((try (refine gate_guard (by rfl) ?_; dsimp only)); refine app_bytes (w0 := w55) (w55).heap.size rfl (.tmp 58) (.tmp 59) 45 rfl Try.underlying45 info5 _ _ ([]) (l) rfl rfl HO58.out ?aR HB2.out HB2.out.size ?aL ?_; (case aR => exact HR0.out.below (HB.out.trans (HB2.out.mono HB.out.size))); (case aL => (simp; omega)); intro vHO60 wHO60 ho hb hg; have HO60 := Aside0.mk ho; clear HB2; have HB2 := Aside0.mk hb; clear ho hb hg))); go_must ((have hT : Kd.R (Kd.int .u8) 5 wHO60 w55.heap.size (fun _ => True) vHO60 l := (by simpa using HO60.out); obtain ⟨bt, ct, hvt, hbt, hbt2, cellst, hct⟩ := Kd.R_form hT (by omega); subst hvt; obtain ⟨_, hcct, hCt⟩ := Kd.R_reads' hT; obtain ⟨adt, het, hxt⟩ := Kd.at_int hCt a (by omega) (by omega); have het2 : adt = ⟨bt, 0, none⟩ := (by injection het with het; exact het.symm); rw [het2, Int.toNat_natCast, add0] at hxt; have fxt : wHO60.frozen? ⟨bt, a, none⟩ = false := blk_frozen hct a; have HT := Aside0.mk (own_store (Kd.R_lower hT HB.out.size) a ha (bits .xor .u8 (rd l a) y)); replace HR := Aside0.mk ((HR.out.below HB2.out).farC hct (by decide) (by rw [HCol.out bt hbt]; simp) a (.int .u8 (bits .xor .u8 (rd l a) y))); have HBn := Aside0.mk ((HB.out.trans (HB2.out.mono HB.out.size)).setCell (p := ⟨bt, a, none⟩) (Nat.le_trans HB.out.size hbt) (.int .u8 (bits .xor .u8 (rd l a) y))); clear HB; have HB := HBn; clear HBn hT hbt hbt2 hct hcct hCt het het2 HO60 HB2)))
    | ((with_reducible refine gate_dst (N := 73) rfl ?_); go_must (((try (refine gate_guard (by rfl) ?_; dsimp only)); refine goesL_ (some 73) rfl rfl Try.func24 (by kernel_rfl) rfl #[.pointer (some ⟨g, 0, none⟩), .int .i64 2] rfl ?hA ?_; (case hA => ((try simp only [List.map_toArray, List.map_cons, List.map_nil]); first | done | rfl)); refine (rnext_cons g gq 2 col4 [(⟨l, false⟩ : It)] [[], [(⟨l.set a (bits .xor .u8 (rd l a) y), true⟩ : It), (⟨l.set a (bits .xor .u8 (rd l a) y), true⟩ : It)], [(⟨l, false⟩ : It)]] (⟨l, false⟩ : It) [] w _ HR.out (by simp) rfl (by simp) HB.out).mono ?_; rintro e w73 ⟨v73, rfl, ho, ⟨col5, hr⟩, hB, hF⟩; refine ⟨_, rfl, ?_⟩; have hr2 : Rel w73 w.heap.size g gq col5 [(⟨l, false⟩ : It)] [[], [(⟨l.set a (bits .xor .u8 (rd l a) y), true⟩ : It), (⟨l.set a (bits .xor .u8 (rd l a) y), true⟩ : It)], []] := hr; (try replace HT := Aside0.mk (own_frame HT.out hF)); (try replace HY := Aside0.mk (own_frame HY.out hF)); (try replace HU := Aside0.mk (own_frame HU.out hF)); (try replace HV := Aside0.mk (own_frame HV.out hF)); replace HB := Aside0.mk hB; clear HR; have HR := Aside0.mk hr2; have HN2 := Aside0.mk ho; clear hr hr2 hB hF ho)))
    | ((with_reducible refine gate_dst (N := 77) rfl ?_); go_must (((try (refine gate_guard (by rfl) ?_; dsimp only)); refine goesL_ (some 77) rfl rfl Try.func28 (by kernel_rfl) rfl #[.pointer (some ⟨g, 0, none⟩)] rfl ?hA ?_; (case hA => ((try simp only [List.map_toArray, List.map_cons, List.map_nil]); first | done | rfl)); refine (rview_calls g gq col5 [(⟨l, false⟩ : It)] [[], [(⟨l.set a (bits .xor .u8 (rd l a) y), true⟩ : It), (⟨l.set a (bits .xor .u8 (rd l a) y), true⟩ : It)], []] w.heap.size w73 HR.out (by simp) (by simp; omega)).mono ?_; rintro e w77 ⟨vv, rfl, ho, hb⟩; refine ⟨_, rfl, ?_⟩; have ho2 : Kd.R BK 45 w77 w73.heap.size (fun _ => True) vv [l] := ho; obtain ⟨Av, cv, hvv, hcv, hCv⟩ := Kd.R_reads ho2; rw [show ([l] : List (List Int)).length = 1 from rfl] at hvv hCv; subst hvv; obtain ⟨ae, Ae, ce, hae, hxe, hce, hCe⟩ := X.at_L3 hCv 0 (by simp) (by simp); have hae2 : Av = some ae := hae; subst hae2; have hxe2 : w77.cell? ae = some (.slice Ae l.length ce) := (by have h9 := hxe; simpa [Addr.add, X.rd_L3] using h9); have HXE := Aside0.mk hxe2; have HVe : Aside0 (Rd w77 (.slice Ae l.length ce) l) := ⟨⟨Ae, ce, rfl, hce, hCe⟩⟩; have HN3 := Aside0.mk (Kd.R_below HN2.out hb); replace HR := Aside0.mk (HR.out.below hb); (try replace HT := Aside0.mk (Kd.R_below HT.out hb)); (try replace HY := Aside0.mk (Kd.R_below HY.out hb)); (try replace HU := Aside0.mk (Kd.R_below HU.out hb)); (try replace HV := Aside0.mk (Kd.R_below HV.out hb)); replace HB := Aside0.mk (below_step (by repeat (first | (with_reducible first | exact HB.out | apply below_alloc | apply pw_below_drewN | apply below_drew1) | exact HB.out)) hb); clear ho ho2 hb hcv hCv hxe hCe hce hae HN2)))
    | ((with_reducible refine gate_dst (N := 80) rfl ?_); go_must (((try (refine gate_guard (by rfl) ?_; dsimp only)); refine goesL_ (some 80) rfl rfl Try.func25 (by kernel_rfl) rfl #[v73, .slice A0 l.length c0] rfl ?hA ?_; (case hA => ((try simp only [List.map_toArray, List.map_cons, List.map_nil]); first | done | rfl)); refine (same_true _ _ l _ (Own.rd HN3.out) (HR0.out.below HB.out)).mono ?_; rintro e w80 ⟨rfl, hb⟩; refine ⟨_, rfl, ?_⟩; have hxe2 := pw_cell_below hb HXE.out; have HVf := Aside0.mk (HVe.out.below hb); replace HR := Aside0.mk (HR.out.below hb); (try replace HT := Aside0.mk (Kd.R_below HT.out hb)); (try replace HY := Aside0.mk (Kd.R_below HY.out hb)); (try replace HU := Aside0.mk (Kd.R_below HU.out hb)); (try replace HV := Aside0.mk (Kd.R_below HV.out hb)); replace HB := Aside0.mk (below_step (by repeat (first | (with_reducible first | exact HB.out | apply below_alloc | apply pw_below_drewN | apply below_drew1) | exact HB.out)) hb); clear hb HN3 HXE)))
    | ((with_reducible refine gate_dst (N := 92) rfl ?_); go_must (((try (refine gate_guard (by rfl) ?_; dsimp only)); refine goesL_ (some 92) rfl rfl Try.func25 (by kernel_rfl) rfl #[.slice Ae l.length ce, .slice A0 l.length c0] rfl ?hA ?_; (case hA => ((try simp only [List.map_toArray, List.map_cons, List.map_nil]); first | done | rfl)); refine (same_true _ _ l _ (by exact HVf.out) (HR0.out.below HB.out)).mono ?_; rintro e w92 ⟨rfl, hb⟩; refine ⟨_, rfl, ?_⟩; replace HR := Aside0.mk (HR.out.below hb); (try replace HT := Aside0.mk (Kd.R_below HT.out hb)); (try replace HY := Aside0.mk (Kd.R_below HY.out hb)); (try replace HU := Aside0.mk (Kd.R_below HU.out hb)); (try replace HV := Aside0.mk (Kd.R_below HV.out hb)); replace HB := Aside0.mk (below_step (by repeat (first | (with_reducible first | exact HB.out | apply below_alloc | apply pw_below_drewN | apply below_drew1) | exact HB.out)) hb); clear hb hxe2)))
    | ((with_reducible refine gate_dst (N := 101) rfl ?_); go_must (((try (refine gate_guard (by rfl) ?_; dsimp only)); refine goesL_ (some 101) rfl rfl Try.func32 (by kernel_rfl) rfl #[.pointer (some ⟨g, 0, none⟩), .int .i64 1, .int .i64 0, .int .i64 a, .int .u8 y] rfl ?hA ?_; (case hA => ((try simp only [List.map_toArray, List.map_cons, List.map_nil]); first | done | rfl)); refine (rturn_no g gq 1 0 a y col5 [(⟨l, false⟩ : It)] [[], [(⟨l.set a (bits .xor .u8 (rd l a) y), true⟩ : It), (⟨l.set a (bits .xor .u8 (rd l a) y), true⟩ : It)], []] w.heap.size _ HR.out (by simp) (by simp) (.inr (.inr rfl))).mono ?_; rintro e w101 ⟨rfl, hb⟩; refine ⟨_, rfl, ?_⟩; replace HR := Aside0.mk (HR.out.below hb); (try replace HT := Aside0.mk (Kd.R_below HT.out hb)); (try replace HY := Aside0.mk (Kd.R_below HY.out hb)); (try replace HU := Aside0.mk (Kd.R_below HU.out hb)); (try replace HV := Aside0.mk (Kd.R_below HV.out hb)); replace HB := Aside0.mk (below_step (by repeat (first | (with_reducible first | exact HB.out | apply below_alloc | apply pw_below_drewN | apply below_drew1) | exact HB.out)) hb); clear hb)))
    | ((with_reducible refine gate_dst (N := 105) rfl ?_); go_must (((try (refine gate_guard (by rfl) ?_; dsimp only)); refine goesL_ (some 105) rfl rfl Try.func32 (by kernel_rfl) rfl #[.pointer (some ⟨g, 0, none⟩), .int .i64 1, .int .i64 1, .int .i64 0, .int .u8 y] rfl ?hA ?_; (case hA => ((try simp only [List.map_toArray, List.map_cons, List.map_nil]); first | done | rfl)); refine (rturn_no g gq 1 1 0 y col5 [(⟨l, false⟩ : It)] [[], [(⟨l.set a (bits .xor .u8 (rd l a) y), true⟩ : It), (⟨l.set a (bits .xor .u8 (rd l a) y), true⟩ : It)], []] w.heap.size _ HR.out (by simp) (by simp) (.inr (.inr rfl))).mono ?_; rintro e w105 ⟨rfl, hb⟩; refine ⟨_, rfl, ?_⟩; replace HR := Aside0.mk (HR.out.below hb); (try replace HT := Aside0.mk (Kd.R_below HT.out hb)); (try replace HY := Aside0.mk (Kd.R_below HY.out hb)); (try replace HU := Aside0.mk (Kd.R_below HU.out hb)); (try replace HV := Aside0.mk (Kd.R_below HV.out hb)); replace HB := Aside0.mk (below_step (by repeat (first | (with_reducible first | exact HB.out | apply below_alloc | apply pw_below_drewN | apply below_drew1) | exact HB.out)) hb); clear hb)))
    | ((with_reducible refine gate_dst (N := 111) rfl ?_); go_must (((try (refine gate_guard (by rfl) ?_; dsimp only)); refine goesL_ (some 111) rfl rfl Try.func24 (by kernel_rfl) rfl #[.pointer (some ⟨g, 0, none⟩), .int .i64 1] rfl ?hA ?_; (case hA => ((try simp only [List.map_toArray, List.map_cons, List.map_nil]); first | done | rfl)); refine (rnext_cons g gq 1 col5 [(⟨l, false⟩ : It)] [[], [(⟨l.set a (bits .xor .u8 (rd l a) y), true⟩ : It), (⟨l.set a (bits .xor .u8 (rd l a) y), true⟩ : It)], []] (⟨l.set a (bits .xor .u8 (rd l a) y), true⟩ : It) [(⟨l.set a (bits .xor .u8 (rd l a) y), true⟩ : It)] w _ HR.out (by simp) rfl (by show 2 ≤ 100000; decide) HB.out).mono ?_; rintro e w111 ⟨v111, rfl, ho, ⟨col6, hr⟩, hB, hF⟩; refine ⟨_, rfl, ?_⟩; have hr2 : Rel w111 w.heap.size g gq col6 [(⟨l, false⟩ : It)] [[], [(⟨l.set a (bits .xor .u8 (rd l a) y), true⟩ : It)], []] := hr; (try replace HT := Aside0.mk (own_frame HT.out hF)); (try replace HY := Aside0.mk (own_frame HY.out hF)); (try replace HU := Aside0.mk (own_frame HU.out hF)); (try replace HV := Aside0.mk (own_frame HV.out hF)); replace HB := Aside0.mk hB; clear HR; have HR := Aside0.mk hr2; have HY := Aside0.mk ho; clear hr hr2 hB hF ho)))
    | ((with_reducible refine gate_dst (N := 116) rfl ?_); go_must (((try (refine gate_guard (by rfl) ?_; dsimp only)); refine goesL_ (some 116) rfl rfl Try.func24 (by kernel_rfl) rfl #[.pointer (some ⟨g, 0, none⟩), .int .i64 1] rfl ?hA ?_; (case hA => ((try simp only [List.map_toArray, List.map_cons, List.map_nil]); first | done | rfl)); refine (rnext_cons g gq 1 col6 [(⟨l, false⟩ : It)] [[], [(⟨l.set a (bits .xor .u8 (rd l a) y), true⟩ : It)], []] (⟨l.set a (bits .xor .u8 (rd l a) y), true⟩ : It) [] w w111 HR.out (by simp) rfl (by show 1 ≤ 100000; decide) HB.out).mono ?_; rintro e w116 ⟨v116, rfl, ho, ⟨col7, hr⟩, hB, hF⟩; refine ⟨_, rfl, ?_⟩; have hr2 : Rel w116 w.heap.size g gq col7 [(⟨l, false⟩ : It)] [[], [], []] := hr; (try replace HT := Aside0.mk (own_frame HT.out hF)); (try replace HY := Aside0.mk (own_frame HY.out hF)); (try replace HU := Aside0.mk (own_frame HU.out hF)); (try replace HV := Aside0.mk (own_frame HV.out hF)); replace HB := Aside0.mk hB; clear HR; have HR := Aside0.mk hr2; have HU := Aside0.mk ho; clear hr hr2 hB hF ho)))
    | ((with_reducible refine gate_dst (N := 120) rfl ?_); go_must (((try (refine gate_guard (by rfl) ?_; dsimp only)); refine goesL_ (some 120) rfl rfl Try.func34 (by kernel_rfl) rfl #[.pointer (some ⟨g, 0, none⟩), .int .i64 0] rfl ?hA ?_; (case hA => ((try simp only [List.map_toArray, List.map_cons, List.map_nil]); first | done | rfl)); refine (rrewind_ok g gq 0 col7 [(⟨l, false⟩ : It)] [[], [], []] w w116 HR.out (by simp) (by simp) (by simp; omega) HB.out).mono ?_; rintro e w120 ⟨rfl, ⟨col8, hr⟩, hB, hF⟩; refine ⟨_, rfl, ?_⟩; have hr2 : Rel w120 w.heap.size g gq col8 [(⟨l, false⟩ : It)] [[(⟨l, false⟩ : It)], [], []] := hr; (try replace HT := Aside0.mk (own_frame HT.out hF)); (try replace HY := Aside0.mk (own_frame HY.out hF)); (try replace HU := Aside0.mk (own_frame HU.out hF)); (try replace HV := Aside0.mk (own_frame HV.out hF)); replace HB := Aside0.mk hB; clear HR; have HR := Aside0.mk hr2; rw [show (([(⟨l, false⟩ : It)] : List It).length : Int) = 1 from rfl]; clear hr hr2 hB hF)))
    | ((with_reducible refine gate_dst (N := 124) rfl ?_); go_must (((try (refine gate_guard (by rfl) ?_; dsimp only)); refine goesL_ (some 124) rfl rfl Try.func24 (by kernel_rfl) rfl #[.pointer (some ⟨g, 0, none⟩), .int .i64 0] rfl ?hA ?_; (case hA => ((try simp only [List.map_toArray, List.map_cons, List.map_nil]); first | done | rfl)); refine (rnext_cons g gq 0 col8 [(⟨l, false⟩ : It)] [[(⟨l, false⟩ : It)], [], []] (⟨l, false⟩ : It) [] w w120 HR.out (by simp) rfl (by simp) HB.out).mono ?_; rintro e w124 ⟨v124, rfl, ho, ⟨col9, hr⟩, hB, hF⟩; refine ⟨_, rfl, ?_⟩; (try replace HT := Aside0.mk (own_frame HT.out hF)); (try replace HY := Aside0.mk (own_frame HY.out hF)); (try replace HU := Aside0.mk (own_frame HU.out hF)); (try replace HV := Aside0.mk (own_frame HV.out hF)); replace HB := Aside0.mk hB; clear HR; have HV := Aside0.mk ho; clear hr hB hF ho)))
    | ((with_reducible refine gate_dst (N := 129) rfl ?_); go_must (((try (refine gate_guard (by rfl) ?_; dsimp only)); refine goesL_ (some 129) rfl rfl Try.func24 (by kernel_rfl) rfl #[.pointer none, .int .i64 0] rfl ?hA ?_; (case hA => ((try simp only [List.map_toArray, List.map_cons, List.map_nil]); first | done | rfl)); refine (next_nil 0 _).mono ?_; rintro e w129 ⟨rfl, hb⟩; refine ⟨_, rfl, ?_⟩; (try replace HT := Aside0.mk (Kd.R_below HT.out hb)); (try replace HY := Aside0.mk (Kd.R_below HY.out hb)); (try replace HU := Aside0.mk (Kd.R_below HU.out hb)); (try replace HV := Aside0.mk (Kd.R_below HV.out hb)); replace HB := Aside0.mk (below_step (by repeat (first | (with_reducible first | exact HB.out | apply below_alloc | apply pw_below_drewN | apply below_drew1) | exact HB.out)) hb); clear hb))))
  go_wp2_with fail
  refine (same_true v111 _ (l.set a (bits .xor .u8 (rd l a) y)) _ (Own.rd HY.out) (Own.rd HT.out)).mono ?_
  rintro e w134 ⟨rfl, hb⟩
  dsimp only
  first | (rename_i hx; refine hx _ _ ?_; clear hx) | (rename_i hx hx2; refine hx _ _ ?_; clear hx) | (rename_i hx hx2 hx3; refine hx _ _ ?_; clear hx)
  replace HT := Aside0.mk (Kd.R_below HT.out hb); replace HY := Aside0.mk (Kd.R_below HY.out hb); replace HU := Aside0.mk (Kd.R_below HU.out hb); replace HV := Aside0.mk (Kd.R_below HV.out hb); replace HB := Aside0.mk (below_step (by repeat (first | (with_reducible first | exact HB.out | apply below_alloc | apply pw_below_drewN | apply below_drew1) | exact HB.out)) hb)
  clear hb
  go_wp2_with fail
  refine (same_true v116 _ (l.set a (bits .xor .u8 (rd l a) y)) _ (Own.rd HU.out) (Own.rd HT.out)).mono ?_
  rintro e w138 ⟨rfl, hb⟩
  dsimp only
  first | (rename_i hx; refine hx _ _ ?_; clear hx) | (rename_i hx hx2; refine hx _ _ ?_; clear hx) | (rename_i hx hx2 hx3; refine hx _ _ ?_; clear hx)
  replace HT := Aside0.mk (Kd.R_below HT.out hb); replace HY := Aside0.mk (Kd.R_below HY.out hb); replace HU := Aside0.mk (Kd.R_below HU.out hb); replace HV := Aside0.mk (Kd.R_below HV.out hb); replace HB := Aside0.mk (below_step (by repeat (first | (with_reducible first | exact HB.out | apply below_alloc | apply pw_below_drewN | apply below_drew1) | exact HB.out)) hb)
  clear hb
  go_wp2_with fail
  refine (same_true v124 _ l _ (Own.rd HV.out) (HR0.out.below HB.out)).mono ?_
  rintro e w143 ⟨rfl, hb⟩
  dsimp only
  first | (rename_i hx; refine hx _ _ ?_; clear hx) | (rename_i hx hx2; refine hx _ _ ?_; clear hx) | (rename_i hx hx2 hx3; refine hx _ _ ?_; clear hx)
  replace HB := Aside0.mk (below_step (by repeat (first | (with_reducible first | exact HB.out | apply below_alloc | apply pw_below_drewN | apply below_drew1) | exact HB.out)) hb)
  clear hb
  go_wp2_with fail
  refine (put_nil _ _).mono ?_
  rintro e w152 ⟨rfl, hb⟩
  dsimp only
  first | (rename_i hx; refine hx _ _ ?_; clear hx) | (rename_i hx hx2; refine hx _ _ ?_; clear hx) | (rename_i hx hx2 hx3; refine hx _ _ ?_; clear hx)
  replace HB := Aside0.mk (below_step (by repeat (first | (with_reducible first | exact HB.out | apply below_alloc | apply pw_below_drewN | apply below_drew1) | exact HB.out)) hb)
  clear hb
  go_wp2_with fail
  refine (forge_nil _ _).mono ?_
  rintro e w158 ⟨rfl, hb⟩
  dsimp only
  first | (rename_i hx; refine hx _ _ ?_; clear hx) | (rename_i hx hx2; refine hx _ _ ?_; clear hx) | (rename_i hx hx2 hx3; refine hx _ _ ?_; clear hx)
  replace HB := Aside0.mk (below_step (by repeat (first | (with_reducible first | exact HB.out | apply below_alloc | apply pw_below_drewN | apply below_drew1) | exact HB.out)) hb)
  clear hb
  go_wp2_with fail
  refine (waits_nil _).mono ?_
  rintro e w163 ⟨rfl, hb⟩
  dsimp only
  first | (rename_i hx; refine hx _ _ ?_; clear hx) | (rename_i hx hx2; refine hx _ _ ?_; clear hx) | (rename_i hx hx2 hx3; refine hx _ _ ?_; clear hx)
  replace HB := Aside0.mk (below_step (by repeat (first | (with_reducible first | exact HB.out | apply below_alloc | apply pw_below_drewN | apply below_drew1) | exact HB.out)) hb)
  clear hb
  go_wp2_with fail
  refine (rewind_nil _).mono ?_
  rintro e w165 ⟨rfl, hb⟩
  dsimp only
  first | (rename_i hx; refine hx _ _ ?_; clear hx) | (rename_i hx hx2; refine hx _ _ ?_; clear hx) | (rename_i hx hx2 hx3; refine hx _ _ ?_; clear hx)
  replace HB := Aside0.mk (below_step (by repeat (first | (with_reducible first | exact HB.out | apply below_alloc | apply pw_below_drewN | apply below_drew1) | exact HB.out)) hb)
  clear hb
  go_wp2_with fail
  refine (view_nil _).mono ?_
  rintro e w168 ⟨rfl, hb⟩
  dsimp only
  first | (rename_i hx; refine hx _ _ ?_; clear hx) | (rename_i hx hx2; refine hx _ _ ?_; clear hx) | (rename_i hx hx2 hx3; refine hx _ _ ?_; clear hx)
  replace HB := Aside0.mk (below_step (by repeat (first | (with_reducible first | exact HB.out | apply below_alloc | apply pw_below_drewN | apply below_drew1) | exact HB.out)) hb)
  clear hb
  go_wp2_with fail
  refine (drop_nil _).mono ?_
  rintro e w175 ⟨rfl, hb⟩
  dsimp only
  first | (rename_i hx; refine hx _ _ ?_; clear hx) | (rename_i hx hx2; refine hx _ _ ?_; clear hx) | (rename_i hx hx2 hx3; refine hx _ _ ?_; clear hx)
  replace HB := Aside0.mk (below_step (by repeat (first | (with_reducible first | exact HB.out | apply below_alloc | apply pw_below_drewN | apply below_drew1) | exact HB.out)) hb)
  clear hb
  go_wp2_with fail
  refine (again_nil _).mono ?_
  rintro e w180 ⟨rfl, hb⟩
  dsimp only
  first | (rename_i hx; refine hx _ _ ?_; clear hx) | (rename_i hx hx2; refine hx _ _ ?_; clear hx) | (rename_i hx hx2 hx3; refine hx _ _ ?_; clear hx)
  replace HB := Aside0.mk (below_step (by repeat (first | (with_reducible first | exact HB.out | apply below_alloc | apply pw_below_drewN | apply below_drew1) | exact HB.out)) hb)
  clear hb
  go_wp2_with fail
  refine (swap_nil _).mono ?_
  rintro e w185 ⟨rfl, hb⟩
  dsimp only
  first | (rename_i hx; refine hx _ _ ?_; clear hx) | (rename_i hx hx2; refine hx _ _ ?_; clear hx) | (rename_i hx hx2 hx3; refine hx _ _ ?_; clear hx)
  replace HB := Aside0.mk (below_step (by repeat (first | (with_reducible first | exact HB.out | apply below_alloc | apply pw_below_drewN | apply below_drew1) | exact HB.out)) hb)
  clear hb
  go_wp2_with fail
  refine (turn_nil _).mono ?_
  rintro e w190 ⟨rfl, hb⟩
  dsimp only
  first | (rename_i hx; refine hx _ _ ?_; clear hx) | (rename_i hx hx2; refine hx _ _ ?_; clear hx) | (rename_i hx hx2 hx3; refine hx _ _ ?_; clear hx)
  replace HB := Aside0.mk (below_step (by repeat (first | (with_reducible first | exact HB.out | apply below_alloc | apply pw_below_drewN | apply below_drew1) | exact HB.out)) hb)
  clear hb
  go_wp2_with fail
  refine (alive22_calls _).mono ?_
  rintro e w194 ⟨rfl, hb⟩
  dsimp only
  first | (rename_i hx; refine hx _ _ ?_; clear hx) | (rename_i hx hx2; refine hx _ _ ?_; clear hx) | (rename_i hx hx2 hx3; refine hx _ _ ?_; clear hx)
  replace HB := Aside0.mk (below_step (by repeat (first | (with_reducible first | exact HB.out | apply below_alloc | apply pw_below_drewN | apply below_drew1) | exact HB.out)) hb)
  clear hb
  go_wp2
  go_ret
  exact ⟨rfl, HB.out⟩

set_option maxRecDepth 100000 in
set_option maxHeartbeats 2000000 in
theorem turns_walk (v0 : Value) (l : List Int) (at_ y : Int) (w : World) (hr0 : Rd w v0 l) :
    Calls Try.prog 8 #[v0, .int .i64 at_, .int .u8 y] w fun e w' => e = .returned (.bool true) ∧ Below w.heap.size w w' := by
  by_cases hl : 100 < l.length
  · have hl2 : (100 : Int) < l.length := by omega
    obtain ⟨A0, c0, rfl, hc0, hC0⟩ := hr0
    have HB := Aside0.mk (Below.refl w.heap.size w)
    clear hC0 hc0 hl
    go_enter Try.func8, Try.ntmps8
    go_wp2_with (first
      | ((with_reducible refine gate_dst (N := 26) rfl ?_); go_must (((try (refine gate_guard (by rfl) ?_; dsimp only)); refine goesL_ (some 26) rfl rfl Try.func21 (by kernel_rfl) rfl #[] rfl ?hA ?_; (case hA => ((try simp only [List.map_toArray, List.map_cons, List.map_nil]); first | done | rfl)); refine (alive22_calls _).mono ?_; rintro e w26 ⟨rfl, hb⟩; refine ⟨_, rfl, ?_⟩; replace HB := Aside0.mk (below_step (by repeat (first | (with_reducible first | exact HB.out | apply below_alloc | apply pw_below_drewN | apply below_drew1) | exact HB.out)) hb); clear hb))))
    go_ret
    exact ⟨rfl, HB.out⟩
  · by_cases hn : at_ < 0 ∨ (l.length : Int) ≤ at_
    · exact turns_no v0 l at_ y w hr0 (by omega) hn
    · obtain ⟨a, rfl⟩ : ∃ a : Nat, at_ = a := ⟨at_.toNat, by omega⟩
      exact turns_is v0 l a y w hr0 (by omega) (by omega)
end Go.Proofs.Ytlcifnejpejhmaa.K

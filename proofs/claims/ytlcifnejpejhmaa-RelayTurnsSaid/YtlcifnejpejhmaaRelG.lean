/- relay: View. -/
import Derived.Test.YtlcifnejpejhmaaRelF
namespace Go.Proofs.Ytlcifnejpejhmaa.K
open Go.RowKit Go.Proofs.YtlcifnejpejhmaaW.PrintWords Go.Proofs.YtlcifnejpejhmaaW.PrintLast Go.Proofs.YtlcifnejpejhmaaW.PrintMore
set_option linter.unusedVariables false
set_option linter.unusedSimpArgs false

abbrev BK := Kd.slice 5 (Kd.int .u8)
theorem infoB : (Try.prog.info? 45).map (fun i => (i.zero, i.size, i.bytes)) = some (some (.slice none 0 0), 1, 24) := by kernel_rfl

theorem alloc_le (w : World) (o : Obj) : w.heap.size ≤ (w.alloc o).heap.size := (below_alloc (Below.refl _ _) o).size

set_option maxRecDepth 100000 in
set_option maxHeartbeats 8000000 in
theorem rview_calls (g gq : Nat) (col : Nat → Nat) (vw : List It) (qs : List (List It)) (b0 : Nat) (w : World) (hR : Rel w b0 g gq col vw qs) (hv : vw.length ≤ 5000) (hx : ∀ x ∈ vw, x.f0.length ≤ 100000) :
    Calls Try.prog 28 #[.pointer (some ⟨g, 0, none⟩)] w fun e w' => ∃ v, e = .returned v ∧ Kd.R BK 45 w' w.heap.size (fun _ => True) v (vw.map (·.f0)) ∧ Below w.heap.size w w' := by
  obtain ⟨vv, h1, h2⟩ := hR.blk
  obtain ⟨Av, cv, rfl, hcv, hCv⟩ := Kd.R_reads h2
  have k1 : w.cell? ⟨g, 1, none⟩ = some (.slice Av vw.length cv) := (blk_cell h1 1).trans rfl
  have H2 := Aside0.mk h2
  have HX := Aside0.mk hx
  have HB := Aside0.mk (Below.refl w.heap.size w)
  obtain ⟨n, hn⟩ : ∃ n, vw.length = n := ⟨_, rfl⟩
  have HN := Aside0.mk hn
  rw [hn] at k1 hv hcv H2
  clear h1 h2 hCv hx hR hn
  go_enter Try.func28, Try.ntmps28
  go_wp2
  go_loopg [2, 13] n (fun g2 v2 v13 wr => ∃ k : Nat, g2 = n - k ∧ v13 = .int .i64 k ∧ k ≤ n ∧ Aside0 (Kd.R BK 45 wr w.heap.size (fun _ => True) v2 ((vw.map (·.f0)).take k)) ∧ Aside0 (Below w.heap.size w wr))
  case atStart => exact ⟨0, by simp, rfl, Nat.zero_le _, ⟨Kd.R_nil _ _ _ _ _⟩, HB⟩
  case round =>
    clear HB k1
    obtain ⟨k, rfl, rfl, hk, HO, HB⟩ := hrel
    obtain ⟨ys, hys⟩ : ∃ ys, (vw.map (·.f0)).take k = ys := ⟨_, rfl⟩
    have hyl : ys.length = k := by rw [← hys, List.length_take, List.length_map, HN.out]; omega
    have HYS := Aside0.mk hys
    rw [hys] at HO
    obtain ⟨Ao, co, rfl, hco, hCo⟩ := Kd.R_reads HO.out
    rw [hyl] at HO ⊢
    have HYL := Aside0.mk hyl
    clear hCo hco hys hyl
    by_cases hkn : k < n
    · have hk2 : (k : Int) < n := by omega
      have hk0 : (0 : Int) ≤ k := by omega
      have hkl : k < vw.length := by rw [HN.out]; exact hkn
      obtain ⟨gv, cap, vb, he, _, hc0, hc1, hb⟩ := qr_item (Kd.R_below H2.out HB.out) k hkl
      have hAv : Av = some ⟨gv, 0, none⟩ := by injection he
      subst hAv
      obtain ⟨x, hx⟩ : ∃ x, vw[k] = x := ⟨_, rfl⟩
      rw [hx] at hc1 hb
      have hxl : x.f0.length ≤ 100000 := by rw [← hx]; exact HX.out _ (List.getElem_mem hkl)
      have HXX := Aside0.mk hx
      obtain ⟨Ab, cb, rfl, hcb, hCb⟩ := Kd.R_reads hb
      have HRb : Aside0 (Rd wr (.slice Ab x.f0.length cb) x.f0) := ⟨⟨Ab, cb, rfl, hcb, hCb⟩⟩
      have HXL := Aside0.mk hxl
      clear hb hCb hcb hx hxl he
      go_wp2_with (first
        | (go_at_call 63; go_must ((refine (bclone_calls (.slice Ab x.f0.length cb) x.f0 _ (by exact HRb.out.below (below_alloc (Below.refl _ _) _)) HXL.out).mono ?_; rintro e w20 ⟨v20, rfl, ho, hb⟩; obtain ⟨A20, c20, rfl, hc20, hC20⟩ := ho.rd; clear hC20; have HO20 := Aside0.mk ho; have HS20 := Aside0.mk hb.size; have HB20 : Aside0 (Below w.heap.size w w20) := ⟨below_step (below_alloc HB.out _) hb⟩; have HR20 := Aside0.mk (Kd.R_below (Kd.R_alloc HO.out _) hb); clear ho hb)))
        | ((with_reducible refine gate_builtin (b := .append) (xs := #[.tmp 17, .tmp 21]) rfl ?_); at_builtin; go_must ((refine Kd.R_append BK (w0 := w) w.heap.size rfl (.tmp 17) (.tmp 21) 41 45 (.slice none 0 0) 24 rfl Try.underlying41 infoB rfl (by decide) (by decide) _ ys x.f0 [.slice A20 x.f0.length c20] (fun _ => True) (fun j => wr.heap.size ≤ j) rfl rfl ?hM ?hokp (fun _ _ => trivial) HR20.out HB20.out HB20.out.size ?hl ?_; (case hM => exact Kd.M_row (Kd.R_lower (Kd.R_mono (Kd.R_bound HO20.out) (fun j hj => Nat.le_trans (alloc_le wr _) hj.2.1)) (Nat.le_trans HB.out.size (alloc_le wr _)))); (case hokp => exact fun j hj => ⟨trivial, fun e => by have h1 := Kd.R_lt HO.out j e.symm; omega⟩); (case hl => (have := HYL.out; omega)); intro v22 w22 ho hb hg hat; have HO22 := Aside0.mk ho; have HB22 := Aside0.mk hb; clear ho hb hg hat))))
      go_roundg (n - (k + 1))
      case measure => omega
      case rel => exact ⟨k + 1, rfl, by go_num, by omega, ⟨by
        have e : (vw.map (·.f0)).take (k + 1) = (vw.map (·.f0)).take k ++ [x.f0] := by
          rw [List.take_add_one, List.getElem?_map, List.getElem?_eq_getElem hkl, HXX.out]
          rfl
        rw [e, HYS.out]
        exact HO22.out⟩, HB22⟩
    · obtain rfl : k = n := by omega
      go_wp2
      go_ret
      refine ⟨_, rfl, ?_, HB.out⟩
      have e : (vw.map (·.f0)).take k = vw.map (·.f0) := List.take_of_length_le (by rw [List.length_map, HN.out]; exact Nat.le_refl _)
      have h := HO.out
      rw [← HYS.out, e] at h
      exact h
end Go.Proofs.Ytlcifnejpejhmaa.K

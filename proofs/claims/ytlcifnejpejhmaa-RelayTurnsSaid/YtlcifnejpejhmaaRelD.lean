/- relay: New, of, Waits, Put, Next, View. -/
import Derived.Test.YtlcifnejpejhmaaRelC
namespace Go.Proofs.Ytlcifnejpejhmaa.K
open Go.RowKit Go.Proofs.YtlcifnejpejhmaaW.PrintWords Go.Proofs.YtlcifnejpejhmaaW.PrintLast Go.Proofs.YtlcifnejpejhmaaW.PrintMore
set_option linter.unusedVariables false
set_option linter.unusedSimpArgs false

theorem infoQ : (Try.prog.info? 97).map (fun i => (i.zero, i.size, i.bytes)) = some (some (.agg #[.slice none 0 0]), 1, 24) := by kernel_rfl
set_option maxRecDepth 100000 in
/-- 'make([]queue, n)'. -/
theorem make_queues {w : World} {ops : Array Oper} {rest : List Oper} {o : Oper} {a : Act} {Q : Exit → Act → World → Prop} (hg : o.guard = none) (l c : Operand) (hop : o.op = Op.makeSlice 94 l c)
    (n : Nat) (hl : a.eval l = .int .i64 n) (hc : a.eval c = .int .i64 n) (hn : n ≤ 1000)
    (hK : ∀ g w', g = w.heap.size → w'.heap[g]? = some (.cells (List.replicate n (.slice none 0 0)).toArray 97 (0, 0)) → Below w.heap.size w w' → wpList Try.prog ops Q rest (a.put o.dst (.slice (some ⟨g, 0, none⟩) n n)) w') :
    wpList Try.prog ops Q (o :: rest) a w := by
  obtain ⟨i, h2, h3, h4, h5⟩ := info_parts infoQ
  refine wpList_plain hg fun K hK' => ?_
  have hr := run_make (P := Try.prog) w 94 97 i (.agg #[.slice none 0 0]) Try.underlying94 h2 h3 .i64 .i64 n n (by omega) (by omega) (by rw [h5]; omega) (by omega)
  unfold Oper.wp
  simp [execOp, hop, hl, hc, hr, Result.andThen]
  refine hK' _ _ (hK _ _ rfl ?_ ((Below.refl _ _).alloc (Nat.le_refl _) _))
  rw [heap_alloc_new, h4]
  congr 2
  apply Array.toList_inj.1
  rw [Nat.mul_one, show (Value.agg #[.slice none 0 0]).cells = #[.slice none 0 0] from rfl, toList_madeCells_one]

set_option maxHeartbeats 800000 in
theorem rnew_ok (n : Nat) (w0 w : World) (hB : Below w0.heap.size w0 w) (h1 : 1 ≤ n) (h8 : n ≤ 8) :
    Calls Try.prog 22 #[.int .i64 n] w fun e w' => ∃ g gq, e = .returned (.tuple #[.pointer (some ⟨g, 0, none⟩), .int .i64 0]) ∧ Rel w' w0.heap.size g gq (fun _ => 0) [] (List.replicate n []) ∧ Below w0.heap.size w0 w' ∧ Below w.heap.size w w' := by
  have HB := Aside0.mk hB
  have HW := Aside0.mk (Below.refl w.heap.size w)
  have h1' : (1 : Int) ≤ n := by omega
  have h8' : (n : Int) ≤ 8 := by omega
  have hd1 : decide ((n : Int) < 1) = false := decide_eq_false (by omega)
  have hd8 : decide ((8 : Int) < n) = false := decide_eq_false (by omega)
  have H8 := Aside0.mk h8
  clear hB h1 h8
  go_enter Try.func22, Try.ntmps22
  go_wp2_with (first
    | ((with_reducible refine gate_dst (N := 11) rfl ?_); go_must ((refine make_queues rfl _ _ rfl n rfl rfl (by have := H8.out; omega) ?_; intro gq w11 hge hbk hb; have HGQ : Aside0 (w.heap.size ≤ gq) := ⟨by rw [hge]; exact HW.out.size⟩; have HK := Aside0.mk hbk; replace HW := Aside0.mk (below_step HW.out hb); clear hge hbk hb))))
  have hb : Below w.heap.size w (w11.alloc (.cells #[.slice (some ⟨gq, 0, none⟩) n n, .slice none 0 0] 99)) := below_alloc HW.out _
  refine bodyPost_ret (v := .tuple #[.pointer (some ⟨w11.heap.size, 0, none⟩), .int .i64 0]) (by simp [results, Try.results22, go_sem]) rfl ?_
  refine ⟨_, gq, rfl, ⟨⟨_, by simpa using blk_new w11 (.cells #[.slice (some ⟨gq, 0, none⟩) n n, .slice none 0 0] 99), Kd.R_nil _ _ _ _ _⟩, ⟨_, blk_alloc HK.out _, by simp, fun i hi => ⟨.slice none 0 0, by simp at hi; simp [hi], ?_⟩⟩, Nat.le_trans HB.out.size (Nat.le_trans HW.out.size (Nat.le_refl _)), Nat.le_trans HB.out.size HGQ.out⟩, HB.out.trans (hb.mono HB.out.size), hb⟩
  simp only [List.getElem_replicate]
  exact Kd.R_nil _ _ _ _ _

set_option maxHeartbeats 800000 in
theorem of_in (g gq n i : Nat) (vv : Value) (w : World) (hg : w.heap[g]? = some (.cells #[.slice (some ⟨gq, 0, none⟩) n n, vv] 99 (0, 0))) (hi : i < n) :
    Calls Try.prog 58 #[.pointer (some ⟨g, 0, none⟩), .int .i64 i] w fun e w' => e = .returned (.pointer (some ⟨gq, i, none⟩)) ∧ Drawn0 w w' := by
  have c0 : w.cell? ⟨g, 0, none⟩ = some (.slice (some ⟨gq, 0, none⟩) n n) := (blk_cell hg 0).trans rfl
  have h0 : (0 : Int) ≤ i := by omega
  have h1 : (i : Int) < n := by omega
  have hd0 : decide ((i : Int) < 0) = false := decide_eq_false (by omega)
  have hd1 : decide ((n : Int) ≤ i) = false := decide_eq_false (by omega)
  clear hg
  go_enter Try.func58, Try.ntmps58
  go_wp2
  go_ret
  exact ⟨rfl, by repeat (first | exact Drawn0.refl _ | apply Drawn0.step)⟩

set_option maxHeartbeats 800000 in
theorem waits_in (g gq i : Nat) (col : Nat → Nat) (b0 : Nat) (vw : List It) (qs : List (List It)) (w : World) (hR : Rel w b0 g gq col vw qs) (hi : i < qs.length) :
    Calls Try.prog 26 #[.pointer (some ⟨g, 0, none⟩), .int .i64 i] w fun e w' => e = .returned (.int .i64 qs[i].length) ∧ Drawn0 w w' := by
  obtain ⟨⟨vv, h1, h2⟩, ⟨cs, h3, h4, h5⟩, h6⟩ := hR
  obtain ⟨v, hv, hr⟩ := h5 i hi
  obtain ⟨A, c, rfl, hc, hC⟩ := Kd.R_reads hr
  have c0 : w.cell? ⟨gq, i, none⟩ = some (.slice A qs[i].length c) := (blk_cell h3 i).trans hv
  have H1 := Aside0.mk h1
  clear h1 h2 h3 h5 h6 hr hC hv
  generalize qs[i].length = m at c0 hc ⊢
  go_enter Try.func26, Try.ntmps26
  go_wp2_with (first
    | ((with_reducible refine gate_dst (N := 8) rfl ?_); go_must (((try (refine gate_guard (by rfl) ?_; dsimp only)); refine goesL_ (some 8) rfl rfl Try.func58 (by kernel_rfl) rfl #[.pointer (some ⟨g, 0, none⟩), .int .i64 i] rfl ?hA ?_; (case hA => ((try simp only [List.map_toArray, List.map_cons, List.map_nil]); first | done | rfl)); refine (of_in g gq _ i vv _ H1.out hi).mono ?_; rintro e w8 ⟨rfl, ⟨m8, rfl⟩⟩; refine ⟨_, rfl, ?_⟩; skip))))
  go_ret
  exact ⟨rfl, by repeat (first | exact Drawn0.refl _ | apply Drawn0.step)⟩
end Go.Proofs.Ytlcifnejpejhmaa.K

/- slices.Compact of stamps: the walk. -/
import Derived.Test.YtfingknhciogkaaSsE
namespace Go.Proofs.Ytfingknhciogkaa.K
open Go.RowKit Go.Sort Go.Shelf Go.Proofs.YtfingknhciogkaaW.PrintWords Go.Proofs.YtfingknhciogkaaW.PrintLast Go.Proofs.YtfingknhciogkaaW.PrintMore
set_option linter.unusedVariables false
set_option linter.unusedSimpArgs false

def zs2 (n : Nat) : List Value := (Builtin.zeroCells #[.int .i64 0, .int .i64 0] n).toList
theorem zs2_length (n : Nat) : (zs2 n).length = n * 2 := by simp [zs2, Builtin.zeroCells]
theorem zs2_one (n : Nat) : ∀ v ∈ zs2 n, v.oneCell' = true := by
  intro v hv
  simp only [zs2, Builtin.zeroCells, Array.toList_map, List.mem_map] at hv
  obtain ⟨i, _, rfl⟩ := hv
  have : i % (#[Value.int .i64 0, Value.int .i64 0] : Array Value).size = 0 ∨ i % (#[Value.int .i64 0, Value.int .i64 0] : Array Value).size = 1 := by simp; omega
  rcases this with h | h <;> rw [h] <;> rfl
theorem run_clear_st (W : World) (b o n c : Nat) (cur : Array Value) (hn : 0 < n) (hb : W.heap[b]? = some (.cells cur 23 (0, 0))) (hs : o + n * 2 ≤ cur.size) :
    (Builtin.clear_ #[24] 0 #[.slice (some ⟨b, o, none⟩) n c]).run Try.prog W = .ok (.tuple #[]) (W.setCells b o (zs2 n)) := by
  obtain ⟨i0, hi, hz0, _, _⟩ := infoS
  have hv : ∀ w, (zeroValue 23).run Try.prog w = .ok (.agg #[.int .i64 0, .int .i64 0]) w := by
    intro w
    simp [zeroValue, typeInfo, hi, hz0]
  have hst := run_storeCells_cells (P := Try.prog) b o (zs2 n) 0 W (by
    intro j hj
    rw [zs2_length] at hj
    rw [blk_cell hb, Nat.add_zero, Array.getElem?_eq_getElem (by omega)]
    rfl) (fun j _ => blk_frozen hb _) (zs2_one n)
  rw [Nat.add_zero] at hst
  obtain ⟨m, rfl⟩ : ∃ m, n = m + 1 := ⟨n - 1, by omega⟩
  have e : (Value.agg #[.int .i64 0, .int .i64 0]).cells = #[.int .i64 0, .int .i64 0] := by simp [Value.cells]
  have hst2 : Sem.run Try.prog (storeCells ⟨b, o, none⟩ (Builtin.zeroCells (Value.agg #[.int .i64 0, .int .i64 0]).cells (m + 1)).toList) W = .ok () (W.setCells b o (zs2 (m + 1))) := by rw [e]; exact hst
  simp only [Builtin.clear_]
  simp [run_underlying Try.underlying24, hv, hst2]
theorem Cw.cleared {W : World} {b cap m : Nat} {l zs : List St} (h : Cw W b cap m l zs) (n : Nat) (hln : l.length + n = zs.length) : Rw (W.setCells b (l.length * 2) (zs2 n)) b cap l := by
  obtain ⟨h1, h2, cur, hb, hs, hl, _⟩ := h
  obtain ⟨cur', hb', hs'⟩ : ∃ cur', (W.setCells b (l.length * 2) (zs2 n)).heap[b]? = some (.cells cur' 23 (0, 0)) ∧ cur'.size = cur.size := by
    have := setCells_row (g := b) (e := 23) (zs2 n) (l.length * 2) W cur hb (by rw [zs2_length]; omega)
    obtain ⟨cur', q1, q2, _⟩ := this
    exact ⟨cur', q1, q2⟩
  refine ⟨by omega, h2, cur', hb', by rw [hs', hs], fun j x hx => ?_⟩
  obtain ⟨f0, f1⟩ := hl j x hx
  have hj := (List.getElem?_eq_some_iff.1 hx).1
  rw [← blk_cell hb] at f0 f1
  rw [← blk_cell hb', ← blk_cell hb', World.cell?_setCells_out b _ _ _ _ (fun _ _ => .inl (by show j * 2 < l.length * 2; omega)), World.cell?_setCells_out b _ _ _ _ (fun _ _ => .inl (by show j * 2 + 1 < l.length * 2; omega))]
  exact ⟨f0, f1⟩
theorem below_setCells (W : World) (b o base : Nat) (vs : List Value) (hb : base ≤ b) : RowKit.Below base W (W.setCells b o vs) := by
  obtain ⟨h1, h2, h3, h4⟩ := setCells_same b vs o W
  exact ⟨h1, h2, h3, by rw [h4]; exact Nat.le_refl _, fun k hk => setCells_far vs o k (by omega)⟩

theorem Cw.put' {W : World} {b cap m q : Nat} {l zs : List St} (h : Cw W b cap m l zs) (hq : l.length = q) (hl : q ≤ m) (hm : m < zs.length) (x : St) : Cw ((W.setCell ⟨b, q * 2, none⟩ (.int .i64 x.f0)).setCell ⟨b, q * 2 + 1, none⟩ (.int .i64 x.f1)) b cap (m + 1) (l ++ [x]) zs := by
  subst hq
  exact h.put hl hm x
theorem two_below {s : Nat} {w W : World} (h : RowKit.Below s w W) (q i j : Nat) (hq : s ≤ q) (u v : Value) : RowKit.Below s w ((W.setCell ⟨q, i, none⟩ u).setCell ⟨q, j, none⟩ v) := (h.setCell (p := ⟨q, i, none⟩) hq _).setCell (p := ⟨q, j, none⟩) hq _
theorem Cw.room {W : World} {b cap m : Nat} {l zs : List St} (h : Cw W b cap m l zs) (q : Nat) (hq : q < cap) : (∃ u, W.cell? ⟨b, q * 2, none⟩ = some u) ∧ (∃ u, W.cell? ⟨b, q * 2 + 1, none⟩ = some u) ∧ W.frozen? ⟨b, q * 2, none⟩ = false ∧ W.frozen? ⟨b, q * 2 + 1, none⟩ = false := by
  obtain ⟨_, _, cur, hb, hs, _, _⟩ := h
  exact ⟨⟨_, (blk_cell hb _).trans (Array.getElem?_eq_getElem (by omega))⟩, ⟨_, (blk_cell hb _).trans (Array.getElem?_eq_getElem (by omega))⟩, blk_frozen hb _, blk_frozen hb _⟩
theorem dd_one (zs : List St) : dd (zs.take 1) = zs.take 1 := by
  match zs with
  | [] => rfl
  | x :: r => simp [dd, ddF]
theorem nat_pred {k : Nat} (h : 1 ≤ k) (h9 : k ≤ 200000) : ∃ p : Nat, k = p + 1 ∧ IntKind.i64.wrap ((k : Int) - 1) = (p : Int) := by
  obtain ⟨p, rfl⟩ : ∃ p, k = p + 1 := ⟨k - 1, by omega⟩
  refine ⟨p, rfl, ?_⟩
  rw [i64_w]
  unfold wrap64
  omega
set_option maxRecDepth 100000 in
set_option maxHeartbeats 8000000 in
theorem compact_calls (b cap n base : Nat) (zs : List St) (w : World) (h : Rw w b cap zs) (hn : zs.length = n) (hl : n ≤ 100000) (hb : base ≤ b) :
    Calls Try.prog 28 #[.slice (some ⟨b, 0, none⟩) n cap] w fun e w' => ∃ k, e = .returned (.slice (some ⟨b, 0, none⟩) k cap) ∧ (dd zs).length = k ∧ Rw w' b cap (dd zs) ∧ RowKit.Below base w w' := by
  have hcap : n ≤ cap := by rw [← hn]; exact h.1
  have hcap2 : (n : Int) ≤ cap := by omega
  have hcm : cap ≤ 9223372036854775807 := h.2.1
  have HN := Aside0.mk hn
  have H := Aside0.mk h
  by_cases h2 : n < 2
  · have h2' : (n : Int) < 2 := by omega
    have hdd : dd zs = zs := by
      match zs, hn with
      | [], _ => rfl
      | [x], _ => simp [dd, ddF]
      | x :: y :: r, hn => simp at hn; omega
    clear h hn
    go_enter Try.func28, Try.ntmps28
    go_wp2
    go_ret
    exact ⟨_, rfl, by rw [hdd]; exact HN.out, by rw [hdd]; exact H.out, by repeat (first | exact Below.refl _ _ | apply pw_below_drewN)⟩
  · have h2' : ¬ (n : Int) < 2 := by omega
    clear h hn
    go_enter Try.func28, Try.ntmps28
    go_wp2
    go_loopg [3] (n - 1) (fun g3 v3 wr => ∃ k : Nat, g3 = n - k ∧ v3 = .int .i64 k ∧ 1 ≤ k ∧ k ≤ n ∧ Aside0 (dd (zs.take k) = zs.take k) ∧ Aside0 (Rw wr b cap zs) ∧ Aside0 (RowKit.Below base w wr))
    case atStart => exact ⟨1, by omega, rfl, by omega, by omega, ⟨dd_one zs⟩, H, ⟨by repeat (first | exact Below.refl _ _ | apply pw_below_drewN)⟩⟩
    case round =>
      obtain ⟨k, rfl, rfl, hk1, hkn, HDD, HR, HB⟩ := hrel
      by_cases hlt : k < n
      · have hlt2 : (k : Int) < n := by omega
        have hk0 : (0 : Int) ≤ k := by omega
        obtain ⟨p, hp, hwp⟩ := nat_pred hk1 (by omega)
        have hp0 : (0 : Int) ≤ p := by omega
        have hpn : (p : Int) < n := by omega
        obtain ⟨x, hx⟩ : ∃ x, zs[k]? = some x := ⟨_, List.getElem?_eq_getElem (by have := HN.out; omega)⟩
        obtain ⟨y, hy⟩ : ∃ y, zs[p]? = some y := ⟨_, List.getElem?_eq_getElem (by have := HN.out; omega)⟩
        obtain ⟨x0, x1⟩ := HR.out.cells k x hx
        obtain ⟨y0, y1⟩ := HR.out.cells p y hy
        have HX := Aside0.mk hx
        have HY := Aside0.mk hy
        have HP := Aside0.mk hp
        clear hx hy hp
        by_cases hxy : x = y
        · subst hxy
          have e0 : (x.f0 == x.f0) = true := by simp
          have e1 : (x.f1 == x.f1) = true := by simp
          go_wp2
          go_quiet (fail)
          go_wp2
          obtain ⟨m, hm⟩ : ∃ m, m = n - k := ⟨_, rfl⟩
          rw [← hm]
          have hkm : k + m = n := by omega
          obtain ⟨cm, hcmk⟩ : ∃ cm, cm = cap - k := ⟨_, rfl⟩
          rw [← hcmk]
          have hmcm : m ≤ cm := by omega
          have hmcm2 : (m : Int) ≤ cm := by omega
          clear hcmk
          have hdt : dd (zs.take (k + 1)) = zs.take k := by
            rw [take_next HX.out, dd_snoc _ _ (by rw [HP.out]; exact take_last HY.out), HDD.out]
          have HDT := Aside0.mk hdt
          clear hdt x0 x1 y0 y1 e0 e1 hm
          go_loopg [3, 5] (m - 1) (fun g5 v3 v5 wz => ∃ (q k2 : Nat), g5 = m - k2 ∧ v3 = .int .i64 q ∧ v5 = .int .i64 k2 ∧ 1 ≤ k2 ∧ k2 ≤ m ∧ Aside0 ((dd (zs.take (k + k2))).length = q) ∧ q + 1 ≤ k + k2 ∧ 1 ≤ q ∧ Aside0 (Cw wz b cap (k + k2 - 1) (dd (zs.take (k + k2))) zs) ∧ Aside0 (RowKit.Below base w wz))
          case atStart => exact ⟨k, 1, by omega, rfl, rfl, by omega, by omega, ⟨by rw [HDT.out, List.length_take]; have := HN.out; omega⟩, by omega, by omega, ⟨by rw [HDT.out]; exact HR.out.cw k _⟩, ⟨by repeat (first | exact HB.out | apply pw_below_drewN)⟩⟩
          case round =>
            clear HR HB HX HY HP
            obtain ⟨q, k2, rfl, rfl, rfl, hk21, hk2m, HQ, hqk, hq1, HW, HB⟩ := hrel
            have hqn : q < n := by omega
            have hqn2 : (q : Int) < n := by omega
            have hq0 : (0 : Int) ≤ q := by omega
            by_cases hlt3 : k2 < m
            · have hlt4 : (k2 : Int) < m := by omega
              have hk20 : (0 : Int) ≤ k2 := by omega
              obtain ⟨p2, hp2, hwp2⟩ := nat_pred hk21 (by omega)
              have hp20 : (0 : Int) ≤ p2 := by omega
              have hp2n : (p2 : Int) < m := by omega
              obtain ⟨x, hx⟩ : ∃ x, zs[k + k2]? = some x := ⟨_, List.getElem?_eq_getElem (by have := HN.out; omega)⟩
              obtain ⟨y, hy⟩ : ∃ y, zs[k + p2]? = some y := ⟨_, List.getElem?_eq_getElem (by have := HN.out; omega)⟩
              obtain ⟨x0, x1⟩ := HW.out.cell (k + k2) x (by omega) hx
              obtain ⟨y0, y1⟩ := HW.out.cell (k + p2) y (by omega) hy
              rw [Nat.add_mul] at x0 x1 y0 y1
              have HX := Aside0.mk hx
              have HY : Aside0 ((zs.take (k + k2)).getLast? = some y) := ⟨by rw [hp2, show k + (p2 + 1) = k + p2 + 1 by omega]; exact take_last hy⟩
              have HP2 := Aside0.mk hp2
              clear hx hy hp2
              by_cases hxy : x = y
              · subst hxy
                have e0 : (x.f0 == x.f0) = true := by simp
                have e1 : (x.f1 == x.f1) = true := by simp
                have HT : Aside0 (dd (zs.take (k + (k2 + 1))) = dd (zs.take (k + k2))) := ⟨by rw [show k + (k2 + 1) = k + k2 + 1 by omega, take_next HX.out, dd_snoc _ _ HY.out]⟩
                go_wp2
                go_quiet (fail)
                go_wp2
                go_roundg (m - (k2 + 1))
                case measure => omega
                case rel => exact ⟨q, k2 + 1, rfl, rfl, by go_num, by omega, by omega, ⟨by rw [HT.out]; exact HQ.out⟩, by omega, hq1, ⟨by rw [HT.out, show k + (k2 + 1) - 1 = k + k2 - 1 + 1 by omega]; exact HW.out.on⟩, ⟨by repeat (first | exact HB.out | apply pw_below_drewN)⟩⟩
              · have HXY := Aside0.mk hxy
                have HT : Aside0 (dd (zs.take (k + (k2 + 1))) = dd (zs.take (k + k2)) ++ [x]) := ⟨by
                  rw [show k + (k2 + 1) = k + k2 + 1 by omega, take_next HX.out, dd_snoc' _ _ (fun h => HXY.out (by rw [HY.out] at h; injection h with h; exact h.symm))]⟩
                obtain ⟨⟨u0, hu0⟩, ⟨u1, hu1⟩, hf0, hf1⟩ := HW.out.room q (by omega)
                have hqc : q < cap := by omega
                clear hxy
                obtain ⟨a0, a1⟩ := x
                obtain ⟨b0, b1⟩ := y
                dsimp only at x0 x1 y0 y1
                by_cases h0 : a0 = b0
                · subst h0
                  have h1 : ¬ a1 = b1 := fun h => HXY.out (by rw [h])
                  go_wp2
                  go_quiet (fail)
                  go_wp2
                  go_roundg (m - (k2 + 1))
                  case measure => omega
                  case rel => exact ⟨q + 1, k2 + 1, rfl, by go_num, by go_num, by omega, by omega, ⟨by rw [HT.out, List.length_append, HQ.out]; rfl⟩, by omega, by omega, ⟨by rw [HT.out, show k + (k2 + 1) - 1 = k + k2 - 1 + 1 by omega]; exact (HW.out.drewN _).put' HQ.out (by omega) (by have := HN.out; omega) ⟨a0, a1⟩⟩, ⟨two_below (by repeat (first | exact HB.out | apply pw_below_drewN)) b (q * 2) (q * 2 + 1) hb _ _⟩⟩
                · skip
                  go_wp2
                  go_quiet (fail)
                  go_wp2
                  go_roundg (m - (k2 + 1))
                  case measure => omega
                  case rel => exact ⟨q + 1, k2 + 1, rfl, by go_num, by go_num, by omega, by omega, ⟨by rw [HT.out, List.length_append, HQ.out]; rfl⟩, by omega, by omega, ⟨by rw [HT.out, show k + (k2 + 1) - 1 = k + k2 - 1 + 1 by omega]; exact (HW.out.drewN _).put' HQ.out (by omega) (by have := HN.out; omega) ⟨a0, a1⟩⟩, ⟨two_below (by repeat (first | exact HB.out | apply pw_below_drewN)) b (q * 2) (q * 2 + 1) hb _ _⟩⟩
            · have hk2e : k2 = m := by omega
              subst hk2e
              have ht : zs.take (k + k2) = zs := by rw [hkm, ← HN.out]; exact List.take_length
              rw [ht] at HQ HW
              have HKM := Aside0.mk hkm
              have hqc : (q : Int) < cap := by omega
              have hqc2 : q < cap := by omega
              have hqc3 : ¬ cap = q := by omega
              have hqn3 : (q : Int) ≤ n := by omega
              have hqc4 : (q : Int) ≤ cap := by omega
              have hq2 : ¬ q * 2 = 0 := by omega
              have hclr : (Builtin.clear_ #[24] 0 #[.slice (some ⟨b, q * 2, none⟩) (n - q) (cap - q)]).run Try.prog wr = .ok (.tuple #[]) (wr.setCells b (q * 2) (zs2 (n - q))) := by
                obtain ⟨_, _, cur, hbk, hbs, _⟩ := HW.out
                exact run_clear_st wr b (q * 2) (n - q) (cap - q) cur (by omega) hbk (by omega)
              have hz : Rw (wr.setCells b (q * 2) (zs2 (n - q))) b cap (dd zs) := by
                have := HW.out.cleared (n - q) (by rw [HQ.out]; have := HN.out; omega)
                rw [HQ.out] at this
                exact this
              have HZ := Aside0.mk hz
              clear hz hkm ht
              go_wp2
              go_ret
              exact ⟨_, rfl, HQ.out, HZ.out, HB.out.trans (below_setCells wr b (q * 2) base (zs2 (n - q)) hb)⟩
        · have HXY := Aside0.mk hxy
          have HT : Aside0 (dd (zs.take (k + 1)) = zs.take (k + 1)) := ⟨by
            have e := take_last HY.out
            rw [← HP.out] at e
            rw [take_next HX.out, dd_snoc' _ _ (fun h => HXY.out (by rw [e] at h; injection h with h; exact h.symm)), HDD.out]⟩
          clear hxy
          obtain ⟨a0, a1⟩ := x
          obtain ⟨b0, b1⟩ := y
          dsimp only at x0 x1 y0 y1
          by_cases h0 : a0 = b0
          · subst h0
            have h1 : ¬ a1 = b1 := fun h => HXY.out (by rw [h])
            go_wp2
            go_quiet (fail)
            go_wp2
            go_roundg (n - (k + 1))
            case measure => omega
            case rel => exact ⟨k + 1, rfl, by go_num, by omega, by omega, HT, ⟨HR.out⟩, ⟨by repeat (first | exact HB.out | apply pw_below_drewN)⟩⟩
          · skip
            go_wp2
            go_quiet (fail)
            go_wp2
            go_roundg (n - (k + 1))
            case measure => omega
            case rel => exact ⟨k + 1, rfl, by go_num, by omega, by omega, HT, ⟨HR.out⟩, ⟨by repeat (first | exact HB.out | apply pw_below_drewN)⟩⟩
      · have hlt2 : ¬ (k : Int) < n := by omega
        have hkn2 : k = n := by omega
        have ht : zs.take k = zs := by rw [hkn2, ← HN.out]; exact List.take_length
        have hdz : dd zs = zs := by
          have := HDD.out
          rw [ht] at this
          exact this
        have HDZ := Aside0.mk hdz
        clear hdz ht
        go_wp2
        go_ret
        exact ⟨_, rfl, by rw [HDZ.out]; exact HN.out, by rw [HDZ.out]; exact HR.out, by repeat (first | exact HB.out | apply pw_below_drewN)⟩
end Go.Proofs.Ytfingknhciogkaa.K

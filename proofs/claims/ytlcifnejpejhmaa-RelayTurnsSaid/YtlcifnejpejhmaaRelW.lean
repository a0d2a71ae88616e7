/- cachettelaw22.RelayOnce: the walk. -/
import Derived.Test.YtlcifnejpejhmaaRelI
namespace Go.Proofs.Ytlcifnejpejhmaa.K
open Go.RowKit Go.Proofs.YtlcifnejpejhmaaW.PrintWords Go.Proofs.YtlcifnejpejhmaaW.PrintLast Go.Proofs.YtlcifnejpejhmaaW.PrintMore
set_option linter.unusedVariables false
set_option linter.unusedSimpArgs false

/-- Who puts. -/
def ownr (n x : Int) : Int := Int.tmod (Int.tmod x n + n) n
theorem ownr_in {n x : Int} (hn : 1 ≤ n) : 0 ≤ ownr n x ∧ ownr n x < n := by
  unfold ownr
  have h1 : -n < Int.tmod x n ∧ Int.tmod x n < n := by
    constructor
    · have := Int.lt_tmod_of_pos x (show 0 < n by omega)
      omega
    · exact Int.tmod_lt_of_pos x (by omega)
  rw [Int.tmod_eq_emod_of_nonneg (by omega)]
  exact ⟨Int.emod_nonneg _ (by omega), Int.emod_lt_of_pos _ (by omega)⟩

theorem rnext_cons (g gq i : Nat) (col : Nat → Nat) (vw : List It) (qs : List (List It)) (x : It) (r : List It) (w0 w : World) (hR : Rel w w0.heap.size g gq col vw qs) (hi : i < qs.length) (he : qs[i] = x :: r) (hq : qs[i].length ≤ 100000) (hB : Below w0.heap.size w0 w) :
    Calls Try.prog 24 #[.pointer (some ⟨g, 0, none⟩), .int .i64 i] w fun e w' => ∃ vb, e = .returned (.tuple #[vb, .bool true]) ∧
      Kd.R (Kd.int .u8) 5 w' w0.heap.size (fun _ => True) vb x.f0 ∧ (∃ col', Rel w' w0.heap.size g gq col' vw (qs.set i r)) ∧ Below w0.heap.size w0 w' ∧ FrB w w' := by
  refine (rnext_ok g gq i col vw qs w0 w hR hi (by rw [he]; simp) hq hB).mono ?_
  rintro e w' ⟨vb, rfl, ho, ⟨c, hr⟩, hb, hf⟩
  have e0 : qs[i][0]'(by rw [he]; simp) = x := by simp [he]
  rw [e0] at ho
  have e1 : qs[i].eraseIdx 0 = r := by rw [he]; rfl
  rw [e1] at hr
  exact ⟨vb, rfl, ho, ⟨c, hr⟩, hb, hf⟩
theorem qsOf_most (n w : Nat) (zs : List (List Int × Nat)) : ∀ q ∈ qsOf n w zs, q.length ≤ zs.length := by
  intro q hq
  unfold qsOf at hq
  obtain ⟨j, _, rfl⟩ := List.mem_map.1 hq
  split
  · simp
  · exact fQ_len _ _
theorem fV_snoc (zs : List (List Int × Nat)) (z : List Int × Nat) : fV (zs ++ [z]) = fV zs ++ [⟨z.1, false⟩] := by simp [fV]
theorem take_next {zs : List (List Int × Nat)} {i : Nat} {z : List Int × Nat} (h : i < zs.length) (e : zs[i] = z) : zs.take (i + 1) = zs.take i ++ [z] := by
  rw [List.take_add_one, List.getElem?_eq_getElem h, e]
  rfl
theorem drop_next {zs : List (List Int × Nat)} {i : Nat} {z : List Int × Nat} (h : i < zs.length) (e : zs[i] = z) : zs.drop i = z :: zs.drop (i + 1) := by
  rw [List.drop_eq_getElem_cons h, e]
theorem qsOf_self {n k : Nat} {zs : List (List Int × Nat)} (h : k < n) : (qsOf n k zs).set k (fQ zs k) = qsOf n k zs := by
  apply List.ext_getElem (by rw [List.length_set])
  intro j h1 h2
  by_cases hj : j = k
  · subst hj
    rw [List.getElem_set_self, qsOf_get, if_neg (by omega)]
  · rw [List.getElem_set_ne (Ne.symm hj)]
theorem wrap_ownr {n x : Int} (h1 : 1 ≤ n) (h8 : n ≤ 8) : IntKind.i64.wrap (Int.tmod x n + n) = Int.tmod x n + n := by
  have := Int.lt_tmod_of_pos x (show 0 < n by omega)
  have := Int.tmod_lt_of_pos x (show 0 < n by omega)
  simp [IntKind.wrap, IntKind.bits, IntKind.signed]
  omega

set_option maxRecDepth 100000 in
set_option maxHeartbeats 16000000 in
theorem once_walk (n : Int) (A1 A2 : Option Addr) (c1 c2 : Nat) (ws : List Int) (ls : List (List Int)) (w : World) (h1 : ReadsInt w .i64 A1 ws.length ws) (hc1 : ws.length ≤ c1) (h2 : Kd.C BK w A2 ls.length ls) (hc2 : ls.length ≤ c2) :
    Calls Try.prog 6 #[.int .i64 n, .slice A1 ws.length c1, .slice A2 ls.length c2] w fun e w' => e = .returned (.bool true) ∧ Below w.heap.size w w' := by
  have HB := Aside0.mk (Below.refl w.heap.size w)
  have H1 := Aside0.mk h1
  have H2 := Aside0.mk h2
  have hm1 := h1.2.1
  have hm2 := h2.2.1
  clear h1 h2
  obtain ⟨nw, hnw⟩ : ∃ k, ws.length = k := ⟨_, rfl⟩
  obtain ⟨nl, hnl⟩ : ∃ k, ls.length = k := ⟨_, rfl⟩
  have HNW := Aside0.mk hnw
  have HNL := Aside0.mk hnl
  rw [hnw] at hm1 hc1 H1 ⊢
  rw [hnl] at hm2 hc2 H2 ⊢
  clear hnw hnl
  by_cases g0 : n < 1
  · go_enter Try.func6, Try.ntmps6
    go_wp2_with (first
      | ((with_reducible refine gate_dst (N := 34) rfl ?_); go_must (((try (refine gate_guard (by rfl) ?_; dsimp only)); refine goesL_ (some 34) rfl rfl Try.func21 (by kernel_rfl) rfl #[] rfl ?hA ?_; (case hA => ((try simp only [List.map_toArray, List.map_cons, List.map_nil]); first | done | rfl)); refine (alive22_calls _).mono ?_; rintro e w34 ⟨rfl, hb⟩; refine ⟨_, rfl, ?_⟩; replace HB := Aside0.mk (below_step (by repeat (first | (with_reducible first | exact HB.out | apply below_alloc | apply pw_below_drewN | apply below_drew1) | exact HB.out)) hb); clear hb))))
    go_ret
    exact ⟨rfl, HB.out⟩
  · by_cases g1 : 8 < n
    · go_enter Try.func6, Try.ntmps6
      go_wp2_with (first
        | ((with_reducible refine gate_dst (N := 34) rfl ?_); go_must (((try (refine gate_guard (by rfl) ?_; dsimp only)); refine goesL_ (some 34) rfl rfl Try.func21 (by kernel_rfl) rfl #[] rfl ?hA ?_; (case hA => ((try simp only [List.map_toArray, List.map_cons, List.map_nil]); first | done | rfl)); refine (alive22_calls _).mono ?_; rintro e w34 ⟨rfl, hb⟩; refine ⟨_, rfl, ?_⟩; replace HB := Aside0.mk (below_step (by repeat (first | (with_reducible first | exact HB.out | apply below_alloc | apply pw_below_drewN | apply below_drew1) | exact HB.out)) hb); clear hb))))
      go_ret
      exact ⟨rfl, HB.out⟩
    · by_cases g2 : 30 < nl
      · have g2' : (30 : Int) < nl := by omega
        go_enter Try.func6, Try.ntmps6
        go_wp2_with (first
          | ((with_reducible refine gate_dst (N := 34) rfl ?_); go_must (((try (refine gate_guard (by rfl) ?_; dsimp only)); refine goesL_ (some 34) rfl rfl Try.func21 (by kernel_rfl) rfl #[] rfl ?hA ?_; (case hA => ((try simp only [List.map_toArray, List.map_cons, List.map_nil]); first | done | rfl)); refine (alive22_calls _).mono ?_; rintro e w34 ⟨rfl, hb⟩; refine ⟨_, rfl, ?_⟩; replace HB := Aside0.mk (below_step (by repeat (first | (with_reducible first | exact HB.out | apply below_alloc | apply pw_below_drewN | apply below_drew1) | exact HB.out)) hb); clear hb))))
        go_ret
        exact ⟨rfl, HB.out⟩
      · by_cases g3 : nw < nl
        · have g3' : (nw : Int) < nl := by omega
          have g2' : decide ((30 : Int) < nl) = false := decide_eq_false (by omega)
          go_enter Try.func6, Try.ntmps6
          go_wp2_with (first
            | ((with_reducible refine gate_dst (N := 34) rfl ?_); go_must (((try (refine gate_guard (by rfl) ?_; dsimp only)); refine goesL_ (some 34) rfl rfl Try.func21 (by kernel_rfl) rfl #[] rfl ?hA ?_; (case hA => ((try simp only [List.map_toArray, List.map_cons, List.map_nil]); first | done | rfl)); refine (alive22_calls _).mono ?_; rintro e w34 ⟨rfl, hb⟩; refine ⟨_, rfl, ?_⟩; replace HB := Aside0.mk (below_step (by repeat (first | (with_reducible first | exact HB.out | apply below_alloc | apply pw_below_drewN | apply below_drew1) | exact HB.out)) hb); clear hb))))
          go_ret
          exact ⟨rfl, HB.out⟩
        · obtain ⟨m, hm⟩ : ∃ m : Nat, n = m := ⟨n.toNat, by omega⟩
          subst hm
          have g0' : decide ((m : Int) < 1) = false := decide_eq_false (by omega)
          have g1' : decide ((8 : Int) < m) = false := decide_eq_false (by omega)
          have g2' : decide ((30 : Int) < nl) = false := decide_eq_false (by omega)
          have g3' : decide ((nw : Int) < nl) = false := decide_eq_false (by omega)
          have hm0 : ¬ (m : Int) = 0 := by omega
          have hmb : ((m : Int) == 0) = false := by simp; omega
          have g8 : m ≤ 8 := by omega
          have g81 : 1 ≤ m := by omega
          have g30 : nl ≤ 30 := by omega
          have gnw : nl ≤ nw := by omega
          clear g0 g1 g2 g3
          go_enter Try.func6, Try.ntmps6
          go_wp2_with (first
            | ((with_reducible refine gate_dst (N := 37) rfl ?_); go_must (((try (refine gate_guard (by rfl) ?_; dsimp only)); refine goesL_ (some 37) rfl rfl Try.func22 (by kernel_rfl) rfl #[.int .i64 m] rfl ?hA ?_; (case hA => ((try simp only [List.map_toArray, List.map_cons, List.map_nil]); first | done | rfl)); refine (rnew_ok m w w HB.out g81 g8).mono ?_; rintro e w37 ⟨g, gq, rfl, hr, hB, _⟩; refine ⟨_, rfl, ?_⟩; have HR := Aside0.mk hr; replace HB := Aside0.mk hB; clear hr hB))))
          obtain ⟨zs, hzl, hz⟩ : ∃ zs : List (List Int × Nat), zs.length = nl ∧ ∀ i (h : i < zs.length), zs[i] = (ls.getD i [], (ownr m (ws.getD i 0)).toNat) := by
            refine ⟨ls.zip (ws.map (fun x => (ownr m x).toNat)), by rw [List.length_zip, List.length_map, HNL.out, HNW.out]; omega, fun i h => ?_⟩
            rw [List.length_zip, List.length_map] at h
            rw [List.getElem_zip, List.getElem_map, List.getD_eq_getElem?_getD, List.getD_eq_getElem?_getD, List.getElem?_eq_getElem (by omega), List.getElem?_eq_getElem (by omega)]
            rfl
          have HZL := Aside0.mk hzl
          have HZ := Aside0.mk hz
          clear hzl hz
          go_loopg [9] nl (fun g9 v9 wr => ∃ (i : Nat) (col : Nat → Nat), g9 = nl - i ∧ v9 = .int .i64 i ∧ i ≤ nl ∧ Aside0 (Rel wr w.heap.size g gq col (fV (zs.take i)) (qsOf m 0 (zs.take i))) ∧ Aside0 (Below w.heap.size w wr) ∧ Aside0 (∀ z ∈ zs.take i, z.1.length ≤ 100))
          case atStart => exact ⟨0, _, by simp, rfl, Nat.zero_le _, ⟨by rw [List.take_zero, qsOf_zero]; exact HR.out⟩, HB, ⟨by simp⟩⟩
          case round =>
            clear HR HB
            obtain ⟨i, col, rfl, rfl, hi, HR, HB, HY⟩ := hrel
            by_cases hin : i < nl
            · have hin2 : (i : Int) < nl := by omega
              have hinw : (i : Int) < nw := by omega
              have hi0 : (0 : Int) ≤ i := by omega
              obtain ⟨a2, A0, d0, rfl, hx2, hl2, hC2⟩ := X.at_L3 H2.out i (by omega) (by omega)
              obtain ⟨a1, rfl, hx1⟩ := ReadsInt.at_ H1.out i (by omega) (by omega)
              rw [Int.toNat_natCast] at hx1 hx2
              obtain ⟨x, hxe⟩ : ∃ x, x = rd ws i := ⟨_, rfl⟩
              obtain ⟨y, hye⟩ : ∃ y, y = X.rd_L3 ls i := ⟨_, rfl⟩
              rw [← hxe] at hx1
              rw [← hye] at hx2 hl2 hC2
              have HX1 := Aside0.mk hx1
              have HX2 := Aside0.mk hx2
              have HRy : Aside0 (Rd w (.slice A0 y.length d0) y) := ⟨⟨A0, d0, rfl, hl2, hC2⟩⟩
              have hzi : zs[i]'(by rw [HZL.out]; exact hin) = (y, (ownr m x).toNat) := by
                rw [HZ.out, hxe, hye]
                rfl
              have HZI := Aside0.mk hzi
              clear hx1 hx2 hl2 hC2 hxe hye hzi
              have hx1 := pw_cell_below HB.out HX1.out
              have hx2 := pw_cell_below HB.out HX2.out
              by_cases hy : 100 < y.length
              · have hy2 : (100 : Int) < y.length := by omega
                go_wp2_with (first
                  | ((with_reducible refine gate_dst (N := 54) rfl ?_); go_must (((try (refine gate_guard (by rfl) ?_; dsimp only)); refine goesL_ (some 54) rfl rfl Try.func21 (by kernel_rfl) rfl #[] rfl ?hA ?_; (case hA => ((try simp only [List.map_toArray, List.map_cons, List.map_nil]); first | done | rfl)); refine (alive22_calls _).mono ?_; rintro e w54 ⟨rfl, hb⟩; refine ⟨_, rfl, ?_⟩; replace HB := Aside0.mk (below_step (by repeat (first | (with_reducible first | exact HB.out | apply below_alloc | apply pw_below_drewN | apply below_drew1) | exact HB.out)) hb); clear hb))))
                go_ret
                exact ⟨rfl, HB.out⟩
              · have hy2 : decide ((100 : Int) < y.length) = false := decide_eq_false (by omega)
                have hy100 : y.length ≤ 100 := by omega
                have hwr : IntKind.i64.wrap (x.tmod m + m) = x.tmod m + m := wrap_ownr (by omega) (by omega)
                obtain ⟨o, ho⟩ : ∃ o : Nat, (ownr m x).toNat = o := ⟨_, rfl⟩
                have hio := ownr_in (n := m) (x := x) (by omega)
                have HOE : Aside0 ((x.tmod m + m).tmod m = (o : Int)) := ⟨by show ownr m x = o; omega⟩
                have hom : o < m := by omega
                rw [ho] at HZI
                have HOM : Aside0 (o < (qsOf m 0 (zs.take i)).length) := ⟨by rw [qsOf_len]; exact hom⟩
                clear hy hio ho
                have hm00 : ¬ m = 0 := by omega
                go_wp2
                go_region_held3 (fun w' => w'.cell? (a1.add i) = some (.int .i64 x) ∧ w'.cell? (a2.add i) = some (.slice A0 y.length d0))
                  (first | exact ⟨hx1, hx2⟩ | exact ⟨pw_cell_below HB.out HX1.out, pw_cell_below HB.out HX2.out⟩)
                  (first
                    | (go_at_call 23; rw [HOE.out]; refine (rput_ok g gq o col _ _ (.slice A0 y.length d0) y w wr.drew (by exact HR.out.below (below_drew (Below.refl _ _))) HOM.out (by rw [qsOf_len]; exact g8) (fun W hB _ => HRy.out.below hB) (by omega) (by simp [fV]; omega) (fun q hq => by have h1 := qsOf_most _ _ _ q hq; rw [List.length_take] at h1; omega) (below_drew HB.out)).mono ?_; rintro e w70 ⟨rfl, ⟨col', hr⟩, hB, hF⟩; replace HR := Aside0.mk hr; replace HB := Aside0.mk hB; clear hr hB hF))
                all_goals
                  clear hx1 hx2
                  go_wp2
                  go_roundg (nl - (i + 1))
                  case measure => omega
                  case rel => exact ⟨i + 1, col', rfl, by go_num, by omega, ⟨by
                    have h3 := HR.out
                    rw [qsOf_put m (zs.take i) (y, o), ← fV_snoc (zs.take i) (y, o), ← take_next (by rw [HZL.out]; exact hin) HZI.out] at h3
                    exact h3⟩, HB, ⟨by
                    rw [take_next (by rw [HZL.out]; exact hin) HZI.out]
                    intro z hz
                    rcases List.mem_append.1 hz with h | h
                    · exact HY.out z h
                    · simp at h
                      subst h
                      exact hy100⟩⟩
            · obtain rfl : i = nl := by omega
              have hT : zs.take i = zs := List.take_of_length_le (by rw [HZL.out]; exact Nat.le_refl _)
              rw [hT] at HR HY
              clear hT
              go_wp2
              go_loopg [10] m (fun g10 v10 wr => ∃ (k : Nat) (col : Nat → Nat), g10 = m - k ∧ v10 = .int .i64 k ∧ k ≤ m ∧ Aside0 (Rel wr w.heap.size g gq col (fV zs) (qsOf m k zs)) ∧ Aside0 (Below w.heap.size w wr))
              case atStart => exact ⟨0, col, by simp, rfl, Nat.zero_le _, HR, HB⟩
              case round =>
                clear HR HB
                obtain ⟨k, col2, rfl, rfl, hk, HR, HB⟩ := hrel
                by_cases hkm : k < m
                · have hkm2 : (k : Int) < m := by omega
                  go_wp2
                  go_loopg [11] i (fun g11 v11 wr => ∃ (q : Nat) (col : Nat → Nat), g11 = i - q ∧ v11 = .int .i64 q ∧ q ≤ i ∧ Aside0 (Rel wr w.heap.size g gq col (fV zs) ((qsOf m k zs).set k (fQ (zs.drop q) k))) ∧ Aside0 (Below w.heap.size w wr))
                  case atStart => exact ⟨0, col2, by simp, rfl, Nat.zero_le _, ⟨by rw [List.drop_zero, qsOf_self hkm]; exact HR.out⟩, HB⟩
                  case round =>
                    clear HR HB
                    obtain ⟨q, col3, rfl, rfl, hq, HR, HB⟩ := hrel
                    have HKL : Aside0 (k < ((qsOf m k zs).set k (fQ (zs.drop q) k)).length) := ⟨by rw [List.length_set, qsOf_len]; exact hkm⟩
                    have HKG : Aside0 (((qsOf m k zs).set k (fQ (zs.drop q) k))[k]'HKL.out = fQ (zs.drop q) k) := ⟨by rw [List.getElem_set_self]⟩
                    by_cases hqi : q < i
                    · have hqi2 : (q : Int) < i := by omega
                      have hqw : (q : Int) < nw := by omega
                      have hq0 : (0 : Int) ≤ q := by omega
                      obtain ⟨a2, A0, d0, rfl, hx2, hl2, hC2⟩ := X.at_L3 H2.out q (by omega) (by omega)
                      obtain ⟨a1, rfl, hx1⟩ := ReadsInt.at_ H1.out q (by omega) (by omega)
                      rw [Int.toNat_natCast] at hx1 hx2
                      obtain ⟨x, hxe⟩ : ∃ x, x = rd ws q := ⟨_, rfl⟩
                      obtain ⟨y, hye⟩ : ∃ y, y = X.rd_L3 ls q := ⟨_, rfl⟩
                      rw [← hxe] at hx1
                      rw [← hye] at hx2 hl2 hC2
                      have HX1 := Aside0.mk hx1
                      have HX2 := Aside0.mk hx2
                      have HRy : Aside0 (Rd w (.slice A0 y.length d0) y) := ⟨⟨A0, d0, rfl, hl2, hC2⟩⟩
                      have hql : q < zs.length := by rw [HZL.out]; exact hqi
                      have hzi : zs[q] = (y, (ownr m x).toNat) := by
                        rw [HZ.out, hxe, hye]
                        rfl
                      clear hx1 hx2 hl2 hC2 hxe hye
                      have hx1 := pw_cell_below HB.out HX1.out
                      have hx2 := pw_cell_below HB.out HX2.out
                      have hwr : IntKind.i64.wrap (x.tmod m + m) = x.tmod m + m := wrap_ownr (by omega) (by omega)
                      obtain ⟨o, ho⟩ : ∃ o : Nat, (ownr m x).toNat = o := ⟨_, rfl⟩
                      have hio := ownr_in (n := m) (x := x) (by omega)
                      have hoe : (x.tmod m + m).tmod m = (o : Int) := by show ownr m x = o; omega
                      rw [ho] at hzi
                      have HDN := Aside0.mk (drop_next hql hzi)
                      clear hio ho hzi hql
                      by_cases hok : o = k
                      · subst hok
                        go_wp2
                        go_roundg (i - (q + 1))
                        case measure => omega
                        case rel => exact ⟨q + 1, col3, rfl, by go_num, by omega, ⟨by
                          have h3 := HR.out
                          rw [HDN.out, fQ_cons, if_neg (by simp)] at h3
                          exact h3⟩, HB⟩
                      · have hok2 : ((o : Int) == k) = false := by simp; omega
                        have hok3 : ¬ (o : Int) = k := by omega
                        have hcons : ((qsOf m k zs).set k (fQ (zs.drop q) k))[k]'HKL.out = (⟨y, false⟩ : It) :: fQ (zs.drop (q + 1)) k := by rw [HKG.out, HDN.out, fQ_cons, if_pos hok]
                        have HCons := Aside0.mk hcons
                        have HLen : Aside0 ((((qsOf m k zs).set k (fQ (zs.drop q) k))[k]'HKL.out).length ≤ 100000) := ⟨by
                          rw [HKG.out]
                          have h4 := fQ_len (zs.drop q) k
                          rw [List.length_drop, HZL.out] at h4
                          omega⟩
                        clear hcons hok
                        go_wp2_with (first
                          | (go_at_call 24; go_must ((refine (rnext_cons g gq k col3 _ _ ⟨y, false⟩ _ w wr HR.out HKL.out HCons.out HLen.out HB.out).mono ?_; rintro e w98 ⟨vb, rfl, ho, ⟨col4, hr⟩, hB, hF⟩; have HO := Aside0.mk ho; replace HR := Aside0.mk hr; replace HB := Aside0.mk hB; have hx2 := pw_cell_below HB.out HX2.out; clear ho hr hB hF)))
                          | (go_at_call 25; go_must ((refine (same_true _ _ y _ (Own.rd HO.out) (HRy.out.below HB.out)).mono ?_; rintro e w109 ⟨rfl, hb⟩; replace HR := Aside0.mk (HR.out.below hb); replace HB := Aside0.mk (below_step (by repeat (first | (with_reducible first | exact HB.out | apply below_alloc | apply pw_below_drewN | apply below_drew1) | exact HB.out)) hb); clear hb))))
                        go_roundg (i - (q + 1))
                        case measure => omega
                        case rel => exact ⟨q + 1, col4, rfl, by go_num, by omega, ⟨by
                          have h3 := HR.out
                          rw [List.set_set] at h3
                          exact h3⟩, HB⟩
                    · obtain rfl : q = i := by omega
                      have HE : Aside0 (((qsOf m k zs).set k (fQ (zs.drop q) k))[k]'HKL.out = []) := ⟨by rw [HKG.out, List.drop_eq_nil_of_le (by rw [HZL.out]; exact Nat.le_refl _)]; rfl⟩
                      go_wp2_with (first
                        | (go_at_call 24; go_must ((refine (rnext_none g gq k col3 _ _ w.heap.size _ HR.out HKL.out (by rw [HE.out]; rfl)).mono ?_; rintro e w115 ⟨rfl, hb⟩; replace HR := Aside0.mk (HR.out.below hb); replace HB := Aside0.mk (below_step (by repeat (first | (with_reducible first | exact HB.out | apply below_alloc | apply pw_below_drewN | apply below_drew1) | exact HB.out)) hb); clear hb)))
                        | (go_at_call 26; go_must ((refine (waits_in g gq k col3 w.heap.size _ _ _ HR.out HKL.out).mono ?_; rw [HE.out]; rintro e w122 ⟨rfl, ⟨m122, rfl⟩⟩; skip))))
                      go_roundg (m - (k + 1))
                      case measure => omega
                      case rel => exact ⟨k + 1, col3, rfl, by go_num, by omega, ⟨by
                        have h3 := HR.out
                        rw [List.drop_eq_nil_of_le (by rw [HZL.out]; exact Nat.le_refl _), show fQ [] k = [] from rfl, qsOf_done] at h3
                        exact h3.drewN _⟩, ⟨pw_below_drewN HB.out _⟩⟩
                · obtain rfl : k = m := by omega
                  have HLS : Aside0 ((fV zs).map (·.f0) = ls) := ⟨by
                    apply List.ext_getElem (by simp [fV, HZL.out, HNL.out])
                    intro j h3 h4
                    have h5 : j < zs.length := by simpa [fV] using h3
                    simp only [fV, List.map_map, List.getElem_map, Function.comp]
                    rw [HZ.out j h5]
                    simp only [List.getD_eq_getElem?_getD, List.getElem?_eq_getElem h4, Option.getD_some]⟩
                  have HM : Aside0 (∀ y ∈ ls, y.length ≤ 100) := ⟨by
                    intro y hy
                    rw [← HLS.out] at hy
                    obtain ⟨z, hz, rfl⟩ := List.mem_map.1 hy
                    obtain ⟨z', hz', rfl⟩ := List.mem_map.1 hz
                    exact HY.out z' hz'⟩
                  have HVL : Aside0 ((fV zs).length ≤ 5000) := ⟨by simp [fV, HZL.out]; omega⟩
                  go_wp2_with (first
                    | (go_at_call 28; go_must ((refine (rview_calls g gq col2 (fV zs) (qsOf k k zs) w.heap.size wr HR.out HVL.out (fun z hz => by have h6 := HM.out z.f0 (by rw [← HLS.out]; exact List.mem_map.2 ⟨z, hz, rfl⟩); omega)).mono ?_; rw [HLS.out]; rintro e w126 ⟨vv, rfl, ho, hb⟩; obtain ⟨Av, cv, hvv, hcv, hCv⟩ := Kd.R_reads ho; subst hvv; have HV := Aside0.mk (lists_same Av A2 cv c2 ls w126 hCv hcv (Kd.C_below (by rw [HNL.out]; exact H2.out) (below_step HB.out hb)) (by rw [HNL.out]; exact hc2) 100 (by decide) (by rw [HNL.out]; omega) HM.out); rw [HNL.out] at HV; rw [HNL.out]; replace HB := Aside0.mk (below_step (by repeat (first | (with_reducible first | exact HB.out | apply below_alloc | apply pw_below_drewN | apply below_drew1) | exact HB.out)) hb); clear ho hb hcv hCv)))
                    | (go_at_call 27; go_must ((refine HV.out.mono ?_; rintro e w128 ⟨rfl, ⟨m128, rfl⟩⟩; skip)))
                    | (go_at_call 21; go_must ((refine (alive22_calls _).mono ?_; rintro e w130 ⟨rfl, hb⟩; replace HB := Aside0.mk (below_step (pw_below_drewN HB.out m128) hb); clear hb))))
                  go_ret
                  exact ⟨rfl, HB.out⟩
end Go.Proofs.Ytlcifnejpejhmaa.K

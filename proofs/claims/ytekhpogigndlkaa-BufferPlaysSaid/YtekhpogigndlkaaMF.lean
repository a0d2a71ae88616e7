/- (*buffer.Buffer).All. (*buffer.Buffer).Run. A buffer as a list of entries; its ways. -/
import Derived.Test.YtekhpogigndlkaaME
namespace Go.Proofs.Ytekhpogigndlkaa.K
open Go.RowKit Go.Proofs.YtekhpogigndlkaaW.PrintWords Go.Proofs.YtekhpogigndlkaaW.PrintLast Go.Proofs.YtekhpogigndlkaaW.PrintMore
set_option linter.unusedVariables false
set_option linter.unusedSimpArgs false

/-- A pile beside a row that grows. -/
theorem Pile.frO {w W : World} {base pb po t : Nat} {cs : Array Value} {v u : Value} {ps os : List EP} (h : Pile w base pb po cs t v ps) (ho : PlR w base u os) (hf : Fr w W (fun k => u.ownBlock = some k)) (hne : ∀ k, u.ownBlock = some k → v.ownBlock ≠ some k) : Pile W base pb po cs t v ps := by
  refine ⟨hf.blk h.hd (fun e => ?_), h.lt, h.ht, h.row.fr hf (fun k hk e => hne k e hk) (fun p hp k hk e => ?_), h.bs⟩
  · obtain ⟨c', hc⟩ := ho.typed _ e
    rw [h.hd] at hc
    injection hc with hc
    injection hc with _ hc
    exact h.ht.2 hc
  · obtain ⟨c', hc⟩ := ho.typed _ e
    exact Own.typed (h.row.bod p hp) hc (by decide) k hk rfl
def srt (l : List En) : Prop := l.Pairwise (fun a b => ¬ ltK (keyE b) (keyE a))
/-- All's loop. -/
def AllI (w : World) (base g3 : Nat) (ps : List EP) (j : Nat) (v2 : Value) (W : World) : Prop :=
  ∃ (os qs : List EP) (A : Option Addr) (c : Nat) (A' : Option Addr) (c' : Nat), v2 = .slice A os.length c ∧ qs.length = j ∧ Pile W base g3 0 #[.slice none 0 0] 57 (.slice A' j c') qs ∧ HeapF (ky qs) j 0 ∧ PlR W base v2 os ∧
    (∀ k, v2.ownBlock = some k → (Value.slice A' j c').ownBlock ≠ some k) ∧ (os.map (·.e) ++ qs.map (·.e)).Perm (ps.map (·.e)) ∧ srt (os.map (·.e)) ∧ (∀ o ∈ os, ∀ q ∈ qs, ¬ ltK (keyE q.e) (keyE o.e)) ∧
    Below w.heap.size w W ∧ (∀ k, v2.ownBlock = some k → w.heap.size ≤ k) ∧ (∀ k, (Value.slice A' j c').ownBlock = some k → w.heap.size ≤ k)
/-- What All leaves. -/
def AllP (w : World) (base : Nat) (ps : List EP) (e : Ending) (W : World) : Prop :=
  ∃ (os : List EP) (A : Option Addr) (c : Nat), e = .returned (.slice A os.length c) ∧ PlR W base (.slice A os.length c) os ∧ (os.map (·.e)).Perm (ps.map (·.e)) ∧ srt (os.map (·.e)) ∧ Below w.heap.size w W ∧ (∀ k, (Value.slice A os.length c).ownBlock = some k → w.heap.size ≤ k)
theorem ky_min {qs : List EP} {j : Nat} {p q : EP} (hH : HeapF (ky qs) j 0) (hl : qs.length = j) (hp : qs[0]? = some p) (hq : q ∈ qs) : ¬ ltK (keyE q.e) (keyE p.e) := by
  obtain ⟨i, hi, rfl⟩ := List.mem_iff_getElem.1 hq
  have := heap_min hH i (by omega)
  rw [ky_at hp, ky_at (List.getElem?_eq_getElem hi)] at this
  exact this
theorem srt_snoc {l : List En} {x : En} (h : srt l) (hx : ∀ o ∈ l, ¬ ltK (keyE x) (keyE o)) : srt (l ++ [x]) := by
  refine List.pairwise_append.2 ⟨h, List.pairwise_singleton _ _, fun a ha b hb => ?_⟩
  rw [List.mem_singleton.1 hb]
  exact hx a ha
theorem perm_snoc {os qs rs ps : List En} {p : En} (h : (os ++ qs).Perm ps) (hp : (p :: rs).Perm qs) : ((os ++ [p]) ++ rs).Perm ps := by
  refine List.Perm.trans ?_ h
  rw [List.append_assoc]
  exact List.Perm.append_left os (by simpa using hp)
theorem all_step {w w24 X W' : World} {base pb po t : Nat} {cs : Array Value} {v u u' : Value} {ps os : List EP} (h : Pile w24 base pb po cs t v ps) (ho : PlR w24 base u os) (hdis : ∀ k, u.ownBlock = some k → v.ownBlock ≠ some k) (hX : Below w24.heap.size w24 X)
    (hf : Fr X W' (fun k => u.ownBlock = some k)) (hat : u'.ownBlock = u.ownBlock ∨ u'.ownBlock = some X.heap.size) (hB : Below w.heap.size w w24) (hf1 : ∀ k, u.ownBlock = some k → w.heap.size ≤ k) (hf2 : ∀ k, v.ownBlock = some k → w.heap.size ≤ k) :
    Pile W' base pb po cs t v ps ∧ (∀ k, u'.ownBlock = some k → v.ownBlock ≠ some k) ∧ Below w.heap.size w W' ∧ (∀ k, u'.ownBlock = some k → w.heap.size ≤ k) := by
  refine ⟨(h.below hX).frO (ho.below hX) hf hdis, fun k hk hv => ?_, hf.below (hB.trans (hX.mono hB.size)) hf1, fun k hk => ?_⟩
  · rcases hat with hat | hat
    · exact hdis k (hat ▸ hk) hv
    · rw [hat] at hk
      injection hk with hk
      have h1 := own_lt h.row.row k hv
      have h2 := hX.size
      omega
  · rcases hat with hat | hat
    · exact hf1 k (hat ▸ hk)
    · rw [hat] at hk
      injection hk with hk
      have h1 := hX.size
      have h2 := hB.size
      omega
set_option maxRecDepth 100000 in
set_option maxHeartbeats 16000000 in
theorem all_calls (base g n : Nat) (most : Int) (A : Option Addr) (c : Nat) (ps : List EP) (w : World) (h : BufW w base g most (.slice A n c) ps) (hn : ps.length = n) (hl : n ≤ 100000) (hH : HeapF (ky ps) n 0) (hbod : ∀ p ∈ ps, p.e.f5.length ≤ 1100) :
    Calls Try.prog 10 #[.pointer (some ⟨g, 0, none⟩)] w fun e w' => AllP w base ps e w' := by
  have HH := Aside0.mk h
  have HN := Aside0.mk hn
  have HL := Aside0.mk hl
  have HHF := Aside0.mk hH
  have HBD := Aside0.mk hbod
  have HBS : Aside0 (base ≤ w.heap.size) := ⟨Nat.le_of_lt (Nat.lt_of_le_of_lt h.bs (blk_lt h.hd))⟩
  have c0 := h.cell
  have hta : ∀ q : EP, enV q = .agg #[.int .i64 q.e.f0, .int .i64 q.e.f1, .int .u64 q.e.f2, .int .i64 q.e.f3.f0, .int .i64 q.e.f3.f1, .int .i64 q.e.f4, .slice q.A q.e.f5.length q.c, .int .u64 q.e.f6] := fun _ => rfl
  have HTA := Aside0.mk hta
  clear h hn hl hH hbod hta
  go_enter Try.func10, Try.ntmps10
  go_wp2_with (first
    | (go_at_call 31; go_must (refine (pclone_calls base n A c ps _ HH.out.row HN.out HL.out HBS.out).mono ?_; rintro e w12 ⟨A', c', rfl, hr, hk, hb⟩; have HR12 := Aside0.mk hr; have HK12 := Aside0.mk hk; have HB12 := Aside0.mk hb; clear hr hk hb)))
  obtain ⟨g3, hg3⟩ : ∃ g, g = w12.heap.size := ⟨_, rfl⟩
  rw [← hg3]
  refine gen_world (fun W3 hW3 => ?_)
  have hI : AllI w base g3 ps n (.slice none 0 0) W3 := by
    have hB3 : Below w12.heap.size w12 W3 := by rw [hW3]; with_reducible exact below_alloc (Below.refl _ _) _
    have hx3 : W3.heap[g3]? = some (.cells #[.slice A' n c'] 57 (0, 0)) := by rw [hW3, hg3]; with_reducible exact heap_alloc_new _ _
    refine ⟨[], ps, none, 0, A', c', rfl, HN.out, ⟨hx3, by simp, by decide, HR12.out.below hB3, ?_⟩, HHF.out, PlR.nil _ _, fun k hk => by simp [Value.ownBlock] at hk, by simp, List.Pairwise.nil, fun o ho => by simp at ho, HB12.out.trans (hB3.mono HB12.out.size), fun k hk => by simp [Value.ownBlock] at hk, HK12.out⟩
    rw [hg3]
    exact Nat.le_trans HBS.out HB12.out.size
  have HI := Aside0.mk hI
  have HG3 : Aside0 (w.heap.size ≤ g3) := ⟨by rw [hg3]; exact HB12.out.size⟩
  clear hI hW3 hg3 HR12 HK12 HB12 c0
  go_loopg [2] n (fun gg v2 wr => ∃ (j : Nat), gg = j ∧ j ≤ n ∧ Aside0 (AllI w base g3 ps j v2 wr))
  case atStart => exact ⟨n, rfl, Nat.le_refl _, HI⟩
  case round =>
    clear HI
    obtain ⟨j, hg, hjn, HI⟩ := hrel
    have hg := hg.symm
    subst hg
    obtain ⟨os, qs, A1, c1, A2, c2, rfl, hql, hP, hH, hO, hdis, hpm, hsr, hmin, hB, hf1, hf2⟩ := HI.out
    have cR := hP.cell
    by_cases hj0 : j = 0
    · subst hj0
      have hq0 : qs = [] := List.eq_nil_of_length_eq_zero hql
      subst hq0
      simp only [List.map_nil, List.append_nil] at hpm
      have HE : Aside0 (AllP w base ps (.returned (.slice A1 os.length c1)) wr) := ⟨os, A1, c1, rfl, hO, hpm, hsr, hB, hf1⟩
      clear hP hH hO hdis hpm hsr hmin hB hf1 hf2 HI hjn hql
      go_wp2
      go_ret
      exact HE.out
    · obtain ⟨m, rfl⟩ : ∃ m, j = m + 1 := ⟨j - 1, by omega⟩
      have hA : ∃ gr, A2 = some ⟨gr, 0, none⟩ := by
        rcases hP.row.slice with ⟨h1, h2⟩ | ⟨g, cap, cur, h1, _⟩
        · rw [h2] at hql
          simp at hql
        · injection h1 with h1 _ _
          exact ⟨g, h1⟩
      obtain ⟨gr, rfl⟩ := hA
      obtain ⟨p, hp⟩ : ∃ p, qs[0]? = some p := ⟨_, List.getElem?_eq_getElem (by omega)⟩
      have HP := Aside0.mk hP
      have HQL := Aside0.mk hql
      have HH2 := Aside0.mk hH
      have HO := Aside0.mk hO
      have HDI := Aside0.mk hdis
      have HPM := Aside0.mk hpm
      have HSR := Aside0.mk hsr
      have HMI := Aside0.mk hmin
      have HB := Aside0.mk hB
      have HF1 := Aside0.mk hf1
      have HF2 := Aside0.mk hf2
      have HP0 := Aside0.mk hp
      have HJN := Aside0.mk hjn
      have HPB : Aside0 (p.e.f5.length ≤ 140737488355328) := ⟨by
        have h1 : p.e ∈ ps.map (·.e) := hpm.mem_iff.1 (List.mem_append.2 (.inr (List.mem_map.2 ⟨p, List.mem_of_getElem? hp, rfl⟩)))
        obtain ⟨p', hp', he⟩ := List.mem_map.1 h1
        have := HBD.out p' hp'
        have he : p'.e = p.e := he
        rw [he] at this
        omega⟩
      have htA := fun w => as_enOk (enV p) w 20
      simp only [enV] at htA
      have hj1 : (0 : Int) < ((m + 1 : Nat) : Int) := by omega
      have hj2 : (0 : Int) < (m : Int) + 1 := by omega
      clear hP hql hH hO hdis hpm hsr hmin hB hf1 hf2 hp HI hjn hj0
      go_upto_region 6 with (first
        | (go_at_call 32; go_must (refine (hpop_calls base g3 0 57 gr c2 m #[.slice none 0 0] qs p _ HP.out HQL.out (Nat.le_trans HJN.out HL.out) HH2.out HP0.out).mono ?_; rintro e w18 ⟨rs, rfl, h1, h2, h3, h4⟩; simp only [enV]; have HP18 := Aside0.mk h1; have HPM18 := Aside0.mk h2; have HH18 := Aside0.mk h3; have HF18 := Aside0.mk h4; clear h1 h2 h3 h4)))
      refine gen_world (fun W9 hW9 => ?_)
      have hB9 : Below w18.heap.size w18 W9 := by rw [hW9]; with_reducible exact below_alloc (Below.refl _ _) _
      have hx9 : W9.heap[w18.heap.size]? = some (.cells #[.int .i64 p.e.f0, .int .i64 p.e.f1, .int .u64 p.e.f2, .int .i64 p.e.f3.f0, .int .i64 p.e.f3.f1, .int .i64 p.e.f4, .slice p.A p.e.f5.length p.c, .int .u64 p.e.f6] 33 (0, 0)) := by rw [hW9]; with_reducible exact heap_alloc_new _ _
      obtain ⟨x0, x1, x2, x3, x4, x5, x6, x7, -⟩ := cells8z hx9
      have HMEM : p ∈ qs := List.mem_of_getElem? HP0.out
      have HBw : Below w.heap.size w w18 := HF18.out.below HB.out (fun k hk => by
        rcases hk with hk | hk
        · rw [hk]; exact HG3.out
        · exact HF2.out k hk)
      have HB9 : Aside0 (Below w.heap.size w W9) := ⟨HBw.trans (hB9.mono HBw.size)⟩
      have HO9 : Aside0 (PlR W9 base (.slice A1 os.length c1) os) := ⟨(HO.out.far HF18.out HP.out.row HP.out.hd HP.out.ht.1 HP.out.ht.2 HDI.out).below hB9⟩
      have HP9 := Aside0.mk (HP18.out.below hB9)
      have HR9 : Aside0 (Rd W9 p.b p.e.f5) := ⟨Own.rd (Own.below (Own.farP (HP.out.row.bod p HMEM) HF18.out HP.out.row HP.out.hd HP.out.ht.1) hB9)⟩
      have HBS9 : Aside0 (base ≤ W9.heap.size) := ⟨Nat.le_trans HBS.out HB9.out.size⟩
      clear hW9 hB9 hx9 HMEM HBw htA
      go_wp2_with (first
        | (go_at_call 30; go_must (refine (own_calls p _ HR9.out HPB.out).mono ?_; rintro e w24 ⟨q, rfl, hq, ho, hb⟩; rw [HTA.out]; have HQ := Aside0.mk hq; have HB24 : Aside0 (Below w.heap.size w w24) := ⟨HB9.out.trans (hb.mono HB9.out.size)⟩; have HO24 := Aside0.mk (Kd.R_lower ho HBS9.out); have HS24 := Aside0.mk (HO9.out.below hb); have HP24 := Aside0.mk (HP9.out.below hb); have HBS24 : Aside0 (base ≤ w24.heap.size) := ⟨Nat.le_trans HBS.out HB24.out.size⟩; clear hq ho hb))
        | ((with_reducible refine gate_builtin (b := .append) (xs := #[.tmp 22, .tmp 25]) rfl ?_); at_builtin; go_must (refine app_pile base rfl (.tmp 22) (.tmp 25) 22 rfl Try.underlying22 (.slice A1 os.length c1) os.length os [q] rfl ?ho0 rfl ⟨w24.heap.size, 0, none⟩ 1 1 rfl rfl ?hnw ?hbd ?hbs ?hlt ?_; (case ho0 => exact HS24.out.below (below_alloc (Below.refl _ _) _)); (case hnw => exact fun j u hu => World.news_of_block (heap_alloc_new _ _) j u (by simpa [flE, enC] using hu)); (case hbd => (intro x hx; rw [List.mem_singleton.1 hx]; exact Own.below HO24.out (below_alloc (Below.refl _ _) _))); (case hbs => (have := HBS24.out; simp; omega)); (case hlt => (have h1 := HPM.out.length_eq; have h2 := HN.out; have h3 := HL.out; simp only [List.length_append, List.length_map] at h1; omega)); intro v26 w26 hp hf hat; have HV := Aside0.mk (all_step (W' := w26) HP24.out HS24.out HDI.out (below_alloc (Below.refl _ _) _) hf hat HB24.out HF1.out HF2.out); obtain ⟨A26, c26, rfl, hc7, hC7⟩ := hp.reads; have HP26 := Aside0.mk hp; clear hp hf hat hC7 hc7)))
      have hql : rs.length = m := by
        have h1 := HPM18.out.length_eq
        have h2 := HQL.out
        simp only [List.length_cons] at h1
        omega
      have hl1 : (os ++ [q]).length = os.length + 1 := by simp
      have HVv := HV.out
      have HPv := HP26.out
      rw [hl1] at HVv HPv
      have hqe : q.e = p.e := HQ.out
      have hI : AllI w base g3 ps m (.slice A26 (os.length + 1) c26) w26 := by
        refine ⟨os ++ [q], rs, A26, c26, _, c2, by rw [hl1], hql, HVv.1, HH18.out, HPv, HVv.2.1, ?_, ?_, ?_, HVv.2.2.1, HVv.2.2.2, fun k hk => HF2.out k hk⟩
        · rw [List.map_append, List.map_singleton, hqe]
          exact perm_snoc HPM.out (by simpa using HPM18.out.map (·.e))
        · rw [List.map_append, List.map_singleton, hqe]
          refine srt_snoc HSR.out (fun o ho => ?_)
          obtain ⟨o', ho', rfl⟩ := List.mem_map.1 ho
          exact HMI.out o' ho' p (List.mem_of_getElem? HP0.out)
        · intro o ho x hx
          have hxq : x ∈ qs := HPM18.out.mem_iff.1 (List.mem_cons_of_mem p hx)
          rcases List.mem_append.1 ho with ho | ho
          · exact HMI.out o ho x hxq
          · rw [List.mem_singleton.1 ho, hqe]
            exact ky_min HH2.out HQL.out HP0.out hxq
      have HI' := Aside0.mk hI
      clear hI HVv HPv hqe hl1 hql
      go_roundg m
      case measure => exact Nat.lt_succ_self m
      case rel => exact ⟨m, rfl, by have := HJN.out; omega, HI'⟩
end Go.Proofs.Ytekhpogigndlkaa.K

namespace Go.Proofs.Ytekhpogigndlkaa.K
open Go.RowKit Go.Proofs.YtekhpogigndlkaaW.PrintWords Go.Proofs.YtekhpogigndlkaaW.PrintLast Go.Proofs.YtekhpogigndlkaaW.PrintMore
set_option linter.unusedVariables false
set_option linter.unusedSimpArgs false

/-- What Run leaves: of w0, the world ahead of it. -/
def RunI (w : World) (base g : Nat) (most : Int) (v0 : Value) (ps : List EP) (x idx : Int) (j : Nat) (v2 v6 : Value) (W : World) : Prop :=
  ∃ (os qs : List EP) (A : Option Addr) (c : Nat) (A' : Option Addr) (c' : Nat), v2 = .int .i64 (idx + os.length) ∧ v6 = .slice A os.length c ∧ qs.length = j ∧ BufW W base g most (.slice A' j c') qs ∧ HeapF (ky qs) j 0 ∧ PlR W base v6 os ∧
    (os.map (·.e) ++ qs.map (·.e)).Perm (ps.map (·.e)) ∧ (∀ (i : Nat) (o : EP), os[i]? = some o → keyE o.e = (x, idx + i)) ∧
    Fr w W (SP g v0) ∧ (∀ k, v6.ownBlock = some k → w.heap.size ≤ k) ∧ (∀ k, (Value.slice A' j c').ownBlock = some k → v0.ownBlock = some k)
def RunP (w : World) (base g : Nat) (most : Int) (v0 : Value) (ps : List EP) (x idx : Int) (e : Ending) (W : World) : Prop :=
  ∃ (os qs : List EP) (A : Option Addr) (c : Nat) (A' : Option Addr) (c' : Nat), e = .returned (.slice A os.length c) ∧ BufW W base g most (.slice A' qs.length c') qs ∧ HeapF (ky qs) qs.length 0 ∧ PlR W base (.slice A os.length c) os ∧
    (os.map (·.e) ++ qs.map (·.e)).Perm (ps.map (·.e)) ∧ (∀ (i : Nat) (o : EP), os[i]? = some o → keyE o.e = (x, idx + i)) ∧ (∀ q ∈ qs, keyE q.e ≠ (x, idx + os.length)) ∧
    Fr w W (SP g v0) ∧ (∀ k, (Value.slice A os.length c).ownBlock = some k → w.heap.size ≤ k) ∧ (∀ k, (Value.slice A' qs.length c').ownBlock = some k → v0.ownBlock = some k)
theorem run_step {w w24 X W' : World} {base pb po t : Nat} {cs : Array Value} {v u u' v0 : Value} {ps os : List EP} (h : Pile w24 base pb po cs t v ps) (ho : PlR w24 base u os) (hdis : ∀ k, u.ownBlock = some k → v.ownBlock ≠ some k) (hX : Below w24.heap.size w24 X)
    (hf : Fr X W' (fun k => u.ownBlock = some k)) (hat : u'.ownBlock = u.ownBlock ∨ u'.ownBlock = some X.heap.size) (hF : Fr w w24 (SP pb v0)) (hf1 : ∀ k, u.ownBlock = some k → w.heap.size ≤ k) :
    Pile W' base pb po cs t v ps ∧ Fr w W' (SP pb v0) ∧ (∀ k, u'.ownBlock = some k → w.heap.size ≤ k) := by
  refine ⟨(h.below hX).frO (ho.below hX) hf hdis, (hF.trans (Fr.ofBelow (fun _ => False) hX) (fun _ _ h => h.elim)).trans hf (fun k hk e => by have := hf1 k e; omega), fun k hk => ?_⟩
  rcases hat with hat | hat
  · exact hf1 k (hat ▸ hk)
  · rw [hat] at hk
    injection hk with hk
    have h1 := hX.size
    have h2 := hF.size
    omega
set_option maxRecDepth 100000 in
set_option maxHeartbeats 16000000 in
theorem run_calls (base g n : Nat) (most : Int) (A : Option Addr) (c : Nat) (ps : List EP) (x idx : Int) (w : World) (h : BufW w base g most (.slice A n c) ps) (hn : ps.length = n) (hl : n ≤ 100000) (hH : HeapF (ky ps) n 0) (hbod : ∀ p ∈ ps, rightE p.e = true) :
    Calls Try.prog 11 #[.pointer (some ⟨g, 0, none⟩), .int .i64 x, .int .i64 idx] w fun e w' => RunP w base g most (.slice A n c) ps x idx e w' := by
  have HH := Aside0.mk h
  have HN := Aside0.mk hn
  have HL := Aside0.mk hl
  have HBD := Aside0.mk hbod
  have HBS : Aside0 (base ≤ w.heap.size) := ⟨Nat.le_of_lt (Nat.lt_of_le_of_lt h.bs (blk_lt h.hd))⟩
  have HTA : Aside0 (∀ q : EP, enV q = .agg #[.int .i64 q.e.f0, .int .i64 q.e.f1, .int .u64 q.e.f2, .int .i64 q.e.f3.f0, .int .i64 q.e.f3.f1, .int .i64 q.e.f4, .slice q.A q.e.f5.length q.c, .int .u64 q.e.f6]) := ⟨fun _ => rfl⟩
  have HVB : Aside0 (∀ k, (Value.slice A n c).ownBlock = some k → k < w.heap.size) := ⟨fun k hk => own_lt h.row.row k hk⟩
  have HI0 : Aside0 (RunI w base g most (.slice A n c) ps x idx n (.int .i64 idx) (.slice none 0 0) w) := ⟨[], ps, none, 0, A, c, by simp, rfl, hn, h, hH, PlR.nil _ _, by simp, fun i o ho => by simp at ho, Fr.refl _ _, fun k hk => by simp [Value.ownBlock] at hk, fun k hk => hk⟩
  clear h hn hl hH hbod
  go_enter Try.func11, Try.ntmps11
  go_wp2
  go_loopg [2, 6] n (fun gg v2 v6 wr => ∃ (j : Nat), gg = j ∧ j ≤ n ∧ Aside0 (RunI w base g most (.slice A n c) ps x idx j v2 v6 wr))
  case atStart => exact ⟨n, rfl, Nat.le_refl _, HI0⟩
  case round =>
    clear HI0
    obtain ⟨j, hg, hjn, HI⟩ := hrel
    have hg := hg.symm
    subst hg
    obtain ⟨os, qs, A1, c1, A2, c2, rfl, rfl, hql, hP, hH, hO, hpm, hkey, hF, hf1, hf2⟩ := HI.out
    obtain ⟨y, hy⟩ : ∃ y : Int, y = idx + os.length := ⟨_, rfl⟩
    rw [← hy]
    have HY := Aside0.mk hy
    have HP := Aside0.mk hP
    have HQL := Aside0.mk hql
    have HH2 := Aside0.mk hH
    have HO := Aside0.mk hO
    have HPM := Aside0.mk hpm
    have HKY := Aside0.mk hkey
    have HF := Aside0.mk hF
    have HF1 := Aside0.mk hf1
    have HF2 := Aside0.mk hf2
    have HJN := Aside0.mk hjn
    by_cases hyes : ∃ q ∈ qs, keyE q.e = (x, y)
    · have HYES := Aside0.mk hyes
      have hj0 : j ≠ 0 := by
        rintro rfl
        obtain ⟨q, hq, _⟩ := hyes
        rw [List.eq_nil_of_length_eq_zero hql] at hq
        simp at hq
      obtain ⟨m, rfl⟩ : ∃ m, j = m + 1 := ⟨j - 1, by omega⟩
      have hA : ∃ gr, A2 = some ⟨gr, 0, none⟩ := by
        rcases hP.row.slice with ⟨h1, h2⟩ | ⟨g, cap, cur, h1, _⟩
        · rw [h2] at hql
          simp at hql
        · injection h1 with h1 _ _
          exact ⟨g, h1⟩
      obtain ⟨gr, rfl⟩ := hA
      clear hP hql hH hO hpm hkey hF hf1 hf2 hjn hj0 hy HI hyes
      go_upto_region 4 with (first
        | (go_at_call 15; go_must (refine (take_some base g m gr c2 most qs x y _ HP.out HQL.out (Nat.le_trans HJN.out HL.out) HYES.out HH2.out).mono ?_; rintro e w13 ⟨p, rs, rfl, h1, h2, h3, h4, h5, h6⟩; rw [HTA.out]; have HK13 := Aside0.mk h1; have HP13 := Aside0.mk h2; have HPM13 := Aside0.mk h3; have HH13 := Aside0.mk h4; have HO13 := Aside0.mk h5; have HF13 := Aside0.mk h6; clear h1 h2 h3 h4 h5 h6)))
      refine gen_world (fun W9 hW9 => ?_)
      have hB9 : Below w13.heap.size w13 W9 := by rw [hW9]; with_reducible exact below_alloc (Below.refl _ _) _
      have hx9 : W9.heap[w13.heap.size]? = some (.cells #[.int .i64 p.e.f0, .int .i64 p.e.f1, .int .u64 p.e.f2, .int .i64 p.e.f3.f0, .int .i64 p.e.f3.f1, .int .i64 p.e.f4, .slice p.A p.e.f5.length p.c, .int .u64 p.e.f6] 33 (0, 0)) := by rw [hW9]; with_reducible exact heap_alloc_new _ _
      obtain ⟨x0, x1, x2, x3, x4, x5, x6, x7, -⟩ := cells8z hx9
      have hdis : ∀ k, (Value.slice A1 os.length c1).ownBlock = some k → (Value.slice (some ⟨gr, 0, none⟩) (m + 1) c2).ownBlock ≠ some k := fun k hk e => by
        have h1 := HF1.out k hk
        have h2 := HVB.out k (HF2.out k e)
        omega
      have HDI := Aside0.mk hdis
      have HO9 : Aside0 (PlR W9 base (.slice A1 os.length c1) os) := ⟨(HO.out.far HF13.out HP.out.row HP.out.hd HP.out.ht.1 HP.out.ht.2 hdis).below hB9⟩
      have HP9 := Aside0.mk (HP13.out.below hB9)
      have HOP : Aside0 (Own W9 base p.b p.e.f5) := ⟨Own.below HO13.out hB9⟩
      have HF9 : Aside0 (Fr w W9 (SP g (.slice A n c))) := ⟨(HF.out.trans HF13.out (fun k _ hk => by
        rcases hk with hk | hk
        · exact .inl hk
        · exact .inr (HF2.out k hk))).trans (Fr.ofBelow (fun _ => False) hB9) (fun _ _ h => h.elim)⟩
      have HBS9 : Aside0 (base ≤ W9.heap.size) := ⟨Nat.le_trans HBS.out HF9.out.size⟩
      have hyb : 0 ≤ y ∧ y < 200 := by
        have h1 : p.e ∈ ps.map (·.e) := HPM.out.mem_iff.1 (List.mem_append.2 (.inr (List.mem_map.2 ⟨p, HPM13.out.mem_iff.1 List.mem_cons_self, rfl⟩)))
        obtain ⟨p', hp', he⟩ := List.mem_map.1 h1
        have h2 := HBD.out p' hp'
        have he : p'.e = p.e := he
        rw [he] at h2
        simp only [rightE, decide_eq_true_eq] at h2
        have h3 := HK13.out
        simp only [keyE, Prod.mk.injEq] at h3
        omega
      have hk2 : (-1000000 : Int) ≤ y + 1 ∧ y + 1 ≤ 1000000 := by omega
      have hw1 := iw (x := y + 1) rfl hk2
      have hw2 := w64 (x := y + 1) rfl hk2
      clear hW9 hB9 hx9 hdis hyb hk2
      go_wp2_with (first
        | ((with_reducible refine gate_builtin (b := .append) (xs := #[.tmp 19, .tmp 21]) rfl ?_); at_builtin; go_must (refine app_pile base rfl (.tmp 19) (.tmp 21) 22 rfl Try.underlying22 (.slice A1 os.length c1) os.length os [p] rfl ?ho0 rfl ⟨W9.heap.size, 0, none⟩ 1 1 rfl rfl ?hnw ?hbd ?hbs ?hlt ?_; (case ho0 => exact HO9.out.below (below_alloc (Below.refl _ _) _)); (case hnw => exact fun j u hu => World.news_of_block (heap_alloc_new _ _) j u (by simpa [flE, enC] using hu)); (case hbd => (intro x hx; rw [List.mem_singleton.1 hx]; exact Own.below HOP.out (below_alloc (Below.refl _ _) _))); (case hbs => (have := HBS9.out; simp; omega)); (case hlt => (have h1 := HPM.out.length_eq; have h2 := HN.out; have h3 := HL.out; simp only [List.length_append, List.length_map] at h1; omega)); intro v26 w26 hp hf hat; have HV := Aside0.mk (run_step (W' := w26) HP9.out HO9.out HDI.out (below_alloc (Below.refl _ _) _) hf hat HF9.out HF1.out); obtain ⟨A26, c26, rfl, hc7, hC7⟩ := hp.reads; have HP26 := Aside0.mk hp; clear hp hf hat hC7 hc7)))
      have hql : rs.length = m := by
        have h1 := HPM13.out.length_eq
        have h2 := HQL.out
        simp only [List.length_cons] at h1
        omega
      have hl1 : (os ++ [p]).length = os.length + 1 := by simp
      have HVv := HV.out
      have HPv := HP26.out
      rw [hl1] at HVv HPv
      have hI : RunI w base g most (.slice A n c) ps x idx m (.int .i64 (y + 1)) (.slice A26 (os.length + 1) c26) w26 := by
        refine ⟨os ++ [p], rs, A26, c26, _, c2, by rw [hl1, HY.out]; congr 1; push_cast; omega, by rw [hl1], hql, HVv.1, HH13.out, HPv, ?_, ?_, HVv.2.1, HVv.2.2, fun k hk => HF2.out k hk⟩
        · rw [List.map_append, List.map_singleton]
          exact perm_snoc HPM.out (by simpa using HPM13.out.map (·.e))
        · intro i o ho
          by_cases hi : i < os.length
          · rw [List.getElem?_append_left hi] at ho
            exact HKY.out i o ho
          · rw [List.getElem?_append_right (by omega)] at ho
            have hi1 : i - os.length = 0 := by
              have := (List.getElem?_eq_some_iff.1 ho).1
              simp at this
              omega
            rw [hi1] at ho
            simp only [List.getElem?_cons_zero, Option.some.injEq] at ho
            rw [← ho, HK13.out, HY.out, show (i : Int) = os.length by omega]
      have HI' := Aside0.mk hI
      clear hI HVv HPv hl1 hql hw1 hw2
      go_roundg m
      case measure => exact Nat.lt_succ_self m
      case rel => exact ⟨m, rfl, by have := HJN.out; omega, HI'⟩
    · have HNO : Aside0 (∀ q ∈ qs, keyE q.e ≠ (x, y)) := ⟨fun q hq e => hyes ⟨q, hq, e⟩⟩
      clear hP hql hH hO hpm hkey hF hf1 hf2 hjn hy HI hyes
      go_wp2_with (first
        | (go_at_call 15; go_must (refine (take_none base g j c2 most A2 qs x y _ HP.out HQL.out (Nat.le_trans HJN.out HL.out) HNO.out).mono ?_; rintro e w13 ⟨rfl, hb⟩; rw [HTA.out]; have HB13 := Aside0.mk hb; clear hb)))
      go_ret
      have hb : Below wr.heap.size wr (w13.alloc (.cells zCells 33)) := below_alloc HB13.out _
      refine ⟨os, qs, A1, c1, A2, c2, rfl, by rw [HQL.out]; exact HP.out.below hb, by rw [HQL.out]; exact HH2.out, HO.out.below hb, HPM.out, HKY.out, by rw [← HY.out]; exact HNO.out, HF.out.trans (Fr.ofBelow (fun _ => False) hb) (fun _ _ h => h.elim), HF1.out, by rw [HQL.out]; exact HF2.out⟩
end Go.Proofs.Ytekhpogigndlkaa.K

namespace Go.Proofs.Ytekhpogigndlkaa.K
open Go.RowKit Go.Proofs.YtekhpogigndlkaaW.PrintWords Go.Proofs.YtekhpogigndlkaaW.PrintLast Go.Proofs.YtekhpogigndlkaaW.PrintMore
set_option linter.unusedVariables false
set_option linter.unusedSimpArgs false

def fnd (L : List En) (k : Ky) : Option En := L.find? (fun q => decide (keyE q = k))
theorem fnd_none {L : List En} {k : Ky} : fnd L k = none ↔ ∀ q ∈ L, keyE q ≠ k := by simp [fnd]
theorem fnd_some {L : List En} {k : Ky} {q : En} (hN : (L.map keyE).Nodup) (hq : q ∈ L) (hk : keyE q = k) : fnd L k = some q := by
  induction L with
  | nil => simp at hq
  | cons a l ih =>
    unfold fnd
    rw [List.map_cons, List.nodup_cons] at hN
    rw [List.find?_cons]
    rcases List.mem_cons.1 hq with rfl | hq
    · simp [hk]
    · have hne : keyE a ≠ k := fun e => hN.1 (by rw [e, ← hk]; exact List.mem_map.2 ⟨q, hq, rfl⟩)
      simp only [hne, decide_false]
      exact ih hN.2 hq
/-- What Hold says, and what it leaves. -/
def holdK (most : Int) (L : List En) (e : En) : Int := if rightE e = true then (match fnd L (keyE e) with
  | some q => if sameE q e = true then 8 else 9
  | none => if most ≤ L.length then 3 else 0) else 1
def holdL (most : Int) (L : List En) (e : En) : List En := if holdK most L e = 0 then L ++ [e] else L
/-- A buffer. -/
def Buf (W : World) (base g : Nat) (most : Int) (v : Value) (L : List En) : Prop :=
  ∃ (ps : List EP) (A : Option Addr) (c : Nat), v = .slice A ps.length c ∧ BufW W base g most v ps ∧ HeapF (ky ps) ps.length 0 ∧ (ps.map (·.e)).Perm L ∧ (L.map keyE).Nodup ∧ (∀ e ∈ L, rightE e = true) ∧ L.length ≤ 100000 ∧ (L.length : Int) ≤ most
theorem Buf.below {w W : World} {base g : Nat} {most : Int} {v : Value} {L : List En} (h : Buf w base g most v L) (hb : Below w.heap.size w W) : Buf W base g most v L := by
  obtain ⟨ps, A, c, h1, h2, h3, h4⟩ := h
  exact ⟨ps, A, c, h1, h2.below hb, h3, h4⟩
theorem Buf.perm {w : World} {base g : Nat} {most : Int} {v : Value} {L M : List En} (h : Buf w base g most v L) (hp : L.Perm M) : Buf w base g most v M := by
  obtain ⟨ps, A, c, h1, h2, h3, h4, h5, h6, h7, h8⟩ := h
  exact ⟨ps, A, c, h1, h2, h3, h4.trans hp, (hp.map keyE).nodup_iff.1 h5, fun e he => h6 e (hp.mem_iff.2 he), hp.length_eq ▸ h7, hp.length_eq ▸ h8⟩
/-- Its frame stands above its base. -/
theorem Buf.up {w : World} {base g : Nat} {most : Int} {v : Value} {L : List En} (h : Buf w base g most v L) : ∀ k, SP g v k → base ≤ k := by
  obtain ⟨ps, A, c, h1, h2, _⟩ := h
  intro k hk
  rcases hk with rfl | hk
  · exact h2.bs
  · rcases h2.row.slice with ⟨h3, _⟩ | ⟨g', cap, cur, h3, h4, _⟩
    · rw [h3] at hk
      simp [Value.ownBlock] at hk
    · rw [h3] at hk
      have hk : g' = k := Option.some.inj hk
      omega
theorem Buf.lt {w : World} {base g : Nat} {most : Int} {v : Value} {L : List En} (h : Buf w base g most v L) : ∀ k, SP g v k → k < w.heap.size := by
  obtain ⟨ps, A, c, h1, h2, _⟩ := h
  intro k hk
  rcases hk with rfl | hk
  · exact blk_lt h2.hd
  · exact own_lt h2.row.row k hk
theorem Buf.step {w0 w W : World} {g : Nat} {most : Int} {v : Value} {L : List En} (h : Buf w w0.heap.size g most v L) (hf : Fr w W (SP g v)) (hB : Below w0.heap.size w0 w) : Below w0.heap.size w0 W := hf.below hB h.up
theorem Buf.nodup {w : World} {base g : Nat} {most : Int} {v : Value} {L : List En} (h : Buf w base g most v L) : (L.map keyE).Nodup := by
  obtain ⟨ps, A, c, h1, h2, h3, h4, h5, _⟩ := h
  exact h5
theorem Buf.rights {w : World} {base g : Nat} {most : Int} {v : Value} {L : List En} (h : Buf w base g most v L) : ∀ e ∈ L, rightE e = true := by
  obtain ⟨ps, A, c, h1, h2, h3, h4, h5, h6, _⟩ := h
  exact h6
theorem Buf.len {w : World} {base g : Nat} {most : Int} {v : Value} {L : List En} (h : Buf w base g most v L) : L.length ≤ 100000 ∧ (L.length : Int) ≤ most := by
  obtain ⟨ps, A, c, h1, h2, h3, h4, h5, h6, h7⟩ := h
  exact h7
theorem bnew (base : Nat) (most : Int) (w : World) (h1 : 1 ≤ most) (h2 : most ≤ 16) (hb : base ≤ w.heap.size) :
    Calls Try.prog 8 #[.int .i64 most] w fun e w' => ∃ g, e = .returned (.tuple #[.pointer (some ⟨g, 0, none⟩), .int .i64 0]) ∧ Buf w' base g most (.slice none 0 0) [] ∧ w.heap.size ≤ g ∧ Below w.heap.size w w' := by
  refine (new_ok base most w h1 h2 hb).mono ?_
  rintro e w' ⟨g, rfl, h, hg, hB⟩
  exact ⟨g, rfl, ⟨[], none, 0, rfl, h, fun k hk hkn => absurd hkn (Nat.not_lt_zero k), List.Perm.refl _, List.nodup_nil, fun e he => by simp at he, Nat.zero_le _, by simp; omega⟩, hg, hB⟩
/-- What Hold leaves. -/
def BHoldP (w : World) (base g : Nat) (most : Int) (v : Value) (L : List En) (e : En) (W : World) : Prop :=
  ∃ v', Buf W base g most v' (holdL most L e) ∧ Fr w W (SP g v) ∧ (∀ k, v'.ownBlock = some k → v.ownBlock = some k ∨ w.heap.size ≤ k) ∧ (holdK most L e ≠ 0 → Below w.heap.size w W ∧ v' = v)
theorem nodup_snoc {L : List En} {x : En} (h : (L.map keyE).Nodup) (hx : ∀ q ∈ L, keyE q ≠ keyE x) : ((L ++ [x]).map keyE).Nodup := by
  rw [List.map_append]
  refine List.nodup_append.2 ⟨h, by simp, fun a ha b hb => ?_⟩
  obtain ⟨q, hq, rfl⟩ := List.mem_map.1 ha
  simp only [List.map_cons, List.map_nil, List.mem_singleton] at hb
  rw [hb]
  exact hx q hq
theorem bhold (base g : Nat) (most : Int) (v : Value) (L : List En) (p : EP) (w : World) (h : Buf w base g most v L) (hr : Rd w p.b p.e.f5) (hm : most ≤ 16) :
    Calls Try.prog 9 #[.pointer (some ⟨g, 0, none⟩), enV p] w fun e w' => e = .returned (.int .i64 (holdK most L p.e)) ∧ BHoldP w base g most v L p.e w' := by
  obtain ⟨ps, A, c, rfl, h2, h3, h4, h5, h6, h7, h8⟩ := h
  have hB : Buf w base g most (.slice A ps.length c) L := ⟨ps, A, c, rfl, h2, h3, h4, h5, h6, h7, h8⟩
  have hlen : ps.length = L.length := by simpa using h4.length_eq
  have stay : ∀ (e : Ending) (W : World) (k : Int), k = holdK most L p.e → k ≠ 0 → e = .returned (.int .i64 k) → Below w.heap.size w W → e = .returned (.int .i64 (holdK most L p.e)) ∧ BHoldP w base g most (.slice A ps.length c) L p.e W := fun e W k hk h0 he hb => by
    refine ⟨by rw [he, hk], _, ?_, Fr.ofBelow _ hb, fun k hk => .inl hk, fun _ => ⟨hb, rfl⟩⟩
    rw [holdL, if_neg (by rw [← hk]; exact h0)]
    exact hB.below hb
  by_cases hR : rightE p.e = true
  · by_cases hy : ∃ q ∈ ps, keyE q.e = keyE p.e
    · refine (hold_found base g _ most A c ps p w h2 rfl (by omega) hr hR hy).mono ?_
      rintro e w' ⟨⟨q, hq, hk, he⟩, hb⟩
      have hq' : q.e ∈ L := h4.mem_iff.1 (List.mem_map.2 ⟨q, hq, rfl⟩)
      refine stay e w' _ ?_ ?_ he hb
      · rw [holdK, if_pos hR, fnd_some h5 hq' hk]
      · split <;> decide
    · have hno : ∀ q ∈ ps, keyE q.e ≠ keyE p.e := fun q hq e => hy ⟨q, hq, e⟩
      have hno' : ∀ q ∈ L, keyE q ≠ keyE p.e := fun q hq e => by
        obtain ⟨q', hq', rfl⟩ := List.mem_map.1 (h4.mem_iff.2 hq)
        exact hno q' hq' e
      have hf := fnd_none.2 hno'
      by_cases hfull : most ≤ ps.length
      · refine (hold_full base g _ most A c ps p w h2 rfl (by omega) hr hR hno hfull).mono ?_
        rintro e w' ⟨he, hb⟩
        refine stay e w' 3 ?_ (by decide) he hb
        rw [holdK, if_pos hR, hf]
        simp only
        rw [if_pos (by omega)]
      · have hbl : p.e.f5.length ≤ 1100 := by
          simp only [rightE, decide_eq_true_eq] at hR
          exact hR.2.2.2.2.2.2.2.2.2
        refine (hold_ok base g _ most A c ps p w h2 rfl (by omega) hr hR hno hfull h3 (by omega) (by omega)).mono ?_
        rintro e w' ⟨rfl, gr, cap, qs, q, i1, i2, i3, i4, i5, i6⟩
        have hk : holdK most L p.e = 0 := by
          rw [holdK, if_pos hR, hf]
          simp only
          rw [if_neg (by omega)]
        have hql : qs.length = ps.length + 1 := by simpa using i3.length_eq
        refine ⟨by rw [hk], .slice (some ⟨gr, 0, none⟩) (ps.length + 1) cap, ?_, i5, fun k hk => ?_, fun h => absurd hk h⟩
        · rw [holdL, if_pos hk]
          refine ⟨qs, _, cap, by rw [hql], i1, by rw [hql]; exact i4, ?_, nodup_snoc h5 hno', fun e he => ?_, by simp; omega, by simp; omega⟩
          · refine (i3.map (·.e)).trans ?_
            rw [List.map_append, List.map_singleton, i2]
            exact List.Perm.append_right [p.e] h4
          · rcases List.mem_append.1 he with he | he
            · exact h6 e he
            · rw [List.mem_singleton.1 he]
              exact hR
        · injection hk with hk
          subst hk
          exact i6
  · have hR : rightE p.e = false := by simpa using hR
    refine (hold_bad base g _ most A c ps p w h2 rfl (by omega) hr hR).mono ?_
    rintro e w' ⟨he, hb⟩
    refine stay e w' 1 ?_ (by decide) he hb
    rw [holdK, if_neg (by rw [hR]; decide)]
/-- What All leaves. -/
def BAllP (w : World) (base : Nat) (L : List En) (e : Ending) (W : World) : Prop :=
  ∃ (os : List EP) (A : Option Addr) (c : Nat), e = .returned (.slice A os.length c) ∧ PlR W base (.slice A os.length c) os ∧ (os.map (·.e)).Perm L ∧ srt (os.map (·.e)) ∧ Below w.heap.size w W ∧ (∀ k, (Value.slice A os.length c).ownBlock = some k → w.heap.size ≤ k)
theorem ball (base g : Nat) (most : Int) (v : Value) (L : List En) (w : World) (h : Buf w base g most v L) :
    Calls Try.prog 10 #[.pointer (some ⟨g, 0, none⟩)] w fun e w' => BAllP w base L e w' := by
  obtain ⟨ps, A, c, rfl, h2, h3, h4, h5, h6, h7, h8⟩ := h
  have hlen : ps.length = L.length := by simpa using h4.length_eq
  refine (all_calls base g _ most A c ps w h2 rfl (by omega) h3 (fun p hp => ?_)).mono ?_
  · have := h6 p.e (h4.mem_iff.1 (List.mem_map.2 ⟨p, hp, rfl⟩))
    simp only [rightE, decide_eq_true_eq] at this
    exact this.2.2.2.2.2.2.2.2.2
  · rintro e w' ⟨os, A', c', i1, i2, i3, i4, i5, i6⟩
    exact ⟨os, A', c', i1, i2, i3.trans h4, i4, i5, i6⟩
/-- What Run leaves. -/
def BRunP (w : World) (base g : Nat) (most : Int) (v : Value) (L : List En) (x idx : Int) (e : Ending) (W : World) : Prop :=
  ∃ (os : List EP) (M : List En) (A : Option Addr) (c : Nat) (v' : Value), e = .returned (.slice A os.length c) ∧ Buf W base g most v' M ∧ PlR W base (.slice A os.length c) os ∧
    (os.map (·.e) ++ M).Perm L ∧ (∀ (i : Nat) (o : EP), os[i]? = some o → keyE o.e = (x, idx + i)) ∧ (∀ q ∈ M, keyE q ≠ (x, idx + os.length)) ∧
    Fr w W (SP g v) ∧ (∀ k, (Value.slice A os.length c).ownBlock = some k → w.heap.size ≤ k) ∧ (∀ k, v'.ownBlock = some k → v.ownBlock = some k)
theorem brun (base g : Nat) (most : Int) (v : Value) (L : List En) (x idx : Int) (w : World) (h : Buf w base g most v L) :
    Calls Try.prog 11 #[.pointer (some ⟨g, 0, none⟩), .int .i64 x, .int .i64 idx] w fun e w' => BRunP w base g most v L x idx e w' := by
  obtain ⟨ps, A, c, rfl, h2, h3, h4, h5, h6, h7, h8⟩ := h
  have hlen : ps.length = L.length := by simpa using h4.length_eq
  refine (run_calls base g _ most A c ps x idx w h2 rfl (by omega) h3 (fun p hp => h6 p.e (h4.mem_iff.1 (List.mem_map.2 ⟨p, hp, rfl⟩)))).mono ?_
  rintro e w' ⟨os, qs, A1, c1, A2, c2, i1, i2, i3, i4, i5, i6, i7, i8, i9, i10⟩
  have hpm : (os.map (·.e) ++ qs.map (·.e)).Perm L := i5.trans h4
  have hl := hpm.length_eq
  simp only [List.length_append, List.length_map] at hl
  have hnd := (hpm.map keyE).nodup_iff.2 h5
  rw [List.map_append] at hnd
  refine ⟨os, qs.map (·.e), A1, c1, _, i1, ⟨qs, A2, c2, rfl, i2, i3, List.Perm.refl _, (List.nodup_append.1 hnd).2.1, fun e he => h6 e (hpm.mem_iff.1 (List.mem_append.2 (.inr he))), by simp; omega, by simp; omega⟩, i4, hpm, i6, fun q hq => ?_, i8, i9, i10⟩
  obtain ⟨q', hq', rfl⟩ := List.mem_map.1 hq
  exact i7 q' hq'
theorem blen (base g : Nat) (most : Int) (v : Value) (L : List En) (w : World) (h : Buf w base g most v L) :
    Calls Try.prog 13 #[.pointer (some ⟨g, 0, none⟩)] w fun e w' => e = .returned (.int .i64 L.length) ∧ Below w.heap.size w w' := by
  obtain ⟨ps, A, c, rfl, h2, h3, h4, h5, h6, h7, h8⟩ := h
  have hlen : ps.length = L.length := by simpa using h4.length_eq
  rw [← hlen]
  exact blen_calls base g _ most A c ps w h2
end Go.Proofs.Ytekhpogigndlkaa.K

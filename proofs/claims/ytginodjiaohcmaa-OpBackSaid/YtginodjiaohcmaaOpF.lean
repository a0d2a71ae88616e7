/- cachetteref01.Reader.Bool; what a reader takes of an operation, as a Lean function. -/
import Derived.Test.YtginodjiaohcmaaOpD
namespace Go.Proofs.Ytginodjiaohcmaa.K
open Go.RowKit Go.Proofs.YtginodjiaohcmaaW.PrintWords Go.Proofs.YtginodjiaohcmaaW.PrintLast Go.Proofs.YtginodjiaohcmaaW.PrintMore
set_option linter.unusedVariables false
set_option linter.unusedSimpArgs false

theorem boolR_k {l : List Int} {k : Int} (h : k ≠ 0) : boolR l k = (false, l, k) := by simp [boolR, takeR, h]
theorem boolR_nil : boolR [] 0 = (false, [], 4) := by simp [boolR, takeR]
theorem boolR_cons (y : Int) (l : List Int) : boolR (y :: l) 0 = if 1 < y then (false, [], 4) else (y == 1, l, 0) := by
  have h : ¬ (y :: l).length < 1 := by simp
  simp [boolR, takeR, rd]

set_option maxHeartbeats 800000 in
theorem frbool_calls (g : Nat) (l : List Int) (k : Int) (w0 w : World) (hI : Rdr 63 w0 w g l k) (hB : Below w0.heap.size w0 w) :
    Calls Try.prog 35 #[.pointer (some ⟨g, 0, none⟩)] w fun e w' => e = .returned (.bool (boolR l k).1) ∧ Rdr 63 w0 w' g (boolR l k).2.1 (boolR l k).2.2 ∧ Stp w0 w w' g := by
  have HI := Aside0.mk hI
  have HB := Aside0.mk hB
  obtain ⟨v, hb, hg, hR, hl⟩ := hI
  have h0 : w.cell? ⟨g, 0, none⟩ = some v := (blk_cell hb 0).trans rfl
  have h1 : w.cell? ⟨g, 1, none⟩ = some (.int .i64 k) := (blk_cell hb 1).trans rfl
  have f0 : w.frozen? ⟨g, 0, none⟩ = false := blk_frozen hb 0
  have HBK := Aside0.mk hb
  have HL := Aside0.mk hl
  clear hB hb
  by_cases hk : k = 0
  · subst hk
    rcases l with _ | ⟨y, r⟩
    · obtain ⟨A, c, rfl, hc, hC0⟩ := hR
      clear hC0 hl
      go_enter Try.func35, Try.ntmps35
      go_wp2_with (first
        | (go_at_call 59; go_must ((refine (ffail_calls g [] 0 4 w0 _ (by exact HI.out) (by exact HB.out)).mono ?_; rintro e w3 ⟨rfl, hr, hs⟩; have HS2 := Aside0.mk hs; have HR2 := Aside0.mk hr; clear hr hs))))
      go_ret
      rw [boolR_nil]
      exact ⟨rfl, HR2.out, HS2.out⟩
    · obtain ⟨A, c, rfl, hc, hC0⟩ := hR
      have hC1 := Kd.C_below hC0 HB.out
      obtain ⟨ad, rfl, hx0⟩ := Kd.at_int hC1 0 (by omega) (by simp)
      have hy : rd (y :: r) 0 = y := rfl
      rw [hy] at hx0
      simp only [Int.toNat_zero, Addr.add_zero'] at hx0
      have HC := Aside0.mk hC0
      have hm := hl.2
      have hlen : (y :: r).length = r.length + 1 := rfl
      clear hC1 hl
      obtain ⟨n, hn⟩ : ∃ n, (y :: r).length = n := ⟨_, rfl⟩
      have Hn := Aside0.mk hn
      have hn1 : 1 ≤ n := by omega
      have hnz : ((n : Int) == 0) = false := by simp; omega
      rw [hn] at h0 hc hm
      clear hn hlen hC0
      by_cases hy1 : 1 < y
      · go_enter Try.func35, Try.ntmps35
        go_wp2_with (first
          | (go_at_call 59; go_must ((refine (ffail_calls g (y :: r) 0 4 w0 _ (by exact HI.out) (by exact HB.out)).mono ?_; rintro e w3 ⟨rfl, hr, hs⟩; have HS2 := Aside0.mk hs; have HR2 := Aside0.mk hr; clear hr hs))))
        go_ret
        rw [boolR_cons, if_pos hy1]
        exact ⟨rfl, HR2.out, HS2.out⟩
      · obtain ⟨A1, hcut, hR1⟩ := cut_from (P := Try.prog) 24 Try.underlying24 info5 (some ad) (y :: r) c 1 (by simp) (by rw [Hn.out]; exact hc)
        have HR1 := Aside0.mk hR1
        rw [Hn.out] at hcut
        replace hcut : ∀ W, (Instr.slice 24 (.slice (some ad) n c) (some (.int .i64 1)) none none).run Try.prog W = .ok (.slice A1 (n - 1) (c - 1)) W := fun W => hcut W
        clear hR1
        go_enter Try.func35, Try.ntmps35
        go_wp2
        go_ret
        rw [boolR_cons, if_neg (by omega)]
        have hR2 := HR1.out w0 HC.out
        rw [Hn.out] at hR2
        exact ⟨rfl, ⟨_, by simpa using blk_set HBK.out 0 (.slice A1 (n - 1) (c - 1)), hg, by simpa using hR2, by simpa using HL.out.drop 1⟩, HB.out.setCell hg _, (KeepBut.refl w g none).set_ 0 _⟩
  · have hk' : (k == 0) = false := by simpa using hk
    clear hR hl
    go_enter Try.func35, Try.ntmps35
    go_wp2
    go_ret
    rw [boolR_k hk]
    exact ⟨rfl, HI.out, Stp.refl g HB.out⟩

/-- An operation at block g7 of W that is being read, by the reader at gr; g4: where it is to go (zero yet). -/
structure RdI (T : Nat) (w0 W : World) (g7 g4 gr : Nat) (cs : Array Value) (l : List Int) (k : Int) : Prop where
  h7 : W.heap[g7]? = some (.cells cs 26 (0, 0))
  h4 : W.heap[g4]? = some (.cells #[.int .i64 0, .int .i64 0, .int .i64 0, .int .i64 0, .int .i64 0, .int .i64 0, .int .i64 0, .bool false, .string ({ data := #[] }), (.slice none 0 0)] 26 (0, 0))
  rdr : Rdr T w0 W gr l k
  below : Below w0.heap.size w0 W
  n7 : w0.heap.size ≤ g7
  n4 : w0.heap.size ≤ g4
  e7 : g7 ≠ gr
  e4 : g4 ≠ gr
  e74 : g7 ≠ g4
theorem RdI.call {T : Nat} {w0 W W1 : World} {g7 g4 gr : Nat} {cs : Array Value} {l l1 : List Int} {k k1 : Int} (h : RdI T w0 W g7 g4 gr cs l k) (hr : Rdr T w0 W1 gr l1 k1) (hs : Stp w0 W W1 gr) : RdI T w0 W1 g7 g4 gr cs l1 k1 :=
  ⟨hs.keep.blk h.h7 h.e7 (by simp), hs.keep.blk h.h4 h.e4 (by simp), hr, hs.below, h.n7, h.n4, h.e7, h.e4, h.e74⟩
theorem Rdr.far' {T : Nat} {w0 W : World} {g : Nat} {l : List Int} {k : Int} (h : Rdr T w0 W g l k) {g' : Nat} (hp : g ≠ g') (j : Nat) (u : Value) : Rdr T w0 (W.setCell ⟨g', j, none⟩ u) g l k := h.far (p := ⟨g', j, none⟩) hp u
theorem RdI.set {T : Nat} {w0 W : World} {g7 g4 gr : Nat} {cs : Array Value} {l : List Int} {k : Int} (h : RdI T w0 W g7 g4 gr cs l k) (j : Nat) (u : Value) : RdI T w0 (W.setCell ⟨g7, j, none⟩ u) g7 g4 gr (cs.setIfInBounds j u) l k :=
  ⟨blk_set h.h7 j u, blk_far (p := ⟨g7, j, none⟩) h.h4 (Ne.symm h.e74) u, h.rdr.far' (Ne.symm h.e7) j u, h.below.setCell (p := ⟨g7, j, none⟩) h.n7 u, h.n7, h.n4, h.e7, h.e4, h.e74⟩
theorem RdI.eq {T : Nat} {w0 W : World} {g7 g4 gr : Nat} {cs cs' : Array Value} {l : List Int} {k : Int} (h : RdI T w0 W g7 g4 gr cs l k) (e : cs = cs') : RdI T w0 W g7 g4 gr cs' l k := e ▸ h
theorem RdI.below' {T : Nat} {w0 W W1 : World} {g7 g4 gr : Nat} {cs : Array Value} {l : List Int} {k : Int} (h : RdI T w0 W g7 g4 gr cs l k) (hb : Below W.heap.size W W1) : RdI T w0 W1 g7 g4 gr cs l k :=
  ⟨blk_below h.h7 hb, blk_below h.h4 hb, h.rdr.below hb, below_step h.below hb, h.n7, h.n4, h.e7, h.e4, h.e74⟩
theorem RdI.f7 {T : Nat} {w0 W : World} {g7 g4 gr : Nat} {cs : Array Value} {l : List Int} {k : Int} (h : RdI T w0 W g7 g4 gr cs l k) (j : Nat) : W.frozen? ⟨g7, j, none⟩ = false := blk_frozen h.h7 j
theorem RdI.f4 {T : Nat} {w0 W : World} {g7 g4 gr : Nat} {cs : Array Value} {l : List Int} {k : Int} (h : RdI T w0 W g7 g4 gr cs l k) (j : Nat) : W.frozen? ⟨g4, j, none⟩ = false := blk_frozen h.h4 j

theorem countR_le4 (l : List Int) (k : Int) : (countR 4 l k).1 ≤ 4 := by
  unfold countR
  split
  · simp
  · split
    · simp
    · dsimp only
      omega
/-- What a reader takes of an operation: its parts, what is left, what is wrong. -/
structure OpR where
  k : Int
  u : Int
  b : Int
  p : Int
  c : Int
  d : Bool
  s : ByteArray
  dt : List Int
  rest : List Int
  err : Int
def readK (t a : Int) : Int × List Int × Int → OpR
  | (k, l1, k1) =>
    if k = 1 then
      (match getS l1 k1 with | (p, c, l2, k2) => match boolR l2 k2 with | (d, l3, k3) => match bytesR 24 l3 k3 with | (n, l4, k4) => ⟨1, t, a, p, c, d, strOfNums n, [], l4, k4⟩)
    else if k = 2 then
      (match getS l1 k1 with | (u, b, l2, k2) => match getS l2 k2 with | (p, c, l3, k3) => match bytesR 24 l3 k3 with | (n, l4, k4) => ⟨2, u, b, p, c, false, strOfNums n, [], l4, k4⟩)
    else if k = 3 then
      (match getS l1 k1 with | (u, b, l2, k2) => ⟨3, u, b, 0, 0, false, ⟨#[]⟩, [], l2, k2⟩)
    else if k = 4 then
      (match getS l1 k1 with | (u, b, l2, k2) => match bytesR 400 l2 k2 with | (n, l3, k3) => ⟨4, u, b, 0, 0, false, ⟨#[]⟩, n, l3, k3⟩)
    else ⟨k, t, a, 0, 0, false, ⟨#[]⟩, [], l1, k1⟩
def readR (t a : Int) (l : List Int) : OpR := readK t a (countR 4 l 0)
/-- The kind that Read tells. -/
noncomputable def readE (t a : Int) (l : List Int) : Int :=
  if doneR (readR t a l).rest (readR t a l).err ≠ 0 then doneR (readR t a l).rest (readR t a l).err
  else if rightO (readR t a l).k t a (readR t a l).u (readR t a l).b (readR t a l).p (readR t a l).c (readR t a l).d (readR t a l).s (readR t a l).dt.length = true then 0 else 4
end Go.Proofs.Ytginodjiaohcmaa.K

/- slices.symMergeCmpFunc at any length, slices.stableCmpFunc, slices.SortStableFunc. bytes.Clone; op.own; append onto a row of operations. slices.CompactFunc of operations. op.Sort. What a sorted list of operations is; Light, Less, All. -/
import Derived.Test.YtaiakklflmhpmaaME
import Derived.Test.YtaiakklflmhpmaaRef3
namespace Go.Proofs.Ytaiakklflmhpmaa.K
open Go.RowKit Go.Proofs.YtaiakklflmhpmaaW.PrintWords Go.Proofs.YtaiakklflmhpmaaW.PrintLast Go.Proofs.YtaiakklflmhpmaaW.PrintMore
set_option linter.unusedVariables false
set_option linter.unusedSimpArgs false

theorem sym_calls (base gr n cap : Nat) : ∀ M, SymC base gr n cap M
 | 0 => fun a m b P l r R w hM h ha hm hb h1 h2 hl hr hn => by omega
 | M + 1 => fun a m b P l r R w hM h ha hm hb h1 h2 hl hr hn => by
  by_cases e1 : l.length = 1
  ·obtain ⟨x, rfl⟩ := List.length_eq_one_iff.1 e1
   exact sym_left base gr n cap a m b P r R x w h ha (by simp at hm; omega) hb hr hn
  ·by_cases e2 : r.length = 1
   ·obtain ⟨x, rfl⟩ := List.length_eq_one_iff.1 e2
    exact sym_right base gr n cap a m b P l R x w h ha (by omega) (by simpa using hb) hl hn e1
   ·exact sym_rec base gr n cap M a m b P l r R w (sym_calls base gr n cap M) hM h ha hm hb (by omega) (by omega) hl hr hn
/-- Part of a list is sorted in blocks. -/
structure Stb (w W : World) (base gr n cap bs : Nat) (ps : List QP) (a : Nat) (A R : List QP) : Prop where
 s : Srt w W base gr n cap (A ++ R)
 len : A.length = a
 cl : Cl kO ps (A ++ R)
 bl : Bl kO bs A
theorem Stb.below {w W X : World} {base gr n cap bs a : Nat} {ps A R : List QP} (h : Stb w W base gr n cap bs ps a A R) (hb : Below W.heap.size W X) : Stb w X base gr n cap bs ps a A R := ⟨h.s.below hb, h.len, h.cl, h.bl⟩
theorem Stb.rest {w W : World} {base gr n cap bs a : Nat} {ps A R : List QP} (h : Stb w W base gr n cap bs ps a A R) : a + R.length = n := by
 have h1 := h.s.len
 rw [List.length_append, h.len] at h1
 exact h1
/-- One more block. -/
theorem Stb.more {w W X : World} {base gr n cap bs a q k : Nat} {ps A R S : List QP} (h : Stb w W base gr n cap bs ps a A R) (ha : a = q * bs) (hs : Srt W X base gr n cap (A ++ S ++ R.drop k)) (hS : sO kO S) (hc : Cl kO (R.take k) S) (hk : S.length ≤ bs) : Stb w X base gr n cap bs ps (a + S.length) (A ++ S) (R.drop k) := by
 refine ⟨h.s.next hs, by rw [List.length_append, h.len], h.cl.trans ?_, h.bl.snoc (by rw [h.len]; exact ha) hS hk⟩
 have h1 := (hc.left A).right (R.drop k)
 rw [List.append_assoc A, List.take_append_drop] at h1
 exact h1
set_option maxRecDepth 100000 in
set_option maxHeartbeats 16000000 in
theorem stable_calls (base gr n cap : Nat) (ps : List QP) (w : World) (h : Srt w w base gr n cap ps) (hn : n ≤ 100000) :
  Calls Try.prog 38 #[.slice (some ⟨gr, 0, none⟩) n cap, .int .i64 n, .func (.func 21) #[] #[]] w fun e w' => e = .returned (.tuple #[]) ∧ ∃ qs, Srt w w' base gr n cap qs ∧ sO kO qs ∧ Cl kO ps qs := by
 have HN := Aside0.mk hn
 have HI0 : Aside0 (Stb w w base gr n cap 20 ps 0 [] ps) := ⟨by simpa using h, rfl, Cl.refl _, Bl.nil _⟩
 clear h hn
 go_enter Try.func38, Try.ntmps38
 go_wp2
 go_loopg [7, 8] n (fun gg v7 v8 wr => ∃ (a b q : Nat) (A R : List QP), gg = n - a ∧ v7 = .int .i64 a ∧ v8 = .int .i64 b ∧ b = a + 20 ∧ a = q * 20 ∧ Aside0 (Stb w wr base gr n cap 20 ps a A R))
 case atStart => exact ⟨0, 20, 0, [], ps, rfl, rfl, rfl, rfl, rfl, HI0⟩
 case round =>
  clear HI0
  obtain ⟨a, b, q, A, R, hg, rfl, rfl, hb, ha, HS⟩ := hrel
  have hr := HS.out.rest
  have hn := HN.out
  have HG := Aside0.mk (And.intro hg (And.intro hb (And.intro ha hr)))
  clear hg
  by_cases hbn : b ≤ n
  ·have q1 : (b : Int) ≤ n := by omega
   have e1 : (b : Int) + 20 = ((b + 20 : Nat) : Int) := by omega
   have k1 : (-1000000 : Int) ≤ ((b + 20 : Nat) : Int) ∧ ((b + 20 : Nat) : Int) ≤ 1000000 := by omega
   have HT : Aside0 ((R.take 20).length = 20 ∧ A.length + (R.take 20).length = b ∧ b ≤ n) := ⟨by rw [List.length_take]; omega, by rw [HS.out.len, List.length_take]; omega, hbn⟩
   have hw1 := iw e1 k1
   have hw2 := w64 e1 k1
   clear hb ha hr hn hbn e1 k1
   go_wp2_with (first
    | (go_at_call 55; go_must (refine (ins_calls base gr n cap a b A (R.take 20) (R.drop 20) _ (by have g := HS.out.s.self; rw [List.append_assoc, List.take_append_drop]; exact g) HS.out.len HT.out.2.1 HN.out).mono ?_; rintro e w9 ⟨rfl, S, hs, ho, hc⟩; have HL : Aside0 (S.length = 20) := ⟨hc.1.length_eq.symm.trans HT.out.1⟩; have HS9 := Aside0.mk (HS.out.more HG.out.2.2.1 hs ho hc (Nat.le_of_eq HL.out)); clear hs ho hc)))
   clear hw1 hw2
   go_roundg (n - b)
   case measure => rw [HG.out.1]; have h1 := HG.out.2; have h2 := HT.out; omega
   case rel => exact ⟨b, b + 20, q + 1, _, _, rfl, rfl, rfl, rfl, by have h1 := HG.out.2; omega, ⟨by
    have g := HS9.out
    rw [HL.out, ← HG.out.2.1] at g
    exact g⟩⟩
  ·have q1 : ¬ (b : Int) ≤ n := by omega
   have HT : Aside0 (R.length ≤ 20 ∧ A.length + R.length = n) := ⟨by omega, by rw [HS.out.len]; exact hr⟩
   clear hb ha hr hn hbn
   go_upto_region 7 with (first
    | (go_at_call 55; go_must (refine (ins_calls base gr n cap a n A R [] _ (by have g := HS.out.s.self; rw [List.append_nil]; exact g) HS.out.len HT.out.2 HN.out).mono ?_; rintro e w9 ⟨rfl, S, hs, ho, hc⟩; have HB9 : Aside0 (Srt w w9 base gr n cap (A ++ S) ∧ Cl kO ps (A ++ S) ∧ Bl kO 20 (A ++ S)) := (Aside0.mk ⟨by rw [List.append_nil] at hs; exact HS.out.s.next hs, HS.out.cl.trans (hc.left A), HS.out.bl.snoc (by rw [HS.out.len]; exact HG.out.2.2.1) ho (by rw [← hc.1.length_eq]; exact HT.out.1)⟩); clear hs ho hc)))
   clear q1
   go_loopg [6] n (fun gg v6 wr => ∃ (bs : Nat) (qs : List QP), gg = n + 20 - bs ∧ v6 = .int .i64 bs ∧ 20 ≤ bs ∧ Aside0 (Srt w wr base gr n cap qs ∧ Cl kO ps qs ∧ Bl kO bs qs))
   case atStart => exact ⟨20, A ++ S, by simp, rfl, Nat.le_refl _, HB9⟩
   case round =>
    clear HB9 HT HG HS
    obtain ⟨bs, qs, hg, rfl, hbs, HB⟩ := hrel
    have HG2 := Aside0.mk (And.intro hg hbs)
    have hn := HN.out
    clear hg
    by_cases hlt : bs < n
    ·obtain ⟨b2, hb2⟩ : ∃ b2, b2 = 2 * bs := ⟨_, rfl⟩
     have q0 : (bs : Int) < n := by omega
     have e1 : (2 : Int) * (bs : Int) = (b2 : Int) := by omega
     have e2 : (bs : Int) * 2 = (b2 : Int) := by omega
     have k1 : (-1000000 : Int) ≤ (b2 : Int) ∧ (b2 : Int) ≤ 1000000 := by omega
     have HB2 : Aside0 (b2 = 2 * bs ∧ bs < n ∧ 20 ≤ bs) := ⟨hb2, hlt, hbs⟩
     have HE1 := Aside0.mk (And.intro e1 (And.intro e2 k1))
     have hw1 := iw e1 k1
     have hw2 := w64 e1 k1
     clear hb2 hbs hlt e1 e2 k1 hn
     go_wp2
     clear hw1 hw2 q0
     go_loopg [7, 8] n (fun gi v7 v8 wi => ∃ (a b q : Nat) (A R : List QP), gi = n - a ∧ v7 = .int .i64 a ∧ v8 = .int .i64 b ∧ b = a + b2 ∧ a = q * b2 ∧ Aside0 (Stb w wi base gr n cap b2 qs a A R) ∧ Aside0 (Bl kO bs R))
     case atStart => exact ⟨0, b2, 0, [], qs, rfl, rfl, rfl, by simp, by simp, ⟨⟨by have g := HB.out.1.below (by repeat (first | exact Below.refl _ _ | apply pw_below_drewN | apply below_drew1)); simpa using g, rfl, Cl.refl _, Bl.nil _⟩⟩, ⟨HB.out.2.2⟩⟩
     case round =>
      obtain ⟨a, b, q, A, R, hg, rfl, rfl, hb, ha, HS, HBL⟩ := hrel
      have hr := HS.out.rest
      have hn := HN.out
      have hb2 := HB2.out
      have HG := Aside0.mk (And.intro hg (And.intro hb (And.intro ha hr)))
      obtain ⟨m, hm⟩ : ∃ m, m = a + bs := ⟨_, rfl⟩
      have e3 : (a : Int) + (bs : Int) = (m : Int) := by omega
      have k3 : (-1000000 : Int) ≤ (m : Int) ∧ (m : Int) ≤ 1000000 := by omega
      have HE3 := Aside0.mk (And.intro e3 k3)
      clear hg
      by_cases hbn : b ≤ n
      ·have q1 : (b : Int) ≤ n := by omega
       obtain ⟨b3, hb3⟩ : ∃ b3, b3 = b + b2 := ⟨_, rfl⟩
       have e4 : (b : Int) + (b2 : Int) = (b3 : Int) := by omega
       have k4 : (-1000000 : Int) ≤ (b3 : Int) ∧ (b3 : Int) ≤ 1000000 := by omega
       have HT : Aside0 ((R.take bs).length + ((R.drop bs).take bs).length = b2 ∧ a + (R.take bs).length = m ∧ m + ((R.drop bs).take bs).length = b ∧ 0 < (R.take bs).length ∧ 0 < ((R.drop bs).take bs).length ∧ sO kO (R.take bs) ∧ sO kO ((R.drop bs).take bs)) := ⟨by rw [List.length_take, List.length_take, List.length_drop]; omega, by rw [List.length_take]; omega, by rw [List.length_take, List.length_drop]; omega, by rw [List.length_take]; omega, by rw [List.length_take, List.length_drop]; omega, HBL.out.two.1, HBL.out.two.2⟩
       have HTK : Aside0 (R.take bs ++ (R.drop bs).take bs = R.take b2 ∧ A ++ R = A ++ R.take bs ++ (R.drop bs).take bs ++ R.drop b2) := ⟨by
        have h1 : R.take (bs + bs) = R.take bs ++ (R.drop bs).take bs := List.take_add
        have h2 : b2 = bs + bs := by omega
        rw [h2, h1]
        refine ⟨rfl, ?_⟩
        rw [List.append_assoc A, ← h1, List.append_assoc, List.take_append_drop]⟩
       have HB3 : Aside0 (b3 = b + b2 ∧ b ≤ n) := ⟨hb3, hbn⟩
       clear hb ha hr hn hbn hb2 hm hb3 e3 k3
       have hw1 := iw HE1.out.1 HE1.out.2.2
       have hw2 := w64 HE1.out.1 HE1.out.2.2
       have hw3 := iw HE3.out.1 HE3.out.2
       have hw4 := w64 HE3.out.1 HE3.out.2
       have hw5 := iw e4 k4
       have hw6 := w64 e4 k4
       clear e4 k4
       go_wp2_with (first
        | (go_at_call 56; go_must (refine (sym_calls base gr n cap b2 a m b A (R.take bs) ((R.drop bs).take bs) (R.drop b2) _ (Nat.le_of_eq HT.out.1) (by have g := (HS.out.s.self).below (by repeat (first | exact Below.refl _ _ | apply pw_below_drewN | apply below_drew1)); rw [HTK.out.2] at g; exact g) HS.out.len HT.out.2.1 HT.out.2.2.1 HT.out.2.2.2.1 HT.out.2.2.2.2.1 HT.out.2.2.2.2.2.1 HT.out.2.2.2.2.2.2 HN.out).mono ?_; rintro e w19 ⟨rfl, S2, hs, ho, hc⟩; have HL19 : Aside0 (S2.length = b2) := ⟨hc.1.length_eq.symm.trans (List.length_append.trans HT.out.1)⟩; have HS19 := Aside0.mk (HS.out.more (bs := b2) (S := S2) (k := b2) HG.out.2.2.1 (by exact hs) ho (by rw [← HTK.out.1]; exact hc) (Nat.le_of_eq HL19.out)); clear hs ho hc)))
       clear hw1 hw2 hw3 hw4 hw5 hw6
       go_roundg (n - b)
       case measure => rw [HG.out.1]; have h1 := HG.out.2; have h2 := HB3.out; have h3 := HB2.out; omega
       case rel => exact ⟨b, b3, q + 1, _, _, rfl, rfl, rfl, HB3.out.1, by rw [Nat.add_mul, Nat.one_mul, ← HG.out.2.2.1]; exact HG.out.2.1, ⟨by
        have g := HS19.out
        rw [HL19.out, ← HG.out.2.1] at g
        exact g⟩, ⟨by have g := HBL.out.drop (q := 2); rw [← HB2.out.1] at g; exact g⟩⟩
      ·have q1 : ¬ (b : Int) ≤ n := by omega
       by_cases hmn : m < n
       ·have q2 : (m : Int) < n := by omega
        have HT : Aside0 ((R.take bs).length + (R.drop bs).length = R.length ∧ a + (R.take bs).length = m ∧ m + (R.drop bs).length = n ∧ 0 < (R.take bs).length ∧ 0 < (R.drop bs).length ∧ sO kO (R.take bs) ∧ sO kO (R.drop bs)) := ⟨by rw [List.length_take, List.length_drop]; omega, by rw [List.length_take]; omega, by rw [List.length_drop]; omega, by rw [List.length_take]; omega, by rw [List.length_drop]; omega, HBL.out.two.1, by
         have g := HBL.out.two.2
         rw [List.take_of_length_le (by rw [List.length_drop]; omega)] at g
         exact g⟩
        have HTK : Aside0 (A ++ R = A ++ R.take bs ++ R.drop bs ++ [] ∧ R.length ≤ b2) := ⟨by rw [List.append_nil, List.append_assoc, List.take_append_drop], by omega⟩
        clear hb ha hr hn hbn hb2 hm e3 k3 hmn
        have hw3 := iw HE3.out.1 HE3.out.2
        have hw4 := w64 HE3.out.1 HE3.out.2
        have hw5 := iw HE1.out.2.1 HE1.out.2.2
        have hw6 := w64 HE1.out.2.1 HE1.out.2.2
        go_wp2_with (first
        | (go_at_call 56; go_must (refine (sym_calls base gr n cap R.length a m n A (R.take bs) (R.drop bs) [] _ (Nat.le_of_eq HT.out.1) (by have g := (HS.out.s.self).below (by repeat (first | exact Below.refl _ _ | apply pw_below_drewN | apply below_drew1)); rw [HTK.out.1] at g; exact g) HS.out.len HT.out.2.1 HT.out.2.2.1 HT.out.2.2.2.1 HT.out.2.2.2.2.1 HT.out.2.2.2.2.2.1 HT.out.2.2.2.2.2.2 HN.out).mono ?_; rintro e w19 ⟨rfl, S2, hs, ho, hc⟩; have HB19 : Aside0 (Srt w w19 base gr n cap (A ++ S2) ∧ Cl kO ps (A ++ S2) ∧ Bl kO b2 (A ++ S2)) := (Aside0.mk ⟨(by rw [List.append_nil] at hs; exact HS.out.s.next hs), (HB.out.2.1.trans HS.out.cl).trans ((by have g := hc.left A; rw [List.take_append_drop] at g; exact g)), HS.out.bl.snoc (by rw [HS.out.len]; exact HG.out.2.2.1) ho (by rw [← hc.1.length_eq, List.take_append_drop]; exact HTK.out.2)⟩); clear hs ho hc)))
        clear hw3 hw4 hw5 hw6
        go_roundg (n + 20 - b2)
        case measure => rw [HG2.out.1]; have h1 := HB2.out; omega
        case rel => exact ⟨b2, _, rfl, rfl, by have h1 := HB2.out; omega, HB19⟩
       ·have q2 : ¬ (m : Int) < n := by omega
        have HB19 : Aside0 (Srt w wr base gr n cap (A ++ R) ∧ Cl kO ps (A ++ R) ∧ Bl kO b2 (A ++ R)) := ⟨HS.out.s, HB.out.2.1.trans HS.out.cl, HS.out.bl.snoc (by rw [HS.out.len]; exact ha) (HBL.out.whole (by omega)) (by omega)⟩
        clear hb ha hr hn hbn hb2 hm e3 k3 hmn
        have hw3 := iw HE3.out.1 HE3.out.2
        have hw4 := w64 HE3.out.1 HE3.out.2
        have hw5 := iw HE1.out.2.1 HE1.out.2.2
        have hw6 := w64 HE1.out.2.1 HE1.out.2.2
        go_wp2
        clear hw3 hw4 hw5 hw6
        go_roundg (n + 20 - b2)
        case measure => rw [HG2.out.1]; have h1 := HB2.out; omega
        case rel => exact ⟨b2, _, rfl, rfl, by have h1 := HB2.out; omega, ⟨HB19.out.1.below (by repeat (first | exact Below.refl _ _ | apply pw_below_drewN | apply below_drew1)), HB19.out.2⟩⟩
    ·have q0 : ¬ (bs : Int) < n := by omega
     have HW : Aside0 (n ≤ bs) := ⟨by omega⟩
     clear hlt hbs hn
     go_wp2
     go_end0
     exact ⟨rfl, qs, HB.out.1, HB.out.2.2.whole (by rw [HB.out.1.len]; exact HW.out), HB.out.2.1⟩
theorem sortstable_calls (base gr n cap : Nat) (ps : List QP) (w : World) (h : Srt w w base gr n cap ps) (hn : n ≤ 100000) :
  Calls Try.prog 20 #[.slice (some ⟨gr, 0, none⟩) n cap, .func (.func 21) #[] #[]] w fun e w' => e = .returned (.tuple #[]) ∧ ∃ qs, Srt w w' base gr n cap qs ∧ sO kO qs ∧ Cl kO ps qs := by
 have HH := Aside0.mk h
 have HN := Aside0.mk hn
 clear h hn
 go_enter Try.func20, Try.ntmps20
 go_wp2_with (first
  | (go_at_call 38; go_must (refine (stable_calls base gr n cap ps _ HH.out HN.out).mono ?_; rintro e w9 ⟨rfl, qs, h1, h2, h3⟩; have HQ := Aside0.mk (And.intro h1 (And.intro h2 h3)); clear h1 h2 h3)))
 go_end0
 exact ⟨rfl, qs, HQ.out⟩
end Go.Proofs.Ytaiakklflmhpmaa.K

namespace Go.Proofs.Ytaiakklflmhpmaa.K
open Go.RowKit Go.Proofs.YtaiakklflmhpmaaW.PrintWords Go.Proofs.YtaiakklflmhpmaaW.PrintLast Go.Proofs.YtaiakklflmhpmaaW.PrintMore
set_option linter.unusedVariables false
set_option linter.unusedSimpArgs false

theorem infoOp : (Try.prog.info? 31).map (fun i => (i.zero, i.size, i.bytes)) = some (some (.agg #[.int .i64 0, .int .i64 0, .int .i64 0, .int .i64 0, .int .i64 0, .int .i64 0, .int .i64 0, .bool false, .string ⟨#[]⟩, .slice none 0 0]), 10, 104) := by kernel_rfl
theorem qC_one (p : QP) : ∀ u ∈ qC p, u.oneCell' = true := by
 intro u hu
 simp only [qC, List.mem_cons, List.not_mem_nil, or_false] at hu
 rcases hu with rfl | rfl | rfl | rfl | rfl | rfl | rfl | rfl | rfl | rfl <;> rfl
theorem grown_fr {w W : World} {row : Option Nat} (h : w.grownBy W row) : Fr w W (fun k => row = some k) := ⟨h.os, h.tape, h.output, h.size, fun k hk hn => h.block k hk (fun e => hn e.symm)⟩
set_option maxHeartbeats 400000 in
theorem bclone_calls (v0 : Value) (l0 : List Int) (w : World) (hr0 : Rd w v0 l0) (hl : l0.length ≤ 140737488355328) :
  Calls Try.prog 37 #[v0] w fun e w' => ∃ v, e = .returned v ∧ Own w' w.heap.size v l0 ∧ Below w.heap.size w w' := by
 have HR := Aside0.mk hr0
 obtain ⟨A0, c0, rfl, hc0, hC0⟩ := hr0
 have HC := Aside0.mk hC0
 have HL := Aside0.mk hl
 have HB := Aside0.mk (Below.refl w.heap.size w)
 clear hl hC0 hc0
 have hn := Lib.run_eql_slice_nil (P := Try.prog)
 by_cases hA : A0.isNone = true
 ·go_enter Try.func37, Try.ntmps37
  go_wp2
  go_ret
  obtain rfl := nil_of HC.out hA
  exact ⟨_, rfl, Kd.R_nil _ _ _ _ _, Below.refl _ _⟩
 ·have hA : A0.isNone = false := by cases A0 <;> simp_all
  go_enter Try.func37, Try.ntmps37
  go_wp2_with (first
   | ((with_reducible refine gate_dst (N := 5) rfl ?_); go_must (((try (refine gate_guard (by rfl) ?_; dsimp only)); refine lit_bytes (w0 := w) (w).heap.size 5 ?hg ?hd ([]) ?hr ?hm HB.out HB.out.size ?_; (case hd => rfl); (case hg => rfl); (case hr => first | (go_simp; done) | (go_simp; rfl)); (case hm => simp); intro vHO1 wHO1 ho hb hbw; have HO1 := Aside0.mk ho; clear HB; have HB := Aside0.mk hb; clear ho hb hbw)))
   | ((with_reducible refine gate_builtin (b := .append) (xs := #[.tmp 5, .tmp 6]) rfl ?_); at_builtin; go_must (((try (refine gate_guard (by rfl) ?_; dsimp only)); refine app_bytes (w0 := w) (w).heap.size rfl (.tmp 5) (.tmp 6) 29 rfl Try.underlying29 info5 _ _ ([]) (l0) rfl rfl HO1.out ?aR HB.out HB.out.size ?aL ?_; (case aR => exact HR.out.below HB.out); (case aL => (have := HL.out; simp; omega)); intro vHO2 wHO2 ho hb hg; have HO2 := Aside0.mk ho; clear HB; have HB := Aside0.mk hb; clear ho hb hg))))
  go_ret
  exact ⟨_, rfl, HO2.out, HB.out⟩

section
variable {P : Program} {ops : Array Oper} {rest : List Oper} {o : Oper} {a : Act} {Q : Exit → Act → World → Prop} {W : World}
theorem flQ_one (ps : List QP) : ∀ u ∈ flQ ps, u.oneCell' = true := by
 intro u hu
 obtain ⟨p, _, hu⟩ := List.mem_flatMap.1 hu
 exact qC_one p u hu
/-- append of entries onto a row of the call's own. -/
theorem app_qile (base : Nat) (hgd : o.guard = none) (s x : Operand) (t : TypeId)
  (ho : o.op = .call { callee := .builtin .append, args := #[s, x], argTypes := #[t, t] }) (ht : Try.prog.underlying t = some (.slice 31))
  (v : Value) (n : Nat) (ps qs : List QP) (hs : a.eval s = v) (HO : QlR W base v ps) (hn : ps.length = n) (ad : Addr) (m c : Nat) (hx : a.eval x = .slice (some ad) m c) (hm : qs.length = m)
  (hnews : ∀ j u, (flQ qs)[j]? = some u → W.cell? (ad.add j) = some u) (hb : ∀ p ∈ qs, Own W base p.b p.e.f6) (hbase : base ≤ W.heap.size) (hl : n + m ≤ 1000000)
  (h : ∀ v1 w1, QlR w1 base v1 (ps ++ qs) → Fr W w1 (fun k => v.ownBlock = some k) → (v1.ownBlock = v.ownBlock ∨ v1.ownBlock = some W.heap.size) → wpList Try.prog ops Q rest (a.put o.dst v1) w1) :
  wpList Try.prog ops Q (o :: rest) a W := by
 obtain ⟨i, hi, hzz⟩ := Option.map_eq_some_iff.1 infoOp
 simp only [Prod.mk.injEq] at hzz
 obtain ⟨hz, hs8, hs80⟩ := hzz
 subst hn hm
 refine wpList_append_own_at W hgd s x t ho base 31 i _ 10 104 ht hi hz hs8 hs80 rfl (by decide) v ps.length (flQ ps) hs HO.row ad qs.length c (flQ qs) hx (flQ_length qs) hnews (flQ_one qs) (by simp only [maxLen]; omega) (by omega) hbase (fun v' w' h1 h2 _ h4 => ?_)
 have hf := grown_fr h2
 refine h v' w' ⟨by rw [List.length_append, flQ_append]; exact h1, fun p hp => ?_⟩ hf h4
 have hO : Own W base p.b p.e.f6 := by
  rcases List.mem_append.1 hp with hp | hp
  ·exact HO.bod p hp
  ·exact hb p hp
 refine hO.fr hf (fun k hk e => ?_)
 obtain ⟨cs, hc⟩ := HO.typed k e
 exact Own.typed hO hc (by decide) k hk rfl
end
theorem cells10z {W : World} {g t : Nat} {u0 u1 u2 u3 u4 u5 u6 u7 u8 u9 : Value} (h : W.heap[g]? = some (.cells #[u0, u1, u2, u3, u4, u5, u6, u7, u8, u9] t (0, 0))) :
  W.cell? ⟨g, 0, none⟩ = some u0 ∧ W.cell? ⟨g, 1, none⟩ = some u1 ∧ W.cell? ⟨g, 2, none⟩ = some u2 ∧ W.cell? ⟨g, 3, none⟩ = some u3 ∧ W.cell? ⟨g, 4, none⟩ = some u4 ∧ W.cell? ⟨g, 5, none⟩ = some u5 ∧ W.cell? ⟨g, 6, none⟩ = some u6 ∧ W.cell? ⟨g, 7, none⟩ = some u7 ∧ W.cell? ⟨g, 8, none⟩ = some u8 ∧ W.cell? ⟨g, 9, none⟩ = some u9 ∧ (W.frozen? ⟨g, 0, none⟩ = false ∧ W.frozen? ⟨g, 1, none⟩ = false ∧ W.frozen? ⟨g, 2, none⟩ = false ∧ W.frozen? ⟨g, 3, none⟩ = false ∧ W.frozen? ⟨g, 4, none⟩ = false ∧ W.frozen? ⟨g, 5, none⟩ = false ∧ W.frozen? ⟨g, 6, none⟩ = false ∧ W.frozen? ⟨g, 7, none⟩ = false ∧ W.frozen? ⟨g, 8, none⟩ = false ∧ W.frozen? ⟨g, 9, none⟩ = false) :=
 ⟨blk_cell h 0, blk_cell h 1, blk_cell h 2, blk_cell h 3, blk_cell h 4, blk_cell h 5, blk_cell h 6, blk_cell h 7, blk_cell h 8, blk_cell h 9, blk_frozen h 0, blk_frozen h 1, blk_frozen h 2, blk_frozen h 3, blk_frozen h 4, blk_frozen h 5, blk_frozen h 6, blk_frozen h 7, blk_frozen h 8, blk_frozen h 9⟩
theorem setA10 (u0 u1 u2 u3 u4 u5 u6 u7 u8 u9 v0 v1 v2 v3 v4 v5 v6 v7 v8 v9 : Value) : setA #[u0, u1, u2, u3, u4, u5, u6, u7, u8, u9] 0 [v0, v1, v2, v3, v4, v5, v6, v7, v8, v9] = #[v0, v1, v2, v3, v4, v5, v6, v7, v8, v9] := by simp [setA]
theorem heap_set10z {W : World} {g t : Nat} {u0 u1 u2 u3 u4 u5 u6 u7 u8 u9 : Value} (h : W.heap[g]? = some (.cells #[u0, u1, u2, u3, u4, u5, u6, u7, u8, u9] t (0, 0))) (p : QP) :
  ((((((((((W.setCell ⟨g, 0, none⟩ (.int .i64 p.e.f0)).setCell ⟨g, 1, none⟩ (.int .i64 p.e.f1.f0)).setCell ⟨g, 2, none⟩ (.int .i64 p.e.f1.f1)).setCell ⟨g, 3, none⟩ (.int .i64 p.e.f2.f0)).setCell ⟨g, 4, none⟩ (.int .i64 p.e.f2.f1)).setCell ⟨g, 5, none⟩ (.int .i64 p.e.f3.f0)).setCell ⟨g, 6, none⟩ (.int .i64 p.e.f3.f1)).setCell ⟨g, 7, none⟩ (.bool p.e.f4)).setCell ⟨g, 8, none⟩ (.string p.e.f5)).setCell ⟨g, 9, none⟩ (.slice p.A p.e.f6.length p.c)).heap[g]? = some (.cells (qC p).toArray t (0, 0)) := by
 have h10 := heap_set10 h 0 p
 rw [show setA #[u0, u1, u2, u3, u4, u5, u6, u7, u8, u9] 0 (qC p) = (qC p).toArray from setA10 ..] at h10
 exact h10
theorem Own.slice {W : World} {base : Nat} {v : Value} {l : List Int} (h : Own W base v l) : ∃ A c, v = .slice A l.length c := by
 obtain ⟨A, c, h, _⟩ := Kd.R_reads h
 exact ⟨A, c, h⟩
/-- An operation with bytes of its own. -/
def OwnQ (w : World) (p : QP) (e : Ending) (W : World) : Prop := ∃ q : QP, e = .returned (qV q) ∧ q.e = p.e ∧ Own W w.heap.size q.b q.e.f6 ∧ Below w.heap.size w W
set_option maxHeartbeats 4000000 in
theorem own_calls (p : QP) (w : World) (hr : Rd w p.b p.e.f6) (hl : p.e.f6.length ≤ 140737488355328) :
  Calls Try.prog 19 #[qV p] w fun e w' => OwnQ w p e w' := by
 have HR := Aside0.mk hr
 have HL := Aside0.mk hl
 clear hr hl
 simp only [qV]
 go_enter Try.func19, Try.ntmps19
 go_upto_region 1 with fail
 refine gen_world (fun W2 hW2 => ?_)
 have hB2 : Below w.heap.size w W2 := by rw [hW2]; exact below_alloc (below_alloc (Below.refl _ _) _) _
 have hx2 : W2.heap[w.heap.size]? = some (.cells (qC p).toArray 31 (0, 0)) := by rw [hW2]; exact (heap_alloc_old _ _ (by simp)).trans (heap_alloc_new _ _)
 have hy2 : W2.heap[w.heap.size + 1]? = some (.cells #[.int .i64 0, .int .i64 0, .int .i64 0, .int .i64 0, .int .i64 0, .int .i64 0, .int .i64 0, .bool false, .string ⟨#[]⟩, .slice none 0 0] 31 (0, 0)) := by rw [hW2]; exact (congrArg _ (by simp)).trans (heap_alloc_new _ _)
 obtain ⟨g1, hg1⟩ : ∃ g, g = w.heap.size := ⟨_, rfl⟩
 obtain ⟨g2, hg2⟩ : ∃ g, g = w.heap.size + 1 := ⟨_, rfl⟩
 rw [← hg2] at hy2 ⊢
 rw [← hg1] at hx2 ⊢
 have hne : g1 ≠ g2 := by omega
 have hne' : g2 ≠ g1 := by omega
 have HG : Aside0 (w.heap.size ≤ g1 ∧ w.heap.size ≤ g2) := ⟨by omega⟩
 obtain ⟨x0, x1, x2, x3, x4, x5, x6, x7, x8, x9, z0, z1, z2, z3, z4, z5, z6, z7, z8, z9⟩ := cells10z hx2
 have HX2 := Aside0.mk hx2
 have HY2 := Aside0.mk hy2
 have HB2 := Aside0.mk hB2
 clear hW2 hB2 hx2 hy2 hg1 hg2
 go_upto_region 2 with (first
  | (go_at_call 37; go_must ((refine (bclone_calls _ p.e.f6 _ (HR.out.below HB2.out) HL.out).mono ?_; rintro e w5 ⟨v5, rfl, ho, hb⟩; obtain ⟨A5, c5, rfl⟩ := ho.slice; obtain ⟨x0, x1, x2, x3, x4, x5, x6, x7, x8, x9, z0, z1, z2, z3, z4, z5, z6, z7, z8, z9⟩ := cells10z (blk_below HX2.out hb); have HX5 := Aside0.mk (blk_below HX2.out hb); have HY5 := Aside0.mk (blk_below HY2.out hb); have HO5 := Aside0.mk (Kd.R_lower ho HB2.out.size); have HB5 : Aside0 (Below w.heap.size w w5) := ⟨HB2.out.trans (hb.mono HB2.out.size)⟩; clear ho hb))))
 refine gen_world (fun W6 hW6 => ?_)
 have hx6 : W6.heap[g1]? = some (.cells (qC (⟨p.e, A5, c5⟩ : QP)).toArray 31 (0, 0)) := by
  rw [hW6]
  have := blk_set HX5.out 9 (.slice A5 p.e.f6.length c5)
  simpa [qC] using this
 have hy6 : W6.heap[g2]? = some (.cells #[.int .i64 0, .int .i64 0, .int .i64 0, .int .i64 0, .int .i64 0, .int .i64 0, .int .i64 0, .bool false, .string ⟨#[]⟩, .slice none 0 0] 31 (0, 0)) := by rw [hW6, Below.heap_setCell _ _ _ _ hne']; exact HY5.out
 have HB6 : Aside0 (Below w.heap.size w W6) := ⟨by rw [hW6]; exact HB5.out.setCell HG.out.1 _⟩
 have HO6 : Aside0 (Own W6 w.heap.size (.slice A5 p.e.f6.length c5) p.e.f6) := ⟨by
  rw [hW6]
  refine Own.fr (S := fun k => k = g1) HO5.out (Fr.set (Fr.refl _ (fun k => k = g1)) (.inl rfl) _ _) (fun k hk e => ?_)
  exact Own.typed HO5.out HX5.out (by decide) k hk e⟩
 obtain ⟨x0, x1, x2, x3, x4, x5, x6, x7, x8, x9, z0, z1, z2, z3, z4, z5, z6, z7, z8, z9⟩ := cells10z hx6
 obtain ⟨y0, y1, y2, y3, y4, y5, y6, y7, y8, y9, u0, u1, u2, u3, u4, u5, u6, u7, u8, u9⟩ := cells10z hy6
 have HY6 := Aside0.mk hy6
 clear hW6 hx6 hy6
 go_wp2
 refine gen_bp (fun W7 hW7 => ?_)
 have hy7 : W7.heap[g2]? = some (.cells #[.int .i64 p.e.f0, .int .i64 p.e.f1.f0, .int .i64 p.e.f1.f1, .int .i64 p.e.f2.f0, .int .i64 p.e.f2.f1, .int .i64 p.e.f3.f0, .int .i64 p.e.f3.f1, .bool p.e.f4, .string p.e.f5, .slice A5 p.e.f6.length c5] 31 (0, 0)) := by
  rw [hW7]
  exact heap_set10z HY6.out ⟨p.e, A5, c5⟩
 have hf7 : Fr W6 W7 (fun k => k = g2) := by rw [hW7]; repeat (with_reducible first | exact Fr.refl _ _ | refine Fr.setg ?_ _ _)
 have HY7 := Aside0.mk hy7
 have HB7 : Aside0 (Below w.heap.size w W7) := ⟨hf7.below HB6.out (fun k hk => by rw [hk]; exact HG.out.2)⟩
 have HO7 : Aside0 (Own W7 w.heap.size (.slice A5 p.e.f6.length c5) p.e.f6) := ⟨Own.fr HO6.out hf7 (fun k hk e => Own.typed HO6.out HY6.out (by decide) k hk e)⟩
 clear hW7 hy7 hf7
 refine bodyPost_ret (results_single (r := .cell 2 31) rfl (.cell g2 31 _ (0, 0) _ rfl HY7.out Try.underlying31 rfl (by kernel_rfl) .nil)) rfl ?_
 exact ⟨⟨p.e, A5, c5⟩, rfl, rfl, HO7.out, HB7.out⟩
end Go.Proofs.Ytaiakklflmhpmaa.K

namespace Go.Proofs.Ytaiakklflmhpmaa.K
open Go.RowKit Go.Proofs.YtaiakklflmhpmaaW.PrintWords Go.Proofs.YtaiakklflmhpmaaW.PrintLast Go.Proofs.YtaiakklflmhpmaaW.PrintMore
set_option linter.unusedVariables false
set_option linter.unusedSimpArgs false

/-- Of neighbours of one time the first one alone. -/
def dd2 : Ko → List QP → List QP
 | _, [] => []
 | k, a :: l => if kO a = k then dd2 k l else a :: dd2 (kO a) l
def dd : List QP → List QP
 | [] => []
 | a :: l => a :: dd2 (kO a) l
def lastK : Ko → List QP → Ko
 | k, [] => k
 | _, a :: l => lastK (kO a) l
theorem lastK_concat (b : QP) : ∀ (k : Ko) (l : List QP), lastK k (l ++ [b]) = kO b
 | _, [] => rfl
 | _, a :: l => lastK_concat b (kO a) l
def addK (k : Ko) (a : QP) : List QP := if kO a = k then [] else [a]
theorem dd2_snoc (a : QP) : ∀ (k : Ko) (l : List QP), dd2 k (l ++ [a]) = dd2 k l ++ addK (lastK k l) a
 | k, [] => rfl
 | k, b :: l => by
  show (if kO b = k then dd2 k (l ++ [a]) else b :: dd2 (kO b) (l ++ [a])) = (if kO b = k then dd2 k l else b :: dd2 (kO b) l) ++ addK (lastK (kO b) l) a
  by_cases h : kO b = k
  ·rw [if_pos h, if_pos h, dd2_snoc a k l, h]
  ·rw [if_neg h, if_neg h, dd2_snoc a (kO b) l, List.cons_append]
theorem dd_snoc (a b : QP) (l : List QP) : dd (l ++ [b] ++ [a]) = dd (l ++ [b]) ++ addK (kO b) a := by
 cases l with
 | nil => rfl
 | cons c l =>
  show c :: dd2 (kO c) (l ++ [b] ++ [a]) = (c :: dd2 (kO c) (l ++ [b])) ++ addK (kO b) a
  rw [dd2_snoc a (kO c) (l ++ [b]), lastK_concat]
  rfl
theorem dd_step {ps : List QP} {j : Nat} {a b : QP} (hb : ps[j]? = some b) (ha : ps[j + 1]? = some a) : dd (ps.take (j + 2)) = dd (ps.take (j + 1)) ++ (if kO a = kO b then [] else [a]) := by
 obtain ⟨h1, h2⟩ := List.getElem?_eq_some_iff.1 ha
 obtain ⟨h3, h4⟩ := List.getElem?_eq_some_iff.1 hb
 rw [List.take_succ_eq_append_getElem h1, h2, List.take_succ_eq_append_getElem h3, h4]
 exact dd_snoc a b _
attribute [local go_sem high] X.eqA28
theorem eqo_calls (p q : QP) (w : World) :
  Calls Try.prog 23 #[.agg #[.int .i64 p.e.f0, .int .i64 p.e.f1.f0, .int .i64 p.e.f1.f1, .int .i64 p.e.f2.f0, .int .i64 p.e.f2.f1, .int .i64 p.e.f3.f0, .int .i64 p.e.f3.f1, .bool p.e.f4, .string p.e.f5, .slice p.A p.e.f6.length p.c], .agg #[.int .i64 q.e.f0, .int .i64 q.e.f1.f0, .int .i64 q.e.f1.f1, .int .i64 q.e.f2.f0, .int .i64 q.e.f2.f1, .int .i64 q.e.f3.f0, .int .i64 q.e.f3.f1, .bool q.e.f4, .string q.e.f5, .slice q.A q.e.f6.length q.c]] w fun e w' => e = .returned (.bool (decide (kO p = kO q))) ∧ Below w.heap.size w w' := by
 have hu := Try.underlying28
 go_enter Try.func23, Try.ntmps23
 go_upto_region 1 with fail
 refine gen_world (fun W1 hW1 => ?_)
 have hB1 : Below w.heap.size w W1 := by rw [hW1]; exact below_alloc (below_alloc (Below.refl _ _) _) _
 have hx1 : W1.heap[w.heap.size]? = some (.cells (qC p).toArray 31 (0, 0)) := by rw [hW1]; exact (heap_alloc_old _ _ (by simp)).trans (heap_alloc_new _ _)
 have hy1 : W1.heap[w.heap.size + 1]? = some (.cells (qC q).toArray 31 (0, 0)) := by rw [hW1]; exact (congrArg _ (by simp)).trans (heap_alloc_new _ _)
 obtain ⟨g1, hg1⟩ : ∃ g, g = w.heap.size := ⟨_, rfl⟩
 obtain ⟨g2, hg2⟩ : ∃ g, g = w.heap.size + 1 := ⟨_, rfl⟩
 rw [← hg2] at hy1 ⊢
 rw [← hg1] at hx1 ⊢
 obtain ⟨x0, x1, x2, x3, x4, x5, x6, x7, x8, x9, -⟩ := cells10z hx1
 obtain ⟨y0, y1, y2, y3, y4, y5, y6, y7, y8, y9, -⟩ := cells10z hy1
 have HB1 := Aside0.mk hB1
 clear hW1 hB1 hx1 hy1 hg1 hg2
 go_wp2
 go_ret
 have hv : (p.e.f1.f0 == q.e.f1.f0 && p.e.f1.f1 == q.e.f1.f1) = decide (kO p = kO q) := by
  rw [Bool.eq_iff_iff]
  simp [kO]
 exact ⟨by rw [← hv]; rfl, HB1.out⟩
theorem eqo_yes (p q : QP) (w : World) (h : kO p = kO q) : Calls Try.prog 23 #[.agg #[.int .i64 p.e.f0, .int .i64 p.e.f1.f0, .int .i64 p.e.f1.f1, .int .i64 p.e.f2.f0, .int .i64 p.e.f2.f1, .int .i64 p.e.f3.f0, .int .i64 p.e.f3.f1, .bool p.e.f4, .string p.e.f5, .slice p.A p.e.f6.length p.c], .agg #[.int .i64 q.e.f0, .int .i64 q.e.f1.f0, .int .i64 q.e.f1.f1, .int .i64 q.e.f2.f0, .int .i64 q.e.f2.f1, .int .i64 q.e.f3.f0, .int .i64 q.e.f3.f1, .bool q.e.f4, .string q.e.f5, .slice q.A q.e.f6.length q.c]] w fun e w' => e = .returned (.bool true) ∧ Below w.heap.size w w' := by
 have := eqo_calls p q w
 rw [decide_eq_true h] at this
 exact this
theorem eqo_no (p q : QP) (w : World) (h : ¬ kO p = kO q) : Calls Try.prog 23 #[.agg #[.int .i64 p.e.f0, .int .i64 p.e.f1.f0, .int .i64 p.e.f1.f1, .int .i64 p.e.f2.f0, .int .i64 p.e.f2.f1, .int .i64 p.e.f3.f0, .int .i64 p.e.f3.f1, .bool p.e.f4, .string p.e.f5, .slice p.A p.e.f6.length p.c], .agg #[.int .i64 q.e.f0, .int .i64 q.e.f1.f0, .int .i64 q.e.f1.f1, .int .i64 q.e.f2.f0, .int .i64 q.e.f2.f1, .int .i64 q.e.f3.f0, .int .i64 q.e.f3.f1, .bool q.e.f4, .string q.e.f5, .slice q.A q.e.f6.length q.c]] w fun e w' => e = .returned (.bool false) ∧ Below w.heap.size w w' := by
 have := eqo_calls p q w
 rw [decide_eq_false h] at this
 exact this
/-- The rest is cleared. -/
theorem run_clear_ops (W : World) (g i m c : Nat) (cur : Array Value) (hg : W.heap[g]? = some (.cells cur 31 (0, 0))) (hm : 0 < m) (hfit : i * 10 + m * 10 ≤ cur.size) :
  ∃ cur', (Builtin.clear_ #[22] 0 #[.slice (some ⟨g, i * 10, none⟩) m c]).run Try.prog W = .ok (.tuple #[]) (W.setRow g cur') ∧ (W.setRow g cur').heap[g]? = some (.cells cur' 31 (0, 0)) ∧ cur'.size = cur.size ∧ cur'.toList.take (i * 10) = cur.toList.take (i * 10) := by
 obtain ⟨i0, hi, hz⟩ := Option.map_eq_some_iff.1 infoOp
 simp only [Prod.mk.injEq] at hz
 have hv : ∀ w, (zeroValue 31).run Try.prog w = .ok (.agg #[.int .i64 0, .int .i64 0, .int .i64 0, .int .i64 0, .int .i64 0, .int .i64 0, .int .i64 0, .bool false, .string ⟨#[]⟩, .slice none 0 0]) w := by
  intro w
  simp [zeroValue, typeInfo, hi, hz.1]
 obtain ⟨zs, hzs⟩ : ∃ zs, (Builtin.zeroCells (Value.agg #[.int .i64 0, .int .i64 0, .int .i64 0, .int .i64 0, .int .i64 0, .int .i64 0, .int .i64 0, .bool false, .string ⟨#[]⟩, .slice none 0 0]).cells m).toList = zs := ⟨_, rfl⟩
 have hl : zs.length = m * 10 := by
  rw [← hzs, Array.length_toList, size_zeroCells]
  rfl
 have h1 : ∀ v ∈ zs, v.oneCell' = true := by
  rw [← hzs]
  intro v hv
  rw [Array.mem_toList_iff] at hv
  unfold Builtin.zeroCells at hv
  obtain ⟨a, _, rfl⟩ := Array.mem_map.1 hv
  simp only [Value.cells]
  have h10 : a % 10 < 10 := Nat.mod_lt _ (by decide)
  rcases (show a % 10 = 0 ∨ a % 10 = 1 ∨ a % 10 = 2 ∨ a % 10 = 3 ∨ a % 10 = 4 ∨ a % 10 = 5 ∨ a % 10 = 6 ∨ a % 10 = 7 ∨ a % 10 = 8 ∨ a % 10 = 9 by omega) with h | h | h | h | h | h | h | h | h | h <;> simp [h, Value.oneCell']
 have hst := run_storeCells_at Try.prog g (i * 10) 31 zs 0 cur W hg (by omega) h1
 simp only [Nat.add_zero] at hst
 refine ⟨(cur.toList.take (i * 10) ++ zs ++ cur.toList.drop (i * 10 + zs.length)).toArray, ?_, setRow_heap W g cur _ 31 _ hg, ?_, ?_⟩
 rotate_left
 ·simp only [List.size_toArray, List.length_append, List.length_take, List.length_drop, Array.length_toList]
  omega
 ·simp only [List.append_assoc]
  rw [List.take_append_of_le_length (by rw [List.length_take, Array.length_toList]; omega), List.take_take, Nat.min_self]
 ·obtain ⟨m', rfl⟩ : ∃ m', m = m' + 1 := ⟨m - 1, by omega⟩
  simp [Builtin.clear_, run_underlying Try.underlying22, hv, hzs, hst]
theorem QlR.cut {w W : World} {base gr n m cap : Nat} {ps : List QP} {cur cur' : Array Value} (h : QlR w base (.slice (some ⟨gr, 0, none⟩) n cap) ps) (hn : ps.length = n) (hbg : base ≤ gr) (hcur : w.heap[gr]? = some (.cells cur 31 (0, 0))) (hnc : ps.length ≤ cap) (hcm : cap ≤ maxLen) (hsz : cur.size = cap * 10) (htk : cur.toList.take (ps.length * 10) = flQ ps)
  (hm : m ≤ n) (hb : W.heap[gr]? = some (.cells cur' 31 (0, 0))) (hs : cur'.size = cur.size) (ht : cur'.toList.take (m * 10) = cur.toList.take (m * 10)) (hf : Fr w W (fun k => k = gr)) : QlR W base (.slice (some ⟨gr, 0, none⟩) m cap) (ps.take m) := by
 subst hn
 have hl : (ps.take m).length = m := by rw [List.length_take]; omega
 refine ⟨⟨by rw [flQ_length], .inr ⟨gr, cap, cur', by rw [hl], hbg, hb, by omega, hcm, by rw [hs]; exact hsz, ?_⟩⟩, fun p hp => ?_⟩
 ·rw [hl, ht]
  have e : flQ ps = flQ (ps.take m) ++ flQ (ps.drop m) := by rw [← flQ_append, List.take_append_drop]
  have h10 := congrArg (List.take (m * 10)) htk
  rw [List.take_take, show min (m * 10) (ps.length * 10) = m * 10 by omega, e] at h10
  rw [h10, List.take_append_of_le_length (by rw [flQ_length, hl]; exact Nat.le_refl _), List.take_of_length_le (by rw [flQ_length, hl]; exact Nat.le_refl _)]
 ·have hO := h.bod p (List.mem_of_mem_take hp)
  exact Own.fr hO hf (fun k hk e => Own.typed hO hcur (by decide) k hk e)
theorem QlR.setOne {w W : World} {base gr n cap i : Nat} {ps : List QP} {p : QP} {cur : Array Value} (h : QlR w base (.slice (some ⟨gr, 0, none⟩) n cap) ps) (hn : ps.length = n) (hi : i < n) (hp : Own w base p.b p.e.f6)
  (hbg : base ≤ gr) (hcur : w.heap[gr]? = some (.cells cur 31 (0, 0))) (hnc : ps.length ≤ cap) (hcm : cap ≤ maxLen) (hsz : cur.size = cap * 10) (htk : cur.toList.take (ps.length * 10) = flQ ps)
  (hb : W.heap[gr]? = some (.cells (setA cur (i * 10) (qC p)) 31 (0, 0))) (hf : Fr w W (fun k => k = gr)) : QlR W base (.slice (some ⟨gr, 0, none⟩) n cap) (ps.set i p) := by
 subst hn
 have h1 := take_set htk (by omega) i hi p
 refine ⟨⟨by rw [flQ_length], .inr ⟨gr, cap, _, ?_, hbg, hb, by rw [List.length_set]; exact hnc, hcm, by rw [setA_size]; exact hsz, h1⟩⟩, fun q hq => ?_⟩
 ·rw [List.length_set]
 ·have hO : Own w base q.b q.e.f6 := by
   rcases List.mem_or_eq_of_mem_set hq with hq | rfl
   ·exact h.bod q hq
   ·exact hp
  exact Own.fr hO hf (fun k hk e => Own.typed hO hcur (by decide) k hk e)
/-- CompactFunc's second loop. -/
structure CmI (w W : World) (base gr n cap : Nat) (ps : List QP) (i j : Nat) (qs : List QP) : Prop where
 s : Srt w W base gr n cap qs
 kept : qs.take i = dd (ps.take (j + 1))
 left : qs.drop j = ps.drop j
 le : i ≤ j
 lt : j < n
theorem CmI.below {w W X : World} {base gr n cap i j : Nat} {ps qs : List QP} (h : CmI w W base gr n cap ps i j qs) (hb : Below W.heap.size W X) : CmI w X base gr n cap ps i j qs := ⟨h.s.below hb, h.kept, h.left, h.le, h.lt⟩
theorem CmI.at {w W : World} {base gr n cap i j k : Nat} {ps qs : List QP} {p : QP} (h : CmI w W base gr n cap ps i j qs) (hk : j ≤ k) (hp : ps[k]? = some p) : qs[k]? = some p := by
 have := congrArg (fun l => l[k - j]?) h.left
 simp only [List.getElem?_drop] at this
 rw [show j + (k - j) = k by omega] at this
 rw [this]
 exact hp
theorem CmI.skip {w W : World} {base gr n cap i j : Nat} {ps qs : List QP} {a b : QP} (h : CmI w W base gr n cap ps i j qs) (hb : ps[j]? = some b) (ha : ps[j + 1]? = some a) (hj : j + 1 < n) (he : kO a = kO b) : CmI w W base gr n cap ps i (j + 1) qs := by
 refine ⟨h.s, ?_, ?_, by have := h.le; omega, hj⟩
 ·rw [dd_step hb ha, if_pos he, List.append_nil]
  exact h.kept
 ·have := congrArg (List.drop 1) h.left
  simpa [List.drop_drop, Nat.add_comm] using this
theorem CmI.keep {w W X : World} {base gr n cap i j : Nat} {ps qs : List QP} {a b : QP} (h : CmI w W base gr n cap ps i j qs) (hb : ps[j]? = some b) (ha : ps[j + 1]? = some a) (hj : j + 1 < n) (he : ¬ kO a = kO b) (hs : Srt w X base gr n cap (qs.set i a)) : CmI w X base gr n cap ps (i + 1) (j + 1) (qs.set i a) := by
 have hlt := h.le
 have hlen := h.s.len
 refine ⟨hs, ?_, ?_, by omega, hj⟩
 ·rw [dd_step hb ha, if_neg he, ← h.kept]
  rw [List.take_succ_eq_append_getElem (by rw [List.length_set]; omega), List.getElem_set_self, List.take_set_of_le (Nat.le_refl i)]
 ·rw [List.drop_set_of_lt (by omega)]
  have := congrArg (List.drop 1) h.left
  simpa [List.drop_drop, Nat.add_comm] using this
theorem dd_whole {ps : List QP} {n : Nat} (hn : ps.length = n) (h : n < 2) : dd ps = ps := by
 match ps, hn with
 | [], _ => rfl
 | [a], _ => rfl
 | a :: b :: l, hn => simp at hn; omega
theorem Srt.set {w W X : World} {base gr n cap i j : Nat} {ps : List QP} {p : QP} {cur : Array Value} (h : Srt w W base gr n cap ps) (hi : i < n) (hp : ps[j]? = some p)
  (hbg : base ≤ gr) (hcur : W.heap[gr]? = some (.cells cur 31 (0, 0))) (hnc : n ≤ cap) (hcm : cap ≤ maxLen) (hsz : cur.size = cap * 10) (htk : cur.toList.take (ps.length * 10) = flQ ps)
  (hb : X.heap[gr]? = some (.cells (setA cur (i * 10) (qC p)) 31 (0, 0))) (hf : Fr W X (fun k => k = gr)) : Srt w X base gr n cap (ps.set i p) :=
 ⟨h.row.setOne h.len hi (h.row.bod p (List.mem_of_getElem? hp)) hbg hcur (by rw [h.len]; exact hnc) hcm hsz htk hb hf, by rw [List.length_set]; exact h.len, h.fr.trans hf (fun _ _ h => h)⟩
/-- What CompactFunc leaves. -/
def CmP (w : World) (base gr cap : Nat) (ps : List QP) (e : Ending) (W : World) : Prop :=
 ∃ m, e = .returned (.slice (some ⟨gr, 0, none⟩) m cap) ∧ m = (dd ps).length ∧ QlR W base (.slice (some ⟨gr, 0, none⟩) m cap) (dd ps) ∧ Fr w W (fun k => k = gr)
def compact_calls.T11 : Bool × List (List Nat × List Nat) := (true, [([], []), ([], []), ([], []), ([1, 2], [1, 2]), ([3], [3]), ([], []), ([], []), ([6], [6]), ([5, 7], [5, 7]), ([8], [8]), ([0, 4, 9], [0, 4, 9]), ([10], [10])])
def compact_calls.B11 : List Nat := [0, 0, 0, 6, 14, 0, 0, 64, 224, 480, 1023, 2047]
theorem compact_calls.tab11 : rtab .any (opsOf Try.f22 11) = compact_calls.T11 := by kernel_rfl
theorem compact_calls.bits11 : waitsOk compact_calls.T11.2 compact_calls.B11 = true := by kernel_rfl
def compact_calls.T6 : Bool × List (List Nat × List Nat) := (true, [([], []), ([], []), ([], []), ([1, 2], [1, 2]), ([3], [3]), ([], []), ([], []), ([6], [6]), ([5, 7], [5, 7]), ([8], [8]), ([0, 4, 9], [0, 4, 9])])
def compact_calls.B6 : List Nat := [0, 0, 0, 6, 14, 0, 0, 64, 224, 480, 1023]
theorem compact_calls.tab6 : rtab .any (opsOf Try.f22 6) = compact_calls.T6 := by kernel_rfl
theorem compact_calls.bits6 : waitsOk compact_calls.T6.2 compact_calls.B6 = true := by kernel_rfl
set_option maxRecDepth 100000 in
set_option maxHeartbeats 16000000 in
theorem compact_calls (base gr n cap : Nat) (ps : List QP) (w : World) (h : Srt w w base gr n cap ps) (hn : n ≤ 100000) :
  Calls Try.prog 22 #[.slice (some ⟨gr, 0, none⟩) n cap, .func (.func 23) #[] #[]] w fun e w' => CmP w base gr cap ps e w' := by
 have HH := Aside0.mk h
 have HN := Aside0.mk hn
 by_cases h2 : n < 2
 ·have q0 : (n : Int) < 2 := by omega
  have HD : Aside0 (dd ps = ps) := ⟨dd_whole h.len h2⟩
  clear h hn
  go_enter Try.func22, Try.ntmps22
  go_wp2
  go_ret
  exact ⟨n, rfl, by rw [HD.out, HH.out.len], by rw [HD.out]; exact HH.out.row, HH.out.fr⟩
 ·have q0 : ¬ (n : Int) < 2 := by omega
  have HN2 : Aside0 (2 ≤ n) := ⟨by omega⟩
  have HC : Aside0 (n ≤ cap) := ⟨by obtain ⟨cur, _, _, h3, _⟩ := h.parts; exact h3⟩
  have HK1 : Aside0 (dd (ps.take 1) = ps.take 1) := ⟨dd_whole (n := (ps.take 1).length) rfl (by rw [List.length_take]; omega)⟩
  clear h hn h2
  go_enter Try.func22, Try.ntmps22
  go_wp2
  clear q0
  go_loopg [5] n (fun gg v5 wr => ∃ k : Nat, gg = n + 1 - k ∧ v5 = .int .i64 k ∧ 1 ≤ k ∧ k ≤ n ∧ Aside0 (dd (ps.take k) = ps.take k) ∧ Aside0 (Srt w wr base gr n cap ps))
  case atStart => exact ⟨1, by simp, rfl, Nat.le_refl _, by have := HN2.out; omega, HK1, ⟨HH.out.below (by repeat (first | exact Below.refl _ _ | apply pw_below_drewN | apply below_drew1))⟩⟩
  case round =>
   clear HK1
   obtain ⟨k, hg, rfl, hk1, hkn, HD, HS⟩ := hrel
   have HG := Aside0.mk hg
   have HKN := Aside0.mk (And.intro hk1 hkn)
   clear hg
   by_cases hlt : k < n
   ·obtain ⟨k', rfl⟩ : ∃ k', k = k' + 1 := ⟨k - 1, by omega⟩
    obtain ⟨k, hk⟩ : ∃ k, k = k' + 1 := ⟨_, rfl⟩
    have hn := HN.out
    have hlen := HS.out.len
    have e1 : (k : Int) - 1 = (k' : Int) := by omega
    have kk1 : (-1000000 : Int) ≤ (k' : Int) ∧ (k' : Int) ≤ 1000000 := by omega
    have e2 : (k : Int) + 1 = ((k + 1 : Nat) : Int) := by omega
    have kk2 : (-1000000 : Int) ≤ ((k + 1 : Nat) : Int) ∧ ((k + 1 : Nat) : Int) ≤ 1000000 := by omega
    have q1 : (0 : Int) ≤ k := by omega
    have q2 : (k : Int) < n := by omega
    have q3 : (0 : Int) ≤ k' := by omega
    have q4 : (k' : Int) < n := by omega
    obtain ⟨x, hx⟩ : ∃ x, ps[k]? = some x := ⟨_, List.getElem?_eq_getElem (by omega)⟩
    obtain ⟨y, hy⟩ : ∃ y, ps[k']? = some y := ⟨_, List.getElem?_eq_getElem (by omega)⟩
    have HX := Aside0.mk hx
    have HY := Aside0.mk hy
    rw [← hk] at HD HG HKN ⊢
    have HK := Aside0.mk hk
    have HLT : Aside0 (k < n) := ⟨by omega⟩
    have HE2 := Aside0.mk (And.intro e2 kk2)
    have hw1 := iw e1 kk1
    have hw2 := w64 e1 kk1
    clear hk1 hkn hlt hk hn hlen e1 kk1 e2 kk2 hx hy
    go_upto_region 6 with fail
    refine gen_world (fun wx hwx => ?_)
    have HSX : Aside0 (Srt w wx base gr n cap (ps)) := ⟨by rw [hwx]; first | exact HS.out | exact (HS.out).below (by repeat (first | exact Below.refl _ _ | apply pw_below_drewN | apply below_drew1))⟩
    clear hwx
    obtain ⟨x0, x1, x2, x3, x4, x5, x6, x7, x8, x9⟩ := HSX.out.cells HX.out
    obtain ⟨y0, y1, y2, y3, y4, y5, y6, y7, y8, y9⟩ := HSX.out.cells HY.out
    by_cases heq : kO x = kO y
    ·have HEQ := Aside0.mk heq
     clear heq
     refine start_ (n := 11) (S := fun w' => w'.cell? ⟨gr, k * 10, none⟩ = some (.int .i64 x.e.f0) ∧ w'.cell? ⟨gr, k * 10 + 1, none⟩ = some (.int .i64 x.e.f1.f0) ∧ w'.cell? ⟨gr, k * 10 + 2, none⟩ = some (.int .i64 x.e.f1.f1) ∧ w'.cell? ⟨gr, k * 10 + 3, none⟩ = some (.int .i64 x.e.f2.f0) ∧ w'.cell? ⟨gr, k * 10 + 4, none⟩ = some (.int .i64 x.e.f2.f1) ∧ w'.cell? ⟨gr, k * 10 + 5, none⟩ = some (.int .i64 x.e.f3.f0) ∧ w'.cell? ⟨gr, k * 10 + 6, none⟩ = some (.int .i64 x.e.f3.f1) ∧ w'.cell? ⟨gr, k * 10 + 7, none⟩ = some (.bool x.e.f4) ∧ w'.cell? ⟨gr, k * 10 + 8, none⟩ = some (.string x.e.f5) ∧ w'.cell? ⟨gr, k * 10 + 9, none⟩ = some (.slice x.A x.e.f6.length x.c) ∧ w'.cell? ⟨gr, k' * 10, none⟩ = some (.int .i64 y.e.f0) ∧ w'.cell? ⟨gr, k' * 10 + 1, none⟩ = some (.int .i64 y.e.f1.f0) ∧ w'.cell? ⟨gr, k' * 10 + 2, none⟩ = some (.int .i64 y.e.f1.f1) ∧ w'.cell? ⟨gr, k' * 10 + 3, none⟩ = some (.int .i64 y.e.f2.f0) ∧ w'.cell? ⟨gr, k' * 10 + 4, none⟩ = some (.int .i64 y.e.f2.f1) ∧ w'.cell? ⟨gr, k' * 10 + 5, none⟩ = some (.int .i64 y.e.f3.f0) ∧ w'.cell? ⟨gr, k' * 10 + 6, none⟩ = some (.int .i64 y.e.f3.f1) ∧ w'.cell? ⟨gr, k' * 10 + 7, none⟩ = some (.bool y.e.f4) ∧ w'.cell? ⟨gr, k' * 10 + 8, none⟩ = some (.string y.e.f5) ∧ w'.cell? ⟨gr, k' * 10 + 9, none⟩ = some (.slice y.A y.e.f6.length y.c)) (ds := []) #[false, false, false, false, false, false, false, false, false, false, false] (by kernel_rfl) rfl rfl ⟨x0, x1, x2, x3, x4, x5, x6, x7, x8, x9, y0, y1, y2, y3, y4, y5, y6, y7, y8, y9⟩ (fun hHeld => ?_)
     refine with_tabW compact_calls.tab6 compact_calls.bits6 (fun HT_ HW_ => ?_)
     refine pure_ (i := 0) (N := some 18) (v := ?_) (a' := ?_) #[true, false, false, false, false, false, false, false, false, false, false] rfl rfl (any_of HT_.out (by kernel_rfl)) (fun _ _ _ h => h) (Or.inl ⟨by rfl, ?_⟩) ?_ ?_
     rotate_left
     ·intro w'
      go_simp
      with_reducible rfl
     rotate_left
     ·simp only [Act.put, ta, tb, tc, i64_w, i32_w]
      rfl
     refine pure_ (i := 1) (N := some 19) (v := ?_) (a' := ?_) #[true, true, false, false, false, false, false, false, false, false, false] rfl rfl (any_of HT_.out (by kernel_rfl)) (fun _ _ _ h => h) (Or.inl ⟨by rfl, ?_⟩) ?_ ?_
     rotate_left
     ·intro w'
      go_simp
      with_reducible rfl
     rotate_left
     ·simp only [Act.put, ta, tb, tc, i64_w, i32_w]
      rfl
     refine pure_ (i := 2) (N := some 20) (v := ?_) (a' := ?_) #[true, true, true, false, false, false, false, false, false, false, false] rfl rfl (any_of HT_.out (by kernel_rfl)) (fun _ _ _ h => h) (Or.inl ⟨by rfl, ?_⟩) ?_ ?_
     rotate_left
     ·intro w'
      go_simp
      with_reducible rfl
     rotate_left
     ·simp only [Act.put, ta, tb, tc, i64_w, i32_w]
      rfl
     refine pure_ (i := 3) (N := some 21) (v := ?_) (a' := ?_) #[true, true, true, true, false, false, false, false, false, false, false] rfl rfl (any_of HT_.out (by kernel_rfl)) (fun _ _ _ h => h) (Or.inl ⟨by rfl, ?_⟩) ?_ ?_
     rotate_left
     ·intro w'
      go_simp
      with_reducible rfl
     rotate_left
     ·simp only [Act.put, ta, tb, tc, i64_w, i32_w]
      rfl
     refine pure_ (i := 5) (N := some 23) (v := ?_) (a' := ?_) #[true, true, true, true, false, true, false, false, false, false, false] rfl rfl (any_of HT_.out (by kernel_rfl)) (fun _ _ _ h => h) (Or.inl ⟨by rfl, ?_⟩) ?_ ?_
     rotate_left
     ·intro w'
      go_simp
      with_reducible rfl
     rotate_left
     ·simp only [Act.put, ta, tb, tc, i64_w, i32_w]
      rfl
     refine pure_ (i := 6) (N := some 24) (v := ?_) (a' := ?_) #[true, true, true, true, false, true, true, false, false, false, false] rfl rfl (any_of HT_.out (by kernel_rfl)) (fun _ _ _ h => h) (Or.inl ⟨by rfl, ?_⟩) ?_ ?_
     rotate_left
     ·intro w'
      go_simp
      with_reducible rfl
     rotate_left
     ·simp only [Act.put, ta, tb, tc, i64_w, i32_w]
      rfl
     refine pure_ (i := 7) (N := some 25) (v := ?_) (a' := ?_) #[true, true, true, true, false, true, true, true, false, false, false] rfl rfl (any_of HT_.out (by kernel_rfl)) (fun _ _ _ h => h) (Or.inl ⟨by rfl, ?_⟩) ?_ ?_
     rotate_left
     ·intro w'
      go_simp
      with_reducible rfl
     rotate_left
     ·simp only [Act.put, ta, tb, tc, i64_w, i32_w]
      rfl
     refine pure_ (i := 8) (N := some 26) (v := ?_) (a' := ?_) #[true, true, true, true, false, true, true, true, true, false, false] rfl rfl (any_of HT_.out (by kernel_rfl)) (fun _ _ _ h => h) (Or.inl ⟨by rfl, ?_⟩) ?_ ?_
     rotate_left
     ·intro w'
      go_simp
      with_reducible rfl
     rotate_left
     ·simp only [Act.put, ta, tb, tc, i64_w, i32_w]
      rfl
     refine take_ (i := 4) (N := some 22) (v := ?_) (a' := ?_) #[true, true, true, true, true, true, true, true, true, false, false] rfl rfl (take_ofW HT_.out HW_.out (by kernel_rfl)) (fun _ _ _ h => h) (Or.inl ⟨by rfl, ?_⟩) hHeld ?_ ?_
     rotate_left
     ·rintro w' ⟨s0, s1, s2, s3, s4, s5, s6, s7, s8, s9, s10, s11, s12, s13, s14, s15, s16, s17, s18, s19⟩
      go_simp
      with_reducible rfl
     rotate_left
     ·simp only [Act.put, ta, tb, tc, i64_w, i32_w]
      rfl
     refine take_ (i := 9) (N := some 27) (v := ?_) (a' := ?_) #[true, true, true, true, true, true, true, true, true, true, false] rfl rfl (take_ofW HT_.out HW_.out (by kernel_rfl)) (fun _ _ _ h => h) (Or.inl ⟨by rfl, ?_⟩) hHeld ?_ ?_
     rotate_left
     ·rintro w' ⟨s0, s1, s2, s3, s4, s5, s6, s7, s8, s9, s10, s11, s12, s13, s14, s15, s16, s17, s18, s19⟩
      go_simp
      with_reducible rfl
     rotate_left
     ·simp only [Act.put, ta, tb, tc, i64_w, i32_w]
      rfl
     refine one_ (i := 10) (N := some 28) #[true, true, true, true, true, true, true, true, true, true, true] rfl rfl (one_of HT_.out (by kernel_rfl)) (by decide) (fun K hK => ?_)
     refine goesv_ Try.func23 (by kernel_rfl) rfl #[.agg #[.int .i64 x.e.f0, .int .i64 x.e.f1.f0, .int .i64 x.e.f1.f1, .int .i64 x.e.f2.f0, .int .i64 x.e.f2.f1, .int .i64 x.e.f3.f0, .int .i64 x.e.f3.f1, .bool x.e.f4, .string x.e.f5, .slice x.A x.e.f6.length x.c], .agg #[.int .i64 y.e.f0, .int .i64 y.e.f1.f0, .int .i64 y.e.f1.f1, .int .i64 y.e.f2.f0, .int .i64 y.e.f2.f1, .int .i64 y.e.f3.f0, .int .i64 y.e.f3.f1, .bool y.e.f4, .string y.e.f5, .slice y.A y.e.f6.length y.c]] (by rfl) rfl rfl (by rfl) (by simp only [List.map_toArray, List.map_cons, List.map_nil]; rfl) ?_
     with_reducible refine (eqo_yes x y _ HEQ.out).mono ?_
     rintro e w3 ⟨rfl, hb3⟩
     refine ⟨_, rfl, ?_⟩
     refine hK.out _ _ (lift20 hb3 x0 x1 x2 x3 x4 x5 x6 x7 x8 x9 y0 y1 y2 y3 y4 y5 y6 y7 y8 y9) (fun hHeld => ?_)
     clear hK K
     refine norm_ (a' := ?_) ?_ ?_
     rotate_left
     ·show Act.put _ (some 28) _ = _
      simp only [Act.put, ta, tb, tc, i64_w, i32_w]
      rfl
     refine done_ (done_of HT_.out (by kernel_rfl)) ?_
     have HS3 : Aside0 (Srt w w3 base gr n cap ps) := ⟨HSX.out.below (below_step (below_drew1 (Below.refl _ _)) hb3)⟩
     clear hb3 HSX HS x0 x1 x2 x3 x4 x5 x6 x7 x8 x9 y0 y1 y2 y3 y4 y5 y6 y7 y8 y9 hw1 hw2
     have HC0 : Aside0 (CmI w w3 base gr n cap ps k k ps) := ⟨HS3.out, by
      have e := dd_step HY.out (by rw [← HK.out]; exact HX.out)
      rw [if_pos HEQ.out, List.append_nil] at e
      rw [HK.out, e, ← HK.out, HD.out], rfl, Nat.le_refl _, HLT.out⟩
     have hcap := HC.out
     have hltn := HLT.out
     have s1 : (k : Int) ≤ n := by omega
     have s2 : k ≤ n := by omega
     have s3 : k ≤ cap := by omega
     have s4 : (k : Int) ≤ cap := by omega
     have s5 : ¬ cap = k := by omega
     have s6 : (k : Int) < cap := by omega
     have s7 : ¬ k = cap := by omega
     clear hcap hltn q2 q3 q4
     go_wp2
     go_loopg [5, 7] (n - k + 1) (fun gi v5 v7 wi => ∃ (i k2 : Nat) (qs : List QP), gi = n - (k + k2) + 1 ∧ v5 = .int .i64 i ∧ v7 = .int .i64 ((k2 + 1 : Nat)) ∧ Aside0 (CmI w wi base gr n cap ps i (k + k2) qs))
     case atStart => exact ⟨k, 0, ps, by have := HLT.out; omega, rfl, rfl, ⟨HC0.out.below (by repeat (first | exact Below.refl _ _ | apply pw_below_drewN | apply below_drew1))⟩⟩
     case round =>
      clear HC0 HS3
      obtain ⟨i, k2, qs, hg2, rfl, rfl, HI⟩ := hrel
      have HG2 := Aside0.mk hg2
      have hile := HI.out.le
      have hjlt := HI.out.lt
      have hnn := HN.out
      have hcap := HC.out
      have hqlen := HI.out.s.len
      obtain ⟨k3, hk3⟩ : ∃ k3, k3 = k2 + 1 := ⟨_, rfl⟩
      rw [← hk3]
      clear hg2
      by_cases hlt : k + k2 + 1 < n
      ·have e1 : (k3 : Int) - 1 = (k2 : Int) := by omega
       have kk1 : (-1000000 : Int) ≤ (k2 : Int) ∧ (k2 : Int) ≤ 1000000 := by omega
       have e2 : (k3 : Int) + 1 = ((k3 + 1 : Nat) : Int) := by omega
       have kk2 : (-1000000 : Int) ≤ ((k3 + 1 : Nat) : Int) ∧ ((k3 + 1 : Nat) : Int) ≤ 1000000 := by omega
       have e3 : (i : Int) + 1 = ((i + 1 : Nat) : Int) := by omega
       have kk3 : (-1000000 : Int) ≤ ((i + 1 : Nat) : Int) ∧ ((i + 1 : Nat) : Int) ≤ 1000000 := by omega
       have q1 : (0 : Int) ≤ k3 := by omega
       have q2 : (k3 : Int) < ((n - k : Nat) : Int) := by omega
       have q22 : k3 < n - k := by omega
       have q3 : (0 : Int) ≤ k2 := by omega
       have q4 : (k2 : Int) < ((n - k : Nat) : Int) := by omega
       have q44 : k2 < n - k := by omega
       have q5 : (0 : Int) ≤ i := by omega
       have q6 : (i : Int) < n := by omega
       obtain ⟨x, hx⟩ : ∃ x, ps[k + k2 + 1]? = some x := ⟨_, List.getElem?_eq_getElem (by have := HH.out.len; omega)⟩
       obtain ⟨y, hy⟩ : ∃ y, ps[k + k2]? = some y := ⟨_, List.getElem?_eq_getElem (by have := HH.out.len; omega)⟩
       have HX2 := Aside0.mk hx
       have HY2 := Aside0.mk hy
       have HXQ : Aside0 (qs[k + k3]? = some x) := ⟨by rw [hk3]; exact HI.out.at (by omega) hx⟩
       have HYQ : Aside0 (qs[k + k2]? = some y) := ⟨HI.out.at (Nat.le_refl _) hy⟩
       have HK3 : Aside0 (k3 = k2 + 1 ∧ i < n ∧ k + k2 + 1 < n) := ⟨hk3, by omega, hlt⟩
       have HE2 := Aside0.mk (And.intro e2 kk2)
       have HE3 := Aside0.mk (And.intro e3 kk3)
       have hw1 := iw e1 kk1
       have hw2 := w64 e1 kk1
       clear hile hjlt hnn hcap hqlen hk3 hlt e1 kk1 e2 kk2 e3 kk3 hx hy
       go_upto_region 11 with fail
       refine gen_world (fun wx hwx => ?_)
       have HIX : Aside0 (CmI w wx base gr n cap ps i (k + k2) qs) := ⟨by rw [hwx]; first | exact HI.out | exact HI.out.below (by repeat (first | exact Below.refl _ _ | apply pw_below_drewN | apply below_drew1))⟩
       clear hwx HI
       have hcx := HIX.out.s.cells HXQ.out
       rw [Nat.add_mul] at hcx
       obtain ⟨x0, x1, x2, x3, x4, x5, x6, x7, x8, x9⟩ := hcx
       have hcy := HIX.out.s.cells HYQ.out
       rw [Nat.add_mul] at hcy
       obtain ⟨y0, y1, y2, y3, y4, y5, y6, y7, y8, y9⟩ := hcy
       by_cases heq : kO x = kO y
       ·have HEQ := Aside0.mk heq
        clear heq
        refine start_ (n := 12) (S := fun w' => w'.cell? ⟨gr, k * 10 + k3 * 10, none⟩ = some (.int .i64 x.e.f0) ∧ w'.cell? ⟨gr, k * 10 + k3 * 10 + 1, none⟩ = some (.int .i64 x.e.f1.f0) ∧ w'.cell? ⟨gr, k * 10 + k3 * 10 + 2, none⟩ = some (.int .i64 x.e.f1.f1) ∧ w'.cell? ⟨gr, k * 10 + k3 * 10 + 3, none⟩ = some (.int .i64 x.e.f2.f0) ∧ w'.cell? ⟨gr, k * 10 + k3 * 10 + 4, none⟩ = some (.int .i64 x.e.f2.f1) ∧ w'.cell? ⟨gr, k * 10 + k3 * 10 + 5, none⟩ = some (.int .i64 x.e.f3.f0) ∧ w'.cell? ⟨gr, k * 10 + k3 * 10 + 6, none⟩ = some (.int .i64 x.e.f3.f1) ∧ w'.cell? ⟨gr, k * 10 + k3 * 10 + 7, none⟩ = some (.bool x.e.f4) ∧ w'.cell? ⟨gr, k * 10 + k3 * 10 + 8, none⟩ = some (.string x.e.f5) ∧ w'.cell? ⟨gr, k * 10 + k3 * 10 + 9, none⟩ = some (.slice x.A x.e.f6.length x.c) ∧ w'.cell? ⟨gr, k * 10 + k2 * 10, none⟩ = some (.int .i64 y.e.f0) ∧ w'.cell? ⟨gr, k * 10 + k2 * 10 + 1, none⟩ = some (.int .i64 y.e.f1.f0) ∧ w'.cell? ⟨gr, k * 10 + k2 * 10 + 2, none⟩ = some (.int .i64 y.e.f1.f1) ∧ w'.cell? ⟨gr, k * 10 + k2 * 10 + 3, none⟩ = some (.int .i64 y.e.f2.f0) ∧ w'.cell? ⟨gr, k * 10 + k2 * 10 + 4, none⟩ = some (.int .i64 y.e.f2.f1) ∧ w'.cell? ⟨gr, k * 10 + k2 * 10 + 5, none⟩ = some (.int .i64 y.e.f3.f0) ∧ w'.cell? ⟨gr, k * 10 + k2 * 10 + 6, none⟩ = some (.int .i64 y.e.f3.f1) ∧ w'.cell? ⟨gr, k * 10 + k2 * 10 + 7, none⟩ = some (.bool y.e.f4) ∧ w'.cell? ⟨gr, k * 10 + k2 * 10 + 8, none⟩ = some (.string y.e.f5) ∧ w'.cell? ⟨gr, k * 10 + k2 * 10 + 9, none⟩ = some (.slice y.A y.e.f6.length y.c)) (ds := []) #[false, false, false, false, false, false, false, false, false, false, false, false] (by kernel_rfl) rfl rfl ⟨x0, x1, x2, x3, x4, x5, x6, x7, x8, x9, y0, y1, y2, y3, y4, y5, y6, y7, y8, y9⟩ (fun hHeld => ?_)
        refine with_tabW compact_calls.tab11 compact_calls.bits11 (fun HT_ HW_ => ?_)
        refine pure_ (i := 0) (N := some 38) (v := ?_) (a' := ?_) #[true, false, false, false, false, false, false, false, false, false, false, false] rfl rfl (any_of HT_.out (by kernel_rfl)) (fun _ _ _ h => h) (Or.inl ⟨by rfl, ?_⟩) ?_ ?_
        rotate_left
        ·intro w'
         go_simp
         with_reducible rfl
        rotate_left
        ·simp only [Act.put, ta, tb, tc, i64_w, i32_w]
         rfl
        refine pure_ (i := 1) (N := some 39) (v := ?_) (a' := ?_) #[true, true, false, false, false, false, false, false, false, false, false, false] rfl rfl (any_of HT_.out (by kernel_rfl)) (fun _ _ _ h => h) (Or.inl ⟨by rfl, ?_⟩) ?_ ?_
        rotate_left
        ·intro w'
         go_simp
         with_reducible rfl
        rotate_left
        ·simp only [Act.put, ta, tb, tc, i64_w, i32_w]
         rfl
        refine pure_ (i := 2) (N := some 40) (v := ?_) (a' := ?_) #[true, true, true, false, false, false, false, false, false, false, false, false] rfl rfl (any_of HT_.out (by kernel_rfl)) (fun _ _ _ h => h) (Or.inl ⟨by rfl, ?_⟩) ?_ ?_
        rotate_left
        ·intro w'
         go_simp
         with_reducible rfl
        rotate_left
        ·simp only [Act.put, ta, tb, tc, i64_w, i32_w]
         rfl
        refine pure_ (i := 3) (N := some 41) (v := ?_) (a' := ?_) #[true, true, true, true, false, false, false, false, false, false, false, false] rfl rfl (any_of HT_.out (by kernel_rfl)) (fun _ _ _ h => h) (Or.inl ⟨by rfl, ?_⟩) ?_ ?_
        rotate_left
        ·intro w'
         go_simp
         with_reducible rfl
        rotate_left
        ·simp only [Act.put, ta, tb, tc, i64_w, i32_w]
         rfl
        refine pure_ (i := 5) (N := some 43) (v := ?_) (a' := ?_) #[true, true, true, true, false, true, false, false, false, false, false, false] rfl rfl (any_of HT_.out (by kernel_rfl)) (fun _ _ _ h => h) (Or.inl ⟨by rfl, ?_⟩) ?_ ?_
        rotate_left
        ·intro w'
         go_simp
         with_reducible rfl
        rotate_left
        ·simp only [Act.put, ta, tb, tc, i64_w, i32_w]
         rfl
        refine pure_ (i := 6) (N := some 44) (v := ?_) (a' := ?_) #[true, true, true, true, false, true, true, false, false, false, false, false] rfl rfl (any_of HT_.out (by kernel_rfl)) (fun _ _ _ h => h) (Or.inl ⟨by rfl, ?_⟩) ?_ ?_
        rotate_left
        ·intro w'
         go_simp
         with_reducible rfl
        rotate_left
        ·simp only [Act.put, ta, tb, tc, i64_w, i32_w]
         rfl
        refine pure_ (i := 7) (N := some 45) (v := ?_) (a' := ?_) #[true, true, true, true, false, true, true, true, false, false, false, false] rfl rfl (any_of HT_.out (by kernel_rfl)) (fun _ _ _ h => h) (Or.inl ⟨by rfl, ?_⟩) ?_ ?_
        rotate_left
        ·intro w'
         go_simp
         with_reducible rfl
        rotate_left
        ·simp only [Act.put, ta, tb, tc, i64_w, i32_w]
         rfl
        refine pure_ (i := 8) (N := some 46) (v := ?_) (a' := ?_) #[true, true, true, true, false, true, true, true, true, false, false, false] rfl rfl (any_of HT_.out (by kernel_rfl)) (fun _ _ _ h => h) (Or.inl ⟨by rfl, ?_⟩) ?_ ?_
        rotate_left
        ·intro w'
         go_simp
         with_reducible rfl
        rotate_left
        ·simp only [Act.put, ta, tb, tc, i64_w, i32_w]
         rfl
        refine take_ (i := 4) (N := some 42) (v := ?_) (a' := ?_) #[true, true, true, true, true, true, true, true, true, false, false, false] rfl rfl (take_ofW HT_.out HW_.out (by kernel_rfl)) (fun _ _ _ h => h) (Or.inl ⟨by rfl, ?_⟩) hHeld ?_ ?_
        rotate_left
        ·rintro w' ⟨s0, s1, s2, s3, s4, s5, s6, s7, s8, s9, s10, s11, s12, s13, s14, s15, s16, s17, s18, s19⟩
         go_simp
         with_reducible rfl
        rotate_left
        ·simp only [Act.put, ta, tb, tc, i64_w, i32_w]
         rfl
        refine take_ (i := 9) (N := some 47) (v := ?_) (a' := ?_) #[true, true, true, true, true, true, true, true, true, true, false, false] rfl rfl (take_ofW HT_.out HW_.out (by kernel_rfl)) (fun _ _ _ h => h) (Or.inl ⟨by rfl, ?_⟩) hHeld ?_ ?_
        rotate_left
        ·rintro w' ⟨s0, s1, s2, s3, s4, s5, s6, s7, s8, s9, s10, s11, s12, s13, s14, s15, s16, s17, s18, s19⟩
         go_simp
         with_reducible rfl
        rotate_left
        ·simp only [Act.put, ta, tb, tc, i64_w, i32_w]
         rfl
        refine one_ (i := 10) (N := some 48) #[true, true, true, true, true, true, true, true, true, true, true, false] rfl rfl (one_of HT_.out (by kernel_rfl)) (by decide) (fun K hK => ?_)
        refine goesv_ Try.func23 (by kernel_rfl) rfl #[.agg #[.int .i64 x.e.f0, .int .i64 x.e.f1.f0, .int .i64 x.e.f1.f1, .int .i64 x.e.f2.f0, .int .i64 x.e.f2.f1, .int .i64 x.e.f3.f0, .int .i64 x.e.f3.f1, .bool x.e.f4, .string x.e.f5, .slice x.A x.e.f6.length x.c], .agg #[.int .i64 y.e.f0, .int .i64 y.e.f1.f0, .int .i64 y.e.f1.f1, .int .i64 y.e.f2.f0, .int .i64 y.e.f2.f1, .int .i64 y.e.f3.f0, .int .i64 y.e.f3.f1, .bool y.e.f4, .string y.e.f5, .slice y.A y.e.f6.length y.c]] (by rfl) rfl rfl (by rfl) (by simp only [List.map_toArray, List.map_cons, List.map_nil]; rfl) ?_
        with_reducible refine (eqo_yes x y _ HEQ.out).mono ?_
        rintro e w3 ⟨rfl, hb3⟩
        refine ⟨_, rfl, ?_⟩
        refine hK.out _ _ (lift20 hb3 x0 x1 x2 x3 x4 x5 x6 x7 x8 x9 y0 y1 y2 y3 y4 y5 y6 y7 y8 y9) (fun hHeld => ?_)
        clear hK K
        refine norm_ (a' := ?_) ?_ ?_
        rotate_left
        ·show Act.put _ (some 48) _ = _
         simp only [Act.put, ta, tb, tc, i64_w, i32_w]
         rfl
        refine pure_ (i := 11) (N := some 49) (v := ?_) (a' := ?_) #[true, true, true, true, true, true, true, true, true, true, true, true] rfl rfl (any_of HT_.out (by kernel_rfl)) (fun _ _ _ h => h) (Or.inl ⟨by rfl, ?_⟩) ?_ ?_
        rotate_left
        ·intro w'
         go_simp
         with_reducible rfl
        rotate_left
        ·simp only [Act.put, ta, tb, tc, i64_w, i32_w]
         rfl
        refine done_ (done_of HT_.out (by kernel_rfl)) ?_
        have HI3 : Aside0 (CmI w w3 base gr n cap ps i (k + k2 + 1) qs) := ⟨(HIX.out.below (below_step (below_drew1 (Below.refl _ _)) hb3)).skip HY2.out HX2.out HK3.out.2.2 HEQ.out⟩
        clear hb3 HIX x0 x1 x2 x3 x4 x5 x6 x7 x8 x9 y0 y1 y2 y3 y4 y5 y6 y7 y8 y9 hw1 hw2
        have hw1 := iw HE2.out.1 HE2.out.2
        have hw2 := w64 HE2.out.1 HE2.out.2
        go_wp2
        clear hw1 hw2
        go_roundg (n - (k + (k2 + 1)) + 1)
        case measure => rw [HG2.out]; have := HK3.out; omega
        case rel => exact ⟨i, k2 + 1, qs, rfl, rfl, (by rw [HK3.out.1]; rfl), ⟨HI3.out.below (by repeat (first | exact Below.refl _ _ | apply pw_below_drewN | apply below_drew1))⟩⟩
       ·have HEQ := Aside0.mk heq
        clear heq
        refine start_ (n := 12) (S := fun w' => w'.cell? ⟨gr, k * 10 + k3 * 10, none⟩ = some (.int .i64 x.e.f0) ∧ w'.cell? ⟨gr, k * 10 + k3 * 10 + 1, none⟩ = some (.int .i64 x.e.f1.f0) ∧ w'.cell? ⟨gr, k * 10 + k3 * 10 + 2, none⟩ = some (.int .i64 x.e.f1.f1) ∧ w'.cell? ⟨gr, k * 10 + k3 * 10 + 3, none⟩ = some (.int .i64 x.e.f2.f0) ∧ w'.cell? ⟨gr, k * 10 + k3 * 10 + 4, none⟩ = some (.int .i64 x.e.f2.f1) ∧ w'.cell? ⟨gr, k * 10 + k3 * 10 + 5, none⟩ = some (.int .i64 x.e.f3.f0) ∧ w'.cell? ⟨gr, k * 10 + k3 * 10 + 6, none⟩ = some (.int .i64 x.e.f3.f1) ∧ w'.cell? ⟨gr, k * 10 + k3 * 10 + 7, none⟩ = some (.bool x.e.f4) ∧ w'.cell? ⟨gr, k * 10 + k3 * 10 + 8, none⟩ = some (.string x.e.f5) ∧ w'.cell? ⟨gr, k * 10 + k3 * 10 + 9, none⟩ = some (.slice x.A x.e.f6.length x.c) ∧ w'.cell? ⟨gr, k * 10 + k2 * 10, none⟩ = some (.int .i64 y.e.f0) ∧ w'.cell? ⟨gr, k * 10 + k2 * 10 + 1, none⟩ = some (.int .i64 y.e.f1.f0) ∧ w'.cell? ⟨gr, k * 10 + k2 * 10 + 2, none⟩ = some (.int .i64 y.e.f1.f1) ∧ w'.cell? ⟨gr, k * 10 + k2 * 10 + 3, none⟩ = some (.int .i64 y.e.f2.f0) ∧ w'.cell? ⟨gr, k * 10 + k2 * 10 + 4, none⟩ = some (.int .i64 y.e.f2.f1) ∧ w'.cell? ⟨gr, k * 10 + k2 * 10 + 5, none⟩ = some (.int .i64 y.e.f3.f0) ∧ w'.cell? ⟨gr, k * 10 + k2 * 10 + 6, none⟩ = some (.int .i64 y.e.f3.f1) ∧ w'.cell? ⟨gr, k * 10 + k2 * 10 + 7, none⟩ = some (.bool y.e.f4) ∧ w'.cell? ⟨gr, k * 10 + k2 * 10 + 8, none⟩ = some (.string y.e.f5) ∧ w'.cell? ⟨gr, k * 10 + k2 * 10 + 9, none⟩ = some (.slice y.A y.e.f6.length y.c)) (ds := []) #[false, false, false, false, false, false, false, false, false, false, false, false] (by kernel_rfl) rfl rfl ⟨x0, x1, x2, x3, x4, x5, x6, x7, x8, x9, y0, y1, y2, y3, y4, y5, y6, y7, y8, y9⟩ (fun hHeld => ?_)
        refine with_tabW compact_calls.tab11 compact_calls.bits11 (fun HT_ HW_ => ?_)
        refine pure_ (i := 0) (N := some 38) (v := ?_) (a' := ?_) #[true, false, false, false, false, false, false, false, false, false, false, false] rfl rfl (any_of HT_.out (by kernel_rfl)) (fun _ _ _ h => h) (Or.inl ⟨by rfl, ?_⟩) ?_ ?_
        rotate_left
        ·intro w'
         go_simp
         with_reducible rfl
        rotate_left
        ·simp only [Act.put, ta, tb, tc, i64_w, i32_w]
         rfl
        refine pure_ (i := 1) (N := some 39) (v := ?_) (a' := ?_) #[true, true, false, false, false, false, false, false, false, false, false, false] rfl rfl (any_of HT_.out (by kernel_rfl)) (fun _ _ _ h => h) (Or.inl ⟨by rfl, ?_⟩) ?_ ?_
        rotate_left
        ·intro w'
         go_simp
         with_reducible rfl
        rotate_left
        ·simp only [Act.put, ta, tb, tc, i64_w, i32_w]
         rfl
        refine pure_ (i := 2) (N := some 40) (v := ?_) (a' := ?_) #[true, true, true, false, false, false, false, false, false, false, false, false] rfl rfl (any_of HT_.out (by kernel_rfl)) (fun _ _ _ h => h) (Or.inl ⟨by rfl, ?_⟩) ?_ ?_
        rotate_left
        ·intro w'
         go_simp
         with_reducible rfl
        rotate_left
        ·simp only [Act.put, ta, tb, tc, i64_w, i32_w]
         rfl
        refine pure_ (i := 3) (N := some 41) (v := ?_) (a' := ?_) #[true, true, true, true, false, false, false, false, false, false, false, false] rfl rfl (any_of HT_.out (by kernel_rfl)) (fun _ _ _ h => h) (Or.inl ⟨by rfl, ?_⟩) ?_ ?_
        rotate_left
        ·intro w'
         go_simp
         with_reducible rfl
        rotate_left
        ·simp only [Act.put, ta, tb, tc, i64_w, i32_w]
         rfl
        refine pure_ (i := 5) (N := some 43) (v := ?_) (a' := ?_) #[true, true, true, true, false, true, false, false, false, false, false, false] rfl rfl (any_of HT_.out (by kernel_rfl)) (fun _ _ _ h => h) (Or.inl ⟨by rfl, ?_⟩) ?_ ?_
        rotate_left
        ·intro w'
         go_simp
         with_reducible rfl
        rotate_left
        ·simp only [Act.put, ta, tb, tc, i64_w, i32_w]
         rfl
        refine pure_ (i := 6) (N := some 44) (v := ?_) (a' := ?_) #[true, true, true, true, false, true, true, false, false, false, false, false] rfl rfl (any_of HT_.out (by kernel_rfl)) (fun _ _ _ h => h) (Or.inl ⟨by rfl, ?_⟩) ?_ ?_
        rotate_left
        ·intro w'
         go_simp
         with_reducible rfl
        rotate_left
        ·simp only [Act.put, ta, tb, tc, i64_w, i32_w]
         rfl
        refine pure_ (i := 7) (N := some 45) (v := ?_) (a' := ?_) #[true, true, true, true, false, true, true, true, false, false, false, false] rfl rfl (any_of HT_.out (by kernel_rfl)) (fun _ _ _ h => h) (Or.inl ⟨by rfl, ?_⟩) ?_ ?_
        rotate_left
        ·intro w'
         go_simp
         with_reducible rfl
        rotate_left
        ·simp only [Act.put, ta, tb, tc, i64_w, i32_w]
         rfl
        refine pure_ (i := 8) (N := some 46) (v := ?_) (a' := ?_) #[true, true, true, true, false, true, true, true, true, false, false, false] rfl rfl (any_of HT_.out (by kernel_rfl)) (fun _ _ _ h => h) (Or.inl ⟨by rfl, ?_⟩) ?_ ?_
        rotate_left
        ·intro w'
         go_simp
         with_reducible rfl
        rotate_left
        ·simp only [Act.put, ta, tb, tc, i64_w, i32_w]
         rfl
        refine take_ (i := 4) (N := some 42) (v := ?_) (a' := ?_) #[true, true, true, true, true, true, true, true, true, false, false, false] rfl rfl (take_ofW HT_.out HW_.out (by kernel_rfl)) (fun _ _ _ h => h) (Or.inl ⟨by rfl, ?_⟩) hHeld ?_ ?_
        rotate_left
        ·rintro w' ⟨s0, s1, s2, s3, s4, s5, s6, s7, s8, s9, s10, s11, s12, s13, s14, s15, s16, s17, s18, s19⟩
         go_simp
         with_reducible rfl
        rotate_left
        ·simp only [Act.put, ta, tb, tc, i64_w, i32_w]
         rfl
        refine take_ (i := 9) (N := some 47) (v := ?_) (a' := ?_) #[true, true, true, true, true, true, true, true, true, true, false, false] rfl rfl (take_ofW HT_.out HW_.out (by kernel_rfl)) (fun _ _ _ h => h) (Or.inl ⟨by rfl, ?_⟩) hHeld ?_ ?_
        rotate_left
        ·rintro w' ⟨s0, s1, s2, s3, s4, s5, s6, s7, s8, s9, s10, s11, s12, s13, s14, s15, s16, s17, s18, s19⟩
         go_simp
         with_reducible rfl
        rotate_left
        ·simp only [Act.put, ta, tb, tc, i64_w, i32_w]
         rfl
        refine one_ (i := 10) (N := some 48) #[true, true, true, true, true, true, true, true, true, true, true, false] rfl rfl (one_of HT_.out (by kernel_rfl)) (by decide) (fun K hK => ?_)
        refine goesv_ Try.func23 (by kernel_rfl) rfl #[.agg #[.int .i64 x.e.f0, .int .i64 x.e.f1.f0, .int .i64 x.e.f1.f1, .int .i64 x.e.f2.f0, .int .i64 x.e.f2.f1, .int .i64 x.e.f3.f0, .int .i64 x.e.f3.f1, .bool x.e.f4, .string x.e.f5, .slice x.A x.e.f6.length x.c], .agg #[.int .i64 y.e.f0, .int .i64 y.e.f1.f0, .int .i64 y.e.f1.f1, .int .i64 y.e.f2.f0, .int .i64 y.e.f2.f1, .int .i64 y.e.f3.f0, .int .i64 y.e.f3.f1, .bool y.e.f4, .string y.e.f5, .slice y.A y.e.f6.length y.c]] (by rfl) rfl rfl (by rfl) (by simp only [List.map_toArray, List.map_cons, List.map_nil]; rfl) ?_
        with_reducible refine (eqo_no x y _ HEQ.out).mono ?_
        rintro e w3 ⟨rfl, hb3⟩
        refine ⟨_, rfl, ?_⟩
        refine hK.out _ _ (lift20 hb3 x0 x1 x2 x3 x4 x5 x6 x7 x8 x9 y0 y1 y2 y3 y4 y5 y6 y7 y8 y9) (fun hHeld => ?_)
        clear hK K
        refine norm_ (a' := ?_) ?_ ?_
        rotate_left
        ·show Act.put _ (some 48) _ = _
         simp only [Act.put, ta, tb, tc, i64_w, i32_w]
         rfl
        refine pure_ (i := 11) (N := some 49) (v := ?_) (a' := ?_) #[true, true, true, true, true, true, true, true, true, true, true, true] rfl rfl (any_of HT_.out (by kernel_rfl)) (fun _ _ _ h => h) (Or.inl ⟨by rfl, ?_⟩) ?_ ?_
        rotate_left
        ·intro w'
         go_simp
         with_reducible rfl
        rotate_left
        ·simp only [Act.put, ta, tb, tc, i64_w, i32_w]
         rfl
        refine done_ (done_of HT_.out (by kernel_rfl)) ?_
        have HI3 : Aside0 (CmI w w3 base gr n cap ps i (k + k2) qs) := ⟨HIX.out.below (below_step (below_drew1 (Below.refl _ _)) hb3)⟩
        clear hb3 HIX x0 x1 x2 x3 x4 x5 x6 x7 x8 x9 y0 y1 y2 y3 y4 y5 y6 y7 y8 y9 hw1 hw2
        go_upto_region 12 with fail
        refine gen_world (fun wy hwy => ?_)
        have HIY : Aside0 (CmI w wy base gr n cap ps i (k + k2) qs) := ⟨by rw [hwy]; first | exact HI3.out | exact HI3.out.below (by repeat (first | exact Below.refl _ _ | apply pw_below_drewN | apply below_drew1))⟩
        clear hwy HI3
        have hcx := HIY.out.s.cells HXQ.out
        rw [Nat.add_mul] at hcx
        obtain ⟨x0, x1, x2, x3, x4, x5, x6, x7, x8, x9⟩ := hcx
        obtain ⟨cur, hbg, hcur, hnc, hcm, hsz, htk⟩ := HIY.out.s.parts
        have HCUR := Aside0.mk hcur
        have HPT := Aside0.mk (And.intro hbg (And.intro hnc (And.intro hcm (And.intro hsz htk))))
        have hin := HK3.out.2.1
        obtain ⟨_u0, _u1, _u2, _u3, _u4, _u5, _u6, _u7, _u8, _u9, _d0, _d1, _d2, _d3, _d4, _d5, _d6, _d7, _d8, _d9, z0, z1, z2, z3, z4, z5, z6, z7, z8, z9⟩ := cellsQ hcur (i := i) (by omega)
        clear hbg hcur hnc hcm hsz htk hin
        have hw3 := iw HE2.out.1 HE2.out.2
        have hw4 := w64 HE2.out.1 HE2.out.2
        have hw5 := iw HE3.out.1 HE3.out.2
        have hw6 := w64 HE3.out.1 HE3.out.2
        go_wp2
        clear hw3 hw4 hw5 hw6
        refine gen_K (fun W3 hW3 => ?_)
        have hc3 : W3.heap[gr]? = some (.cells (setA cur (i * 10) (qC x)) 31 (0, 0)) := by rw [hW3]; exact heap_set10 HCUR.out (i * 10) x
        have hf3 : Fr wy W3 (fun k => k = gr) := by rw [hW3]; repeat (with_reducible first | exact Fr.refl _ _ | refine Fr.setg ?_ _ _)
        have HI5 : Aside0 (CmI w W3 base gr n cap ps (i + 1) (k + k2 + 1) (qs.set i x)) := ⟨HIY.out.keep HY2.out HX2.out HK3.out.2.2 HEQ.out (HIY.out.s.set HK3.out.2.1 HXQ.out HPT.out.1 HCUR.out HPT.out.2.1 HPT.out.2.2.1 HPT.out.2.2.2.1 HPT.out.2.2.2.2 hc3 hf3)⟩
        clear hW3 hc3 hf3
        go_roundg (n - (k + (k2 + 1)) + 1)
        case measure => rw [HG2.out]; have := HK3.out; omega
        case rel => exact ⟨i + 1, k2 + 1, qs.set i x, rfl, (by rfl), (by rw [HK3.out.1]; rfl), HI5⟩
      ·have q2 : ¬ (k3 : Int) < ((n - k : Nat) : Int) := by omega
       have q22 : ¬ k3 < n - k := by omega
       have HKE : Aside0 (k + k2 + 1 = n ∧ i < n) := ⟨by omega, by omega⟩
       clear hile hjlt hnn hcap hqlen hk3 hlt
       go_upto_region 14 with fail
       refine gen_world (fun wx hwx => ?_)
       have HIX : Aside0 (CmI w wx base gr n cap ps i (k + k2) qs) := ⟨by rw [hwx]; first | exact HI.out | exact HI.out.below (by repeat (first | exact Below.refl _ _ | apply pw_below_drewN | apply below_drew1))⟩
       clear hwx HI
       obtain ⟨cur, hbg, hcur, hnc, hcm, hsz, htk⟩ := HIX.out.s.parts
       have hin := HKE.out.2
       obtain ⟨cur', hclr, hcl1, hcl2, hcl3⟩ := run_clear_ops wx gr i (n - i) (cap - i) cur hcur (by omega) (by omega)
       have h0i : (0 : Int) ≤ i := by omega
       have hij1 : (i : Int) ≤ n := by omega
       have hij2 : i ≤ n := by omega
       have hic1 : (i : Int) ≤ cap := by omega
       have hic2 : i ≤ cap := by omega
       have hic3 : ¬ i = cap := by omega
       have hic4 : ¬ cap = i := by omega
       have hic5 : (i : Int) < cap := by omega
       have HFS := Aside0.mk (And.intro hbg (And.intro hnc (And.intro hcm (And.intro hsz hcur))))
       have HTK := Aside0.mk htk
       have HCL := Aside0.mk (And.intro hcl1 (And.intro hcl2 hcl3))
       clear hbg hnc hcm hsz hcur htk hcl1 hcl2 hcl3 hin q2 q22
       go_wp2
       go_ret
       have hdd : dd ps = qs.take i := by rw [HIX.out.kept, HKE.out.1, List.take_of_length_le (by rw [HH.out.len]; exact Nat.le_refl _)]
       have hli : (qs.take i).length = i := by rw [List.length_take, HIX.out.s.len]; have := HKE.out; omega
       have hfr : Fr wx (wx.setRow gr cur') (fun k => k = gr) := ⟨rfl, rfl, rfl, by simp, fun k _ hk => setRow_other wx gr k _ (fun e => hk e)⟩
       have hrow := HIX.out.s.row.cut HIX.out.s.len HFS.out.1 HFS.out.2.2.2.2 (by rw [HIX.out.s.len]; exact HFS.out.2.1) HFS.out.2.2.1 HFS.out.2.2.2.1 HTK.out hij2 HCL.out.1 HCL.out.2.1 HCL.out.2.2 hfr
       exact ⟨i, rfl, by rw [hdd, hli], by rw [hdd]; exact hrow, HIX.out.s.fr.trans hfr (fun _ _ h => h)⟩
    ·have HEQ := Aside0.mk heq
     clear heq
     refine start_ (n := 11) (S := fun w' => w'.cell? ⟨gr, k * 10, none⟩ = some (.int .i64 x.e.f0) ∧ w'.cell? ⟨gr, k * 10 + 1, none⟩ = some (.int .i64 x.e.f1.f0) ∧ w'.cell? ⟨gr, k * 10 + 2, none⟩ = some (.int .i64 x.e.f1.f1) ∧ w'.cell? ⟨gr, k * 10 + 3, none⟩ = some (.int .i64 x.e.f2.f0) ∧ w'.cell? ⟨gr, k * 10 + 4, none⟩ = some (.int .i64 x.e.f2.f1) ∧ w'.cell? ⟨gr, k * 10 + 5, none⟩ = some (.int .i64 x.e.f3.f0) ∧ w'.cell? ⟨gr, k * 10 + 6, none⟩ = some (.int .i64 x.e.f3.f1) ∧ w'.cell? ⟨gr, k * 10 + 7, none⟩ = some (.bool x.e.f4) ∧ w'.cell? ⟨gr, k * 10 + 8, none⟩ = some (.string x.e.f5) ∧ w'.cell? ⟨gr, k * 10 + 9, none⟩ = some (.slice x.A x.e.f6.length x.c) ∧ w'.cell? ⟨gr, k' * 10, none⟩ = some (.int .i64 y.e.f0) ∧ w'.cell? ⟨gr, k' * 10 + 1, none⟩ = some (.int .i64 y.e.f1.f0) ∧ w'.cell? ⟨gr, k' * 10 + 2, none⟩ = some (.int .i64 y.e.f1.f1) ∧ w'.cell? ⟨gr, k' * 10 + 3, none⟩ = some (.int .i64 y.e.f2.f0) ∧ w'.cell? ⟨gr, k' * 10 + 4, none⟩ = some (.int .i64 y.e.f2.f1) ∧ w'.cell? ⟨gr, k' * 10 + 5, none⟩ = some (.int .i64 y.e.f3.f0) ∧ w'.cell? ⟨gr, k' * 10 + 6, none⟩ = some (.int .i64 y.e.f3.f1) ∧ w'.cell? ⟨gr, k' * 10 + 7, none⟩ = some (.bool y.e.f4) ∧ w'.cell? ⟨gr, k' * 10 + 8, none⟩ = some (.string y.e.f5) ∧ w'.cell? ⟨gr, k' * 10 + 9, none⟩ = some (.slice y.A y.e.f6.length y.c)) (ds := []) #[false, false, false, false, false, false, false, false, false, false, false] (by kernel_rfl) rfl rfl ⟨x0, x1, x2, x3, x4, x5, x6, x7, x8, x9, y0, y1, y2, y3, y4, y5, y6, y7, y8, y9⟩ (fun hHeld => ?_)
     refine with_tabW compact_calls.tab6 compact_calls.bits6 (fun HT_ HW_ => ?_)
     refine pure_ (i := 0) (N := some 18) (v := ?_) (a' := ?_) #[true, false, false, false, false, false, false, false, false, false, false] rfl rfl (any_of HT_.out (by kernel_rfl)) (fun _ _ _ h => h) (Or.inl ⟨by rfl, ?_⟩) ?_ ?_
     rotate_left
     ·intro w'
      go_simp
      with_reducible rfl
     rotate_left
     ·simp only [Act.put, ta, tb, tc, i64_w, i32_w]
      rfl
     refine pure_ (i := 1) (N := some 19) (v := ?_) (a' := ?_) #[true, true, false, false, false, false, false, false, false, false, false] rfl rfl (any_of HT_.out (by kernel_rfl)) (fun _ _ _ h => h) (Or.inl ⟨by rfl, ?_⟩) ?_ ?_
     rotate_left
     ·intro w'
      go_simp
      with_reducible rfl
     rotate_left
     ·simp only [Act.put, ta, tb, tc, i64_w, i32_w]
      rfl
     refine pure_ (i := 2) (N := some 20) (v := ?_) (a' := ?_) #[true, true, true, false, false, false, false, false, false, false, false] rfl rfl (any_of HT_.out (by kernel_rfl)) (fun _ _ _ h => h) (Or.inl ⟨by rfl, ?_⟩) ?_ ?_
     rotate_left
     ·intro w'
      go_simp
      with_reducible rfl
     rotate_left
     ·simp only [Act.put, ta, tb, tc, i64_w, i32_w]
      rfl
     refine pure_ (i := 3) (N := some 21) (v := ?_) (a' := ?_) #[true, true, true, true, false, false, false, false, false, false, false] rfl rfl (any_of HT_.out (by kernel_rfl)) (fun _ _ _ h => h) (Or.inl ⟨by rfl, ?_⟩) ?_ ?_
     rotate_left
     ·intro w'
      go_simp
      with_reducible rfl
     rotate_left
     ·simp only [Act.put, ta, tb, tc, i64_w, i32_w]
      rfl
     refine pure_ (i := 5) (N := some 23) (v := ?_) (a' := ?_) #[true, true, true, true, false, true, false, false, false, false, false] rfl rfl (any_of HT_.out (by kernel_rfl)) (fun _ _ _ h => h) (Or.inl ⟨by rfl, ?_⟩) ?_ ?_
     rotate_left
     ·intro w'
      go_simp
      with_reducible rfl
     rotate_left
     ·simp only [Act.put, ta, tb, tc, i64_w, i32_w]
      rfl
     refine pure_ (i := 6) (N := some 24) (v := ?_) (a' := ?_) #[true, true, true, true, false, true, true, false, false, false, false] rfl rfl (any_of HT_.out (by kernel_rfl)) (fun _ _ _ h => h) (Or.inl ⟨by rfl, ?_⟩) ?_ ?_
     rotate_left
     ·intro w'
      go_simp
      with_reducible rfl
     rotate_left
     ·simp only [Act.put, ta, tb, tc, i64_w, i32_w]
      rfl
     refine pure_ (i := 7) (N := some 25) (v := ?_) (a' := ?_) #[true, true, true, true, false, true, true, true, false, false, false] rfl rfl (any_of HT_.out (by kernel_rfl)) (fun _ _ _ h => h) (Or.inl ⟨by rfl, ?_⟩) ?_ ?_
     rotate_left
     ·intro w'
      go_simp
      with_reducible rfl
     rotate_left
     ·simp only [Act.put, ta, tb, tc, i64_w, i32_w]
      rfl
     refine pure_ (i := 8) (N := some 26) (v := ?_) (a' := ?_) #[true, true, true, true, false, true, true, true, true, false, false] rfl rfl (any_of HT_.out (by kernel_rfl)) (fun _ _ _ h => h) (Or.inl ⟨by rfl, ?_⟩) ?_ ?_
     rotate_left
     ·intro w'
      go_simp
      with_reducible rfl
     rotate_left
     ·simp only [Act.put, ta, tb, tc, i64_w, i32_w]
      rfl
     refine take_ (i := 4) (N := some 22) (v := ?_) (a' := ?_) #[true, true, true, true, true, true, true, true, true, false, false] rfl rfl (take_ofW HT_.out HW_.out (by kernel_rfl)) (fun _ _ _ h => h) (Or.inl ⟨by rfl, ?_⟩) hHeld ?_ ?_
     rotate_left
     ·rintro w' ⟨s0, s1, s2, s3, s4, s5, s6, s7, s8, s9, s10, s11, s12, s13, s14, s15, s16, s17, s18, s19⟩
      go_simp
      with_reducible rfl
     rotate_left
     ·simp only [Act.put, ta, tb, tc, i64_w, i32_w]
      rfl
     refine take_ (i := 9) (N := some 27) (v := ?_) (a' := ?_) #[true, true, true, true, true, true, true, true, true, true, false] rfl rfl (take_ofW HT_.out HW_.out (by kernel_rfl)) (fun _ _ _ h => h) (Or.inl ⟨by rfl, ?_⟩) hHeld ?_ ?_
     rotate_left
     ·rintro w' ⟨s0, s1, s2, s3, s4, s5, s6, s7, s8, s9, s10, s11, s12, s13, s14, s15, s16, s17, s18, s19⟩
      go_simp
      with_reducible rfl
     rotate_left
     ·simp only [Act.put, ta, tb, tc, i64_w, i32_w]
      rfl
     refine one_ (i := 10) (N := some 28) #[true, true, true, true, true, true, true, true, true, true, true] rfl rfl (one_of HT_.out (by kernel_rfl)) (by decide) (fun K hK => ?_)
     refine goesv_ Try.func23 (by kernel_rfl) rfl #[.agg #[.int .i64 x.e.f0, .int .i64 x.e.f1.f0, .int .i64 x.e.f1.f1, .int .i64 x.e.f2.f0, .int .i64 x.e.f2.f1, .int .i64 x.e.f3.f0, .int .i64 x.e.f3.f1, .bool x.e.f4, .string x.e.f5, .slice x.A x.e.f6.length x.c], .agg #[.int .i64 y.e.f0, .int .i64 y.e.f1.f0, .int .i64 y.e.f1.f1, .int .i64 y.e.f2.f0, .int .i64 y.e.f2.f1, .int .i64 y.e.f3.f0, .int .i64 y.e.f3.f1, .bool y.e.f4, .string y.e.f5, .slice y.A y.e.f6.length y.c]] (by rfl) rfl rfl (by rfl) (by simp only [List.map_toArray, List.map_cons, List.map_nil]; rfl) ?_
     with_reducible refine (eqo_no x y _ HEQ.out).mono ?_
     rintro e w3 ⟨rfl, hb3⟩
     refine ⟨_, rfl, ?_⟩
     refine hK.out _ _ (lift20 hb3 x0 x1 x2 x3 x4 x5 x6 x7 x8 x9 y0 y1 y2 y3 y4 y5 y6 y7 y8 y9) (fun hHeld => ?_)
     clear hK K
     refine norm_ (a' := ?_) ?_ ?_
     rotate_left
     ·show Act.put _ (some 28) _ = _
      simp only [Act.put, ta, tb, tc, i64_w, i32_w]
      rfl
     refine done_ (done_of HT_.out (by kernel_rfl)) ?_
     have HS3 : Aside0 (Srt w w3 base gr n cap ps) := ⟨HSX.out.below (below_step (below_drew1 (Below.refl _ _)) hb3)⟩
     clear hb3 HSX HS x0 x1 x2 x3 x4 x5 x6 x7 x8 x9 y0 y1 y2 y3 y4 y5 y6 y7 y8 y9 hw1 hw2
     have HD2 : Aside0 (dd (ps.take (k + 1)) = ps.take (k + 1)) := ⟨by
      have e := dd_step HY.out (by rw [← HK.out]; exact HX.out)
      rw [if_neg HEQ.out, show k' + 2 = k + 1 by rw [HK.out], show k' + 1 = k by rw [HK.out], HD.out] at e
      obtain ⟨h1, h3⟩ := List.getElem?_eq_some_iff.1 HX.out
      rw [e, List.take_succ_eq_append_getElem h1, h3]⟩
     have hw1 := iw HE2.out.1 HE2.out.2
     have hw2 := w64 HE2.out.1 HE2.out.2
     go_wp2
     clear hw1 hw2
     go_roundg (n + 1 - (k + 1))
     case measure => rw [HG.out]; have := HLT.out; omega
     case rel => exact ⟨k + 1, rfl, rfl, by omega, by have := HLT.out; omega, HD2, ⟨HS3.out.below (by repeat (first | exact Below.refl _ _ | apply pw_below_drewN | apply below_drew1))⟩⟩
   ·have hke : k = n := by omega
    have q1 : ¬ (k : Int) < n := by omega
    have HDE : Aside0 (dd ps = ps) := ⟨by
     have e := HD.out
     rw [List.take_of_length_le (by rw [HS.out.len]; omega)] at e
     exact e⟩
    clear hke hk1 hkn hlt
    go_wp2
    go_ret
    exact ⟨n, rfl, by rw [HDE.out, HS.out.len], by rw [HDE.out]; exact HS.out.row, HS.out.fr⟩
end Go.Proofs.Ytaiakklflmhpmaa.K

namespace Go.Proofs.Ytaiakklflmhpmaa.K
open Go.RowKit Go.Proofs.YtaiakklflmhpmaaW.PrintWords Go.Proofs.YtaiakklflmhpmaaW.PrintLast Go.Proofs.YtaiakklflmhpmaaW.PrintMore
set_option linter.unusedVariables false
set_option linter.unusedSimpArgs false

theorem opq_at {W : World} {A : Option Addr} {l : List Oe} (h : Kd.C X.k31 W A l.length l) {i : Nat} (hi : i < l.length) :
  ∃ (ad : Addr) (p : QP), A = some ad ∧ l[i]? = some p.e ∧ Rd W p.b p.e.f6 ∧ W.cell? (ad.add (i * 10)) = some (.int .i64 p.e.f0) ∧ W.cell? ⟨(ad.add (i * 10)).block, (ad.add (i * 10)).off + 1, none⟩ = some (.int .i64 p.e.f1.f0) ∧ W.cell? ⟨(ad.add (i * 10)).block, (ad.add (i * 10)).off + 2, none⟩ = some (.int .i64 p.e.f1.f1) ∧ W.cell? ⟨(ad.add (i * 10)).block, (ad.add (i * 10)).off + 3, none⟩ = some (.int .i64 p.e.f2.f0) ∧ W.cell? ⟨(ad.add (i * 10)).block, (ad.add (i * 10)).off + 4, none⟩ = some (.int .i64 p.e.f2.f1) ∧ W.cell? ⟨(ad.add (i * 10)).block, (ad.add (i * 10)).off + 5, none⟩ = some (.int .i64 p.e.f3.f0) ∧ W.cell? ⟨(ad.add (i * 10)).block, (ad.add (i * 10)).off + 6, none⟩ = some (.int .i64 p.e.f3.f1) ∧ W.cell? ⟨(ad.add (i * 10)).block, (ad.add (i * 10)).off + 7, none⟩ = some (.bool p.e.f4) ∧ W.cell? ⟨(ad.add (i * 10)).block, (ad.add (i * 10)).off + 8, none⟩ = some (.string p.e.f5) ∧ W.cell? ⟨(ad.add (i * 10)).block, (ad.add (i * 10)).off + 9, none⟩ = some (.slice p.A p.e.f6.length p.c) := by
 obtain ⟨ad, A9, c9, e, x0, x1, x2, x3, x4, x5, x6, x7, x8, x9, hc, hC⟩ := X.at_T31 h (i : Int) (by omega) (by omega)
 rw [Int.toNat_natCast] at x0 x1 x2 x3 x4 x5 x6 x7 x8 x9
 refine ⟨ad, ⟨X.rd_T31 l (i : Int), A9, c9⟩, e, ?_, ⟨A9, c9, rfl, hc, hC⟩, x0, x1, x2, x3, x4, x5, x6, x7, x8, x9⟩
 unfold X.rd_T31
 rw [Int.toNat_natCast, List.getD_eq_getElem?_getD, List.getElem?_eq_getElem hi]
 rfl
theorem make_ops (n : Nat) (hn : n ≤ 100000) : ∀ W : World, (Instr.makeSlice 22 (.int .i64 0) (.int .i64 n)).run Try.prog W = .ok (.slice (some ⟨W.heap.size, 0, none⟩) 0 n) (W.alloc (.cells (madeCells #[.int .i64 0, .int .i64 0, .int .i64 0, .int .i64 0, .int .i64 0, .int .i64 0, .int .i64 0, .bool false, .string ⟨#[]⟩, .slice none 0 0] (n * 10)) 31)) := by
 intro W
 obtain ⟨i, hi, hzz⟩ := Option.map_eq_some_iff.1 infoOp
 simp only [Prod.mk.injEq] at hzz
 obtain ⟨hz, hs10, hs104⟩ := hzz
 have h := run_make (P := Try.prog) W 22 31 i _ Try.underlying22 hi hz .i64 .i64 0 (n : Int) (by omega) (by omega) (by rw [hs104]; omega) (by omega)
 rw [hs10] at h
 simpa [Value.cells] using h
theorem made_ops (W : World) (base n : Nat) (hb : base ≤ W.heap.size) (hn : n ≤ 100000) : QlR (W.alloc (.cells (madeCells #[.int .i64 0, .int .i64 0, .int .i64 0, .int .i64 0, .int .i64 0, .int .i64 0, .int .i64 0, .bool false, .string ⟨#[]⟩, .slice none 0 0] (n * 10)) 31)) base (.slice (some ⟨W.heap.size, 0, none⟩) 0 n) [] :=
 ⟨⟨rfl, .inr ⟨W.heap.size, n, _, rfl, hb, heap_alloc_new _ _, Nat.zero_le _, by simp only [maxLen]; omega, size_madeCells _ _, rfl⟩⟩, fun p hp => by simp at hp⟩
/-- A sorted list of operations. -/
def SortP (l : List Oe) (ss : List QP) : Prop := ∃ ps qs : List QP, ps.map (·.e) = l ∧ sO kO qs ∧ Cl kO ps qs ∧ ss = dd qs
/-- What op.Sort gives. -/
def OSortP (w : World) (l : List Oe) (e : Ending) (W : World) : Prop :=
 ∃ (gr cap : Nat) (ss : List QP), e = .returned (.slice (some ⟨gr, 0, none⟩) ss.length cap) ∧ QlR W w.heap.size (.slice (some ⟨gr, 0, none⟩) ss.length cap) ss ∧ Below w.heap.size w W ∧ SortP l ss
/-- The copy's loop. -/
structure CpI (w W : World) (l : List Oe) (j : Nat) (v : Value) (ps : List QP) : Prop where
 row : QlR W w.heap.size v ps
 form : ∃ g cap, v = .slice (some ⟨g, 0, none⟩) ps.length cap
 eq : ps.map (·.e) = l.take j
 bel : Below w.heap.size w W
 f1 : ∀ k, v.ownBlock = some k → w.heap.size ≤ k
theorem cpi_next {w W X W' : World} {l : List Oe} {j g cap : Nat} {ps : List QP} {p q : QP} {v : Value} (h : CpI w W l j (.slice (some ⟨g, 0, none⟩) ps.length cap) ps) (hj : ps.length = j) (hp : l[j]? = some p.e) (hq : q.e = p.e) (hX : Below W.heap.size W X)
  (hr : QlR W' w.heap.size v (ps ++ [q])) (hf : Fr X W' (fun k => (Value.slice (some ⟨g, 0, none⟩) ps.length cap).ownBlock = some k)) (hat : v.ownBlock = (Value.slice (some ⟨g, 0, none⟩) ps.length cap).ownBlock ∨ v.ownBlock = some X.heap.size) : CpI w W' l (j + 1) v (ps ++ [q]) := by
 have hown : ∃ k, v.ownBlock = some k := by
  rcases hat with e | e
  ·exact ⟨g, e⟩
  ·exact ⟨_, e⟩
 refine ⟨hr, ?_, ?_, hf.below (below_step h.bel hX) (fun k hk => h.f1 k hk), fun k hk => ?_⟩
 ·rcases hr.slice with ⟨h1, _⟩ | ⟨g', cap', cur, h1, _⟩
  ·obtain ⟨k, hk⟩ := hown
   rw [h1] at hk
   simp [Value.ownBlock] at hk
  ·exact ⟨g', cap', h1⟩
 ·obtain ⟨h1, h2⟩ := List.getElem?_eq_some_iff.1 hp
  rw [List.map_append, h.eq, List.take_succ_eq_append_getElem h1, h2, List.map_singleton, hq]
 ·rcases hat with e | e
  ·exact h.f1 k (e ▸ hk)
  ·rw [e] at hk
   have hk := Option.some.inj hk
   have h1 := h.bel.size
   have h2 := hX.size
   omega
set_option maxRecDepth 100000 in
set_option maxHeartbeats 16000000 in
theorem osort_calls (A : Option Addr) (c : Nat) (l : List Oe) (w : World) (hC : Kd.C X.k31 w A l.length l) (hl : l.length ≤ 60) (hd : ∀ e ∈ l, e.f6.length ≤ 500) :
  Calls Try.prog 7 #[.slice A l.length c] w fun e w' => OSortP w l e w' := by
 have HC := Aside0.mk hC
 have HL := Aside0.mk hl
 have HD := Aside0.mk hd
 obtain ⟨n, hn⟩ : ∃ n, l.length = n := ⟨_, rfl⟩
 have HN := Aside0.mk hn
 rw [hn]
 have hmk := make_ops n (by omega)
 have hn1 : (0 : Int) ≤ n := by omega
 have HI0 : Aside0 (CpI w (w.alloc (.cells (madeCells #[.int .i64 0, .int .i64 0, .int .i64 0, .int .i64 0, .int .i64 0, .int .i64 0, .int .i64 0, .bool false, .string ⟨#[]⟩, .slice none 0 0] (n * 10)) 31)) l 0 (.slice (some ⟨w.heap.size, 0, none⟩) 0 n) []) := ⟨made_ops w w.heap.size n (Nat.le_refl _) (by omega), ⟨_, _, rfl⟩, by simp, below_alloc (Below.refl _ _) _, fun k hk => Nat.le_of_eq (Option.some.inj hk)⟩
 have HTA : Aside0 (∀ q : QP, qV q = .agg #[.int .i64 q.e.f0, .int .i64 q.e.f1.f0, .int .i64 q.e.f1.f1, .int .i64 q.e.f2.f0, .int .i64 q.e.f2.f1, .int .i64 q.e.f3.f0, .int .i64 q.e.f3.f1, .bool q.e.f4, .string q.e.f5, .slice q.A q.e.f6.length q.c]) := ⟨fun _ => rfl⟩
 clear hC hl hd hn
 go_enter Try.func7, Try.ntmps7
 go_wp2
 clear hmk hn1
 go_loopg [3, 11] n (fun gg v3 v11 wr => ∃ (j : Nat) (ps : List QP), gg = n - j ∧ v11 = .int .i64 j ∧ j ≤ n ∧ Aside0 (CpI w wr l j v3 ps))
 case atStart => exact ⟨0, [], rfl, rfl, Nat.zero_le _, HI0⟩
 case round =>
  clear HI0
  obtain ⟨j, ps, hg, rfl, hj, HI⟩ := hrel
  have HG := Aside0.mk hg
  obtain ⟨g, cap, hform⟩ := HI.out.form
  subst hform
  have HPL : Aside0 (ps.length = j) := ⟨by
   have h1 := congrArg List.length HI.out.eq
   rw [List.length_map, List.length_take] at h1
   have := HN.out
   omega⟩
  clear hg
  by_cases hjn : j < n
  ·obtain ⟨ad, p, rfl, hpe, hrd, x0, x1, x2, x3, x4, x5, x6, x7, x8, x9⟩ := opq_at HC.out (i := j) (by rw [HN.out]; exact hjn)
   replace x0 := pw_cell_below HI.out.bel x0
   replace x1 := pw_cell_below HI.out.bel x1
   replace x2 := pw_cell_below HI.out.bel x2
   replace x3 := pw_cell_below HI.out.bel x3
   replace x4 := pw_cell_below HI.out.bel x4
   replace x5 := pw_cell_below HI.out.bel x5
   replace x6 := pw_cell_below HI.out.bel x6
   replace x7 := pw_cell_below HI.out.bel x7
   replace x8 := pw_cell_below HI.out.bel x8
   replace x9 := pw_cell_below HI.out.bel x9
   have HRP := Aside0.mk hrd
   have HPE := Aside0.mk hpe
   have HJN := Aside0.mk hjn
   have hlt : (j : Int) < n := by omega
   have h0 : (0 : Int) ≤ j := by omega
   have hk : (-1000000 : Int) ≤ (j : Int) + 1 ∧ (j : Int) + 1 ≤ 1000000 := by have := HL.out; have := HN.out; omega
   have HKK := Aside0.mk hk
   have AHL : Aside0 (j + 1 ≤ 1000000) := ⟨by omega⟩
   have HDL : Aside0 (p.e.f6.length ≤ 140737488355328) := ⟨by have := HD.out p.e (List.mem_of_getElem? hpe); omega⟩
   clear hpe hrd hjn hj hk
   go_upto_region 5 with fail
   refine gen_world (fun W9 hW9 => ?_)
   have hB9 : Below wr.heap.size wr W9 := by rw [hW9]; with_reducible exact below_alloc (Below.refl _ _) _
   have hx9 : W9.heap[wr.heap.size]? = some (.cells #[.int .i64 p.e.f0, .int .i64 p.e.f1.f0, .int .i64 p.e.f1.f1, .int .i64 p.e.f2.f0, .int .i64 p.e.f2.f1, .int .i64 p.e.f3.f0, .int .i64 p.e.f3.f1, .bool p.e.f4, .string p.e.f5, .slice p.A p.e.f6.length p.c] 31 (0, 0)) := by rw [hW9]; with_reducible exact heap_alloc_new _ _
   obtain ⟨b5, hb5⟩ : ∃ b, b = wr.heap.size := ⟨_, rfl⟩
   rw [← hb5] at hx9 ⊢
   clear x0 x1 x2 x3 x4 x5 x6 x7 x8 x9
   obtain ⟨x0, x1, x2, x3, x4, x5, x6, x7, x8, x9, -⟩ := cells10z hx9
   have HB9 := Aside0.mk hB9
   clear hW9 hB9 hx9 hb5 hlt h0
   have hw1 := iw (x := (j : Int) + 1) rfl HKK.out
   have hw2 := w64 (x := (j : Int) + 1) rfl HKK.out
   go_wp2_with (first
    | (go_at_call 19; go_must (refine (own_calls p _ ((HRP.out.below HI.out.bel).below HB9.out) HDL.out).mono ?_; rintro e w17 ⟨q, rfl, hqe, hqo, hb⟩; rw [HTA.out]; have HQE := Aside0.mk hqe; have HB17 : Aside0 (Below wr.heap.size wr w17) := ⟨HB9.out.trans (hb.mono HB9.out.size)⟩; have HQO : Aside0 (Own w17 w.heap.size q.b q.e.f6) := ⟨Own.lower hqo (Nat.le_trans HI.out.bel.size HB9.out.size)⟩; clear hqe hqo hb))
    | ((with_reducible refine gate_builtin (b := .append) (xs := #[.tmp 15, .tmp 18]) rfl ?_); at_builtin; go_must (refine app_qile w.heap.size rfl (.tmp 15) (.tmp 18) 22 rfl Try.underlying22 (.slice (some ⟨g, 0, none⟩) ps.length cap) ps.length ps [q] rfl ?ho0 rfl ⟨w17.heap.size, 0, none⟩ 1 1 rfl rfl ?hnw ?hbd ?hbs ?hlt ?_; (case ho0 => exact (HI.out.row.below HB17.out).below (below_alloc (Below.refl _ _) _)); (case hnw => exact fun j u hu => World.news_of_block (heap_alloc_new _ _) j u (by simpa [flQ, qC] using hu)); (case hbd => (intro x hx; rw [List.mem_singleton.1 hx]; exact Own.below HQO.out (below_alloc (Below.refl _ _) _))); (case hbs => exact Nat.le_trans (Nat.le_trans HI.out.bel.size HB17.out.size) (by simp)); (case hlt => (rw [HPL.out]; exact AHL.out)); intro v19 w19 hp hf hat; have HC19 := Aside0.mk (cpi_next (l := l) (W' := w19) HI.out HPL.out HPE.out HQE.out (below_alloc HB17.out _) hp hf hat); obtain ⟨g19, c19, rfl⟩ := HC19.out.form; clear hp hf hat)))
   clear hw1 hw2
   go_roundg (n - (j + 1))
   case measure => rw [HG.out]; have := HJN.out; omega
   case rel => exact ⟨j + 1, ps ++ [q], rfl, by simp, HJN.out, by simpa using HC19⟩
  ·have hje : j = n := by omega
   have hlt : ¬ (j : Int) < n := by omega
   have HPS : Aside0 (ps.map (·.e) = l) := ⟨by rw [HI.out.eq, hje, List.take_of_length_le (Nat.le_of_eq HN.out)]⟩
   have HSR : Aside0 (Srt wr wr w.heap.size g ps.length cap ps) := ⟨HI.out.row, rfl, Fr.refl _ _⟩
   have HP1 : Aside0 (ps.length ≤ 100000) := ⟨by have := HL.out; have := HN.out; rw [HPL.out]; omega⟩
   have HG1 : Aside0 (w.heap.size ≤ g) := ⟨HI.out.f1 g rfl⟩
   have HLQ : Aside0 (ps.length = j) := HPL
   clear hj hjn hje HG
   go_wp2_with (first
    | (go_at_call 20; go_must (refine (sortstable_calls w.heap.size g ps.length cap ps _ (by exact HSR.out) HP1.out).mono ?_; rintro e w22 ⟨rfl, qs, h1, h2, h3⟩; have HQ := Aside0.mk h1; have HQS := Aside0.mk h2; have HQC := Aside0.mk h3; clear h1 h2 h3))
    | (go_at_call 22; go_must (refine (compact_calls w.heap.size g ps.length cap qs _ (by exact HQ.out.self) HP1.out).mono ?_; rintro e w24 ⟨m, rfl, h1, h2, h3⟩; have HM := Aside0.mk h1; have HR := Aside0.mk h2; have HF := Aside0.mk (HQ.out.fr.trans h3 (fun _ _ h => h)); clear h1 h2 h3)))
   go_ret
   refine ⟨g, cap, dd qs, (by rw [HM.out]; rfl), by rw [← HM.out]; exact HR.out, HF.out.below HI.out.bel (fun k hk => by rw [hk]; exact HG1.out), ps, qs, HPS.out, HQS.out, HQC.out, rfl⟩
end Go.Proofs.Ytaiakklflmhpmaa.K

namespace Go.Proofs.Ytaiakklflmhpmaa.K
open Go.RowKit Go.Proofs.YtaiakklflmhpmaaW.PrintWords Go.Proofs.YtaiakklflmhpmaaW.PrintLast Go.Proofs.YtaiakklflmhpmaaW.PrintMore
set_option linter.unusedVariables false
set_option linter.unusedSimpArgs false

def tS (l : List QP) : Prop := l.Pairwise (fun a b => ltO (kO a) (kO b))
theorem dd2_sorted : ∀ (k : Ko) (l : List QP), sO kO l → (∀ x ∈ l, ¬ ltO (kO x) k) → tS (dd2 k l) ∧ ∀ x ∈ dd2 k l, ltO k (kO x)
 | k, [], _, _ => ⟨List.Pairwise.nil, fun x hx => by simp [dd2] at hx⟩
 | k, b :: l, hs, hk => by
  have hs' := List.pairwise_cons.1 hs
  unfold dd2
  by_cases h : kO b = k
  ·rw [if_pos h]
   exact dd2_sorted k l hs'.2 (fun x hx => hk x (List.mem_cons_of_mem _ hx))
  ·rw [if_neg h]
   have hlt : ltO k (kO b) := by
    by_cases h2 : ltO k (kO b)
    ·exact h2
    ·exact absurd (ltO.eq (hk b List.mem_cons_self) h2) h
   obtain ⟨g1, g2⟩ := dd2_sorted (kO b) l hs'.2 hs'.1
   refine ⟨List.pairwise_cons.2 ⟨g2, g1⟩, fun x hx => ?_⟩
   rcases List.mem_cons.1 hx with rfl | hx
   ·exact hlt
   ·exact ltO.trans hlt (g2 x hx)
theorem dd2_sub : ∀ (k : Ko) (l : List QP), (dd2 k l).Sublist l
 | k, [] => List.Sublist.refl _
 | k, b :: l => by
  unfold dd2
  split
  ·exact (dd2_sub k l).cons _
  ·exact (dd2_sub (kO b) l).cons_cons _
theorem dd2_mem : ∀ (k : Ko) (l : List QP), ∀ x ∈ l, kO x = k ∨ ∃ y ∈ dd2 k l, kO y = kO x
 | k, [], x, hx => by simp at hx
 | k, b :: l, x, hx => by
  unfold dd2
  by_cases h : kO b = k
  ·rw [if_pos h]
   rcases List.mem_cons.1 hx with rfl | hx
   ·exact .inl h
   ·exact dd2_mem k l x hx
  ·rw [if_neg h]
   rcases List.mem_cons.1 hx with rfl | hx
   ·exact .inr ⟨x, List.mem_cons_self, rfl⟩
   ·rcases dd2_mem (kO b) l x hx with e | ⟨y, hy, e⟩
    ·exact .inr ⟨b, List.mem_cons_self, e.symm⟩
    ·exact .inr ⟨y, List.mem_cons_of_mem _ hy, e⟩
theorem dd_sorted {l : List QP} (h : sO kO l) : tS (dd l) := by
 cases l with
 | nil => exact List.Pairwise.nil
 | cons a l =>
  have h' := List.pairwise_cons.1 h
  obtain ⟨g1, g2⟩ := dd2_sorted (kO a) l h'.2 h'.1
  exact List.pairwise_cons.2 ⟨g2, g1⟩
theorem dd_sub (l : List QP) : (dd l).Sublist l := by
 cases l with
 | nil => exact List.Sublist.refl _
 | cons a l => exact (dd2_sub (kO a) l).cons_cons _
theorem dd_mem {l : List QP} {x : QP} (hx : x ∈ l) : ∃ y ∈ dd l, kO y = kO x := by
 cases l with
 | nil => simp at hx
 | cons a l =>
  rcases List.mem_cons.1 hx with rfl | hx
  ·exact ⟨x, List.mem_cons_self, rfl⟩
  ·rcases dd2_mem (kO a) l x hx with e | ⟨y, hy, e⟩
   ·exact ⟨a, List.mem_cons_self, e.symm⟩
   ·exact ⟨y, List.mem_cons_of_mem _ hy, e⟩
theorem dd2_strict : ∀ (k : Ko) (l : List QP), tS l → (∀ x ∈ l, ltO k (kO x)) → dd2 k l = l
 | k, [], _, _ => rfl
 | k, b :: l, hs, hk => by
  have hs' := List.pairwise_cons.1 hs
  unfold dd2
  rw [if_neg (fun e => by have := hk b List.mem_cons_self; rw [e] at this; exact ltO.irr this), dd2_strict (kO b) l hs'.2 hs'.1]
theorem dd_strict {l : List QP} (h : tS l) : dd l = l := by
 cases l with
 | nil => rfl
 | cons a l =>
  have h' := List.pairwise_cons.1 h
  show a :: dd2 (kO a) l = a :: l
  rw [dd2_strict (kO a) l h'.2 h'.1]
theorem tS.sO {l : List QP} (h : tS l) : sO kO l := List.Pairwise.imp (fun h => ltO.asym h) h
def keO (e : Oe) : Ko := (e.f1.f0, e.f1.f1)
/-- What is sorted. -/
structure Sd (l : List Oe) (ss : List QP) : Prop where
 st : tS ss
 mem : ∀ e ∈ l, ∃ s ∈ ss, kO s = keO e
 sub : ∀ s ∈ ss, s.e ∈ l
 len : ss.length ≤ l.length
theorem SortP.sd {l : List Oe} {ss : List QP} (h : SortP l ss) : Sd l ss := by
 obtain ⟨ps, qs, hp, hs, hc, rfl⟩ := h
 refine ⟨dd_sorted hs, fun e he => ?_, fun s hs' => ?_, ?_⟩
 ·rw [← hp] at he
  obtain ⟨p, hp', rfl⟩ := List.mem_map.1 he
  exact dd_mem (hc.1.mem_iff.1 hp')
 ·rw [← hp]
  exact List.mem_map.2 ⟨s, hc.1.mem_iff.2 ((dd_sub qs).subset hs'), rfl⟩
 ·rw [← hp, List.length_map, hc.1.length_eq]
  exact (dd_sub qs).length_le
/-! ### Light -/
theorem light15_l (l : List Oe) (hl : l.length ≤ 60) : ∀ (k n : Nat), l.length < n + k → n ≤ l.length → ∃ r, X.cachettelaw15_Light.l0 k l (n : Int) = some r ∧ (r = true → ∀ e ∈ l.drop n, e.f6.length ≤ 500)
 | 0, n, h1, h2 => by omega
 | k + 1, n, h1, h2 => by
  unfold X.cachettelaw15_Light.l0
  by_cases h : n < l.length
  ·have hr : X.rd_T31 l (n : Int) = l[n] := by
    unfold X.rd_T31
    rw [Int.toNat_natCast, List.getD_eq_getElem?_getD, List.getElem?_eq_getElem h]
    rfl
   rw [if_pos (show (n : Int) < (l.length : Int) by omega), if_pos (show (0 : Int) ≤ n by omega), hr]
   split
   ·exact ⟨false, rfl, fun h => Bool.noConfusion h⟩
   ·split
    ·exact ⟨false, rfl, fun h => Bool.noConfusion h⟩
    ·rw [w64 (x := (n : Int) + 1) (y := ((n + 1 : Nat) : Int)) (by simp) (by omega)]
     obtain ⟨r, hr1, hr2⟩ := light15_l l hl k (n + 1) (by omega) (by omega)
     refine ⟨r, hr1, fun ht e he => ?_⟩
     rw [List.drop_eq_getElem_cons h] at he
     rcases List.mem_cons.1 he with rfl | he
     ·omega
     ·exact hr2 ht e he
  ·rw [if_neg (by omega)]
   refine ⟨true, rfl, fun _ e he => ?_⟩
   rw [List.drop_of_length_le (by omega)] at he
   simp at he
/-! ### All -/
theorem osame15_l (x : List Int) (hx : x.length ≤ 1000000) : ∀ (k n : Nat), x.length < n + k → n ≤ x.length → X.cachetteref01_Same.l0 k x x (n : Int) = some true
 | 0, n, h1, h2 => by omega
 | k + 1, n, h1, h2 => by
  unfold X.cachetteref01_Same.l0
  by_cases h : n < x.length
  ·rw [if_pos (show (n : Int) < (x.length : Int) by omega), if_pos (show (0 : Int) ≤ n by omega), if_pos (show (n : Int) < (x.length : Int) by omega), if_pos rfl, w64 (x := (n : Int) + 1) (y := ((n + 1 : Nat) : Int)) (by simp) (by omega)]
   exact osame15_l x hx k (n + 1) (by omega) (by omega)
  ·rw [if_neg (by omega)]
theorem osame15_refl (e : Oe) (he : e.f6.length ≤ 1000000) (k : Nat) (hk : e.f6.length < k) : X.cachetteref15_Same.f k e.f0 e.f1.f0 e.f1.f1 e.f2.f0 e.f2.f1 e.f3.f0 e.f3.f1 e.f4 e.f5 e.f6 e.f0 e.f1.f0 e.f1.f1 e.f2.f0 e.f2.f1 e.f3.f0 e.f3.f1 e.f4 e.f5 e.f6 = some true := by
 unfold X.cachetteref15_Same.f
 have h : X.cachetteref01_Same.f k e.f6 e.f6 = some true := by
  rw [X.cachetteref01_Same.f, if_pos rfl]
  exact osame15_l e.f6 he k 0 (by omega) (Nat.zero_le _)
 simp [h]
theorem all15_l (x : List Oe) (hx : x.length ≤ 100000) (hb : ∀ e ∈ x, e.f6.length ≤ 500) : ∀ (k n : Nat), x.length + 2000 < n + k → n ≤ x.length → X.cachetteref15_All.l0 k x x (n : Int) = some true
 | 0, n, h1, h2 => by omega
 | k + 1, n, h1, h2 => by
  unfold X.cachetteref15_All.l0
  by_cases h : n < x.length
  ·have hm : X.rd_T31 x (n : Int) ∈ x := by
    unfold X.rd_T31
    rw [Int.toNat_natCast, List.getD_eq_getElem?_getD, List.getElem?_eq_getElem h]
    exact List.getElem_mem h
   have hb' := hb _ hm
   rw [if_pos (show (n : Int) < (x.length : Int) by omega), if_pos (show (0 : Int) ≤ n by omega), if_pos (show (n : Int) < (x.length : Int) by omega), osame15_refl _ (by omega) k (by omega), Option.bind_some, if_pos rfl, w64 (x := (n : Int) + 1) (y := ((n + 1 : Nat) : Int)) (by simp) (by omega)]
   exact all15_l x hx hb k (n + 1) (by omega) (by omega)
  ·rw [if_neg (by omega)]
theorem all15_f (x : List Oe) (hx : x.length ≤ 100000) (hb : ∀ e ∈ x, e.f6.length ≤ 500) : X.cachetteref15_All.f 200000 x x = some true := by
 rw [X.cachetteref15_All.f, if_pos rfl]
 exact all15_l x hx hb 200000 0 (by omega) (Nat.zero_le _)
end Go.Proofs.Ytaiakklflmhpmaa.K

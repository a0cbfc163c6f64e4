/- Texts that the proof needs: RatSums, RatProd, RatQ, RatRun, RatOps, RatOf, RatText, RatWrap, CirF. -/
import Derived.Deep.RegionHeld3
import Derived.Deep.DeepCutAuto
import Derived.Lib.IndexMore
import Derived.Shelf.Vars
import Derived.SizedLaws
import Derived.Lib.SmallJoins
import Derived.DataShut
import Derived.WideKeyArgs
import Derived.Deep.Slices
import Derived.Deep.Strs
import Derived.Test.YtpmlhgmmobpilaaGreatDoorKcA
import Derived.Test.YtpmlhgmmobpilaaGreatDoorKcB
import Derived.Test.YtpmlhgmmobpilaaGreatDoorKcC
import Derived.Test.YtpmlhgmmobpilaaGreatDoorKcD
import Derived.Test.YtpmlhgmmobpilaaGreatDoorKcE
namespace Go.Proofs.YtpmlhgmmobpilaaGreatDoor
open Go.RowKit Go.Shelf
namespace Nt
theorem blw_drewN {B : Nat} {a w : World} (h : Below B a w) (n : Nat) : Below B a (w.drewN n) := ⟨h.os, h.tape, h.output, h.size, h.block⟩
/-- The blocks that sum lays ahead of its products. -/
def SumBoxes (W : World) (B : Nat) (g1 g2 : Bool) (a b c d : Nat) : Prop :=
  B3 W B g1 (T (some a)) (T (some b)) ∧ B3 W (B + 1) g2 (T (some c)) (T (some d)) ∧ B3 W (B + 1 + 1) false ⟨#[]⟩ ⟨#[]⟩
abbrev sumW (w : World) (g1 g2 : Bool) (a b c d : Nat) : World :=
  ((w.alloc (.cells #[.bool g1, .string (T (some a)), .string (T (some b))] 23)).alloc (.cells #[.bool g2, .string (T (some c)), .string (T (some d))] 23)).alloc (.cells #[.bool false, .string ⟨#[]⟩, .string ⟨#[]⟩] 23)
theorem SumBoxes.new (w : World) (g1 g2 : Bool) (a b c d : Nat) : SumBoxes (sumW w g1 g2 a b c d) w.heap.size g1 g2 a b c d := by
  have e1 : (w.alloc (.cells #[.bool g1, .string (T (some a)), .string (T (some b))] 23)).heap.size = w.heap.size + 1 := by simp
  have e2 : ((w.alloc (.cells #[.bool g1, .string (T (some a)), .string (T (some b))] 23)).alloc (.cells #[.bool g2, .string (T (some c)), .string (T (some d))] 23)).heap.size = w.heap.size + 1 + 1 := by simp
  refine ⟨((B3.new w _ _ _).alloc _).alloc _, ?_, ?_⟩
  · have h := B3.new (w.alloc (.cells #[.bool g1, .string (T (some a)), .string (T (some b))] 23)) g2 (T (some c)) (T (some d))
    rw [e1] at h
    exact h.alloc _
  · have h := B3.new ((w.alloc (.cells #[.bool g1, .string (T (some a)), .string (T (some b))] 23)).alloc (.cells #[.bool g2, .string (T (some c)), .string (T (some d))] 23)) false ⟨#[]⟩ ⟨#[]⟩
    rw [e2] at h
    exact h
theorem sumW_below (w : World) (g1 g2 : Bool) (a b c d : Nat) : Below w.heap.size w (sumW w g1 g2 a b c d) :=
  (((Below.refl _ w).alloc (Nat.le_refl _) _).alloc (by simp) _).alloc (by simp; omega) _
theorem SumBoxes.alloc {W : World} {B : Nat} {g1 g2 : Bool} {a b c d : Nat} (h : SumBoxes W B g1 g2 a b c d) (o : Obj) : SumBoxes (W.alloc o) B g1 g2 a b c d := ⟨h.1.alloc o, h.2.1.alloc o, h.2.2.alloc o⟩
theorem SumBoxes.below {W W' : World} {B : Nat} {g1 g2 : Bool} {a b c d : Nat} (h : SumBoxes W B g1 g2 a b c d) (hb : Below W.heap.size W W') : SumBoxes W' B g1 g2 a b c d := ⟨h.1.below hb, h.2.1.below hb, h.2.2.below hb⟩
theorem texts3 {W : World} {v : Value} {x y z : Nat} (h : TextsAt W v [x, y, z]) : ∃ g cap, v = .slice (some ⟨g, 0, none⟩) 3 cap ∧ W.cell? ⟨g, 0, none⟩ = some (.string (T (some x))) ∧ W.cell? ⟨g, 1, none⟩ = some (.string (T (some y))) ∧ W.cell? ⟨g, 2, none⟩ = some (.string (T (some z))) := by
  obtain ⟨g, cap, rfl, hg, hc⟩ := h
  exact ⟨g, cap, rfl, hc 0 (by simp), hc 1 (by simp), hc 2 (by simp)⟩
/-- The memory of the pairs. -/
theorem pairs3 (W : World) (x1 y1 x2 y2 x3 y3 : Nat) :
    PairsAt (W.alloc (.cells #[.string (T (some x1)), .string (T (some y1)), .string (T (some x2)), .string (T (some y2)), .string (T (some x3)), .string (T (some y3))] 126)) W.heap.size [(x1, y1), (x2, y2), (x3, y3)] := by
  intro i hi
  have h := heap_alloc_new W (.cells #[.string (T (some x1)), .string (T (some y1)), .string (T (some x2)), .string (T (some y2)), .string (T (some x3)), .string (T (some y3))] 126)
  match i, hi with
  | 0, _ => simp only [World.cell?, h]; exact ⟨rfl, rfl⟩
  | 1, _ => simp only [World.cell?, h]; exact ⟨rfl, rfl⟩
  | 2, _ => simp only [World.cell?, h]; exact ⟨rfl, rfl⟩
  | n + 3, hi => simp at hi; omega
set_option maxRecDepth 100000 in
set_option maxHeartbeats 2000000 in
theorem sumw_same (g1 : Bool) (a b c d : Nat) (w : World) (hE : Env w) (ha : a < L1) (hb : b < L1) (hc : c < L1) (hd : d < L1) (hb0 : b ≠ 0) (hd0 : d ≠ 0)  :
    Calls Tryz.prog 58 #[.agg #[.bool g1, .string (T (some a)), .string (T (some b))], .agg #[.bool g1, .string (T (some c)), .string (T (some d))]] w fun e w' => e = .returned (.tuple #[qv (mkRat (sg g1 (a * d + c * b)) (b * d)), .int .i64 0]) ∧ Below w.heap.size w w' := by
  have hbd : b * d ≠ 0 := Nat.mul_ne_zero hb0 hd0
  have HS := Lib.hid (And.intro (L1_mul ha hd) (And.intro (L1_mul hc hb) (And.intro (L1_mul hb hd) L1_sq)))
  have HP : Hid (∀ p ∈ [(a, d), (c, b), (b, d)], p.1 < Lim ∧ p.2 < Lim ∧ p.1 * p.2 < Lim) := by
    have := HS.out
    intro p hp
    simp only [List.mem_cons, List.not_mem_nil, or_false] at hp
    rcases hp with rfl | rfl | rfl
    · exact ⟨L1_lim ha, L1_lim hd, by show a * d < Lim; omega⟩
    · exact ⟨L1_lim hc, L1_lim hb, by show c * b < Lim; omega⟩
    · exact ⟨L1_lim hb, L1_lim hd, by show b * d < Lim; omega⟩
  have hPR : Hid (PairsAt ((sumW w g1 g1 a b c d).alloc (.cells #[.string (T (some a)), .string (T (some d)), .string (T (some c)), .string (T (some b)), .string (T (some b)), .string (T (some d))] 126)) (w.heap.size + 1 + 1 + 1) [(a, d), (c, b), (b, d)]) := by
    have := pairs3 (sumW w g1 g1 a b c d) a d c b b d
    rwa [show (sumW w g1 g1 a b c d).heap.size = w.heap.size + 1 + 1 + 1 by simp] at this
  have hBE : Hid (Below w.heap.size w ((sumW w g1 g1 a b c d).alloc (.cells #[.string (T (some a)), .string (T (some d)), .string (T (some c)), .string (T (some b)), .string (T (some b)), .string (T (some d))] 126))) := (sumW_below w g1 g1 a b c d).alloc (sumW_below w g1 g1 a b c d).size _
  have hQE : Hid (SumBoxes ((sumW w g1 g1 a b c d).alloc (.cells #[.string (T (some a)), .string (T (some d)), .string (T (some c)), .string (T (some b)), .string (T (some b)), .string (T (some d))] 126)) w.heap.size g1 g1 a b c d) := (SumBoxes.new w g1 g1 a b c d).alloc _
  replace hE := Lib.hid hE
  replace hbd := Lib.hid hbd
  clear ha hb hc hd hb0 hd0
  have hA : Hid (sumO (some (a * d)) (some (c * b)) = some (a * d + c * b) ∧ sumE (some (a * d)) (some (c * b)) = 0) := by
    have := HS.out
    have h : a * d + c * b < Lim := by omega
    exact ⟨by simp only [sumO, apO, limO, if_pos h], by simp only [sumE, apE, if_pos h]⟩
  go_enter Tryz.func58, Tryz.ntmps58
  go_wp2_with fail
  refine (products_any _ (hE.out.below hBE.out) (w.heap.size + 1 + 1 + 1) 3 [(a, d), (c, b), (b, d)] (by simp) (by simp) hPR.out HP.out).mono ?_
  rintro e w1 ⟨⟨v, rfl, ho⟩, hb1⟩
  have hat : TextsAt w1 v [a * d, c * b, b * d] := tvals_at ho (by simp)
  obtain ⟨lg, lcap, rfl, l0, l1, l2⟩ := texts3 hat
  have q1 := hQE.out.below hb1
  have hB1 := Lib.hid (hBE.out.trans (hb1.mono hBE.out.size))
  obtain ⟨a1, a2, a3, a4, a5, a6⟩ := q1.1.facts
  obtain ⟨b1, b2, b3, b4, b5, b6⟩ := q1.2.1.facts
  obtain ⟨c1, c2, c3, c4, c5, c6⟩ := q1.2.2.facts
  have hz1 := q1.2.2.lt
  replace q1 := Lib.hid q1
  clear hb1 hat ho
  go_wp2_with fail
  show Code.wp _ _ _ _ _
  go_quiet (fail)
  obtain ⟨W, hW⟩ : ∃ W, W = w1.drewN nq := ⟨_, rfl⟩
  have qW : Hid (SumBoxes W w.heap.size g1 g1 a b c d) := by rw [hW]; exact q1.out
  have hBW : Hid (Below w.heap.size w W) := by rw [hW]; exact blw_drewN hB1.out nq
  rw [← hW]
  clear a1 a2 a3 a4 a5 a6 b1 b2 b3 b4 b5 b6 c1 c2 c3 c4 c5 c6 hz1 l0 l1 l2 hW q1 hB1
  obtain ⟨a1, a2, a3, a4, a5, a6⟩ := qW.out.1.facts
  obtain ⟨b1, b2, b3, b4, b5, b6⟩ := qW.out.2.1.facts
  go_wp2_with fail
  refine (addT (some (a * d)) (some (c * b)) _ (hE.out.below hBW.out) (ok_some (by have := HS.out; omega)) (ok_some (by have := HS.out; omega))).mono ?_
  rintro e w2 ⟨rfl, hb2⟩
  rw [hA.out.1, hA.out.2]
  have q2 := qW.out.below hb2
  have hB2 := Lib.hid (hBW.out.trans (hb2.mono hBW.out.size))
  clear a1 a2 a3 a4 a5 a6 b1 b2 b3 b4 b5 b6 hb2
  obtain ⟨a1, a2, a3, a4, a5, a6⟩ := q2.1.facts
  obtain ⟨b1, b2, b3, b4, b5, b6⟩ := q2.2.1.facts
  replace q2 := Lib.hid q2
  go_wp2_with fail
  refine (lowest_any g1 (a * d + c * b) (b * d) _ (hE.out.below hB2.out) (by have := HS.out; omega) (by have := HS.out; omega) hbd.out).mono ?_
  rintro e w3 ⟨rfl, hb3⟩
  have q3 := q2.out.below hb3
  have hB3 := Lib.hid (hB2.out.trans (hb3.mono hB2.out.size))
  clear a1 a2 a3 a4 a5 a6 b1 b2 b3 b4 b5 b6 hb3
  obtain ⟨c1, c2, c3, c4, c5, c6⟩ := q3.2.2.facts
  replace q3 := Lib.hid q3
  unfold qv
  go_wp2
  refine bodyPost_ret (v := .tuple #[.agg #[.bool (decide ((mkRat (sg g1 (a * d + c * b)) (b * d)).num < 0)), .string (T (some (mkRat (sg g1 (a * d + c * b)) (b * d)).num.natAbs)), .string (T (some (mkRat (sg g1 (a * d + c * b)) (b * d)).den))], .int .i64 0]) (by simp [results, Tryz.results58, go_sem, c1, c2, c3]) rfl ⟨rfl, ?_⟩
  repeat refine Below.setCell ?_ (by simp only []; omega) _
  exact hB3.out
set_option maxRecDepth 100000 in
set_option maxHeartbeats 2000000 in
theorem sumw_less (g1 g2 : Bool) (a b c d : Nat) (w : World) (hE : Env w) (ha : a < L1) (hb : b < L1) (hc : c < L1) (hd : d < L1) (hb0 : b ≠ 0) (hd0 : d ≠ 0) (hg : (g1 == g2) = false) (hl : a * d < c * b) :
    Calls Tryz.prog 58 #[.agg #[.bool g1, .string (T (some a)), .string (T (some b))], .agg #[.bool g2, .string (T (some c)), .string (T (some d))]] w fun e w' => e = .returned (.tuple #[qv (mkRat (sg g2 (c * b - a * d)) (b * d)), .int .i64 0]) ∧ Below w.heap.size w w' := by
  have hbd : b * d ≠ 0 := Nat.mul_ne_zero hb0 hd0
  have HS := Lib.hid (And.intro (L1_mul ha hd) (And.intro (L1_mul hc hb) (And.intro (L1_mul hb hd) L1_sq)))
  have HP : Hid (∀ p ∈ [(a, d), (c, b), (b, d)], p.1 < Lim ∧ p.2 < Lim ∧ p.1 * p.2 < Lim) := by
    have := HS.out
    intro p hp
    simp only [List.mem_cons, List.not_mem_nil, or_false] at hp
    rcases hp with rfl | rfl | rfl
    · exact ⟨L1_lim ha, L1_lim hd, by show a * d < Lim; omega⟩
    · exact ⟨L1_lim hc, L1_lim hb, by show c * b < Lim; omega⟩
    · exact ⟨L1_lim hb, L1_lim hd, by show b * d < Lim; omega⟩
  have hPR : Hid (PairsAt ((sumW w g1 g2 a b c d).alloc (.cells #[.string (T (some a)), .string (T (some d)), .string (T (some c)), .string (T (some b)), .string (T (some b)), .string (T (some d))] 126)) (w.heap.size + 1 + 1 + 1) [(a, d), (c, b), (b, d)]) := by
    have := pairs3 (sumW w g1 g2 a b c d) a d c b b d
    rwa [show (sumW w g1 g2 a b c d).heap.size = w.heap.size + 1 + 1 + 1 by simp] at this
  have hBE : Hid (Below w.heap.size w ((sumW w g1 g2 a b c d).alloc (.cells #[.string (T (some a)), .string (T (some d)), .string (T (some c)), .string (T (some b)), .string (T (some b)), .string (T (some d))] 126))) := (sumW_below w g1 g2 a b c d).alloc (sumW_below w g1 g2 a b c d).size _
  have hQE : Hid (SumBoxes ((sumW w g1 g2 a b c d).alloc (.cells #[.string (T (some a)), .string (T (some d)), .string (T (some c)), .string (T (some b)), .string (T (some b)), .string (T (some d))] 126)) w.heap.size g1 g2 a b c d) := (SumBoxes.new w g1 g2 a b c d).alloc _
  replace hE := Lib.hid hE
  replace hbd := Lib.hid hbd
  clear ha hb hc hd hb0 hd0
  have hC0 : Hid (cmpX (some (a * d)) (some (c * b)) = 0) := rfl
  have hS2 : Hid (subO (some (c * b)) (some (a * d)) = some (c * b - a * d) ∧ subX (some (c * b)) (some (a * d)) = 0) := ⟨if_pos (by omega), if_pos (by omega)⟩
  have hC : Hid (cmpO (some (a * d)) (some (c * b)) = -1) := cmpN_lt hl
  replace hl := Lib.hid hl
  go_enter Tryz.func58, Tryz.ntmps58
  go_wp2_with fail
  refine (products_any _ (hE.out.below hBE.out) (w.heap.size + 1 + 1 + 1) 3 [(a, d), (c, b), (b, d)] (by simp) (by simp) hPR.out HP.out).mono ?_
  rintro e w1 ⟨⟨v, rfl, ho⟩, hb1⟩
  have hat : TextsAt w1 v [a * d, c * b, b * d] := tvals_at ho (by simp)
  obtain ⟨lg, lcap, rfl, l0, l1, l2⟩ := texts3 hat
  have q1 := hQE.out.below hb1
  have hB1 := Lib.hid (hBE.out.trans (hb1.mono hBE.out.size))
  obtain ⟨a1, a2, a3, a4, a5, a6⟩ := q1.1.facts
  obtain ⟨b1, b2, b3, b4, b5, b6⟩ := q1.2.1.facts
  obtain ⟨c1, c2, c3, c4, c5, c6⟩ := q1.2.2.facts
  have hz1 := q1.2.2.lt
  replace q1 := Lib.hid q1
  clear hb1 hat ho
  go_wp2_with fail
  show Code.wp _ _ _ _ _
  go_quiet (fail)
  obtain ⟨W, hW⟩ : ∃ W, W = w1.drewN nq := ⟨_, rfl⟩
  have qW : Hid (SumBoxes W w.heap.size g1 g2 a b c d) := by rw [hW]; exact q1.out
  have hBW : Hid (Below w.heap.size w W) := by rw [hW]; exact blw_drewN hB1.out nq
  rw [← hW]
  clear a1 a2 a3 a4 a5 a6 b1 b2 b3 b4 b5 b6 c1 c2 c3 c4 c5 c6 hz1 l0 l1 l2 hW q1 hB1
  obtain ⟨a1, a2, a3, a4, a5, a6⟩ := qW.out.1.facts
  obtain ⟨b1, b2, b3, b4, b5, b6⟩ := qW.out.2.1.facts
  go_wp2_with fail
  refine (cmpT (some (a * d)) (some (c * b)) _ (hE.out.below hBW.out) (ok_some (by have := HS.out; omega)) (ok_some (by have := HS.out; omega))).mono ?_
  rintro e w2 ⟨rfl, hb2⟩
  rw [hC.out, hC0.out]
  have q2 := qW.out.below hb2
  have hB2 := Lib.hid (hBW.out.trans (hb2.mono hBW.out.size))
  clear a1 a2 a3 a4 a5 a6 b1 b2 b3 b4 b5 b6 hb2
  obtain ⟨a1, a2, a3, a4, a5, a6⟩ := q2.1.facts
  obtain ⟨b1, b2, b3, b4, b5, b6⟩ := q2.2.1.facts
  replace q2 := Lib.hid q2
  go_wp2_with fail
  refine (subT (some (c * b)) (some (a * d)) _ (hE.out.below hB2.out) (ok_some (by have := HS.out; omega)) (ok_some (by have := HS.out; omega))).mono ?_
  rintro e w3 ⟨rfl, hb3⟩
  rw [hS2.out.1, hS2.out.2]
  have q3 := q2.out.below hb3
  have hB3 := Lib.hid (hB2.out.trans (hb3.mono hB2.out.size))
  clear a1 a2 a3 a4 a5 a6 b1 b2 b3 b4 b5 b6 hb3
  obtain ⟨a1, a2, a3, a4, a5, a6⟩ := q3.1.facts
  obtain ⟨b1, b2, b3, b4, b5, b6⟩ := q3.2.1.facts
  replace q3 := Lib.hid q3
  go_wp2_with fail
  refine (lowest_any g2 (c * b - a * d) (b * d) _ (hE.out.below hB3.out) (by have := HS.out; omega) (by have := HS.out; omega) hbd.out).mono ?_
  rintro e w4 ⟨rfl, hb4⟩
  have q4 := q3.out.below hb4
  have hB4 := Lib.hid (hB3.out.trans (hb4.mono hB3.out.size))
  clear a1 a2 a3 a4 a5 a6 b1 b2 b3 b4 b5 b6 hb4
  obtain ⟨c1, c2, c3, c4, c5, c6⟩ := q4.2.2.facts
  replace q4 := Lib.hid q4
  unfold qv
  go_wp2
  refine bodyPost_ret (v := .tuple #[.agg #[.bool (decide ((mkRat (sg g2 (c * b - a * d)) (b * d)).num < 0)), .string (T (some (mkRat (sg g2 (c * b - a * d)) (b * d)).num.natAbs)), .string (T (some (mkRat (sg g2 (c * b - a * d)) (b * d)).den))], .int .i64 0]) (by simp [results, Tryz.results58, go_sem, c1, c2, c3]) rfl ⟨rfl, ?_⟩
  repeat refine Below.setCell ?_ (by simp only []; omega) _
  exact hB4.out
set_option maxRecDepth 100000 in
set_option maxHeartbeats 2000000 in
theorem sumw_more (g1 g2 : Bool) (a b c d : Nat) (w : World) (hE : Env w) (ha : a < L1) (hb : b < L1) (hc : c < L1) (hd : d < L1) (hb0 : b ≠ 0) (hd0 : d ≠ 0) (hg : (g1 == g2) = false) (hl : c * b ≤ a * d) :
    Calls Tryz.prog 58 #[.agg #[.bool g1, .string (T (some a)), .string (T (some b))], .agg #[.bool g2, .string (T (some c)), .string (T (some d))]] w fun e w' => e = .returned (.tuple #[qv (mkRat (sg g1 (a * d - c * b)) (b * d)), .int .i64 0]) ∧ Below w.heap.size w w' := by
  have hbd : b * d ≠ 0 := Nat.mul_ne_zero hb0 hd0
  have HS := Lib.hid (And.intro (L1_mul ha hd) (And.intro (L1_mul hc hb) (And.intro (L1_mul hb hd) L1_sq)))
  have HP : Hid (∀ p ∈ [(a, d), (c, b), (b, d)], p.1 < Lim ∧ p.2 < Lim ∧ p.1 * p.2 < Lim) := by
    have := HS.out
    intro p hp
    simp only [List.mem_cons, List.not_mem_nil, or_false] at hp
    rcases hp with rfl | rfl | rfl
    · exact ⟨L1_lim ha, L1_lim hd, by show a * d < Lim; omega⟩
    · exact ⟨L1_lim hc, L1_lim hb, by show c * b < Lim; omega⟩
    · exact ⟨L1_lim hb, L1_lim hd, by show b * d < Lim; omega⟩
  have hPR : Hid (PairsAt ((sumW w g1 g2 a b c d).alloc (.cells #[.string (T (some a)), .string (T (some d)), .string (T (some c)), .string (T (some b)), .string (T (some b)), .string (T (some d))] 126)) (w.heap.size + 1 + 1 + 1) [(a, d), (c, b), (b, d)]) := by
    have := pairs3 (sumW w g1 g2 a b c d) a d c b b d
    rwa [show (sumW w g1 g2 a b c d).heap.size = w.heap.size + 1 + 1 + 1 by simp] at this
  have hBE : Hid (Below w.heap.size w ((sumW w g1 g2 a b c d).alloc (.cells #[.string (T (some a)), .string (T (some d)), .string (T (some c)), .string (T (some b)), .string (T (some b)), .string (T (some d))] 126))) := (sumW_below w g1 g2 a b c d).alloc (sumW_below w g1 g2 a b c d).size _
  have hQE : Hid (SumBoxes ((sumW w g1 g2 a b c d).alloc (.cells #[.string (T (some a)), .string (T (some d)), .string (T (some c)), .string (T (some b)), .string (T (some b)), .string (T (some d))] 126)) w.heap.size g1 g2 a b c d) := (SumBoxes.new w g1 g2 a b c d).alloc _
  replace hE := Lib.hid hE
  replace hbd := Lib.hid hbd
  clear ha hb hc hd hb0 hd0
  have hC0 : Hid (cmpX (some (a * d)) (some (c * b)) = 0) := rfl
  have hS2 : Hid (subO (some (a * d)) (some (c * b)) = some (a * d - c * b) ∧ subX (some (a * d)) (some (c * b)) = 0) := ⟨if_pos (by omega), if_pos (by omega)⟩
  obtain ⟨cv, hcv, hcv0⟩ : ∃ cv : Int, cv = cmpO (some (a * d)) (some (c * b)) ∧ 0 ≤ cv := ⟨_, rfl, by show 0 ≤ cmpN (a * d) (c * b); unfold cmpN; rw [if_neg (by omega)]; split <;> omega⟩
  have hC : Hid (cmpO (some (a * d)) (some (c * b)) = cv) := hcv.symm
  clear hcv
  replace hl := Lib.hid hl
  go_enter Tryz.func58, Tryz.ntmps58
  go_wp2_with fail
  refine (products_any _ (hE.out.below hBE.out) (w.heap.size + 1 + 1 + 1) 3 [(a, d), (c, b), (b, d)] (by simp) (by simp) hPR.out HP.out).mono ?_
  rintro e w1 ⟨⟨v, rfl, ho⟩, hb1⟩
  have hat : TextsAt w1 v [a * d, c * b, b * d] := tvals_at ho (by simp)
  obtain ⟨lg, lcap, rfl, l0, l1, l2⟩ := texts3 hat
  have q1 := hQE.out.below hb1
  have hB1 := Lib.hid (hBE.out.trans (hb1.mono hBE.out.size))
  obtain ⟨a1, a2, a3, a4, a5, a6⟩ := q1.1.facts
  obtain ⟨b1, b2, b3, b4, b5, b6⟩ := q1.2.1.facts
  obtain ⟨c1, c2, c3, c4, c5, c6⟩ := q1.2.2.facts
  have hz1 := q1.2.2.lt
  replace q1 := Lib.hid q1
  clear hb1 hat ho
  go_wp2_with fail
  show Code.wp _ _ _ _ _
  go_quiet (fail)
  obtain ⟨W, hW⟩ : ∃ W, W = w1.drewN nq := ⟨_, rfl⟩
  have qW : Hid (SumBoxes W w.heap.size g1 g2 a b c d) := by rw [hW]; exact q1.out
  have hBW : Hid (Below w.heap.size w W) := by rw [hW]; exact blw_drewN hB1.out nq
  rw [← hW]
  clear a1 a2 a3 a4 a5 a6 b1 b2 b3 b4 b5 b6 c1 c2 c3 c4 c5 c6 hz1 l0 l1 l2 hW q1 hB1
  obtain ⟨a1, a2, a3, a4, a5, a6⟩ := qW.out.1.facts
  obtain ⟨b1, b2, b3, b4, b5, b6⟩ := qW.out.2.1.facts
  go_wp2_with fail
  refine (cmpT (some (a * d)) (some (c * b)) _ (hE.out.below hBW.out) (ok_some (by have := HS.out; omega)) (ok_some (by have := HS.out; omega))).mono ?_
  rintro e w2 ⟨rfl, hb2⟩
  rw [hC.out, hC0.out]
  have q2 := qW.out.below hb2
  have hB2 := Lib.hid (hBW.out.trans (hb2.mono hBW.out.size))
  clear a1 a2 a3 a4 a5 a6 b1 b2 b3 b4 b5 b6 hb2
  obtain ⟨a1, a2, a3, a4, a5, a6⟩ := q2.1.facts
  obtain ⟨b1, b2, b3, b4, b5, b6⟩ := q2.2.1.facts
  replace q2 := Lib.hid q2
  go_wp2_with fail
  refine (subT (some (a * d)) (some (c * b)) _ (hE.out.below hB2.out) (ok_some (by have := HS.out; omega)) (ok_some (by have := HS.out; omega))).mono ?_
  rintro e w3 ⟨rfl, hb3⟩
  rw [hS2.out.1, hS2.out.2]
  have q3 := q2.out.below hb3
  have hB3 := Lib.hid (hB2.out.trans (hb3.mono hB2.out.size))
  clear a1 a2 a3 a4 a5 a6 b1 b2 b3 b4 b5 b6 hb3
  obtain ⟨a1, a2, a3, a4, a5, a6⟩ := q3.1.facts
  obtain ⟨b1, b2, b3, b4, b5, b6⟩ := q3.2.1.facts
  replace q3 := Lib.hid q3
  go_wp2_with fail
  refine (lowest_any g1 (a * d - c * b) (b * d) _ (hE.out.below hB3.out) (by have := HS.out; omega) (by have := HS.out; omega) hbd.out).mono ?_
  rintro e w4 ⟨rfl, hb4⟩
  have q4 := q3.out.below hb4
  have hB4 := Lib.hid (hB3.out.trans (hb4.mono hB3.out.size))
  clear a1 a2 a3 a4 a5 a6 b1 b2 b3 b4 b5 b6 hb4
  obtain ⟨c1, c2, c3, c4, c5, c6⟩ := q4.2.2.facts
  replace q4 := Lib.hid q4
  unfold qv
  go_wp2
  refine bodyPost_ret (v := .tuple #[.agg #[.bool (decide ((mkRat (sg g1 (a * d - c * b)) (b * d)).num < 0)), .string (T (some (mkRat (sg g1 (a * d - c * b)) (b * d)).num.natAbs)), .string (T (some (mkRat (sg g1 (a * d - c * b)) (b * d)).den))], .int .i64 0]) (by simp [results, Tryz.results58, go_sem, c1, c2, c3]) rfl ⟨rfl, ?_⟩
  repeat refine Below.setCell ?_ (by simp only []; omega) _
  exact hB4.out
end Nt
end Go.Proofs.YtpmlhgmmobpilaaGreatDoor

namespace Go.Proofs.YtpmlhgmmobpilaaGreatDoor
open Go.RowKit Go.Shelf
namespace Nt
theorem set3_other (W : World) (B b o : Nat) (x y z : Value) (h : b ≠ B) : (((W.setCell ⟨B, 0, none⟩ x).setCell ⟨B, 1, none⟩ y).setCell ⟨B, 2, none⟩ z).cell? ⟨b, o, none⟩ = W.cell? ⟨b, o, none⟩ :=
  World.cell?_of_block (w := W) (a := ⟨b, o, none⟩) (((Below.heap_setCell _ _ _ _ (by exact h)).trans (Below.heap_setCell _ _ _ _ (by exact h))).trans (Below.heap_setCell _ _ _ _ (by exact h)))
theorem opp_any (g : Bool) (n d : ByteArray) (w : World) :
    Calls Tryz.prog 68 #[.agg #[.bool g, .string n, .string d]] w fun e w' => e = .returned (.agg #[.bool (!g && !(n.toList == [48])), .string n, .string d]) ∧ Below w.heap.size w w' := by
  cases g with
  | true =>
    go_enter Tryz.func68, Tryz.ntmps68
    go_wp2
    refine bodyPost_ret (v := .agg #[.bool false, .string n, .string d]) (by simp [results, Tryz.results68, go_sem]) rfl ⟨rfl, ?_⟩
    repeat refine Below.setCell ?_ (by simp only []; omega) _
    exact ((Below.refl _ w).alloc (Nat.le_refl _) _).alloc (by simp) _
  | false =>
    cases hz : (n.toList == [48]) with
    | true =>
      go_enter Tryz.func68, Tryz.ntmps68
      go_wp2
      refine bodyPost_ret (v := .agg #[.bool false, .string n, .string d]) (by simp [results, Tryz.results68, go_sem]) rfl ⟨rfl, ?_⟩
      repeat refine Below.setCell ?_ (by simp only []; omega) _
      exact ((Below.refl _ w).alloc (Nat.le_refl _) _).alloc (by simp) _
    | false =>
      go_enter Tryz.func68, Tryz.ntmps68
      go_wp2
      refine bodyPost_ret (v := .agg #[.bool true, .string n, .string d]) (by simp [results, Tryz.results68, go_sem]) rfl ⟨rfl, ?_⟩
      repeat refine Below.setCell ?_ (by simp only []; omega) _
      exact ((Below.refl _ w).alloc (Nat.le_refl _) _).alloc (by simp) _
end Nt
end Go.Proofs.YtpmlhgmmobpilaaGreatDoor

namespace Go.Proofs.YtpmlhgmmobpilaaGreatDoor
open Go.RowKit Go.Shelf
namespace Nt
theorem sum_q (p q : Rat) (hp : ShortQ p) (hq : ShortQ q) (w : World) (hE : Env w) :
    Calls Tryz.prog 58 #[qv p, qv q] w fun e w' => e = .returned (.tuple #[qv (p + q), .int .i64 0]) ∧ Below w.heap.size w w' := by
  by_cases hg : decide (p.num < 0) = decide (q.num < 0)
  · have h := sumw_same (decide (p.num < 0)) p.num.natAbs p.den q.num.natAbs q.den w hE hp.1 hp.2 hq.1 hq.2 p.den_nz q.den_nz
    rw [sum_same rfl hg rfl rfl, add_mk] at h
    have e : qv q = .agg #[.bool (decide (p.num < 0)), .string (T (some q.num.natAbs)), .string (T (some q.den))] := by rw [hg]; rfl
    rw [e]
    exact h
  · have hne : (decide (p.num < 0) == decide (q.num < 0)) = false := by rw [beq_eq_false_iff_ne]; exact hg
    rcases Nat.lt_or_ge (p.num.natAbs * q.den) (q.num.natAbs * p.den) with hl | hl
    · have h := sumw_less (decide (p.num < 0)) (decide (q.num < 0)) p.num.natAbs p.den q.num.natAbs q.den w hE hp.1 hp.2 hq.1 hq.2 p.den_nz q.den_nz hne hl
      rw [sum_less rfl rfl rfl rfl hg hl, add_mk] at h
      exact h
    · have h := sumw_more (decide (p.num < 0)) (decide (q.num < 0)) p.num.natAbs p.den q.num.natAbs q.den w hE hp.1 hp.2 hq.1 hq.2 p.den_nz q.den_nz hne hl
      rw [sum_more rfl rfl rfl rfl hg hl, add_mk] at h
      exact h
theorem neg_qv (q : Rat) : (.agg #[.bool (!decide (q.num < 0) && !((T (some q.num.natAbs)).toList == [48])), .string (T (some q.num.natAbs)), .string (T (some q.den))] : Value) = qv (-q) := by
  unfold qv
  rw [T_is_zero]
  have e1 : (-q).num = -q.num := rfl
  have e2 : (-q).den = q.den := rfl
  rw [e1, e2, Int.natAbs_neg]
  have e3 : (!decide (q.num < 0) && !decide (q.num.natAbs = 0)) = decide (-q.num < 0) := by
    generalize q.num = z
    rw [Bool.eq_iff_iff]
    simp
    omega
  rw [e3]
theorem opp_q (q : Rat) (w : World) :
    Calls Tryz.prog 68 #[qv q] w fun e w' => e = .returned (qv (-q)) ∧ Below w.heap.size w w' := by
  refine (opp_any (decide (q.num < 0)) (T (some q.num.natAbs)) (T (some q.den)) w).mono ?_
  rintro e w' ⟨rfl, hb⟩
  exact ⟨by rw [neg_qv], hb⟩
theorem ShortQ.neg {q : Rat} (h : ShortQ q) : ShortQ (-q) := ⟨by show (-q.num).natAbs < L1; rw [Int.natAbs_neg]; exact h.1, h.2⟩
/-- The blocks of a function of two numbers. -/
abbrev twoW (w : World) (g1 g2 : Bool) (n1 d1 n2 d2 : ByteArray) : World :=
  ((w.alloc (.cells #[.bool g1, .string n1, .string d1] 23)).alloc (.cells #[.bool g2, .string n2, .string d2] 23)).alloc (.cells #[.bool false, .string ⟨#[]⟩, .string ⟨#[]⟩] 23)
def TwoBoxes (W : World) (B : Nat) (g1 g2 : Bool) (n1 d1 n2 d2 : ByteArray) : Prop := B3 W B g1 n1 d1 ∧ B3 W (B + 1) g2 n2 d2 ∧ B3 W (B + 1 + 1) false ⟨#[]⟩ ⟨#[]⟩
theorem TwoBoxes.new (w : World) (g1 g2 : Bool) (n1 d1 n2 d2 : ByteArray) : TwoBoxes (twoW w g1 g2 n1 d1 n2 d2) w.heap.size g1 g2 n1 d1 n2 d2 := by
  have e1 : (w.alloc (.cells #[.bool g1, .string n1, .string d1] 23)).heap.size = w.heap.size + 1 := by simp
  have e2 : ((w.alloc (.cells #[.bool g1, .string n1, .string d1] 23)).alloc (.cells #[.bool g2, .string n2, .string d2] 23)).heap.size = w.heap.size + 1 + 1 := by simp
  refine ⟨((B3.new w _ _ _).alloc _).alloc _, ?_, ?_⟩
  · have h := B3.new (w.alloc (.cells #[.bool g1, .string n1, .string d1] 23)) g2 n2 d2
    rw [e1] at h
    exact h.alloc _
  · have h := B3.new ((w.alloc (.cells #[.bool g1, .string n1, .string d1] 23)).alloc (.cells #[.bool g2, .string n2, .string d2] 23)) false ⟨#[]⟩ ⟨#[]⟩
    rw [e2] at h
    exact h
theorem twoW_below (w : World) (g1 g2 : Bool) (n1 d1 n2 d2 : ByteArray) : Below w.heap.size w (twoW w g1 g2 n1 d1 n2 d2) :=
  (((Below.refl _ w).alloc (Nat.le_refl _) _).alloc (by simp) _).alloc (by simp; omega) _
theorem TwoBoxes.below {W W' : World} {B : Nat} {g1 g2 : Bool} {n1 d1 n2 d2 : ByteArray} (h : TwoBoxes W B g1 g2 n1 d1 n2 d2) (hb : Below W.heap.size W W') : TwoBoxes W' B g1 g2 n1 d1 n2 d2 := ⟨h.1.below hb, h.2.1.below hb, h.2.2.below hb⟩
theorem TwoBoxes.six {W : World} {B : Nat} {g1 g2 : Bool} {n1 d1 n2 d2 : ByteArray} (h : TwoBoxes W B g1 g2 n1 d1 n2 d2) :
    W.cell? ⟨B, 0, none⟩ = some (.bool g1) ∧ W.cell? ⟨B, 1, none⟩ = some (.string n1) ∧ W.cell? ⟨B, 2, none⟩ = some (.string d1) ∧
    W.cell? ⟨B + 1, 0, none⟩ = some (.bool g2) ∧ W.cell? ⟨B + 1, 1, none⟩ = some (.string n2) ∧ W.cell? ⟨B + 1, 2, none⟩ = some (.string d2) :=
  ⟨h.1.facts.1, h.1.facts.2.1, h.1.facts.2.2.1, h.2.1.facts.1, h.2.1.facts.2.1, h.2.1.facts.2.2.1⟩
theorem TwoBoxes.six_set {W : World} {B : Nat} {g1 g2 : Bool} {n1 d1 n2 d2 : ByteArray} (h : TwoBoxes W B g1 g2 n1 d1 n2 d2) (x y z : Value) :
    (((W.setCell ⟨B + 1 + 1, 0, none⟩ x).setCell ⟨B + 1 + 1, 1, none⟩ y).setCell ⟨B + 1 + 1, 2, none⟩ z).cell? ⟨B, 0, none⟩ = some (.bool g1) ∧ (((W.setCell ⟨B + 1 + 1, 0, none⟩ x).setCell ⟨B + 1 + 1, 1, none⟩ y).setCell ⟨B + 1 + 1, 2, none⟩ z).cell? ⟨B, 1, none⟩ = some (.string n1) ∧ (((W.setCell ⟨B + 1 + 1, 0, none⟩ x).setCell ⟨B + 1 + 1, 1, none⟩ y).setCell ⟨B + 1 + 1, 2, none⟩ z).cell? ⟨B, 2, none⟩ = some (.string d1) ∧
    (((W.setCell ⟨B + 1 + 1, 0, none⟩ x).setCell ⟨B + 1 + 1, 1, none⟩ y).setCell ⟨B + 1 + 1, 2, none⟩ z).cell? ⟨B + 1, 0, none⟩ = some (.bool g2) ∧ (((W.setCell ⟨B + 1 + 1, 0, none⟩ x).setCell ⟨B + 1 + 1, 1, none⟩ y).setCell ⟨B + 1 + 1, 2, none⟩ z).cell? ⟨B + 1, 1, none⟩ = some (.string n2) ∧ (((W.setCell ⟨B + 1 + 1, 0, none⟩ x).setCell ⟨B + 1 + 1, 1, none⟩ y).setCell ⟨B + 1 + 1, 2, none⟩ z).cell? ⟨B + 1, 2, none⟩ = some (.string d2) := by
  obtain ⟨h1, h2, h3, h4, h5, h6⟩ := h.six
  exact ⟨(set3_other _ _ _ _ _ _ _ (by omega)).trans h1, (set3_other _ _ _ _ _ _ _ (by omega)).trans h2, (set3_other _ _ _ _ _ _ _ (by omega)).trans h3, (set3_other _ _ _ _ _ _ _ (by omega)).trans h4, (set3_other _ _ _ _ _ _ _ (by omega)).trans h5, (set3_other _ _ _ _ _ _ _ (by omega)).trans h6⟩
set_option maxRecDepth 100000 in
set_option maxHeartbeats 2000000 in
theorem subc_w (g1 g2 g3 : Bool) (n1 d1 n2 d2 : ByteArray) (r : Bool) (n d : ByteArray) (E : Int) (w : World) (hE : Env w)
    (ho : ∀ W, Calls Tryz.prog 68 #[.agg #[.bool g2, .string n2, .string d2]] W fun e w' => e = .returned (.agg #[.bool g3, .string n2, .string d2]) ∧ Below W.heap.size W w')
    (hc : ∀ W, Env W → Calls Tryz.prog 58 #[.agg #[.bool g1, .string n1, .string d1], .agg #[.bool g3, .string n2, .string d2]] W fun e w' => e = .returned (.tuple #[.agg #[.bool r, .string n, .string d], .int .i64 E]) ∧ Below W.heap.size W w') :
    Calls Tryz.prog 67 #[.agg #[.bool g1, .string n1, .string d1], .agg #[.bool g2, .string n2, .string d2]] w fun e w' => e = .returned (.tuple #[.agg #[.bool r, .string n, .string d], .int .i64 E]) ∧ Below w.heap.size w w' := by
  have hQE := Lib.hid (TwoBoxes.new w g1 g2 n1 d1 n2 d2)
  have hBE := Lib.hid (twoW_below w g1 g2 n1 d1 n2 d2)
  obtain ⟨W0, hW0⟩ : ∃ W0, W0 = twoW w g1 g2 n1 d1 n2 d2 := ⟨_, rfl⟩
  rw [← hW0] at hQE hBE
  simp only [twoW] at hW0
  have q0d : Hid (TwoBoxes W0.drew w.heap.size g1 g2 n1 d1 n2 d2) := hQE.out
  have hB0 : Hid (Below w.heap.size w W0.drew) := hBE.out.drew
  replace hE := Lib.hid hE
  replace hW0 := Lib.hid hW0
  replace ho := Lib.hid ho
  replace hc := Lib.hid hc
  go_enter Tryz.func67, Tryz.ntmps67
  go_wp2_with fail
  rw [← hW0.out]
  obtain ⟨a1, a2, a3, b1, b2, b3⟩ := hQE.out.six
  go_region_held3 (fun w' => w'.cell? ⟨w.heap.size, 0, none⟩ = some (.bool g1) ∧ w'.cell? ⟨w.heap.size, 1, none⟩ = some (.string n1) ∧ w'.cell? ⟨w.heap.size, 2, none⟩ = some (.string d1) ∧ w'.cell? ⟨w.heap.size + 1, 0, none⟩ = some (.bool g2) ∧ w'.cell? ⟨w.heap.size + 1, 1, none⟩ = some (.string n2) ∧ w'.cell? ⟨w.heap.size + 1, 2, none⟩ = some (.string d2)) (first | (with_reducible exact hQE.out.six) | (with_reducible exact q0d.out.six) | (with_reducible exact q2.out.six) | (with_reducible exact q3.out.six) | (with_reducible exact q3.out.six_set _ _ _) | go_keep)
    (first
      | (go_at_call 68; refine (ho.out _).mono ?_; rintro e w2 ⟨rfl, hb2⟩; have q2 := Lib.hid (q0d.out.below hb2); have hB2 := Lib.hid (hB0.out.trans (hb2.mono hB0.out.size)); clear hb2)
      | (go_at_call 58; refine (hc.out _ ?_).mono ?_; (exact hE.out.below hB2.out); rintro e w3 ⟨rfl, hb3⟩; have q3 := Lib.hid (q2.out.below hb3); obtain ⟨c1, c2, c3, c4, c5, c6⟩ := q3.out.2.2.facts; have hB3 := Lib.hid (hB2.out.trans (hb3.mono hB2.out.size)); clear hb3))
  go_wp2
  refine bodyPost_ret (v := .tuple #[.agg #[.bool r, .string n, .string d], .int .i64 E]) (by simp [results, Tryz.results67, go_sem, c1, c2, c3]) rfl ⟨rfl, ?_⟩
  repeat refine Below.setCell ?_ (by simp only []; omega) _
  exact hB3.out
theorem subc_q (p q : Rat) (hp : ShortQ p) (hq : ShortQ q) (w : World) (hE : Env w) :
    Calls Tryz.prog 67 #[qv p, qv q] w fun e w' => e = .returned (.tuple #[qv (p - q), .int .i64 0]) ∧ Below w.heap.size w w' := by
  have hc := fun W (h : Env W) => sum_q p (-q) hp hq.neg W h
  rw [← Rat.sub_eq_add_neg] at hc
  have ho := fun W => opp_q q W
  have e : qv (-q) = .agg #[.bool (decide ((-q).num < 0)), .string (T (some q.num.natAbs)), .string (T (some q.den))] := by
    unfold qv
    rw [show (-q).num.natAbs = q.num.natAbs from Int.natAbs_neg _]
    rfl
  rw [e] at hc ho
  exact subc_w _ _ _ _ _ _ _ _ _ _ _ w hE ho hc
end Nt
end Go.Proofs.YtpmlhgmmobpilaaGreatDoor

namespace Go.Proofs.YtpmlhgmmobpilaaGreatDoor
open Go.RowKit Go.Shelf
namespace Nt
/-- A block that holds an operation. -/
def B2 (W : World) (b : Nat) (z : Bool) (f : Nat) : Prop := W.heap[b]? = some (.cells #[.bool z, .func (.func f) #[] #[]] 81 (0, 0))
theorem B2.lt {W : World} {b : Nat} {z : Bool} {f : Nat} (h : B2 W b z f) : b < W.heap.size := (Array.getElem?_eq_some_iff.1 h).1
theorem B2.facts {W : World} {b : Nat} {z : Bool} {f : Nat} (h : B2 W b z f) : W.cell? ⟨b, 0, none⟩ = some (.bool z) ∧ W.cell? ⟨b, 1, none⟩ = some (.func (.func f) #[] #[]) := by
  unfold B2 at h
  simp [World.cell?, h]
theorem B2.below {W W' : World} {b : Nat} {z : Bool} {f : Nat} (h : B2 W b z f) (hb : Below W.heap.size W W') : B2 W' b z f := (hb.block b h.lt).trans h
/-- The four blocks that run lays. -/
def RunBoxes (W : World) (B : Nat) (z : Bool) (f : Nat) (g1 g2 : Bool) (n1 d1 n2 d2 : ByteArray) : Prop :=
  B2 W B z f ∧ B3 W (B + 1) g1 n1 d1 ∧ B3 W (B + 2) g2 n2 d2 ∧ B3 W (B + 3) false ⟨#[]⟩ ⟨#[]⟩
theorem RunBoxes.new (w : World) (z : Bool) (f : Nat) (g1 g2 : Bool) (n1 d1 n2 d2 : ByteArray) :
    RunBoxes ((((w.alloc (.cells #[.bool z, .func (.func f) #[] #[]] 81)).alloc (.cells #[.bool g1, .string n1, .string d1] 23)).alloc (.cells #[.bool g2, .string n2, .string d2] 23)).alloc (.cells #[.bool false, .string ⟨#[]⟩, .string ⟨#[]⟩] 23)) w.heap.size z f g1 g2 n1 d1 n2 d2 := by
  have e1 : (w.alloc (.cells #[.bool z, .func (.func f) #[] #[]] 81)).heap.size = w.heap.size + 1 := by simp
  have e2 : ((w.alloc (.cells #[.bool z, .func (.func f) #[] #[]] 81)).alloc (.cells #[.bool g1, .string n1, .string d1] 23)).heap.size = w.heap.size + 2 := by simp
  have e3 : (((w.alloc (.cells #[.bool z, .func (.func f) #[] #[]] 81)).alloc (.cells #[.bool g1, .string n1, .string d1] 23)).alloc (.cells #[.bool g2, .string n2, .string d2] 23)).heap.size = w.heap.size + 3 := by simp
  refine ⟨?_, ?_, ?_, ?_⟩
  · unfold B2
    rw [Below.heap_alloc _ _ _ (by rw [e3]; omega), Below.heap_alloc _ _ _ (by rw [e2]; omega), Below.heap_alloc _ _ _ (by rw [e1]; omega)]
    exact heap_alloc_new _ _
  · have h := B3.new (w.alloc (.cells #[.bool z, .func (.func f) #[] #[]] 81)) g1 n1 d1
    rw [e1] at h
    exact (h.alloc _).alloc _
  · have h := B3.new ((w.alloc (.cells #[.bool z, .func (.func f) #[] #[]] 81)).alloc (.cells #[.bool g1, .string n1, .string d1] 23)) g2 n2 d2
    rw [e2] at h
    exact h.alloc _
  · have h := B3.new (((w.alloc (.cells #[.bool z, .func (.func f) #[] #[]] 81)).alloc (.cells #[.bool g1, .string n1, .string d1] 23)).alloc (.cells #[.bool g2, .string n2, .string d2] 23)) false ⟨#[]⟩ ⟨#[]⟩
    rw [e3] at h
    exact h
theorem RunBoxes.below {W W' : World} {B : Nat} {z : Bool} {f : Nat} {g1 g2 : Bool} {n1 d1 n2 d2 : ByteArray} (h : RunBoxes W B z f g1 g2 n1 d1 n2 d2) (hb : Below W.heap.size W W') : RunBoxes W' B z f g1 g2 n1 d1 n2 d2 :=
  ⟨h.1.below hb, h.2.1.below hb, h.2.2.1.below hb, h.2.2.2.below hb⟩
theorem four_below (w : World) (o1 o2 o3 o4 : Obj) : Below w.heap.size w ((((w.alloc o1).alloc o2).alloc o3).alloc o4) :=
  ((((Below.refl _ w).alloc (Nat.le_refl _) _).alloc (by simp) _).alloc (by simp; omega) _).alloc (by simp; omega) _
set_option maxRecDepth 100000 in
set_option maxHeartbeats 2000000 in
theorem run_sum (g1 g2 : Bool) (n1 d1 n2 d2 : ByteArray) (w : World) (hE : Env w) (s1 : n1.size ≤ 140737488355328) (s2 : d1.size ≤ 140737488355328) (s3 : n2.size ≤ 140737488355328) (s4 : d2.size ≤ 140737488355328) (v1 : validB g1 n1 d1 = true) (v2 : validB g2 n2 d2 = true) (l1 : n1.size ≤ 140) (l2 : d1.size ≤ 140) (l3 : n2.size ≤ 140) (l4 : d2.size ≤ 140) (r : Bool) (n d : ByteArray) (E : Int)
    (hf : ∀ W, Env W → Calls Tryz.prog 58 #[.agg #[.bool g1, .string n1, .string d1], .agg #[.bool g2, .string n2, .string d2]] W fun e w' => e = .returned (.tuple #[.agg #[.bool r, .string n, .string d], .int .i64 E]) ∧ Below W.heap.size W w') :
    Calls Tryz.prog 57 #[.agg #[.bool false, .func (.func 58) #[] #[]], .agg #[.bool g1, .string n1, .string d1], .agg #[.bool g2, .string n2, .string d2]] w fun e w' => e = .returned (.tuple #[.agg #[.bool r, .string n, .string d], .int .i64 E]) ∧ Below w.heap.size w w' := by
  have V1 := Lib.hid v1
  clear v1
  have V2 := Lib.hid v2
  clear v2
  have HF := Lib.hid hf
  clear hf
  replace hE := Lib.hid hE
  go_enter Tryz.func57, Tryz.ntmps57
  go_wp2_with fail
  refine (Valid_any g1 n1 d1 _ (hE.out.below (four_below w _ _ _ _)) s1 s2).mono ?_
  rintro e w1 ⟨rfl, hb1⟩
  rw [V1.out]
  have q1 := (RunBoxes.new w _ _ g1 g2 n1 d1 n2 d2).below hb1
  have hB1 := Lib.hid ((four_below w _ _ _ _).trans (hb1.mono (four_below w _ _ _ _).size))
  obtain ⟨a1, a2⟩ := q1.1.facts
  obtain ⟨b1, b2, b3, b4, b5, b6⟩ := q1.2.1.facts
  obtain ⟨c1, c2, c3, c4, c5, c6⟩ := q1.2.2.1.facts
  obtain ⟨d1', d2', d3, d4, d5, d6⟩ := q1.2.2.2.facts
  have hz1 := q1.2.2.2.lt
  replace q1 := Lib.hid q1
  clear hb1
  go_wp2_with fail
  refine (Valid_any g2 n2 d2 _ (hE.out.below hB1.out) s3 s4).mono ?_
  rintro e w2 ⟨rfl, hb2⟩
  rw [V2.out]
  have q2 := q1.out.below hb2
  have hB2 := Lib.hid (hB1.out.trans (hb2.mono hB1.out.size))
  clear a1 a2 b1 b2 b3 b4 b5 b6 c1 c2 c3 c4 c5 c6 d1' d2' d3 d4 d5 d6 hb2 q1
  obtain ⟨a1, a2⟩ := q2.1.facts
  obtain ⟨b1, b2, b3, b4, b5, b6⟩ := q2.2.1.facts
  obtain ⟨c1, c2, c3, c4, c5, c6⟩ := q2.2.2.1.facts
  obtain ⟨d1', d2', d3, d4, d5, d6⟩ := q2.2.2.2.facts
  have hz2 := q2.2.2.2.lt
  replace q2 := Lib.hid q2
  go_wp2_with fail
  refine (HF.out _ (hE.out.below hB2.out)).mono ?_
  rintro e w3 ⟨rfl, hb3⟩
  have q3 := q2.out.below hb3
  have hB3 := Lib.hid (hB2.out.trans (hb3.mono hB2.out.size))
  clear a1 a2 b1 b2 b3 b4 b5 b6 c1 c2 c3 c4 c5 c6 d1' d2' d3 d4 d5 d6 hb3 q2
  obtain ⟨d1', d2', d3, d4, d5, d6⟩ := q3.2.2.2.facts
  have hz3 := q3.2.2.2.lt
  replace q3 := Lib.hid q3
  go_wp2
  refine bodyPost_ret (v := .tuple #[.agg #[.bool r, .string n, .string d], .int .i64 E]) (by simp [results, Tryz.results57, go_sem, d1', d2', d3]) rfl ⟨rfl, ?_⟩
  repeat refine Below.setCell ?_ (by simp only []; omega) _
  exact hB3.out
set_option maxRecDepth 100000 in
set_option maxHeartbeats 2000000 in
theorem run_sub (g1 g2 : Bool) (n1 d1 n2 d2 : ByteArray) (w : World) (hE : Env w) (s1 : n1.size ≤ 140737488355328) (s2 : d1.size ≤ 140737488355328) (s3 : n2.size ≤ 140737488355328) (s4 : d2.size ≤ 140737488355328) (v1 : validB g1 n1 d1 = true) (v2 : validB g2 n2 d2 = true) (l1 : n1.size ≤ 140) (l2 : d1.size ≤ 140) (l3 : n2.size ≤ 140) (l4 : d2.size ≤ 140) (r : Bool) (n d : ByteArray) (E : Int)
    (hf : ∀ W, Env W → Calls Tryz.prog 67 #[.agg #[.bool g1, .string n1, .string d1], .agg #[.bool g2, .string n2, .string d2]] W fun e w' => e = .returned (.tuple #[.agg #[.bool r, .string n, .string d], .int .i64 E]) ∧ Below W.heap.size W w') :
    Calls Tryz.prog 57 #[.agg #[.bool false, .func (.func 67) #[] #[]], .agg #[.bool g1, .string n1, .string d1], .agg #[.bool g2, .string n2, .string d2]] w fun e w' => e = .returned (.tuple #[.agg #[.bool r, .string n, .string d], .int .i64 E]) ∧ Below w.heap.size w w' := by
  have V1 := Lib.hid v1
  clear v1
  have V2 := Lib.hid v2
  clear v2
  have HF := Lib.hid hf
  clear hf
  replace hE := Lib.hid hE
  go_enter Tryz.func57, Tryz.ntmps57
  go_wp2_with fail
  refine (Valid_any g1 n1 d1 _ (hE.out.below (four_below w _ _ _ _)) s1 s2).mono ?_
  rintro e w1 ⟨rfl, hb1⟩
  rw [V1.out]
  have q1 := (RunBoxes.new w _ _ g1 g2 n1 d1 n2 d2).below hb1
  have hB1 := Lib.hid ((four_below w _ _ _ _).trans (hb1.mono (four_below w _ _ _ _).size))
  obtain ⟨a1, a2⟩ := q1.1.facts
  obtain ⟨b1, b2, b3, b4, b5, b6⟩ := q1.2.1.facts
  obtain ⟨c1, c2, c3, c4, c5, c6⟩ := q1.2.2.1.facts
  obtain ⟨d1', d2', d3, d4, d5, d6⟩ := q1.2.2.2.facts
  have hz1 := q1.2.2.2.lt
  replace q1 := Lib.hid q1
  clear hb1
  go_wp2_with fail
  refine (Valid_any g2 n2 d2 _ (hE.out.below hB1.out) s3 s4).mono ?_
  rintro e w2 ⟨rfl, hb2⟩
  rw [V2.out]
  have q2 := q1.out.below hb2
  have hB2 := Lib.hid (hB1.out.trans (hb2.mono hB1.out.size))
  clear a1 a2 b1 b2 b3 b4 b5 b6 c1 c2 c3 c4 c5 c6 d1' d2' d3 d4 d5 d6 hb2 q1
  obtain ⟨a1, a2⟩ := q2.1.facts
  obtain ⟨b1, b2, b3, b4, b5, b6⟩ := q2.2.1.facts
  obtain ⟨c1, c2, c3, c4, c5, c6⟩ := q2.2.2.1.facts
  obtain ⟨d1', d2', d3, d4, d5, d6⟩ := q2.2.2.2.facts
  have hz2 := q2.2.2.2.lt
  replace q2 := Lib.hid q2
  go_wp2_with fail
  refine (HF.out _ (hE.out.below hB2.out)).mono ?_
  rintro e w3 ⟨rfl, hb3⟩
  have q3 := q2.out.below hb3
  have hB3 := Lib.hid (hB2.out.trans (hb3.mono hB2.out.size))
  clear a1 a2 b1 b2 b3 b4 b5 b6 c1 c2 c3 c4 c5 c6 d1' d2' d3 d4 d5 d6 hb3 q2
  obtain ⟨d1', d2', d3, d4, d5, d6⟩ := q3.2.2.2.facts
  have hz3 := q3.2.2.2.lt
  replace q3 := Lib.hid q3
  go_wp2
  refine bodyPost_ret (v := .tuple #[.agg #[.bool r, .string n, .string d], .int .i64 E]) (by simp [results, Tryz.results57, go_sem, d1', d2', d3]) rfl ⟨rfl, ?_⟩
  repeat refine Below.setCell ?_ (by simp only []; omega) _
  exact hB3.out
end Nt
end Go.Proofs.YtpmlhgmmobpilaaGreatDoor

namespace Go.Proofs.YtpmlhgmmobpilaaGreatDoor
open Go.RowKit Go.Shelf
namespace Nt
theorem short_sizes {q : Rat} (h : ShortQ q) : (T (some q.num.natAbs)).size ≤ 140 ∧ (T (some q.den)).size ≤ 140 := ⟨(size_L1 _).2 h.1, (size_L1 _).2 h.2⟩
theorem num_ne_zero {q : Rat} (h : q ≠ 0) : q.num ≠ 0 := fun e => h (Rat.num_eq_zero.1 e)
set_option maxRecDepth 100000 in
set_option maxHeartbeats 1000000 in
theorem Add_w (g1 g2 : Bool) (n1 d1 n2 d2 : ByteArray) (r : Bool) (n d : ByteArray) (E : Int) (w : World) (hE : Env w)
    (hr : ∀ W, Env W → Calls Tryz.prog 57 #[.agg #[.bool false, .func (.func 58) #[] #[]], .agg #[.bool g1, .string n1, .string d1], .agg #[.bool g2, .string n2, .string d2]] W fun e w' => e = .returned (.tuple #[.agg #[.bool r, .string n, .string d], .int .i64 E]) ∧ Below W.heap.size W w') :
    Calls Tryz.prog 20 #[.agg #[.bool g1, .string n1, .string d1], .agg #[.bool g2, .string n2, .string d2]] w fun e w' => e = .returned (.tuple #[.agg #[.bool r, .string n, .string d], .int .i64 E]) ∧ Below w.heap.size w w' := by
  have hQE := Lib.hid (TwoBoxes.new w g1 g2 n1 d1 n2 d2)
  have hBE := Lib.hid (twoW_below w g1 g2 n1 d1 n2 d2)
  replace hE := Lib.hid hE
  replace hr := Lib.hid hr
  go_enter Tryz.func20, Tryz.ntmps20
  go_wp2_with fail
  refine (hr.out _ (hE.out.below hBE.out)).mono ?_
  rintro e w1 ⟨rfl, hb1⟩
  have q1 := hQE.out.below hb1
  have hB1 := Lib.hid (hBE.out.trans (hb1.mono hBE.out.size))
  obtain ⟨c1, c2, c3, c4, c5, c6⟩ := q1.2.2.facts
  have hz1 := q1.2.2.lt
  clear hb1
  replace q1 := Lib.hid q1
  go_wp2
  refine bodyPost_ret (v := .tuple #[.agg #[.bool r, .string n, .string d], .int .i64 E]) (by simp [results, Tryz.results20, go_sem, c1, c2, c3]) rfl ⟨rfl, ?_⟩
  repeat refine Below.setCell ?_ (by simp only []; omega) _
  exact hB1.out
theorem Add_short (p q : Rat) (hp : ShortQ p) (hq : ShortQ q) (w : World) (hE : Env w) :
    Calls Tryz.prog 20 #[qv p, qv q] w fun e w' => e = .returned (.tuple #[qv (p + q), .int .i64 0]) ∧ Below w.heap.size w w' := by
  have l1 := short_sizes hp
  have l2 := short_sizes hq
  refine Add_w _ _ _ _ _ _ _ _ _ _ w hE fun W hW => ?_
  exact run_sum _ _ _ _ _ _ W hW (by omega) (by omega) (by omega) (by omega) (valid_qv hp.ok) (valid_qv hq.ok) l1.1 l1.2 l2.1 l2.2 _ _ _ _ fun W2 h2 => sum_q p q hp hq W2 h2
set_option maxRecDepth 100000 in
set_option maxHeartbeats 1000000 in
theorem Sub_w (g1 g2 : Bool) (n1 d1 n2 d2 : ByteArray) (r : Bool) (n d : ByteArray) (E : Int) (w : World) (hE : Env w)
    (hr : ∀ W, Env W → Calls Tryz.prog 57 #[.agg #[.bool false, .func (.func 67) #[] #[]], .agg #[.bool g1, .string n1, .string d1], .agg #[.bool g2, .string n2, .string d2]] W fun e w' => e = .returned (.tuple #[.agg #[.bool r, .string n, .string d], .int .i64 E]) ∧ Below W.heap.size W w') :
    Calls Tryz.prog 24 #[.agg #[.bool g1, .string n1, .string d1], .agg #[.bool g2, .string n2, .string d2]] w fun e w' => e = .returned (.tuple #[.agg #[.bool r, .string n, .string d], .int .i64 E]) ∧ Below w.heap.size w w' := by
  have hQE := Lib.hid (TwoBoxes.new w g1 g2 n1 d1 n2 d2)
  have hBE := Lib.hid (twoW_below w g1 g2 n1 d1 n2 d2)
  replace hE := Lib.hid hE
  replace hr := Lib.hid hr
  go_enter Tryz.func24, Tryz.ntmps24
  go_wp2_with fail
  refine (hr.out _ (hE.out.below hBE.out)).mono ?_
  rintro e w1 ⟨rfl, hb1⟩
  have q1 := hQE.out.below hb1
  have hB1 := Lib.hid (hBE.out.trans (hb1.mono hBE.out.size))
  obtain ⟨c1, c2, c3, c4, c5, c6⟩ := q1.2.2.facts
  have hz1 := q1.2.2.lt
  clear hb1
  replace q1 := Lib.hid q1
  go_wp2
  refine bodyPost_ret (v := .tuple #[.agg #[.bool r, .string n, .string d], .int .i64 E]) (by simp [results, Tryz.results24, go_sem, c1, c2, c3]) rfl ⟨rfl, ?_⟩
  repeat refine Below.setCell ?_ (by simp only []; omega) _
  exact hB1.out
theorem Sub_short (p q : Rat) (hp : ShortQ p) (hq : ShortQ q) (w : World) (hE : Env w) :
    Calls Tryz.prog 24 #[qv p, qv q] w fun e w' => e = .returned (.tuple #[qv (p - q), .int .i64 0]) ∧ Below w.heap.size w w' := by
  have l1 := short_sizes hp
  have l2 := short_sizes hq
  refine Sub_w _ _ _ _ _ _ _ _ _ _ w hE fun W hW => ?_
  exact run_sub _ _ _ _ _ _ W hW (by omega) (by omega) (by omega) (by omega) (valid_qv hp.ok) (valid_qv hq.ok) l1.1 l1.2 l2.1 l2.2 _ _ _ _ fun W2 h2 => subc_q p q hp hq W2 h2
def cmpQ (p q : Rat) : Int := if p < q then -1 else if p = q then 0 else 1
theorem neg_iff (q : Rat) : q.num < 0 ↔ q < 0 := by
  rw [Rat.lt_iff]
  show _ ↔ q.num * 1 < 0 * _
  omega
theorem sub_neg_iff (p q : Rat) : (p - q).num < 0 ↔ p < q := by
  rw [neg_iff, Rat.sub_lt_iff, Rat.zero_add]
theorem sub_zero_iff (p q : Rat) : p - q = 0 ↔ p = q := by
  constructor
  · intro h
    have e : p - q + q = 0 + q := congrArg (· + q) h
    rwa [Rat.sub_add_cancel, Rat.zero_add] at e
  · intro h; rw [h]; exact Rat.sub_self
set_option maxRecDepth 100000 in
set_option maxHeartbeats 1000000 in
theorem Compare_w (g1 g2 : Bool) (n1 d1 n2 d2 : ByteArray) (r : Bool) (n d : ByteArray) (E c f : Int) (w : World) (hE : Env w)
    (hs : ∀ W, Env W → Calls Tryz.prog 24 #[.agg #[.bool g1, .string n1, .string d1], .agg #[.bool g2, .string n2, .string d2]] W fun e w' => e = .returned (.tuple #[.agg #[.bool r, .string n, .string d], .int .i64 E]) ∧ Below W.heap.size W w')
    (hk : (E ≠ 0 ∧ c = 0 ∧ f = E) ∨ (E = 0 ∧ r = true ∧ c = -1 ∧ f = 0) ∨ (E = 0 ∧ r = false ∧ (n.toList == [48]) = true ∧ c = 0 ∧ f = 0) ∨ (E = 0 ∧ r = false ∧ (n.toList == [48]) = false ∧ c = 1 ∧ f = 0)) :
    Calls Tryz.prog 25 #[.agg #[.bool g1, .string n1, .string d1], .agg #[.bool g2, .string n2, .string d2]] w fun e w' => e = .returned (.tuple #[.int .i64 c, .int .i64 f]) ∧ Below w.heap.size w w' := by
  have hBE : Hid (Below w.heap.size w ((w.alloc (.cells #[.bool g1, .string n1, .string d1] 23)).alloc (.cells #[.bool g2, .string n2, .string d2] 23))) := ((Below.refl _ w).alloc (Nat.le_refl _) _).alloc (by simp) _
  replace hE := Lib.hid hE
  replace hs := Lib.hid hs
  rcases hk with ⟨h1, rfl, rfl⟩ | ⟨rfl, rfl, rfl, rfl⟩ | ⟨rfl, rfl, h1, rfl, rfl⟩ | ⟨rfl, rfl, h1, rfl, rfl⟩
  rotate_left
  all_goals
    go_enter Tryz.func25, Tryz.ntmps25
    go_wp2_with fail
    refine (hs.out _ (hE.out.below hBE.out)).mono ?_
    rintro e w1 ⟨rfl, hb1⟩
    have hB1 := Lib.hid (hBE.out.trans (hb1.mono hBE.out.size))
    clear hb1
    go_wp2
    go_ret2
    exact ⟨rfl, hB1.out.alloc hB1.out.size _⟩
theorem Compare_short (p q : Rat) (hp : ShortQ p) (hq : ShortQ q) (w : World) (hE : Env w) :
    Calls Tryz.prog 25 #[qv p, qv q] w fun e w' => e = .returned (.tuple #[.int .i64 (cmpQ p q), .int .i64 0]) ∧ Below w.heap.size w w' := by
  refine Compare_w _ _ _ _ _ _ _ _ _ 0 (cmpQ p q) 0 w hE (fun W hW => Sub_short p q hp hq W hW) ?_
  unfold cmpQ
  rw [T_is_zero]
  by_cases h1 : p < q
  · exact .inr (.inl ⟨rfl, decide_eq_true ((sub_neg_iff p q).2 h1), if_pos h1, rfl⟩)
  · have hn := (not_congr (sub_neg_iff p q)).2 h1
    rw [if_neg h1]
    by_cases h2 : p = q
    · refine .inr (.inr (.inl ⟨rfl, decide_eq_false hn, ?_, if_pos h2, rfl⟩))
      rw [(sub_zero_iff p q).2 h2]
      rfl
    · refine .inr (.inr (.inr ⟨rfl, decide_eq_false hn, ?_, if_neg h2, rfl⟩))
      have h3 := num_ne_zero (fun h => h2 ((sub_zero_iff p q).1 h))
      exact decide_eq_false (by omega)
end Nt
end Go.Proofs.YtpmlhgmmobpilaaGreatDoor

namespace Go.Proofs.YtpmlhgmmobpilaaGreatDoor
open Go.RowKit Go.Shelf
namespace Nt
theorem trim_minus (n : Int) : Lib.trimPrefix (Lib.itoa n) [45] = Lib.decDigits n.natAbs := by
  unfold Lib.itoa
  by_cases h : n < 0
  · rw [if_pos h]
    simp [Lib.trimPrefix, Lib.hasPrefix]
  · rw [if_neg h]
    have e : n.toNat = n.natAbs := by omega
    rw [e]
    unfold Lib.trimPrefix Lib.hasPrefix
    rw [if_neg]
    intro hp
    have hd := decDigits_dig n.natAbs
    cases hl : Lib.decDigits n.natAbs with
    | nil => exact decDigits_ne _ hl
    | cons c r =>
      rw [hl] at hp hd
      simp at hp
      have := (hd c (by simp)).1
      rw [← hp] at this
      revert this
      decide
/-- The size of an int as a text. -/
theorem size_any (n : Int) (h0 : -9223372036854775808 ≤ n) (h1 : n ≤ 9223372036854775807) (w : World) (hE : Env w) :
    Calls Tryz.prog 95 #[.int .i64 n] w fun e w' => e = .returned (.string (T (some n.natAbs))) ∧ Below w.heap.size w w' := by
  have hi := itoa_any n h0 h1 w hE.tab
  have ht := fun W => Tryz.strings_TrimPrefix ⟨(Lib.itoa n).toArray⟩ ⟨#[45]⟩ W
  have e : (⟨(Lib.trimPrefix (⟨(Lib.itoa n).toArray⟩ : ByteArray).data.toList (⟨#[45]⟩ : ByteArray).data.toList).toArray⟩ : ByteArray) = T (some n.natAbs) := by
    show (⟨(Lib.trimPrefix (Lib.itoa n) [45]).toArray⟩ : ByteArray) = _
    rw [trim_minus]
    rfl
  rw [e] at ht
  clear e
  go_enter Tryz.func95, Tryz.ntmps95
  go_wp2_with fail
  refine hi.mono ?_
  rintro e w1 ⟨rfl, hb1⟩
  replace hb1 := Lib.hid hb1
  go_wp2_with fail
  refine (ht _).mono ?_
  rintro e w2 ⟨rfl, hw2⟩
  subst hw2
  go_wp2
  go_ret
  exact ⟨rfl, hb1.out⟩
theorem one_below (w : World) (o : Obj) : Below w.heap.size w (w.alloc o) := (Below.refl _ w).alloc (Nat.le_refl _) _
theorem int_abs_lim {n : Int} (h0 : -9223372036854775808 ≤ n) (h1 : n ≤ 9223372036854775807) : n.natAbs < L1 := by
  have h : 10 ^ 20 ≤ L1 := Nat.pow_le_pow_right (by omega) (by rw [mx1_eq]; omega)
  omega
/-- The quotient of two ints, as a row of fields. -/
theorem Of_w (m n : Int) (hm0 : -9223372036854775808 ≤ m) (hm1 : m ≤ 9223372036854775807) (hn0 : -9223372036854775808 ≤ n) (hn1 : n ≤ 9223372036854775807) (h0 : n ≠ 0) (r : Bool) (x y : ByteArray) (w : World) (hE : Env w)
    (hl : ∀ W, Env W → Calls Tryz.prog 97 #[.bool (!(decide (m < 0) == decide (n < 0))), .string (T (some m.natAbs)), .string (T (some n.natAbs))] W fun e w' => e = .returned (.tuple #[.agg #[.bool r, .string x, .string y], .int .i64 0]) ∧ Below W.heap.size W w') :
    Calls Tryz.prog 46 #[.int .i64 m, .int .i64 n] w fun e w' => e = .returned (.tuple #[.agg #[.bool r, .string x, .string y], .int .i64 0]) ∧ Below w.heap.size w w' := by
  have hz : (n == 0) = false := by rw [beq_eq_false_iff_ne]; exact h0
  have c1 := fun W (h : Env W) => size_any m hm0 hm1 W h
  have c2 := fun W (h : Env W) => size_any n hn0 hn1 W h
  replace hE := Lib.hid hE
  replace hl := Lib.hid hl
  replace h0 := Lib.hid h0
  clear hm0 hm1 hn0 hn1
  go_enter Tryz.func46, Tryz.ntmps46
  go_wp2_with fail
  refine (c1 _ (hE.out.below (one_below _ _))).mono ?_
  rintro e w1 ⟨rfl, hb1⟩
  have q1 := (B3.new w false ⟨#[]⟩ ⟨#[]⟩).below hb1
  have hB1 := Lib.hid ((one_below w (.cells #[.bool false, .string ⟨#[]⟩, .string ⟨#[]⟩] 23)).trans (hb1.mono (by simp)))
  clear hb1
  replace q1 := Lib.hid q1
  go_wp2_with fail
  refine (c2 _ (hE.out.below hB1.out)).mono ?_
  rintro e w2 ⟨rfl, hb2⟩
  have q2 := q1.out.below hb2
  have hB2 := Lib.hid (hB1.out.trans (hb2.mono hB1.out.size))
  clear hb2
  replace q2 := Lib.hid q2
  go_wp2_with fail
  refine (hl.out _ (hE.out.below hB2.out)).mono ?_
  rintro e w3 ⟨rfl, hb3⟩
  have q3 := q2.out.below hb3
  have hB3 := Lib.hid (hB2.out.trans (hb3.mono hB2.out.size))
  obtain ⟨d1, d2, d3, d4, d5, d6⟩ := q3.facts
  have hz3 := q3.lt
  clear hb3
  replace q3 := Lib.hid q3
  go_wp2
  refine bodyPost_ret (v := .tuple #[.agg #[.bool r, .string x, .string y], .int .i64 0]) (by simp [results, Tryz.results46, go_sem, d1, d2, d3]) rfl ⟨rfl, ?_⟩
  repeat refine Below.setCell ?_ (by simp only []; omega) _
  exact hB3.out
/-- The rational number m / n. -/
def ofQ (m n : Int) : Rat := mkRat (sg (!(decide (m < 0) == decide (n < 0))) m.natAbs) n.natAbs
theorem RatOf_any (m n : Int) (hm0 : -9223372036854775808 ≤ m) (hm1 : m ≤ 9223372036854775807) (hn0 : -9223372036854775808 ≤ n) (hn1 : n ≤ 9223372036854775807) (h0 : n ≠ 0) (w : World) (hE : Env w) :
    Calls Tryz.prog 46 #[.int .i64 m, .int .i64 n] w fun e w' => e = .returned (.tuple #[qv (ofQ m n), .int .i64 0]) ∧ Below w.heap.size w w' :=
  Of_w m n hm0 hm1 hn0 hn1 h0 _ _ _ w hE fun W hW => lowest_any _ m.natAbs n.natAbs W hW (L1_lim (int_abs_lim hm0 hm1)) (L1_lim (int_abs_lim hn0 hn1)) (by omega)
end Nt
end Go.Proofs.YtpmlhgmmobpilaaGreatDoor

namespace Go.Proofs.YtpmlhgmmobpilaaGreatDoor
open Go.RowKit Go.Shelf
namespace Nt
/-- What the functions of this package ask of a world. -/
def REnv (w : World) : Prop := Env w ∧ ∃ m : Int, w.cell? ⟨0, 0, none⟩ = some (.int .i64 m)
theorem REnv.lt {w : World} (h : REnv w) : 0 < w.heap.size := by
  obtain ⟨_, m, hm⟩ := h
  exact World.block_lt_of_cell? w _ hm
theorem REnv.below {w w' : World} (h : REnv w) (hb : Below w.heap.size w w') : REnv w' := by
  have hl := h.lt
  obtain ⟨h1, m, hm⟩ := h
  exact ⟨h1.below hb, m, (hb.cell (p := ⟨0, 0, none⟩) hl).trans hm⟩
end Nt
end Go.Proofs.YtpmlhgmmobpilaaGreatDoor

namespace Go.Proofs.YtpmlhgmmobpilaaGreatDoor
open Go.ChangeShapes Go.WideShapes Go.ChangeAt Go.RowKit Go.Shelf Go.Joins
namespace Nt
theorem wf_inQ {k : IntKind} {n : Int} (h : (Lit.int k n).wf = true) : k.min ≤ n ∧ n ≤ k.max := by simpa [Lit.wf] using h
section
variable {H : Type} {enc : TypeId × Value → H} {w : World} {base : Nat} {spare : Nat → Bool} {held : Bool}
end
end Nt
end Go.Proofs.YtpmlhgmmobpilaaGreatDoor

namespace Go.Proofs.YtpmlhgmmobpilaaGreatDoor
open Go.RowKit Go.Shelf
namespace Ci
open Nt
def b1 : ByteArray := ⟨#[49]⟩
def b2 : ByteArray := ⟨#[50]⟩
end Ci
end Go.Proofs.YtpmlhgmmobpilaaGreatDoor
namespace Go.Proofs.YtpmlhgmmobpilaaGreatDoor
open Go.RowKit Go.Shelf
namespace Ci
open Nt
end Ci
end Go.Proofs.YtpmlhgmmobpilaaGreatDoor
namespace Go.Proofs.YtpmlhgmmobpilaaGreatDoor
open Go.RowKit Go.Shelf
namespace Ci
open Nt
theorem InLs.below {W W' : World} {A : Option Addr} {l : List (Option Addr × Nat × List Int)} (h : InLs W A l) (hb : Below W.heap.size W W') : InLs W' A l := fun h0 => by
  obtain ⟨b, off, e, hl, hc⟩ := h h0
  exact ⟨b, off, e, Nat.lt_of_lt_of_le hl hb.size, fun j hj => ⟨(hb.cell (p := ⟨b, _, none⟩) hl).trans (hc j hj).1, (hc j hj).2.1.below hb, (hc j hj).2.2⟩⟩
end Ci
end Go.Proofs.YtpmlhgmmobpilaaGreatDoor
namespace Go.Proofs.YtpmlhgmmobpilaaGreatDoor
open Go.ChangeShapes Go.WideShapes Go.ChangeAt Go.RowKit Go.Shelf Go.Joins Go.Deep
namespace Ci
open Nt
def in64 (x : Int) : Prop := -9223372036854775808 ≤ x ∧ x ≤ 9223372036854775807
def lkD {H : Type} (x : Lk) : DataW H := .agg [.lit (.int .i64 x.1), .lit (.int .i64 x.2.1), .agg [.lit (.bool x.2.2.1), .lit (.string x.2.2.2.1.data.toList), .lit (.string x.2.2.2.2.data.toList)]]
def strD {H : Type} (x : ByteArray) : DataW H := .lit (.string x.data.toList)
def intD {H : Type} (x : Int) : DataW H := .lit (.int .i64 x)
/-- A slice's datum. -/
def isSl {H α : Type} (f : α → DataW H) (l : List α) (d : DataW H) : Prop := (d = .nil ∧ l = []) ∨ ∃ rest, d = .slice (l.map f) rest
section
variable {H : Type} {enc : TypeId × Value → H} {w : World} {base : Nat} {held : Bool}
theorem cadd {b o k : Nat} : (⟨b, o, none⟩ : Addr).add k = ⟨b, o + k, none⟩ := by unfold Addr.add; split <;> simp_all
theorem i64_in {x : Int} (h : (Lit.int .i64 x).wf = true) : in64 x := by
  have := wf_inQ h
  exact this
set_option maxRecDepth 100000 in
theorem open_ints' {fuel : Nat} {cs : List Value} {x : DataW H × List MemPlace} (h : DataW.trod enc Tryz.prog w base (fun _ => true) held fuel 24 cs = some x) :
    ∃ (A : Option Addr) (cap : Nat) (l : List Int), cs = [.slice A l.length cap] ∧ isSl intD l x.1 ∧ InInt w A l ∧ ∀ y, y ∈ l → in64 y := by
  rcases open_slice1 Tryz.underlying24 (by kernel_rfl) h with ⟨h1, h2⟩ | ⟨a, len, cap, m, n, V, D, Pl, hcs, hb, hl, hm, hmm, hx, hi⟩
  · exact ⟨none, 0, [], h1, .inl ⟨by rw [h2], rfl⟩, fun h => absurd h (by simp), fun y hy => by cases hy⟩
  · simp only [if_true] at hmm
    subst hmm
    have each : ∀ i, i < m → ∃ y : Int, V i = .int .i64 y ∧ D i = intD y ∧ in64 y := by
      intro i him
      obtain ⟨y, e1, e2, e3⟩ := DataW.trod_int Tryz.underlying3 (hi i him).2
      exact ⟨y, by simpa using e1, congrArg Prod.fst e2, i64_in e3⟩
    obtain ⟨Y, hY⟩ := choose_lt each
    refine ⟨some a, m, (List.range len).map Y, by simpa using hcs, .inr ⟨_, by rw [hx, List.map_map]; simp only []; congr 1; exact List.map_congr_left fun i hi2 => (hY i (by have := List.mem_range.1 hi2; omega)).2.1⟩, fun h0 => ?_, fun y hy => ?_⟩
    · simp only [List.length_map, List.length_range] at h0
      have h00 := (hi 0 (by omega)).1
      have hsp := World.cell?_spot h00
      obtain ⟨b, o, s⟩ := a
      have hs : s = none := by simpa [Addr.add] using hsp
      subst hs
      refine ⟨b, o, rfl, ?_, fun j hj => ?_⟩
      · have := World.block_lt_of_cell? w _ h00
        simpa [cadd] using this
      · have hj' : j < len := by simpa using hj
        have hc := (hi j (by omega)).1
        rw [cadd, (hY j (by omega)).1] at hc
        simp only [List.getElem_map, List.getElem_range]
        exact hc
    · obtain ⟨i, hi2, rfl⟩ := List.mem_map.1 hy
      exact (hY i (by have := List.mem_range.1 hi2; omega)).2.2
set_option maxRecDepth 100000 in
theorem open_strs' {fuel : Nat} {cs : List Value} {x : DataW H × List MemPlace} (h : DataW.trod enc Tryz.prog w base (fun _ => true) held fuel 51 cs = some x) :
    ∃ (A : Option Addr) (cap : Nat) (l : List ByteArray), cs = [.slice A l.length cap] ∧ isSl strD l x.1 ∧ InStr w A l := by
  rcases open_slice1 Tryz.underlying51 (by kernel_rfl) h with ⟨h1, h2⟩ | ⟨a, len, cap, m, n, V, D, Pl, hcs, hb, hl, hm, hmm, hx, hi⟩
  · exact ⟨none, 0, [], h1, .inl ⟨by rw [h2], rfl⟩, fun h => absurd h (by simp)⟩
  · simp only [if_true] at hmm
    subst hmm
    have each : ∀ i, i < m → ∃ y : ByteArray, V i = .string y ∧ D i = strD y := by
      intro i him
      obtain ⟨y, e1, e2, _⟩ := DataW.trod_string Tryz.underlying9 (hi i him).2
      exact ⟨y, by simpa using e1, congrArg Prod.fst e2⟩
    obtain ⟨Y, hY⟩ := choose_lt each
    refine ⟨some a, m, (List.range len).map Y, by simpa using hcs, .inr ⟨_, by rw [hx, List.map_map]; simp only []; congr 1; exact List.map_congr_left fun i hi2 => (hY i (by have := List.mem_range.1 hi2; omega)).2⟩, fun h0 => ?_⟩
    simp only [List.length_map, List.length_range] at h0
    have h00 := (hi 0 (by omega)).1
    have hsp := World.cell?_spot h00
    obtain ⟨b, o, s⟩ := a
    have hs : s = none := by simpa [Addr.add] using hsp
    subst hs
    refine ⟨b, o, rfl, ?_, fun j hj => ?_⟩
    · have := World.block_lt_of_cell? w _ h00
      simpa [cadd] using this
    · have hj' : j < len := by simpa using hj
      have hc := (hi j (by omega)).1
      rw [cadd, (hY j (by omega)).1] at hc
      simp only [List.getElem_map, List.getElem_range]
      exact hc
set_option maxRecDepth 100000 in
theorem cells_lk : Tryz.prog.cellsOf 94 = 5 := by kernel_rfl
set_option maxRecDepth 100000 in
theorem open_lks {fuel : Nat} {cs : List Value} {x : DataW H × List MemPlace} (h : DataW.trod enc Tryz.prog w base (fun _ => true) held fuel 52 cs = some x) :
    ∃ (A : Option Addr) (cap : Nat) (l : List Lk), cs = [.slice A l.length cap] ∧ isSl lkD l x.1 ∧ InLk w A l ∧ ∀ y, y ∈ l → in64 y.1 ∧ in64 y.2.1 := by
  rcases open_slice Tryz.underlying52 h with ⟨h1, h2⟩ | ⟨a, len, cap, m, n, D, Pl, hcs, hb, hl, hm, hmm, hx, hi⟩
  · exact ⟨none, 0, [], h1, .inl ⟨by rw [h2], rfl⟩, fun h => absurd h (by simp), fun y hy => by cases hy⟩
  · simp only [if_true] at hmm
    subst hmm
    have each : ∀ i, i < m → ∃ y : Lk, D i = lkD y ∧ (w.cell? (a.add (i * 5)) = some (.int .i64 y.1) ∧ w.cell? (a.add (i * 5 + 1)) = some (.int .i64 y.2.1) ∧ w.cell? (a.add (i * 5 + 2)) = some (.bool y.2.2.1) ∧ w.cell? (a.add (i * 5 + 3)) = some (.string y.2.2.2.1) ∧ w.cell? (a.add (i * 5 + 4)) = some (.string y.2.2.2.2)) ∧ in64 y.1 ∧ in64 y.2.1 := by
      intro i him
      obtain ⟨cs', hc, ht'⟩ := hi i him
      rw [cells_lk] at hc
      obtain ⟨y0, y1, y2, n', hy, _, t0, t1, t2⟩ := trod_struct3 Tryz.underlying94 ht'
      obtain ⟨z0, z1, z2, n'', hz, _, u0, u1, u2⟩ := trod_struct3 Tryz.underlying23 t2
      obtain ⟨_, hcl, hat⟩ := World.cells?_some hc
      match cs', hcl with
      | [c0, c1, c2, c3, c4], _ =>
        have g0 := hat 0 (by omega)
        have g1 := hat 1 (by omega)
        have g2 := hat 2 (by omega)
        have g3 := hat 3 (by omega)
        have g4 := hat 4 (by omega)
        rw [Go.Deep.add_add] at g0 g1 g2 g3 g4
        obtain ⟨a0, e0, k0, f0⟩ := DataW.trod_int Tryz.underlying3 t0
        obtain ⟨a1, e1, k1, f1⟩ := DataW.trod_int Tryz.underlying3 t1
        obtain ⟨a2, e2, k2⟩ := DataW.trod_bool Tryz.underlying4 u0
        obtain ⟨a3, e3, k3, _⟩ := DataW.trod_string Tryz.underlying9 u1
        obtain ⟨a4, e4, k4, _⟩ := DataW.trod_string Tryz.underlying9 u2
        simp only [Prod.mk.injEq] at hy hz
        have s1 : Tryz.prog.cellsOf 3 = 1 := by kernel_rfl
        have s2 : Tryz.prog.cellsOf 4 = 1 := by kernel_rfl
        have s3 : Tryz.prog.cellsOf 9 = 1 := by kernel_rfl
        have s4 : Tryz.prog.cellsOf 23 = 3 := by kernel_rfl
        have b0 : c0 = .int .i64 a0 := by simpa [s1, s2, s3, s4] using e0
        have b1 : c1 = .int .i64 a1 := by simpa [s1, s2, s3, s4] using e1
        have b2 : c2 = .bool a2 := by simpa [s1, s2, s3, s4] using e2
        have b3 : c3 = .string a3 := by simpa [s1, s2, s3, s4] using e3
        have b4 : c4 = .string a4 := by simpa [s1, s2, s3, s4] using e4
        subst b0 b1 b2 b3 b4
        refine ⟨(a0, a1, a2, a3, a4), ?_, ⟨by simpa using g0, by simpa using g1, by simpa using g2, by simpa using g3, by simpa using g4⟩, i64_in f0, i64_in f1⟩
        rw [hy.1, k0, k1, hz, k2, k3, k4]
        rfl
    obtain ⟨Y, hY⟩ := choose_lt each
    refine ⟨some a, m, (List.range len).map Y, by simpa using hcs, .inr ⟨_, by rw [hx, List.map_map]; simp only []; congr 1; exact List.map_congr_left fun i hi2 => (hY i (by have := List.mem_range.1 hi2; omega)).1⟩, fun h0 => ?_, fun y hy => ?_⟩
    · simp only [List.length_map, List.length_range] at h0
      have h00 := (hY 0 (by omega)).2.1.1
      have hsp := World.cell?_spot h00
      obtain ⟨b, o, s⟩ := a
      have hs : s = none := by simpa [Addr.add] using hsp
      subst hs
      refine ⟨b, o, rfl, ?_, fun j hj => ?_⟩
      · have := World.block_lt_of_cell? w _ h00
        simpa [cadd] using this
      · have hj' : j < len := by simpa using hj
        have hc := (hY j (by omega)).2.1
        simp only [cadd] at hc
        simp only [List.getElem_map, List.getElem_range]
        exact hc
    · obtain ⟨i, hi2, rfl⟩ := List.mem_map.1 hy
      exact (hY i (by have := List.mem_range.1 hi2; omega)).2.2
end
end Ci
end Go.Proofs.YtpmlhgmmobpilaaGreatDoor
namespace Go.Proofs.YtpmlhgmmobpilaaGreatDoor
open Go.ChangeShapes Go.WideShapes Go.ChangeAt Go.RowKit Go.Shelf Go.Joins Go.Deep
namespace Ci
open Nt
section
variable {H : Type}
theorem weightsAll_mem {P : Program} {e : TypeId} {d : DataW H} : ∀ {l : List (DataW H)}, d ∈ l → ∀ m ∈ d.weights P e, m ∈ DataW.weightsAll P e l := by
  intro l
  induction l with
  | nil => intro h; cases h
  | cons a l ih =>
    intro h m hm
    rw [DataW.weightsAll, List.mem_append]
    rcases List.mem_cons.1 h with rfl | h
    · exact .inl hm
    · exact .inr (ih h m hm)
theorem trodAll_stays {enc : TypeId × Value → H} {P : Program} {W W' : World} {base : Nat} {sp' : Nat → Bool} (hl : laidOutB P = true) : ∀ {ts : List TypeId} {vs : List Value} {ds : List (DataW H)} {ps : List MemPlace},
    (∀ t ∈ ts, P.readableRec t = true ∧ t < P.types.size) → DataW.TrodAll enc P W base (fun _ => true) true ts vs ds ps → (∀ p ∈ ps, W.sameAt W' p) → (∀ p ∈ ps, sp' p.block = true) → DataW.TrodAll enc P W' base sp' true ts vs ds ps
  | [], [], [], _, _, h, _, _ => h
  | _ :: _, _ :: _, _ :: _, _, hT, ⟨p, q, h1, h2, e⟩, hs, hb =>
    ⟨p, q, WideElems.Trod_stays hl (hT _ (List.mem_cons.2 (.inl rfl))).1 (hT _ (List.mem_cons.2 (.inl rfl))).2 h1 (fun x hx => hs x (by rw [e]; exact List.mem_append_left _ hx)) (fun x hx => hb x (by rw [e]; exact List.mem_append_left _ hx)),
      trodAll_stays hl (fun t ht => hT t (List.mem_cons.2 (.inr ht))) h2 (fun x hx => hs x (by rw [e]; exact List.mem_append_right _ hx)) (fun x hx => hb x (by rw [e]; exact List.mem_append_right _ hx)), e⟩
theorem sizes_at {ts : List TypeId} {ds : List (DataW H)} {j : Nat} {t : TypeId} {d : DataW H} (hsz : (DataW.weightsEach Tryz.prog ts ds).all (· ≤ reachBytes) = true) (ht : ts[j]? = some t) (hd : ds[j]? = some d) : ∀ m ∈ d.weights Tryz.prog t, m ≤ 140737488351232 := fun m hm =>
  of_decide_eq_true (List.all_eq_true.1 hsz _ (DataW.weights_mem_each (P := Tryz.prog) ht hd m hm))
theorem size_sl {α : Type} {f : α → DataW H} {l : List α} {d : DataW H} {t e : TypeId} (ht : Tryz.prog.underlying t = some (.slice e)) (hb : 0 < Tryz.prog.bytesOf e) (h : isSl f l d) (hw : ∀ m ∈ d.weights Tryz.prog t, m ≤ 140737488351232) :
    l.length ≤ 140737488355328 ∧ ∀ x ∈ l, ∀ m ∈ (f x).weights Tryz.prog e, m ≤ 140737488351232 := by
  rcases h with ⟨_, rfl⟩ | ⟨rest, rfl⟩
  · exact ⟨by simp, fun x h => absurd h (by simp)⟩
  · have e1 : (DataW.slice (l.map f) rest).weights Tryz.prog t = ((l.map f).length + rest.length) * Tryz.prog.bytesOf e :: (DataW.weightsAll Tryz.prog e (l.map f) ++ DataW.weightsAll Tryz.prog e rest) := by
      simp [DataW.weights, ht]
    rw [e1] at hw
    have h1 := hw _ (List.mem_cons_self ..)
    rw [List.length_map] at h1
    refine ⟨?_, fun x hx m hm => hw _ (List.mem_cons_of_mem _ (List.mem_append_left _ (weightsAll_mem (List.mem_map_of_mem (f := f) hx) m hm)))⟩
    have h2 : l.length ≤ (l.length + rest.length) * Tryz.prog.bytesOf e := Nat.le_trans (Nat.le_add_right _ _) (Nat.le_mul_of_pos_right _ hb)
    omega
theorem size_str {x : ByteArray} (h : ∀ m ∈ (strD (H := H) x).weights Tryz.prog 9, m ≤ 140737488351232) : x.size ≤ 140737488355328 := by
  have h1 := h x.data.toList.length (by simp [strD, DataW.weights])
  have z1 : x.size = x.data.toList.length := Lib.size_eq _
  omega
theorem size_lk {x : Lk} (h : ∀ m ∈ (lkD (H := H) x).weights Tryz.prog 94, m ≤ 140737488351232) : x.2.2.2.1.size ≤ 140737488355328 ∧ x.2.2.2.2.size ≤ 140737488355328 := by
  have h1 := h x.2.2.2.1.data.toList.length (by simp [lkD, DataW.weights, DataW.weightsEach, Tryz.underlying94, Tryz.underlying23])
  have h2 := h x.2.2.2.2.data.toList.length (by simp [lkD, DataW.weights, DataW.weightsEach, Tryz.underlying94, Tryz.underlying23])
  have z1 : x.2.2.2.1.size = x.2.2.2.1.data.toList.length := Lib.size_eq _
  have z2 : x.2.2.2.2.size = x.2.2.2.2.data.toList.length := Lib.size_eq _
  omega
end
section
variable {H : Type} {enc : TypeId × Value → H} {w : World} {base : Nat} {held : Bool}
/-- A structure's datum. -/
def isSt (s : SR) (d : DataW H) : Prop := ∃ dp dc dv, d = .agg [dp, dc, dv] ∧ isSl strD s.ps dp ∧ isSl lkD s.cap dc ∧ isSl lkD s.vot dv
theorem cells_st : Tryz.prog.cellsOf 54 = 3 := by kernel_rfl
set_option maxRecDepth 100000 in
theorem open_st {r : Go.Reach} {b0 : Nat} {v : Value} {d : DataW H} {p : List MemPlace} (hv : Value.okWide Tryz.prog w r b0 54 v) (h : DataW.Trod enc Tryz.prog w base (fun _ => true) held 54 v d p) :
    ∃ (Ap Ac Av : Option Addr) (cp cc cv : Nat) (s : SR), v = .agg #[.slice Ap s.ps.length cp, .slice Ac s.cap.length cc, .slice Av s.vot.length cv] ∧ isSt s d ∧ InStr w Ap s.ps ∧ InLk w Ac s.cap ∧ InLk w Av s.vot ∧ (∀ y, y ∈ s.cap → in64 y.1 ∧ in64 y.2.1) ∧ ∀ y, y ∈ s.vot → in64 y.1 ∧ in64 y.2.1 := by
  obtain ⟨c0, c1, c2, y0, y1, y2, m, rfl, rfl, _, hy0, hy1, hy2⟩ := open_agg3 Tryz.underlying54 (by kernel_rfl) cells_st hv h
  obtain ⟨Ap, cp, ps, e0, i0, m0⟩ := open_strs' hy0
  obtain ⟨Ac, cc, cap, e1, i1, m1, z1⟩ := open_lks hy1
  obtain ⟨Av, cv, vot, e2, i2, m2, z2⟩ := open_lks hy2
  simp only [List.cons.injEq, and_true] at e0 e1 e2
  subst e0 e1 e2
  exact ⟨Ap, Ac, Av, cp, cc, cv, ⟨ps, cap, vot⟩, rfl, ⟨_, _, _, rfl, i0, i1, i2⟩, m0, m1, m2, z1, z2⟩
set_option maxRecDepth 100000 in
theorem stIn_of {s : SR} {d : DataW H} {Ap Ac Av : Option Addr} (h : isSt s d) (hw : ∀ m ∈ d.weights Tryz.prog 54, m ≤ 140737488351232) (m0 : InStr w Ap s.ps) (m1 : InLk w Ac s.cap) (m2 : InLk w Av s.vot)
    (z1 : ∀ y, y ∈ s.cap → in64 y.1 ∧ in64 y.2.1) (z2 : ∀ y, y ∈ s.vot → in64 y.1 ∧ in64 y.2.1) : StIn w s Ap Ac Av := by
  obtain ⟨dp, dc, dv, rfl, i0, i1, i2⟩ := h
  have e : (DataW.agg [dp, dc, dv]).weights Tryz.prog 54 = dp.weights Tryz.prog 51 ++ (dc.weights Tryz.prog 52 ++ dv.weights Tryz.prog 52) := by
    simp [DataW.weights, DataW.weightsEach, Tryz.underlying54]
  rw [e] at hw
  obtain ⟨a1, a2⟩ := size_sl Tryz.underlying51 (Nat.lt_of_lt_of_eq (by decide : 0 < 16) (by kernel_rfl)) i0 fun m hm => hw m (List.mem_append_left _ hm)
  obtain ⟨b1, b2⟩ := size_sl Tryz.underlying52 (Nat.lt_of_lt_of_eq (by decide : 0 < 56) (by kernel_rfl)) i1 fun m hm => hw m (List.mem_append_right _ (List.mem_append_left _ hm))
  obtain ⟨c1, c2⟩ := size_sl Tryz.underlying52 (Nat.lt_of_lt_of_eq (by decide : 0 < 56) (by kernel_rfl)) i2 fun m hm => hw m (List.mem_append_right _ (List.mem_append_right _ hm))
  exact ⟨m0, m1, m2, a1, b1, c1, fun x hx => size_str (a2 x hx), fun x hx => size_lk (b2 x hx), fun x hx => size_lk (c2 x hx), z1, z2⟩
set_option maxRecDepth 100000 in
theorem open_intsV {r : Go.Reach} {b0 : Nat} {v : Value} {d : DataW H} {p : List MemPlace} (hv : Value.okWide Tryz.prog w r b0 24 v) (h : DataW.Trod enc Tryz.prog w base (fun _ => true) held 24 v d p) :
    ∃ (A : Option Addr) (cap : Nat) (l : List Int), v = .slice A l.length cap ∧ isSl intD l d ∧ InInt w A l ∧ ∀ y, y ∈ l → in64 y := by
  obtain ⟨a, len, c, rfl⟩ := okWide_slice Tryz.underlying24 hv
  obtain ⟨n, hn⟩ := h
  obtain ⟨A, cap, l, e, h1, h2, h3⟩ := open_ints' hn
  refine ⟨A, cap, l, ?_, h1, h2, h3⟩
  simpa [Value.cells] using e
end
end Ci
end Go.Proofs.YtpmlhgmmobpilaaGreatDoor

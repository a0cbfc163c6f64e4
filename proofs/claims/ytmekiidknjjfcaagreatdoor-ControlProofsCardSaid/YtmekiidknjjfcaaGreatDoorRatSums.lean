/- The walk of ratio's sum. -/
import Derived.Test.YtmekiidknjjfcaaGreatDoorRatSum
namespace Go.Proofs.YtmekiidknjjfcaaGreatDoor
open Go.RowKit Go.Shelf
namespace Nt

theorem blw_drewN {B : Nat} {a w : World} (h : Below B a w) (n : Nat) : Below B a (w.drewN n) := ⟨h.os, h.tape, h.output, h.size, h.block⟩

/-- The blocks that sum lays ahead of its products. -/
def SumBoxes (W : World) (B : Nat) (g1 g2 : Bool) (a b c d : Nat) : Prop :=
  B3 W B g1 (T (some a)) (T (some b)) ∧ B3 W (B + 1) g2 (T (some c)) (T (some d)) ∧ B3 W (B + 1 + 1) false ⟨#[]⟩ ⟨#[]⟩
abbrev sumW (w : World) (g1 g2 : Bool) (a b c d : Nat) : World :=
  ((w.alloc (.cells #[.bool g1, .string (T (some a)), .string (T (some b))] 49)).alloc (.cells #[.bool g2, .string (T (some c)), .string (T (some d))] 49)).alloc (.cells #[.bool false, .string ⟨#[]⟩, .string ⟨#[]⟩] 49)
theorem SumBoxes.new (w : World) (g1 g2 : Bool) (a b c d : Nat) : SumBoxes (sumW w g1 g2 a b c d) w.heap.size g1 g2 a b c d := by
  have e1 : (w.alloc (.cells #[.bool g1, .string (T (some a)), .string (T (some b))] 49)).heap.size = w.heap.size + 1 := by simp
  have e2 : ((w.alloc (.cells #[.bool g1, .string (T (some a)), .string (T (some b))] 49)).alloc (.cells #[.bool g2, .string (T (some c)), .string (T (some d))] 49)).heap.size = w.heap.size + 1 + 1 := by simp
  refine ⟨((B3.new w _ _ _).alloc _).alloc _, ?_, ?_⟩
  · have h := B3.new (w.alloc (.cells #[.bool g1, .string (T (some a)), .string (T (some b))] 49)) g2 (T (some c)) (T (some d))
    rw [e1] at h
    exact h.alloc _
  · have h := B3.new ((w.alloc (.cells #[.bool g1, .string (T (some a)), .string (T (some b))] 49)).alloc (.cells #[.bool g2, .string (T (some c)), .string (T (some d))] 49)) false ⟨#[]⟩ ⟨#[]⟩
    rw [e2] at h
    exact h
theorem sumW_below (w : World) (g1 g2 : Bool) (a b c d : Nat) : Below w.heap.size w (sumW w g1 g2 a b c d) :=
  (((Below.refl _ w).alloc (Nat.le_refl _) _).alloc (by simp) _).alloc (by simp; omega) _
theorem SumBoxes.alloc {W : World} {B : Nat} {g1 g2 : Bool} {a b c d : Nat} (h : SumBoxes W B g1 g2 a b c d) (o : Obj) : SumBoxes (W.alloc o) B g1 g2 a b c d := ⟨h.1.alloc o, h.2.1.alloc o, h.2.2.alloc o⟩
theorem SumBoxes.below {W W' : World} {B : Nat} {g1 g2 : Bool} {a b c d : Nat} (h : SumBoxes W B g1 g2 a b c d) (hb : Below W.heap.size W W') : SumBoxes W' B g1 g2 a b c d := ⟨h.1.below hb, h.2.1.below hb, h.2.2.below hb⟩

theorem texts3 {W : World} {v : Value} {x y z : Nat} (h : TextsAt W v [x, y, z]) : ∃ g cap, v = .slice (some ⟨g, 0, none⟩) 3 cap ∧ W.cell? ⟨g, 0, none⟩ = some (.string (T (some x))) ∧ W.cell? ⟨g, 1, none⟩ = some (.string (T (some y))) ∧ W.cell? ⟨g, 2, none⟩ = some (.string (T (some z))) := by
  obtain ⟨g, cap, rfl, hg, hc⟩ := h
  exact ⟨g, cap, rfl, hc 0 (by simp), hc 1 (by simp), hc 2 (by simp)⟩
theorem texts2 {W : World} {v : Value} {x y : Nat} (h : TextsAt W v [x, y]) : ∃ g cap, v = .slice (some ⟨g, 0, none⟩) 2 cap ∧ g < W.heap.size ∧ W.cell? ⟨g, 0, none⟩ = some (.string (T (some x))) ∧ W.cell? ⟨g, 1, none⟩ = some (.string (T (some y))) := by
  obtain ⟨g, cap, rfl, hg, hc⟩ := h
  exact ⟨g, cap, rfl, hg, hc 0 (by simp), hc 1 (by simp)⟩

/-- The memory of the pairs. -/
theorem pairs3 (W : World) (x1 y1 x2 y2 x3 y3 : Nat) :
    PairsAt (W.alloc (.cells #[.string (T (some x1)), .string (T (some y1)), .string (T (some x2)), .string (T (some y2)), .string (T (some x3)), .string (T (some y3))] 110)) W.heap.size [(x1, y1), (x2, y2), (x3, y3)] := by
  intro i hi
  have h := heap_alloc_new W (.cells #[.string (T (some x1)), .string (T (some y1)), .string (T (some x2)), .string (T (some y2)), .string (T (some x3)), .string (T (some y3))] 110)
  match i, hi with
  | 0, _ => simp only [World.cell?, h]; exact ⟨rfl, rfl⟩
  | 1, _ => simp only [World.cell?, h]; exact ⟨rfl, rfl⟩
  | 2, _ => simp only [World.cell?, h]; exact ⟨rfl, rfl⟩
  | n + 3, hi => simp at hi; omega
theorem pairs2 (W : World) (x1 y1 x2 y2 : Nat) :
    PairsAt (W.alloc (.cells #[.string (T (some x1)), .string (T (some y1)), .string (T (some x2)), .string (T (some y2))] 110)) W.heap.size [(x1, y1), (x2, y2)] := by
  intro i hi
  have h := heap_alloc_new W (.cells #[.string (T (some x1)), .string (T (some y1)), .string (T (some x2)), .string (T (some y2))] 110)
  match i, hi with
  | 0, _ => simp only [World.cell?, h]; exact ⟨rfl, rfl⟩
  | 1, _ => simp only [World.cell?, h]; exact ⟨rfl, rfl⟩
  | n + 2, hi => simp at hi; omega

set_option maxRecDepth 100000 in
set_option maxHeartbeats 2000000 in
theorem sumw_same (g1 : Bool) (a b c d : Nat) (w : World) (hE : Env w) (ha : a < L1) (hb : b < L1) (hc : c < L1) (hd : d < L1) (hb0 : b ≠ 0) (hd0 : d ≠ 0)  :
    Calls Tryz.prog 56 #[.agg #[.bool g1, .string (T (some a)), .string (T (some b))], .agg #[.bool g1, .string (T (some c)), .string (T (some d))]] w fun e w' => e = .returned (.tuple #[qv (mkRat (sg g1 (a * d + c * b)) (b * d)), .int .i64 0]) ∧ Below w.heap.size w w' := by
  have hbd : b * d ≠ 0 := Nat.mul_ne_zero hb0 hd0
  have HS := Lib.hid (And.intro (L1_mul ha hd) (And.intro (L1_mul hc hb) (And.intro (L1_mul hb hd) L1_sq)))
  have HP : Hid (∀ p ∈ [(a, d), (c, b), (b, d)], p.1 < Lim ∧ p.2 < Lim ∧ p.1 * p.2 < Lim) := by
    have := HS.out
    intro p hp
    simp only [List.mem_cons, List.not_mem_nil, or_false] at hp
    rcases hp with rfl | rfl | rfl
    · exact ⟨L1_lim ha, L1_lim hd, by show a * d < Lim; omega⟩
    · exact ⟨L1_lim hc, L1_lim hb, by show c * b < Lim; omega⟩
    · exact ⟨L1_lim hb, L1_lim hd, by show b * d < Lim; omega⟩
  have hPR : Hid (PairsAt ((sumW w g1 g1 a b c d).alloc (.cells #[.string (T (some a)), .string (T (some d)), .string (T (some c)), .string (T (some b)), .string (T (some b)), .string (T (some d))] 110)) (w.heap.size + 1 + 1 + 1) [(a, d), (c, b), (b, d)]) := by
    have := pairs3 (sumW w g1 g1 a b c d) a d c b b d
    rwa [show (sumW w g1 g1 a b c d).heap.size = w.heap.size + 1 + 1 + 1 by simp] at this
  have hBE : Hid (Below w.heap.size w ((sumW w g1 g1 a b c d).alloc (.cells #[.string (T (some a)), .string (T (some d)), .string (T (some c)), .string (T (some b)), .string (T (some b)), .string (T (some d))] 110))) := (sumW_below w g1 g1 a b c d).alloc (sumW_below w g1 g1 a b c d).size _
  have hQE : Hid (SumBoxes ((sumW w g1 g1 a b c d).alloc (.cells #[.string (T (some a)), .string (T (some d)), .string (T (some c)), .string (T (some b)), .string (T (some b)), .string (T (some d))] 110)) w.heap.size g1 g1 a b c d) := (SumBoxes.new w g1 g1 a b c d).alloc _
  replace hE := Lib.hid hE
  replace hbd := Lib.hid hbd
  clear ha hb hc hd hb0 hd0
  have hA : Hid (sumO (some (a * d)) (some (c * b)) = some (a * d + c * b) ∧ sumE (some (a * d)) (some (c * b)) = 0) := by
    have := HS.out
    have h : a * d + c * b < Lim := by omega
    exact ⟨by simp only [sumO, apO, limO, if_pos h], by simp only [sumE, apE, if_pos h]⟩
  go_enter Tryz.func56, Tryz.ntmps56
  go_wp2_with fail
  refine (products_any _ (hE.out.below hBE.out) (w.heap.size + 1 + 1 + 1) 3 [(a, d), (c, b), (b, d)] (by simp) (by simp) hPR.out HP.out).mono ?_
  rintro e w1 ⟨⟨v, rfl, ho⟩, hb1⟩
  have hat : TextsAt w1 v [a * d, c * b, b * d] := tvals_at ho (by simp)
  obtain ⟨lg, lcap, rfl, l0, l1, l2⟩ := texts3 hat
  have q1 := hQE.out.below hb1
  have hB1 := Lib.hid (hBE.out.trans (hb1.mono hBE.out.size))
  obtain ⟨a1, a2, a3, a4, a5, a6⟩ := q1.1.facts
  obtain ⟨b1, b2, b3, b4, b5, b6⟩ := q1.2.1.facts
  obtain ⟨c1, c2, c3, c4, c5, c6⟩ := q1.2.2.facts
  have hz1 := q1.2.2.lt
  replace q1 := Lib.hid q1
  clear hb1 hat ho
  go_wp2_with fail
  show Code.wp _ _ _ _ _
  go_quiet (fail)
  obtain ⟨W, hW⟩ : ∃ W, W = w1.drewN nq := ⟨_, rfl⟩
  have qW : Hid (SumBoxes W w.heap.size g1 g1 a b c d) := by rw [hW]; exact q1.out
  have hBW : Hid (Below w.heap.size w W) := by rw [hW]; exact blw_drewN hB1.out nq
  rw [← hW]
  clear a1 a2 a3 a4 a5 a6 b1 b2 b3 b4 b5 b6 c1 c2 c3 c4 c5 c6 hz1 l0 l1 l2 hW q1 hB1
  obtain ⟨a1, a2, a3, a4, a5, a6⟩ := qW.out.1.facts
  obtain ⟨b1, b2, b3, b4, b5, b6⟩ := qW.out.2.1.facts
  go_wp2_with fail
  refine (addT (some (a * d)) (some (c * b)) _ (hE.out.below hBW.out) (ok_some (by have := HS.out; omega)) (ok_some (by have := HS.out; omega))).mono ?_
  rintro e w2 ⟨rfl, hb2⟩
  rw [hA.out.1, hA.out.2]
  have q2 := qW.out.below hb2
  have hB2 := Lib.hid (hBW.out.trans (hb2.mono hBW.out.size))
  clear a1 a2 a3 a4 a5 a6 b1 b2 b3 b4 b5 b6 hb2
  obtain ⟨a1, a2, a3, a4, a5, a6⟩ := q2.1.facts
  obtain ⟨b1, b2, b3, b4, b5, b6⟩ := q2.2.1.facts
  replace q2 := Lib.hid q2
  go_wp2_with fail
  refine (lowest_any g1 (a * d + c * b) (b * d) _ (hE.out.below hB2.out) (by have := HS.out; omega) (by have := HS.out; omega) hbd.out).mono ?_
  rintro e w3 ⟨rfl, hb3⟩
  have q3 := q2.out.below hb3
  have hB3 := Lib.hid (hB2.out.trans (hb3.mono hB2.out.size))
  clear a1 a2 a3 a4 a5 a6 b1 b2 b3 b4 b5 b6 hb3
  obtain ⟨c1, c2, c3, c4, c5, c6⟩ := q3.2.2.facts
  replace q3 := Lib.hid q3
  unfold qv
  go_wp2
  refine bodyPost_ret (v := .tuple #[.agg #[.bool (decide ((mkRat (sg g1 (a * d + c * b)) (b * d)).num < 0)), .string (T (some (mkRat (sg g1 (a * d + c * b)) (b * d)).num.natAbs)), .string (T (some (mkRat (sg g1 (a * d + c * b)) (b * d)).den))], .int .i64 0]) (by simp [results, Tryz.results56, go_sem, c1, c2, c3]) rfl ⟨rfl, ?_⟩
  repeat refine Below.setCell ?_ (by simp only []; omega) _
  exact hB3.out

set_option maxRecDepth 100000 in
set_option maxHeartbeats 2000000 in
theorem sumw_less (g1 g2 : Bool) (a b c d : Nat) (w : World) (hE : Env w) (ha : a < L1) (hb : b < L1) (hc : c < L1) (hd : d < L1) (hb0 : b ≠ 0) (hd0 : d ≠ 0) (hg : (g1 == g2) = false) (hl : a * d < c * b) :
    Calls Tryz.prog 56 #[.agg #[.bool g1, .string (T (some a)), .string (T (some b))], .agg #[.bool g2, .string (T (some c)), .string (T (some d))]] w fun e w' => e = .returned (.tuple #[qv (mkRat (sg g2 (c * b - a * d)) (b * d)), .int .i64 0]) ∧ Below w.heap.size w w' := by
  have hbd : b * d ≠ 0 := Nat.mul_ne_zero hb0 hd0
  have HS := Lib.hid (And.intro (L1_mul ha hd) (And.intro (L1_mul hc hb) (And.intro (L1_mul hb hd) L1_sq)))
  have HP : Hid (∀ p ∈ [(a, d), (c, b), (b, d)], p.1 < Lim ∧ p.2 < Lim ∧ p.1 * p.2 < Lim) := by
    have := HS.out
    intro p hp
    simp only [List.mem_cons, List.not_mem_nil, or_false] at hp
    rcases hp with rfl | rfl | rfl
    · exact ⟨L1_lim ha, L1_lim hd, by show a * d < Lim; omega⟩
    · exact ⟨L1_lim hc, L1_lim hb, by show c * b < Lim; omega⟩
    · exact ⟨L1_lim hb, L1_lim hd, by show b * d < Lim; omega⟩
  have hPR : Hid (PairsAt ((sumW w g1 g2 a b c d).alloc (.cells #[.string (T (some a)), .string (T (some d)), .string (T (some c)), .string (T (some b)), .string (T (some b)), .string (T (some d))] 110)) (w.heap.size + 1 + 1 + 1) [(a, d), (c, b), (b, d)]) := by
    have := pairs3 (sumW w g1 g2 a b c d) a d c b b d
    rwa [show (sumW w g1 g2 a b c d).heap.size = w.heap.size + 1 + 1 + 1 by simp] at this
  have hBE : Hid (Below w.heap.size w ((sumW w g1 g2 a b c d).alloc (.cells #[.string (T (some a)), .string (T (some d)), .string (T (some c)), .string (T (some b)), .string (T (some b)), .string (T (some d))] 110))) := (sumW_below w g1 g2 a b c d).alloc (sumW_below w g1 g2 a b c d).size _
  have hQE : Hid (SumBoxes ((sumW w g1 g2 a b c d).alloc (.cells #[.string (T (some a)), .string (T (some d)), .string (T (some c)), .string (T (some b)), .string (T (some b)), .string (T (some d))] 110)) w.heap.size g1 g2 a b c d) := (SumBoxes.new w g1 g2 a b c d).alloc _
  replace hE := Lib.hid hE
  replace hbd := Lib.hid hbd
  clear ha hb hc hd hb0 hd0
  have hC0 : Hid (cmpX (some (a * d)) (some (c * b)) = 0) := rfl
  have hS2 : Hid (subO (some (c * b)) (some (a * d)) = some (c * b - a * d) ∧ subX (some (c * b)) (some (a * d)) = 0) := ⟨if_pos (by omega), if_pos (by omega)⟩
  have hC : Hid (cmpO (some (a * d)) (some (c * b)) = -1) := cmpN_lt hl
  replace hl := Lib.hid hl
  go_enter Tryz.func56, Tryz.ntmps56
  go_wp2_with fail
  refine (products_any _ (hE.out.below hBE.out) (w.heap.size + 1 + 1 + 1) 3 [(a, d), (c, b), (b, d)] (by simp) (by simp) hPR.out HP.out).mono ?_
  rintro e w1 ⟨⟨v, rfl, ho⟩, hb1⟩
  have hat : TextsAt w1 v [a * d, c * b, b * d] := tvals_at ho (by simp)
  obtain ⟨lg, lcap, rfl, l0, l1, l2⟩ := texts3 hat
  have q1 := hQE.out.below hb1
  have hB1 := Lib.hid (hBE.out.trans (hb1.mono hBE.out.size))
  obtain ⟨a1, a2, a3, a4, a5, a6⟩ := q1.1.facts
  obtain ⟨b1, b2, b3, b4, b5, b6⟩ := q1.2.1.facts
  obtain ⟨c1, c2, c3, c4, c5, c6⟩ := q1.2.2.facts
  have hz1 := q1.2.2.lt
  replace q1 := Lib.hid q1
  clear hb1 hat ho
  go_wp2_with fail
  show Code.wp _ _ _ _ _
  go_quiet (fail)
  obtain ⟨W, hW⟩ : ∃ W, W = w1.drewN nq := ⟨_, rfl⟩
  have qW : Hid (SumBoxes W w.heap.size g1 g2 a b c d) := by rw [hW]; exact q1.out
  have hBW : Hid (Below w.heap.size w W) := by rw [hW]; exact blw_drewN hB1.out nq
  rw [← hW]
  clear a1 a2 a3 a4 a5 a6 b1 b2 b3 b4 b5 b6 c1 c2 c3 c4 c5 c6 hz1 l0 l1 l2 hW q1 hB1
  obtain ⟨a1, a2, a3, a4, a5, a6⟩ := qW.out.1.facts
  obtain ⟨b1, b2, b3, b4, b5, b6⟩ := qW.out.2.1.facts
  go_wp2_with fail
  refine (cmpT (some (a * d)) (some (c * b)) _ (hE.out.below hBW.out) (ok_some (by have := HS.out; omega)) (ok_some (by have := HS.out; omega))).mono ?_
  rintro e w2 ⟨rfl, hb2⟩
  rw [hC.out, hC0.out]
  have q2 := qW.out.below hb2
  have hB2 := Lib.hid (hBW.out.trans (hb2.mono hBW.out.size))
  clear a1 a2 a3 a4 a5 a6 b1 b2 b3 b4 b5 b6 hb2
  obtain ⟨a1, a2, a3, a4, a5, a6⟩ := q2.1.facts
  obtain ⟨b1, b2, b3, b4, b5, b6⟩ := q2.2.1.facts
  replace q2 := Lib.hid q2
  go_wp2_with fail
  refine (subT (some (c * b)) (some (a * d)) _ (hE.out.below hB2.out) (ok_some (by have := HS.out; omega)) (ok_some (by have := HS.out; omega))).mono ?_
  rintro e w3 ⟨rfl, hb3⟩
  rw [hS2.out.1, hS2.out.2]
  have q3 := q2.out.below hb3
  have hB3 := Lib.hid (hB2.out.trans (hb3.mono hB2.out.size))
  clear a1 a2 a3 a4 a5 a6 b1 b2 b3 b4 b5 b6 hb3
  obtain ⟨a1, a2, a3, a4, a5, a6⟩ := q3.1.facts
  obtain ⟨b1, b2, b3, b4, b5, b6⟩ := q3.2.1.facts
  replace q3 := Lib.hid q3
  go_wp2_with fail
  refine (lowest_any g2 (c * b - a * d) (b * d) _ (hE.out.below hB3.out) (by have := HS.out; omega) (by have := HS.out; omega) hbd.out).mono ?_
  rintro e w4 ⟨rfl, hb4⟩
  have q4 := q3.out.below hb4
  have hB4 := Lib.hid (hB3.out.trans (hb4.mono hB3.out.size))
  clear a1 a2 a3 a4 a5 a6 b1 b2 b3 b4 b5 b6 hb4
  obtain ⟨c1, c2, c3, c4, c5, c6⟩ := q4.2.2.facts
  replace q4 := Lib.hid q4
  unfold qv
  go_wp2
  refine bodyPost_ret (v := .tuple #[.agg #[.bool (decide ((mkRat (sg g2 (c * b - a * d)) (b * d)).num < 0)), .string (T (some (mkRat (sg g2 (c * b - a * d)) (b * d)).num.natAbs)), .string (T (some (mkRat (sg g2 (c * b - a * d)) (b * d)).den))], .int .i64 0]) (by simp [results, Tryz.results56, go_sem, c1, c2, c3]) rfl ⟨rfl, ?_⟩
  repeat refine Below.setCell ?_ (by simp only []; omega) _
  exact hB4.out

set_option maxRecDepth 100000 in
set_option maxHeartbeats 2000000 in
theorem sumw_more (g1 g2 : Bool) (a b c d : Nat) (w : World) (hE : Env w) (ha : a < L1) (hb : b < L1) (hc : c < L1) (hd : d < L1) (hb0 : b ≠ 0) (hd0 : d ≠ 0) (hg : (g1 == g2) = false) (hl : c * b ≤ a * d) :
    Calls Tryz.prog 56 #[.agg #[.bool g1, .string (T (some a)), .string (T (some b))], .agg #[.bool g2, .string (T (some c)), .string (T (some d))]] w fun e w' => e = .returned (.tuple #[qv (mkRat (sg g1 (a * d - c * b)) (b * d)), .int .i64 0]) ∧ Below w.heap.size w w' := by
  have hbd : b * d ≠ 0 := Nat.mul_ne_zero hb0 hd0
  have HS := Lib.hid (And.intro (L1_mul ha hd) (And.intro (L1_mul hc hb) (And.intro (L1_mul hb hd) L1_sq)))
  have HP : Hid (∀ p ∈ [(a, d), (c, b), (b, d)], p.1 < Lim ∧ p.2 < Lim ∧ p.1 * p.2 < Lim) := by
    have := HS.out
    intro p hp
    simp only [List.mem_cons, List.not_mem_nil, or_false] at hp
    rcases hp with rfl | rfl | rfl
    · exact ⟨L1_lim ha, L1_lim hd, by show a * d < Lim; omega⟩
    · exact ⟨L1_lim hc, L1_lim hb, by show c * b < Lim; omega⟩
    · exact ⟨L1_lim hb, L1_lim hd, by show b * d < Lim; omega⟩
  have hPR : Hid (PairsAt ((sumW w g1 g2 a b c d).alloc (.cells #[.string (T (some a)), .string (T (some d)), .string (T (some c)), .string (T (some b)), .string (T (some b)), .string (T (some d))] 110)) (w.heap.size + 1 + 1 + 1) [(a, d), (c, b), (b, d)]) := by
    have := pairs3 (sumW w g1 g2 a b c d) a d c b b d
    rwa [show (sumW w g1 g2 a b c d).heap.size = w.heap.size + 1 + 1 + 1 by simp] at this
  have hBE : Hid (Below w.heap.size w ((sumW w g1 g2 a b c d).alloc (.cells #[.string (T (some a)), .string (T (some d)), .string (T (some c)), .string (T (some b)), .string (T (some b)), .string (T (some d))] 110))) := (sumW_below w g1 g2 a b c d).alloc (sumW_below w g1 g2 a b c d).size _
  have hQE : Hid (SumBoxes ((sumW w g1 g2 a b c d).alloc (.cells #[.string (T (some a)), .string (T (some d)), .string (T (some c)), .string (T (some b)), .string (T (some b)), .string (T (some d))] 110)) w.heap.size g1 g2 a b c d) := (SumBoxes.new w g1 g2 a b c d).alloc _
  replace hE := Lib.hid hE
  replace hbd := Lib.hid hbd
  clear ha hb hc hd hb0 hd0
  have hC0 : Hid (cmpX (some (a * d)) (some (c * b)) = 0) := rfl
  have hS2 : Hid (subO (some (a * d)) (some (c * b)) = some (a * d - c * b) ∧ subX (some (a * d)) (some (c * b)) = 0) := ⟨if_pos (by omega), if_pos (by omega)⟩
  obtain ⟨cv, hcv, hcv0⟩ : ∃ cv : Int, cv = cmpO (some (a * d)) (some (c * b)) ∧ 0 ≤ cv := ⟨_, rfl, by show 0 ≤ cmpN (a * d) (c * b); unfold cmpN; rw [if_neg (by omega)]; split <;> omega⟩
  have hC : Hid (cmpO (some (a * d)) (some (c * b)) = cv) := hcv.symm
  clear hcv
  replace hl := Lib.hid hl
  go_enter Tryz.func56, Tryz.ntmps56
  go_wp2_with fail
  refine (products_any _ (hE.out.below hBE.out) (w.heap.size + 1 + 1 + 1) 3 [(a, d), (c, b), (b, d)] (by simp) (by simp) hPR.out HP.out).mono ?_
  rintro e w1 ⟨⟨v, rfl, ho⟩, hb1⟩
  have hat : TextsAt w1 v [a * d, c * b, b * d] := tvals_at ho (by simp)
  obtain ⟨lg, lcap, rfl, l0, l1, l2⟩ := texts3 hat
  have q1 := hQE.out.below hb1
  have hB1 := Lib.hid (hBE.out.trans (hb1.mono hBE.out.size))
  obtain ⟨a1, a2, a3, a4, a5, a6⟩ := q1.1.facts
  obtain ⟨b1, b2, b3, b4, b5, b6⟩ := q1.2.1.facts
  obtain ⟨c1, c2, c3, c4, c5, c6⟩ := q1.2.2.facts
  have hz1 := q1.2.2.lt
  replace q1 := Lib.hid q1
  clear hb1 hat ho
  go_wp2_with fail
  show Code.wp _ _ _ _ _
  go_quiet (fail)
  obtain ⟨W, hW⟩ : ∃ W, W = w1.drewN nq := ⟨_, rfl⟩
  have qW : Hid (SumBoxes W w.heap.size g1 g2 a b c d) := by rw [hW]; exact q1.out
  have hBW : Hid (Below w.heap.size w W) := by rw [hW]; exact blw_drewN hB1.out nq
  rw [← hW]
  clear a1 a2 a3 a4 a5 a6 b1 b2 b3 b4 b5 b6 c1 c2 c3 c4 c5 c6 hz1 l0 l1 l2 hW q1 hB1
  obtain ⟨a1, a2, a3, a4, a5, a6⟩ := qW.out.1.facts
  obtain ⟨b1, b2, b3, b4, b5, b6⟩ := qW.out.2.1.facts
  go_wp2_with fail
  refine (cmpT (some (a * d)) (some (c * b)) _ (hE.out.below hBW.out) (ok_some (by have := HS.out; omega)) (ok_some (by have := HS.out; omega))).mono ?_
  rintro e w2 ⟨rfl, hb2⟩
  rw [hC.out, hC0.out]
  have q2 := qW.out.below hb2
  have hB2 := Lib.hid (hBW.out.trans (hb2.mono hBW.out.size))
  clear a1 a2 a3 a4 a5 a6 b1 b2 b3 b4 b5 b6 hb2
  obtain ⟨a1, a2, a3, a4, a5, a6⟩ := q2.1.facts
  obtain ⟨b1, b2, b3, b4, b5, b6⟩ := q2.2.1.facts
  replace q2 := Lib.hid q2
  go_wp2_with fail
  refine (subT (some (a * d)) (some (c * b)) _ (hE.out.below hB2.out) (ok_some (by have := HS.out; omega)) (ok_some (by have := HS.out; omega))).mono ?_
  rintro e w3 ⟨rfl, hb3⟩
  rw [hS2.out.1, hS2.out.2]
  have q3 := q2.out.below hb3
  have hB3 := Lib.hid (hB2.out.trans (hb3.mono hB2.out.size))
  clear a1 a2 a3 a4 a5 a6 b1 b2 b3 b4 b5 b6 hb3
  obtain ⟨a1, a2, a3, a4, a5, a6⟩ := q3.1.facts
  obtain ⟨b1, b2, b3, b4, b5, b6⟩ := q3.2.1.facts
  replace q3 := Lib.hid q3
  go_wp2_with fail
  refine (lowest_any g1 (a * d - c * b) (b * d) _ (hE.out.below hB3.out) (by have := HS.out; omega) (by have := HS.out; omega) hbd.out).mono ?_
  rintro e w4 ⟨rfl, hb4⟩
  have q4 := q3.out.below hb4
  have hB4 := Lib.hid (hB3.out.trans (hb4.mono hB3.out.size))
  clear a1 a2 a3 a4 a5 a6 b1 b2 b3 b4 b5 b6 hb4
  obtain ⟨c1, c2, c3, c4, c5, c6⟩ := q4.2.2.facts
  replace q4 := Lib.hid q4
  unfold qv
  go_wp2
  refine bodyPost_ret (v := .tuple #[.agg #[.bool (decide ((mkRat (sg g1 (a * d - c * b)) (b * d)).num < 0)), .string (T (some (mkRat (sg g1 (a * d - c * b)) (b * d)).num.natAbs)), .string (T (some (mkRat (sg g1 (a * d - c * b)) (b * d)).den))], .int .i64 0]) (by simp [results, Tryz.results56, go_sem, c1, c2, c3]) rfl ⟨rfl, ?_⟩
  repeat refine Below.setCell ?_ (by simp only []; omega) _
  exact hB4.out

end Nt
end Go.Proofs.YtmekiidknjjfcaaGreatDoor


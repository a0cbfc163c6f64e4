/- The walks of ratio's product and opposite. -/
import Derived.Test.YtjjlnahipiinfaaGreatDoorRatSums
import Derived.Deep.RegionHeld3
import Derived.Deep.DeepCutAuto
namespace Go.Proofs.YtjjlnahipiinfaaGreatDoor
open Go.RowKit Go.Shelf
namespace Nt

theorem set3_other (W : World) (B b o : Nat) (x y z : Value) (h : b ≠ B) : (((W.setCell ⟨B, 0, none⟩ x).setCell ⟨B, 1, none⟩ y).setCell ⟨B, 2, none⟩ z).cell? ⟨b, o, none⟩ = W.cell? ⟨b, o, none⟩ :=
  World.cell?_of_block (w := W) (a := ⟨b, o, none⟩) (((Below.heap_setCell _ _ _ _ (by exact h)).trans (Below.heap_setCell _ _ _ _ (by exact h))).trans (Below.heap_setCell _ _ _ _ (by exact h)))

set_option maxRecDepth 100000 in
set_option maxHeartbeats 2000000 in
theorem product_any (g1 g2 : Bool) (a b c d : Nat) (w : World) (hE : Env w) (ha : a < Lim) (hb : b < Lim) (hc : c < Lim) (hd : d < Lim) (hac : a * c < Lim) (hbd : b * d < Lim) (h0 : b * d ≠ 0) :
    Calls Tryz.prog 41 #[.agg #[.bool g1, .string (T (some a)), .string (T (some b))], .agg #[.bool g2, .string (T (some c)), .string (T (some d))]] w fun e w' => e = .returned (.tuple #[qv (mkRat (sg (!(g1 == g2)) (a * c)) (b * d)), .int .i64 0]) ∧ Below w.heap.size w w' := by
  have HP : Hid (∀ p ∈ [(a, c), (b, d)], p.1 < Lim ∧ p.2 < Lim ∧ p.1 * p.2 < Lim) := by
    intro p hp
    simp only [List.mem_cons, List.not_mem_nil, or_false] at hp
    rcases hp with rfl | rfl
    · exact ⟨ha, hc, hac⟩
    · exact ⟨hb, hd, hbd⟩
  have hPR : Hid (PairsAt ((sumW w g1 g2 a b c d).alloc (.cells #[.string (T (some a)), .string (T (some c)), .string (T (some b)), .string (T (some d))] 66)) (w.heap.size + 1 + 1 + 1) [(a, c), (b, d)]) := by
    have := pairs2 (sumW w g1 g2 a b c d) a c b d
    rwa [show (sumW w g1 g2 a b c d).heap.size = w.heap.size + 1 + 1 + 1 by simp] at this
  have hBE : Hid (Below w.heap.size w ((sumW w g1 g2 a b c d).alloc (.cells #[.string (T (some a)), .string (T (some c)), .string (T (some b)), .string (T (some d))] 66))) := (sumW_below w g1 g2 a b c d).alloc (sumW_below w g1 g2 a b c d).size _
  have hQE : Hid (SumBoxes ((sumW w g1 g2 a b c d).alloc (.cells #[.string (T (some a)), .string (T (some c)), .string (T (some b)), .string (T (some d))] 66)) w.heap.size g1 g2 a b c d) := (SumBoxes.new w g1 g2 a b c d).alloc _
  replace hE := Lib.hid hE
  replace h0 := Lib.hid h0
  replace hac := Lib.hid hac
  replace hbd := Lib.hid hbd
  clear ha hb hc hd
  go_enter Tryz.func41, Tryz.ntmps41
  go_wp2_with fail
  refine (products_any _ (hE.out.below hBE.out) (w.heap.size + 1 + 1 + 1) 2 [(a, c), (b, d)] (by simp) (by simp) hPR.out HP.out).mono ?_
  rintro e w1 ⟨⟨v, rfl, ho⟩, hb1⟩
  have hat : TextsAt w1 v [a * c, b * d] := tvals_at ho (by simp)
  obtain ⟨lg, lcap, rfl, hlg, l0, l1⟩ := texts2 hat
  have hlb : w.heap.size + 1 + 1 + 1 < lg := by
    have h1 := (ho.lt lg rfl).1
    simp at h1
    omega
  have q1 := hQE.out.below hb1
  have hB1 := Lib.hid (hBE.out.trans (hb1.mono hBE.out.size))
  obtain ⟨a1, a2, a3, a4, a5, a6⟩ := q1.1.facts
  obtain ⟨b1, b2, b3, b4, b5, b6⟩ := q1.2.1.facts
  obtain ⟨c1, c2, c3, c4, c5, c6⟩ := q1.2.2.facts
  have hz1 := q1.2.2.lt
  replace q1 := Lib.hid q1
  clear hb1 hat ho
  go_wp2_with fail
  have hl := fun W (h : Below w1.heap.size w1 W) => lowest_any (!(g1 == g2)) (a * c) (b * d) W (hE.out.below (hB1.out.trans (h.mono hB1.out.size))) hac.out hbd.out h0.out
  simp only [qv] at hl
  have q1d : Hid (SumBoxes w1.drew w.heap.size g1 g2 a b c d) := q1.out
  go_region_held3 (fun w' => w'.cell? ⟨w.heap.size, 0, none⟩ = some (.bool g1) ∧ w'.cell? ⟨w.heap.size + 1, 0, none⟩ = some (.bool g2) ∧ w'.cell? ⟨lg, 0, none⟩ = some (.string (T (some (a * c)))) ∧ w'.cell? ⟨lg, 1, none⟩ = some (.string (T (some (b * d))))) (first | exact ⟨a1, b1, l0, l1⟩ | exact ⟨k1, k2, k3, k4⟩ | exact ⟨(set3_other _ _ _ _ _ _ _ (by omega)).trans k1, (set3_other _ _ _ _ _ _ _ (by omega)).trans k2, (set3_other _ _ _ _ _ _ _ (by omega)).trans k3, (set3_other _ _ _ _ _ _ _ (by omega)).trans k4⟩ | go_keep)
    (first | (go_at_call 58; refine (hl _ ?_).mono ?_; (exact (Below.refl _ _).drew); rintro e w2 ⟨rfl, hb2⟩; have q2 := q1d.out.below hb2; obtain ⟨c1', c2', c3', c4', c5', c6'⟩ := q2.2.2.facts; have k1 := q2.1.facts.1; have k2 := q2.2.1.facts.1; have k3 := (hb2.cell (p := ⟨lg, 0, none⟩) hlg).trans l0; have k4 := (hb2.cell (p := ⟨lg, 1, none⟩) hlg).trans l1))
  go_wp2
  refine bodyPost_ret (v := .tuple #[.agg #[.bool (decide ((mkRat (sg (!(g1 == g2)) (a * c)) (b * d)).num < 0)), .string (T (some (mkRat (sg (!(g1 == g2)) (a * c)) (b * d)).num.natAbs)), .string (T (some (mkRat (sg (!(g1 == g2)) (a * c)) (b * d)).den))], .int .i64 0]) (by simp [results, Tryz.results41, go_sem, c1', c2', c3']) rfl ⟨rfl, ?_⟩
  repeat refine Below.setCell ?_ (by simp only []; omega) _
  exact (hB1.out.drew).trans (hb2.mono hB1.out.size)


theorem opp_any (g : Bool) (n d : ByteArray) (w : World) :
    Calls Tryz.prog 48 #[.agg #[.bool g, .string n, .string d]] w fun e w' => e = .returned (.agg #[.bool (!g && !(n.toList == [48])), .string n, .string d]) ∧ Below w.heap.size w w' := by
  cases g with
  | true =>
    go_enter Tryz.func48, Tryz.ntmps48
    go_wp2
    refine bodyPost_ret (v := .agg #[.bool false, .string n, .string d]) (by simp [results, Tryz.results48, go_sem]) rfl ⟨rfl, ?_⟩
    repeat refine Below.setCell ?_ (by simp only []; omega) _
    exact ((Below.refl _ w).alloc (Nat.le_refl _) _).alloc (by simp) _
  | false =>
    cases hz : (n.toList == [48]) with
    | true =>
      go_enter Tryz.func48, Tryz.ntmps48
      go_wp2
      refine bodyPost_ret (v := .agg #[.bool false, .string n, .string d]) (by simp [results, Tryz.results48, go_sem]) rfl ⟨rfl, ?_⟩
      repeat refine Below.setCell ?_ (by simp only []; omega) _
      exact ((Below.refl _ w).alloc (Nat.le_refl _) _).alloc (by simp) _
    | false =>
      go_enter Tryz.func48, Tryz.ntmps48
      go_wp2
      refine bodyPost_ret (v := .agg #[.bool true, .string n, .string d]) (by simp [results, Tryz.results48, go_sem]) rfl ⟨rfl, ?_⟩
      repeat refine Below.setCell ?_ (by simp only []; omega) _
      exact ((Below.refl _ w).alloc (Nat.le_refl _) _).alloc (by simp) _

end Nt
end Go.Proofs.YtjjlnahipiinfaaGreatDoor


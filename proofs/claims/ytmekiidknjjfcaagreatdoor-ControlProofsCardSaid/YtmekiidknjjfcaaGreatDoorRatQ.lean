/- sum, product, opposite and the closures of Sub and Div, over rational numbers. -/
import Derived.Test.YtmekiidknjjfcaaGreatDoorRatProd
import Derived.Deep.RegionHeld3
namespace Go.Proofs.YtmekiidknjjfcaaGreatDoor
open Go.RowKit Go.Shelf
namespace Nt

theorem sum_q (p q : Rat) (hp : ShortQ p) (hq : ShortQ q) (w : World) (hE : Env w) :
    Calls Tryz.prog 56 #[qv p, qv q] w fun e w' => e = .returned (.tuple #[qv (p + q), .int .i64 0]) ∧ Below w.heap.size w w' := by
  by_cases hg : decide (p.num < 0) = decide (q.num < 0)
  · have h := sumw_same (decide (p.num < 0)) p.num.natAbs p.den q.num.natAbs q.den w hE hp.1 hp.2 hq.1 hq.2 p.den_nz q.den_nz
    rw [sum_same rfl hg rfl rfl, add_mk] at h
    have e : qv q = .agg #[.bool (decide (p.num < 0)), .string (T (some q.num.natAbs)), .string (T (some q.den))] := by rw [hg]; rfl
    rw [e]
    exact h
  · have hne : (decide (p.num < 0) == decide (q.num < 0)) = false := by rw [beq_eq_false_iff_ne]; exact hg
    rcases Nat.lt_or_ge (p.num.natAbs * q.den) (q.num.natAbs * p.den) with hl | hl
    · have h := sumw_less (decide (p.num < 0)) (decide (q.num < 0)) p.num.natAbs p.den q.num.natAbs q.den w hE hp.1 hp.2 hq.1 hq.2 p.den_nz q.den_nz hne hl
      rw [sum_less rfl rfl rfl rfl hg hl, add_mk] at h
      exact h
    · have h := sumw_more (decide (p.num < 0)) (decide (q.num < 0)) p.num.natAbs p.den q.num.natAbs q.den w hE hp.1 hp.2 hq.1 hq.2 p.den_nz q.den_nz hne hl
      rw [sum_more rfl rfl rfl rfl hg hl, add_mk] at h
      exact h

theorem neg_qv (q : Rat) : (.agg #[.bool (!decide (q.num < 0) && !((T (some q.num.natAbs)).toList == [48])), .string (T (some q.num.natAbs)), .string (T (some q.den))] : Value) = qv (-q) := by
  unfold qv
  rw [T_is_zero]
  have e1 : (-q).num = -q.num := rfl
  have e2 : (-q).den = q.den := rfl
  rw [e1, e2, Int.natAbs_neg]
  have e3 : (!decide (q.num < 0) && !decide (q.num.natAbs = 0)) = decide (-q.num < 0) := by
    generalize q.num = z
    rw [Bool.eq_iff_iff]
    simp
    omega
  rw [e3]
theorem opp_q (q : Rat) (w : World) :
    Calls Tryz.prog 77 #[qv q] w fun e w' => e = .returned (qv (-q)) ∧ Below w.heap.size w w' := by
  refine (opp_any (decide (q.num < 0)) (T (some q.num.natAbs)) (T (some q.den)) w).mono ?_
  rintro e w' ⟨rfl, hb⟩
  exact ⟨by rw [neg_qv], hb⟩
theorem ShortQ.neg {q : Rat} (h : ShortQ q) : ShortQ (-q) := ⟨by show (-q.num).natAbs < L1; rw [Int.natAbs_neg]; exact h.1, h.2⟩

/-- The blocks of a function of two numbers. -/
abbrev twoW (w : World) (g1 g2 : Bool) (n1 d1 n2 d2 : ByteArray) : World :=
  ((w.alloc (.cells #[.bool g1, .string n1, .string d1] 49)).alloc (.cells #[.bool g2, .string n2, .string d2] 49)).alloc (.cells #[.bool false, .string ⟨#[]⟩, .string ⟨#[]⟩] 49)
def TwoBoxes (W : World) (B : Nat) (g1 g2 : Bool) (n1 d1 n2 d2 : ByteArray) : Prop := B3 W B g1 n1 d1 ∧ B3 W (B + 1) g2 n2 d2 ∧ B3 W (B + 1 + 1) false ⟨#[]⟩ ⟨#[]⟩
theorem TwoBoxes.new (w : World) (g1 g2 : Bool) (n1 d1 n2 d2 : ByteArray) : TwoBoxes (twoW w g1 g2 n1 d1 n2 d2) w.heap.size g1 g2 n1 d1 n2 d2 := by
  have e1 : (w.alloc (.cells #[.bool g1, .string n1, .string d1] 49)).heap.size = w.heap.size + 1 := by simp
  have e2 : ((w.alloc (.cells #[.bool g1, .string n1, .string d1] 49)).alloc (.cells #[.bool g2, .string n2, .string d2] 49)).heap.size = w.heap.size + 1 + 1 := by simp
  refine ⟨((B3.new w _ _ _).alloc _).alloc _, ?_, ?_⟩
  · have h := B3.new (w.alloc (.cells #[.bool g1, .string n1, .string d1] 49)) g2 n2 d2
    rw [e1] at h
    exact h.alloc _
  · have h := B3.new ((w.alloc (.cells #[.bool g1, .string n1, .string d1] 49)).alloc (.cells #[.bool g2, .string n2, .string d2] 49)) false ⟨#[]⟩ ⟨#[]⟩
    rw [e2] at h
    exact h
theorem twoW_below (w : World) (g1 g2 : Bool) (n1 d1 n2 d2 : ByteArray) : Below w.heap.size w (twoW w g1 g2 n1 d1 n2 d2) :=
  (((Below.refl _ w).alloc (Nat.le_refl _) _).alloc (by simp) _).alloc (by simp; omega) _
theorem TwoBoxes.below {W W' : World} {B : Nat} {g1 g2 : Bool} {n1 d1 n2 d2 : ByteArray} (h : TwoBoxes W B g1 g2 n1 d1 n2 d2) (hb : Below W.heap.size W W') : TwoBoxes W' B g1 g2 n1 d1 n2 d2 := ⟨h.1.below hb, h.2.1.below hb, h.2.2.below hb⟩

theorem TwoBoxes.six {W : World} {B : Nat} {g1 g2 : Bool} {n1 d1 n2 d2 : ByteArray} (h : TwoBoxes W B g1 g2 n1 d1 n2 d2) :
    W.cell? ⟨B, 0, none⟩ = some (.bool g1) ∧ W.cell? ⟨B, 1, none⟩ = some (.string n1) ∧ W.cell? ⟨B, 2, none⟩ = some (.string d1) ∧
    W.cell? ⟨B + 1, 0, none⟩ = some (.bool g2) ∧ W.cell? ⟨B + 1, 1, none⟩ = some (.string n2) ∧ W.cell? ⟨B + 1, 2, none⟩ = some (.string d2) :=
  ⟨h.1.facts.1, h.1.facts.2.1, h.1.facts.2.2.1, h.2.1.facts.1, h.2.1.facts.2.1, h.2.1.facts.2.2.1⟩
theorem TwoBoxes.six_set {W : World} {B : Nat} {g1 g2 : Bool} {n1 d1 n2 d2 : ByteArray} (h : TwoBoxes W B g1 g2 n1 d1 n2 d2) (x y z : Value) :
    (((W.setCell ⟨B + 1 + 1, 0, none⟩ x).setCell ⟨B + 1 + 1, 1, none⟩ y).setCell ⟨B + 1 + 1, 2, none⟩ z).cell? ⟨B, 0, none⟩ = some (.bool g1) ∧ (((W.setCell ⟨B + 1 + 1, 0, none⟩ x).setCell ⟨B + 1 + 1, 1, none⟩ y).setCell ⟨B + 1 + 1, 2, none⟩ z).cell? ⟨B, 1, none⟩ = some (.string n1) ∧ (((W.setCell ⟨B + 1 + 1, 0, none⟩ x).setCell ⟨B + 1 + 1, 1, none⟩ y).setCell ⟨B + 1 + 1, 2, none⟩ z).cell? ⟨B, 2, none⟩ = some (.string d1) ∧
    (((W.setCell ⟨B + 1 + 1, 0, none⟩ x).setCell ⟨B + 1 + 1, 1, none⟩ y).setCell ⟨B + 1 + 1, 2, none⟩ z).cell? ⟨B + 1, 0, none⟩ = some (.bool g2) ∧ (((W.setCell ⟨B + 1 + 1, 0, none⟩ x).setCell ⟨B + 1 + 1, 1, none⟩ y).setCell ⟨B + 1 + 1, 2, none⟩ z).cell? ⟨B + 1, 1, none⟩ = some (.string n2) ∧ (((W.setCell ⟨B + 1 + 1, 0, none⟩ x).setCell ⟨B + 1 + 1, 1, none⟩ y).setCell ⟨B + 1 + 1, 2, none⟩ z).cell? ⟨B + 1, 2, none⟩ = some (.string d2) := by
  obtain ⟨h1, h2, h3, h4, h5, h6⟩ := h.six
  exact ⟨(set3_other _ _ _ _ _ _ _ (by omega)).trans h1, (set3_other _ _ _ _ _ _ _ (by omega)).trans h2, (set3_other _ _ _ _ _ _ _ (by omega)).trans h3, (set3_other _ _ _ _ _ _ _ (by omega)).trans h4, (set3_other _ _ _ _ _ _ _ (by omega)).trans h5, (set3_other _ _ _ _ _ _ _ (by omega)).trans h6⟩

set_option maxRecDepth 100000 in
set_option maxHeartbeats 2000000 in
theorem subc_w (g1 g2 g3 : Bool) (n1 d1 n2 d2 : ByteArray) (r : Bool) (n d : ByteArray) (E : Int) (w : World) (hE : Env w)
    (ho : ∀ W, Calls Tryz.prog 77 #[.agg #[.bool g2, .string n2, .string d2]] W fun e w' => e = .returned (.agg #[.bool g3, .string n2, .string d2]) ∧ Below W.heap.size W w')
    (hc : ∀ W, Env W → Calls Tryz.prog 56 #[.agg #[.bool g1, .string n1, .string d1], .agg #[.bool g3, .string n2, .string d2]] W fun e w' => e = .returned (.tuple #[.agg #[.bool r, .string n, .string d], .int .i64 E]) ∧ Below W.heap.size W w') :
    Calls Tryz.prog 76 #[.agg #[.bool g1, .string n1, .string d1], .agg #[.bool g2, .string n2, .string d2]] w fun e w' => e = .returned (.tuple #[.agg #[.bool r, .string n, .string d], .int .i64 E]) ∧ Below w.heap.size w w' := by
  have hQE := Lib.hid (TwoBoxes.new w g1 g2 n1 d1 n2 d2)
  have hBE := Lib.hid (twoW_below w g1 g2 n1 d1 n2 d2)
  obtain ⟨W0, hW0⟩ : ∃ W0, W0 = twoW w g1 g2 n1 d1 n2 d2 := ⟨_, rfl⟩
  rw [← hW0] at hQE hBE
  simp only [twoW] at hW0
  have q0d : Hid (TwoBoxes W0.drew w.heap.size g1 g2 n1 d1 n2 d2) := hQE.out
  have hB0 : Hid (Below w.heap.size w W0.drew) := hBE.out.drew
  replace hE := Lib.hid hE
  replace hW0 := Lib.hid hW0
  replace ho := Lib.hid ho
  replace hc := Lib.hid hc
  go_enter Tryz.func76, Tryz.ntmps76
  go_wp2_with fail
  rw [← hW0.out]
  obtain ⟨a1, a2, a3, b1, b2, b3⟩ := hQE.out.six
  go_region_held3 (fun w' => w'.cell? ⟨w.heap.size, 0, none⟩ = some (.bool g1) ∧ w'.cell? ⟨w.heap.size, 1, none⟩ = some (.string n1) ∧ w'.cell? ⟨w.heap.size, 2, none⟩ = some (.string d1) ∧ w'.cell? ⟨w.heap.size + 1, 0, none⟩ = some (.bool g2) ∧ w'.cell? ⟨w.heap.size + 1, 1, none⟩ = some (.string n2) ∧ w'.cell? ⟨w.heap.size + 1, 2, none⟩ = some (.string d2)) (first | (with_reducible exact hQE.out.six) | (with_reducible exact q0d.out.six) | (with_reducible exact q2.out.six) | (with_reducible exact q3.out.six) | (with_reducible exact q3.out.six_set _ _ _) | go_keep)
    (first
      | (go_at_call 77; refine (ho.out _).mono ?_; rintro e w2 ⟨rfl, hb2⟩; have q2 := Lib.hid (q0d.out.below hb2); have hB2 := Lib.hid (hB0.out.trans (hb2.mono hB0.out.size)); clear hb2)
      | (go_at_call 56; refine (hc.out _ ?_).mono ?_; (exact hE.out.below hB2.out); rintro e w3 ⟨rfl, hb3⟩; have q3 := Lib.hid (q2.out.below hb3); obtain ⟨c1, c2, c3, c4, c5, c6⟩ := q3.out.2.2.facts; have hB3 := Lib.hid (hB2.out.trans (hb3.mono hB2.out.size)); clear hb3))
  go_wp2
  refine bodyPost_ret (v := .tuple #[.agg #[.bool r, .string n, .string d], .int .i64 E]) (by simp [results, Tryz.results76, go_sem, c1, c2, c3]) rfl ⟨rfl, ?_⟩
  repeat refine Below.setCell ?_ (by simp only []; omega) _
  exact hB3.out

theorem subc_q (p q : Rat) (hp : ShortQ p) (hq : ShortQ q) (w : World) (hE : Env w) :
    Calls Tryz.prog 76 #[qv p, qv q] w fun e w' => e = .returned (.tuple #[qv (p - q), .int .i64 0]) ∧ Below w.heap.size w w' := by
  have hc := fun W (h : Env W) => sum_q p (-q) hp hq.neg W h
  rw [← Rat.sub_eq_add_neg] at hc
  have ho := fun W => opp_q q W
  have e : qv (-q) = .agg #[.bool (decide ((-q).num < 0)), .string (T (some q.num.natAbs)), .string (T (some q.den))] := by
    unfold qv
    rw [show (-q).num.natAbs = q.num.natAbs from Int.natAbs_neg _]
    rfl
  rw [e] at hc ho
  exact subc_w _ _ _ _ _ _ _ _ _ _ _ w hE ho hc

end Nt
end Go.Proofs.YtmekiidknjjfcaaGreatDoor

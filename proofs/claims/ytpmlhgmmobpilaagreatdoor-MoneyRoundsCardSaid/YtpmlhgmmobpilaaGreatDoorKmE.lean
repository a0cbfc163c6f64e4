/- Texts that the proof needs: RatQ, RatRun, RatOps, RatOf, RatText, RatWrap, CirF, MonRateP, MonNames, MonBest, MonKeys, MonValid. -/
import Derived.Deep.RegionHeld3
import Derived.Lib.IndexMore
import Derived.Shelf.Vars
import Derived.SizedLaws
import Derived.Lib.SmallJoins
import Derived.DataShut
import Derived.WideKeyArgs
import Derived.Deep.Slices
import Derived.Deep.Strs
import Derived.DeepKeys4
import Derived.Test.YtpmlhgmmobpilaaGreatDoorKmA
import Derived.Test.YtpmlhgmmobpilaaGreatDoorKmB
import Derived.Test.YtpmlhgmmobpilaaGreatDoorKmC
import Derived.Test.YtpmlhgmmobpilaaGreatDoorKmD
namespace Go.Proofs.YtpmlhgmmobpilaaGreatDoor
open Go.RowKit Go.Shelf
namespace Nt
theorem sum_q (p q : Rat) (hp : ShortQ p) (hq : ShortQ q) (w : World) (hE : Env w) :
    Calls Tryz.prog 58 #[qv p, qv q] w fun e w' => e = .returned (.tuple #[qv (p + q), .int .i64 0]) ∧ Below w.heap.size w w' := by
  by_cases hg : decide (p.num < 0) = decide (q.num < 0)
  · have h := sumw_same (decide (p.num < 0)) p.num.natAbs p.den q.num.natAbs q.den w hE hp.1 hp.2 hq.1 hq.2 p.den_nz q.den_nz
    rw [sum_same rfl hg rfl rfl, add_mk] at h
    have e : qv q = .agg #[.bool (decide (p.num < 0)), .string (T (some q.num.natAbs)), .string (T (some q.den))] := by rw [hg]; rfl
    rw [e]
    exact h
  · have hne : (decide (p.num < 0) == decide (q.num < 0)) = false := by rw [beq_eq_false_iff_ne]; exact hg
    rcases Nat.lt_or_ge (p.num.natAbs * q.den) (q.num.natAbs * p.den) with hl | hl
    · have h := sumw_less (decide (p.num < 0)) (decide (q.num < 0)) p.num.natAbs p.den q.num.natAbs q.den w hE hp.1 hp.2 hq.1 hq.2 p.den_nz q.den_nz hne hl
      rw [sum_less rfl rfl rfl rfl hg hl, add_mk] at h
      exact h
    · have h := sumw_more (decide (p.num < 0)) (decide (q.num < 0)) p.num.natAbs p.den q.num.natAbs q.den w hE hp.1 hp.2 hq.1 hq.2 p.den_nz q.den_nz hne hl
      rw [sum_more rfl rfl rfl rfl hg hl, add_mk] at h
      exact h
theorem product_q (p q : Rat) (hp : ShortQ p) (hq : ShortQ q) (w : World) (hE : Env w) :
    Calls Tryz.prog 56 #[qv p, qv q] w fun e w' => e = .returned (.tuple #[qv (p * q), .int .i64 0]) ∧ Below w.heap.size w w' := by
  have h1 := L1_mul hp.1 hq.1
  have h2 := L1_mul hp.2 hq.2
  have h3 := L1_sq
  have h := product_any (decide (p.num < 0)) (decide (q.num < 0)) p.num.natAbs p.den q.num.natAbs q.den w hE (L1_lim hp.1) (L1_lim hp.2) (L1_lim hq.1) (L1_lim hq.2) (by omega) (by omega) (Nat.mul_ne_zero p.den_nz q.den_nz)
  have e := mul_mk p q
  rw [show (decide (p.num < 0) != decide (q.num < 0)) = !(decide (p.num < 0) == decide (q.num < 0)) from rfl] at e
  rw [e] at h
  exact h
theorem neg_qv (q : Rat) : (.agg #[.bool (!decide (q.num < 0) && !((T (some q.num.natAbs)).toList == [48])), .string (T (some q.num.natAbs)), .string (T (some q.den))] : Value) = qv (-q) := by
  unfold qv
  rw [T_is_zero]
  have e1 : (-q).num = -q.num := rfl
  have e2 : (-q).den = q.den := rfl
  rw [e1, e2, Int.natAbs_neg]
  have e3 : (!decide (q.num < 0) && !decide (q.num.natAbs = 0)) = decide (-q.num < 0) := by
    generalize q.num = z
    rw [Bool.eq_iff_iff]
    simp
    omega
  rw [e3]
theorem opp_q (q : Rat) (w : World) :
    Calls Tryz.prog 68 #[qv q] w fun e w' => e = .returned (qv (-q)) ∧ Below w.heap.size w w' := by
  refine (opp_any (decide (q.num < 0)) (T (some q.num.natAbs)) (T (some q.den)) w).mono ?_
  rintro e w' ⟨rfl, hb⟩
  exact ⟨by rw [neg_qv], hb⟩
theorem ShortQ.neg {q : Rat} (h : ShortQ q) : ShortQ (-q) := ⟨by show (-q.num).natAbs < L1; rw [Int.natAbs_neg]; exact h.1, h.2⟩
/-- The blocks of a function of two numbers. -/
abbrev twoW (w : World) (g1 g2 : Bool) (n1 d1 n2 d2 : ByteArray) : World :=
  ((w.alloc (.cells #[.bool g1, .string n1, .string d1] 23)).alloc (.cells #[.bool g2, .string n2, .string d2] 23)).alloc (.cells #[.bool false, .string ⟨#[]⟩, .string ⟨#[]⟩] 23)
def TwoBoxes (W : World) (B : Nat) (g1 g2 : Bool) (n1 d1 n2 d2 : ByteArray) : Prop := B3 W B g1 n1 d1 ∧ B3 W (B + 1) g2 n2 d2 ∧ B3 W (B + 1 + 1) false ⟨#[]⟩ ⟨#[]⟩
theorem TwoBoxes.new (w : World) (g1 g2 : Bool) (n1 d1 n2 d2 : ByteArray) : TwoBoxes (twoW w g1 g2 n1 d1 n2 d2) w.heap.size g1 g2 n1 d1 n2 d2 := by
  have e1 : (w.alloc (.cells #[.bool g1, .string n1, .string d1] 23)).heap.size = w.heap.size + 1 := by simp
  have e2 : ((w.alloc (.cells #[.bool g1, .string n1, .string d1] 23)).alloc (.cells #[.bool g2, .string n2, .string d2] 23)).heap.size = w.heap.size + 1 + 1 := by simp
  refine ⟨((B3.new w _ _ _).alloc _).alloc _, ?_, ?_⟩
  · have h := B3.new (w.alloc (.cells #[.bool g1, .string n1, .string d1] 23)) g2 n2 d2
    rw [e1] at h
    exact h.alloc _
  · have h := B3.new ((w.alloc (.cells #[.bool g1, .string n1, .string d1] 23)).alloc (.cells #[.bool g2, .string n2, .string d2] 23)) false ⟨#[]⟩ ⟨#[]⟩
    rw [e2] at h
    exact h
theorem twoW_below (w : World) (g1 g2 : Bool) (n1 d1 n2 d2 : ByteArray) : Below w.heap.size w (twoW w g1 g2 n1 d1 n2 d2) :=
  (((Below.refl _ w).alloc (Nat.le_refl _) _).alloc (by simp) _).alloc (by simp; omega) _
theorem TwoBoxes.below {W W' : World} {B : Nat} {g1 g2 : Bool} {n1 d1 n2 d2 : ByteArray} (h : TwoBoxes W B g1 g2 n1 d1 n2 d2) (hb : Below W.heap.size W W') : TwoBoxes W' B g1 g2 n1 d1 n2 d2 := ⟨h.1.below hb, h.2.1.below hb, h.2.2.below hb⟩
theorem TwoBoxes.six {W : World} {B : Nat} {g1 g2 : Bool} {n1 d1 n2 d2 : ByteArray} (h : TwoBoxes W B g1 g2 n1 d1 n2 d2) :
    W.cell? ⟨B, 0, none⟩ = some (.bool g1) ∧ W.cell? ⟨B, 1, none⟩ = some (.string n1) ∧ W.cell? ⟨B, 2, none⟩ = some (.string d1) ∧
    W.cell? ⟨B + 1, 0, none⟩ = some (.bool g2) ∧ W.cell? ⟨B + 1, 1, none⟩ = some (.string n2) ∧ W.cell? ⟨B + 1, 2, none⟩ = some (.string d2) :=
  ⟨h.1.facts.1, h.1.facts.2.1, h.1.facts.2.2.1, h.2.1.facts.1, h.2.1.facts.2.1, h.2.1.facts.2.2.1⟩
theorem TwoBoxes.six_set {W : World} {B : Nat} {g1 g2 : Bool} {n1 d1 n2 d2 : ByteArray} (h : TwoBoxes W B g1 g2 n1 d1 n2 d2) (x y z : Value) :
    (((W.setCell ⟨B + 1 + 1, 0, none⟩ x).setCell ⟨B + 1 + 1, 1, none⟩ y).setCell ⟨B + 1 + 1, 2, none⟩ z).cell? ⟨B, 0, none⟩ = some (.bool g1) ∧ (((W.setCell ⟨B + 1 + 1, 0, none⟩ x).setCell ⟨B + 1 + 1, 1, none⟩ y).setCell ⟨B + 1 + 1, 2, none⟩ z).cell? ⟨B, 1, none⟩ = some (.string n1) ∧ (((W.setCell ⟨B + 1 + 1, 0, none⟩ x).setCell ⟨B + 1 + 1, 1, none⟩ y).setCell ⟨B + 1 + 1, 2, none⟩ z).cell? ⟨B, 2, none⟩ = some (.string d1) ∧
    (((W.setCell ⟨B + 1 + 1, 0, none⟩ x).setCell ⟨B + 1 + 1, 1, none⟩ y).setCell ⟨B + 1 + 1, 2, none⟩ z).cell? ⟨B + 1, 0, none⟩ = some (.bool g2) ∧ (((W.setCell ⟨B + 1 + 1, 0, none⟩ x).setCell ⟨B + 1 + 1, 1, none⟩ y).setCell ⟨B + 1 + 1, 2, none⟩ z).cell? ⟨B + 1, 1, none⟩ = some (.string n2) ∧ (((W.setCell ⟨B + 1 + 1, 0, none⟩ x).setCell ⟨B + 1 + 1, 1, none⟩ y).setCell ⟨B + 1 + 1, 2, none⟩ z).cell? ⟨B + 1, 2, none⟩ = some (.string d2) := by
  obtain ⟨h1, h2, h3, h4, h5, h6⟩ := h.six
  exact ⟨(set3_other _ _ _ _ _ _ _ (by omega)).trans h1, (set3_other _ _ _ _ _ _ _ (by omega)).trans h2, (set3_other _ _ _ _ _ _ _ (by omega)).trans h3, (set3_other _ _ _ _ _ _ _ (by omega)).trans h4, (set3_other _ _ _ _ _ _ _ (by omega)).trans h5, (set3_other _ _ _ _ _ _ _ (by omega)).trans h6⟩
set_option maxRecDepth 100000 in
set_option maxHeartbeats 2000000 in
theorem subc_w (g1 g2 g3 : Bool) (n1 d1 n2 d2 : ByteArray) (r : Bool) (n d : ByteArray) (E : Int) (w : World) (hE : Env w)
    (ho : ∀ W, Calls Tryz.prog 68 #[.agg #[.bool g2, .string n2, .string d2]] W fun e w' => e = .returned (.agg #[.bool g3, .string n2, .string d2]) ∧ Below W.heap.size W w')
    (hc : ∀ W, Env W → Calls Tryz.prog 58 #[.agg #[.bool g1, .string n1, .string d1], .agg #[.bool g3, .string n2, .string d2]] W fun e w' => e = .returned (.tuple #[.agg #[.bool r, .string n, .string d], .int .i64 E]) ∧ Below W.heap.size W w') :
    Calls Tryz.prog 67 #[.agg #[.bool g1, .string n1, .string d1], .agg #[.bool g2, .string n2, .string d2]] w fun e w' => e = .returned (.tuple #[.agg #[.bool r, .string n, .string d], .int .i64 E]) ∧ Below w.heap.size w w' := by
  have hQE := Lib.hid (TwoBoxes.new w g1 g2 n1 d1 n2 d2)
  have hBE := Lib.hid (twoW_below w g1 g2 n1 d1 n2 d2)
  obtain ⟨W0, hW0⟩ : ∃ W0, W0 = twoW w g1 g2 n1 d1 n2 d2 := ⟨_, rfl⟩
  rw [← hW0] at hQE hBE
  simp only [twoW] at hW0
  have q0d : Hid (TwoBoxes W0.drew w.heap.size g1 g2 n1 d1 n2 d2) := hQE.out
  have hB0 : Hid (Below w.heap.size w W0.drew) := hBE.out.drew
  replace hE := Lib.hid hE
  replace hW0 := Lib.hid hW0
  replace ho := Lib.hid ho
  replace hc := Lib.hid hc
  go_enter Tryz.func67, Tryz.ntmps67
  go_wp2_with fail
  rw [← hW0.out]
  obtain ⟨a1, a2, a3, b1, b2, b3⟩ := hQE.out.six
  go_region_held3 (fun w' => w'.cell? ⟨w.heap.size, 0, none⟩ = some (.bool g1) ∧ w'.cell? ⟨w.heap.size, 1, none⟩ = some (.string n1) ∧ w'.cell? ⟨w.heap.size, 2, none⟩ = some (.string d1) ∧ w'.cell? ⟨w.heap.size + 1, 0, none⟩ = some (.bool g2) ∧ w'.cell? ⟨w.heap.size + 1, 1, none⟩ = some (.string n2) ∧ w'.cell? ⟨w.heap.size + 1, 2, none⟩ = some (.string d2)) (first | (with_reducible exact hQE.out.six) | (with_reducible exact q0d.out.six) | (with_reducible exact q2.out.six) | (with_reducible exact q3.out.six) | (with_reducible exact q3.out.six_set _ _ _) | go_keep)
    (first
      | (go_at_call 68; refine (ho.out _).mono ?_; rintro e w2 ⟨rfl, hb2⟩; have q2 := Lib.hid (q0d.out.below hb2); have hB2 := Lib.hid (hB0.out.trans (hb2.mono hB0.out.size)); clear hb2)
      | (go_at_call 58; refine (hc.out _ ?_).mono ?_; (exact hE.out.below hB2.out); rintro e w3 ⟨rfl, hb3⟩; have q3 := Lib.hid (q2.out.below hb3); obtain ⟨c1, c2, c3, c4, c5, c6⟩ := q3.out.2.2.facts; have hB3 := Lib.hid (hB2.out.trans (hb3.mono hB2.out.size)); clear hb3))
  go_wp2
  refine bodyPost_ret (v := .tuple #[.agg #[.bool r, .string n, .string d], .int .i64 E]) (by simp [results, Tryz.results67, go_sem, c1, c2, c3]) rfl ⟨rfl, ?_⟩
  repeat refine Below.setCell ?_ (by simp only []; omega) _
  exact hB3.out
theorem subc_q (p q : Rat) (hp : ShortQ p) (hq : ShortQ q) (w : World) (hE : Env w) :
    Calls Tryz.prog 67 #[qv p, qv q] w fun e w' => e = .returned (.tuple #[qv (p - q), .int .i64 0]) ∧ Below w.heap.size w w' := by
  have hc := fun W (h : Env W) => sum_q p (-q) hp hq.neg W h
  rw [← Rat.sub_eq_add_neg] at hc
  have ho := fun W => opp_q q W
  have e : qv (-q) = .agg #[.bool (decide ((-q).num < 0)), .string (T (some q.num.natAbs)), .string (T (some q.den))] := by
    unfold qv
    rw [show (-q).num.natAbs = q.num.natAbs from Int.natAbs_neg _]
    rfl
  rw [e] at hc ho
  exact subc_w _ _ _ _ _ _ _ _ _ _ _ w hE ho hc
end Nt
end Go.Proofs.YtpmlhgmmobpilaaGreatDoor

namespace Go.Proofs.YtpmlhgmmobpilaaGreatDoor
open Go.RowKit Go.Shelf
namespace Nt
/-- A block that holds an operation. -/
def B2 (W : World) (b : Nat) (z : Bool) (f : Nat) : Prop := W.heap[b]? = some (.cells #[.bool z, .func (.func f) #[] #[]] 81 (0, 0))
theorem B2.lt {W : World} {b : Nat} {z : Bool} {f : Nat} (h : B2 W b z f) : b < W.heap.size := (Array.getElem?_eq_some_iff.1 h).1
theorem B2.facts {W : World} {b : Nat} {z : Bool} {f : Nat} (h : B2 W b z f) : W.cell? ⟨b, 0, none⟩ = some (.bool z) ∧ W.cell? ⟨b, 1, none⟩ = some (.func (.func f) #[] #[]) := by
  unfold B2 at h
  simp [World.cell?, h]
theorem B2.below {W W' : World} {b : Nat} {z : Bool} {f : Nat} (h : B2 W b z f) (hb : Below W.heap.size W W') : B2 W' b z f := (hb.block b h.lt).trans h
/-- The four blocks that run lays. -/
def RunBoxes (W : World) (B : Nat) (z : Bool) (f : Nat) (g1 g2 : Bool) (n1 d1 n2 d2 : ByteArray) : Prop :=
  B2 W B z f ∧ B3 W (B + 1) g1 n1 d1 ∧ B3 W (B + 2) g2 n2 d2 ∧ B3 W (B + 3) false ⟨#[]⟩ ⟨#[]⟩
theorem RunBoxes.new (w : World) (z : Bool) (f : Nat) (g1 g2 : Bool) (n1 d1 n2 d2 : ByteArray) :
    RunBoxes ((((w.alloc (.cells #[.bool z, .func (.func f) #[] #[]] 81)).alloc (.cells #[.bool g1, .string n1, .string d1] 23)).alloc (.cells #[.bool g2, .string n2, .string d2] 23)).alloc (.cells #[.bool false, .string ⟨#[]⟩, .string ⟨#[]⟩] 23)) w.heap.size z f g1 g2 n1 d1 n2 d2 := by
  have e1 : (w.alloc (.cells #[.bool z, .func (.func f) #[] #[]] 81)).heap.size = w.heap.size + 1 := by simp
  have e2 : ((w.alloc (.cells #[.bool z, .func (.func f) #[] #[]] 81)).alloc (.cells #[.bool g1, .string n1, .string d1] 23)).heap.size = w.heap.size + 2 := by simp
  have e3 : (((w.alloc (.cells #[.bool z, .func (.func f) #[] #[]] 81)).alloc (.cells #[.bool g1, .string n1, .string d1] 23)).alloc (.cells #[.bool g2, .string n2, .string d2] 23)).heap.size = w.heap.size + 3 := by simp
  refine ⟨?_, ?_, ?_, ?_⟩
  · unfold B2
    rw [Below.heap_alloc _ _ _ (by rw [e3]; omega), Below.heap_alloc _ _ _ (by rw [e2]; omega), Below.heap_alloc _ _ _ (by rw [e1]; omega)]
    exact heap_alloc_new _ _
  · have h := B3.new (w.alloc (.cells #[.bool z, .func (.func f) #[] #[]] 81)) g1 n1 d1
    rw [e1] at h
    exact (h.alloc _).alloc _
  · have h := B3.new ((w.alloc (.cells #[.bool z, .func (.func f) #[] #[]] 81)).alloc (.cells #[.bool g1, .string n1, .string d1] 23)) g2 n2 d2
    rw [e2] at h
    exact h.alloc _
  · have h := B3.new (((w.alloc (.cells #[.bool z, .func (.func f) #[] #[]] 81)).alloc (.cells #[.bool g1, .string n1, .string d1] 23)).alloc (.cells #[.bool g2, .string n2, .string d2] 23)) false ⟨#[]⟩ ⟨#[]⟩
    rw [e3] at h
    exact h
theorem RunBoxes.below {W W' : World} {B : Nat} {z : Bool} {f : Nat} {g1 g2 : Bool} {n1 d1 n2 d2 : ByteArray} (h : RunBoxes W B z f g1 g2 n1 d1 n2 d2) (hb : Below W.heap.size W W') : RunBoxes W' B z f g1 g2 n1 d1 n2 d2 :=
  ⟨h.1.below hb, h.2.1.below hb, h.2.2.1.below hb, h.2.2.2.below hb⟩
theorem four_below (w : World) (o1 o2 o3 o4 : Obj) : Below w.heap.size w ((((w.alloc o1).alloc o2).alloc o3).alloc o4) :=
  ((((Below.refl _ w).alloc (Nat.le_refl _) _).alloc (by simp) _).alloc (by simp; omega) _).alloc (by simp; omega) _
set_option maxRecDepth 100000 in
set_option maxHeartbeats 2000000 in
theorem run_sum (g1 g2 : Bool) (n1 d1 n2 d2 : ByteArray) (w : World) (hE : Env w) (s1 : n1.size ≤ 140737488355328) (s2 : d1.size ≤ 140737488355328) (s3 : n2.size ≤ 140737488355328) (s4 : d2.size ≤ 140737488355328) (v1 : validB g1 n1 d1 = true) (v2 : validB g2 n2 d2 = true) (l1 : n1.size ≤ 140) (l2 : d1.size ≤ 140) (l3 : n2.size ≤ 140) (l4 : d2.size ≤ 140) (r : Bool) (n d : ByteArray) (E : Int)
    (hf : ∀ W, Env W → Calls Tryz.prog 58 #[.agg #[.bool g1, .string n1, .string d1], .agg #[.bool g2, .string n2, .string d2]] W fun e w' => e = .returned (.tuple #[.agg #[.bool r, .string n, .string d], .int .i64 E]) ∧ Below W.heap.size W w') :
    Calls Tryz.prog 57 #[.agg #[.bool false, .func (.func 58) #[] #[]], .agg #[.bool g1, .string n1, .string d1], .agg #[.bool g2, .string n2, .string d2]] w fun e w' => e = .returned (.tuple #[.agg #[.bool r, .string n, .string d], .int .i64 E]) ∧ Below w.heap.size w w' := by
  have V1 := Lib.hid v1
  clear v1
  have V2 := Lib.hid v2
  clear v2
  have HF := Lib.hid hf
  clear hf
  replace hE := Lib.hid hE
  go_enter Tryz.func57, Tryz.ntmps57
  go_wp2_with fail
  refine (Valid_any g1 n1 d1 _ (hE.out.below (four_below w _ _ _ _)) s1 s2).mono ?_
  rintro e w1 ⟨rfl, hb1⟩
  rw [V1.out]
  have q1 := (RunBoxes.new w _ _ g1 g2 n1 d1 n2 d2).below hb1
  have hB1 := Lib.hid ((four_below w _ _ _ _).trans (hb1.mono (four_below w _ _ _ _).size))
  obtain ⟨a1, a2⟩ := q1.1.facts
  obtain ⟨b1, b2, b3, b4, b5, b6⟩ := q1.2.1.facts
  obtain ⟨c1, c2, c3, c4, c5, c6⟩ := q1.2.2.1.facts
  obtain ⟨d1', d2', d3, d4, d5, d6⟩ := q1.2.2.2.facts
  have hz1 := q1.2.2.2.lt
  replace q1 := Lib.hid q1
  clear hb1
  go_wp2_with fail
  refine (Valid_any g2 n2 d2 _ (hE.out.below hB1.out) s3 s4).mono ?_
  rintro e w2 ⟨rfl, hb2⟩
  rw [V2.out]
  have q2 := q1.out.below hb2
  have hB2 := Lib.hid (hB1.out.trans (hb2.mono hB1.out.size))
  clear a1 a2 b1 b2 b3 b4 b5 b6 c1 c2 c3 c4 c5 c6 d1' d2' d3 d4 d5 d6 hb2 q1
  obtain ⟨a1, a2⟩ := q2.1.facts
  obtain ⟨b1, b2, b3, b4, b5, b6⟩ := q2.2.1.facts
  obtain ⟨c1, c2, c3, c4, c5, c6⟩ := q2.2.2.1.facts
  obtain ⟨d1', d2', d3, d4, d5, d6⟩ := q2.2.2.2.facts
  have hz2 := q2.2.2.2.lt
  replace q2 := Lib.hid q2
  go_wp2_with fail
  refine (HF.out _ (hE.out.below hB2.out)).mono ?_
  rintro e w3 ⟨rfl, hb3⟩
  have q3 := q2.out.below hb3
  have hB3 := Lib.hid (hB2.out.trans (hb3.mono hB2.out.size))
  clear a1 a2 b1 b2 b3 b4 b5 b6 c1 c2 c3 c4 c5 c6 d1' d2' d3 d4 d5 d6 hb3 q2
  obtain ⟨d1', d2', d3, d4, d5, d6⟩ := q3.2.2.2.facts
  have hz3 := q3.2.2.2.lt
  replace q3 := Lib.hid q3
  go_wp2
  refine bodyPost_ret (v := .tuple #[.agg #[.bool r, .string n, .string d], .int .i64 E]) (by simp [results, Tryz.results57, go_sem, d1', d2', d3]) rfl ⟨rfl, ?_⟩
  repeat refine Below.setCell ?_ (by simp only []; omega) _
  exact hB3.out
set_option maxRecDepth 100000 in
set_option maxHeartbeats 2000000 in
theorem run_sub (g1 g2 : Bool) (n1 d1 n2 d2 : ByteArray) (w : World) (hE : Env w) (s1 : n1.size ≤ 140737488355328) (s2 : d1.size ≤ 140737488355328) (s3 : n2.size ≤ 140737488355328) (s4 : d2.size ≤ 140737488355328) (v1 : validB g1 n1 d1 = true) (v2 : validB g2 n2 d2 = true) (l1 : n1.size ≤ 140) (l2 : d1.size ≤ 140) (l3 : n2.size ≤ 140) (l4 : d2.size ≤ 140) (r : Bool) (n d : ByteArray) (E : Int)
    (hf : ∀ W, Env W → Calls Tryz.prog 67 #[.agg #[.bool g1, .string n1, .string d1], .agg #[.bool g2, .string n2, .string d2]] W fun e w' => e = .returned (.tuple #[.agg #[.bool r, .string n, .string d], .int .i64 E]) ∧ Below W.heap.size W w') :
    Calls Tryz.prog 57 #[.agg #[.bool false, .func (.func 67) #[] #[]], .agg #[.bool g1, .string n1, .string d1], .agg #[.bool g2, .string n2, .string d2]] w fun e w' => e = .returned (.tuple #[.agg #[.bool r, .string n, .string d], .int .i64 E]) ∧ Below w.heap.size w w' := by
  have V1 := Lib.hid v1
  clear v1
  have V2 := Lib.hid v2
  clear v2
  have HF := Lib.hid hf
  clear hf
  replace hE := Lib.hid hE
  go_enter Tryz.func57, Tryz.ntmps57
  go_wp2_with fail
  refine (Valid_any g1 n1 d1 _ (hE.out.below (four_below w _ _ _ _)) s1 s2).mono ?_
  rintro e w1 ⟨rfl, hb1⟩
  rw [V1.out]
  have q1 := (RunBoxes.new w _ _ g1 g2 n1 d1 n2 d2).below hb1
  have hB1 := Lib.hid ((four_below w _ _ _ _).trans (hb1.mono (four_below w _ _ _ _).size))
  obtain ⟨a1, a2⟩ := q1.1.facts
  obtain ⟨b1, b2, b3, b4, b5, b6⟩ := q1.2.1.facts
  obtain ⟨c1, c2, c3, c4, c5, c6⟩ := q1.2.2.1.facts
  obtain ⟨d1', d2', d3, d4, d5, d6⟩ := q1.2.2.2.facts
  have hz1 := q1.2.2.2.lt
  replace q1 := Lib.hid q1
  clear hb1
  go_wp2_with fail
  refine (Valid_any g2 n2 d2 _ (hE.out.below hB1.out) s3 s4).mono ?_
  rintro e w2 ⟨rfl, hb2⟩
  rw [V2.out]
  have q2 := q1.out.below hb2
  have hB2 := Lib.hid (hB1.out.trans (hb2.mono hB1.out.size))
  clear a1 a2 b1 b2 b3 b4 b5 b6 c1 c2 c3 c4 c5 c6 d1' d2' d3 d4 d5 d6 hb2 q1
  obtain ⟨a1, a2⟩ := q2.1.facts
  obtain ⟨b1, b2, b3, b4, b5, b6⟩ := q2.2.1.facts
  obtain ⟨c1, c2, c3, c4, c5, c6⟩ := q2.2.2.1.facts
  obtain ⟨d1', d2', d3, d4, d5, d6⟩ := q2.2.2.2.facts
  have hz2 := q2.2.2.2.lt
  replace q2 := Lib.hid q2
  go_wp2_with fail
  refine (HF.out _ (hE.out.below hB2.out)).mono ?_
  rintro e w3 ⟨rfl, hb3⟩
  have q3 := q2.out.below hb3
  have hB3 := Lib.hid (hB2.out.trans (hb3.mono hB2.out.size))
  clear a1 a2 b1 b2 b3 b4 b5 b6 c1 c2 c3 c4 c5 c6 d1' d2' d3 d4 d5 d6 hb3 q2
  obtain ⟨d1', d2', d3, d4, d5, d6⟩ := q3.2.2.2.facts
  have hz3 := q3.2.2.2.lt
  replace q3 := Lib.hid q3
  go_wp2
  refine bodyPost_ret (v := .tuple #[.agg #[.bool r, .string n, .string d], .int .i64 E]) (by simp [results, Tryz.results57, go_sem, d1', d2', d3]) rfl ⟨rfl, ?_⟩
  repeat refine Below.setCell ?_ (by simp only []; omega) _
  exact hB3.out
set_option maxRecDepth 100000 in
set_option maxHeartbeats 2000000 in
theorem run_product (g1 g2 : Bool) (n1 d1 n2 d2 : ByteArray) (w : World) (hE : Env w) (s1 : n1.size ≤ 140737488355328) (s2 : d1.size ≤ 140737488355328) (s3 : n2.size ≤ 140737488355328) (s4 : d2.size ≤ 140737488355328) (v1 : validB g1 n1 d1 = true) (v2 : validB g2 n2 d2 = true) (l1 : n1.size ≤ 140) (l2 : d1.size ≤ 140) (l3 : n2.size ≤ 140) (l4 : d2.size ≤ 140) (r : Bool) (n d : ByteArray) (E : Int)
    (hf : ∀ W, Env W → Calls Tryz.prog 56 #[.agg #[.bool g1, .string n1, .string d1], .agg #[.bool g2, .string n2, .string d2]] W fun e w' => e = .returned (.tuple #[.agg #[.bool r, .string n, .string d], .int .i64 E]) ∧ Below W.heap.size W w') :
    Calls Tryz.prog 57 #[.agg #[.bool false, .func (.func 56) #[] #[]], .agg #[.bool g1, .string n1, .string d1], .agg #[.bool g2, .string n2, .string d2]] w fun e w' => e = .returned (.tuple #[.agg #[.bool r, .string n, .string d], .int .i64 E]) ∧ Below w.heap.size w w' := by
  have V1 := Lib.hid v1
  clear v1
  have V2 := Lib.hid v2
  clear v2
  have HF := Lib.hid hf
  clear hf
  replace hE := Lib.hid hE
  go_enter Tryz.func57, Tryz.ntmps57
  go_wp2_with fail
  refine (Valid_any g1 n1 d1 _ (hE.out.below (four_below w _ _ _ _)) s1 s2).mono ?_
  rintro e w1 ⟨rfl, hb1⟩
  rw [V1.out]
  have q1 := (RunBoxes.new w _ _ g1 g2 n1 d1 n2 d2).below hb1
  have hB1 := Lib.hid ((four_below w _ _ _ _).trans (hb1.mono (four_below w _ _ _ _).size))
  obtain ⟨a1, a2⟩ := q1.1.facts
  obtain ⟨b1, b2, b3, b4, b5, b6⟩ := q1.2.1.facts
  obtain ⟨c1, c2, c3, c4, c5, c6⟩ := q1.2.2.1.facts
  obtain ⟨d1', d2', d3, d4, d5, d6⟩ := q1.2.2.2.facts
  have hz1 := q1.2.2.2.lt
  replace q1 := Lib.hid q1
  clear hb1
  go_wp2_with fail
  refine (Valid_any g2 n2 d2 _ (hE.out.below hB1.out) s3 s4).mono ?_
  rintro e w2 ⟨rfl, hb2⟩
  rw [V2.out]
  have q2 := q1.out.below hb2
  have hB2 := Lib.hid (hB1.out.trans (hb2.mono hB1.out.size))
  clear a1 a2 b1 b2 b3 b4 b5 b6 c1 c2 c3 c4 c5 c6 d1' d2' d3 d4 d5 d6 hb2 q1
  obtain ⟨a1, a2⟩ := q2.1.facts
  obtain ⟨b1, b2, b3, b4, b5, b6⟩ := q2.2.1.facts
  obtain ⟨c1, c2, c3, c4, c5, c6⟩ := q2.2.2.1.facts
  obtain ⟨d1', d2', d3, d4, d5, d6⟩ := q2.2.2.2.facts
  have hz2 := q2.2.2.2.lt
  replace q2 := Lib.hid q2
  go_wp2_with fail
  refine (HF.out _ (hE.out.below hB2.out)).mono ?_
  rintro e w3 ⟨rfl, hb3⟩
  have q3 := q2.out.below hb3
  have hB3 := Lib.hid (hB2.out.trans (hb3.mono hB2.out.size))
  clear a1 a2 b1 b2 b3 b4 b5 b6 c1 c2 c3 c4 c5 c6 d1' d2' d3 d4 d5 d6 hb3 q2
  obtain ⟨d1', d2', d3, d4, d5, d6⟩ := q3.2.2.2.facts
  have hz3 := q3.2.2.2.lt
  replace q3 := Lib.hid q3
  go_wp2
  refine bodyPost_ret (v := .tuple #[.agg #[.bool r, .string n, .string d], .int .i64 E]) (by simp [results, Tryz.results57, go_sem, d1', d2', d3]) rfl ⟨rfl, ?_⟩
  repeat refine Below.setCell ?_ (by simp only []; omega) _
  exact hB3.out
end Nt
end Go.Proofs.YtpmlhgmmobpilaaGreatDoor

namespace Go.Proofs.YtpmlhgmmobpilaaGreatDoor
open Go.RowKit Go.Shelf
namespace Nt
theorem short_sizes {q : Rat} (h : ShortQ q) : (T (some q.num.natAbs)).size ≤ 140 ∧ (T (some q.den)).size ≤ 140 := ⟨(size_L1 _).2 h.1, (size_L1 _).2 h.2⟩
theorem num_ne_zero {q : Rat} (h : q ≠ 0) : q.num ≠ 0 := fun e => h (Rat.num_eq_zero.1 e)
set_option maxRecDepth 100000 in
set_option maxHeartbeats 1000000 in
theorem Add_w (g1 g2 : Bool) (n1 d1 n2 d2 : ByteArray) (r : Bool) (n d : ByteArray) (E : Int) (w : World) (hE : Env w)
    (hr : ∀ W, Env W → Calls Tryz.prog 57 #[.agg #[.bool false, .func (.func 58) #[] #[]], .agg #[.bool g1, .string n1, .string d1], .agg #[.bool g2, .string n2, .string d2]] W fun e w' => e = .returned (.tuple #[.agg #[.bool r, .string n, .string d], .int .i64 E]) ∧ Below W.heap.size W w') :
    Calls Tryz.prog 20 #[.agg #[.bool g1, .string n1, .string d1], .agg #[.bool g2, .string n2, .string d2]] w fun e w' => e = .returned (.tuple #[.agg #[.bool r, .string n, .string d], .int .i64 E]) ∧ Below w.heap.size w w' := by
  have hQE := Lib.hid (TwoBoxes.new w g1 g2 n1 d1 n2 d2)
  have hBE := Lib.hid (twoW_below w g1 g2 n1 d1 n2 d2)
  replace hE := Lib.hid hE
  replace hr := Lib.hid hr
  go_enter Tryz.func20, Tryz.ntmps20
  go_wp2_with fail
  refine (hr.out _ (hE.out.below hBE.out)).mono ?_
  rintro e w1 ⟨rfl, hb1⟩
  have q1 := hQE.out.below hb1
  have hB1 := Lib.hid (hBE.out.trans (hb1.mono hBE.out.size))
  obtain ⟨c1, c2, c3, c4, c5, c6⟩ := q1.2.2.facts
  have hz1 := q1.2.2.lt
  clear hb1
  replace q1 := Lib.hid q1
  go_wp2
  refine bodyPost_ret (v := .tuple #[.agg #[.bool r, .string n, .string d], .int .i64 E]) (by simp [results, Tryz.results20, go_sem, c1, c2, c3]) rfl ⟨rfl, ?_⟩
  repeat refine Below.setCell ?_ (by simp only []; omega) _
  exact hB1.out
theorem Add_short (p q : Rat) (hp : ShortQ p) (hq : ShortQ q) (w : World) (hE : Env w) :
    Calls Tryz.prog 20 #[qv p, qv q] w fun e w' => e = .returned (.tuple #[qv (p + q), .int .i64 0]) ∧ Below w.heap.size w w' := by
  have l1 := short_sizes hp
  have l2 := short_sizes hq
  refine Add_w _ _ _ _ _ _ _ _ _ _ w hE fun W hW => ?_
  exact run_sum _ _ _ _ _ _ W hW (by omega) (by omega) (by omega) (by omega) (valid_qv hp.ok) (valid_qv hq.ok) l1.1 l1.2 l2.1 l2.2 _ _ _ _ fun W2 h2 => sum_q p q hp hq W2 h2
set_option maxRecDepth 100000 in
set_option maxHeartbeats 1000000 in
theorem Sub_w (g1 g2 : Bool) (n1 d1 n2 d2 : ByteArray) (r : Bool) (n d : ByteArray) (E : Int) (w : World) (hE : Env w)
    (hr : ∀ W, Env W → Calls Tryz.prog 57 #[.agg #[.bool false, .func (.func 67) #[] #[]], .agg #[.bool g1, .string n1, .string d1], .agg #[.bool g2, .string n2, .string d2]] W fun e w' => e = .returned (.tuple #[.agg #[.bool r, .string n, .string d], .int .i64 E]) ∧ Below W.heap.size W w') :
    Calls Tryz.prog 24 #[.agg #[.bool g1, .string n1, .string d1], .agg #[.bool g2, .string n2, .string d2]] w fun e w' => e = .returned (.tuple #[.agg #[.bool r, .string n, .string d], .int .i64 E]) ∧ Below w.heap.size w w' := by
  have hQE := Lib.hid (TwoBoxes.new w g1 g2 n1 d1 n2 d2)
  have hBE := Lib.hid (twoW_below w g1 g2 n1 d1 n2 d2)
  replace hE := Lib.hid hE
  replace hr := Lib.hid hr
  go_enter Tryz.func24, Tryz.ntmps24
  go_wp2_with fail
  refine (hr.out _ (hE.out.below hBE.out)).mono ?_
  rintro e w1 ⟨rfl, hb1⟩
  have q1 := hQE.out.below hb1
  have hB1 := Lib.hid (hBE.out.trans (hb1.mono hBE.out.size))
  obtain ⟨c1, c2, c3, c4, c5, c6⟩ := q1.2.2.facts
  have hz1 := q1.2.2.lt
  clear hb1
  replace q1 := Lib.hid q1
  go_wp2
  refine bodyPost_ret (v := .tuple #[.agg #[.bool r, .string n, .string d], .int .i64 E]) (by simp [results, Tryz.results24, go_sem, c1, c2, c3]) rfl ⟨rfl, ?_⟩
  repeat refine Below.setCell ?_ (by simp only []; omega) _
  exact hB1.out
theorem Sub_short (p q : Rat) (hp : ShortQ p) (hq : ShortQ q) (w : World) (hE : Env w) :
    Calls Tryz.prog 24 #[qv p, qv q] w fun e w' => e = .returned (.tuple #[qv (p - q), .int .i64 0]) ∧ Below w.heap.size w w' := by
  have l1 := short_sizes hp
  have l2 := short_sizes hq
  refine Sub_w _ _ _ _ _ _ _ _ _ _ w hE fun W hW => ?_
  exact run_sub _ _ _ _ _ _ W hW (by omega) (by omega) (by omega) (by omega) (valid_qv hp.ok) (valid_qv hq.ok) l1.1 l1.2 l2.1 l2.2 _ _ _ _ fun W2 h2 => subc_q p q hp hq W2 h2
set_option maxRecDepth 100000 in
set_option maxHeartbeats 1000000 in
theorem Mul_w (g1 g2 : Bool) (n1 d1 n2 d2 : ByteArray) (r : Bool) (n d : ByteArray) (E : Int) (w : World) (hE : Env w)
    (hr : ∀ W, Env W → Calls Tryz.prog 57 #[.agg #[.bool false, .func (.func 56) #[] #[]], .agg #[.bool g1, .string n1, .string d1], .agg #[.bool g2, .string n2, .string d2]] W fun e w' => e = .returned (.tuple #[.agg #[.bool r, .string n, .string d], .int .i64 E]) ∧ Below W.heap.size W w') :
    Calls Tryz.prog 19 #[.agg #[.bool g1, .string n1, .string d1], .agg #[.bool g2, .string n2, .string d2]] w fun e w' => e = .returned (.tuple #[.agg #[.bool r, .string n, .string d], .int .i64 E]) ∧ Below w.heap.size w w' := by
  have hQE := Lib.hid (TwoBoxes.new w g1 g2 n1 d1 n2 d2)
  have hBE := Lib.hid (twoW_below w g1 g2 n1 d1 n2 d2)
  replace hE := Lib.hid hE
  replace hr := Lib.hid hr
  go_enter Tryz.func19, Tryz.ntmps19
  go_wp2_with fail
  refine (hr.out _ (hE.out.below hBE.out)).mono ?_
  rintro e w1 ⟨rfl, hb1⟩
  have q1 := hQE.out.below hb1
  have hB1 := Lib.hid (hBE.out.trans (hb1.mono hBE.out.size))
  obtain ⟨c1, c2, c3, c4, c5, c6⟩ := q1.2.2.facts
  have hz1 := q1.2.2.lt
  clear hb1
  replace q1 := Lib.hid q1
  go_wp2
  refine bodyPost_ret (v := .tuple #[.agg #[.bool r, .string n, .string d], .int .i64 E]) (by simp [results, Tryz.results19, go_sem, c1, c2, c3]) rfl ⟨rfl, ?_⟩
  repeat refine Below.setCell ?_ (by simp only []; omega) _
  exact hB1.out
theorem Mul_short (p q : Rat) (hp : ShortQ p) (hq : ShortQ q) (w : World) (hE : Env w) :
    Calls Tryz.prog 19 #[qv p, qv q] w fun e w' => e = .returned (.tuple #[qv (p * q), .int .i64 0]) ∧ Below w.heap.size w w' := by
  have l1 := short_sizes hp
  have l2 := short_sizes hq
  refine Mul_w _ _ _ _ _ _ _ _ _ _ w hE fun W hW => ?_
  exact run_product _ _ _ _ _ _ W hW (by omega) (by omega) (by omega) (by omega) (valid_qv hp.ok) (valid_qv hq.ok) l1.1 l1.2 l2.1 l2.2 _ _ _ _ fun W2 h2 => product_q p q hp hq W2 h2
def cmpQ (p q : Rat) : Int := if p < q then -1 else if p = q then 0 else 1
theorem neg_iff (q : Rat) : q.num < 0 ↔ q < 0 := by
  rw [Rat.lt_iff]
  show _ ↔ q.num * 1 < 0 * _
  omega
theorem sub_neg_iff (p q : Rat) : (p - q).num < 0 ↔ p < q := by
  rw [neg_iff, Rat.sub_lt_iff, Rat.zero_add]
theorem sub_zero_iff (p q : Rat) : p - q = 0 ↔ p = q := by
  constructor
  · intro h
    have e : p - q + q = 0 + q := congrArg (· + q) h
    rwa [Rat.sub_add_cancel, Rat.zero_add] at e
  · intro h; rw [h]; exact Rat.sub_self
set_option maxRecDepth 100000 in
set_option maxHeartbeats 1000000 in
theorem Compare_w (g1 g2 : Bool) (n1 d1 n2 d2 : ByteArray) (r : Bool) (n d : ByteArray) (E c f : Int) (w : World) (hE : Env w)
    (hs : ∀ W, Env W → Calls Tryz.prog 24 #[.agg #[.bool g1, .string n1, .string d1], .agg #[.bool g2, .string n2, .string d2]] W fun e w' => e = .returned (.tuple #[.agg #[.bool r, .string n, .string d], .int .i64 E]) ∧ Below W.heap.size W w')
    (hk : (E ≠ 0 ∧ c = 0 ∧ f = E) ∨ (E = 0 ∧ r = true ∧ c = -1 ∧ f = 0) ∨ (E = 0 ∧ r = false ∧ (n.toList == [48]) = true ∧ c = 0 ∧ f = 0) ∨ (E = 0 ∧ r = false ∧ (n.toList == [48]) = false ∧ c = 1 ∧ f = 0)) :
    Calls Tryz.prog 25 #[.agg #[.bool g1, .string n1, .string d1], .agg #[.bool g2, .string n2, .string d2]] w fun e w' => e = .returned (.tuple #[.int .i64 c, .int .i64 f]) ∧ Below w.heap.size w w' := by
  have hBE : Hid (Below w.heap.size w ((w.alloc (.cells #[.bool g1, .string n1, .string d1] 23)).alloc (.cells #[.bool g2, .string n2, .string d2] 23))) := ((Below.refl _ w).alloc (Nat.le_refl _) _).alloc (by simp) _
  replace hE := Lib.hid hE
  replace hs := Lib.hid hs
  rcases hk with ⟨h1, rfl, rfl⟩ | ⟨rfl, rfl, rfl, rfl⟩ | ⟨rfl, rfl, h1, rfl, rfl⟩ | ⟨rfl, rfl, h1, rfl, rfl⟩
  rotate_left
  all_goals
    go_enter Tryz.func25, Tryz.ntmps25
    go_wp2_with fail
    refine (hs.out _ (hE.out.below hBE.out)).mono ?_
    rintro e w1 ⟨rfl, hb1⟩
    have hB1 := Lib.hid (hBE.out.trans (hb1.mono hBE.out.size))
    clear hb1
    go_wp2
    go_ret2
    exact ⟨rfl, hB1.out.alloc hB1.out.size _⟩
theorem Compare_short (p q : Rat) (hp : ShortQ p) (hq : ShortQ q) (w : World) (hE : Env w) :
    Calls Tryz.prog 25 #[qv p, qv q] w fun e w' => e = .returned (.tuple #[.int .i64 (cmpQ p q), .int .i64 0]) ∧ Below w.heap.size w w' := by
  refine Compare_w _ _ _ _ _ _ _ _ _ 0 (cmpQ p q) 0 w hE (fun W hW => Sub_short p q hp hq W hW) ?_
  unfold cmpQ
  rw [T_is_zero]
  by_cases h1 : p < q
  · exact .inr (.inl ⟨rfl, decide_eq_true ((sub_neg_iff p q).2 h1), if_pos h1, rfl⟩)
  · have hn := (not_congr (sub_neg_iff p q)).2 h1
    rw [if_neg h1]
    by_cases h2 : p = q
    · refine .inr (.inr (.inl ⟨rfl, decide_eq_false hn, ?_, if_pos h2, rfl⟩))
      rw [(sub_zero_iff p q).2 h2]
      rfl
    · refine .inr (.inr (.inr ⟨rfl, decide_eq_false hn, ?_, if_neg h2, rfl⟩))
      have h3 := num_ne_zero (fun h => h2 ((sub_zero_iff p q).1 h))
      exact decide_eq_false (by omega)
end Nt
end Go.Proofs.YtpmlhgmmobpilaaGreatDoor

namespace Go.Proofs.YtpmlhgmmobpilaaGreatDoor
open Go.RowKit Go.Shelf
namespace Nt
theorem trim_minus (n : Int) : Lib.trimPrefix (Lib.itoa n) [45] = Lib.decDigits n.natAbs := by
  unfold Lib.itoa
  by_cases h : n < 0
  · rw [if_pos h]
    simp [Lib.trimPrefix, Lib.hasPrefix]
  · rw [if_neg h]
    have e : n.toNat = n.natAbs := by omega
    rw [e]
    unfold Lib.trimPrefix Lib.hasPrefix
    rw [if_neg]
    intro hp
    have hd := decDigits_dig n.natAbs
    cases hl : Lib.decDigits n.natAbs with
    | nil => exact decDigits_ne _ hl
    | cons c r =>
      rw [hl] at hp hd
      simp at hp
      have := (hd c (by simp)).1
      rw [← hp] at this
      revert this
      decide
/-- The size of an int as a text. -/
theorem size_any (n : Int) (h0 : -9223372036854775808 ≤ n) (h1 : n ≤ 9223372036854775807) (w : World) (hE : Env w) :
    Calls Tryz.prog 95 #[.int .i64 n] w fun e w' => e = .returned (.string (T (some n.natAbs))) ∧ Below w.heap.size w w' := by
  have hi := itoa_any n h0 h1 w hE.tab
  have ht := fun W => Tryz.strings_TrimPrefix ⟨(Lib.itoa n).toArray⟩ ⟨#[45]⟩ W
  have e : (⟨(Lib.trimPrefix (⟨(Lib.itoa n).toArray⟩ : ByteArray).data.toList (⟨#[45]⟩ : ByteArray).data.toList).toArray⟩ : ByteArray) = T (some n.natAbs) := by
    show (⟨(Lib.trimPrefix (Lib.itoa n) [45]).toArray⟩ : ByteArray) = _
    rw [trim_minus]
    rfl
  rw [e] at ht
  clear e
  go_enter Tryz.func95, Tryz.ntmps95
  go_wp2_with fail
  refine hi.mono ?_
  rintro e w1 ⟨rfl, hb1⟩
  replace hb1 := Lib.hid hb1
  go_wp2_with fail
  refine (ht _).mono ?_
  rintro e w2 ⟨rfl, hw2⟩
  subst hw2
  go_wp2
  go_ret
  exact ⟨rfl, hb1.out⟩
theorem one_below (w : World) (o : Obj) : Below w.heap.size w (w.alloc o) := (Below.refl _ w).alloc (Nat.le_refl _) _
theorem int_abs_lim {n : Int} (h0 : -9223372036854775808 ≤ n) (h1 : n ≤ 9223372036854775807) : n.natAbs < L1 := by
  have h : 10 ^ 20 ≤ L1 := Nat.pow_le_pow_right (by omega) (by rw [mx1_eq]; omega)
  omega
/-- The quotient of two ints, as a row of fields. -/
theorem Of_w (m n : Int) (hm0 : -9223372036854775808 ≤ m) (hm1 : m ≤ 9223372036854775807) (hn0 : -9223372036854775808 ≤ n) (hn1 : n ≤ 9223372036854775807) (h0 : n ≠ 0) (r : Bool) (x y : ByteArray) (w : World) (hE : Env w)
    (hl : ∀ W, Env W → Calls Tryz.prog 97 #[.bool (!(decide (m < 0) == decide (n < 0))), .string (T (some m.natAbs)), .string (T (some n.natAbs))] W fun e w' => e = .returned (.tuple #[.agg #[.bool r, .string x, .string y], .int .i64 0]) ∧ Below W.heap.size W w') :
    Calls Tryz.prog 46 #[.int .i64 m, .int .i64 n] w fun e w' => e = .returned (.tuple #[.agg #[.bool r, .string x, .string y], .int .i64 0]) ∧ Below w.heap.size w w' := by
  have hz : (n == 0) = false := by rw [beq_eq_false_iff_ne]; exact h0
  have c1 := fun W (h : Env W) => size_any m hm0 hm1 W h
  have c2 := fun W (h : Env W) => size_any n hn0 hn1 W h
  replace hE := Lib.hid hE
  replace hl := Lib.hid hl
  replace h0 := Lib.hid h0
  clear hm0 hm1 hn0 hn1
  go_enter Tryz.func46, Tryz.ntmps46
  go_wp2_with fail
  refine (c1 _ (hE.out.below (one_below _ _))).mono ?_
  rintro e w1 ⟨rfl, hb1⟩
  have q1 := (B3.new w false ⟨#[]⟩ ⟨#[]⟩).below hb1
  have hB1 := Lib.hid ((one_below w (.cells #[.bool false, .string ⟨#[]⟩, .string ⟨#[]⟩] 23)).trans (hb1.mono (by simp)))
  clear hb1
  replace q1 := Lib.hid q1
  go_wp2_with fail
  refine (c2 _ (hE.out.below hB1.out)).mono ?_
  rintro e w2 ⟨rfl, hb2⟩
  have q2 := q1.out.below hb2
  have hB2 := Lib.hid (hB1.out.trans (hb2.mono hB1.out.size))
  clear hb2
  replace q2 := Lib.hid q2
  go_wp2_with fail
  refine (hl.out _ (hE.out.below hB2.out)).mono ?_
  rintro e w3 ⟨rfl, hb3⟩
  have q3 := q2.out.below hb3
  have hB3 := Lib.hid (hB2.out.trans (hb3.mono hB2.out.size))
  obtain ⟨d1, d2, d3, d4, d5, d6⟩ := q3.facts
  have hz3 := q3.lt
  clear hb3
  replace q3 := Lib.hid q3
  go_wp2
  refine bodyPost_ret (v := .tuple #[.agg #[.bool r, .string x, .string y], .int .i64 0]) (by simp [results, Tryz.results46, go_sem, d1, d2, d3]) rfl ⟨rfl, ?_⟩
  repeat refine Below.setCell ?_ (by simp only []; omega) _
  exact hB3.out
/-- The rational number m / n. -/
def ofQ (m n : Int) : Rat := mkRat (sg (!(decide (m < 0) == decide (n < 0))) m.natAbs) n.natAbs
theorem RatOf_any (m n : Int) (hm0 : -9223372036854775808 ≤ m) (hm1 : m ≤ 9223372036854775807) (hn0 : -9223372036854775808 ≤ n) (hn1 : n ≤ 9223372036854775807) (h0 : n ≠ 0) (w : World) (hE : Env w) :
    Calls Tryz.prog 46 #[.int .i64 m, .int .i64 n] w fun e w' => e = .returned (.tuple #[qv (ofQ m n), .int .i64 0]) ∧ Below w.heap.size w w' :=
  Of_w m n hm0 hm1 hn0 hn1 h0 _ _ _ w hE fun W hW => lowest_any _ m.natAbs n.natAbs W hW (L1_lim (int_abs_lim hm0 hm1)) (L1_lim (int_abs_lim hn0 hn1)) (by omega)
end Nt
end Go.Proofs.YtpmlhgmmobpilaaGreatDoor

namespace Go.Proofs.YtpmlhgmmobpilaaGreatDoor
open Go.RowKit Go.Shelf
namespace Nt
/-- What the functions of this package ask of a world. -/
def REnv (w : World) : Prop := Env w ∧ ∃ m : Int, w.cell? ⟨0, 0, none⟩ = some (.int .i64 m)
theorem REnv.lt {w : World} (h : REnv w) : 0 < w.heap.size := by
  obtain ⟨_, m, hm⟩ := h
  exact World.block_lt_of_cell? w _ hm
theorem REnv.below {w w' : World} (h : REnv w) (hb : Below w.heap.size w w') : REnv w' := by
  have hl := h.lt
  obtain ⟨h1, m, hm⟩ := h
  exact ⟨h1.below hb, m, (hb.cell (p := ⟨0, 0, none⟩) hl).trans hm⟩
end Nt
end Go.Proofs.YtpmlhgmmobpilaaGreatDoor

namespace Go.Proofs.YtpmlhgmmobpilaaGreatDoor
open Go.ChangeShapes Go.WideShapes Go.ChangeAt Go.RowKit Go.Shelf Go.Joins
namespace Nt
theorem wf_inQ {k : IntKind} {n : Int} (h : (Lit.int k n).wf = true) : k.min ≤ n ∧ n ≤ k.max := by simpa [Lit.wf] using h
section
variable {H : Type} {enc : TypeId × Value → H} {w : World} {base : Nat} {spare : Nat → Bool} {held : Bool}
set_option maxRecDepth 100000 in
theorem cells_q : Tryz.prog.cellsOf 23 = 3 := by kernel_rfl
set_option maxRecDepth 100000 in
theorem open_q {r : Reach} {b0 : Nat} {v : Value} {d : DataW H} {p : List MemPlace} (hv : Value.okWide Tryz.prog w r b0 23 v) (h : DataW.Trod enc Tryz.prog w base spare held 23 v d p) :
    ∃ (g : Bool) (n e : ByteArray), v = .agg #[.bool g, .string n, .string e] ∧ d = .agg [.lit (.bool g), .lit (.string n.data.toList), .lit (.string e.data.toList)] ∧ p = [] ∧ n.size ≤ maxLen ∧ e.size ≤ maxLen := by
  obtain ⟨c0, c1, c2, y0, y1, y2, m, rfl, rfl, rfl, hy0, hy1, hy2⟩ := open_agg3 Tryz.underlying23 (by kernel_rfl) cells_q hv h
  obtain ⟨g, e0, rfl⟩ := DataW.trod_bool Tryz.underlying4 hy0
  obtain ⟨n, e1, rfl, wn⟩ := DataW.trod_string Tryz.underlying9 hy1
  obtain ⟨d, e2, rfl, wd⟩ := DataW.trod_string Tryz.underlying9 hy2
  simp at e0 e1 e2
  subst e0 e1 e2
  exact ⟨g, n, d, rfl, rfl, rfl, wn, wd⟩
end
set_option maxRecDepth 100000 in
theorem size_q {H : Type} {ts : List TypeId} {ds : List (DataW H)} {j : Nat} {g : Bool} {n e : ByteArray} (hsz : (DataW.weightsEach Tryz.prog ts ds).all (· ≤ reachBytes) = true) (ht : ts[j]? = some 23)
    (hd : ds[j]? = some (.agg [.lit (.bool g), .lit (.string n.data.toList), .lit (.string e.data.toList)])) : n.size ≤ 140737488355328 ∧ e.size ≤ 140737488355328 := by
  have hm := DataW.weights_mem_each (P := Tryz.prog) ht hd
  have h1 : n.data.toList.length ≤ 140737488351232 := of_decide_eq_true (List.all_eq_true.1 hsz _ (hm _ (by simp [DataW.weights, DataW.weightsEach, Tryz.underlying23])))
  have h2 : e.data.toList.length ≤ 140737488351232 := of_decide_eq_true (List.all_eq_true.1 hsz _ (hm _ (by simp [DataW.weights, DataW.weightsEach, Tryz.underlying23])))
  have z1 : n.size = n.data.toList.length := Lib.size_eq _
  have z2 : e.size = e.data.toList.length := Lib.size_eq _
  omega
end Nt
end Go.Proofs.YtpmlhgmmobpilaaGreatDoor

namespace Go.Proofs.YtpmlhgmmobpilaaGreatDoor
open Go.RowKit Go.Shelf
namespace Ci
open Nt
def b1 : ByteArray := ⟨#[49]⟩
def b2 : ByteArray := ⟨#[50]⟩
end Ci
end Go.Proofs.YtpmlhgmmobpilaaGreatDoor
namespace Go.Proofs.YtpmlhgmmobpilaaGreatDoor
open Go.RowKit Go.Shelf
namespace Ci
open Nt
def gH (x : Nat) : Nat := if x ≤ 1 then 0 else x
end Ci
end Go.Proofs.YtpmlhgmmobpilaaGreatDoor
namespace Go.Proofs.YtpmlhgmmobpilaaGreatDoor
open Go.RowKit Go.Shelf
namespace Ci
open Nt
theorem InLs.below {W W' : World} {A : Option Addr} {l : List (Option Addr × Nat × List Int)} (h : InLs W A l) (hb : Below W.heap.size W W') : InLs W' A l := fun h0 => by
  obtain ⟨b, off, e, hl, hc⟩ := h h0
  exact ⟨b, off, e, Nat.lt_of_lt_of_le hl hb.size, fun j hj => ⟨(hb.cell (p := ⟨b, _, none⟩) hl).trans (hc j hj).1, (hc j hj).2.1.below hb, (hc j hj).2.2⟩⟩
end Ci
end Go.Proofs.YtpmlhgmmobpilaaGreatDoor
namespace Go.Proofs.YtpmlhgmmobpilaaGreatDoor
open Go.ChangeShapes Go.WideShapes Go.ChangeAt Go.RowKit Go.Shelf Go.Joins Go.Deep
namespace Ci
open Nt
def in64 (x : Int) : Prop := -9223372036854775808 ≤ x ∧ x ≤ 9223372036854775807
def intD {H : Type} (x : Int) : DataW H := .lit (.int .i64 x)
/-- A slice's datum. -/
def isSl {H α : Type} (f : α → DataW H) (l : List α) (d : DataW H) : Prop := (d = .nil ∧ l = []) ∨ ∃ rest, d = .slice (l.map f) rest
section
variable {H : Type} {enc : TypeId × Value → H} {w : World} {base : Nat} {held : Bool}
theorem cadd {b o k : Nat} : (⟨b, o, none⟩ : Addr).add k = ⟨b, o + k, none⟩ := by unfold Addr.add; split <;> simp_all
theorem i64_in {x : Int} (h : (Lit.int .i64 x).wf = true) : in64 x := by
  have := wf_inQ h
  exact this
set_option maxRecDepth 100000 in
theorem open_ints' {fuel : Nat} {cs : List Value} {x : DataW H × List MemPlace} (h : DataW.trod enc Tryz.prog w base (fun _ => true) held fuel 24 cs = some x) :
    ∃ (A : Option Addr) (cap : Nat) (l : List Int), cs = [.slice A l.length cap] ∧ isSl intD l x.1 ∧ InInt w A l ∧ ∀ y, y ∈ l → in64 y := by
  rcases open_slice1 Tryz.underlying24 (by kernel_rfl) h with ⟨h1, h2⟩ | ⟨a, len, cap, m, n, V, D, Pl, hcs, hb, hl, hm, hmm, hx, hi⟩
  · exact ⟨none, 0, [], h1, .inl ⟨by rw [h2], rfl⟩, fun h => absurd h (by simp), fun y hy => by cases hy⟩
  · simp only [if_true] at hmm
    subst hmm
    have each : ∀ i, i < m → ∃ y : Int, V i = .int .i64 y ∧ D i = intD y ∧ in64 y := by
      intro i him
      obtain ⟨y, e1, e2, e3⟩ := DataW.trod_int Tryz.underlying3 (hi i him).2
      exact ⟨y, by simpa using e1, congrArg Prod.fst e2, i64_in e3⟩
    obtain ⟨Y, hY⟩ := choose_lt each
    refine ⟨some a, m, (List.range len).map Y, by simpa using hcs, .inr ⟨_, by rw [hx, List.map_map]; simp only []; congr 1; exact List.map_congr_left fun i hi2 => (hY i (by have := List.mem_range.1 hi2; omega)).2.1⟩, fun h0 => ?_, fun y hy => ?_⟩
    · simp only [List.length_map, List.length_range] at h0
      have h00 := (hi 0 (by omega)).1
      have hsp := World.cell?_spot h00
      obtain ⟨b, o, s⟩ := a
      have hs : s = none := by simpa [Addr.add] using hsp
      subst hs
      refine ⟨b, o, rfl, ?_, fun j hj => ?_⟩
      · have := World.block_lt_of_cell? w _ h00
        simpa [cadd] using this
      · have hj' : j < len := by simpa using hj
        have hc := (hi j (by omega)).1
        rw [cadd, (hY j (by omega)).1] at hc
        simp only [List.getElem_map, List.getElem_range]
        exact hc
    · obtain ⟨i, hi2, rfl⟩ := List.mem_map.1 hy
      exact (hY i (by have := List.mem_range.1 hi2; omega)).2.2
end
end Ci
end Go.Proofs.YtpmlhgmmobpilaaGreatDoor
namespace Go.Proofs.YtpmlhgmmobpilaaGreatDoor
open Go.ChangeShapes Go.WideShapes Go.ChangeAt Go.RowKit Go.Shelf Go.Joins Go.Deep
namespace Ci
open Nt
section
variable {H : Type}
theorem weightsAll_mem {P : Program} {e : TypeId} {d : DataW H} : ∀ {l : List (DataW H)}, d ∈ l → ∀ m ∈ d.weights P e, m ∈ DataW.weightsAll P e l := by
  intro l
  induction l with
  | nil => intro h; cases h
  | cons a l ih =>
    intro h m hm
    rw [DataW.weightsAll, List.mem_append]
    rcases List.mem_cons.1 h with rfl | h
    · exact .inl hm
    · exact .inr (ih h m hm)
theorem trodAll_stays {enc : TypeId × Value → H} {P : Program} {W W' : World} {base : Nat} {sp' : Nat → Bool} (hl : laidOutB P = true) : ∀ {ts : List TypeId} {vs : List Value} {ds : List (DataW H)} {ps : List MemPlace},
    (∀ t ∈ ts, P.readableRec t = true ∧ t < P.types.size) → DataW.TrodAll enc P W base (fun _ => true) true ts vs ds ps → (∀ p ∈ ps, W.sameAt W' p) → (∀ p ∈ ps, sp' p.block = true) → DataW.TrodAll enc P W' base sp' true ts vs ds ps
  | [], [], [], _, _, h, _, _ => h
  | _ :: _, _ :: _, _ :: _, _, hT, ⟨p, q, h1, h2, e⟩, hs, hb =>
    ⟨p, q, WideElems.Trod_stays hl (hT _ (List.mem_cons.2 (.inl rfl))).1 (hT _ (List.mem_cons.2 (.inl rfl))).2 h1 (fun x hx => hs x (by rw [e]; exact List.mem_append_left _ hx)) (fun x hx => hb x (by rw [e]; exact List.mem_append_left _ hx)),
      trodAll_stays hl (fun t ht => hT t (List.mem_cons.2 (.inr ht))) h2 (fun x hx => hs x (by rw [e]; exact List.mem_append_right _ hx)) (fun x hx => hb x (by rw [e]; exact List.mem_append_right _ hx)), e⟩
theorem sizes_at {ts : List TypeId} {ds : List (DataW H)} {j : Nat} {t : TypeId} {d : DataW H} (hsz : (DataW.weightsEach Tryz.prog ts ds).all (· ≤ reachBytes) = true) (ht : ts[j]? = some t) (hd : ds[j]? = some d) : ∀ m ∈ d.weights Tryz.prog t, m ≤ 140737488351232 := fun m hm =>
  of_decide_eq_true (List.all_eq_true.1 hsz _ (DataW.weights_mem_each (P := Tryz.prog) ht hd m hm))
theorem size_sl {α : Type} {f : α → DataW H} {l : List α} {d : DataW H} {t e : TypeId} (ht : Tryz.prog.underlying t = some (.slice e)) (hb : 0 < Tryz.prog.bytesOf e) (h : isSl f l d) (hw : ∀ m ∈ d.weights Tryz.prog t, m ≤ 140737488351232) :
    l.length ≤ 140737488355328 ∧ ∀ x ∈ l, ∀ m ∈ (f x).weights Tryz.prog e, m ≤ 140737488351232 := by
  rcases h with ⟨_, rfl⟩ | ⟨rest, rfl⟩
  · exact ⟨by simp, fun x h => absurd h (by simp)⟩
  · have e1 : (DataW.slice (l.map f) rest).weights Tryz.prog t = ((l.map f).length + rest.length) * Tryz.prog.bytesOf e :: (DataW.weightsAll Tryz.prog e (l.map f) ++ DataW.weightsAll Tryz.prog e rest) := by
      simp [DataW.weights, ht]
    rw [e1] at hw
    have h1 := hw _ (List.mem_cons_self ..)
    rw [List.length_map] at h1
    refine ⟨?_, fun x hx m hm => hw _ (List.mem_cons_of_mem _ (List.mem_append_left _ (weightsAll_mem (List.mem_map_of_mem (f := f) hx) m hm)))⟩
    have h2 : l.length ≤ (l.length + rest.length) * Tryz.prog.bytesOf e := Nat.le_trans (Nat.le_add_right _ _) (Nat.le_mul_of_pos_right _ hb)
    omega
end
section
variable {H : Type} {enc : TypeId × Value → H} {w : World} {base : Nat} {held : Bool}
set_option maxRecDepth 100000 in
theorem open_intsV {r : Go.Reach} {b0 : Nat} {v : Value} {d : DataW H} {p : List MemPlace} (hv : Value.okWide Tryz.prog w r b0 24 v) (h : DataW.Trod enc Tryz.prog w base (fun _ => true) held 24 v d p) :
    ∃ (A : Option Addr) (cap : Nat) (l : List Int), v = .slice A l.length cap ∧ isSl intD l d ∧ InInt w A l ∧ ∀ y, y ∈ l → in64 y := by
  obtain ⟨a, len, c, rfl⟩ := okWide_slice Tryz.underlying24 hv
  obtain ⟨n, hn⟩ := h
  obtain ⟨A, cap, l, e, h1, h2, h3⟩ := open_ints' hn
  refine ⟨A, cap, l, ?_, h1, h2, h3⟩
  simpa [Value.cells] using e
end
end Ci
end Go.Proofs.YtpmlhgmmobpilaaGreatDoor

namespace Go.Proofs.YtpmlhgmmobpilaaGreatDoor
namespace Mo
open Nt Ci
/-- A rate: currency, day, numerator, denominator. -/
abbrev Rt := ByteArray × Int × Int × Int
def dayB (n : Int) : Bool := decide (0 ≤ n ∧ n ≤ 100000)
def posB (n : Int) : Bool := decide (1 ≤ n ∧ n ≤ 1000000)
def okR (base : ByteArray) (x : Rt) : Bool := identB x.1 && !decide (x.1 = base) && dayB x.2.1 && posB x.2.2.1 && posB x.2.2.2
/-- Two rates of one currency on one day. -/
def sameK (x y : Rt) : Bool := decide (x.1 = y.1) && decide (x.2.1 = y.2.1)
def validR (l : List Rt) (base : ByteArray) : Bool := identB base && decide (l.length ≤ 400) && l.all (okR base) && decide (l.Pairwise fun x y => sameK x y = false)
/-- What is asked of rate k. -/
def RtAt (base : ByteArray) (l : List Rt) (k : Nat) (h : k < l.length) : Prop := okR base l[k] = true ∧ ∀ j (hj : j < k), sameK (l[j]'(Nat.lt_trans hj h)) l[k] = false
section
variable {base cur : ByteArray} {day : Int} {l : List Rt} {x y : Rt} {k : Nat}
theorem valid_iff : validR l base = true ↔ identB base = true ∧ l.length ≤ 400 ∧ ∀ k (h : k < l.length), RtAt base l k h := by
  unfold validR
  rw [Bool.and_eq_true, Bool.and_eq_true, Bool.and_eq_true, decide_eq_true_iff, decide_eq_true_iff, List.all_eq_true, List.pairwise_iff_getElem]
  constructor
  · rintro ⟨⟨⟨h1, h2⟩, h3⟩, h4⟩
    exact ⟨h1, h2, fun k h => ⟨h3 _ (List.getElem_mem h), fun j hj => h4 j k (Nat.lt_trans hj h) h hj⟩⟩
  · rintro ⟨h1, h2, h3⟩
    refine ⟨⟨⟨h1, h2⟩, fun x hx => ?_⟩, fun i j hi hj hij => (h3 j hj).2 i hij⟩
    obtain ⟨k, hk, rfl⟩ := List.getElem_of_mem hx
    exact (h3 k hk).1
theorem valid_bad (h : k < l.length) (hb : ¬ RtAt base l k h) : validR l base = false := by
  cases c : validR l base
  · rfl
  · exact absurd ((valid_iff.1 c).2.2 k h) hb
/-- The rate is of the currency, and not of a later day. -/
def knownB (cur : ByteArray) (day : Int) (x : Rt) : Bool := decide (x.1 = cur) && decide (x.2.1 ≤ day)
def stepB (cur : ByteArray) (day : Int) (acc : Option Rt) (x : Rt) : Option Rt :=
  match acc with
  | none => if knownB cur day x = true then some x else none
  | some y => if knownB cur day x = true ∧ y.2.1 < x.2.1 then some x else some y
def bestR (l : List Rt) (cur : ByteArray) (day : Int) : Option Rt := l.foldl (stepB cur day) none
theorem best_take (h : k < l.length) : bestR (l.take (k + 1)) cur day = stepB cur day (bestR (l.take k) cur day) l[k] := by
  unfold bestR
  rw [List.take_succ_eq_append_getElem h, List.foldl_append]
  rfl
/-- What bestR finds. -/
def BestIs (l : List Rt) (cur : ByteArray) (day : Int) : Option Rt → Prop
  | none => ∀ y, y ∈ l → knownB cur day y = false
  | some x => x ∈ l ∧ knownB cur day x = true ∧ ∀ y, y ∈ l → knownB cur day y = true → y.2.1 ≤ x.2.1
theorem best_is : ∀ (m l0 : List Rt) (acc : Option Rt), BestIs l0 cur day acc → BestIs (l0 ++ m) cur day (m.foldl (stepB cur day) acc) := by
  intro m
  induction m with
  | nil => intro l0 acc h; rwa [List.append_nil]
  | cons a m ih =>
    intro l0 acc h
    have := ih (l0 ++ [a]) (stepB cur day acc a) ?_
    · rwa [List.append_assoc, List.singleton_append] at this
    cases acc with
    | none =>
      unfold stepB
      by_cases c : knownB cur day a = true
      · simp only [if_pos c]
        refine ⟨by simp, c, fun y hy hk => ?_⟩
        rcases List.mem_append.1 hy with hy | hy
        · rw [h y hy] at hk; cases hk
        · rw [List.mem_singleton.1 hy]; exact Int.le_refl _
      · simp only [if_neg c]
        intro y hy
        rcases List.mem_append.1 hy with hy | hy
        · exact h y hy
        · rw [List.mem_singleton.1 hy]; simpa using c
    | some b =>
      obtain ⟨h1, h2, h3⟩ := h
      unfold stepB
      by_cases c : knownB cur day a = true ∧ b.2.1 < a.2.1
      · simp only [if_pos c]
        refine ⟨by simp, c.1, fun y hy hk => ?_⟩
        rcases List.mem_append.1 hy with hy | hy
        · have := h3 y hy hk; omega
        · rw [List.mem_singleton.1 hy]; exact Int.le_refl _
      · simp only [if_neg c]
        refine ⟨List.mem_append.2 (.inl h1), h2, fun y hy hk => ?_⟩
        rcases List.mem_append.1 hy with hy | hy
        · exact h3 y hy hk
        · rw [List.mem_singleton.1 hy] at hk ⊢
          by_cases d : b.2.1 < a.2.1
          · exact absurd ⟨hk, d⟩ c
          · omega
theorem best_spec : BestIs l cur day (bestR l cur day) := by
  have := best_is (cur := cur) (day := day) l [] none (fun y hy => by cases hy)
  exact this
theorem valid_parts (h : validR l base = true) : identB base = true ∧ l.length ≤ 400 ∧ (∀ x, x ∈ l → okR base x = true) ∧ l.Pairwise fun x y => sameK x y = false := by
  unfold validR at h
  rw [Bool.and_eq_true, Bool.and_eq_true, Bool.and_eq_true, decide_eq_true_iff, decide_eq_true_iff, List.all_eq_true] at h
  exact ⟨h.1.1.1, h.1.1.2, h.1.2, h.2⟩
def noR : Rt := (⟨#[]⟩, 0, 0, 0)
/-- What Find returns. -/
def findR (l : List Rt) (base cur : ByteArray) (day : Int) : Rt × Int :=
  if validR l base = true ∧ identB cur = true ∧ dayB day = true then
    (if cur = base then ((base, 0, 1, 1), 0) else match bestR l cur day with
      | some x => (x, 0)
      | none => (noR, 11))
  else (noR, 1)
/-- What Find gives is a rate within the limits. -/
theorem find_ok {x : Rt} (h : findR l base cur day = (x, 0)) : (1 ≤ x.2.2.1 ∧ x.2.2.1 ≤ 1000000) ∧ (1 ≤ x.2.2.2 ∧ x.2.2.2 ≤ 1000000) ∧ validR l base = true ∧ identB cur = true ∧ dayB day = true := by
  unfold findR at h
  split at h
  · rename_i c
    split at h
    · simp only [Prod.mk.injEq, and_true] at h
      obtain rfl := h.symm
      exact ⟨⟨Int.le_refl _, by show (1 : Int) ≤ 1000000; decide⟩, ⟨Int.le_refl _, by show (1 : Int) ≤ 1000000; decide⟩, c⟩
    · split at h
      · rename_i y hy
        simp only [Prod.mk.injEq, and_true] at h
        obtain rfl := h.symm
        have hb := best_spec (l := l) (cur := cur) (day := day)
        rw [hy] at hb
        have h2 := (valid_parts c.1).2.2.1 _ hb.1
        unfold okR at h2
        simp only [Bool.and_eq_true] at h2
        exact ⟨of_decide_eq_true h2.1.2, of_decide_eq_true h2.2, c⟩
      · simp at h
  · simp at h
end
end Mo
end Go.Proofs.YtpmlhgmmobpilaaGreatDoor

namespace Go.Proofs.YtpmlhgmmobpilaaGreatDoor
open Go.RowKit Go.Shelf
namespace Mo
open Nt Ci
set_option maxRecDepth 100000 in
set_option maxHeartbeats 4000000 in
theorem isCurrency_w (s : ByteArray) (w : World) (hs : s.size ≤ 9223372036854775807) :
    Calls Tryz.prog 59 #[.string s] w fun e w' => e = .returned (.bool (identB s)) ∧ w' = w := by
  have HB := Lib.hid (fun (k : Nat) (h : k < s.size) (hb : ¬ OkAt k s[k].toNat) => ident_bad (s := s) h hb)
  have HA := Lib.hid (ident_all (s := s))
  go_enter Tryz.func59, Tryz.ntmps59
  go_wp2
  go_loop [8] (fun i => ∃ k : Nat, k ≤ s.size ∧ i = .int .i64 k ∧ Hid (∀ i (h : i < s.size), i < k → OkAt i s[i].toNat)) (fun i => s.size - (intOf i).toNat)
  case atStart => exact ⟨0, Nat.zero_le _, rfl, fun i _ h => absurd h (Nat.not_lt_zero _)⟩
  case round =>
    obtain ⟨k, hk, rfl, hI⟩ := hrel
    by_cases hlt : k < s.size
    · have hc : s[k].toNat ≤ 255 := by have := s[k].toNat_lt; omega
      have i0 : (0 : Int) ≤ (k : Int) := by omega
      have i1 : (k : Int) < (s.size : Int) := by omega
      have HN : Hid (OkAt k s[k].toNat → ∀ i (h : i < s.size), i < k + 1 → OkAt i s[i].toNat) := fun h i hi h2 => by
        by_cases e : i = k
        · subst e; exact h
        · exact hI.out i hi (by omega)
      have HB2 := Lib.hid (HB.out k hlt)
      clear hI
      by_cases e0 : k = 0
      · have b0 : ((k : Int) == 0) = true := by rw [beq_iff_eq]; omega
        have b0n : ((k : Int) != 0) = false := by rw [bne_eq_false_iff_eq]; omega
        have b3 : (k == 0) = true := by rw [beq_iff_eq]; omega
        replace e0 := Lib.hid e0
        have hcl : (s[k].toNat ≤ 47 ∧ 0 ≤ s[k].toNat) ∨ (48 ≤ s[k].toNat ∧ s[k].toNat ≤ 57) ∨ (58 ≤ s[k].toNat ∧ s[k].toNat ≤ 64) ∨ (65 ≤ s[k].toNat ∧ s[k].toNat ≤ 90) ∨ (91 ≤ s[k].toNat ∧ s[k].toNat ≤ 94) ∨ (95 ≤ s[k].toNat ∧ s[k].toNat ≤ 95) ∨ (96 ≤ s[k].toNat ∧ s[k].toNat ≤ 96) ∨ (97 ≤ s[k].toNat ∧ s[k].toNat ≤ 122) ∨ (123 ≤ s[k].toNat ∧ s[k].toNat ≤ 255) := by omega
        rcases hcl with ⟨g1, g2⟩ | ⟨g1, g2⟩ | ⟨g1, g2⟩ | ⟨g1, g2⟩ | ⟨g1, g2⟩ | ⟨g1, g2⟩ | ⟨g1, g2⟩ | ⟨g1, g2⟩ | ⟨g1, g2⟩
        · have b1 : ((s[k].toNat : Int) != 95) = true := by rw [bne_iff_ne]; omega
          have b2 : ((s[k].toNat : Int) == 95) = false := by rw [beq_eq_false_iff_ne]; omega
          have HR : Hid (identB s = false) := HB2.out (by have := e0.out; unfold OkAt; omega)
          clear HN HB2
          go_wp2
          go_ret
          exact ⟨ret_bool HR.out.symm, rfl⟩
        · have b1 : ((s[k].toNat : Int) != 95) = true := by rw [bne_iff_ne]; omega
          have b2 : ((s[k].toNat : Int) == 95) = false := by rw [beq_eq_false_iff_ne]; omega
          have HR : Hid (identB s = false) := HB2.out (by have := e0.out; unfold OkAt; omega)
          clear HN HB2
          go_wp2
          go_ret
          exact ⟨ret_bool HR.out.symm, rfl⟩
        · have b1 : ((s[k].toNat : Int) != 95) = true := by rw [bne_iff_ne]; omega
          have b2 : ((s[k].toNat : Int) == 95) = false := by rw [beq_eq_false_iff_ne]; omega
          have HR : Hid (identB s = false) := HB2.out (by have := e0.out; unfold OkAt; omega)
          clear HN HB2
          go_wp2
          go_ret
          exact ⟨ret_bool HR.out.symm, rfl⟩
        · have b1 : ((s[k].toNat : Int) != 95) = true := by rw [bne_iff_ne]; omega
          have b2 : ((s[k].toNat : Int) == 95) = false := by rw [beq_eq_false_iff_ne]; omega
          have HR := Lib.hid (HN.out (by have := e0.out; unfold OkAt; omega))
          clear HN HB2
          go_wp2
          go_round
          case rel => exact ⟨k + 1, by omega, by go_num, HR⟩
          case measure => simp [intOf]; omega
        · have b1 : ((s[k].toNat : Int) != 95) = true := by rw [bne_iff_ne]; omega
          have b2 : ((s[k].toNat : Int) == 95) = false := by rw [beq_eq_false_iff_ne]; omega
          have c1 : decide ((s[k].toNat : Int) ≤ 90) = false := by rw [decide_eq_false_iff_not]; omega
          have d1 : decide (s[k].toNat ≤ 90) = false := by rw [decide_eq_false_iff_not]; omega
          have n1 : ¬ ((s[k].toNat : Int) ≤ 90) := by omega
          have HR : Hid (identB s = false) := HB2.out (by have := e0.out; unfold OkAt; omega)
          clear HN HB2
          go_wp2
          go_ret
          exact ⟨ret_bool HR.out.symm, rfl⟩
        · have b1 : ((s[k].toNat : Int) != 95) = false := by rw [bne_eq_false_iff_eq]; omega
          have b2 : ((s[k].toNat : Int) == 95) = true := by rw [beq_iff_eq]; omega
          have c1 : decide ((s[k].toNat : Int) ≤ 90) = false := by rw [decide_eq_false_iff_not]; omega
          have d1 : decide (s[k].toNat ≤ 90) = false := by rw [decide_eq_false_iff_not]; omega
          have n1 : ¬ ((s[k].toNat : Int) ≤ 90) := by omega
          have HR : Hid (identB s = false) := HB2.out (by have := e0.out; unfold OkAt; omega)
          clear HN HB2
          go_wp2
          go_ret
          exact ⟨ret_bool HR.out.symm, rfl⟩
        · have b1 : ((s[k].toNat : Int) != 95) = true := by rw [bne_iff_ne]; omega
          have b2 : ((s[k].toNat : Int) == 95) = false := by rw [beq_eq_false_iff_ne]; omega
          have c1 : decide ((s[k].toNat : Int) ≤ 90) = false := by rw [decide_eq_false_iff_not]; omega
          have d1 : decide (s[k].toNat ≤ 90) = false := by rw [decide_eq_false_iff_not]; omega
          have n1 : ¬ ((s[k].toNat : Int) ≤ 90) := by omega
          have HR : Hid (identB s = false) := HB2.out (by have := e0.out; unfold OkAt; omega)
          clear HN HB2
          go_wp2
          go_ret
          exact ⟨ret_bool HR.out.symm, rfl⟩
        · have b1 : ((s[k].toNat : Int) != 95) = true := by rw [bne_iff_ne]; omega
          have b2 : ((s[k].toNat : Int) == 95) = false := by rw [beq_eq_false_iff_ne]; omega
          have c1 : decide ((s[k].toNat : Int) ≤ 90) = false := by rw [decide_eq_false_iff_not]; omega
          have d1 : decide (s[k].toNat ≤ 90) = false := by rw [decide_eq_false_iff_not]; omega
          have n1 : ¬ ((s[k].toNat : Int) ≤ 90) := by omega
          have HR := Lib.hid (HN.out (by have := e0.out; unfold OkAt; omega))
          clear HN HB2
          go_wp2
          go_round
          case rel => exact ⟨k + 1, by omega, by go_num, HR⟩
          case measure => simp [intOf]; omega
        · have b1 : ((s[k].toNat : Int) != 95) = true := by rw [bne_iff_ne]; omega
          have b2 : ((s[k].toNat : Int) == 95) = false := by rw [beq_eq_false_iff_ne]; omega
          have c0 : decide ((s[k].toNat : Int) ≤ 122) = false := by rw [decide_eq_false_iff_not]; omega
          have d0 : decide (s[k].toNat ≤ 122) = false := by rw [decide_eq_false_iff_not]; omega
          have n0 : ¬ ((s[k].toNat : Int) ≤ 122) := by omega
          have c1 : decide ((s[k].toNat : Int) ≤ 90) = false := by rw [decide_eq_false_iff_not]; omega
          have d1 : decide (s[k].toNat ≤ 90) = false := by rw [decide_eq_false_iff_not]; omega
          have n1 : ¬ ((s[k].toNat : Int) ≤ 90) := by omega
          have HR : Hid (identB s = false) := HB2.out (by have := e0.out; unfold OkAt; omega)
          clear HN HB2
          go_wp2
          go_ret
          exact ⟨ret_bool HR.out.symm, rfl⟩
      · have b0 : ((k : Int) == 0) = false := by rw [beq_eq_false_iff_ne]; omega
        have b0n : ((k : Int) != 0) = true := by rw [bne_iff_ne]; omega
        have b3 : (k == 0) = false := by rw [beq_eq_false_iff_ne]; omega
        have hcl : (s[k].toNat ≤ 47 ∧ 0 ≤ s[k].toNat) ∨ (48 ≤ s[k].toNat ∧ s[k].toNat ≤ 57) ∨ (58 ≤ s[k].toNat ∧ s[k].toNat ≤ 64) ∨ (65 ≤ s[k].toNat ∧ s[k].toNat ≤ 90) ∨ (91 ≤ s[k].toNat ∧ s[k].toNat ≤ 94) ∨ (95 ≤ s[k].toNat ∧ s[k].toNat ≤ 95) ∨ (96 ≤ s[k].toNat ∧ s[k].toNat ≤ 96) ∨ (97 ≤ s[k].toNat ∧ s[k].toNat ≤ 122) ∨ (123 ≤ s[k].toNat ∧ s[k].toNat ≤ 255) := by omega
        rcases hcl with ⟨g1, g2⟩ | ⟨g1, g2⟩ | ⟨g1, g2⟩ | ⟨g1, g2⟩ | ⟨g1, g2⟩ | ⟨g1, g2⟩ | ⟨g1, g2⟩ | ⟨g1, g2⟩ | ⟨g1, g2⟩
        · have b1 : ((s[k].toNat : Int) != 95) = true := by rw [bne_iff_ne]; omega
          have b2 : ((s[k].toNat : Int) == 95) = false := by rw [beq_eq_false_iff_ne]; omega
          have HR : Hid (identB s = false) := HB2.out (by unfold OkAt; omega)
          clear HN HB2
          go_wp2
          go_ret
          exact ⟨ret_bool HR.out.symm, rfl⟩
        · have b1 : ((s[k].toNat : Int) != 95) = true := by rw [bne_iff_ne]; omega
          have b2 : ((s[k].toNat : Int) == 95) = false := by rw [beq_eq_false_iff_ne]; omega
          have HR := Lib.hid (HN.out (by unfold OkAt; omega))
          clear HN HB2
          go_wp2
          go_round
          case rel => exact ⟨k + 1, by omega, by go_num, HR⟩
          case measure => simp [intOf]; omega
        · have b1 : ((s[k].toNat : Int) != 95) = true := by rw [bne_iff_ne]; omega
          have b2 : ((s[k].toNat : Int) == 95) = false := by rw [beq_eq_false_iff_ne]; omega
          have HR : Hid (identB s = false) := HB2.out (by unfold OkAt; omega)
          clear HN HB2
          go_wp2
          go_ret
          exact ⟨ret_bool HR.out.symm, rfl⟩
        · have b1 : ((s[k].toNat : Int) != 95) = true := by rw [bne_iff_ne]; omega
          have b2 : ((s[k].toNat : Int) == 95) = false := by rw [beq_eq_false_iff_ne]; omega
          have HR := Lib.hid (HN.out (by unfold OkAt; omega))
          clear HN HB2
          go_wp2
          go_round
          case rel => exact ⟨k + 1, by omega, by go_num, HR⟩
          case measure => simp [intOf]; omega
        · have b1 : ((s[k].toNat : Int) != 95) = true := by rw [bne_iff_ne]; omega
          have b2 : ((s[k].toNat : Int) == 95) = false := by rw [beq_eq_false_iff_ne]; omega
          have c1 : decide ((s[k].toNat : Int) ≤ 90) = false := by rw [decide_eq_false_iff_not]; omega
          have d1 : decide (s[k].toNat ≤ 90) = false := by rw [decide_eq_false_iff_not]; omega
          have n1 : ¬ ((s[k].toNat : Int) ≤ 90) := by omega
          have HR : Hid (identB s = false) := HB2.out (by unfold OkAt; omega)
          clear HN HB2
          go_wp2
          go_ret
          exact ⟨ret_bool HR.out.symm, rfl⟩
        · have b1 : ((s[k].toNat : Int) != 95) = false := by rw [bne_eq_false_iff_eq]; omega
          have b2 : ((s[k].toNat : Int) == 95) = true := by rw [beq_iff_eq]; omega
          have c1 : decide ((s[k].toNat : Int) ≤ 90) = false := by rw [decide_eq_false_iff_not]; omega
          have d1 : decide (s[k].toNat ≤ 90) = false := by rw [decide_eq_false_iff_not]; omega
          have n1 : ¬ ((s[k].toNat : Int) ≤ 90) := by omega
          have HR := Lib.hid (HN.out (by unfold OkAt; omega))
          clear HN HB2
          go_wp2
          go_round
          case rel => exact ⟨k + 1, by omega, by go_num, HR⟩
          case measure => simp [intOf]; omega
        · have b1 : ((s[k].toNat : Int) != 95) = true := by rw [bne_iff_ne]; omega
          have b2 : ((s[k].toNat : Int) == 95) = false := by rw [beq_eq_false_iff_ne]; omega
          have c1 : decide ((s[k].toNat : Int) ≤ 90) = false := by rw [decide_eq_false_iff_not]; omega
          have d1 : decide (s[k].toNat ≤ 90) = false := by rw [decide_eq_false_iff_not]; omega
          have n1 : ¬ ((s[k].toNat : Int) ≤ 90) := by omega
          have HR : Hid (identB s = false) := HB2.out (by unfold OkAt; omega)
          clear HN HB2
          go_wp2
          go_ret
          exact ⟨ret_bool HR.out.symm, rfl⟩
        · have b1 : ((s[k].toNat : Int) != 95) = true := by rw [bne_iff_ne]; omega
          have b2 : ((s[k].toNat : Int) == 95) = false := by rw [beq_eq_false_iff_ne]; omega
          have c1 : decide ((s[k].toNat : Int) ≤ 90) = false := by rw [decide_eq_false_iff_not]; omega
          have d1 : decide (s[k].toNat ≤ 90) = false := by rw [decide_eq_false_iff_not]; omega
          have n1 : ¬ ((s[k].toNat : Int) ≤ 90) := by omega
          have HR := Lib.hid (HN.out (by unfold OkAt; omega))
          clear HN HB2
          go_wp2
          go_round
          case rel => exact ⟨k + 1, by omega, by go_num, HR⟩
          case measure => simp [intOf]; omega
        · have b1 : ((s[k].toNat : Int) != 95) = true := by rw [bne_iff_ne]; omega
          have b2 : ((s[k].toNat : Int) == 95) = false := by rw [beq_eq_false_iff_ne]; omega
          have c0 : decide ((s[k].toNat : Int) ≤ 122) = false := by rw [decide_eq_false_iff_not]; omega
          have d0 : decide (s[k].toNat ≤ 122) = false := by rw [decide_eq_false_iff_not]; omega
          have n0 : ¬ ((s[k].toNat : Int) ≤ 122) := by omega
          have c1 : decide ((s[k].toNat : Int) ≤ 90) = false := by rw [decide_eq_false_iff_not]; omega
          have d1 : decide (s[k].toNat ≤ 90) = false := by rw [decide_eq_false_iff_not]; omega
          have n1 : ¬ ((s[k].toNat : Int) ≤ 90) := by omega
          have HR : Hid (identB s = false) := HB2.out (by unfold OkAt; omega)
          clear HN HB2
          go_wp2
          go_ret
          exact ⟨ret_bool HR.out.symm, rfl⟩
    · obtain rfl : k = s.size := by omega
      have HE : Hid (identB s = (decide (0 < s.size) && decide (s.size ≤ 24))) := HA.out fun i h => hI.out i h h
      have q0 : s.toList.isEmpty = decide (s.size = 0) := by
        rw [Lib.toList_data, Lib.size_eq]
        cases s.data.toList <;> simp
      clear hI
      by_cases h0 : s.size = 0
      · have q1 : s.toList = [] := by simpa [h0] using q0
        have q2 : (!s.toList.isEmpty) = false := by rw [q0, decide_eq_true h0]; rfl
        clear q0
        go_wp2
        go_ret
        exact ⟨ret_bool (by rw [HE.out, decide_eq_false (by omega)]; rfl), rfl⟩
      · have q2 : (!s.toList.isEmpty) = true := by rw [q0, decide_eq_false h0]; rfl
        have q1 : ¬ s.toList = [] := fun e => by rw [e] at q0; rw [decide_eq_false h0] at q0; cases q0
        clear q0
        by_cases h24 : s.size ≤ 24
        · go_wp2
          go_ret
          exact ⟨ret_bool (by rw [HE.out, decide_eq_true (by omega : 0 < s.size), decide_eq_true h24, decide_eq_true (by omega : (s.size : Int) ≤ 24)]; rfl), rfl⟩
        · go_wp2
          go_ret
          exact ⟨ret_bool (by rw [HE.out, decide_eq_true (by omega : 0 < s.size), decide_eq_false h24, decide_eq_false (by omega : ¬ (s.size : Int) ≤ 24)]; rfl), rfl⟩
set_option maxRecDepth 100000 in
theorem isDay_w (n : Int) (w : World) : Calls Tryz.prog 60 #[.int .i64 n] w fun e w' => e = .returned (.bool (dayB n)) ∧ w' = w := by
  have hd : dayB n = (decide (0 ≤ n) && decide (n ≤ 100000)) := Bool.decide_and _ _
  rw [hd]
  by_cases c1 : 0 ≤ n
  · have m1 : decide (0 ≤ n) = true := decide_eq_true c1
    by_cases c2 : n ≤ 100000
    · have m2 : decide (n ≤ 100000) = true := decide_eq_true c2
      rw [m1, m2]
      go_enter Tryz.func60, Tryz.ntmps60
      go_wp2
      go_ret
      exact ⟨rfl, rfl⟩
    · have m2 : decide (n ≤ 100000) = false := decide_eq_false c2
      rw [m1, m2]
      go_enter Tryz.func60, Tryz.ntmps60
      go_wp2
      go_ret
      exact ⟨rfl, rfl⟩
  · have m1 : decide (0 ≤ n) = false := decide_eq_false c1
    rw [m1, Bool.false_and]
    go_enter Tryz.func60, Tryz.ntmps60
    go_wp2
    go_ret
    exact ⟨rfl, rfl⟩
end Mo
end Go.Proofs.YtpmlhgmmobpilaaGreatDoor

namespace Go.Proofs.YtpmlhgmmobpilaaGreatDoor
open Go.RowKit Go.Shelf
namespace Mo
open Nt Ci
def rtL (x : Rt) : List Value := [.string x.1, .int .i64 x.2.1, .int .i64 x.2.2.1, .int .i64 x.2.2.2]
def rtV (x : Rt) : Value := .agg #[.string x.1, .int .i64 x.2.1, .int .i64 x.2.2.1, .int .i64 x.2.2.2]
/-- The slice at A has the rates l. -/
def InRt (W : World) (A : Option Addr) (l : List Rt) : Prop :=
  0 < l.length → ∃ b off, A = some ⟨b, off, none⟩ ∧ b < W.heap.size ∧ ∀ j (h : j < l.length), W.cell? ⟨b, off + j * 4, none⟩ = some (.string l[j].1) ∧ W.cell? ⟨b, off + j * 4 + 1, none⟩ = some (.int .i64 l[j].2.1) ∧
    W.cell? ⟨b, off + j * 4 + 2, none⟩ = some (.int .i64 l[j].2.2.1) ∧ W.cell? ⟨b, off + j * 4 + 3, none⟩ = some (.int .i64 l[j].2.2.2)
theorem InRt.below {W W' : World} {A : Option Addr} {l : List Rt} (h : InRt W A l) (hb : Below W.heap.size W W') : InRt W' A l := fun h0 => by
  obtain ⟨b, off, e, hl, hc⟩ := h h0
  refine ⟨b, off, e, Nat.lt_of_lt_of_le hl hb.size, fun j hj => ?_⟩
  obtain ⟨h1, h2, h3, h4⟩ := hc j hj
  have hk : W'.heap[b]? = W.heap[b]? := hb.block b hl
  exact ⟨(World.cell?_of_block (a := ⟨b, off + j * 4, none⟩) hk).trans h1, (World.cell?_of_block (a := ⟨b, off + j * 4 + 1, none⟩) hk).trans h2, (World.cell?_of_block (a := ⟨b, off + j * 4 + 2, none⟩) hk).trans h3, (World.cell?_of_block (a := ⟨b, off + j * 4 + 3, none⟩) hk).trans h4⟩
theorem InRt.nil (W : World) : InRt W none [] := fun h => absurd h (by simp)
/-- The sizes of rates as arguments. -/
def RtSz (l : List Rt) : Prop := ∀ x, x ∈ l → x.1.size ≤ 140737488355328 ∧ (-9223372036854775808 ≤ x.2.1 ∧ x.2.1 ≤ 9223372036854775807) ∧ (-9223372036854775808 ≤ x.2.2.1 ∧ x.2.2.1 ≤ 9223372036854775807) ∧ (-9223372036854775808 ≤ x.2.2.2 ∧ x.2.2.2 ≤ 9223372036854775807)
theorem toList_eq {a b : ByteArray} : (a.toList == b.toList) = decide (a = b) := by
  rw [Bool.eq_iff_iff, beq_iff_eq, decide_eq_true_iff, Lib.toList_data, Lib.toList_data]
  constructor
  · intro h
    rcases a with ⟨a⟩
    rcases b with ⟨b⟩
    simp only [Array.toList_inj] at h
    rw [h]
  · intro h; rw [h]
set_option maxRecDepth 100000 in
theorem known_any (x : Rt) (cb db : Nat) (cur : ByteArray) (day : Int) (w : World) (hc : w.cell? ⟨cb, 0, none⟩ = some (.string cur)) (hd : w.cell? ⟨db, 0, none⟩ = some (.int .i64 day)) :
    Calls Tryz.prog 61 #[rtV x, .pointer (some ⟨cb, 0, none⟩), .pointer (some ⟨db, 0, none⟩)] w fun e w' => e = .returned (.bool (knownB cur day x)) ∧ Below w.heap.size w w' := by
  obtain ⟨c, d, n, m⟩ := x
  have hcl := World.block_lt_of_cell? w _ hc
  have hdl := World.block_lt_of_cell? w _ hd
  have hE := @toList_eq c cur
  have hk : knownB cur day (c, d, n, m) = (decide (c = cur) && decide (d ≤ day)) := rfl
  rw [hk]
  unfold rtV
  dsimp only
  cases h1 : decide (c = cur) with
  | false =>
    rw [h1] at hE
    go_enter Tryz.func61, Tryz.ntmps61
    go_wp2
    go_ret
    exact ⟨rfl, (Below.refl _ w).alloc (Nat.le_refl _) _⟩
  | true =>
    rw [h1] at hE
    go_enter Tryz.func61, Tryz.ntmps61
    go_wp2
    go_ret
    exact ⟨rfl, (Below.refl _ w).alloc (Nat.le_refl _) _⟩
set_option maxRecDepth 100000 in
theorem later_any (x y : Rt) (w : World) : Calls Tryz.prog 63 #[rtV x, rtV y] w fun e w' => e = .returned (.bool (decide (y.2.1 < x.2.1))) ∧ Below w.heap.size w w' := by
  obtain ⟨c, d, n, m⟩ := x
  obtain ⟨c2, d2, n2, m2⟩ := y
  unfold rtV
  dsimp only
  go_enter Tryz.func63, Tryz.ntmps63
  go_wp2
  go_ret
  exact ⟨rfl, ((Below.refl _ w).alloc (Nat.le_refl _) _).alloc (by simp) _⟩
/-- Block b has the rate x. -/
def RB (W : World) (b : Nat) (x : Rt) : Prop := Bk W b 42 (rtL x)
set_option maxRecDepth 100000 in
set_option maxHeartbeats 8000000 in
theorem best_any (l : List Rt) (A : Option Addr) (cap cb db : Nat) (cur : ByteArray) (day : Int) (w : World) (hl : InRt w A l) (hll : l.length ≤ 140737488355328) (hc : w.cell? ⟨cb, 0, none⟩ = some (.string cur)) (hd : w.cell? ⟨db, 0, none⟩ = some (.int .i64 day)) :
    Calls Tryz.prog 62 #[.slice A l.length cap, .func (.func 61) #[] #[.pointer (some ⟨cb, 0, none⟩), .pointer (some ⟨db, 0, none⟩)], .func (.func 63) #[] #[]] w fun e w' => e = .returned (.tuple #[rtV ((bestR l cur day).getD noR), .bool (bestR l cur day).isSome]) ∧ Below w.heap.size w w' := by
  have kI : Hid (∀ (x : Rt) W, Below w.heap.size w W → Calls Tryz.prog 61 #[rtV x, .pointer (some ⟨cb, 0, none⟩), .pointer (some ⟨db, 0, none⟩)] W fun e w' => e = .returned (.bool (knownB cur day x)) ∧ Below W.heap.size W w') := fun x W hW => known_any x cb db cur day W ((World.cell?_of_block (a := ⟨cb, 0, none⟩) (hW.block cb (World.block_lt_of_cell? w _ hc))).trans hc) ((World.cell?_of_block (a := ⟨db, 0, none⟩) (hW.block db (World.block_lt_of_cell? w _ hd))).trans hd)
  have hB0 : Hid (Below w.heap.size w (w.alloc (.cells #[.string ⟨#[]⟩, .int .i64 0, .int .i64 0, .int .i64 0] 42))) := (Below.refl _ w).alloc (Nat.le_refl _) _
  have hO0 : Hid (RB (w.alloc (.cells #[.string ⟨#[]⟩, .int .i64 0, .int .i64 0, .int .i64 0] 42)) w.heap.size ((bestR (l.take 0) cur day).getD noR)) := Bk.new w _ _
  clear hc hd
  replace hl := Lib.hid hl
  go_enter Tryz.func62, Tryz.ntmps62
  go_wp2
  go_loopw [7, 12] (fun fx ix wr => ∃ (k : Nat), k ≤ l.length ∧ ix = .int .i64 (k : Int) ∧ fx = .bool (bestR (l.take k) cur day).isSome ∧ Hid (Below w.heap.size w wr) ∧ Hid (RB wr w.heap.size ((bestR (l.take k) cur day).getD noR))) (fun _ ix _ => l.length - (intOf ix).toNat)
  case atStart => exact ⟨0, Nat.zero_le _, rfl, rfl, hB0, hO0⟩
  case round =>
    obtain ⟨k, hk, rfl, rfl, hB, hO⟩ := hrel
    clear hB0 hO0
    obtain ⟨wz, rfl⟩ : ∃ z, z = wr := ⟨_, rfl⟩
    by_cases hlt : k < l.length
    · obtain ⟨b, off, rfl, hbl, hcc⟩ := (hl.out.below hB.out) (by omega)
      obtain ⟨e1, e2, e3, e4⟩ := hcc k hlt
      have hst := best_take (cur := cur) (day := day) hlt
      have k0 : (0 : Int) ≤ (k : Int) := by omega
      have k1 : (k : Int) < (l.length : Int) := by omega
      obtain ⟨x, hx⟩ : ∃ x, x = l[k] := ⟨_, rfl⟩
      rw [← hx] at e1 e2 e3 e4 hst
      replace hx := Lib.hid hx
      obtain ⟨nx, hnx⟩ : ∃ y, y = bestR (l.take (k + 1)) cur day := ⟨_, rfl⟩
      rw [← hnx] at hst
      replace hnx := Lib.hid hnx
      generalize bestR (l.take k) cur day = bo at hO hst ⊢
      obtain ⟨c, d, n, m⟩ := x
      replace e1 : wz.cell? ⟨b, off + k * 4, none⟩ = some (.string c) := e1; replace e2 : wz.cell? ⟨b, off + k * 4 + 1, none⟩ = some (.int .i64 d) := e2; replace e3 : wz.cell? ⟨b, off + k * 4 + 2, none⟩ = some (.int .i64 n) := e3; replace e4 : wz.cell? ⟨b, off + k * 4 + 3, none⟩ = some (.int .i64 m) := e4
      clear hcc
      have hB7 : Hid (Below w.heap.size w (wz.alloc (.cells #[.string c, .int .i64 d, .int .i64 n, .int .i64 m] 42))) := hB.out.alloc hB.out.size _
      have hO7 : Hid (RB (wz.alloc (.cells #[.string c, .int .i64 d, .int .i64 n, .int .i64 m] 42)) w.heap.size (bo.getD noR)) := hO.out.alloc _
      have hx7 : Hid (Bk (wz.alloc (.cells #[.string c, .int .i64 d, .int .i64 n, .int .i64 m] 42)) wz.heap.size 42 [.string c, .int .i64 d, .int .i64 n, .int .i64 m]) := Bk.new wz _ _
      have kn := Lib.hid (kI.out (c, d, n, m) (wz.alloc (.cells #[.string c, .int .i64 d, .int .i64 n, .int .i64 m] 42)) hB7.out)
      have hob : w.heap.size < wz.heap.size := hO.out.lt
      clear hO
      obtain ⟨kb, hkb⟩ : ∃ y, y = knownB cur day (c, d, n, m) := ⟨_, rfl⟩
      rw [← hkb] at kn
      replace kn : Hid (Calls Tryz.prog 61 #[.agg #[.string c, .int .i64 d, .int .i64 n, .int .i64 m], .pointer (some ⟨cb, 0, none⟩), .pointer (some ⟨db, 0, none⟩)] (wz.alloc (.cells #[.string c, .int .i64 d, .int .i64 n, .int .i64 m] 42)) fun e w' => e = .returned (.bool kb) ∧ Below ((wz.alloc (.cells #[.string c, .int .i64 d, .int .i64 n, .int .i64 m] 42))).heap.size (wz.alloc (.cells #[.string c, .int .i64 d, .int .i64 n, .int .i64 m] 42)) w') := kn
      have hcl : knownB cur day (c, d, n, m) = kb := hkb.symm
      replace hkb := Lib.hid hkb
      cases kb with
      | false =>
        have hnx2 : nx = bo := by rw [hst]; cases bo with | none => exact if_neg (by rw [hcl]; decide) | some y => exact if_neg (fun h => by rw [hcl] at h; cases h.1)
        clear hst hcl
        go_wp2_with fail
        refine kn.out.mono ?_
        rintro e w2 ⟨rfl, hb⟩
        have hB2 := Lib.hid (hB7.out.trans (hb.mono hB7.out.size)); have hO2 := Lib.hid (Bk.below hO7.out hb); have hx2 := Lib.hid (hx7.out.below hb)
        clear hb hx7 e1 e2 e3 e4 hbl
        go_wp2
        refine ⟨⟨k + 1, by omega, by go_num, ?_, hB2, ?_⟩, by simp only [intOf]; omega⟩
        · rw [← hnx.out, hnx2]
        · rw [← hnx.out, hnx2]; exact hO2
      | true =>
        cases bo with
        | none =>
          have hnx2 : nx = some (c, d, n, m) := by rw [hst]; exact if_pos hcl
          clear hst hcl
          go_wp2_with fail
          refine kn.out.mono ?_
          rintro e w2 ⟨rfl, hb⟩
          have hB2 := Lib.hid (hB7.out.trans (hb.mono hB7.out.size)); have hO2 := Lib.hid (Bk.below hO7.out hb); have hx2 := Lib.hid (hx7.out.below hb)
          clear hb hx7 e1 e2 e3 e4 hbl
          have y0 := hx2.out.cell (j := 0) rfl
          have y1 := hx2.out.cell (j := 1) rfl
          have y2 := hx2.out.cell (j := 2) rfl
          have y3 := hx2.out.cell (j := 3) rfl
          have y9 := hx2.out.lt
          have hB5 : Hid (Below w.heap.size w ((((w2.setCell ⟨w.heap.size, 0, none⟩ (.string c)).setCell ⟨w.heap.size, 1, none⟩ (.int .i64 d)).setCell ⟨w.heap.size, 2, none⟩ (.int .i64 n)).setCell ⟨w.heap.size, 3, none⟩ (.int .i64 m))) := (((hB2.out.setCell (p := ⟨w.heap.size, 0, none⟩) (Nat.le_refl _) _).setCell (p := ⟨w.heap.size, 1, none⟩) (Nat.le_refl _) _).setCell (p := ⟨w.heap.size, 2, none⟩) (Nat.le_refl _) _).setCell (p := ⟨w.heap.size, 3, none⟩) (Nat.le_refl _) _
          have hO5 : Hid (RB ((((w2.setCell ⟨w.heap.size, 0, none⟩ (.string c)).setCell ⟨w.heap.size, 1, none⟩ (.int .i64 d)).setCell ⟨w.heap.size, 2, none⟩ (.int .i64 n)).setCell ⟨w.heap.size, 3, none⟩ (.int .i64 m)) w.heap.size (c, d, n, m)) := (((Bk.set hO2.out 0 (.string c)).set 1 (.int .i64 d)).set 2 (.int .i64 n)).set 3 (.int .i64 m)
          have o0 := hO2.out.cell (j := 0) rfl
          have o1 := hO2.out.cell (j := 1) rfl
          have o2 := hO2.out.cell (j := 2) rfl
          have o3 := hO2.out.cell (j := 3) rfl
          have o9 := hO2.out.lt
          have f0 := hO2.out.frozen 0
          have f1 := hO2.out.frozen 1
          have f2 := hO2.out.frozen 2
          have f3 := hO2.out.frozen 3
          go_wp2
          refine ⟨⟨k + 1, by omega, by go_num, ?_, hB5, ?_⟩, by simp only [intOf]; omega⟩
          · rw [← hnx.out, hnx2]; rfl
          · rw [← hnx.out, hnx2]; exact hO5
        | some y =>
          obtain ⟨c2, d2, n2, m2⟩ := y
          replace hst : nx = if knownB cur day (c, d, n, m) = true ∧ d2 < d then some (c, d, n, m) else some (c2, d2, n2, m2) := hst
          go_wp2_with fail
          refine kn.out.mono ?_
          rintro e w2 ⟨rfl, hb⟩
          have hB2 := Lib.hid (hB7.out.trans (hb.mono hB7.out.size)); have hO2 := Lib.hid (Bk.below hO7.out hb); have hx2 := Lib.hid (hx7.out.below hb)
          clear hb hx7 e1 e2 e3 e4 hbl
          have y0 := hx2.out.cell (j := 0) rfl
          have y1 := hx2.out.cell (j := 1) rfl
          have y2 := hx2.out.cell (j := 2) rfl
          have y3 := hx2.out.cell (j := 3) rfl
          have y9 := hx2.out.lt
          have o0 : w2.cell? ⟨w.heap.size, 0, none⟩ = some (.string c2) := hO2.out.cell (j := 0) rfl
          have o1 : w2.cell? ⟨w.heap.size, 1, none⟩ = some (.int .i64 d2) := hO2.out.cell (j := 1) rfl
          have o2 : w2.cell? ⟨w.heap.size, 2, none⟩ = some (.int .i64 n2) := hO2.out.cell (j := 2) rfl
          have o3 : w2.cell? ⟨w.heap.size, 3, none⟩ = some (.int .i64 m2) := hO2.out.cell (j := 3) rfl
          have o9 := hO2.out.lt
          have k2 : Hid (Calls Tryz.prog 63 #[.agg #[.string c, .int .i64 d, .int .i64 n, .int .i64 m], .agg #[.string c2, .int .i64 d2, .int .i64 n2, .int .i64 m2]] w2 fun e w' => e = .returned (.bool (decide (d2 < d))) ∧ Below w2.heap.size w2 w') := later_any (c, d, n, m) (c2, d2, n2, m2) w2
          by_cases hdd : d2 < d
          · rw [decide_eq_true hdd] at k2
            have hnx2 : nx = some (c, d, n, m) := by rw [hst]; exact if_pos ⟨hcl, hdd⟩
            clear hst hcl
            replace hdd := Lib.hid hdd
            go_wp2_with fail
            refine k2.out.mono ?_
            rintro e w3 ⟨rfl, hb⟩
            have hB3 := Lib.hid (hB2.out.trans (hb.mono hB2.out.size)); have hO3 := Lib.hid (Bk.below hO2.out hb); have hx3 := Lib.hid (hx2.out.below hb)
            clear hb y0 y1 y2 y3 y9 o0 o1 o2 o3 o9
            have y0 := hx3.out.cell (j := 0) rfl
            have y1 := hx3.out.cell (j := 1) rfl
            have y2 := hx3.out.cell (j := 2) rfl
            have y3 := hx3.out.cell (j := 3) rfl
            have y9 := hx3.out.lt
            have hB5 : Hid (Below w.heap.size w ((((w3.setCell ⟨w.heap.size, 0, none⟩ (.string c)).setCell ⟨w.heap.size, 1, none⟩ (.int .i64 d)).setCell ⟨w.heap.size, 2, none⟩ (.int .i64 n)).setCell ⟨w.heap.size, 3, none⟩ (.int .i64 m))) := (((hB3.out.setCell (p := ⟨w.heap.size, 0, none⟩) (Nat.le_refl _) _).setCell (p := ⟨w.heap.size, 1, none⟩) (Nat.le_refl _) _).setCell (p := ⟨w.heap.size, 2, none⟩) (Nat.le_refl _) _).setCell (p := ⟨w.heap.size, 3, none⟩) (Nat.le_refl _) _
            have hO5 : Hid (RB ((((w3.setCell ⟨w.heap.size, 0, none⟩ (.string c)).setCell ⟨w.heap.size, 1, none⟩ (.int .i64 d)).setCell ⟨w.heap.size, 2, none⟩ (.int .i64 n)).setCell ⟨w.heap.size, 3, none⟩ (.int .i64 m)) w.heap.size (c, d, n, m)) := (((Bk.set hO3.out 0 (.string c)).set 1 (.int .i64 d)).set 2 (.int .i64 n)).set 3 (.int .i64 m)
            have o0 := hO3.out.cell (j := 0) rfl
            have o1 := hO3.out.cell (j := 1) rfl
            have o2 := hO3.out.cell (j := 2) rfl
            have o3 := hO3.out.cell (j := 3) rfl
            have o9 := hO3.out.lt
            have f0 := hO3.out.frozen 0
            have f1 := hO3.out.frozen 1
            have f2 := hO3.out.frozen 2
            have f3 := hO3.out.frozen 3
            go_wp2
            refine ⟨⟨k + 1, by omega, by go_num, ?_, hB5, ?_⟩, by simp only [intOf]; omega⟩
            · rw [← hnx.out, hnx2]; rfl
            · rw [← hnx.out, hnx2]; exact hO5
          · rw [decide_eq_false hdd] at k2
            have hnx2 : nx = some (c2, d2, n2, m2) := by rw [hst]; exact if_neg fun h => hdd h.2
            clear hst hcl
            replace hdd := Lib.hid hdd
            go_wp2_with fail
            refine k2.out.mono ?_
            rintro e w3 ⟨rfl, hb⟩
            have hB3 := Lib.hid (hB2.out.trans (hb.mono hB2.out.size)); have hO3 := Lib.hid (Bk.below hO2.out hb); have hx3 := Lib.hid (hx2.out.below hb)
            clear hb y0 y1 y2 y3 y9 o0 o1 o2 o3 o9
            go_wp2
            refine ⟨⟨k + 1, by omega, by go_num, ?_, hB3, ?_⟩, by simp only [intOf]; omega⟩
            · rw [← hnx.out, hnx2]; rfl
            · rw [← hnx.out, hnx2]; exact hO3
    · obtain rfl : k = l.length := by omega
      rw [List.take_length] at hO ⊢
      obtain ⟨bo, hbo⟩ : ∃ y, y = bestR l cur day := ⟨_, rfl⟩
      rw [← hbo] at hO ⊢
      obtain ⟨y, hy⟩ : ∃ y, y = bo.getD noR := ⟨_, rfl⟩
      rw [← hy] at hO
      obtain ⟨c, d, n, m⟩ := y
      have hfin : Hid (Ending.returned (.tuple #[.agg #[.string c, .int .i64 d, .int .i64 n, .int .i64 m], .bool bo.isSome]) = .returned (.tuple #[rtV ((bestR l cur day).getD noR), .bool (bestR l cur day).isSome])) := by rw [← hbo, ← hy]; rfl
      replace hy := Lib.hid hy; replace hbo := Lib.hid hbo
      have o0 : wz.cell? ⟨w.heap.size, 0, none⟩ = some (.string c) := hO.out.cell (j := 0) rfl; have f0 := hO.out.frozen 0
      have o1 : wz.cell? ⟨w.heap.size, 1, none⟩ = some (.int .i64 d) := hO.out.cell (j := 1) rfl; have f1 := hO.out.frozen 1
      have o2 : wz.cell? ⟨w.heap.size, 2, none⟩ = some (.int .i64 n) := hO.out.cell (j := 2) rfl; have f2 := hO.out.frozen 2
      have o3 : wz.cell? ⟨w.heap.size, 3, none⟩ = some (.int .i64 m) := hO.out.cell (j := 3) rfl; have f3 := hO.out.frozen 3
      have o9 := hO.out.lt
      have hB5 : Hid (Below w.heap.size w ((((wz.setCell ⟨w.heap.size, 0, none⟩ (.string c)).setCell ⟨w.heap.size, 1, none⟩ (.int .i64 d)).setCell ⟨w.heap.size, 2, none⟩ (.int .i64 n)).setCell ⟨w.heap.size, 3, none⟩ (.int .i64 m))) := (((hB.out.setCell (p := ⟨w.heap.size, 0, none⟩) (Nat.le_refl _) _).setCell (p := ⟨w.heap.size, 1, none⟩) (Nat.le_refl _) _).setCell (p := ⟨w.heap.size, 2, none⟩) (Nat.le_refl _) _).setCell (p := ⟨w.heap.size, 3, none⟩) (Nat.le_refl _) _
      have hO5 : Hid (RB ((((wz.setCell ⟨w.heap.size, 0, none⟩ (.string c)).setCell ⟨w.heap.size, 1, none⟩ (.int .i64 d)).setCell ⟨w.heap.size, 2, none⟩ (.int .i64 n)).setCell ⟨w.heap.size, 3, none⟩ (.int .i64 m)) w.heap.size (c, d, n, m)) := (((Bk.set hO.out 0 (.string c)).set 1 (.int .i64 d)).set 2 (.int .i64 n)).set 3 (.int .i64 m)
      go_wp2
      have s0 : ((((wz.setCell ⟨w.heap.size, 0, none⟩ (.string c)).setCell ⟨w.heap.size, 1, none⟩ (.int .i64 d)).setCell ⟨w.heap.size, 2, none⟩ (.int .i64 n)).setCell ⟨w.heap.size, 3, none⟩ (.int .i64 m)).cell? ⟨w.heap.size, 0, none⟩ = some (.string c) := hO5.out.cell (j := 0) rfl
      have s1 : ((((wz.setCell ⟨w.heap.size, 0, none⟩ (.string c)).setCell ⟨w.heap.size, 1, none⟩ (.int .i64 d)).setCell ⟨w.heap.size, 2, none⟩ (.int .i64 n)).setCell ⟨w.heap.size, 3, none⟩ (.int .i64 m)).cell? ⟨w.heap.size, 1, none⟩ = some (.int .i64 d) := hO5.out.cell (j := 1) rfl
      have s2 : ((((wz.setCell ⟨w.heap.size, 0, none⟩ (.string c)).setCell ⟨w.heap.size, 1, none⟩ (.int .i64 d)).setCell ⟨w.heap.size, 2, none⟩ (.int .i64 n)).setCell ⟨w.heap.size, 3, none⟩ (.int .i64 m)).cell? ⟨w.heap.size, 2, none⟩ = some (.int .i64 n) := hO5.out.cell (j := 2) rfl
      have s3 : ((((wz.setCell ⟨w.heap.size, 0, none⟩ (.string c)).setCell ⟨w.heap.size, 1, none⟩ (.int .i64 d)).setCell ⟨w.heap.size, 2, none⟩ (.int .i64 n)).setCell ⟨w.heap.size, 3, none⟩ (.int .i64 m)).cell? ⟨w.heap.size, 3, none⟩ = some (.int .i64 m) := hO5.out.cell (j := 3) rfl
      have s9 := hO5.out.lt
      (try simp only [Exit.inBlock, Exit.then])
      refine bodyPost_ret (v := .tuple #[.agg #[.string c, .int .i64 d, .int .i64 n, .int .i64 m], .bool bo.isSome]) (by simp [results, Tryz.results62, go_sem, s0, s1, s2, s3]) rfl ⟨hfin.out, hB5.out⟩
end Mo
end Go.Proofs.YtpmlhgmmobpilaaGreatDoor

namespace Go.Proofs.YtpmlhgmmobpilaaGreatDoor
open Go.RowKit Go.Shelf
namespace Mo
open Nt Ci
/-- The keys of Valid's map: currency and day. -/
def Kd := { x : ByteArray × Int // x.1.size ≤ maxLen ∧ -9223372036854775808 ≤ x.2 ∧ x.2 ≤ 9223372036854775807 }
instance : DecidableEq Kd := fun a b => decidable_of_iff (a.1 = b.1) Subtype.ext_iff.symm
def κd (x : Kd) : Lit := .string (keyBytes [.string x.1.1.data.toList, .int .i64 x.1.2])
theorem lits2 (P : Program) (m : Nat) (t ts ti : TypeId) (f1 f2 : Field) (hu : P.underlying t = some (.struct #[f1, f2])) (hc : P.cellsOf t = 2) (n1 : f1.name ≠ "_") (n2 : f2.name ≠ "_") (o1 : f1.offset = 0) (o2 : f2.offset = 1) (t1 : f1.type = ts) (t2 : f2.type = ti)
    (us : P.underlying ts = some .string) (ui : P.underlying ti = some (.int .i64)) (c1 : P.cellsOf ts = 1) (c2 : P.cellsOf ti = 1) (s : ByteArray) (d : Int) (hs : s.size ≤ maxLen) (hw : (Lit.int .i64 d).wf = true) :
    P.keyLits (m + 2) t [.string s, .int .i64 d] = some [.string s.data.toList, .int .i64 d] := by
  subst t1
  subst t2
  simp [Program.keyLits, hu, hc, n1, n2, o1, o2, us, ui, c1, c2, hs, hw]
theorem keyOf_lits {P : Program} {t : TypeId} {fs : Array Field} {cs : Array Value} {ls : List Lit} {m : Nat} (hu : P.underlying t = some (.struct fs)) (hk : P.keyType t = true) (hf : (Value.agg cs).formed P t = true) (hm : P.types.size + 1 = m + 2) (hl : P.keyLits (m + 2) t (Value.agg cs).cells.toList = some ls) :
    keyOf P t (.agg cs) = some (.string (keyBytes ls)) := by
  unfold keyOf
  rw [hu]
  simp only [hk, hf, Bool.and_true, if_true, hm, hl, Option.map_some]
theorem laidOutP : laidOutB Tryz.prog = true := by kernel_rfl
theorem rowD : (90 : TypeId) < Tryz.prog.types.size := of_decide_eq_true (by kernel_rfl)
theorem wideD : (match Tryz.prog.underlying 90 with | some (.array _ _) | some (.struct _) => true | _ => false) = true := by rw [Tryz.underlying90]
theorem deepD : Tryz.prog.keyTypeAt 2 90 = true := by kernel_rfl
set_option maxRecDepth 100000 in
theorem lawD : WideMaps.KeyLaw Tryz.prog 90 := deep_law_laid laidOutP (m := 2) (Nat.le_of_ble_eq_true rfl) rowD deepD wideD
theorem keyedD : Go.Maps.Keyed Tryz.prog 90 := Go.Maps.Keyed.of_law lawD
theorem cellsD : Tryz.prog.cellsOf 90 = 2 := by kernel_rfl
theorem cellsS : Tryz.prog.cellsOf 9 = 1 := by kernel_rfl
theorem cellsI : Tryz.prog.cellsOf 3 = 1 := by kernel_rfl
theorem keyTypeD : Tryz.prog.keyType 90 = true := by kernel_rfl
theorem sizeD : ∃ m, Tryz.prog.types.size + 1 = m + 2 := by
  have h := rowD
  generalize Tryz.prog.types.size = n at h
  exact ⟨n - 1, by have := Nat.lt_of_le_of_lt (Nat.zero_le _) h; omega⟩
theorem key_d (x : Kd) : keyOf Tryz.prog 90 (.agg #[.string x.1.1, .int .i64 x.1.2]) = some (κd x) := by
  obtain ⟨⟨s, d⟩, h1, h2, h3⟩ := x
  have hf : (Value.agg #[.string s, .int .i64 d]).formed Tryz.prog 90 = true := by simp [Value.formed, Tryz.underlying90, cellsD]
  have hw : (Lit.int .i64 d).wf = true := WalkArith.wf_i64 ⟨h2, h3⟩
  obtain ⟨m, hm⟩ := sizeD
  exact keyOf_lits Tryz.underlying90 keyTypeD hf hm (lits2 Tryz.prog m 90 9 3 _ _ Tryz.underlying90 cellsD (by decide) (by decide) rfl rfl rfl rfl Tryz.underlying9 Tryz.underlying3 cellsS cellsI s d h1 hw)
theorem κd_inj : ∀ x y : Kd, κd x = κd y → x = y := fun x y h => by
  have h1 := keyedD.inj (key_d x) (h ▸ key_d y)
  obtain ⟨⟨s, d⟩, hx⟩ := x
  obtain ⟨⟨t, e⟩, hy⟩ := y
  simp only [Value.agg.injEq, Array.mk.injEq, List.cons.injEq, Value.string.injEq, Value.int.injEq, true_and, and_true] at h1
  obtain ⟨rfl, rfl⟩ := h1
  rfl
theorem zeroB (w : World) : (zeroValue 4).run Tryz.prog w = .ok (.bool false) w := by kernel_rfl
end Mo
end Go.Proofs.YtpmlhgmmobpilaaGreatDoor

namespace Go.Proofs.YtpmlhgmmobpilaaGreatDoor
open Go.RowKit Go.Shelf
namespace Mo
open Nt Ci
theorem pos_w (n : Int) (w : World) : Calls Tryz.prog 64 #[.int .i64 n] w fun e w' => e = .returned (.bool (posB n)) ∧ w' = w := by
  have hd : posB n = (decide (1 ≤ n) && decide (n ≤ 1000000)) := Bool.decide_and _ _
  rw [hd]
  by_cases c1 : 1 ≤ n
  · have m1 : decide (1 ≤ n) = true := decide_eq_true c1
    by_cases c2 : n ≤ 1000000
    · have m2 : decide (n ≤ 1000000) = true := decide_eq_true c2
      rw [m1, m2]
      go_enter Tryz.func64, Tryz.ntmps64
      go_wp2
      go_ret
      exact ⟨rfl, rfl⟩
    · have m2 : decide (n ≤ 1000000) = false := decide_eq_false c2
      rw [m1, m2]
      go_enter Tryz.func64, Tryz.ntmps64
      go_wp2
      go_ret
      exact ⟨rfl, rfl⟩
  · have m1 : decide (1 ≤ n) = false := decide_eq_false c1
    rw [m1, Bool.false_and]
    go_enter Tryz.func64, Tryz.ntmps64
    go_wp2
    go_ret
    exact ⟨rfl, rfl⟩
/-- What is in Valid's map ahead of rate k. -/
def seenF (l : List Rt) (k : Nat) : Kd → Option Value := fun x => if (l.take k).any (fun y => decide (y.1 = x.1.1) && decide (y.2.1 = x.1.2)) = true then some (.bool true) else none
theorem seenF_succ {l : List Rt} {k : Nat} (h : k < l.length) (x : Kd) (h1 : x.1.1 = l[k].1) (h2 : x.1.2 = l[k].2.1) : ∀ y, putF (seenF l k) x (some (.bool true)) y = seenF l (k + 1) y := fun y => by
  unfold seenF
  by_cases e : y = x
  · rw [e, putF_same, List.take_succ_eq_append_getElem h, List.any_append]
    rw [if_pos]
    simp [h1, h2]
  · rw [putF_other e, List.take_succ_eq_append_getElem h, List.any_append]
    congr 1
    have : ([l[k]].any fun z => decide (z.1 = y.1.1) && decide (z.2.1 = y.1.2)) = false := by
      rw [List.any_eq_false]
      intro z hz
      rw [List.mem_singleton.1 hz]
      simp only [Bool.and_eq_true, decide_eq_true_eq, not_and]
      intro g1 g2
      refine e (Subtype.ext (Prod.ext ?_ ?_))
      · rw [h1, g1]
      · rw [h2, g2]
    rw [this, Bool.or_false]
theorem seen_get (l : List Rt) (k : Nat) (x : Kd) : (seenF l k x).getD (.bool false) = .bool ((l.take k).any fun y => decide (y.1 = x.1.1) && decide (y.2.1 = x.1.2)) := by
  unfold seenF
  by_cases c : ((l.take k).any fun y => decide (y.1 = x.1.1) && decide (y.2.1 = x.1.2)) = true
  · rw [if_pos c, c]; rfl
  · rw [if_neg c, Bool.eq_false_iff.2 c]; rfl
theorem rtAt_iff {base : ByteArray} {l : List Rt} {k : Nat} (h : k < l.length) : RtAt base l k h ↔ okR base l[k] = true ∧ ((l.take k).any fun y => decide (y.1 = l[k].1) && decide (y.2.1 = l[k].2.1)) = false := by
  unfold RtAt
  rw [List.any_eq_false]
  constructor
  · rintro ⟨h1, h2⟩
    refine ⟨h1, fun y hy => ?_⟩
    obtain ⟨j, hj, rfl⟩ := List.getElem_of_mem hy
    rw [List.length_take] at hj
    rw [List.getElem_take]
    have := h2 j (by omega)
    unfold sameK at this
    rw [this]
    decide
  · rintro ⟨h1, h2⟩
    refine ⟨h1, fun j hj => ?_⟩
    have := h2 (l[j]'(Nat.lt_trans hj h)) (List.mem_of_getElem (i := j) (h := by rw [List.length_take]; omega) (by rw [List.getElem_take]))
    unfold sameK
    simpa using this
/-- Valid's map, with at most k entries. -/
def SeenM (W : World) (b : Nat) (l : List Rt) (k : Nat) : Prop := ∃ c, MapK Tryz.prog 90 κd W b c (seenF l k) ∧ c ≤ k
set_option maxRecDepth 100000 in
set_option maxHeartbeats 16000000 in
theorem Valid_any (l : List Rt) (A : Option Addr) (cap : Nat) (base : ByteArray) (w : World) (hl : InRt w A l) (hll : l.length ≤ 140737488355328) (hbs : base.size ≤ 140737488355328) (hz : RtSz l) :
    Calls Tryz.prog 22 #[.slice A l.length cap, .string base] w fun e w' => e = .returned (.bool (validR l base)) ∧ Below w.heap.size w w' := by
  have kb := isCurrency_w base w (by omega)
  obtain ⟨bi, hbi⟩ : ∃ x, x = identB base := ⟨_, rfl⟩
  rw [← hbi] at kb
  have hVF : Hid (¬ (bi = true ∧ l.length ≤ 400) → validR l base = false) := fun h => by cases c : validR l base; (· rfl); (· exact absurd ⟨hbi.trans (valid_iff.1 c).1, (valid_iff.1 c).2.1⟩ h)
  have hVB := Lib.hid (fun (k : Nat) (h : k < l.length) (hb : ¬ RtAt base l k h) => valid_bad (base := base) (l := l) h hb)
  have hVT : Hid (bi = true → l.length ≤ 400 → (∀ k (h : k < l.length), RtAt base l k h) → validR l base = true) := fun h1 h2 h3 => valid_iff.2 ⟨hbi.symm.trans h1, h2, h3⟩
  have kic := Lib.hid (fun (s : ByteArray) W (h : s.size ≤ 9223372036854775807) => isCurrency_w s W h)
  replace hbi := Lib.hid hbi
  replace kb := Lib.hid kb
  replace hl := Lib.hid hl
  replace hz := Lib.hid hz
  cases bi with
  | false =>
    have hR : Hid (validR l base = false) := hVF.out fun h => by cases h.1
    go_enter Tryz.func22, Tryz.ntmps22
    go_wp2_with fail
    refine kb.out.mono ?_
    rintro e wq ⟨rfl, hq⟩
    obtain rfl := hq.symm
    go_wp2
    go_ret
    exact ⟨ret_bool hR.out.symm, Below.refl _ _⟩
  | true =>
    by_cases hl4 : l.length ≤ 400
    rotate_left
    · have hR : Hid (validR l base = false) := hVF.out fun h => hl4 h.2
      have m1 : decide (400 < (l.length : Int)) = true := decide_eq_true (by omega)
      go_enter Tryz.func22, Tryz.ntmps22
      go_wp2_with fail
      refine kb.out.mono ?_
      rintro e wq ⟨rfl, hq⟩
      obtain rfl := hq.symm
      go_wp2
      go_ret
      exact ⟨ret_bool hR.out.symm, Below.refl _ _⟩
    · have m1 : decide (400 < (l.length : Int)) = false := decide_eq_false (by omega)
      have hmm := @run_makeMap Tryz.prog
      have hM0 : Hid (SeenM (w.alloc (.map #[] 0)) w.heap.size l 0) := ⟨0, (MapK.made w _ _ _).congr fun x => by simp [seenF], Nat.le_refl _⟩
      have hB0 : Hid (Below w.heap.size w (w.alloc (.map #[] 0))) := (Below.refl _ w).alloc (Nat.le_refl _) _
      go_enter Tryz.func22, Tryz.ntmps22
      go_wp2_with fail
      refine kb.out.mono ?_
      rintro e wq ⟨rfl, hq⟩
      obtain rfl := hq.symm
      go_wp2
      clear hmm
      go_loopw [21] (fun i wr => ∃ k : Nat, k ≤ l.length ∧ i = .int .i64 (k : Int) ∧ Hid (Below w.heap.size w wr) ∧ Hid (SeenM wr w.heap.size l k) ∧ Hid (∀ j (h : j < l.length), j < k → RtAt base l j h)) (fun i _ => l.length - (intOf i).toNat)
      case atStart => exact ⟨0, Nat.zero_le _, rfl, hB0, hM0, fun j _ h => absurd h (Nat.not_lt_zero _)⟩
      case round =>
        obtain ⟨k, hk, rfl, hB, hM, hI⟩ := hrel
        clear hM0 hB0
        obtain ⟨wz, rfl⟩ : ∃ z, z = wr := ⟨_, rfl⟩
        by_cases hlt : k < l.length
        · obtain ⟨b, off, rfl, hbl, hcc⟩ := (hl.out.below hB.out) (by omega)
          obtain ⟨e1, e2, e3, e4⟩ := hcc k hlt
          have hzz := hz.out l[k] (List.getElem_mem hlt)
          have hat := @rtAt_iff base l k hlt
          have hbad := hVB.out k hlt
          have k0 : (0 : Int) ≤ (k : Int) := by omega
          have k1 : (k : Int) < (l.length : Int) := by omega
          have hAl : Hid (RtAt base l k hlt → ∀ j (h : j < l.length), j < k + 1 → RtAt base l j h) := fun h j hj h2 => by
            by_cases e : j = k
            · subst e; exact h
            · exact hI.out j hj (by omega)
          have hsu := @seenF_succ l k hlt
          generalize RtAt base l k hlt = RA at hat hbad hAl
          obtain ⟨x, hx⟩ : ∃ x, x = l[k] := ⟨_, rfl⟩
          rw [← hx] at e1 e2 e3 e4 hzz hat hsu
          replace hx := Lib.hid hx
          obtain ⟨c, d, n, m⟩ := x
          replace e1 : wz.cell? ⟨b, off + k * 4, none⟩ = some (.string c) := e1; replace e2 : wz.cell? ⟨b, off + k * 4 + 1, none⟩ = some (.int .i64 d) := e2; replace e3 : wz.cell? ⟨b, off + k * 4 + 2, none⟩ = some (.int .i64 n) := e3; replace e4 : wz.cell? ⟨b, off + k * 4 + 3, none⟩ = some (.int .i64 m) := e4
          obtain ⟨z1, ⟨z2, z3⟩, ⟨z4, z5⟩, z6, z7⟩ : c.size ≤ 140737488355328 ∧ (-9223372036854775808 ≤ d ∧ d ≤ 9223372036854775807) ∧ (-9223372036854775808 ≤ n ∧ n ≤ 9223372036854775807) ∧ (-9223372036854775808 ≤ m ∧ m ≤ 9223372036854775807) := hzz
          obtain ⟨kx, hkx⟩ : ∃ x : Kd, x = ⟨(c, d), by show c.size ≤ maxLen; unfold maxLen; omega, z2, z3⟩ := ⟨_, rfl⟩
          have hkx1 : kx.1.1 = c := by rw [hkx]
          have hkx2 : kx.1.2 = d := by rw [hkx]
          have hkd := key_d kx
          rw [hkx1, hkx2] at hkd
          replace hsu := Lib.hid (hsu kx hkx1 hkx2)
          replace hkx := Lib.hid hkx
          clear hcc
          have hB7 : Hid (Below w.heap.size w ((wz.alloc (.cells #[.string c, .int .i64 d, .int .i64 n, .int .i64 m] 42)).alloc (.cells #[.string c, .int .i64 d] 90))) := (hB.out.alloc hB.out.size _).alloc (by have := hB.out.size; simp; omega) _
          obtain ⟨mc, hM1, hmc⟩ := hM.out
          have hM7 := (hM1.alloc (.cells #[.string c, .int .i64 d, .int .i64 n, .int .i64 m] 42)).alloc (.cells #[.string c, .int .i64 d] 90)
          have hlook := hM7.look keyedD Tryz.underlying88 (zeroB _) hkd
          rw [seen_get, hkx1, hkx2] at hlook
          obtain ⟨w9, hrun, hM9, hg9⟩ := hM7.put κd_inj keyedD Tryz.underlying88 (by unfold maxLen; omega) hkd (.bool true)
          have hM8 : Hid (SeenM w9 w.heap.size l (k + 1)) := ⟨_, hM9.congr hsu.out, by split <;> omega⟩
          have hB8 : Hid (Below w.heap.size w w9) := hB7.out.grown hg9 hB7.out.size (fun b e => by cases e; exact Nat.le_refl _)
          have hx7 : Hid (Bk ((wz.alloc (.cells #[.string c, .int .i64 d, .int .i64 n, .int .i64 m] 42)).alloc (.cells #[.string c, .int .i64 d] 90)) wz.heap.size 42 [.string c, .int .i64 d, .int .i64 n, .int .i64 m]) := (Bk.new wz _ _).alloc _
          have hy7 : Hid (Bk ((wz.alloc (.cells #[.string c, .int .i64 d, .int .i64 n, .int .i64 m] 42)).alloc (.cells #[.string c, .int .i64 d] 90)) (wz.heap.size + 1) 90 [.string c, .int .i64 d]) := by have h := Bk.new (wz.alloc (.cells #[.string c, .int .i64 d, .int .i64 n, .int .i64 m] 42)) 90 [.string c, .int .i64 d]; rw [World.size_alloc] at h; exact h
          have hE := @toList_eq c base
          replace hat : Hid (RA ↔ okR base (c, d, n, m) = true ∧ ((l.take k).any fun y => decide (y.1 = c) && decide (y.2.1 = d)) = false) := hat
          have hok : Hid (okR base (c, d, n, m) = (identB c && !decide (c = base) && dayB d && posB n && posB m)) := rfl
          have k1c := kic.out c ((wz.alloc (.cells #[.string c, .int .i64 d, .int .i64 n, .int .i64 m] 42)).alloc (.cells #[.string c, .int .i64 d] 90)) (by omega)
          have k2c := isDay_w d ((wz.alloc (.cells #[.string c, .int .i64 d, .int .i64 n, .int .i64 m] 42)).alloc (.cells #[.string c, .int .i64 d] 90))
          have k3c := pos_w n ((wz.alloc (.cells #[.string c, .int .i64 d, .int .i64 n, .int .i64 m] 42)).alloc (.cells #[.string c, .int .i64 d] 90))
          have k4c := pos_w m ((wz.alloc (.cells #[.string c, .int .i64 d, .int .i64 n, .int .i64 m] 42)).alloc (.cells #[.string c, .int .i64 d] 90))
          generalize identB c = b1 at hok k1c
          generalize decide (c = base) = b2 at hok hE
          generalize dayB d = b3 at hok k2c
          generalize posB n = b4 at hok k3c
          generalize posB m = b5 at hok k4c
          generalize ((l.take k).any fun y => decide (y.1 = c) && decide (y.2.1 = d)) = b6 at hat hlook
          replace k1c := Lib.hid k1c; replace k2c := Lib.hid k2c; replace k3c := Lib.hid k3c; replace k4c := Lib.hid k4c
          clear hM1 hM7 hM9 hg9 hM hkd
          have x0 := hx7.out.cell (j := 0) rfl
          have x1 := hx7.out.cell (j := 1) rfl
          have x2 := hx7.out.cell (j := 2) rfl
          have x3 := hx7.out.cell (j := 3) rfl
          have y0 := hy7.out.cell (j := 0) rfl
          have y1 := hy7.out.cell (j := 1) rfl
          have x9 := hx7.out.lt; have y9 := hy7.out.lt
          clear hx7 hy7
          go_wp2_with fail
          refine k1c.out.mono ?_
          rintro e wq ⟨rfl, hq⟩
          obtain rfl := hq.symm
          cases b1 with
          | false =>
            have hR : Hid (validR l base = false) := hbad fun h => by have h1 := (hat.out.1 h).1; rw [hok.out] at h1; simp at h1
            clear hlook hrun
            go_wp2
            go_ret
            exact ⟨ret_bool hR.out.symm, hB7.out⟩
          | true =>
            cases b2 with
            | true =>
              have hR : Hid (validR l base = false) := hbad fun h => by have h1 := (hat.out.1 h).1; rw [hok.out] at h1; simp at h1
              clear hlook hrun
              go_wp2
              go_ret
              exact ⟨ret_bool hR.out.symm, hB7.out⟩
            | false =>
              go_wp2_with fail
              refine k2c.out.mono ?_
              rintro e wq ⟨rfl, hq⟩
              obtain rfl := hq.symm
              cases b3 with
              | false =>
                have hR : Hid (validR l base = false) := hbad fun h => by have h1 := (hat.out.1 h).1; rw [hok.out] at h1; simp at h1
                clear hlook hrun
                go_wp2
                go_ret
                exact ⟨ret_bool hR.out.symm, hB7.out⟩
              | true =>
                go_wp2_with fail
                refine k3c.out.mono ?_
                rintro e wq ⟨rfl, hq⟩
                obtain rfl := hq.symm
                cases b4 with
                | false =>
                  have hR : Hid (validR l base = false) := hbad fun h => by have h1 := (hat.out.1 h).1; rw [hok.out] at h1; simp at h1
                  clear hlook hrun
                  go_wp2
                  go_ret
                  exact ⟨ret_bool hR.out.symm, hB7.out⟩
                | true =>
                  go_wp2_with fail
                  refine k4c.out.mono ?_
                  rintro e wq ⟨rfl, hq⟩
                  obtain rfl := hq.symm
                  cases b5 with
                  | false =>
                    have hR : Hid (validR l base = false) := hbad fun h => by have h1 := (hat.out.1 h).1; rw [hok.out] at h1; simp at h1
                    clear hlook hrun
                    go_wp2
                    go_ret
                    exact ⟨ret_bool hR.out.symm, hB7.out⟩
                  | true =>
                    cases b6 with
                    | true =>
                      have hR : Hid (validR l base = false) := hbad fun h => by have h1 := (hat.out.1 h).2; cases h1
                      clear hrun
                      go_wp2
                      go_ret
                      exact ⟨ret_bool hR.out.symm, hB7.out⟩
                    | false =>
                      have hRA := hAl.out (hat.out.2 ⟨by rw [hok.out]; rfl, rfl⟩)
                      replace hRA := Lib.hid hRA
                      clear hbad
                      go_wp2
                      exact ⟨⟨k + 1, by omega, by go_num, hB8, hM8, hRA⟩, by simp only [intOf]; omega⟩
        · obtain rfl : k = l.length := by omega
          have hR : Hid (validR l base = true) := hVT.out (by first | rfl | trivial) hl4 fun j hj => hI.out j hj hj
          clear hI
          go_wp2
          go_ret
          exact ⟨ret_bool hR.out.symm, hB.out⟩
end Mo
end Go.Proofs.YtpmlhgmmobpilaaGreatDoor

/- RatioValid: the walk. -/
import Derived.Test.YtjahnkeafaebdaaGreatDoorRatDuo
import Derived.Deep.RegionHeld3
import Derived.IntWalk
namespace Go.Proofs.YtjahnkeafaebdaaGreatDoor
open Go.RowKit Go.Shelf
namespace Nt

theorem REnv.env {w : World} (h : REnv w) : Env w := h.1
theorem dg_short {q : Rat} (h : ShortQ q) : Dg mx1 q := h
theorem ok_dg {q : Rat} {k : Nat} (h : Dg k q) (hk : k ≤ 300) : OkQ q := by
  have h1 : 10 ^ k ≤ Lim := by
    unfold Lim
    exact Nat.pow_le_pow_right (by omega) (by rw [mxd_eq]; exact hk)
  exact ⟨Nat.lt_of_lt_of_le h.1 h1, Nat.lt_of_lt_of_le h.2 h1⟩
theorem ok_of_sum {p q : Rat} (hp : ShortQ p) (hq : ShortQ q) : OkQ (p + q) := ok_dg ((dg_short hp).add (dg_short hq)) (by rw [mx1_eq]; omega)
theorem ok_of_sub {p q : Rat} (hp : ShortQ p) (hq : ShortQ q) : OkQ (p - q) := ok_dg ((dg_short hp).sub (dg_short hq)) (by rw [mx1_eq]; omega)
theorem ok_of_mul {p q : Rat} (hp : ShortQ p) (hq : ShortQ q) : OkQ (p * q) := ok_dg ((dg_short hp).mul (dg_short hq)) (by rw [mx1_eq]; omega)
theorem ok_of_div {p q : Rat} (hp : ShortQ p) (hq : ShortQ q) (h0 : q ≠ 0) : OkQ (p / q) := ok_dg ((dg_short hp).div (dg_short hq) h0) (by rw [mx1_eq]; omega)
theorem valid_none : validB false ⟨#[]⟩ ⟨#[]⟩ = false := rfl
/-- The numbers and the row of functions. -/
def VAt (W : World) (B Bo k K : Nat) (g1 g2 : Bool) (n1 d1 n2 d2 : ByteArray) : Prop := B3 W B g1 n1 d1 ∧ B3 W (B + 1) g2 n2 d2 ∧ Bo < W.heap.size ∧ W.cell? ⟨Bo, k, none⟩ = some (.func (.func K) #[] #[])
theorem VAt.seven {W : World} {B Bo k K : Nat} {g1 g2 : Bool} {n1 d1 n2 d2 : ByteArray} (h : VAt W B Bo k K g1 g2 n1 d1 n2 d2) :
    W.cell? ⟨Bo, k, none⟩ = some (.func (.func K) #[] #[]) ∧ W.cell? ⟨B, 0, none⟩ = some (.bool g1) ∧ W.cell? ⟨B, 1, none⟩ = some (.string n1) ∧ W.cell? ⟨B, 2, none⟩ = some (.string d1) ∧
    W.cell? ⟨B + 1, 0, none⟩ = some (.bool g2) ∧ W.cell? ⟨B + 1, 1, none⟩ = some (.string n2) ∧ W.cell? ⟨B + 1, 2, none⟩ = some (.string d2) :=
  ⟨h.2.2.2, h.1.facts.1, h.1.facts.2.1, h.1.facts.2.2.1, h.2.1.facts.1, h.2.1.facts.2.1, h.2.1.facts.2.2.1⟩
theorem VAt.below {W W' : World} {B Bo k K : Nat} {g1 g2 : Bool} {n1 d1 n2 d2 : ByteArray} (h : VAt W B Bo k K g1 g2 n1 d1 n2 d2) (hb : Below W.heap.size W W') : VAt W' B Bo k K g1 g2 n1 d1 n2 d2 :=
  ⟨h.1.below hb, h.2.1.below hb, Nat.lt_of_lt_of_le h.2.2.1 hb.size, (hb.cell (p := ⟨Bo, k, none⟩) h.2.2.1).trans h.2.2.2⟩
theorem VAt.alloc {W : World} {B Bo k K : Nat} {g1 g2 : Bool} {n1 d1 n2 d2 : ByteArray} (h : VAt W B Bo k K g1 g2 n1 d1 n2 d2) (o : Obj) : VAt (W.alloc o) B Bo k K g1 g2 n1 d1 n2 d2 :=
  h.below ((Below.refl _ W).alloc (Nat.le_refl _) o)
theorem VAt.seven_set {W : World} {B Bo k K Bx : Nat} {g1 g2 : Bool} {n1 d1 n2 d2 : ByteArray} (h : VAt W B Bo k K g1 g2 n1 d1 n2 d2) (h1 : B ≠ Bx) (h2 : B + 1 ≠ Bx) (h3 : Bo ≠ Bx) (x y z : Value) :
    (((W.setCell ⟨Bx, 0, none⟩ x).setCell ⟨Bx, 1, none⟩ y).setCell ⟨Bx, 2, none⟩ z).cell? ⟨Bo, k, none⟩ = some (.func (.func K) #[] #[]) ∧ (((W.setCell ⟨Bx, 0, none⟩ x).setCell ⟨Bx, 1, none⟩ y).setCell ⟨Bx, 2, none⟩ z).cell? ⟨B, 0, none⟩ = some (.bool g1) ∧ (((W.setCell ⟨Bx, 0, none⟩ x).setCell ⟨Bx, 1, none⟩ y).setCell ⟨Bx, 2, none⟩ z).cell? ⟨B, 1, none⟩ = some (.string n1) ∧ (((W.setCell ⟨Bx, 0, none⟩ x).setCell ⟨Bx, 1, none⟩ y).setCell ⟨Bx, 2, none⟩ z).cell? ⟨B, 2, none⟩ = some (.string d1) ∧
    (((W.setCell ⟨Bx, 0, none⟩ x).setCell ⟨Bx, 1, none⟩ y).setCell ⟨Bx, 2, none⟩ z).cell? ⟨B + 1, 0, none⟩ = some (.bool g2) ∧ (((W.setCell ⟨Bx, 0, none⟩ x).setCell ⟨Bx, 1, none⟩ y).setCell ⟨Bx, 2, none⟩ z).cell? ⟨B + 1, 1, none⟩ = some (.string n2) ∧ (((W.setCell ⟨Bx, 0, none⟩ x).setCell ⟨Bx, 1, none⟩ y).setCell ⟨Bx, 2, none⟩ z).cell? ⟨B + 1, 2, none⟩ = some (.string d2) := by
  obtain ⟨k0, k1, k2, k3, k4, k5, k6⟩ := h.seven
  exact ⟨(set3_other _ _ _ _ _ _ _ h3).trans k0, (set3_other _ _ _ _ _ _ _ h1).trans k1, (set3_other _ _ _ _ _ _ _ h1).trans k2, (set3_other _ _ _ _ _ _ _ h1).trans k3, (set3_other _ _ _ _ _ _ _ h2).trans k4, (set3_other _ _ _ _ _ _ _ h2).trans k5, (set3_other _ _ _ _ _ _ _ h2).trans k6⟩
theorem VAt.new (W : World) {B : Nat} (k K : Nat) (l : Array Value) {g1 g2 : Bool} {n1 d1 n2 d2 : ByteArray} (t : TypeId) (hk : l[k]? = some (.func (.func K) #[] #[])) (h1 : B3 W B g1 n1 d1) (h2 : B3 W (B + 1) g2 n2 d2) : VAt (W.alloc (.cells l t)) B W.heap.size k K g1 g2 n1 d1 n2 d2 := by
  refine ⟨h1.alloc _, h2.alloc _, by simp, ?_⟩
  have h := heap_alloc_new W (.cells l t)
  simp only [World.cell?, h]
  exact hk

set_option maxRecDepth 100000 in
set_option maxHeartbeats 4000000 in
theorem rvalid_bad0 (g1 g2 : Bool) (n1 d1 n2 d2 : ByteArray) (raw : Int) (hs : shortB 160 [(n1, d1), (n2, d2)] = false) (w : World) (hE : REnv w) :
    Calls Tryz.prog 7 #[.agg #[.bool g1, .string n1, .string d1], .agg #[.bool g2, .string n2, .string d2], .int .u8 raw] w fun e w' => e = .returned (.bool true) ∧ Below w.heap.size w w' := by
  replace hE := Lib.hid hE
  replace hs := Lib.hid hs
  go_enter Tryz.func7, Tryz.ntmps7
  go_wp2_with fail
  refine (rhead_any _ (hE.out.below (duoW_below w g1 g2 n1 d1 n2 d2))).mono ?_
  rintro e w0 ⟨rfl, hb⟩
  obtain ⟨qa, qb⟩ := duoW_boxes w g1 g2 n1 d1 n2 d2
  replace qa := Lib.hid (qa.below hb)
  replace qb := Lib.hid (qb.below hb)
  have hB := Lib.hid ((duoW_below w g1 g2 n1 d1 n2 d2).trans (hb.mono (duoW_below w g1 g2 n1 d1 n2 d2).size))
  clear hb
  obtain ⟨a1, a2, a3, a4, a5, a6⟩ := qa.out.facts
  have a7 := qa.out.lt
  obtain ⟨b1, b2, b3, b4, b5, b6⟩ := qb.out.facts
  have b7 := qb.out.lt
  go_wp2_with fail
  refine (short_any 160 [(n1, d1), (n2, d2)] w0.heap.size 2 _ (by simp) (raws2 w0 g1 g2 n1 d1 n2 d2)).mono ?_
  rintro e wx ⟨rfl, rfl⟩
  rw [hs.out]
  clear a1 a2 a3 a4 a5 a6 a7 b1 b2 b3 b4 b5 b6 b7
  obtain ⟨w1, hw1⟩ : ∃ W, W = w0.alloc (.cells #[.bool g1, .string n1, .string d1, .bool g2, .string n2, .string d2] 23) := ⟨_, rfl⟩
  rw [← hw1]
  replace qa := qa.out
  replace qb := qb.out
  replace qa := qa.alloc (.cells #[.bool g1, .string n1, .string d1, .bool g2, .string n2, .string d2] 23)
  replace qb := qb.alloc (.cells #[.bool g1, .string n1, .string d1, .bool g2, .string n2, .string d2] 23)
  replace hB := Lib.hid (hB.out.alloc hB.out.size (.cells #[.bool g1, .string n1, .string d1, .bool g2, .string n2, .string d2] 23))
  rw [← hw1] at hB qa qb
  replace qa := Lib.hid qa
  replace qb := Lib.hid qb
  clear hw1
  go_wp2
  go_ret
  exact ⟨rfl, hB.out⟩


end Nt
end Go.Proofs.YtjahnkeafaebdaaGreatDoor


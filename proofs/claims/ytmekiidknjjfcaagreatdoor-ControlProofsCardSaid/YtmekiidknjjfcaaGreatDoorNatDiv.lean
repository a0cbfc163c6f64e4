/- The walks of natural's div and of its closure. -/
import Derived.Test.YtmekiidknjjfcaaGreatDoorNatSearch
import Derived.Test.YtmekiidknjjfcaaGreatDoorNatMul
import Derived.Deep.RegionWith
import Derived.BigRegion
import Derived.Deep.RegionHeld3
namespace Go.Proofs.YtmekiidknjjfcaaGreatDoor
open Go.RowKit Go.Shelf
namespace Nt

theorem num_one (w : World) (x : Nat) (h0 : 0 < x) (h : x < 1000000000) {X : Int} (hX : X = (x : Int)) :
    Num (w.alloc (.cells #[.int .u64 X] 45)) (.slice (some ⟨w.heap.size, 0, none⟩) 1 1) x := by
  subst hX
  refine ⟨[x], ⟨fun y hy => ?_, ?_⟩, by simp [lv], ?_⟩
  · simp at hy; omega
  · simp; omega
  · refine Sl.mk (xs := [x]) (by simp) (Nat.le_refl _) (fun i hi => ?_)
    have hi : i < 1 := hi
    obtain rfl : i = 0 := by omega
    rw [Nat.zero_add, World.cell?_alloc_new]
    rfl

theorem small_of_le {a b : Nat} (h : Small b) (hab : a ≤ b) : Small a := Nat.lt_of_le_of_lt hab h

theorem small_limb {a : Nat} (h : a < 1000000000) : Small a := by
  have h1 : 1000000000 ^ 1 ≤ 1000000000 ^ 200 := Nat.pow_le_pow_right (by omega) (by omega)
  rw [Nat.pow_one] at h1
  exact Nat.lt_of_lt_of_le h h1

theorem cmpN_pos (x y : Nat) : decide (0 < cmpN x y) = decide (y < x) := by
  unfold cmpN
  split
  · simp; omega
  · split
    · simp; omega
    · simp; omega

theorem num_one_drew {w : World} {v : Value} {x : Nat} (h : Num w v x) : Num w.drew v x := h

set_option maxHeartbeats 2000000 in
theorem closure_any (W : World) (k : Nat) (hk : k < 999999999) (bm br : Nat) (mv rv : Value) (M R : Nat) (hm : W.cell? ⟨bm, 0, none⟩ = some mv) (hr : W.cell? ⟨br, 0, none⟩ = some rv)
    (hM : Hid (Num W mv M)) (hR : Hid (Num W rv R)) (hbM : Hid (Small (M * 1000000000))) :
    Calls Tryz.prog 126 #[.int .i64 (k : Int), .pointer (some ⟨bm, 0, none⟩), .pointer (some ⟨br, 0, none⟩)] W fun e W' => e = .returned (.bool (decide (R < M * (k + 1)))) ∧ Below W.heap.size W W' := by
  have hbr : br < W.heap.size := block_lt_of_cell hr
  have hbm : bm < W.heap.size := block_lt_of_cell hm
  have s1 : IntKind.i64.wrap ((k : Int) + 1) = (k : Int) + 1 := IntWalk.i64_in _ (by omega)
  have s2 : IntKind.u64.wrap ((k : Int) + 1) = (k : Int) + 1 := IntWalk.u64_in _ (by omega)
  have hone := num_one W (k + 1) (by omega) (by omega) (X := (k : Int) + 1) (by omega)
  have cM := mul_any (W.alloc (.cells #[.int .u64 ((k : Int) + 1)] 45)).drew mv (.slice (some ⟨W.heap.size, 0, none⟩) 1 1) M (k + 1) (hM.out.below ((Below.refl _ _).alloc (Nat.le_refl _) _).drew) hone (small_of_le hbM.out (by omega)) (small_limb (by omega))
  go_enter Tryz.func126, Tryz.ntmps126
  go_wp2
  go_region_held3 (fun w' => w'.cell? ⟨bm, 0, none⟩ = some mv ∧ w'.cell? ⟨br, 0, none⟩ = some rv)
    (first
      | go_keep
      | (go_split_ands
         refine ⟨?_, ?_⟩
         · assumption
         · assumption))
    (first
    | (go_at_call 116; refine cM.mono ?_; rintro e w' ⟨v, rfl, hv, _, hb⟩; have hbW : Below W.heap.size W w' := ((Below.refl W.heap.size W).alloc (Nat.le_refl _) _).drew.trans (hb.mono (by simp)); have hcm := (hbW.cell (p := ⟨bm, 0, none⟩) hbm).trans hm; have hcr := (hbW.cell (p := ⟨br, 0, none⟩) hbr).trans hr; replace hb := Lib.hid hb; replace hbW := Lib.hid hbW)
    | (go_at_call 97; refine (compare_any _ _ _ (M * (k + 1)) R (by assumption) (by exact hR.out.below (Hid.out (by assumption))) (small_of_le hbM.out (Nat.mul_le_mul_left _ (by omega))) (by have := (Hid.out (p := Below W.heap.size W _) (by assumption)).size; omega)).mono ?_; rintro e w2 ⟨rfl, hb2⟩; have hbW2 : Below W.heap.size W w2 := hbW.out.trans (hb2.mono hbW.out.size); have hcm2 := (hbW2.cell (p := ⟨bm, 0, none⟩) hbm).trans hm; have hcr2 := (hbW2.cell (p := ⟨br, 0, none⟩) hbr).trans hr; replace hbW2 := Lib.hid hbW2; clear hcm hcr hb2))
  go_wp2
  go_ret
  exact ⟨congrArg (fun b => Ending.returned (.bool b)) (cmpN_pos _ _), hbW2.out⟩

end Nt
end Go.Proofs.YtmekiidknjjfcaaGreatDoor

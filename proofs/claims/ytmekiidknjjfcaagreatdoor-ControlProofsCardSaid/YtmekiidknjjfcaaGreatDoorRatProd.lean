/- The walks of ratio's product and opposite. -/
import Derived.Test.YtmekiidknjjfcaaGreatDoorRatSums
import Derived.Deep.RegionHeld3
import Derived.Deep.DeepCutAuto
namespace Go.Proofs.YtmekiidknjjfcaaGreatDoor
open Go.RowKit Go.Shelf
namespace Nt

theorem set3_other (W : World) (B b o : Nat) (x y z : Value) (h : b ≠ B) : (((W.setCell ⟨B, 0, none⟩ x).setCell ⟨B, 1, none⟩ y).setCell ⟨B, 2, none⟩ z).cell? ⟨b, o, none⟩ = W.cell? ⟨b, o, none⟩ :=
  World.cell?_of_block (w := W) (a := ⟨b, o, none⟩) (((Below.heap_setCell _ _ _ _ (by exact h)).trans (Below.heap_setCell _ _ _ _ (by exact h))).trans (Below.heap_setCell _ _ _ _ (by exact h)))

theorem opp_any (g : Bool) (n d : ByteArray) (w : World) :
    Calls Tryz.prog 77 #[.agg #[.bool g, .string n, .string d]] w fun e w' => e = .returned (.agg #[.bool (!g && !(n.toList == [48])), .string n, .string d]) ∧ Below w.heap.size w w' := by
  cases g with
  | true =>
    go_enter Tryz.func77, Tryz.ntmps77
    go_wp2
    refine bodyPost_ret (v := .agg #[.bool false, .string n, .string d]) (by simp [results, Tryz.results77, go_sem]) rfl ⟨rfl, ?_⟩
    repeat refine Below.setCell ?_ (by simp only []; omega) _
    exact ((Below.refl _ w).alloc (Nat.le_refl _) _).alloc (by simp) _
  | false =>
    cases hz : (n.toList == [48]) with
    | true =>
      go_enter Tryz.func77, Tryz.ntmps77
      go_wp2
      refine bodyPost_ret (v := .agg #[.bool false, .string n, .string d]) (by simp [results, Tryz.results77, go_sem]) rfl ⟨rfl, ?_⟩
      repeat refine Below.setCell ?_ (by simp only []; omega) _
      exact ((Below.refl _ w).alloc (Nat.le_refl _) _).alloc (by simp) _
    | false =>
      go_enter Tryz.func77, Tryz.ntmps77
      go_wp2
      refine bodyPost_ret (v := .agg #[.bool true, .string n, .string d]) (by simp [results, Tryz.results77, go_sem]) rfl ⟨rfl, ?_⟩
      repeat refine Below.setCell ?_ (by simp only []; omega) _
      exact ((Below.refl _ w).alloc (Nat.le_refl _) _).alloc (by simp) _

end Nt
end Go.Proofs.YtmekiidknjjfcaaGreatDoor


/- The walk of operation.run: its checks, and the operation. -/
import Derived.Test.YthggedpgcchneaaGreatDoorRatBox
namespace Go.Proofs.YthggedpgcchneaaGreatDoor
open Go.RowKit Go.Shelf
namespace Nt

theorem four_below (w : World) (o1 o2 o3 o4 : Obj) : Below w.heap.size w ((((w.alloc o1).alloc o2).alloc o3).alloc o4) :=
  ((((Below.refl _ w).alloc (Nat.le_refl _) _).alloc (by simp) _).alloc (by simp; omega) _).alloc (by simp; omega) _
theorem ret_agg {r r' : Bool} {n n' d d' : ByteArray} {e e' : Int} (h1 : r = r') (h2 : n = n') (h3 : d = d') (h4 : e = e') : Ending.returned (.tuple #[.agg #[.bool r, .string n, .string d], .int .i64 e]) = .returned (.tuple #[.agg #[.bool r', .string n', .string d'], .int .i64 e']) := by rw [h1, h2, h3, h4]

end Nt
end Go.Proofs.YthggedpgcchneaaGreatDoor


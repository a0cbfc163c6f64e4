/- Certificates as parameters. -/
import Derived.Test.YtmekiidknjjfcaaGreatDoorCirF
import Derived.Test.YtmekiidknjjfcaaGreatDoorCoA
namespace Go.Proofs.YtmekiidknjjfcaaGreatDoor
open Go.ChangeShapes Go.WideShapes Go.ChangeAt Go.RowKit Go.Shelf Go.Joins Go.Deep
namespace Co
open Nt Ci
section
variable {H : Type} {enc : TypeId × Value → H} {w : World} {base : Nat} {held : Bool}
/-- A certificate's datum. -/
def isProof (lo lc : List Int) (d : DataW H) : Prop := ∃ d1 d2, d = .agg [d1, d2] ∧ isSl intD lo d1 ∧ isSl intD lc d2
theorem cells_proof : Tryz.prog.cellsOf 28 = 2 := by kernel_rfl
set_option maxRecDepth 100000 in
theorem open_proof {r : Go.Reach} {b0 : Nat} {v : Value} {d : DataW H} {p : List MemPlace} (hv : Value.okWide Tryz.prog w r b0 28 v) (h : DataW.Trod enc Tryz.prog w base (fun _ => true) held 28 v d p) :
    ∃ (Ao : Option Addr) (co : Nat) (Al : Option Addr) (cl : Nat) (lo lc : List Int), v = .agg #[.slice Ao lo.length co, .slice Al lc.length cl] ∧ isProof lo lc d ∧ InInt w Ao lo ∧ InInt w Al lc := by
  obtain ⟨c0, c1, y0, y1, m, rfl, rfl, _, hy0, hy1⟩ := open_agg2 Tryz.underlying28 (by kernel_rfl) cells_proof hv h
  obtain ⟨Ao, co, lo, e0, i0, m0, _⟩ := open_ints' hy0
  obtain ⟨Al, cl, lc, e1, i1, m1, _⟩ := open_ints' hy1
  simp only [List.cons.injEq, and_true] at e0 e1
  subst e0 e1
  exact ⟨Ao, co, Al, cl, lo, lc, rfl, ⟨_, _, rfl, i0, i1⟩, m0, m1⟩
set_option maxRecDepth 100000 in
theorem size_proof {lo lc : List Int} {d : DataW H} (h : isProof lo lc d) (hw : ∀ m ∈ d.weights Tryz.prog 28, m ≤ 140737488351232) : lo.length ≤ 140737488355328 ∧ lc.length ≤ 140737488355328 := by
  obtain ⟨d1, d2, rfl, i0, i1⟩ := h
  have e : (DataW.agg [d1, d2]).weights Tryz.prog 28 = d1.weights Tryz.prog 26 ++ d2.weights Tryz.prog 26 := by
    simp [DataW.weights, DataW.weightsEach, Tryz.underlying28]
  rw [e] at hw
  exact ⟨(size_sl Tryz.underlying26 (Nat.lt_of_lt_of_eq (by decide : 0 < 8) (by kernel_rfl)) i0 fun m hm => hw m (List.mem_append_left _ hm)).1, (size_sl Tryz.underlying26 (Nat.lt_of_lt_of_eq (by decide : 0 < 8) (by kernel_rfl)) i1 fun m hm => hw m (List.mem_append_right _ hm)).1⟩
end
end Co
end Go.Proofs.YtmekiidknjjfcaaGreatDoor

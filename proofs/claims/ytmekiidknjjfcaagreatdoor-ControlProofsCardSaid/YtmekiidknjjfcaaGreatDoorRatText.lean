/- ratio's Parse, and what the functions of this package ask of a world. -/
import Derived.Test.YtmekiidknjjfcaaGreatDoorRatOf
import Derived.Lib.IndexMore
namespace Go.Proofs.YtmekiidknjjfcaaGreatDoor
open Go.RowKit Go.Shelf
namespace Nt

/-- What the functions of this package ask of a world. -/
def REnv (w : World) : Prop := Env w ∧ ∃ m : Int, w.cell? ⟨7, 0, none⟩ = some (.int .i64 m)
theorem REnv.lt {w : World} (h : REnv w) : 7 < w.heap.size := by
  obtain ⟨_, m, hm⟩ := h
  exact World.block_lt_of_cell? w _ hm
theorem REnv.below {w w' : World} (h : REnv w) (hb : Below w.heap.size w w') : REnv w' := by
  have hl := h.lt
  obtain ⟨h1, m, hm⟩ := h
  exact ⟨h1.below hb, m, (hb.cell (p := ⟨7, 0, none⟩) hl).trans hm⟩

def pneg (t : ByteArray) : Bool := Lib.hasPrefix t.data.toList [45]
def pdig (t : ByteArray) : List UInt8 := Lib.trimPrefix t.data.toList [45]
def pnum (t : ByteArray) : ByteArray := ⟨(Lib.cut (pdig t) [47]).1.toArray⟩
def pis (t : ByteArray) : Bool := (Lib.cut (pdig t) [47]).2.2
def pden0 (t : ByteArray) : ByteArray := ⟨(Lib.cut (pdig t) [47]).2.1.toArray⟩
def pden (t : ByteArray) : ByteArray := if pis t then pden0 t else ⟨#[49]⟩
def pok (t : ByteArray) : Bool := !(pis t && (pden0 t).toList == [49]) && validB (pneg t) (pnum t) (pden t)

theorem cut_len (l : List UInt8) : (Lib.cut l [47]).1.length ≤ l.length ∧ (Lib.cut l [47]).2.1.length ≤ l.length := by
  unfold Lib.cut
  split
  · exact ⟨by simp; omega, by simp⟩
  · exact ⟨Nat.le_refl _, Nat.zero_le _⟩
theorem pdig_len (t : ByteArray) : (pdig t).length ≤ t.size := by
  unfold pdig Lib.trimPrefix
  rw [Lib.size_eq]
  split
  · simp
  · exact Nat.le_refl _

theorem two_below (w : World) (o1 o2 : Obj) : Below w.heap.size w ((w.alloc o1).alloc o2) := ((Below.refl _ w).alloc (Nat.le_refl _) _).alloc (by simp) _

end Nt
end Go.Proofs.YtmekiidknjjfcaaGreatDoor


/- slices.Backward over limbs: its contract, and the words that its callers use. -/
import Derived.Test.YtmekiidknjjfcaaGreatDoorNatTrim
import Derived.Test.YtmekiidknjjfcaaGreatDoorNatLib
import Derived.RangeFuncNested
import Derived.RangeFuncBound
import Derived.RangeFuncCalls
import Derived.RangeFuncLeaves
import Derived.Shelf.Abstract
import Derived.Shelf.RegionOpen
import Derived.OwnWalkIn
import Derived.TacticsInMore
import Derived.LoopNIn
import Derived.LoopIn
namespace Go.Proofs.YtmekiidknjjfcaaGreatDoor
open Go.RowKit Go.Shelf
attribute [local go_sem] Oper.semAt_some
namespace Nt

/-- A place of a list of a known length. -/
abbrev Place (n : Nat) := { i : Nat // i < n }

/-- The first k places from behind. -/
def back (n k : Nat) : List (Place n) := ((List.range k).filterMap fun j => if h : n - 1 - j < n then some ⟨n - 1 - j, h⟩ else none)

theorem back_zero (n : Nat) : back n 0 = [] := rfl
theorem back_succ (n k : Nat) (h : k < n) : back n (k + 1) = back n k ++ [⟨n - 1 - k, by omega⟩] := by
  simp only [back, List.range_succ, List.filterMap_append, List.filterMap_cons, List.filterMap_nil]
  rw [dif_pos (by omega)]
theorem back_length (n k : Nat) (h : k ≤ n) : (back n k).length = k := by
  induction k with
  | zero => rfl
  | succ k ih => rw [back_succ n k (by omega), List.length_append, ih (by omega)]; rfl

/-- What a round keeps: two blocks. -/
def Keep2 (b c : Nat) (W W' : World) : Prop := W'.heap[b]? = W.heap[b]? ∧ W'.heap[c]? = W.heap[c]?
theorem Keep2.refl (b c : Nat) (W : World) : Keep2 b c W W := ⟨rfl, rfl⟩
theorem Keep2.trans {b c : Nat} {A B C : World} (h : Keep2 b c A B) (k : Keep2 b c B C) : Keep2 b c A C := ⟨k.1.trans h.1, k.2.trans h.2⟩
theorem Keep2.of_below {b c n : Nat} {A B : World} (h : Below n A B) (hb : b < n) (hc : c < n) : Keep2 b c A B := ⟨h.block b hb, h.block c hc⟩
theorem Keep2.setCell {b c : Nat} (W : World) (p : Addr) (v : Value) (hb : b ≠ p.block) (hc : c ≠ p.block) : Keep2 b c W (W.setCell p v) :=
  ⟨Below.heap_setCell _ _ _ _ hb, Below.heap_setCell _ _ _ _ hc⟩

/-- A slice of limbs over a block, told by the block. -/
def SlAt (W : World) (b : Nat) (sv : Value) (xs : List Nat) : Prop :=
  (xs = [] ∧ ∃ cap, sv = .slice none 0 cap) ∨ ∃ off cap, sv = .slice (some ⟨b, off, none⟩) xs.length cap ∧ ∀ j, j < xs.length → W.cell? ⟨b, off + j, none⟩ = some (.int .u64 (lim xs j))

theorem SlAt.keep {W W' : World} {b c : Nat} {sv : Value} {xs : List Nat} (h : SlAt W b sv xs) (hk : Keep2 b c W W') : SlAt W' b sv xs := by
  rcases h with h | ⟨off, cap, h, hc⟩
  · exact .inl h
  · exact .inr ⟨off, cap, h, fun j hj => (World.cell?_of_block (w := W) hk.1).trans (hc j hj)⟩

set_option maxRecDepth 100000 in
set_option maxHeartbeats 2000000 in
theorem back_walk (F : Fence) (n : Nat) (hf : F.fn 139) (hro : F.round = none) (hn : 1 ≤ n) (l Bs b off cap : Nat) (xs : List Nat) (hl : xs.length ≤ 1000000) (J Jx : List (Place xs.length) → World → Prop)
    (hY : ∀ pre (x : Place xs.length) W, J pre W → pre.length < xs.length → YieldAt F (n - 1) Tryz.prog l #[.int .i64 (x.1 : Int), .int .u64 (lim xs x.1)] W fun e W' =>
      (e = .returned (.bool true) ∧ J (pre ++ [x]) W' ∧ Keep2 b Bs W W') ∨ (e = .returned (.bool false) ∧ Jx (pre ++ [x]) W'))
    (W : World) (hBs : W.cell? ⟨Bs, 0, none⟩ = some (.slice (some ⟨b, off, none⟩) xs.length cap)) (hc : ∀ j, j < xs.length → W.cell? ⟨b, off + j, none⟩ = some (.int .u64 (lim xs j))) (h0 : J [] W) :
    CallsIn F n Tryz.prog 139 #[.func (.yield l) #[] #[], .pointer (some ⟨Bs, 0, none⟩)] W fun e W' => (∃ v, e = .returned v) ∧
      ((∃ ys, ys = back xs.length xs.length ∧ J ys W') ∨ (∃ pre, (∃ k, k ≤ xs.length ∧ pre = back xs.length k) ∧ Jx pre W')) := by
  refine callsIn_of_wp Tryz.func139 rfl hf ?_ hro
  simp only [Tryz.ntmps139, List.size_toArray, List.length_cons, List.length_nil, Nat.reduceAdd, Nat.reduceSub, Array.replicate_succ, Array.replicate_zero, List.push_toArray, List.append_toArray, List.nil_append, List.cons_append]
  gi_wp2
  gi_loopw [3] (fun i wr => ∃ k : Nat, k ≤ xs.length ∧ i = .int .i64 ((xs.length : Int) - 1 - k) ∧ J (back xs.length k) wr ∧ Keep2 b Bs W wr)
    (fun i _ => ((intOf i) + 1).toNat)
  case atStart => exact ⟨0, Nat.zero_le _, by simp, h0, Keep2.refl _ _ _⟩
  case round =>
    obtain ⟨k, hk, rfl, hJs, hnx⟩ := hrel
    by_cases hlt : k < xs.length
    · have hcx := (World.cell?_of_block (w := W) (a := ⟨b, off + (xs.length - 1 - k), none⟩) hnx.1).trans (hc (xs.length - 1 - k) (by omega))
      have hbx := (World.cell?_of_block (w := W) (a := ⟨Bs, 0, none⟩) hnx.2).trans hBs
      obtain ⟨fn, tmps, assign, body, hy, hR⟩ := hY _ ⟨xs.length - 1 - k, by omega⟩ wr hJs (by rw [back_length _ _ hk]; exact hlt)
      dsimp only at hy
      have ei : (xs.length : Int) - 1 - k = ((xs.length - 1 - k : Nat) : Int) := by omega
      rw [ei]
      obtain ⟨q, hqe⟩ : ∃ q, q = xs.length - 1 - k := ⟨_, rfl⟩
      have hq : q < xs.length := by omega
      have HB : (back xs.length (k + 1) = back xs.length k ++ [⟨q, hq⟩]) := by rw [back_succ _ _ hlt]; subst hqe; rfl
      replace HB := Lib.hid HB
      have HQ : Hid (q + k + 1 = xs.length) := by unfold Hid; omega
      have hx : (⟨xs.length - 1 - k, by omega⟩ : Place xs.length) = ⟨q, hq⟩ := by subst hqe; rfl
      rw [← hqe] at hcx hy ⊢
      rw [hx] at hR
      clear hqe hx ei
      gi_wp2
      refine hR.mono ?_
      rintro e W3 (⟨rfl, hJ3, hk3⟩ | ⟨rfl, hJx3⟩)
      · gi_wp2
        have hq2 := HQ.out
        go_roundw
        case rel => exact ⟨k + 1, by omega, congrArg (Value.int .i64) (by omega), by rw [HB.out]; exact hJ3, hnx.trans hk3⟩
        case measure => simp only [intOf]; omega
      · gi_wp2
        refine bodyPost_ret (results_none rfl _ _ _) rfl ?_
        exact ⟨⟨_, rfl⟩, .inr ⟨_, ⟨k + 1, by omega, HB.out.symm⟩, hJx3⟩⟩
    · obtain rfl : k = xs.length := by omega
      have ei : (xs.length : Int) - 1 - xs.length = -1 := by omega
      rw [ei]
      gi_wp2
      go_end0
      exact ⟨⟨_, rfl⟩, .inl ⟨_, rfl, hJs⟩⟩

set_option maxRecDepth 100000 in
set_option maxHeartbeats 1000000 in
theorem back_walk_nil (F : Fence) (n : Nat) (hf : F.fn 139) (hro : F.round = none) (l Bs cap : Nat) (J : List (Place 0) → World → Prop) (W : World) (hBs : W.cell? ⟨Bs, 0, none⟩ = some (.slice none 0 cap)) (h0 : J [] W) :
    CallsIn F n Tryz.prog 139 #[.func (.yield l) #[] #[], .pointer (some ⟨Bs, 0, none⟩)] W fun e W' => (∃ v, e = .returned v) ∧ J [] W' := by
  refine callsIn_of_wp Tryz.func139 rfl hf ?_ hro
  simp only [Tryz.ntmps139, List.size_toArray, List.length_cons, List.length_nil, Nat.reduceAdd, Nat.reduceSub, Array.replicate_succ, Array.replicate_zero, List.push_toArray, List.append_toArray, List.nil_append, List.cons_append]
  gi_wp2
  gi_loopw [3] (fun i wr => i = .int .i64 (-1) ∧ J [] wr) (fun _ _ => 0)
  case atStart => exact ⟨rfl, h0⟩
  case round =>
    obtain ⟨rfl, hJs⟩ := hrel
    gi_wp2
    go_end0
    exact ⟨⟨_, rfl⟩, hJs⟩

/-- slices.Backward: the slice is boxed; the function value captures the box. -/
theorem back_make (F : Fence) (n : Nat) (hf : F.fn 119) (hro : F.round = none) (a : Option Addr) (len cap : Nat) (w : World) :
    CallsIn F n Tryz.prog 119 #[.slice a len cap] w fun e w' => e = .returned (.func (.func 139) #[] #[.pointer (some ⟨w.heap.size, 0, none⟩)]) ∧ w' = w.alloc (.cells #[.slice a len cap] 124) := by
  refine callsIn_of_wp Tryz.func119 rfl hf ?_ hro
  simp only [Tryz.ntmps119, List.size_toArray, List.length_cons, List.length_nil, Nat.reduceAdd, Nat.reduceSub, Array.replicate_succ, Array.replicate_zero, List.push_toArray, List.append_toArray, List.nil_append, List.cons_append]
  gi_wp2
  go_ret
  exact ⟨rfl, rfl⟩

/-- THE CONTRACT: all places, the last one first; or the first of these. -/
theorem back_stops (F : Fence) (n : Nat) (hf : F.fn 139) (hro : F.round = none) (hn : 1 ≤ n) (Bs b : Nat) (sv : Value) (xs : List Nat) (hl : xs.length ≤ 1000000) (w : World) (hBs : Bs < w.heap.size) (hb : b < w.heap.size)
    (hc : w.cell? ⟨Bs, 0, none⟩ = some sv) (hI : SlAt w b sv xs) :
    SeqStopsK F n Tryz.prog 139 #[.pointer (some ⟨Bs, 0, none⟩)] (fun x : Place xs.length => #[Value.int .i64 (x.1 : Int), .int .u64 (lim xs x.1)]) (Keep2 b Bs)
      (fun ys => ys = back xs.length xs.length) (fun pre => ∃ k, k ≤ xs.length ∧ pre = back xs.length k) xs.length w := fun l J Jx W hW _ _ hY h0 => by
  have hc' := (hW.cell (p := ⟨Bs, 0, none⟩) hBs).trans hc
  rcases hI.keep (Keep2.of_below hW hb hBs) with ⟨rfl, cap, rfl⟩ | ⟨off, cap, rfl, hcs⟩
  · exact (back_walk_nil F n hf hro l Bs cap J W hc' h0).mono fun e W' ⟨he, hj⟩ => ⟨he, .inl ⟨_, rfl, hj⟩⟩
  · exact (back_walk F n hf hro hn l Bs b off cap xs hl J Jx hY W hc' hcs h0).mono fun e W' h => h

end Nt
end Go.Proofs.YtmekiidknjjfcaaGreatDoor

/- Texts that the proof needs: MonBest, MonKeys, MonValid, MonFind, RatFloor, RatDig, MonRoundP, MonRound, MonConv, MonText, MonParse, CoA, CoB, StabSymPM. -/
import Derived.DeepKeys4
import Derived.LaidEql
import Derived.Deep.RegionHeld3
import Derived.Sort.LotA
import Derived.Sort.WalkA
import Derived.Test.YtpmlhgmmobpilaaGreatDoorShelf
import Derived.Shelf.SlSortCmp.Insertion
import Derived.Deep.QuietTactic
import Derived.BigQuiet
import Derived.Laws.ResultCell
import Derived.IntWalk
import Derived.Test.YtpmlhgmmobpilaaGreatDoorKvA
import Derived.Test.YtpmlhgmmobpilaaGreatDoorKvB
namespace Go.Proofs.YtpmlhgmmobpilaaGreatDoor
open Go.RowKit Go.Shelf
namespace Mo
open Nt Ci
def rtL (x : Rt) : List Value := [.string x.1, .int .i64 x.2.1, .int .i64 x.2.2.1, .int .i64 x.2.2.2]
def rtV (x : Rt) : Value := .agg #[.string x.1, .int .i64 x.2.1, .int .i64 x.2.2.1, .int .i64 x.2.2.2]
/-- The slice at A has the rates l. -/
def InRt (W : World) (A : Option Addr) (l : List Rt) : Prop :=
  0 < l.length → ∃ b off, A = some ⟨b, off, none⟩ ∧ b < W.heap.size ∧ ∀ j (h : j < l.length), W.cell? ⟨b, off + j * 4, none⟩ = some (.string l[j].1) ∧ W.cell? ⟨b, off + j * 4 + 1, none⟩ = some (.int .i64 l[j].2.1) ∧
    W.cell? ⟨b, off + j * 4 + 2, none⟩ = some (.int .i64 l[j].2.2.1) ∧ W.cell? ⟨b, off + j * 4 + 3, none⟩ = some (.int .i64 l[j].2.2.2)
theorem InRt.below {W W' : World} {A : Option Addr} {l : List Rt} (h : InRt W A l) (hb : Below W.heap.size W W') : InRt W' A l := fun h0 => by
  obtain ⟨b, off, e, hl, hc⟩ := h h0
  refine ⟨b, off, e, Nat.lt_of_lt_of_le hl hb.size, fun j hj => ?_⟩
  obtain ⟨h1, h2, h3, h4⟩ := hc j hj
  have hk : W'.heap[b]? = W.heap[b]? := hb.block b hl
  exact ⟨(World.cell?_of_block (a := ⟨b, off + j * 4, none⟩) hk).trans h1, (World.cell?_of_block (a := ⟨b, off + j * 4 + 1, none⟩) hk).trans h2, (World.cell?_of_block (a := ⟨b, off + j * 4 + 2, none⟩) hk).trans h3, (World.cell?_of_block (a := ⟨b, off + j * 4 + 3, none⟩) hk).trans h4⟩
theorem InRt.nil (W : World) : InRt W none [] := fun h => absurd h (by simp)
/-- The sizes of rates as arguments. -/
def RtSz (l : List Rt) : Prop := ∀ x, x ∈ l → x.1.size ≤ 140737488355328 ∧ (-9223372036854775808 ≤ x.2.1 ∧ x.2.1 ≤ 9223372036854775807) ∧ (-9223372036854775808 ≤ x.2.2.1 ∧ x.2.2.1 ≤ 9223372036854775807) ∧ (-9223372036854775808 ≤ x.2.2.2 ∧ x.2.2.2 ≤ 9223372036854775807)
theorem toList_eq {a b : ByteArray} : (a.toList == b.toList) = decide (a = b) := by
  rw [Bool.eq_iff_iff, beq_iff_eq, decide_eq_true_iff, Lib.toList_data, Lib.toList_data]
  constructor
  · intro h
    rcases a with ⟨a⟩
    rcases b with ⟨b⟩
    simp only [Array.toList_inj] at h
    rw [h]
  · intro h; rw [h]
set_option maxRecDepth 100000 in
theorem known_any (x : Rt) (cb db : Nat) (cur : ByteArray) (day : Int) (w : World) (hc : w.cell? ⟨cb, 0, none⟩ = some (.string cur)) (hd : w.cell? ⟨db, 0, none⟩ = some (.int .i64 day)) :
    Calls Tryz.prog 61 #[rtV x, .pointer (some ⟨cb, 0, none⟩), .pointer (some ⟨db, 0, none⟩)] w fun e w' => e = .returned (.bool (knownB cur day x)) ∧ Below w.heap.size w w' := by
  obtain ⟨c, d, n, m⟩ := x
  have hcl := World.block_lt_of_cell? w _ hc
  have hdl := World.block_lt_of_cell? w _ hd
  have hE := @toList_eq c cur
  have hk : knownB cur day (c, d, n, m) = (decide (c = cur) && decide (d ≤ day)) := rfl
  rw [hk]
  unfold rtV
  dsimp only
  cases h1 : decide (c = cur) with
  | false =>
    rw [h1] at hE
    go_enter Tryz.func61, Tryz.ntmps61
    go_wp2
    go_ret
    exact ⟨rfl, (Below.refl _ w).alloc (Nat.le_refl _) _⟩
  | true =>
    rw [h1] at hE
    go_enter Tryz.func61, Tryz.ntmps61
    go_wp2
    go_ret
    exact ⟨rfl, (Below.refl _ w).alloc (Nat.le_refl _) _⟩
set_option maxRecDepth 100000 in
theorem later_any (x y : Rt) (w : World) : Calls Tryz.prog 63 #[rtV x, rtV y] w fun e w' => e = .returned (.bool (decide (y.2.1 < x.2.1))) ∧ Below w.heap.size w w' := by
  obtain ⟨c, d, n, m⟩ := x
  obtain ⟨c2, d2, n2, m2⟩ := y
  unfold rtV
  dsimp only
  go_enter Tryz.func63, Tryz.ntmps63
  go_wp2
  go_ret
  exact ⟨rfl, ((Below.refl _ w).alloc (Nat.le_refl _) _).alloc (by simp) _⟩
/-- Block b has the rate x. -/
def RB (W : World) (b : Nat) (x : Rt) : Prop := Bk W b 42 (rtL x)
set_option maxRecDepth 100000 in
set_option maxHeartbeats 8000000 in
theorem best_any (l : List Rt) (A : Option Addr) (cap cb db : Nat) (cur : ByteArray) (day : Int) (w : World) (hl : InRt w A l) (hll : l.length ≤ 140737488355328) (hc : w.cell? ⟨cb, 0, none⟩ = some (.string cur)) (hd : w.cell? ⟨db, 0, none⟩ = some (.int .i64 day)) :
    Calls Tryz.prog 62 #[.slice A l.length cap, .func (.func 61) #[] #[.pointer (some ⟨cb, 0, none⟩), .pointer (some ⟨db, 0, none⟩)], .func (.func 63) #[] #[]] w fun e w' => e = .returned (.tuple #[rtV ((bestR l cur day).getD noR), .bool (bestR l cur day).isSome]) ∧ Below w.heap.size w w' := by
  have kI : Hid (∀ (x : Rt) W, Below w.heap.size w W → Calls Tryz.prog 61 #[rtV x, .pointer (some ⟨cb, 0, none⟩), .pointer (some ⟨db, 0, none⟩)] W fun e w' => e = .returned (.bool (knownB cur day x)) ∧ Below W.heap.size W w') := fun x W hW => known_any x cb db cur day W ((World.cell?_of_block (a := ⟨cb, 0, none⟩) (hW.block cb (World.block_lt_of_cell? w _ hc))).trans hc) ((World.cell?_of_block (a := ⟨db, 0, none⟩) (hW.block db (World.block_lt_of_cell? w _ hd))).trans hd)
  have hB0 : Hid (Below w.heap.size w (w.alloc (.cells #[.string ⟨#[]⟩, .int .i64 0, .int .i64 0, .int .i64 0] 42))) := (Below.refl _ w).alloc (Nat.le_refl _) _
  have hO0 : Hid (RB (w.alloc (.cells #[.string ⟨#[]⟩, .int .i64 0, .int .i64 0, .int .i64 0] 42)) w.heap.size ((bestR (l.take 0) cur day).getD noR)) := Bk.new w _ _
  clear hc hd
  replace hl := Lib.hid hl
  go_enter Tryz.func62, Tryz.ntmps62
  go_wp2
  go_loopw [7, 12] (fun fx ix wr => ∃ (k : Nat), k ≤ l.length ∧ ix = .int .i64 (k : Int) ∧ fx = .bool (bestR (l.take k) cur day).isSome ∧ Hid (Below w.heap.size w wr) ∧ Hid (RB wr w.heap.size ((bestR (l.take k) cur day).getD noR))) (fun _ ix _ => l.length - (intOf ix).toNat)
  case atStart => exact ⟨0, Nat.zero_le _, rfl, rfl, hB0, hO0⟩
  case round =>
    obtain ⟨k, hk, rfl, rfl, hB, hO⟩ := hrel
    clear hB0 hO0
    obtain ⟨wz, rfl⟩ : ∃ z, z = wr := ⟨_, rfl⟩
    by_cases hlt : k < l.length
    · obtain ⟨b, off, rfl, hbl, hcc⟩ := (hl.out.below hB.out) (by omega)
      obtain ⟨e1, e2, e3, e4⟩ := hcc k hlt
      have hst := best_take (cur := cur) (day := day) hlt
      have k0 : (0 : Int) ≤ (k : Int) := by omega
      have k1 : (k : Int) < (l.length : Int) := by omega
      obtain ⟨x, hx⟩ : ∃ x, x = l[k] := ⟨_, rfl⟩
      rw [← hx] at e1 e2 e3 e4 hst
      replace hx := Lib.hid hx
      obtain ⟨nx, hnx⟩ : ∃ y, y = bestR (l.take (k + 1)) cur day := ⟨_, rfl⟩
      rw [← hnx] at hst
      replace hnx := Lib.hid hnx
      generalize bestR (l.take k) cur day = bo at hO hst ⊢
      obtain ⟨c, d, n, m⟩ := x
      replace e1 : wz.cell? ⟨b, off + k * 4, none⟩ = some (.string c) := e1; replace e2 : wz.cell? ⟨b, off + k * 4 + 1, none⟩ = some (.int .i64 d) := e2; replace e3 : wz.cell? ⟨b, off + k * 4 + 2, none⟩ = some (.int .i64 n) := e3; replace e4 : wz.cell? ⟨b, off + k * 4 + 3, none⟩ = some (.int .i64 m) := e4
      clear hcc
      have hB7 : Hid (Below w.heap.size w (wz.alloc (.cells #[.string c, .int .i64 d, .int .i64 n, .int .i64 m] 42))) := hB.out.alloc hB.out.size _
      have hO7 : Hid (RB (wz.alloc (.cells #[.string c, .int .i64 d, .int .i64 n, .int .i64 m] 42)) w.heap.size (bo.getD noR)) := hO.out.alloc _
      have hx7 : Hid (Bk (wz.alloc (.cells #[.string c, .int .i64 d, .int .i64 n, .int .i64 m] 42)) wz.heap.size 42 [.string c, .int .i64 d, .int .i64 n, .int .i64 m]) := Bk.new wz _ _
      have kn := Lib.hid (kI.out (c, d, n, m) (wz.alloc (.cells #[.string c, .int .i64 d, .int .i64 n, .int .i64 m] 42)) hB7.out)
      have hob : w.heap.size < wz.heap.size := hO.out.lt
      clear hO
      obtain ⟨kb, hkb⟩ : ∃ y, y = knownB cur day (c, d, n, m) := ⟨_, rfl⟩
      rw [← hkb] at kn
      replace kn : Hid (Calls Tryz.prog 61 #[.agg #[.string c, .int .i64 d, .int .i64 n, .int .i64 m], .pointer (some ⟨cb, 0, none⟩), .pointer (some ⟨db, 0, none⟩)] (wz.alloc (.cells #[.string c, .int .i64 d, .int .i64 n, .int .i64 m] 42)) fun e w' => e = .returned (.bool kb) ∧ Below ((wz.alloc (.cells #[.string c, .int .i64 d, .int .i64 n, .int .i64 m] 42))).heap.size (wz.alloc (.cells #[.string c, .int .i64 d, .int .i64 n, .int .i64 m] 42)) w') := kn
      have hcl : knownB cur day (c, d, n, m) = kb := hkb.symm
      replace hkb := Lib.hid hkb
      cases kb with
      | false =>
        have hnx2 : nx = bo := by rw [hst]; cases bo with | none => exact if_neg (by rw [hcl]; decide) | some y => exact if_neg (fun h => by rw [hcl] at h; cases h.1)
        clear hst hcl
        go_wp2_with fail
        refine kn.out.mono ?_
        rintro e w2 ⟨rfl, hb⟩
        have hB2 := Lib.hid (hB7.out.trans (hb.mono hB7.out.size)); have hO2 := Lib.hid (Bk.below hO7.out hb); have hx2 := Lib.hid (hx7.out.below hb)
        clear hb hx7 e1 e2 e3 e4 hbl
        go_wp2
        refine ⟨⟨k + 1, by omega, by go_num, ?_, hB2, ?_⟩, by simp only [intOf]; omega⟩
        · rw [← hnx.out, hnx2]
        · rw [← hnx.out, hnx2]; exact hO2
      | true =>
        cases bo with
        | none =>
          have hnx2 : nx = some (c, d, n, m) := by rw [hst]; exact if_pos hcl
          clear hst hcl
          go_wp2_with fail
          refine kn.out.mono ?_
          rintro e w2 ⟨rfl, hb⟩
          have hB2 := Lib.hid (hB7.out.trans (hb.mono hB7.out.size)); have hO2 := Lib.hid (Bk.below hO7.out hb); have hx2 := Lib.hid (hx7.out.below hb)
          clear hb hx7 e1 e2 e3 e4 hbl
          have y0 := hx2.out.cell (j := 0) rfl
          have y1 := hx2.out.cell (j := 1) rfl
          have y2 := hx2.out.cell (j := 2) rfl
          have y3 := hx2.out.cell (j := 3) rfl
          have y9 := hx2.out.lt
          have hB5 : Hid (Below w.heap.size w ((((w2.setCell ⟨w.heap.size, 0, none⟩ (.string c)).setCell ⟨w.heap.size, 1, none⟩ (.int .i64 d)).setCell ⟨w.heap.size, 2, none⟩ (.int .i64 n)).setCell ⟨w.heap.size, 3, none⟩ (.int .i64 m))) := (((hB2.out.setCell (p := ⟨w.heap.size, 0, none⟩) (Nat.le_refl _) _).setCell (p := ⟨w.heap.size, 1, none⟩) (Nat.le_refl _) _).setCell (p := ⟨w.heap.size, 2, none⟩) (Nat.le_refl _) _).setCell (p := ⟨w.heap.size, 3, none⟩) (Nat.le_refl _) _
          have hO5 : Hid (RB ((((w2.setCell ⟨w.heap.size, 0, none⟩ (.string c)).setCell ⟨w.heap.size, 1, none⟩ (.int .i64 d)).setCell ⟨w.heap.size, 2, none⟩ (.int .i64 n)).setCell ⟨w.heap.size, 3, none⟩ (.int .i64 m)) w.heap.size (c, d, n, m)) := (((Bk.set hO2.out 0 (.string c)).set 1 (.int .i64 d)).set 2 (.int .i64 n)).set 3 (.int .i64 m)
          have o0 := hO2.out.cell (j := 0) rfl
          have o1 := hO2.out.cell (j := 1) rfl
          have o2 := hO2.out.cell (j := 2) rfl
          have o3 := hO2.out.cell (j := 3) rfl
          have o9 := hO2.out.lt
          have f0 := hO2.out.frozen 0
          have f1 := hO2.out.frozen 1
          have f2 := hO2.out.frozen 2
          have f3 := hO2.out.frozen 3
          go_wp2
          refine ⟨⟨k + 1, by omega, by go_num, ?_, hB5, ?_⟩, by simp only [intOf]; omega⟩
          · rw [← hnx.out, hnx2]; rfl
          · rw [← hnx.out, hnx2]; exact hO5
        | some y =>
          obtain ⟨c2, d2, n2, m2⟩ := y
          replace hst : nx = if knownB cur day (c, d, n, m) = true ∧ d2 < d then some (c, d, n, m) else some (c2, d2, n2, m2) := hst
          go_wp2_with fail
          refine kn.out.mono ?_
          rintro e w2 ⟨rfl, hb⟩
          have hB2 := Lib.hid (hB7.out.trans (hb.mono hB7.out.size)); have hO2 := Lib.hid (Bk.below hO7.out hb); have hx2 := Lib.hid (hx7.out.below hb)
          clear hb hx7 e1 e2 e3 e4 hbl
          have y0 := hx2.out.cell (j := 0) rfl
          have y1 := hx2.out.cell (j := 1) rfl
          have y2 := hx2.out.cell (j := 2) rfl
          have y3 := hx2.out.cell (j := 3) rfl
          have y9 := hx2.out.lt
          have o0 : w2.cell? ⟨w.heap.size, 0, none⟩ = some (.string c2) := hO2.out.cell (j := 0) rfl
          have o1 : w2.cell? ⟨w.heap.size, 1, none⟩ = some (.int .i64 d2) := hO2.out.cell (j := 1) rfl
          have o2 : w2.cell? ⟨w.heap.size, 2, none⟩ = some (.int .i64 n2) := hO2.out.cell (j := 2) rfl
          have o3 : w2.cell? ⟨w.heap.size, 3, none⟩ = some (.int .i64 m2) := hO2.out.cell (j := 3) rfl
          have o9 := hO2.out.lt
          have k2 : Hid (Calls Tryz.prog 63 #[.agg #[.string c, .int .i64 d, .int .i64 n, .int .i64 m], .agg #[.string c2, .int .i64 d2, .int .i64 n2, .int .i64 m2]] w2 fun e w' => e = .returned (.bool (decide (d2 < d))) ∧ Below w2.heap.size w2 w') := later_any (c, d, n, m) (c2, d2, n2, m2) w2
          by_cases hdd : d2 < d
          · rw [decide_eq_true hdd] at k2
            have hnx2 : nx = some (c, d, n, m) := by rw [hst]; exact if_pos ⟨hcl, hdd⟩
            clear hst hcl
            replace hdd := Lib.hid hdd
            go_wp2_with fail
            refine k2.out.mono ?_
            rintro e w3 ⟨rfl, hb⟩
            have hB3 := Lib.hid (hB2.out.trans (hb.mono hB2.out.size)); have hO3 := Lib.hid (Bk.below hO2.out hb); have hx3 := Lib.hid (hx2.out.below hb)
            clear hb y0 y1 y2 y3 y9 o0 o1 o2 o3 o9
            have y0 := hx3.out.cell (j := 0) rfl
            have y1 := hx3.out.cell (j := 1) rfl
            have y2 := hx3.out.cell (j := 2) rfl
            have y3 := hx3.out.cell (j := 3) rfl
            have y9 := hx3.out.lt
            have hB5 : Hid (Below w.heap.size w ((((w3.setCell ⟨w.heap.size, 0, none⟩ (.string c)).setCell ⟨w.heap.size, 1, none⟩ (.int .i64 d)).setCell ⟨w.heap.size, 2, none⟩ (.int .i64 n)).setCell ⟨w.heap.size, 3, none⟩ (.int .i64 m))) := (((hB3.out.setCell (p := ⟨w.heap.size, 0, none⟩) (Nat.le_refl _) _).setCell (p := ⟨w.heap.size, 1, none⟩) (Nat.le_refl _) _).setCell (p := ⟨w.heap.size, 2, none⟩) (Nat.le_refl _) _).setCell (p := ⟨w.heap.size, 3, none⟩) (Nat.le_refl _) _
            have hO5 : Hid (RB ((((w3.setCell ⟨w.heap.size, 0, none⟩ (.string c)).setCell ⟨w.heap.size, 1, none⟩ (.int .i64 d)).setCell ⟨w.heap.size, 2, none⟩ (.int .i64 n)).setCell ⟨w.heap.size, 3, none⟩ (.int .i64 m)) w.heap.size (c, d, n, m)) := (((Bk.set hO3.out 0 (.string c)).set 1 (.int .i64 d)).set 2 (.int .i64 n)).set 3 (.int .i64 m)
            have o0 := hO3.out.cell (j := 0) rfl
            have o1 := hO3.out.cell (j := 1) rfl
            have o2 := hO3.out.cell (j := 2) rfl
            have o3 := hO3.out.cell (j := 3) rfl
            have o9 := hO3.out.lt
            have f0 := hO3.out.frozen 0
            have f1 := hO3.out.frozen 1
            have f2 := hO3.out.frozen 2
            have f3 := hO3.out.frozen 3
            go_wp2
            refine ⟨⟨k + 1, by omega, by go_num, ?_, hB5, ?_⟩, by simp only [intOf]; omega⟩
            · rw [← hnx.out, hnx2]; rfl
            · rw [← hnx.out, hnx2]; exact hO5
          · rw [decide_eq_false hdd] at k2
            have hnx2 : nx = some (c2, d2, n2, m2) := by rw [hst]; exact if_neg fun h => hdd h.2
            clear hst hcl
            replace hdd := Lib.hid hdd
            go_wp2_with fail
            refine k2.out.mono ?_
            rintro e w3 ⟨rfl, hb⟩
            have hB3 := Lib.hid (hB2.out.trans (hb.mono hB2.out.size)); have hO3 := Lib.hid (Bk.below hO2.out hb); have hx3 := Lib.hid (hx2.out.below hb)
            clear hb y0 y1 y2 y3 y9 o0 o1 o2 o3 o9
            go_wp2
            refine ⟨⟨k + 1, by omega, by go_num, ?_, hB3, ?_⟩, by simp only [intOf]; omega⟩
            · rw [← hnx.out, hnx2]; rfl
            · rw [← hnx.out, hnx2]; exact hO3
    · obtain rfl : k = l.length := by omega
      rw [List.take_length] at hO ⊢
      obtain ⟨bo, hbo⟩ : ∃ y, y = bestR l cur day := ⟨_, rfl⟩
      rw [← hbo] at hO ⊢
      obtain ⟨y, hy⟩ : ∃ y, y = bo.getD noR := ⟨_, rfl⟩
      rw [← hy] at hO
      obtain ⟨c, d, n, m⟩ := y
      have hfin : Hid (Ending.returned (.tuple #[.agg #[.string c, .int .i64 d, .int .i64 n, .int .i64 m], .bool bo.isSome]) = .returned (.tuple #[rtV ((bestR l cur day).getD noR), .bool (bestR l cur day).isSome])) := by rw [← hbo, ← hy]; rfl
      replace hy := Lib.hid hy; replace hbo := Lib.hid hbo
      have o0 : wz.cell? ⟨w.heap.size, 0, none⟩ = some (.string c) := hO.out.cell (j := 0) rfl; have f0 := hO.out.frozen 0
      have o1 : wz.cell? ⟨w.heap.size, 1, none⟩ = some (.int .i64 d) := hO.out.cell (j := 1) rfl; have f1 := hO.out.frozen 1
      have o2 : wz.cell? ⟨w.heap.size, 2, none⟩ = some (.int .i64 n) := hO.out.cell (j := 2) rfl; have f2 := hO.out.frozen 2
      have o3 : wz.cell? ⟨w.heap.size, 3, none⟩ = some (.int .i64 m) := hO.out.cell (j := 3) rfl; have f3 := hO.out.frozen 3
      have o9 := hO.out.lt
      have hB5 : Hid (Below w.heap.size w ((((wz.setCell ⟨w.heap.size, 0, none⟩ (.string c)).setCell ⟨w.heap.size, 1, none⟩ (.int .i64 d)).setCell ⟨w.heap.size, 2, none⟩ (.int .i64 n)).setCell ⟨w.heap.size, 3, none⟩ (.int .i64 m))) := (((hB.out.setCell (p := ⟨w.heap.size, 0, none⟩) (Nat.le_refl _) _).setCell (p := ⟨w.heap.size, 1, none⟩) (Nat.le_refl _) _).setCell (p := ⟨w.heap.size, 2, none⟩) (Nat.le_refl _) _).setCell (p := ⟨w.heap.size, 3, none⟩) (Nat.le_refl _) _
      have hO5 : Hid (RB ((((wz.setCell ⟨w.heap.size, 0, none⟩ (.string c)).setCell ⟨w.heap.size, 1, none⟩ (.int .i64 d)).setCell ⟨w.heap.size, 2, none⟩ (.int .i64 n)).setCell ⟨w.heap.size, 3, none⟩ (.int .i64 m)) w.heap.size (c, d, n, m)) := (((Bk.set hO.out 0 (.string c)).set 1 (.int .i64 d)).set 2 (.int .i64 n)).set 3 (.int .i64 m)
      go_wp2
      have s0 : ((((wz.setCell ⟨w.heap.size, 0, none⟩ (.string c)).setCell ⟨w.heap.size, 1, none⟩ (.int .i64 d)).setCell ⟨w.heap.size, 2, none⟩ (.int .i64 n)).setCell ⟨w.heap.size, 3, none⟩ (.int .i64 m)).cell? ⟨w.heap.size, 0, none⟩ = some (.string c) := hO5.out.cell (j := 0) rfl
      have s1 : ((((wz.setCell ⟨w.heap.size, 0, none⟩ (.string c)).setCell ⟨w.heap.size, 1, none⟩ (.int .i64 d)).setCell ⟨w.heap.size, 2, none⟩ (.int .i64 n)).setCell ⟨w.heap.size, 3, none⟩ (.int .i64 m)).cell? ⟨w.heap.size, 1, none⟩ = some (.int .i64 d) := hO5.out.cell (j := 1) rfl
      have s2 : ((((wz.setCell ⟨w.heap.size, 0, none⟩ (.string c)).setCell ⟨w.heap.size, 1, none⟩ (.int .i64 d)).setCell ⟨w.heap.size, 2, none⟩ (.int .i64 n)).setCell ⟨w.heap.size, 3, none⟩ (.int .i64 m)).cell? ⟨w.heap.size, 2, none⟩ = some (.int .i64 n) := hO5.out.cell (j := 2) rfl
      have s3 : ((((wz.setCell ⟨w.heap.size, 0, none⟩ (.string c)).setCell ⟨w.heap.size, 1, none⟩ (.int .i64 d)).setCell ⟨w.heap.size, 2, none⟩ (.int .i64 n)).setCell ⟨w.heap.size, 3, none⟩ (.int .i64 m)).cell? ⟨w.heap.size, 3, none⟩ = some (.int .i64 m) := hO5.out.cell (j := 3) rfl
      have s9 := hO5.out.lt
      (try simp only [Exit.inBlock, Exit.then])
      refine bodyPost_ret (v := .tuple #[.agg #[.string c, .int .i64 d, .int .i64 n, .int .i64 m], .bool bo.isSome]) (by simp [results, Tryz.results62, go_sem, s0, s1, s2, s3]) rfl ⟨hfin.out, hB5.out⟩
end Mo
end Go.Proofs.YtpmlhgmmobpilaaGreatDoor

namespace Go.Proofs.YtpmlhgmmobpilaaGreatDoor
open Go.RowKit Go.Shelf
namespace Mo
open Nt Ci
/-- The keys of Valid's map: currency and day. -/
def Kd := { x : ByteArray × Int // x.1.size ≤ maxLen ∧ -9223372036854775808 ≤ x.2 ∧ x.2 ≤ 9223372036854775807 }
instance : DecidableEq Kd := fun a b => decidable_of_iff (a.1 = b.1) Subtype.ext_iff.symm
def κd (x : Kd) : Lit := .string (keyBytes [.string x.1.1.data.toList, .int .i64 x.1.2])
theorem lits2 (P : Program) (m : Nat) (t ts ti : TypeId) (f1 f2 : Field) (hu : P.underlying t = some (.struct #[f1, f2])) (hc : P.cellsOf t = 2) (n1 : f1.name ≠ "_") (n2 : f2.name ≠ "_") (o1 : f1.offset = 0) (o2 : f2.offset = 1) (t1 : f1.type = ts) (t2 : f2.type = ti)
    (us : P.underlying ts = some .string) (ui : P.underlying ti = some (.int .i64)) (c1 : P.cellsOf ts = 1) (c2 : P.cellsOf ti = 1) (s : ByteArray) (d : Int) (hs : s.size ≤ maxLen) (hw : (Lit.int .i64 d).wf = true) :
    P.keyLits (m + 2) t [.string s, .int .i64 d] = some [.string s.data.toList, .int .i64 d] := by
  subst t1
  subst t2
  simp [Program.keyLits, hu, hc, n1, n2, o1, o2, us, ui, c1, c2, hs, hw]
theorem keyOf_lits {P : Program} {t : TypeId} {fs : Array Field} {cs : Array Value} {ls : List Lit} {m : Nat} (hu : P.underlying t = some (.struct fs)) (hk : P.keyType t = true) (hf : (Value.agg cs).formed P t = true) (hm : P.types.size + 1 = m + 2) (hl : P.keyLits (m + 2) t (Value.agg cs).cells.toList = some ls) :
    keyOf P t (.agg cs) = some (.string (keyBytes ls)) := by
  unfold keyOf
  rw [hu]
  simp only [hk, hf, Bool.and_true, if_true, hm, hl, Option.map_some]
theorem laidOutP : laidOutB Tryz.prog = true := by kernel_rfl
theorem rowD : (90 : TypeId) < Tryz.prog.types.size := of_decide_eq_true (by kernel_rfl)
theorem wideD : (match Tryz.prog.underlying 90 with | some (.array _ _) | some (.struct _) => true | _ => false) = true := by rw [Tryz.underlying90]
theorem deepD : Tryz.prog.keyTypeAt 2 90 = true := by kernel_rfl
set_option maxRecDepth 100000 in
theorem lawD : WideMaps.KeyLaw Tryz.prog 90 := deep_law_laid laidOutP (m := 2) (Nat.le_of_ble_eq_true rfl) rowD deepD wideD
theorem keyedD : Go.Maps.Keyed Tryz.prog 90 := Go.Maps.Keyed.of_law lawD
theorem cellsD : Tryz.prog.cellsOf 90 = 2 := by kernel_rfl
theorem cellsS : Tryz.prog.cellsOf 9 = 1 := by kernel_rfl
theorem cellsI : Tryz.prog.cellsOf 3 = 1 := by kernel_rfl
theorem keyTypeD : Tryz.prog.keyType 90 = true := by kernel_rfl
theorem sizeD : ∃ m, Tryz.prog.types.size + 1 = m + 2 := by
  have h := rowD
  generalize Tryz.prog.types.size = n at h
  exact ⟨n - 1, by have := Nat.lt_of_le_of_lt (Nat.zero_le _) h; omega⟩
theorem key_d (x : Kd) : keyOf Tryz.prog 90 (.agg #[.string x.1.1, .int .i64 x.1.2]) = some (κd x) := by
  obtain ⟨⟨s, d⟩, h1, h2, h3⟩ := x
  have hf : (Value.agg #[.string s, .int .i64 d]).formed Tryz.prog 90 = true := by simp [Value.formed, Tryz.underlying90, cellsD]
  have hw : (Lit.int .i64 d).wf = true := WalkArith.wf_i64 ⟨h2, h3⟩
  obtain ⟨m, hm⟩ := sizeD
  exact keyOf_lits Tryz.underlying90 keyTypeD hf hm (lits2 Tryz.prog m 90 9 3 _ _ Tryz.underlying90 cellsD (by decide) (by decide) rfl rfl rfl rfl Tryz.underlying9 Tryz.underlying3 cellsS cellsI s d h1 hw)
theorem κd_inj : ∀ x y : Kd, κd x = κd y → x = y := fun x y h => by
  have h1 := keyedD.inj (key_d x) (h ▸ key_d y)
  obtain ⟨⟨s, d⟩, hx⟩ := x
  obtain ⟨⟨t, e⟩, hy⟩ := y
  simp only [Value.agg.injEq, Array.mk.injEq, List.cons.injEq, Value.string.injEq, Value.int.injEq, true_and, and_true] at h1
  obtain ⟨rfl, rfl⟩ := h1
  rfl
theorem zeroB (w : World) : (zeroValue 4).run Tryz.prog w = .ok (.bool false) w := by kernel_rfl
end Mo
end Go.Proofs.YtpmlhgmmobpilaaGreatDoor

namespace Go.Proofs.YtpmlhgmmobpilaaGreatDoor
open Go.RowKit Go.Shelf
namespace Mo
open Nt Ci
theorem pos_w (n : Int) (w : World) : Calls Tryz.prog 64 #[.int .i64 n] w fun e w' => e = .returned (.bool (posB n)) ∧ w' = w := by
  have hd : posB n = (decide (1 ≤ n) && decide (n ≤ 1000000)) := Bool.decide_and _ _
  rw [hd]
  by_cases c1 : 1 ≤ n
  · have m1 : decide (1 ≤ n) = true := decide_eq_true c1
    by_cases c2 : n ≤ 1000000
    · have m2 : decide (n ≤ 1000000) = true := decide_eq_true c2
      rw [m1, m2]
      go_enter Tryz.func64, Tryz.ntmps64
      go_wp2
      go_ret
      exact ⟨rfl, rfl⟩
    · have m2 : decide (n ≤ 1000000) = false := decide_eq_false c2
      rw [m1, m2]
      go_enter Tryz.func64, Tryz.ntmps64
      go_wp2
      go_ret
      exact ⟨rfl, rfl⟩
  · have m1 : decide (1 ≤ n) = false := decide_eq_false c1
    rw [m1, Bool.false_and]
    go_enter Tryz.func64, Tryz.ntmps64
    go_wp2
    go_ret
    exact ⟨rfl, rfl⟩
/-- What is in Valid's map ahead of rate k. -/
def seenF (l : List Rt) (k : Nat) : Kd → Option Value := fun x => if (l.take k).any (fun y => decide (y.1 = x.1.1) && decide (y.2.1 = x.1.2)) = true then some (.bool true) else none
theorem seenF_succ {l : List Rt} {k : Nat} (h : k < l.length) (x : Kd) (h1 : x.1.1 = l[k].1) (h2 : x.1.2 = l[k].2.1) : ∀ y, putF (seenF l k) x (some (.bool true)) y = seenF l (k + 1) y := fun y => by
  unfold seenF
  by_cases e : y = x
  · rw [e, putF_same, List.take_succ_eq_append_getElem h, List.any_append]
    rw [if_pos]
    simp [h1, h2]
  · rw [putF_other e, List.take_succ_eq_append_getElem h, List.any_append]
    congr 1
    have : ([l[k]].any fun z => decide (z.1 = y.1.1) && decide (z.2.1 = y.1.2)) = false := by
      rw [List.any_eq_false]
      intro z hz
      rw [List.mem_singleton.1 hz]
      simp only [Bool.and_eq_true, decide_eq_true_eq, not_and]
      intro g1 g2
      refine e (Subtype.ext (Prod.ext ?_ ?_))
      · rw [h1, g1]
      · rw [h2, g2]
    rw [this, Bool.or_false]
theorem seen_get (l : List Rt) (k : Nat) (x : Kd) : (seenF l k x).getD (.bool false) = .bool ((l.take k).any fun y => decide (y.1 = x.1.1) && decide (y.2.1 = x.1.2)) := by
  unfold seenF
  by_cases c : ((l.take k).any fun y => decide (y.1 = x.1.1) && decide (y.2.1 = x.1.2)) = true
  · rw [if_pos c, c]; rfl
  · rw [if_neg c, Bool.eq_false_iff.2 c]; rfl
theorem rtAt_iff {base : ByteArray} {l : List Rt} {k : Nat} (h : k < l.length) : RtAt base l k h ↔ okR base l[k] = true ∧ ((l.take k).any fun y => decide (y.1 = l[k].1) && decide (y.2.1 = l[k].2.1)) = false := by
  unfold RtAt
  rw [List.any_eq_false]
  constructor
  · rintro ⟨h1, h2⟩
    refine ⟨h1, fun y hy => ?_⟩
    obtain ⟨j, hj, rfl⟩ := List.getElem_of_mem hy
    rw [List.length_take] at hj
    rw [List.getElem_take]
    have := h2 j (by omega)
    unfold sameK at this
    rw [this]
    decide
  · rintro ⟨h1, h2⟩
    refine ⟨h1, fun j hj => ?_⟩
    have := h2 (l[j]'(Nat.lt_trans hj h)) (List.mem_of_getElem (i := j) (h := by rw [List.length_take]; omega) (by rw [List.getElem_take]))
    unfold sameK
    simpa using this
/-- Valid's map, with at most k entries. -/
def SeenM (W : World) (b : Nat) (l : List Rt) (k : Nat) : Prop := ∃ c, MapK Tryz.prog 90 κd W b c (seenF l k) ∧ c ≤ k
set_option maxRecDepth 100000 in
set_option maxHeartbeats 16000000 in
theorem Valid_any (l : List Rt) (A : Option Addr) (cap : Nat) (base : ByteArray) (w : World) (hl : InRt w A l) (hll : l.length ≤ 140737488355328) (hbs : base.size ≤ 140737488355328) (hz : RtSz l) :
    Calls Tryz.prog 22 #[.slice A l.length cap, .string base] w fun e w' => e = .returned (.bool (validR l base)) ∧ Below w.heap.size w w' := by
  have kb := isCurrency_w base w (by omega)
  obtain ⟨bi, hbi⟩ : ∃ x, x = identB base := ⟨_, rfl⟩
  rw [← hbi] at kb
  have hVF : Hid (¬ (bi = true ∧ l.length ≤ 400) → validR l base = false) := fun h => by cases c : validR l base; (· rfl); (· exact absurd ⟨hbi.trans (valid_iff.1 c).1, (valid_iff.1 c).2.1⟩ h)
  have hVB := Lib.hid (fun (k : Nat) (h : k < l.length) (hb : ¬ RtAt base l k h) => valid_bad (base := base) (l := l) h hb)
  have hVT : Hid (bi = true → l.length ≤ 400 → (∀ k (h : k < l.length), RtAt base l k h) → validR l base = true) := fun h1 h2 h3 => valid_iff.2 ⟨hbi.symm.trans h1, h2, h3⟩
  have kic := Lib.hid (fun (s : ByteArray) W (h : s.size ≤ 9223372036854775807) => isCurrency_w s W h)
  replace hbi := Lib.hid hbi
  replace kb := Lib.hid kb
  replace hl := Lib.hid hl
  replace hz := Lib.hid hz
  cases bi with
  | false =>
    have hR : Hid (validR l base = false) := hVF.out fun h => by cases h.1
    go_enter Tryz.func22, Tryz.ntmps22
    go_wp2_with fail
    refine kb.out.mono ?_
    rintro e wq ⟨rfl, hq⟩
    obtain rfl := hq.symm
    go_wp2
    go_ret
    exact ⟨ret_bool hR.out.symm, Below.refl _ _⟩
  | true =>
    by_cases hl4 : l.length ≤ 400
    rotate_left
    · have hR : Hid (validR l base = false) := hVF.out fun h => hl4 h.2
      have m1 : decide (400 < (l.length : Int)) = true := decide_eq_true (by omega)
      go_enter Tryz.func22, Tryz.ntmps22
      go_wp2_with fail
      refine kb.out.mono ?_
      rintro e wq ⟨rfl, hq⟩
      obtain rfl := hq.symm
      go_wp2
      go_ret
      exact ⟨ret_bool hR.out.symm, Below.refl _ _⟩
    · have m1 : decide (400 < (l.length : Int)) = false := decide_eq_false (by omega)
      have hmm := @run_makeMap Tryz.prog
      have hM0 : Hid (SeenM (w.alloc (.map #[] 0)) w.heap.size l 0) := ⟨0, (MapK.made w _ _ _).congr fun x => by simp [seenF], Nat.le_refl _⟩
      have hB0 : Hid (Below w.heap.size w (w.alloc (.map #[] 0))) := (Below.refl _ w).alloc (Nat.le_refl _) _
      go_enter Tryz.func22, Tryz.ntmps22
      go_wp2_with fail
      refine kb.out.mono ?_
      rintro e wq ⟨rfl, hq⟩
      obtain rfl := hq.symm
      go_wp2
      clear hmm
      go_loopw [21] (fun i wr => ∃ k : Nat, k ≤ l.length ∧ i = .int .i64 (k : Int) ∧ Hid (Below w.heap.size w wr) ∧ Hid (SeenM wr w.heap.size l k) ∧ Hid (∀ j (h : j < l.length), j < k → RtAt base l j h)) (fun i _ => l.length - (intOf i).toNat)
      case atStart => exact ⟨0, Nat.zero_le _, rfl, hB0, hM0, fun j _ h => absurd h (Nat.not_lt_zero _)⟩
      case round =>
        obtain ⟨k, hk, rfl, hB, hM, hI⟩ := hrel
        clear hM0 hB0
        obtain ⟨wz, rfl⟩ : ∃ z, z = wr := ⟨_, rfl⟩
        by_cases hlt : k < l.length
        · obtain ⟨b, off, rfl, hbl, hcc⟩ := (hl.out.below hB.out) (by omega)
          obtain ⟨e1, e2, e3, e4⟩ := hcc k hlt
          have hzz := hz.out l[k] (List.getElem_mem hlt)
          have hat := @rtAt_iff base l k hlt
          have hbad := hVB.out k hlt
          have k0 : (0 : Int) ≤ (k : Int) := by omega
          have k1 : (k : Int) < (l.length : Int) := by omega
          have hAl : Hid (RtAt base l k hlt → ∀ j (h : j < l.length), j < k + 1 → RtAt base l j h) := fun h j hj h2 => by
            by_cases e : j = k
            · subst e; exact h
            · exact hI.out j hj (by omega)
          have hsu := @seenF_succ l k hlt
          generalize RtAt base l k hlt = RA at hat hbad hAl
          obtain ⟨x, hx⟩ : ∃ x, x = l[k] := ⟨_, rfl⟩
          rw [← hx] at e1 e2 e3 e4 hzz hat hsu
          replace hx := Lib.hid hx
          obtain ⟨c, d, n, m⟩ := x
          replace e1 : wz.cell? ⟨b, off + k * 4, none⟩ = some (.string c) := e1; replace e2 : wz.cell? ⟨b, off + k * 4 + 1, none⟩ = some (.int .i64 d) := e2; replace e3 : wz.cell? ⟨b, off + k * 4 + 2, none⟩ = some (.int .i64 n) := e3; replace e4 : wz.cell? ⟨b, off + k * 4 + 3, none⟩ = some (.int .i64 m) := e4
          obtain ⟨z1, ⟨z2, z3⟩, ⟨z4, z5⟩, z6, z7⟩ : c.size ≤ 140737488355328 ∧ (-9223372036854775808 ≤ d ∧ d ≤ 9223372036854775807) ∧ (-9223372036854775808 ≤ n ∧ n ≤ 9223372036854775807) ∧ (-9223372036854775808 ≤ m ∧ m ≤ 9223372036854775807) := hzz
          obtain ⟨kx, hkx⟩ : ∃ x : Kd, x = ⟨(c, d), by show c.size ≤ maxLen; unfold maxLen; omega, z2, z3⟩ := ⟨_, rfl⟩
          have hkx1 : kx.1.1 = c := by rw [hkx]
          have hkx2 : kx.1.2 = d := by rw [hkx]
          have hkd := key_d kx
          rw [hkx1, hkx2] at hkd
          replace hsu := Lib.hid (hsu kx hkx1 hkx2)
          replace hkx := Lib.hid hkx
          clear hcc
          have hB7 : Hid (Below w.heap.size w ((wz.alloc (.cells #[.string c, .int .i64 d, .int .i64 n, .int .i64 m] 42)).alloc (.cells #[.string c, .int .i64 d] 90))) := (hB.out.alloc hB.out.size _).alloc (by have := hB.out.size; simp; omega) _
          obtain ⟨mc, hM1, hmc⟩ := hM.out
          have hM7 := (hM1.alloc (.cells #[.string c, .int .i64 d, .int .i64 n, .int .i64 m] 42)).alloc (.cells #[.string c, .int .i64 d] 90)
          have hlook := hM7.look keyedD Tryz.underlying88 (zeroB _) hkd
          rw [seen_get, hkx1, hkx2] at hlook
          obtain ⟨w9, hrun, hM9, hg9⟩ := hM7.put κd_inj keyedD Tryz.underlying88 (by unfold maxLen; omega) hkd (.bool true)
          have hM8 : Hid (SeenM w9 w.heap.size l (k + 1)) := ⟨_, hM9.congr hsu.out, by split <;> omega⟩
          have hB8 : Hid (Below w.heap.size w w9) := hB7.out.grown hg9 hB7.out.size (fun b e => by cases e; exact Nat.le_refl _)
          have hx7 : Hid (Bk ((wz.alloc (.cells #[.string c, .int .i64 d, .int .i64 n, .int .i64 m] 42)).alloc (.cells #[.string c, .int .i64 d] 90)) wz.heap.size 42 [.string c, .int .i64 d, .int .i64 n, .int .i64 m]) := (Bk.new wz _ _).alloc _
          have hy7 : Hid (Bk ((wz.alloc (.cells #[.string c, .int .i64 d, .int .i64 n, .int .i64 m] 42)).alloc (.cells #[.string c, .int .i64 d] 90)) (wz.heap.size + 1) 90 [.string c, .int .i64 d]) := by have h := Bk.new (wz.alloc (.cells #[.string c, .int .i64 d, .int .i64 n, .int .i64 m] 42)) 90 [.string c, .int .i64 d]; rw [World.size_alloc] at h; exact h
          have hE := @toList_eq c base
          replace hat : Hid (RA ↔ okR base (c, d, n, m) = true ∧ ((l.take k).any fun y => decide (y.1 = c) && decide (y.2.1 = d)) = false) := hat
          have hok : Hid (okR base (c, d, n, m) = (identB c && !decide (c = base) && dayB d && posB n && posB m)) := rfl
          have k1c := kic.out c ((wz.alloc (.cells #[.string c, .int .i64 d, .int .i64 n, .int .i64 m] 42)).alloc (.cells #[.string c, .int .i64 d] 90)) (by omega)
          have k2c := isDay_w d ((wz.alloc (.cells #[.string c, .int .i64 d, .int .i64 n, .int .i64 m] 42)).alloc (.cells #[.string c, .int .i64 d] 90))
          have k3c := pos_w n ((wz.alloc (.cells #[.string c, .int .i64 d, .int .i64 n, .int .i64 m] 42)).alloc (.cells #[.string c, .int .i64 d] 90))
          have k4c := pos_w m ((wz.alloc (.cells #[.string c, .int .i64 d, .int .i64 n, .int .i64 m] 42)).alloc (.cells #[.string c, .int .i64 d] 90))
          generalize identB c = b1 at hok k1c
          generalize decide (c = base) = b2 at hok hE
          generalize dayB d = b3 at hok k2c
          generalize posB n = b4 at hok k3c
          generalize posB m = b5 at hok k4c
          generalize ((l.take k).any fun y => decide (y.1 = c) && decide (y.2.1 = d)) = b6 at hat hlook
          replace k1c := Lib.hid k1c; replace k2c := Lib.hid k2c; replace k3c := Lib.hid k3c; replace k4c := Lib.hid k4c
          clear hM1 hM7 hM9 hg9 hM hkd
          have x0 := hx7.out.cell (j := 0) rfl
          have x1 := hx7.out.cell (j := 1) rfl
          have x2 := hx7.out.cell (j := 2) rfl
          have x3 := hx7.out.cell (j := 3) rfl
          have y0 := hy7.out.cell (j := 0) rfl
          have y1 := hy7.out.cell (j := 1) rfl
          have x9 := hx7.out.lt; have y9 := hy7.out.lt
          clear hx7 hy7
          go_wp2_with fail
          refine k1c.out.mono ?_
          rintro e wq ⟨rfl, hq⟩
          obtain rfl := hq.symm
          cases b1 with
          | false =>
            have hR : Hid (validR l base = false) := hbad fun h => by have h1 := (hat.out.1 h).1; rw [hok.out] at h1; simp at h1
            clear hlook hrun
            go_wp2
            go_ret
            exact ⟨ret_bool hR.out.symm, hB7.out⟩
          | true =>
            cases b2 with
            | true =>
              have hR : Hid (validR l base = false) := hbad fun h => by have h1 := (hat.out.1 h).1; rw [hok.out] at h1; simp at h1
              clear hlook hrun
              go_wp2
              go_ret
              exact ⟨ret_bool hR.out.symm, hB7.out⟩
            | false =>
              go_wp2_with fail
              refine k2c.out.mono ?_
              rintro e wq ⟨rfl, hq⟩
              obtain rfl := hq.symm
              cases b3 with
              | false =>
                have hR : Hid (validR l base = false) := hbad fun h => by have h1 := (hat.out.1 h).1; rw [hok.out] at h1; simp at h1
                clear hlook hrun
                go_wp2
                go_ret
                exact ⟨ret_bool hR.out.symm, hB7.out⟩
              | true =>
                go_wp2_with fail
                refine k3c.out.mono ?_
                rintro e wq ⟨rfl, hq⟩
                obtain rfl := hq.symm
                cases b4 with
                | false =>
                  have hR : Hid (validR l base = false) := hbad fun h => by have h1 := (hat.out.1 h).1; rw [hok.out] at h1; simp at h1
                  clear hlook hrun
                  go_wp2
                  go_ret
                  exact ⟨ret_bool hR.out.symm, hB7.out⟩
                | true =>
                  go_wp2_with fail
                  refine k4c.out.mono ?_
                  rintro e wq ⟨rfl, hq⟩
                  obtain rfl := hq.symm
                  cases b5 with
                  | false =>
                    have hR : Hid (validR l base = false) := hbad fun h => by have h1 := (hat.out.1 h).1; rw [hok.out] at h1; simp at h1
                    clear hlook hrun
                    go_wp2
                    go_ret
                    exact ⟨ret_bool hR.out.symm, hB7.out⟩
                  | true =>
                    cases b6 with
                    | true =>
                      have hR : Hid (validR l base = false) := hbad fun h => by have h1 := (hat.out.1 h).2; cases h1
                      clear hrun
                      go_wp2
                      go_ret
                      exact ⟨ret_bool hR.out.symm, hB7.out⟩
                    | false =>
                      have hRA := hAl.out (hat.out.2 ⟨by rw [hok.out]; rfl, rfl⟩)
                      replace hRA := Lib.hid hRA
                      clear hbad
                      go_wp2
                      exact ⟨⟨k + 1, by omega, by go_num, hB8, hM8, hRA⟩, by simp only [intOf]; omega⟩
        · obtain rfl : k = l.length := by omega
          have hR : Hid (validR l base = true) := hVT.out (by first | rfl | trivial) hl4 fun j hj => hI.out j hj hj
          clear hI
          go_wp2
          go_ret
          exact ⟨ret_bool hR.out.symm, hB.out⟩
end Mo
end Go.Proofs.YtpmlhgmmobpilaaGreatDoor

namespace Go.Proofs.YtpmlhgmmobpilaaGreatDoor
open Go.RowKit Go.Shelf
namespace Mo
open Nt Ci
section
variable {l : List Rt} {base cur : ByteArray} {day : Int}
theorem find_no (h : ¬ (validR l base = true ∧ identB cur = true ∧ dayB day = true)) : findR l base cur day = (noR, 1) := if_neg h
theorem find_own (h : validR l base = true ∧ identB cur = true ∧ dayB day = true) (e : cur = base) : findR l base cur day = ((base, 0, 1, 1), 0) := by unfold findR; rw [if_pos h, if_pos e]
theorem find_some (h : validR l base = true ∧ identB cur = true ∧ dayB day = true) (e : ¬ cur = base) (hs : (bestR l cur day).isSome = true) : findR l base cur day = ((bestR l cur day).getD noR, 0) := by
  unfold findR
  rw [if_pos h, if_neg e]
  cases c : bestR l cur day with
  | none => rw [c] at hs; cases hs
  | some x => rfl
theorem find_none (h : validR l base = true ∧ identB cur = true ∧ dayB day = true) (e : ¬ cur = base) (hs : (bestR l cur day).isSome = false) : findR l base cur day = (noR, 11) := by
  unfold findR
  rw [if_pos h, if_neg e]
  cases c : bestR l cur day with
  | none => rfl
  | some x => rw [c] at hs; cases hs
end
set_option maxRecDepth 100000 in
set_option maxHeartbeats 8000000 in
theorem Find_any (l : List Rt) (A : Option Addr) (cap : Nat) (base cur : ByteArray) (day : Int) (w : World) (hl : InRt w A l) (hll : l.length ≤ 140737488355328) (hbs : base.size ≤ 140737488355328) (hcs : cur.size ≤ 140737488355328) (hz : RtSz l) :
    Calls Tryz.prog 21 #[.slice A l.length cap, .string base, .string cur, .int .i64 day] w fun e w' => e = .returned (.tuple #[rtV (findR l base cur day).1, .int .i64 (findR l base cur day).2]) ∧ Below w.heap.size w w' := by
  have hB1 : Hid (Below w.heap.size w (((w.alloc (.cells #[.string cur] 9)).alloc (.cells #[.int .i64 day] 3)).alloc (.cells #[.string ⟨#[]⟩, .int .i64 0, .int .i64 0, .int .i64 0] 42))) := ((((Below.refl _ w).alloc (Nat.le_refl _) _).alloc (by simp) _).alloc (by simp; omega) _)
  have hc1 : Hid (Bk (((w.alloc (.cells #[.string cur] 9)).alloc (.cells #[.int .i64 day] 3)).alloc (.cells #[.string ⟨#[]⟩, .int .i64 0, .int .i64 0, .int .i64 0] 42)) w.heap.size 9 [.string cur]) := ((Bk.new w _ _).alloc _).alloc _
  have hd1 : Hid (Bk (((w.alloc (.cells #[.string cur] 9)).alloc (.cells #[.int .i64 day] 3)).alloc (.cells #[.string ⟨#[]⟩, .int .i64 0, .int .i64 0, .int .i64 0] 42)) (w.heap.size + 1) 3 [.int .i64 day]) := by have h := (Bk.new (w.alloc (.cells #[.string cur] 9)) 3 [.int .i64 day]).alloc (.cells #[.string ⟨#[]⟩, .int .i64 0, .int .i64 0, .int .i64 0] 42); rw [World.size_alloc] at h; exact h
  have hr1 : Hid (Bk (((w.alloc (.cells #[.string cur] 9)).alloc (.cells #[.int .i64 day] 3)).alloc (.cells #[.string ⟨#[]⟩, .int .i64 0, .int .i64 0, .int .i64 0] 42)) (w.heap.size + 1 + 1) 42 [.string ⟨#[]⟩, .int .i64 0, .int .i64 0, .int .i64 0]) := by have h := Bk.new ((w.alloc (.cells #[.string cur] 9)).alloc (.cells #[.int .i64 day] 3)) 42 [.string ⟨#[]⟩, .int .i64 0, .int .i64 0, .int .i64 0]; rw [World.size_alloc, World.size_alloc] at h; exact h
  have kv := Valid_any l A cap base (((w.alloc (.cells #[.string cur] 9)).alloc (.cells #[.int .i64 day] 3)).alloc (.cells #[.string ⟨#[]⟩, .int .i64 0, .int .i64 0, .int .i64 0] 42)) (hl.below hB1.out) hll hbs hz
  have kic := Lib.hid (fun W => isCurrency_w cur W (by omega))
  have kid := Lib.hid (fun W => isDay_w day W)
  have hE := @toList_eq cur base
  have kbe := Lib.hid (fun cb db W (hW : Below w.heap.size w W) h1 h2 => best_any l A cap cb db cur day W (hl.below hW) hll h1 h2)
  have f1 := @find_no l base cur day; have f2 := @find_own l base cur day; have f3 := @find_some l base cur day; have f4 := @find_none l base cur day
  generalize findR l base cur day = fr at f1 f2 f3 f4 ⊢
  obtain ⟨bv, hbv⟩ : ∃ x, x = validR l base := ⟨_, rfl⟩; obtain ⟨bi, hbi⟩ : ∃ x, x = identB cur := ⟨_, rfl⟩; obtain ⟨bd, hbd⟩ : ∃ x, x = dayB day := ⟨_, rfl⟩
  rw [← hbv] at kv; rw [← hbi] at kic; rw [← hbd] at kid; rw [← hbv, ← hbi, ← hbd] at f1 f2 f3 f4
  clear hbv hbi hbd
  replace kv := Lib.hid kv; replace hz := Lib.hid hz; replace hl := Lib.hid hl
  have c0 := hc1.out.cell (j := 0) rfl; have c9 := hc1.out.lt
  have d0 := hd1.out.cell (j := 0) rfl; have d9 := hd1.out.lt
  go_enter Tryz.func21, Tryz.ntmps21
  go_wp2_with fail
  refine kv.out.mono ?_
  rintro e w2 ⟨rfl, hb⟩
  have hB2 := Lib.hid (hB1.out.trans (hb.mono hB1.out.size)); have hc2 := Lib.hid (hc1.out.below hb); have hd2 := Lib.hid (hd1.out.below hb); have hr2 := Lib.hid (hr1.out.below hb)
  clear hb hB1 hc1 hd1 hr1 c0 d0 c9 d9 kv
  have c0 := hc2.out.cell (j := 0) rfl; have d0 := hd2.out.cell (j := 0) rfl; have c9 := hc2.out.lt; have d9 := hd2.out.lt
  have r0 := hr2.out.cell (j := 0) rfl; have p0 := hr2.out.frozen 0
  have r1 := hr2.out.cell (j := 1) rfl; have p1 := hr2.out.frozen 1
  have r2 := hr2.out.cell (j := 2) rfl; have p2 := hr2.out.frozen 2
  have r3 := hr2.out.cell (j := 3) rfl; have p3 := hr2.out.frozen 3
  have r9 := hr2.out.lt
  cases bv with
  | false =>
    have hfr : fr = (noR, 1) := f1 (by simp)
    clear f1 f2 f3 f4
    have hB5 : Hid (Below w.heap.size w ((((w2.setCell ⟨w.heap.size + 1 + 1, 0, none⟩ (.string ⟨#[]⟩)).setCell ⟨w.heap.size + 1 + 1, 1, none⟩ (.int .i64 0)).setCell ⟨w.heap.size + 1 + 1, 2, none⟩ (.int .i64 0)).setCell ⟨w.heap.size + 1 + 1, 3, none⟩ (.int .i64 0))) := ((((hB2.out.setCell (p := ⟨w.heap.size + 1 + 1, 0, none⟩) (by simp only []; omega) _).setCell (p := ⟨w.heap.size + 1 + 1, 1, none⟩) (by simp only []; omega) _).setCell (p := ⟨w.heap.size + 1 + 1, 2, none⟩) (by simp only []; omega) _).setCell (p := ⟨w.heap.size + 1 + 1, 3, none⟩) (by simp only []; omega) _)
    have hR5 : Hid (Bk ((((w2.setCell ⟨w.heap.size + 1 + 1, 0, none⟩ (.string ⟨#[]⟩)).setCell ⟨w.heap.size + 1 + 1, 1, none⟩ (.int .i64 0)).setCell ⟨w.heap.size + 1 + 1, 2, none⟩ (.int .i64 0)).setCell ⟨w.heap.size + 1 + 1, 3, none⟩ (.int .i64 0)) (w.heap.size + 1 + 1) 42 [.string ⟨#[]⟩, .int .i64 0, .int .i64 0, .int .i64 0]) := (((Bk.set hr2.out 0 (.string ⟨#[]⟩)).set 1 (.int .i64 0)).set 2 (.int .i64 0)).set 3 (.int .i64 0)
    go_wp2
    (try simp only [Exit.inBlock, Exit.then])
    have s0 := hR5.out.cell (j := 0) rfl
    have s1 := hR5.out.cell (j := 1) rfl
    have s2 := hR5.out.cell (j := 2) rfl
    have s3 := hR5.out.cell (j := 3) rfl
    have s9 := hR5.out.lt
    refine bodyPost_ret (v := .tuple #[.agg #[.string ⟨#[]⟩, .int .i64 0, .int .i64 0, .int .i64 0], .int .i64 1]) (by simp [results, Tryz.results21, go_sem, s0, s1, s2, s3]) rfl ⟨by rw [hfr]; rfl, hB5.out⟩
  | true =>
    go_wp2_with fail
    refine (kic.out _).mono ?_
    rintro e wq ⟨rfl, hq⟩
    obtain rfl := hq.symm
    cases bi with
    | false =>
      have hfr : fr = (noR, 1) := f1 (by simp)
      clear f1 f2 f3 f4
      have hB5 : Hid (Below w.heap.size w ((((w2.setCell ⟨w.heap.size + 1 + 1, 0, none⟩ (.string ⟨#[]⟩)).setCell ⟨w.heap.size + 1 + 1, 1, none⟩ (.int .i64 0)).setCell ⟨w.heap.size + 1 + 1, 2, none⟩ (.int .i64 0)).setCell ⟨w.heap.size + 1 + 1, 3, none⟩ (.int .i64 0))) := ((((hB2.out.setCell (p := ⟨w.heap.size + 1 + 1, 0, none⟩) (by simp only []; omega) _).setCell (p := ⟨w.heap.size + 1 + 1, 1, none⟩) (by simp only []; omega) _).setCell (p := ⟨w.heap.size + 1 + 1, 2, none⟩) (by simp only []; omega) _).setCell (p := ⟨w.heap.size + 1 + 1, 3, none⟩) (by simp only []; omega) _)
      have hR5 : Hid (Bk ((((w2.setCell ⟨w.heap.size + 1 + 1, 0, none⟩ (.string ⟨#[]⟩)).setCell ⟨w.heap.size + 1 + 1, 1, none⟩ (.int .i64 0)).setCell ⟨w.heap.size + 1 + 1, 2, none⟩ (.int .i64 0)).setCell ⟨w.heap.size + 1 + 1, 3, none⟩ (.int .i64 0)) (w.heap.size + 1 + 1) 42 [.string ⟨#[]⟩, .int .i64 0, .int .i64 0, .int .i64 0]) := (((Bk.set hr2.out 0 (.string ⟨#[]⟩)).set 1 (.int .i64 0)).set 2 (.int .i64 0)).set 3 (.int .i64 0)
      go_wp2
      (try simp only [Exit.inBlock, Exit.then])
      have s0 := hR5.out.cell (j := 0) rfl
      have s1 := hR5.out.cell (j := 1) rfl
      have s2 := hR5.out.cell (j := 2) rfl
      have s3 := hR5.out.cell (j := 3) rfl
      have s9 := hR5.out.lt
      refine bodyPost_ret (v := .tuple #[.agg #[.string ⟨#[]⟩, .int .i64 0, .int .i64 0, .int .i64 0], .int .i64 1]) (by simp [results, Tryz.results21, go_sem, s0, s1, s2, s3]) rfl ⟨by rw [hfr]; rfl, hB5.out⟩
    | true =>
      go_wp2_with fail
      refine (kid.out _).mono ?_
      rintro e wq ⟨rfl, hq⟩
      obtain rfl := hq.symm
      cases bd with
      | false =>
        have hfr : fr = (noR, 1) := f1 (by simp)
        clear f1 f2 f3 f4
        have hB5 : Hid (Below w.heap.size w ((((w2.setCell ⟨w.heap.size + 1 + 1, 0, none⟩ (.string ⟨#[]⟩)).setCell ⟨w.heap.size + 1 + 1, 1, none⟩ (.int .i64 0)).setCell ⟨w.heap.size + 1 + 1, 2, none⟩ (.int .i64 0)).setCell ⟨w.heap.size + 1 + 1, 3, none⟩ (.int .i64 0))) := ((((hB2.out.setCell (p := ⟨w.heap.size + 1 + 1, 0, none⟩) (by simp only []; omega) _).setCell (p := ⟨w.heap.size + 1 + 1, 1, none⟩) (by simp only []; omega) _).setCell (p := ⟨w.heap.size + 1 + 1, 2, none⟩) (by simp only []; omega) _).setCell (p := ⟨w.heap.size + 1 + 1, 3, none⟩) (by simp only []; omega) _)
        have hR5 : Hid (Bk ((((w2.setCell ⟨w.heap.size + 1 + 1, 0, none⟩ (.string ⟨#[]⟩)).setCell ⟨w.heap.size + 1 + 1, 1, none⟩ (.int .i64 0)).setCell ⟨w.heap.size + 1 + 1, 2, none⟩ (.int .i64 0)).setCell ⟨w.heap.size + 1 + 1, 3, none⟩ (.int .i64 0)) (w.heap.size + 1 + 1) 42 [.string ⟨#[]⟩, .int .i64 0, .int .i64 0, .int .i64 0]) := (((Bk.set hr2.out 0 (.string ⟨#[]⟩)).set 1 (.int .i64 0)).set 2 (.int .i64 0)).set 3 (.int .i64 0)
        go_wp2
        (try simp only [Exit.inBlock, Exit.then])
        have s0 := hR5.out.cell (j := 0) rfl
        have s1 := hR5.out.cell (j := 1) rfl
        have s2 := hR5.out.cell (j := 2) rfl
        have s3 := hR5.out.cell (j := 3) rfl
        have s9 := hR5.out.lt
        refine bodyPost_ret (v := .tuple #[.agg #[.string ⟨#[]⟩, .int .i64 0, .int .i64 0, .int .i64 0], .int .i64 1]) (by simp [results, Tryz.results21, go_sem, s0, s1, s2, s3]) rfl ⟨by rw [hfr]; rfl, hB5.out⟩
      | true =>
        by_cases hcb : cur = base
        · have hfr := f2 (by simp) hcb
          rw [decide_eq_true hcb] at hE
          replace hcb := Lib.hid hcb
          clear f1 f2 f3 f4
          have hB5 : Hid (Below w.heap.size w ((((w2.setCell ⟨w.heap.size + 1 + 1, 0, none⟩ (.string base)).setCell ⟨w.heap.size + 1 + 1, 1, none⟩ (.int .i64 0)).setCell ⟨w.heap.size + 1 + 1, 2, none⟩ (.int .i64 1)).setCell ⟨w.heap.size + 1 + 1, 3, none⟩ (.int .i64 1))) := ((((hB2.out.setCell (p := ⟨w.heap.size + 1 + 1, 0, none⟩) (by simp only []; omega) _).setCell (p := ⟨w.heap.size + 1 + 1, 1, none⟩) (by simp only []; omega) _).setCell (p := ⟨w.heap.size + 1 + 1, 2, none⟩) (by simp only []; omega) _).setCell (p := ⟨w.heap.size + 1 + 1, 3, none⟩) (by simp only []; omega) _)
          have hR5 : Hid (Bk ((((w2.setCell ⟨w.heap.size + 1 + 1, 0, none⟩ (.string base)).setCell ⟨w.heap.size + 1 + 1, 1, none⟩ (.int .i64 0)).setCell ⟨w.heap.size + 1 + 1, 2, none⟩ (.int .i64 1)).setCell ⟨w.heap.size + 1 + 1, 3, none⟩ (.int .i64 1)) (w.heap.size + 1 + 1) 42 [.string base, .int .i64 0, .int .i64 1, .int .i64 1]) := (((Bk.set hr2.out 0 (.string base)).set 1 (.int .i64 0)).set 2 (.int .i64 1)).set 3 (.int .i64 1)
          go_wp2
          (try simp only [Exit.inBlock, Exit.then])
          have s0 := hR5.out.cell (j := 0) rfl
          have s1 := hR5.out.cell (j := 1) rfl
          have s2 := hR5.out.cell (j := 2) rfl
          have s3 := hR5.out.cell (j := 3) rfl
          have s9 := hR5.out.lt
          refine bodyPost_ret (v := .tuple #[.agg #[.string base, .int .i64 0, .int .i64 1, .int .i64 1], .int .i64 0]) (by simp [results, Tryz.results21, go_sem, s0, s1, s2, s3]) rfl ⟨by rw [hfr]; rfl, hB5.out⟩
        · rw [decide_eq_false hcb] at hE
          have k6 := kbe.out w.heap.size (w.heap.size + 1) w2 hB2.out c0 d0
          have g3 := f3 (by simp) hcb; have g4 := f4 (by simp) hcb
          clear f1 f2 f3 f4
          replace hcb := Lib.hid hcb
          generalize (bestR l cur day).isSome = bs at k6 g3 g4
          obtain ⟨y, hy⟩ : ∃ y, y = (bestR l cur day).getD noR := ⟨_, rfl⟩
          rw [← hy] at k6 g3
          replace hy := Lib.hid hy
          obtain ⟨yc, yd, yn, ym⟩ := y
          replace k6 : Hid (Calls Tryz.prog 62 #[.slice A l.length cap, .func (.func 61) #[] #[.pointer (some ⟨w.heap.size, 0, none⟩), .pointer (some ⟨w.heap.size + 1, 0, none⟩)], .func (.func 63) #[] #[]] w2 fun e w' => e = .returned (.tuple #[.agg #[.string yc, .int .i64 yd, .int .i64 yn, .int .i64 ym], .bool bs]) ∧ Below w2.heap.size w2 w') := k6
          go_wp2_with fail
          refine k6.out.mono ?_
          rintro e w6 ⟨rfl, hb⟩
          have hB6 := Lib.hid (hB2.out.trans (hb.mono hB2.out.size)); have hr6 := Lib.hid (hr2.out.below hb)
          clear hb hB2 hc2 hd2 hr2 c0 d0 c9 d9 r0 r1 r2 r3 r9 k6
          have r0 := hr6.out.cell (j := 0) rfl; have q0 := hr6.out.frozen 0
          have r1 := hr6.out.cell (j := 1) rfl; have q1 := hr6.out.frozen 1
          have r2 := hr6.out.cell (j := 2) rfl; have q2 := hr6.out.frozen 2
          have r3 := hr6.out.cell (j := 3) rfl; have q3 := hr6.out.frozen 3
          have r9 := hr6.out.lt
          cases bs with
          | false =>
            have hfr := g4 rfl
            clear g3 g4
            have hB4 : Hid (Below w.heap.size w ((((w6.setCell ⟨w.heap.size + 1 + 1, 0, none⟩ (.string ⟨#[]⟩)).setCell ⟨w.heap.size + 1 + 1, 1, none⟩ (.int .i64 0)).setCell ⟨w.heap.size + 1 + 1, 2, none⟩ (.int .i64 0)).setCell ⟨w.heap.size + 1 + 1, 3, none⟩ (.int .i64 0))) := ((((hB6.out.setCell (p := ⟨w.heap.size + 1 + 1, 0, none⟩) (by simp only []; omega) _).setCell (p := ⟨w.heap.size + 1 + 1, 1, none⟩) (by simp only []; omega) _).setCell (p := ⟨w.heap.size + 1 + 1, 2, none⟩) (by simp only []; omega) _).setCell (p := ⟨w.heap.size + 1 + 1, 3, none⟩) (by simp only []; omega) _)
            have hB5 : Hid (Below w.heap.size w (((((w6.setCell ⟨w.heap.size + 1 + 1, 0, none⟩ (.string ⟨#[]⟩)).setCell ⟨w.heap.size + 1 + 1, 1, none⟩ (.int .i64 0)).setCell ⟨w.heap.size + 1 + 1, 2, none⟩ (.int .i64 0)).setCell ⟨w.heap.size + 1 + 1, 3, none⟩ (.int .i64 0)).alloc (.cells #[.string yc, .int .i64 yd, .int .i64 yn, .int .i64 ym] 42))) := hB4.out.alloc hB4.out.size _
            have hR5 : Hid (Bk (((((w6.setCell ⟨w.heap.size + 1 + 1, 0, none⟩ (.string ⟨#[]⟩)).setCell ⟨w.heap.size + 1 + 1, 1, none⟩ (.int .i64 0)).setCell ⟨w.heap.size + 1 + 1, 2, none⟩ (.int .i64 0)).setCell ⟨w.heap.size + 1 + 1, 3, none⟩ (.int .i64 0)).alloc (.cells #[.string yc, .int .i64 yd, .int .i64 yn, .int .i64 ym] 42)) (w.heap.size + 1 + 1) 42 [.string ⟨#[]⟩, .int .i64 0, .int .i64 0, .int .i64 0]) := ((((Bk.set hr6.out 0 (.string ⟨#[]⟩)).set 1 (.int .i64 0)).set 2 (.int .i64 0)).set 3 (.int .i64 0)).alloc _
            go_wp2
            (try simp only [Exit.inBlock, Exit.then])
            have s0 := hR5.out.cell (j := 0) rfl
            have s1 := hR5.out.cell (j := 1) rfl
            have s2 := hR5.out.cell (j := 2) rfl
            have s3 := hR5.out.cell (j := 3) rfl
            have s9 := hR5.out.lt
            refine bodyPost_ret (v := .tuple #[.agg #[.string ⟨#[]⟩, .int .i64 0, .int .i64 0, .int .i64 0], .int .i64 11]) (by simp [results, Tryz.results21, go_sem, s0, s1, s2, s3]) rfl ⟨by rw [hfr]; rfl, hB5.out⟩
          | true =>
            have hfr := g3 rfl
            clear g3 g4
            have hB4 : Hid (Below w.heap.size w ((((w6.setCell ⟨w.heap.size + 1 + 1, 0, none⟩ (.string yc)).setCell ⟨w.heap.size + 1 + 1, 1, none⟩ (.int .i64 yd)).setCell ⟨w.heap.size + 1 + 1, 2, none⟩ (.int .i64 yn)).setCell ⟨w.heap.size + 1 + 1, 3, none⟩ (.int .i64 ym))) := ((((hB6.out.setCell (p := ⟨w.heap.size + 1 + 1, 0, none⟩) (by simp only []; omega) _).setCell (p := ⟨w.heap.size + 1 + 1, 1, none⟩) (by simp only []; omega) _).setCell (p := ⟨w.heap.size + 1 + 1, 2, none⟩) (by simp only []; omega) _).setCell (p := ⟨w.heap.size + 1 + 1, 3, none⟩) (by simp only []; omega) _)
            have hB5 : Hid (Below w.heap.size w (((((w6.setCell ⟨w.heap.size + 1 + 1, 0, none⟩ (.string yc)).setCell ⟨w.heap.size + 1 + 1, 1, none⟩ (.int .i64 yd)).setCell ⟨w.heap.size + 1 + 1, 2, none⟩ (.int .i64 yn)).setCell ⟨w.heap.size + 1 + 1, 3, none⟩ (.int .i64 ym)).alloc (.cells #[.string yc, .int .i64 yd, .int .i64 yn, .int .i64 ym] 42))) := hB4.out.alloc hB4.out.size _
            have hR5 : Hid (Bk (((((w6.setCell ⟨w.heap.size + 1 + 1, 0, none⟩ (.string yc)).setCell ⟨w.heap.size + 1 + 1, 1, none⟩ (.int .i64 yd)).setCell ⟨w.heap.size + 1 + 1, 2, none⟩ (.int .i64 yn)).setCell ⟨w.heap.size + 1 + 1, 3, none⟩ (.int .i64 ym)).alloc (.cells #[.string yc, .int .i64 yd, .int .i64 yn, .int .i64 ym] 42)) (w.heap.size + 1 + 1) 42 [.string yc, .int .i64 yd, .int .i64 yn, .int .i64 ym]) := ((((Bk.set hr6.out 0 (.string yc)).set 1 (.int .i64 yd)).set 2 (.int .i64 yn)).set 3 (.int .i64 ym)).alloc _
            go_wp2
            (try simp only [Exit.inBlock, Exit.then])
            have s0 := hR5.out.cell (j := 0) rfl
            have s1 := hR5.out.cell (j := 1) rfl
            have s2 := hR5.out.cell (j := 2) rfl
            have s3 := hR5.out.cell (j := 3) rfl
            have s9 := hR5.out.lt
            refine bodyPost_ret (v := .tuple #[.agg #[.string yc, .int .i64 yd, .int .i64 yn, .int .i64 ym], .int .i64 0]) (by simp [results, Tryz.results21, go_sem, s0, s1, s2, s3]) rfl ⟨by rw [hfr]; rfl, hB5.out⟩
end Mo
end Go.Proofs.YtpmlhgmmobpilaaGreatDoor

namespace Go.Proofs.YtpmlhgmmobpilaaGreatDoor
open Go.RowKit Go.Shelf
namespace Nt
theorem atoi_neg (n : Nat) (hn : 0 < n) : Lib.atoiAll (45 :: Lib.decDigits n) = if n ≤ 9223372036854775808 then .ok (-(n : Int)) else .range := by
  have hd := decDigits_dig n
  have hv := dval_decDigits n
  have hne := decDigits_ne n
  have hp := parse10 (Lib.decDigits n) 0 hd (by omega)
  rw [Nat.zero_mul, Nat.zero_add, hv] at hp
  unfold Lib.atoiAll
  simp only [Lib.parseMag]
  have e45 : (if (45 : UInt8).toNat = 43 ∨ (45 : UInt8).toNat = 45 then Lib.decDigits n else 45 :: Lib.decDigits n) = Lib.decDigits n := if_pos (by decide)
  rw [e45, if_neg hne, hp]
  by_cases hle : n ≤ 9223372036854775808
  · rw [if_pos (by omega), if_pos hle]
    simp
    omega
  · rw [if_neg hle]
    by_cases h64 : n < 18446744073709551616
    · rw [if_pos h64]
      simp
      omega
    · rw [if_neg h64]
/-- What Atoi does to a text: a number, or some error. -/
def AtoiOk (s : ByteArray) (z : Int) : Prop := ∀ W, Env W → Calls Tryz.prog 92 #[.string s] W fun e w' => e = .returned (.tuple #[.int .i64 z, .nilIface]) ∧ Below W.heap.size W w'
def AtoiBad (s : ByteArray) : Prop := ∀ W, Env W → Calls Tryz.prog 92 #[.string s] W fun e w' => ∃ (z : Int) (N : Nat), e = .returned (.tuple #[.int .i64 z, .iface 174 (.pointer (some ⟨N, 0, none⟩))]) ∧ Below W.heap.size W w'
theorem atoi_ok (s : ByteArray) (z : Int) (hs : s.size ≤ 1000000) (h : Lib.atoiAll s.data.toList = .ok z) : AtoiOk s z := fun W _ => by
  refine (Tryz.strconv_Atoi_ok s (by omega) _ h W).mono ?_
  rintro e w' ⟨rfl, rfl | ⟨t, rfl⟩⟩
  · exact ⟨rfl, Below.refl _ _⟩
  · exact ⟨rfl, Go.Joins.below_bytesWorld _ _ _ _ (Nat.le_refl _)⟩
theorem atoi_bad (s : ByteArray) (hs : s.size ≤ 1000000) (h : Lib.atoiAll s.data.toList = .range) : AtoiBad s := fun W hE => by
  obtain ⟨tp, p, hv⟩ := hE.rng
  refine (Tryz.strconv_Atoi_range_var s (by omega) h tp p W hv).mono ?_
  rintro e w' ⟨N, rfl, _, _, hb⟩
  exact ⟨_, N, rfl, hb⟩
def InInt (z : Int) : Prop := -9223372036854775808 ≤ z ∧ z ≤ 9223372036854775807
instance (z : Int) : Decidable (InInt z) := inferInstanceAs (Decidable (_ ∧ _))
theorem T_size (n : Nat) (h : n < Lim) : (T (some n)).size ≤ 300 := by
  have h1 : isN (T (some n)) = true := isN_T (ok_some h)
  exact size_of_isN h1
theorem minus_list (n : Nat) : ((⟨#[45]⟩ : ByteArray) ++ T (some n)).data.toList = 45 :: Lib.decDigits n := by
  rw [ByteArray.toList_data_append]
  rfl
theorem minus_size (n : Nat) (h : n < Lim) : ((⟨#[45]⟩ : ByteArray) ++ T (some n)).size ≤ 301 := by
  have h1 := T_size n h
  have h2 : (T (some n)).size = (Lib.decDigits n).length := by rw [Lib.size_eq]; rfl
  rw [Lib.size_eq, minus_list, List.length_cons]
  omega
theorem addOneT (k : Nat) (w : World) (hE : Env w) (hk : k + 1 < Lim) : Calls Tryz.prog 94 #[.string (T (some k)), .string ⟨#[49]⟩] w fun e w' => e = .returned (.tuple #[.string (T (some (k + 1))), .int .i64 0]) ∧ Below w.heap.size w w' := by
  have := addT (some k) (some 1) w hE (ok_some (by omega)) (ok_some one_lt_Lim)
  rw [show sumO (some k) (some 1) = some (k + 1) by simp only [sumO, apO, limO, if_pos hk], show sumE (some k) (some 1) = 0 by simp only [sumE, apE, if_pos hk], T_one] at this
  exact this
set_option maxRecDepth 100000 in
set_option maxHeartbeats 2000000 in
theorem Floor_pos_ok (a b k r : Nat) (w : World) (hE : Env w) (ha : a < Lim) (hb : b < Lim) (hv : validB false (T (some a)) (T (some b)) = true) (hq : quoO (some a) (some b) = some k ∧ remO (some a) (some b) = some r ∧ quoX (some a) (some b) = 0) (_hkl : k < Lim) (z : Int) (hA : AtoiOk (T (some k)) z) :
    Calls Tryz.prog 45 #[.agg #[.bool false, .string (T (some a)), .string (T (some b))]] w fun e w' => e = .returned (.tuple #[.int .i64 z, .int .i64 0]) ∧ Below w.heap.size w w' := by
  have sa := size_T (ok_some ha)
  have sb := size_T (ok_some hb)
  replace hE := Lib.hid hE
  replace hv := Lib.hid hv
  replace hq := Lib.hid hq
  replace hA := Lib.hid hA
  go_enter Tryz.func45, Tryz.ntmps45
  go_wp2_with fail
  refine (Valid_any false (T (some a)) (T (some b)) _ (hE.out.below (one_below _ _)) sa sb).mono ?_
  rintro e w1 ⟨rfl, hb1⟩
  rw [hv.out]
  have q1 := (B3.new w false (T (some a)) (T (some b))).below hb1
  have hB1 := Lib.hid ((one_below w (.cells #[.bool false, .string (T (some a)), .string (T (some b))] 23)).trans (hb1.mono (by simp)))
  obtain ⟨a1, a2, a3, a4, a5, a6⟩ := q1.facts
  clear hb1
  replace q1 := Lib.hid q1
  go_wp2_with fail
  refine (divT (some a) (some b) _ (hE.out.below hB1.out) (ok_some ha) (ok_some hb)).mono ?_
  rintro e w2 ⟨rfl, hb2⟩
  rw [hq.out.1, hq.out.2.1, hq.out.2.2]
  have q2 := q1.out.below hb2
  have hB2 := Lib.hid (hB1.out.trans (hb2.mono hB1.out.size))
  clear a1 a2 a3 a4 a5 a6 hb2 q1
  obtain ⟨a1, a2, a3, a4, a5, a6⟩ := q2.facts
  replace q2 := Lib.hid q2
  go_wp2_with fail
  refine (hA.out _ (hE.out.below hB2.out)).mono ?_
  rintro e w4 ⟨rfl, hb4⟩
  have hB4 := Lib.hid (hB2.out.trans (hb4.mono hB2.out.size))
  clear hb4
  go_wp2
  go_ret2
  exact ⟨rfl, hB4.out⟩
set_option maxRecDepth 100000 in
set_option maxHeartbeats 2000000 in
theorem Floor_pos_bad (a b k r : Nat) (w : World) (hE : Env w) (ha : a < Lim) (hb : b < Lim) (hv : validB false (T (some a)) (T (some b)) = true) (hq : quoO (some a) (some b) = some k ∧ remO (some a) (some b) = some r ∧ quoX (some a) (some b) = 0) (_hkl : k < Lim) (hA : AtoiBad (T (some k))) :
    Calls Tryz.prog 45 #[.agg #[.bool false, .string (T (some a)), .string (T (some b))]] w fun e w' => e = .returned (.tuple #[.int .i64 0, .int .i64 10]) ∧ Below w.heap.size w w' := by
  have sa := size_T (ok_some ha)
  have sb := size_T (ok_some hb)
  replace hE := Lib.hid hE
  replace hv := Lib.hid hv
  replace hq := Lib.hid hq
  replace hA := Lib.hid hA
  go_enter Tryz.func45, Tryz.ntmps45
  go_wp2_with fail
  refine (Valid_any false (T (some a)) (T (some b)) _ (hE.out.below (one_below _ _)) sa sb).mono ?_
  rintro e w1 ⟨rfl, hb1⟩
  rw [hv.out]
  have q1 := (B3.new w false (T (some a)) (T (some b))).below hb1
  have hB1 := Lib.hid ((one_below w (.cells #[.bool false, .string (T (some a)), .string (T (some b))] 23)).trans (hb1.mono (by simp)))
  obtain ⟨a1, a2, a3, a4, a5, a6⟩ := q1.facts
  clear hb1
  replace q1 := Lib.hid q1
  go_wp2_with fail
  refine (divT (some a) (some b) _ (hE.out.below hB1.out) (ok_some ha) (ok_some hb)).mono ?_
  rintro e w2 ⟨rfl, hb2⟩
  rw [hq.out.1, hq.out.2.1, hq.out.2.2]
  have q2 := q1.out.below hb2
  have hB2 := Lib.hid (hB1.out.trans (hb2.mono hB1.out.size))
  clear a1 a2 a3 a4 a5 a6 hb2 q1
  obtain ⟨a1, a2, a3, a4, a5, a6⟩ := q2.facts
  replace q2 := Lib.hid q2
  go_wp2_with fail
  refine (hA.out _ (hE.out.below hB2.out)).mono ?_
  rintro e w4 ⟨y, N, rfl, hb4⟩
  have hB4 := Lib.hid (hB2.out.trans (hb4.mono hB2.out.size))
  clear hb4
  go_wp2
  go_ret2
  exact ⟨rfl, hB4.out⟩
set_option maxRecDepth 100000 in
set_option maxHeartbeats 2000000 in
theorem Floor_neg0_ok (a b k r : Nat) (w : World) (hE : Env w) (ha : a < Lim) (hb : b < Lim) (hv : validB true (T (some a)) (T (some b)) = true) (hq : quoO (some a) (some b) = some k ∧ remO (some a) (some b) = some r ∧ quoX (some a) (some b) = 0) (hkl : k < Lim) (hr : r = 0) (z : Int) (hA : AtoiOk ((⟨#[45]⟩ : ByteArray) ++ T (some k)) z) :
    Calls Tryz.prog 45 #[.agg #[.bool true, .string (T (some a)), .string (T (some b))]] w fun e w' => e = .returned (.tuple #[.int .i64 z, .int .i64 0]) ∧ Below w.heap.size w w' := by
  have sa := size_T (ok_some ha)
  have sb := size_T (ok_some hb)
  have zr := T_is_zero r
  rw [decide_eq_true hr] at zr
  have szk := T_size k hkl
  clear hr
  replace hE := Lib.hid hE
  replace hv := Lib.hid hv
  replace hq := Lib.hid hq
  replace hA := Lib.hid hA
  go_enter Tryz.func45, Tryz.ntmps45
  go_wp2_with fail
  refine (Valid_any true (T (some a)) (T (some b)) _ (hE.out.below (one_below _ _)) sa sb).mono ?_
  rintro e w1 ⟨rfl, hb1⟩
  rw [hv.out]
  have q1 := (B3.new w true (T (some a)) (T (some b))).below hb1
  have hB1 := Lib.hid ((one_below w (.cells #[.bool true, .string (T (some a)), .string (T (some b))] 23)).trans (hb1.mono (by simp)))
  obtain ⟨a1, a2, a3, a4, a5, a6⟩ := q1.facts
  clear hb1
  replace q1 := Lib.hid q1
  go_wp2_with fail
  refine (divT (some a) (some b) _ (hE.out.below hB1.out) (ok_some ha) (ok_some hb)).mono ?_
  rintro e w2 ⟨rfl, hb2⟩
  rw [hq.out.1, hq.out.2.1, hq.out.2.2]
  have q2 := q1.out.below hb2
  have hB2 := Lib.hid (hB1.out.trans (hb2.mono hB1.out.size))
  clear a1 a2 a3 a4 a5 a6 hb2 q1
  obtain ⟨a1, a2, a3, a4, a5, a6⟩ := q2.facts
  replace q2 := Lib.hid q2
  go_wp2_with fail
  refine (hA.out _ (hE.out.below hB2.out)).mono ?_
  rintro e w4 ⟨rfl, hb4⟩
  have hB4 := Lib.hid (hB2.out.trans (hb4.mono hB2.out.size))
  clear hb4
  go_wp2
  go_ret2
  exact ⟨rfl, hB4.out⟩
set_option maxRecDepth 100000 in
set_option maxHeartbeats 2000000 in
theorem Floor_neg0_bad (a b k r : Nat) (w : World) (hE : Env w) (ha : a < Lim) (hb : b < Lim) (hv : validB true (T (some a)) (T (some b)) = true) (hq : quoO (some a) (some b) = some k ∧ remO (some a) (some b) = some r ∧ quoX (some a) (some b) = 0) (hkl : k < Lim) (hr : r = 0) (hA : AtoiBad ((⟨#[45]⟩ : ByteArray) ++ T (some k))) :
    Calls Tryz.prog 45 #[.agg #[.bool true, .string (T (some a)), .string (T (some b))]] w fun e w' => e = .returned (.tuple #[.int .i64 0, .int .i64 10]) ∧ Below w.heap.size w w' := by
  have sa := size_T (ok_some ha)
  have sb := size_T (ok_some hb)
  have zr := T_is_zero r
  rw [decide_eq_true hr] at zr
  have szk := T_size k hkl
  clear hr
  replace hE := Lib.hid hE
  replace hv := Lib.hid hv
  replace hq := Lib.hid hq
  replace hA := Lib.hid hA
  go_enter Tryz.func45, Tryz.ntmps45
  go_wp2_with fail
  refine (Valid_any true (T (some a)) (T (some b)) _ (hE.out.below (one_below _ _)) sa sb).mono ?_
  rintro e w1 ⟨rfl, hb1⟩
  rw [hv.out]
  have q1 := (B3.new w true (T (some a)) (T (some b))).below hb1
  have hB1 := Lib.hid ((one_below w (.cells #[.bool true, .string (T (some a)), .string (T (some b))] 23)).trans (hb1.mono (by simp)))
  obtain ⟨a1, a2, a3, a4, a5, a6⟩ := q1.facts
  clear hb1
  replace q1 := Lib.hid q1
  go_wp2_with fail
  refine (divT (some a) (some b) _ (hE.out.below hB1.out) (ok_some ha) (ok_some hb)).mono ?_
  rintro e w2 ⟨rfl, hb2⟩
  rw [hq.out.1, hq.out.2.1, hq.out.2.2]
  have q2 := q1.out.below hb2
  have hB2 := Lib.hid (hB1.out.trans (hb2.mono hB1.out.size))
  clear a1 a2 a3 a4 a5 a6 hb2 q1
  obtain ⟨a1, a2, a3, a4, a5, a6⟩ := q2.facts
  replace q2 := Lib.hid q2
  go_wp2_with fail
  refine (hA.out _ (hE.out.below hB2.out)).mono ?_
  rintro e w4 ⟨y, N, rfl, hb4⟩
  have hB4 := Lib.hid (hB2.out.trans (hb4.mono hB2.out.size))
  clear hb4
  go_wp2
  go_ret2
  exact ⟨rfl, hB4.out⟩
set_option maxRecDepth 100000 in
set_option maxHeartbeats 2000000 in
theorem Floor_neg1_ok (a b k r : Nat) (w : World) (hE : Env w) (ha : a < Lim) (hb : b < Lim) (hv : validB true (T (some a)) (T (some b)) = true) (hq : quoO (some a) (some b) = some k ∧ remO (some a) (some b) = some r ∧ quoX (some a) (some b) = 0) (_hkl : k < Lim) (hr : r ≠ 0) (hk1 : k + 1 < Lim) (z : Int) (hA : AtoiOk ((⟨#[45]⟩ : ByteArray) ++ T (some (k + 1))) z) :
    Calls Tryz.prog 45 #[.agg #[.bool true, .string (T (some a)), .string (T (some b))]] w fun e w' => e = .returned (.tuple #[.int .i64 z, .int .i64 0]) ∧ Below w.heap.size w w' := by
  have sa := size_T (ok_some ha)
  have sb := size_T (ok_some hb)
  have zr := T_is_zero r
  rw [decide_eq_false hr] at zr
  have szk := T_size (k + 1) hk1
  replace hr := Lib.hid hr
  replace hE := Lib.hid hE
  replace hv := Lib.hid hv
  replace hq := Lib.hid hq
  replace hA := Lib.hid hA
  go_enter Tryz.func45, Tryz.ntmps45
  go_wp2_with fail
  refine (Valid_any true (T (some a)) (T (some b)) _ (hE.out.below (one_below _ _)) sa sb).mono ?_
  rintro e w1 ⟨rfl, hb1⟩
  rw [hv.out]
  have q1 := (B3.new w true (T (some a)) (T (some b))).below hb1
  have hB1 := Lib.hid ((one_below w (.cells #[.bool true, .string (T (some a)), .string (T (some b))] 23)).trans (hb1.mono (by simp)))
  obtain ⟨a1, a2, a3, a4, a5, a6⟩ := q1.facts
  clear hb1
  replace q1 := Lib.hid q1
  go_wp2_with fail
  refine (divT (some a) (some b) _ (hE.out.below hB1.out) (ok_some ha) (ok_some hb)).mono ?_
  rintro e w2 ⟨rfl, hb2⟩
  rw [hq.out.1, hq.out.2.1, hq.out.2.2]
  have q2 := q1.out.below hb2
  have hB2 := Lib.hid (hB1.out.trans (hb2.mono hB1.out.size))
  clear a1 a2 a3 a4 a5 a6 hb2 q1
  obtain ⟨a1, a2, a3, a4, a5, a6⟩ := q2.facts
  replace q2 := Lib.hid q2
  go_wp2_with fail
  refine (addOneT k _ (hE.out.below hB2.out) hk1).mono ?_
  rintro e w3 ⟨rfl, hb3⟩
  have hB3 := Lib.hid (hB2.out.trans (hb3.mono hB2.out.size))
  clear a1 a2 a3 a4 a5 a6 hb3
  go_wp2_with fail
  refine (hA.out _ (hE.out.below hB3.out)).mono ?_
  rintro e w4 ⟨rfl, hb4⟩
  have hB4 := Lib.hid (hB3.out.trans (hb4.mono hB3.out.size))
  clear hb4
  go_wp2
  go_ret2
  exact ⟨rfl, hB4.out⟩
set_option maxRecDepth 100000 in
set_option maxHeartbeats 2000000 in
theorem Floor_neg1_bad (a b k r : Nat) (w : World) (hE : Env w) (ha : a < Lim) (hb : b < Lim) (hv : validB true (T (some a)) (T (some b)) = true) (hq : quoO (some a) (some b) = some k ∧ remO (some a) (some b) = some r ∧ quoX (some a) (some b) = 0) (_hkl : k < Lim) (hr : r ≠ 0) (hk1 : k + 1 < Lim) (hA : AtoiBad ((⟨#[45]⟩ : ByteArray) ++ T (some (k + 1)))) :
    Calls Tryz.prog 45 #[.agg #[.bool true, .string (T (some a)), .string (T (some b))]] w fun e w' => e = .returned (.tuple #[.int .i64 0, .int .i64 10]) ∧ Below w.heap.size w w' := by
  have sa := size_T (ok_some ha)
  have sb := size_T (ok_some hb)
  have zr := T_is_zero r
  rw [decide_eq_false hr] at zr
  have szk := T_size (k + 1) hk1
  replace hr := Lib.hid hr
  replace hE := Lib.hid hE
  replace hv := Lib.hid hv
  replace hq := Lib.hid hq
  replace hA := Lib.hid hA
  go_enter Tryz.func45, Tryz.ntmps45
  go_wp2_with fail
  refine (Valid_any true (T (some a)) (T (some b)) _ (hE.out.below (one_below _ _)) sa sb).mono ?_
  rintro e w1 ⟨rfl, hb1⟩
  rw [hv.out]
  have q1 := (B3.new w true (T (some a)) (T (some b))).below hb1
  have hB1 := Lib.hid ((one_below w (.cells #[.bool true, .string (T (some a)), .string (T (some b))] 23)).trans (hb1.mono (by simp)))
  obtain ⟨a1, a2, a3, a4, a5, a6⟩ := q1.facts
  clear hb1
  replace q1 := Lib.hid q1
  go_wp2_with fail
  refine (divT (some a) (some b) _ (hE.out.below hB1.out) (ok_some ha) (ok_some hb)).mono ?_
  rintro e w2 ⟨rfl, hb2⟩
  rw [hq.out.1, hq.out.2.1, hq.out.2.2]
  have q2 := q1.out.below hb2
  have hB2 := Lib.hid (hB1.out.trans (hb2.mono hB1.out.size))
  clear a1 a2 a3 a4 a5 a6 hb2 q1
  obtain ⟨a1, a2, a3, a4, a5, a6⟩ := q2.facts
  replace q2 := Lib.hid q2
  go_wp2_with fail
  refine (addOneT k _ (hE.out.below hB2.out) hk1).mono ?_
  rintro e w3 ⟨rfl, hb3⟩
  have hB3 := Lib.hid (hB2.out.trans (hb3.mono hB2.out.size))
  clear a1 a2 a3 a4 a5 a6 hb3
  go_wp2_with fail
  refine (hA.out _ (hE.out.below hB3.out)).mono ?_
  rintro e w4 ⟨y, N, rfl, hb4⟩
  have hB4 := Lib.hid (hB3.out.trans (hb4.mono hB3.out.size))
  clear hb4
  go_wp2
  go_ret2
  exact ⟨rfl, hB4.out⟩
theorem neg_ediv_up (a d : Nat) (hd : 0 < d) (hr : a % d ≠ 0) : (-(a : Int)) / (d : Int) = -((a / d + 1 : Nat) : Int) := by
  have h1 := Nat.div_add_mod a d
  have h2 := Nat.mod_lt a hd
  have key : (-(a : Int)) / (d : Int) = -((a / d + 1 : Nat) : Int) ∧ (-(a : Int)) % (d : Int) = ((d - a % d : Nat) : Int) := by
    refine (Int.ediv_emod_unique (by omega)).2 ⟨?_, by omega, by omega⟩
    generalize a / d = k at *
    generalize a % d = r at *
    have h3 : ((d * k : Nat) : Int) = (d : Int) * (k : Int) := Int.natCast_mul _ _
    have h4 : (d : Int) * (-((k + 1 : Nat) : Int)) = -((d : Int) * (k : Int)) - d := by
      rw [Int.mul_neg, Int.natCast_add, Int.mul_add]
      omega
    rw [h4, ← h3]
    omega
  exact key.1
/-- The floor of a number, where an int holds it. -/
def floorV (q : Rat) : Int := if InInt q.floor then q.floor else 0
def floorE (q : Rat) : Int := if InInt q.floor then 0 else 10
theorem Floor_any (q : Rat) (hq : OkQ q) (w : World) (hE : Env w) :
    Calls Tryz.prog 45 #[qv q] w fun e w' => e = .returned (.tuple #[.int .i64 (floorV q), .int .i64 (floorE q)]) ∧ Below w.heap.size w w' := by
  have hv := valid_qv hq
  have hd := q.den_nz
  have hqq : quoO (some q.num.natAbs) (some q.den) = some (q.num.natAbs / q.den) ∧ remO (some q.num.natAbs) (some q.den) = some (q.num.natAbs % q.den) ∧ quoX (some q.num.natAbs) (some q.den) = 0 := ⟨if_neg hd, if_neg hd, if_neg hd⟩
  have hkl : q.num.natAbs / q.den < Lim := Nat.lt_of_le_of_lt (Nat.div_le_self _ _) hq.1
  have hfl : q.floor = q.num / q.den := Rat.floor_def q
  unfold floorV floorE
  rw [hfl]
  unfold qv
  have ht := T_size _ hkl
  by_cases hn : q.num < 0
  · rw [decide_eq_true hn] at hv ⊢
    by_cases hr : q.num.natAbs % q.den = 0
    · have hz : q.num / (q.den : Int) = -((q.num.natAbs / q.den : Nat) : Int) := by
        have e : q.num = -((q.num.natAbs : Nat) : Int) := by omega
        conv => lhs; rw [e]
        rw [Int.neg_ediv_of_dvd (Int.ofNat_dvd.2 (Nat.dvd_of_mod_eq_zero hr)), Int.natCast_ediv]
      have hk0 : 0 < q.num.natAbs / q.den := Nat.div_pos (Nat.le_of_dvd (by omega) (Nat.dvd_of_mod_eq_zero hr)) (by omega)
      have ha := atoi_neg _ hk0
      rw [← minus_list] at ha
      have hms := minus_size _ hkl
      rw [hz]
      clear hz hfl
      generalize q.num.natAbs / q.den = k at *
      by_cases hi : k ≤ 9223372036854775808
      · rw [if_pos hi] at ha
        have hin : InInt (-((k : Nat) : Int)) := ⟨by omega, by omega⟩
        rw [if_pos hin, if_pos hin]
        exact Floor_neg0_ok _ _ _ _ w hE hq.1 hq.2 hv hqq hkl hr _ (atoi_ok _ _ (by omega) ha)
      · rw [if_neg hi] at ha
        have hin : ¬ InInt (-((k : Nat) : Int)) := fun h => hi (by have := h.1; omega)
        rw [if_neg hin, if_neg hin]
        exact Floor_neg0_bad _ _ _ _ w hE hq.1 hq.2 hv hqq hkl hr (atoi_bad _ (by omega) ha)
    · have hz : q.num / (q.den : Int) = -((q.num.natAbs / q.den + 1 : Nat) : Int) := by
        have e : q.num = -((q.num.natAbs : Nat) : Int) := by omega
        conv => lhs; rw [e]
        exact neg_ediv_up _ _ (by omega) hr
      have hk1 : q.num.natAbs / q.den + 1 < Lim := by
        have h2 : 2 ≤ q.den := by
          rcases Nat.lt_or_ge q.den 2 with h | h
          · have : q.den = 1 := by omega
            rw [this, Nat.mod_one] at hr
            exact absurd rfl hr
          · exact h
        have h3 : q.num.natAbs / q.den ≤ q.num.natAbs / 2 := Nat.div_le_div_left h2 (by omega)
        generalize q.num.natAbs / q.den = k at *
        have := hq.1
        have := one_lt_Lim
        omega
      have ha := atoi_neg (q.num.natAbs / q.den + 1) (Nat.succ_pos _)
      rw [← minus_list] at ha
      have hms := minus_size _ hk1
      rw [hz]
      clear hz hfl
      generalize q.num.natAbs / q.den = k at *
      by_cases hi : k + 1 ≤ 9223372036854775808
      · rw [if_pos hi] at ha
        have hin : InInt (-((k + 1 : Nat) : Int)) := ⟨by omega, by omega⟩
        rw [if_pos hin, if_pos hin]
        exact Floor_neg1_ok _ _ _ _ w hE hq.1 hq.2 hv hqq hkl hr hk1 _ (atoi_ok _ _ (by omega) ha)
      · rw [if_neg hi] at ha
        have hin : ¬ InInt (-((k + 1 : Nat) : Int)) := fun h => hi (by have := h.1; omega)
        rw [if_neg hin, if_neg hin]
        exact Floor_neg1_bad _ _ _ _ w hE hq.1 hq.2 hv hqq hkl hr hk1 (atoi_bad _ (by omega) ha)
  · rw [decide_eq_false hn] at hv ⊢
    have hz : q.num / (q.den : Int) = ((q.num.natAbs / q.den : Nat) : Int) := by
      have e : q.num = ((q.num.natAbs : Nat) : Int) := by omega
      conv => lhs; rw [e]
      rw [Int.natCast_ediv]
    have ha := atoi_num (q.num.natAbs / q.den)
    rw [hz]
    clear hz hfl
    generalize q.num.natAbs / q.den = k at *
    by_cases hi : k ≤ 9223372036854775807
    · rw [if_pos hi] at ha
      have hin : InInt ((k : Nat) : Int) := ⟨by omega, by omega⟩
      rw [if_pos hin, if_pos hin]
      exact Floor_pos_ok _ _ _ _ w hE hq.1 hq.2 hv hqq hkl _ (atoi_ok _ _ (by omega) ha)
    · rw [if_neg hi] at ha
      have hin : ¬ InInt ((k : Nat) : Int) := fun h => hi (by have := h.2; omega)
      rw [if_neg hin, if_neg hin]
      exact Floor_pos_bad _ _ _ _ w hE hq.1 hq.2 hv hqq hkl (atoi_bad _ (by omega) ha)
end Nt
end Go.Proofs.YtpmlhgmmobpilaaGreatDoor

namespace Go.Proofs.YtpmlhgmmobpilaaGreatDoor
open Go.RowKit
namespace Nt
/-- A number of at most k digits above and below. -/
def Dg (k : Nat) (q : Rat) : Prop := q.num.natAbs < 10 ^ k ∧ q.den < 10 ^ k
theorem Dg.mono {k m : Nat} {q : Rat} (h : Dg k q) (hk : k ≤ m) : Dg m q := by
  have : 10 ^ k ≤ 10 ^ m := Nat.pow_le_pow_right (by omega) hk
  exact ⟨Nat.lt_of_lt_of_le h.1 this, Nat.lt_of_lt_of_le h.2 this⟩
theorem Dg.short {k : Nat} {q : Rat} (h : Dg k q) (hk : k ≤ 140) : ShortQ q := by
  have := h.mono (m := mx1) (by rw [mx1_eq]; exact hk)
  exact this
theorem mkRat_le (n : Int) (d : Nat) (hd : d ≠ 0) : (mkRat n d).num.natAbs ≤ n.natAbs ∧ (mkRat n d).den ≤ d := by
  have e : n = sg (decide (n < 0)) n.natAbs := (sg_self n).symm
  rw [e, mk_num _ _ _ hd, mk_den _ _ _ hd, sg_natAbs, sg_natAbs]
  exact ⟨Nat.div_le_self _ _, Nat.div_le_self _ _⟩
theorem Dg.add {k m : Nat} {p q : Rat} (hp : Dg k p) (hq : Dg m q) : Dg (k + m + 1) (p + q) := by
  have hd : p.den * q.den ≠ 0 := Nat.mul_ne_zero p.den_nz q.den_nz
  have h := mkRat_le (p.num * q.den + q.num * p.den) (p.den * q.den) hd
  rw [add_mk] at h
  have e : 10 ^ (k + m + 1) = 10 ^ k * 10 ^ m * 10 := by rw [Nat.pow_succ, Nat.pow_add]
  have h1 : p.num.natAbs * q.den < 10 ^ k * 10 ^ m := Nat.mul_lt_mul'' hp.1 hq.2
  have h2 : q.num.natAbs * p.den < 10 ^ m * 10 ^ k := Nat.mul_lt_mul'' hq.1 hp.2
  have h3 : p.den * q.den < 10 ^ k * 10 ^ m := Nat.mul_lt_mul'' hp.2 hq.2
  rw [Nat.mul_comm (10 ^ m)] at h2
  have h4 := Int.natAbs_add_le (p.num * q.den) (q.num * p.den)
  rw [Int.natAbs_mul, Int.natAbs_mul, Int.natAbs_natCast, Int.natAbs_natCast] at h4
  unfold Dg
  rw [e]
  generalize 10 ^ k * 10 ^ m = X at *
  exact ⟨by omega, by omega⟩
theorem Dg.neg {k : Nat} {q : Rat} (h : Dg k q) : Dg k (-q) := ⟨by show (-q.num).natAbs < 10 ^ k; rw [Int.natAbs_neg]; exact h.1, h.2⟩
theorem Dg.mul {k m : Nat} {p q : Rat} (hp : Dg k p) (hq : Dg m q) : Dg (k + m) (p * q) := by
  have hd : p.den * q.den ≠ 0 := Nat.mul_ne_zero p.den_nz q.den_nz
  have h := mkRat_le (p.num * q.num) (p.den * q.den) hd
  rw [← Rat.mul_def'] at h
  have h1 : p.num.natAbs * q.num.natAbs < 10 ^ k * 10 ^ m := Nat.mul_lt_mul'' hp.1 hq.1
  have h3 : p.den * q.den < 10 ^ k * 10 ^ m := Nat.mul_lt_mul'' hp.2 hq.2
  rw [Int.natAbs_mul] at h
  unfold Dg
  rw [Nat.pow_add]
  exact ⟨by omega, by omega⟩
end Nt
end Go.Proofs.YtpmlhgmmobpilaaGreatDoor

namespace Go.Proofs.YtpmlhgmmobpilaaGreatDoor
namespace Mo
open Nt
def halfQ : Rat := mkRat 1 2
theorem ofQ_one (k : Int) : ofQ k 1 = (k : Rat) := by
  unfold ofQ
  have e : (!(decide (k < 0) == decide ((1 : Int) < 0))) = decide (k < 0) := by cases decide (k < 0) <;> rfl
  rw [e, sg_self]
  exact Rat.mkRat_self (k : Rat)
theorem ofQ_half : ofQ 1 2 = halfQ := rfl
theorem short_int {k : Int} (h0 : -9223372036854775808 ≤ k) (h1 : k ≤ 9223372036854775807) : ShortQ (k : Rat) := by
  refine ⟨int_abs_lim h0 h1, ?_⟩
  have := int_abs_lim (n := 1) (by omega) (by omega)
  exact this
theorem short_half : ShortQ halfQ := by
  have h1 := int_abs_lim (n := 1) (by omega) (by omega)
  have h2 := int_abs_lim (n := 2) (by omega) (by omega)
  exact ⟨h1, h2⟩
/-- n and one half. -/
theorem mid_short {n : Int} (h0 : -9223372036854775808 ≤ n) (h1 : n ≤ 9223372036854775807) : ShortQ ((n : Rat) + halfQ) := by
  have hn : Dg 19 (n : Rat) := ⟨by show n.natAbs < _; omega, by show 1 < _; omega⟩
  have hh : Dg 1 halfQ := ⟨by decide, by decide⟩
  exact (hn.add hh).short (by omega)
/-- The nearest integer, and the even one of two. -/
def roundQ (q : Rat) : Int := if 0 < cmpQ q ((q.floor : Rat) + halfQ) ∨ (cmpQ q ((q.floor : Rat) + halfQ) = 0 ∧ q.floor.tmod 2 ≠ 0) then q.floor + 1 else q.floor
/-- What Round returns for a number of moderate size. -/
def roundV (q : Rat) : Int × Int := if InInt q.floor ∧ q.floor ≠ 9223372036854775807 then (roundQ q, 0) else (0, 10)
/-- The reference compares what is left with one half. -/
theorem cmp_mid (q : Rat) (n : Int) : cmpQ (q - (n : Rat)) halfQ = cmpQ q ((n : Rat) + halfQ) := by
  unfold cmpQ
  have e1 : (q - (n : Rat) < halfQ) = (q < (n : Rat) + halfQ) := propext ⟨fun h => by grind, fun h => by grind⟩
  have e2 : (q - (n : Rat) = halfQ) = (q = (n : Rat) + halfQ) := propext ⟨fun h => by grind, fun h => by grind⟩
  simp only [e1, e2]
theorem floor_bounds (q : Rat) : (q.floor : Rat) ≤ q ∧ q < (q.floor : Rat) + 1 := by
  have h := Rat.lt_floor_add_one q
  refine ⟨Rat.floor_le q, ?_⟩
  simpa using h
section
variable {f q h : Rat}
end
end Mo
end Go.Proofs.YtpmlhgmmobpilaaGreatDoor

namespace Go.Proofs.YtpmlhgmmobpilaaGreatDoor
open Go.RowKit Go.Shelf
namespace Mo
open Nt
theorem agg_qv (q : Rat) : ∃ g n d, qv q = .agg #[.bool g, .string n, .string d] := ⟨_, _, _, rfl⟩
set_option maxRecDepth 100000 in
set_option maxHeartbeats 4000000 in
theorem Round_bad (g : Bool) (n d : ByteArray) (w : World) (hE : Env w) (s1 : n.size ≤ 140737488355328) (s2 : d.size ≤ 140737488355328) (hv : validB g n d = false) :
    Calls Tryz.prog 12 #[.agg #[.bool g, .string n, .string d]] w fun e w' => e = .returned (.tuple #[.int .i64 0, .int .i64 1]) ∧ Below w.heap.size w w' := by
  have hB1 : Hid (Below w.heap.size w (w.alloc (.cells #[.bool g, .string n, .string d] 23))) := (Below.refl _ w).alloc (Nat.le_refl _) _
  have hb1 : Hid (B3 (w.alloc (.cells #[.bool g, .string n, .string d] 23)) w.heap.size g n d) := B3.new w g n d
  have kv := Lib.hid (Nt.Valid_any g n d (w.alloc (.cells #[.bool g, .string n, .string d] 23)) (hE.below hB1.out) s1 s2)
  rw [hv] at kv
  go_enter Tryz.func12, Tryz.ntmps12
  obtain ⟨x0, x1, x2, x3, x4, x5⟩ := hb1.out.facts
  have x9 := hb1.out.lt
  go_wp2_with fail
  refine kv.out.mono ?_
  rintro e w2 ⟨rfl, hb⟩
  have hB2 := Lib.hid (hB1.out.trans (hb.mono hB1.out.size))
  clear hb
  go_wp2
  go_ret2
  exact ⟨rfl, hB2.out⟩
set_option maxRecDepth 100000 in
set_option maxHeartbeats 8000000 in
theorem Round_short (q : Rat) (hs : ShortQ q) (w : World) (hE : Env w) :
    Calls Tryz.prog 12 #[qv q] w fun e w' => e = .returned (.tuple #[.int .i64 (roundV q).1, .int .i64 (roundV q).2]) ∧ Below w.heap.size w w' := by
  have hq := hs.ok
  have hsz := short_sizes hs
  have hv := valid_qv hq
  have s1 := T_size _ hq.1; have s2 := T_size _ hq.2
  obtain ⟨g, hg⟩ : ∃ g, g = decide (q.num < 0) := ⟨_, rfl⟩
  obtain ⟨n, hn⟩ : ∃ n, n = T (some q.num.natAbs) := ⟨_, rfl⟩
  obtain ⟨d, hd⟩ : ∃ d, d = T (some q.den) := ⟨_, rfl⟩
  have hqv : qv q = .agg #[.bool g, .string n, .string d] := by rw [hg, hn, hd]; rfl
  have kf : Hid (∀ W, Env W → Calls Tryz.prog 45 #[.agg #[.bool g, .string n, .string d]] W fun e w' => e = .returned (.tuple #[.int .i64 (floorV q), .int .i64 (floorE q)]) ∧ Below W.heap.size W w') := fun W hW => by rw [← hqv]; exact Floor_any q hq W hW
  rw [← hg, ← hn, ← hd] at hv
  rw [← hn, ← hd] at hsz
  rw [← hn] at s1; rw [← hd] at s2
  rw [hqv]
  clear hg hn hd
  have hB1 : Hid (Below w.heap.size w (w.alloc (.cells #[.bool g, .string n, .string d] 23))) := (Below.refl _ w).alloc (Nat.le_refl _) _
  have hb1 : Hid (B3 (w.alloc (.cells #[.bool g, .string n, .string d] 23)) w.heap.size g n d) := B3.new w g n d
  have kv := Lib.hid (Nt.Valid_any g n d (w.alloc (.cells #[.bool g, .string n, .string d] 23)) (hE.below hB1.out) (by omega) (by omega))
  rw [hv] at kv
  have m1 : decide (140 < (n.size : Int)) = false := decide_eq_false (by omega); have m2 : decide (140 < (d.size : Int)) = false := decide_eq_false (by omega)
  replace hE := Lib.hid hE
  by_cases hfl : InInt q.floor ∧ q.floor ≠ 9223372036854775807
  rotate_left
  · have hr : roundV q = (0, 10) := by unfold roundV; rw [if_neg hfl]
    rw [hr]
    by_cases hin : InInt q.floor
    · have hmx : q.floor = 9223372036854775807 := Decidable.byContradiction fun c => hfl ⟨hin, c⟩
      have e1 : floorV q = 9223372036854775807 := by unfold floorV; rw [if_pos hin, hmx]
      have e2 : floorE q = 0 := by unfold floorE; rw [if_pos hin]
      rw [e1, e2] at kf
      clear hr e1 e2 hin hmx hfl
      go_enter Tryz.func12, Tryz.ntmps12
      obtain ⟨x0, x1, x2, x3, x4, x5⟩ := hb1.out.facts
      have x9 := hb1.out.lt
      go_wp2_with fail
      refine kv.out.mono ?_
      rintro e w2 ⟨rfl, hb⟩
      have hB2 := Lib.hid (hB1.out.trans (hb.mono hB1.out.size)); have hb2 := Lib.hid (hb1.out.below hb)
      clear hb x0 x1 x2 x3 x4 x5 x9 kv
      obtain ⟨x0, x1, x2, x3, x4, x5⟩ := hb2.out.facts
      have x9 := hb2.out.lt
      have kF := Lib.hid (kf.out w2 (hE.out.below hB2.out))
      go_wp2_with fail
      refine kF.out.mono ?_
      rintro e w3 ⟨rfl, hb⟩
      have hB3 := Lib.hid (hB2.out.trans (hb.mono hB2.out.size)); have hb3 := Lib.hid (hb2.out.below hb)
      clear hb hb2 x0 x1 x2 x3 x4 x5 x9 kF kf
      go_wp2
      go_ret2
      exact ⟨rfl, hB3.out⟩
    · have e1 : floorV q = 0 := by unfold floorV; rw [if_neg hin]
      have e2 : floorE q = 10 := by unfold floorE; rw [if_neg hin]
      rw [e1, e2] at kf
      clear hr e1 e2 hin hfl
      go_enter Tryz.func12, Tryz.ntmps12
      obtain ⟨x0, x1, x2, x3, x4, x5⟩ := hb1.out.facts
      have x9 := hb1.out.lt
      go_wp2_with fail
      refine kv.out.mono ?_
      rintro e w2 ⟨rfl, hb⟩
      have hB2 := Lib.hid (hB1.out.trans (hb.mono hB1.out.size)); have hb2 := Lib.hid (hb1.out.below hb)
      clear hb x0 x1 x2 x3 x4 x5 x9 kv
      obtain ⟨x0, x1, x2, x3, x4, x5⟩ := hb2.out.facts
      have x9 := hb2.out.lt
      have kF := Lib.hid (kf.out w2 (hE.out.below hB2.out))
      go_wp2_with fail
      refine kF.out.mono ?_
      rintro e w3 ⟨rfl, hb⟩
      have hB3 := Lib.hid (hB2.out.trans (hb.mono hB2.out.size)); have hb3 := Lib.hid (hb2.out.below hb)
      clear hb hb2 x0 x1 x2 x3 x4 x5 x9 kF kf
      go_wp2
      go_ret2
      exact ⟨rfl, hB3.out⟩
  · have hr : roundV q = (roundQ q, 0) := by unfold roundV; rw [if_pos hfl]
    rw [hr]
    obtain ⟨⟨hi0, hi1⟩, hmx⟩ := hfl
    have e1 : floorV q = q.floor := by unfold floorV; rw [if_pos ⟨hi0, hi1⟩]
    have e2 : floorE q = 0 := by unfold floorE; rw [if_pos ⟨hi0, hi1⟩]
    rw [e1, e2] at kf
    have hrq : roundQ q = if 0 < cmpQ q ((q.floor : Rat) + halfQ) ∨ (cmpQ q ((q.floor : Rat) + halfQ) = 0 ∧ q.floor.tmod 2 ≠ 0) then q.floor + 1 else q.floor := rfl
    rw [hrq]
    generalize q.floor = N at hi0 hi1 hmx kf ⊢
    clear hr e1 e2 hrq
    have hN1 : N + 1 ≤ 9223372036854775807 := by omega
    obtain ⟨g1, n1, d1, q1⟩ := agg_qv (N : Rat)
    obtain ⟨g2, n2, d2, q2⟩ := agg_qv halfQ
    obtain ⟨g3, n3, d3, q3⟩ := agg_qv ((N : Rat) + halfQ)
    have ko1 : Hid (∀ W, Env W → Calls Tryz.prog 46 #[.int .i64 N, .int .i64 1] W fun e w' => e = .returned (.tuple #[.agg #[.bool g1, .string n1, .string d1], .int .i64 0]) ∧ Below W.heap.size W w') := fun W hW => by have h := RatOf_any N 1 hi0 hi1 (by omega) (by omega) (by omega) W hW; rw [ofQ_one, q1] at h; exact h
    have ko2 : Hid (∀ W, Env W → Calls Tryz.prog 46 #[.int .i64 1, .int .i64 2] W fun e w' => e = .returned (.tuple #[.agg #[.bool g2, .string n2, .string d2], .int .i64 0]) ∧ Below W.heap.size W w') := fun W hW => by have h := RatOf_any 1 2 (by omega) (by omega) (by omega) (by omega) (by omega) W hW; rw [ofQ_half, q2] at h; exact h
    have ka : Hid (∀ W, Env W → Calls Tryz.prog 20 #[.agg #[.bool g1, .string n1, .string d1], .agg #[.bool g2, .string n2, .string d2]] W fun e w' => e = .returned (.tuple #[.agg #[.bool g3, .string n3, .string d3], .int .i64 0]) ∧ Below W.heap.size W w') := fun W hW => by have h := Add_short (N : Rat) halfQ (short_int hi0 hi1) short_half W hW; rw [q1, q2, q3] at h; exact h
    have kc : Hid (∀ W, Env W → Calls Tryz.prog 25 #[.agg #[.bool g, .string n, .string d], .agg #[.bool g3, .string n3, .string d3]] W fun e w' => e = .returned (.tuple #[.int .i64 (cmpQ q ((N : Rat) + halfQ)), .int .i64 0]) ∧ Below W.heap.size W w') := fun W hW => by have h := Compare_short q ((N : Rat) + halfQ) hs (mid_short hi0 hi1) W hW; rw [hqv, q3] at h; exact h
    generalize cmpQ q ((N : Rat) + halfQ) = c at kc ⊢
    obtain ⟨res, hres⟩ : ∃ r, r = if 0 < c ∨ (c = 0 ∧ N.tmod 2 ≠ 0) then N + 1 else N := ⟨_, rfl⟩
    rw [← hres]
    replace hres := Lib.hid hres
    clear hs hsz hqv hq q1 q2 q3 hv
    have t1 : (N == 9223372036854775807) = false := by rw [beq_eq_false_iff_ne]; exact hmx
    go_enter Tryz.func12, Tryz.ntmps12
    obtain ⟨x0, x1, x2, x3, x4, x5⟩ := hb1.out.facts
    have x9 := hb1.out.lt
    go_wp2_with fail
    refine kv.out.mono ?_
    rintro e w2 ⟨rfl, hb⟩
    have hB2 := Lib.hid (hB1.out.trans (hb.mono hB1.out.size)); have hb2 := Lib.hid (hb1.out.below hb)
    clear hb x0 x1 x2 x3 x4 x5 x9 kv
    obtain ⟨x0, x1, x2, x3, x4, x5⟩ := hb2.out.facts
    have x9 := hb2.out.lt
    have kF := Lib.hid (kf.out w2 (hE.out.below hB2.out))
    go_wp2_with fail
    refine kF.out.mono ?_
    rintro e w3 ⟨rfl, hb⟩
    have hB3 := Lib.hid (hB2.out.trans (hb.mono hB2.out.size)); have hb3 := Lib.hid (hb2.out.below hb)
    clear hb hb2 x0 x1 x2 x3 x4 x5 x9 kF kf
    have k1 := Lib.hid (ko1.out w3 (hE.out.below hB3.out))
    go_wp2_with fail
    refine k1.out.mono ?_
    rintro e w4 ⟨rfl, hb⟩
    have hB4 := Lib.hid (hB3.out.trans (hb.mono hB3.out.size)); have hb4 := Lib.hid (hb3.out.below hb)
    clear hb hb3 k1 ko1
    have hB5 : Hid (Below w.heap.size w (w4.alloc (.cells #[.bool g1, .string n1, .string d1] 23))) := hB4.out.alloc hB4.out.size _
    have hb5 := Lib.hid (hb4.out.alloc (.cells #[.bool g1, .string n1, .string d1] 23))
    have hp5 : Hid (B3 (w4.alloc (.cells #[.bool g1, .string n1, .string d1] 23)) w4.heap.size g1 n1 d1) := B3.new w4 g1 n1 d1
    clear hB4 hb4
    have k2 := Lib.hid (ko2.out (w4.alloc (.cells #[.bool g1, .string n1, .string d1] 23)) (hE.out.below hB5.out))
    go_wp2_with fail
    refine k2.out.mono ?_
    rintro e w6 ⟨rfl, hb⟩
    have hB6 := Lib.hid (hB5.out.trans (hb.mono hB5.out.size)); have hb6 := Lib.hid (hb5.out.below hb); have hp6 := Lib.hid (hp5.out.below hb)
    clear hb hB5 hb5 hp5 k2 ko2
    have hB7 : Hid (Below w.heap.size w (w6.alloc (.cells #[.bool g2, .string n2, .string d2] 23))) := hB6.out.alloc hB6.out.size _
    have hb7 := Lib.hid (hb6.out.alloc (.cells #[.bool g2, .string n2, .string d2] 23))
    have hp7 := Lib.hid (hp6.out.alloc (.cells #[.bool g2, .string n2, .string d2] 23))
    have hr7 : Hid (B3 (w6.alloc (.cells #[.bool g2, .string n2, .string d2] 23)) w6.heap.size g2 n2 d2) := B3.new w6 g2 n2 d2
    have k3 := Lib.hid (ka.out (w6.alloc (.cells #[.bool g2, .string n2, .string d2] 23)) (hE.out.below hB7.out))
    obtain ⟨y0, y1, y2, y3, y4, y5⟩ := hp6.out.facts
    have y9 := hp6.out.lt
    clear hB6 hb6 hp6
    go_wp2_with fail
    refine k3.out.mono ?_
    rintro e w8 ⟨rfl, hb⟩
    have hB8 := Lib.hid (hB7.out.trans (hb.mono hB7.out.size)); have hb8 := Lib.hid (hb7.out.below hb)
    clear hb hB7 hb7 hp7 hr7 k3 ka y0 y1 y2 y3 y4 y5 y9
    have hB9 : Hid (Below w.heap.size w (w8.alloc (.cells #[.bool g3, .string n3, .string d3] 23))) := hB8.out.alloc hB8.out.size _
    have k4 := Lib.hid (kc.out (w8.alloc (.cells #[.bool g3, .string n3, .string d3] 23)) (hE.out.below hB9.out))
    obtain ⟨x0, x1, x2, x3, x4, x5⟩ := hb8.out.facts
    have x9 := hb8.out.lt
    clear hB8 hb8
    go_wp2_with fail
    refine k4.out.mono ?_
    rintro e w10 ⟨rfl, hb⟩
    have hB10 := Lib.hid (hB9.out.trans (hb.mono hB9.out.size))
    clear hb hB9 k4 kc x0 x1 x2 x3 x4 x5 x9
    by_cases c1 : 0 < c
    · obtain rfl : res = N + 1 := by rw [hres.out, if_pos (.inl c1)]
      have v1 : decide (0 < c) = true := decide_eq_true c1
      replace c1 := Lib.hid c1
      clear hres
      go_wp2
      go_ret2
      exact ⟨rfl, hB10.out⟩
    · have v1 : decide (0 < c) = false := decide_eq_false c1
      by_cases c2 : c = 0 ∧ N.tmod 2 ≠ 0
      · obtain rfl : res = N + 1 := by rw [hres.out, if_pos (.inr c2)]
        have v2 : (c == 0) = true := by rw [beq_iff_eq]; exact c2.1
        have v3 : (N.tmod 2 != 0) = true := by rw [bne_iff_ne]; exact c2.2
        replace c1 := Lib.hid c1; replace c2 := Lib.hid c2
        clear hres
        go_wp2
        go_ret2
        exact ⟨rfl, hB10.out⟩
      · obtain rfl : N = res := by rw [hres.out, if_neg fun h => h.elim c1 c2]
        by_cases c3 : c = 0
        · have v2 : (c == 0) = true := by rw [beq_iff_eq]; exact c3
          have v3 : (N.tmod 2 != 0) = false := by rw [bne_eq_false_iff_eq]; exact Decidable.byContradiction fun h => c2 ⟨c3, h⟩
          replace c1 := Lib.hid c1; replace c2 := Lib.hid c2; replace c3 := Lib.hid c3
          clear hres
          go_wp2
          go_ret2
          exact ⟨rfl, hB10.out⟩
        · have v2 : (c == 0) = false := by rw [beq_eq_false_iff_ne]; exact c3
          replace c1 := Lib.hid c1; replace c2 := Lib.hid c2; replace c3 := Lib.hid c3
          clear hres
          go_wp2
          go_ret2
          exact ⟨rfl, hB10.out⟩
end Mo
end Go.Proofs.YtpmlhgmmobpilaaGreatDoor

namespace Go.Proofs.YtpmlhgmmobpilaaGreatDoor
open Go.RowKit Go.Shelf
namespace Mo
open Nt Ci
def unitB (u : Int) : Bool := decide (-1000000000000 ≤ u) && decide (u ≤ 1000000000000)
def properB (c : ByteArray) (u : Int) : Bool := identB c && unitB u
set_option maxRecDepth 100000 in
theorem proper_any (c : ByteArray) (u : Int) (w : World) (hc : c.size ≤ 140737488355328) : Calls Tryz.prog 55 #[.agg #[.string c, .int .i64 u]] w fun e w' => e = .returned (.bool (properB c u)) ∧ Below w.heap.size w w' := by
  have hB1 : Hid (Below w.heap.size w (w.alloc (.cells #[.string c, .int .i64 u] 35))) := (Below.refl _ w).alloc (Nat.le_refl _) _
  have kc := Lib.hid (isCurrency_w c (w.alloc (.cells #[.string c, .int .i64 u] 35)) (by omega))
  unfold properB unitB
  generalize identB c = b at kc ⊢
  cases b with
  | false =>
    rw [Bool.false_and]
    go_enter Tryz.func55, Tryz.ntmps55
    go_wp2_with fail
    refine kc.out.mono ?_
    rintro e wq ⟨rfl, hq⟩
    obtain rfl := hq.symm
    go_wp2
    go_ret
    exact ⟨rfl, hB1.out⟩
  | true =>
    rw [Bool.true_and]
    cases h1 : decide (-1000000000000 ≤ u) with
    | false =>
      rw [Bool.false_and]
      go_enter Tryz.func55, Tryz.ntmps55
      go_wp2_with fail
      refine kc.out.mono ?_
      rintro e wq ⟨rfl, hq⟩
      obtain rfl := hq.symm
      go_wp2
      go_ret
      exact ⟨rfl, hB1.out⟩
    | true =>
      rw [Bool.true_and]
      cases h2 : decide (u ≤ 1000000000000) with
      | false =>
        go_enter Tryz.func55, Tryz.ntmps55
        go_wp2_with fail
        refine kc.out.mono ?_
        rintro e wq ⟨rfl, hq⟩
        obtain rfl := hq.symm
        go_wp2
        go_ret
        exact ⟨rfl, hB1.out⟩
      | true =>
        go_enter Tryz.func55, Tryz.ntmps55
        go_wp2_with fail
        refine kc.out.mono ?_
        rintro e wq ⟨rfl, hq⟩
        obtain rfl := hq.symm
        go_wp2
        go_ret
        exact ⟨rfl, hB1.out⟩
/-- Block sb holds a rational number. -/
def QB (W : World) (sb : Nat) (q : Rat) : Prop := ∃ g n d, (.agg #[.bool g, .string n, .string d] : Value) = qv q ∧ Bk W sb 23 [.bool g, .string n, .string d]
/-- Conversions, step by step. -/
def cvK (u xn xm ym yn : Int) : Nat → Rat
  | 0 => (u : Rat)
  | 1 => (u : Rat) * ofQ xn xm
  | _ => (u : Rat) * ofQ xn xm * ofQ ym yn
def cvQ (u : Int) (x y : Rt) : Rat := cvK u x.2.2.1 x.2.2.2 y.2.2.2 y.2.2.1 2
def cvV : Option Rat → Value
  | none => zv
  | some q => qv q
/-- What Convert returns. -/
def convR (l : List Rt) (base c : ByteArray) (u : Int) (tc : ByteArray) (day : Int) : Option Rat × Int :=
  if properB c u = true then
    (if (findR l base c day).2 = 0 then (if (findR l base tc day).2 = 0 then (some (cvQ u (findR l base c day).1 (findR l base tc day).1), 0) else (none, (findR l base tc day).2)) else (none, (findR l base c day).2))
  else (none, 1)
theorem ofQ_dg {m n : Int} (hm : 1 ≤ m ∧ m ≤ 1000000) (hn : 1 ≤ n ∧ n ≤ 1000000) : Dg 7 (ofQ m n) := by
  have h := mkRat_le (sg (!(decide (m < 0) == decide (n < 0))) m.natAbs) n.natAbs (by omega)
  rw [sg_natAbs] at h
  refine ⟨Nat.lt_of_le_of_lt h.1 ?_, Nat.lt_of_le_of_lt h.2 ?_⟩ <;> omega
theorem units_dg {u : Int} (h : unitB u = true) : Dg 13 (u : Rat) := by
  unfold unitB at h
  simp only [Bool.and_eq_true, decide_eq_true_eq] at h
  exact ⟨by show u.natAbs < _; omega, by show 1 < _; omega⟩
theorem cvK_short {u xn xm ym yn : Int} (hu : unitB u = true) (h1 : 1 ≤ xn ∧ xn ≤ 1000000) (h2 : 1 ≤ xm ∧ xm ≤ 1000000) (h3 : 1 ≤ ym ∧ ym ≤ 1000000) (h4 : 1 ≤ yn ∧ yn ≤ 1000000) (k : Nat) : ShortQ (cvK u xn xm ym yn k) := by
  have d0 := units_dg hu
  have d1 := d0.mul (ofQ_dg h1 h2)
  have d2 := d1.mul (ofQ_dg h3 h4)
  unfold cvK
  split
  · exact d0.short (by omega)
  · exact d1.short (by omega)
  · exact d2.short (by omega)
theorem find_lim {l : List Rt} {base cur : ByteArray} {day : Int} (h : (findR l base cur day).2 = 0) : (1 ≤ (findR l base cur day).1.2.2.1 ∧ (findR l base cur day).1.2.2.1 ≤ 1000000) ∧ (1 ≤ (findR l base cur day).1.2.2.2 ∧ (findR l base cur day).1.2.2.2 ≤ 1000000) := by
  have := find_ok (l := l) (base := base) (cur := cur) (day := day) (x := (findR l base cur day).1) (Prod.ext rfl h)
  exact ⟨this.1, this.2.1⟩
set_option maxRecDepth 100000 in
set_option maxHeartbeats 8000000 in
theorem Convert_any (l : List Rt) (A : Option Addr) (cap : Nat) (base c : ByteArray) (u : Int) (tc : ByteArray) (day : Int) (w : World) (hE : Env w) (hl : InRt w A l) (hll : l.length ≤ 140737488355328) (hbs : base.size ≤ 140737488355328) (hcs : c.size ≤ 140737488355328) (hts : tc.size ≤ 140737488355328) (hz : RtSz l) :
    Calls Tryz.prog 17 #[.slice A l.length cap, .string base, .agg #[.string c, .int .i64 u], .string tc, .int .i64 day] w fun e w' => e = .returned (.tuple #[cvV (convR l base c u tc day).1, .int .i64 (convR l base c u tc day).2]) ∧ Below w.heap.size w w' := by
  have hB1 : Hid (Below w.heap.size w ((w.alloc (.cells #[.string c, .int .i64 u] 35)).alloc (.cells #[.bool false, .string ⟨#[]⟩, .string ⟨#[]⟩] 23))) := ((Below.refl _ w).alloc (Nat.le_refl _) _).alloc (by simp) _
  have ha1 : Hid (Bk ((w.alloc (.cells #[.string c, .int .i64 u] 35)).alloc (.cells #[.bool false, .string ⟨#[]⟩, .string ⟨#[]⟩] 23)) w.heap.size 35 [.string c, .int .i64 u]) := (Bk.new w _ _).alloc _
  have hr1 : Hid (Bk ((w.alloc (.cells #[.string c, .int .i64 u] 35)).alloc (.cells #[.bool false, .string ⟨#[]⟩, .string ⟨#[]⟩] 23)) (w.heap.size + 1) 23 [.bool false, .string ⟨#[]⟩, .string ⟨#[]⟩]) := by have h := Bk.new (w.alloc (.cells #[.string c, .int .i64 u] 35)) 23 [.bool false, .string ⟨#[]⟩, .string ⟨#[]⟩]; rw [World.size_alloc] at h; exact h
  have kp := Lib.hid (proper_any c u ((w.alloc (.cells #[.string c, .int .i64 u] 35)).alloc (.cells #[.bool false, .string ⟨#[]⟩, .string ⟨#[]⟩] 23)) hcs)
  have kf := Lib.hid (fun cur (hc : cur.size ≤ 140737488355328) W (hW : Below w.heap.size w W) => Find_any l A cap base cur day W (hl.below hW) hll hbs hc hz)
  obtain ⟨res, hres⟩ : ∃ r, r = convR l base c u tc day := ⟨_, rfl⟩
  rw [← hres]
  unfold convR at hres
  have hl1 := @find_lim l base c day; have hl2 := @find_lim l base tc day
  have kf1 := Lib.hid (kf.out c hcs); have kf2 := Lib.hid (kf.out tc hts)
  clear kf
  obtain ⟨fx, hfx⟩ : ∃ x, x = findR l base c day := ⟨_, rfl⟩; obtain ⟨fy, hfy⟩ : ∃ x, x = findR l base tc day := ⟨_, rfl⟩
  simp only [← hfx] at kf1 hl1 hres; simp only [← hfy] at kf2 hl2 hres
  clear hfx hfy
  obtain ⟨⟨xc, xd, xn, xm⟩, ex⟩ := fx; obtain ⟨⟨yc, yd, yn, ym⟩, ey⟩ := fy
  have hpu : properB c u = true → unitB u = true := fun h => by unfold properB at h; rw [Bool.and_eq_true] at h; exact h.2
  generalize properB c u = pb at kp hres hpu
  replace kf1 : Hid (∀ W, Below w.heap.size w W → Calls Tryz.prog 21 #[.slice A l.length cap, .string base, .string c, .int .i64 day] W fun e w' => e = .returned (.tuple #[.agg #[.string xc, .int .i64 xd, .int .i64 xn, .int .i64 xm], .int .i64 ex]) ∧ Below W.heap.size W w') := kf1
  replace kf2 : Hid (∀ W, Below w.heap.size w W → Calls Tryz.prog 21 #[.slice A l.length cap, .string base, .string tc, .int .i64 day] W fun e w' => e = .returned (.tuple #[.agg #[.string yc, .int .i64 yd, .int .i64 yn, .int .i64 ym], .int .i64 ey]) ∧ Below W.heap.size W w') := kf2
  replace hl1 : ex = 0 → (1 ≤ xn ∧ xn ≤ 1000000) ∧ (1 ≤ xm ∧ xm ≤ 1000000) := hl1
  replace hl2 : ey = 0 → (1 ≤ yn ∧ yn ≤ 1000000) ∧ (1 ≤ ym ∧ ym ≤ 1000000) := hl2
  replace hE := Lib.hid hE; replace hl := Lib.hid hl; replace hz := Lib.hid hz; replace hl1 := Lib.hid hl1; replace hl2 := Lib.hid hl2; replace hres := Lib.hid hres; replace hpu := Lib.hid hpu
  go_enter Tryz.func17, Tryz.ntmps17
  have a0 := ha1.out.cell (j := 0) rfl
  have a1 := ha1.out.cell (j := 1) rfl
  have a9 := ha1.out.lt
  go_wp2_with fail
  refine kp.out.mono ?_
  rintro e w2 ⟨rfl, hb⟩
  have hB2 := Lib.hid (hB1.out.trans (hb.mono hB1.out.size)); have ha2 := Lib.hid (ha1.out.below hb); have hr2 := Lib.hid (hr1.out.below hb)
  clear hb hB1 ha1 hr1 a0 a1 a9 kp
  have a0 := ha2.out.cell (j := 0) rfl
  have a1 := ha2.out.cell (j := 1) rfl
  have a9 := ha2.out.lt
  have r0 := hr2.out.cell (j := 0) rfl; have p0 := hr2.out.frozen 0
  have r1 := hr2.out.cell (j := 1) rfl; have p1 := hr2.out.frozen 1
  have r2 := hr2.out.cell (j := 2) rfl; have p2 := hr2.out.frozen 2
  have r9 := hr2.out.lt
  cases pb with
  | false =>
    have hrr : res = (none, 1) := hres.out.trans (if_neg (by decide))
    have hB5 : Hid (Below w.heap.size w (((w2.setCell ⟨w.heap.size + 1, 0, none⟩ (.bool false)).setCell ⟨w.heap.size + 1, 1, none⟩ (.string ⟨#[]⟩)).setCell ⟨w.heap.size + 1, 2, none⟩ (.string ⟨#[]⟩))) := (((hB2.out.setCell (p := ⟨w.heap.size + 1, 0, none⟩) (by simp only []; omega) _).setCell (p := ⟨w.heap.size + 1, 1, none⟩) (by simp only []; omega) _).setCell (p := ⟨w.heap.size + 1, 2, none⟩) (by simp only []; omega) _)
    have hR5 : Hid (Bk (((w2.setCell ⟨w.heap.size + 1, 0, none⟩ (.bool false)).setCell ⟨w.heap.size + 1, 1, none⟩ (.string ⟨#[]⟩)).setCell ⟨w.heap.size + 1, 2, none⟩ (.string ⟨#[]⟩)) (w.heap.size + 1) 23 [.bool false, .string ⟨#[]⟩, .string ⟨#[]⟩]) := ((Bk.set hr2.out 0 (.bool false)).set 1 (.string ⟨#[]⟩)).set 2 (.string ⟨#[]⟩)
    go_wp2
    (try simp only [Exit.inBlock, Exit.then])
    have s0 := hR5.out.cell (j := 0) rfl
    have s1 := hR5.out.cell (j := 1) rfl
    have s2 := hR5.out.cell (j := 2) rfl
    have s9 := hR5.out.lt
    refine bodyPost_ret (v := .tuple #[.agg #[.bool false, .string ⟨#[]⟩, .string ⟨#[]⟩], .int .i64 1]) (by simp [results, Tryz.results17, go_sem, s0, s1, s2]) rfl ⟨by rw [hrr]; rfl, hB5.out⟩
  | true =>
    clear r0 r1 r2 r9 p0 p1 p2
    have hu := hpu.out rfl
    have k1 := Lib.hid (kf1.out w2 hB2.out)
    go_wp2_with fail
    refine k1.out.mono ?_
    rintro e w3 ⟨rfl, hb⟩
    have hB3 := Lib.hid (hB2.out.trans (hb.mono hB2.out.size)); have ha3 := Lib.hid (ha2.out.below hb); have hr3 := Lib.hid (hr2.out.below hb)
    clear hb hB2 ha2 hr2 a0 a1 a9 k1 kf1
    by_cases hex : ex = 0
    rotate_left
    · have hrr : res = (none, ex) := hres.out.trans ((if_pos (by trivial)).trans (if_neg hex))
      have m1 : (ex != 0) = true := by rw [bne_iff_ne]; exact hex
      replace hex := Lib.hid hex
      have r0 := hr3.out.cell (j := 0) rfl; have p0 := hr3.out.frozen 0
      have r1 := hr3.out.cell (j := 1) rfl; have p1 := hr3.out.frozen 1
      have r2 := hr3.out.cell (j := 2) rfl; have p2 := hr3.out.frozen 2
      have r9 := hr3.out.lt
      have hB4 : Hid (Below w.heap.size w (((w3.setCell ⟨w.heap.size + 1, 0, none⟩ (.bool false)).setCell ⟨w.heap.size + 1, 1, none⟩ (.string ⟨#[]⟩)).setCell ⟨w.heap.size + 1, 2, none⟩ (.string ⟨#[]⟩))) := (((hB3.out.setCell (p := ⟨w.heap.size + 1, 0, none⟩) (by simp only []; omega) _).setCell (p := ⟨w.heap.size + 1, 1, none⟩) (by simp only []; omega) _).setCell (p := ⟨w.heap.size + 1, 2, none⟩) (by simp only []; omega) _)
      have hB5 : Hid (Below w.heap.size w ((((w3.setCell ⟨w.heap.size + 1, 0, none⟩ (.bool false)).setCell ⟨w.heap.size + 1, 1, none⟩ (.string ⟨#[]⟩)).setCell ⟨w.heap.size + 1, 2, none⟩ (.string ⟨#[]⟩)).alloc (.cells #[.string xc, .int .i64 xd, .int .i64 xn, .int .i64 xm] 42))) := hB4.out.alloc hB4.out.size _
      have hR5 : Hid (Bk ((((w3.setCell ⟨w.heap.size + 1, 0, none⟩ (.bool false)).setCell ⟨w.heap.size + 1, 1, none⟩ (.string ⟨#[]⟩)).setCell ⟨w.heap.size + 1, 2, none⟩ (.string ⟨#[]⟩)).alloc (.cells #[.string xc, .int .i64 xd, .int .i64 xn, .int .i64 xm] 42)) (w.heap.size + 1) 23 [.bool false, .string ⟨#[]⟩, .string ⟨#[]⟩]) := (((Bk.set hr3.out 0 (.bool false)).set 1 (.string ⟨#[]⟩)).set 2 (.string ⟨#[]⟩)).alloc _
      go_wp2
      (try simp only [Exit.inBlock, Exit.then])
      have s0 := hR5.out.cell (j := 0) rfl
      have s1 := hR5.out.cell (j := 1) rfl
      have s2 := hR5.out.cell (j := 2) rfl
      have s9 := hR5.out.lt
      refine bodyPost_ret (v := .tuple #[.agg #[.bool false, .string ⟨#[]⟩, .string ⟨#[]⟩], .int .i64 ex]) (by simp [results, Tryz.results17, go_sem, s0, s1, s2]) rfl ⟨by rw [hrr]; rfl, hB5.out⟩
    · have hx := hl1.out hex
      have hr0 := hres.out.trans ((if_pos (by trivial)).trans (if_pos hex))
      replace hr0 := Lib.hid hr0
      obtain rfl := hex
      have hB4 : Hid (Below w.heap.size w (w3.alloc (.cells #[.string xc, .int .i64 xd, .int .i64 xn, .int .i64 xm] 42))) := hB3.out.alloc hB3.out.size _
      have ha4 := Lib.hid (ha3.out.alloc (.cells #[.string xc, .int .i64 xd, .int .i64 xn, .int .i64 xm] 42)); have hr4 := Lib.hid (hr3.out.alloc (.cells #[.string xc, .int .i64 xd, .int .i64 xn, .int .i64 xm] 42))
      have hx4 : Hid (Bk (w3.alloc (.cells #[.string xc, .int .i64 xd, .int .i64 xn, .int .i64 xm] 42)) w3.heap.size 42 [.string xc, .int .i64 xd, .int .i64 xn, .int .i64 xm]) := Bk.new _ _ _
      have k2 := Lib.hid (kf2.out (w3.alloc (.cells #[.string xc, .int .i64 xd, .int .i64 xn, .int .i64 xm] 42)) hB4.out)
      clear hB3 ha3 hr3
      go_wp2_with fail
      refine k2.out.mono ?_
      rintro e w5 ⟨rfl, hb⟩
      have hB5 := Lib.hid (hB4.out.trans (hb.mono hB4.out.size)); have ha5 := Lib.hid (ha4.out.below hb); have hr5 := Lib.hid (hr4.out.below hb); have hx5 := Lib.hid (hx4.out.below hb)
      clear hb hB4 ha4 hr4 hx4 k2 kf2
      by_cases hey : ey = 0
      rotate_left
      · have hrr : res = (none, ey) := hr0.out.trans (if_neg hey)
        have m1 : (ey != 0) = true := by rw [bne_iff_ne]; exact hey
        replace hey := Lib.hid hey
        replace hB5 : Hid (Below w.heap.size w w5) := hB5
        have r0 := hr5.out.cell (j := 0) rfl; have p0 := hr5.out.frozen 0
        have r1 := hr5.out.cell (j := 1) rfl; have p1 := hr5.out.frozen 1
        have r2 := hr5.out.cell (j := 2) rfl; have p2 := hr5.out.frozen 2
        have r9 := hr5.out.lt
        have hB4 : Hid (Below w.heap.size w (((w5.setCell ⟨w.heap.size + 1, 0, none⟩ (.bool false)).setCell ⟨w.heap.size + 1, 1, none⟩ (.string ⟨#[]⟩)).setCell ⟨w.heap.size + 1, 2, none⟩ (.string ⟨#[]⟩))) := (((hB5.out.setCell (p := ⟨w.heap.size + 1, 0, none⟩) (by simp only []; omega) _).setCell (p := ⟨w.heap.size + 1, 1, none⟩) (by simp only []; omega) _).setCell (p := ⟨w.heap.size + 1, 2, none⟩) (by simp only []; omega) _)
        have hB6 : Hid (Below w.heap.size w ((((w5.setCell ⟨w.heap.size + 1, 0, none⟩ (.bool false)).setCell ⟨w.heap.size + 1, 1, none⟩ (.string ⟨#[]⟩)).setCell ⟨w.heap.size + 1, 2, none⟩ (.string ⟨#[]⟩)).alloc (.cells #[.string yc, .int .i64 yd, .int .i64 yn, .int .i64 ym] 42))) := hB4.out.alloc hB4.out.size _
        have hR6 : Hid (Bk ((((w5.setCell ⟨w.heap.size + 1, 0, none⟩ (.bool false)).setCell ⟨w.heap.size + 1, 1, none⟩ (.string ⟨#[]⟩)).setCell ⟨w.heap.size + 1, 2, none⟩ (.string ⟨#[]⟩)).alloc (.cells #[.string yc, .int .i64 yd, .int .i64 yn, .int .i64 ym] 42)) (w.heap.size + 1) 23 [.bool false, .string ⟨#[]⟩, .string ⟨#[]⟩]) := (((Bk.set hr5.out 0 (.bool false)).set 1 (.string ⟨#[]⟩)).set 2 (.string ⟨#[]⟩)).alloc _
        go_wp2
        (try simp only [Exit.inBlock, Exit.then])
        have s0 := hR6.out.cell (j := 0) rfl
        have s1 := hR6.out.cell (j := 1) rfl
        have s2 := hR6.out.cell (j := 2) rfl
        have s9 := hR6.out.lt
        refine bodyPost_ret (v := .tuple #[.agg #[.bool false, .string ⟨#[]⟩, .string ⟨#[]⟩], .int .i64 ey]) (by simp [results, Tryz.results17, go_sem, s0, s1, s2]) rfl ⟨by rw [hrr]; rfl, hB6.out⟩
      · have hy := hl2.out hey
        have hrr : Hid (res = (some (cvK u xn xm ym yn 2), 0)) := hr0.out.trans (if_pos hey)
        obtain rfl := hey
        have hsh := Lib.hid (fun k => cvK_short hu hx.1 hx.2 hy.2 hy.1 k)
        have hdx := Lib.hid ((ofQ_dg hx.1 hx.2).short (by omega)); have hdy := Lib.hid ((ofQ_dg hy.2 hy.1).short (by omega))
        have hu2 : -1000000000000 ≤ u ∧ u ≤ 1000000000000 := by unfold unitB at hu; simpa using hu
        obtain ⟨⟨x1, x2⟩, x3, x4⟩ := hx; obtain ⟨⟨y1, y2⟩, y3, y4⟩ := hy; obtain ⟨u1, u2⟩ := hu2
        clear hr0 hres hl1 hl2 hpu
        have hB6 : Hid (Below w.heap.size w (w5.alloc (.cells #[.string yc, .int .i64 yd, .int .i64 yn, .int .i64 ym] 42))) := hB5.out.alloc hB5.out.size _
        have hr6 := Lib.hid (hr5.out.alloc (.cells #[.string yc, .int .i64 yd, .int .i64 yn, .int .i64 ym] 42)); have hx6 := Lib.hid (hx5.out.alloc (.cells #[.string yc, .int .i64 yd, .int .i64 yn, .int .i64 ym] 42))
        have hy6 : Hid (Bk (w5.alloc (.cells #[.string yc, .int .i64 yd, .int .i64 yn, .int .i64 ym] 42)) w5.heap.size 42 [.string yc, .int .i64 yd, .int .i64 yn, .int .i64 ym]) := Bk.new _ _ _
        obtain ⟨g0, n0, d0, q0⟩ := agg_qv (u : Rat)
        have ko1 : Hid (Calls Tryz.prog 46 #[.int .i64 u, .int .i64 1] (w5.alloc (.cells #[.string yc, .int .i64 yd, .int .i64 yn, .int .i64 ym] 42)) fun e w' => e = .returned (.tuple #[.agg #[.bool g0, .string n0, .string d0], .int .i64 0]) ∧ Below ((w5.alloc (.cells #[.string yc, .int .i64 yd, .int .i64 yn, .int .i64 ym] 42))).heap.size (w5.alloc (.cells #[.string yc, .int .i64 yd, .int .i64 yn, .int .i64 ym] 42)) w') := by have h := RatOf_any u 1 (by omega) (by omega) (by omega) (by omega) (by omega) (w5.alloc (.cells #[.string yc, .int .i64 yd, .int .i64 yn, .int .i64 ym] 42)) (hE.out.below hB6.out); rw [ofQ_one, q0] at h; exact h
        have a0 := ha5.out.cell (j := 0) rfl
        have a1 := ha5.out.cell (j := 1) rfl
        have a9 := ha5.out.lt
        clear hB5 ha5 hr5 hx5
        go_wp2_with fail
        refine ko1.out.mono ?_
        rintro e w7 ⟨rfl, hb⟩
        have hB7 := Lib.hid (hB6.out.trans (hb.mono hB6.out.size)); have hr7 := Lib.hid (hr6.out.below hb); have hx7 := Lib.hid (hx6.out.below hb); have hy7 := Lib.hid (hy6.out.below hb)
        clear hb hB6 hr6 hx6 hy6 ko1 a0 a1 a9
        have x20 := hx7.out.cell (j := 2) rfl; have y20 := hy7.out.cell (j := 2) rfl
        have x30 := hx7.out.cell (j := 3) rfl; have y30 := hy7.out.cell (j := 3) rfl
        have x90 := hx7.out.lt; have y90 := hy7.out.lt
        have hsv : Hid (Bk ((w7.alloc (.cells #[.bool g0, .string n0, .string d0] 23)).alloc (.cells #[.int .i64 xn, .int .i64 xm, .int .i64 ym, .int .i64 yn] 78)) (w7.heap.size + 1) 78 [.int .i64 xn, .int .i64 xm, .int .i64 ym, .int .i64 yn]) := by have h := Bk.new (w7.alloc (.cells #[.bool g0, .string n0, .string d0] 23)) 78 [.int .i64 xn, .int .i64 xm, .int .i64 ym, .int .i64 yn]; rw [World.size_alloc] at h; exact h
        have hqv : Hid (QB ((w7.alloc (.cells #[.bool g0, .string n0, .string d0] 23)).alloc (.cells #[.int .i64 xn, .int .i64 xm, .int .i64 ym, .int .i64 yn] 78)) w7.heap.size (cvK u xn xm ym yn 0)) := ⟨g0, n0, d0, q0.symm, (Bk.new _ _ _).alloc _⟩
        have hB8 : Hid (Below w.heap.size w ((w7.alloc (.cells #[.bool g0, .string n0, .string d0] 23)).alloc (.cells #[.int .i64 xn, .int .i64 xm, .int .i64 ym, .int .i64 yn] 78))) := (hB7.out.alloc hB7.out.size _).alloc (by have := hB7.out.size; simp; omega) _
        have hr8 := Lib.hid ((hr7.out.alloc (.cells #[.bool g0, .string n0, .string d0] 23)).alloc (.cells #[.int .i64 xn, .int .i64 xm, .int .i64 ym, .int .i64 yn] 78))
        have hwv : Hid (w.heap.size + 1 < w7.heap.size) := hr7.out.lt
        go_wp2_with fail
        clear hB7 hr7 hx7 hy7 x20 x30 y20 y30 x90 y90
        go_loopw [68] (fun ix wr => ∃ (k : Nat), k ≤ 2 ∧ ix = .int .i64 (k : Int) ∧ Hid (Below w.heap.size w wr) ∧ Hid (QB wr w7.heap.size (cvK u xn xm ym yn k)) ∧ Hid (Bk wr (w7.heap.size + 1) 78 [.int .i64 xn, .int .i64 xm, .int .i64 ym, .int .i64 yn]) ∧ Hid (Bk wr (w.heap.size + 1) 23 [.bool false, .string ⟨#[]⟩, .string ⟨#[]⟩])) (fun ix _ => 2 - (intOf ix).toNat)
        case atStart => exact ⟨0, by omega, rfl, hB8, hqv, hsv, hr8⟩
        case round =>
          obtain ⟨k, hk, rfl, hB, hQ, hS, hR⟩ := hrel
          clear hB8 hqv hsv hr8
          obtain ⟨wz, rfl⟩ : ∃ z, z = wr := ⟨_, rfl⟩
          obtain ⟨g1, n1, d1, hq1, hs1⟩ := hQ.out
          replace hs1 := Lib.hid hs1
          clear hQ
          rcases (by omega : k = 0 ∨ k = 1 ∨ k = 2) with rfl | rfl | rfl
          · obtain ⟨g2, n2, d2, q2⟩ := agg_qv (ofQ xn xm)
            obtain ⟨g3, n3, d3, q3⟩ := agg_qv (cvK u xn xm ym yn 1)
            have kO : Hid (∀ W, Env W → Calls Tryz.prog 46 #[.int .i64 xn, .int .i64 xm] W fun e w' => e = .returned (.tuple #[.agg #[.bool g2, .string n2, .string d2], .int .i64 0]) ∧ Below W.heap.size W w') := fun W hW => by have h := RatOf_any xn xm (by omega) (by omega) (by omega) (by omega) (by omega) W hW; rw [q2] at h; exact h
            have kM : Hid (∀ W, Env W → Calls Tryz.prog 19 #[.agg #[.bool g1, .string n1, .string d1], .agg #[.bool g2, .string n2, .string d2]] W fun e w' => e = .returned (.tuple #[.agg #[.bool g3, .string n3, .string d3], .int .i64 0]) ∧ Below W.heap.size W w') := fun W hW => by have h := Mul_short (cvK u xn xm ym yn 0) (ofQ xn xm) (hsh.out 0) hdx.out W hW; rw [show cvK u xn xm ym yn 0 * ofQ xn xm = cvK u xn xm ym yn 1 from rfl, ← hq1, q2, q3] at h; exact h
            clear hq1 q2
            have e0 : wz.cell? ⟨w7.heap.size + 1, 0, none⟩ = some (.int .i64 xn) := hS.out.cell (j := 0) rfl; have e1 : wz.cell? ⟨w7.heap.size + 1, 1, none⟩ = some (.int .i64 xm) := hS.out.cell (j := 1) rfl; have e9 := hS.out.lt
            have hB9 : Hid (Below w.heap.size w (wz.alloc (.cells #[.int .i64 xn, .int .i64 xm] 78))) := hB.out.alloc hB.out.size _
            have hs9 := Lib.hid (hs1.out.alloc (.cells #[.int .i64 xn, .int .i64 xm] 78)); have hS9 := Lib.hid (hS.out.alloc (.cells #[.int .i64 xn, .int .i64 xm] 78)); have hR9 := Lib.hid (hR.out.alloc (.cells #[.int .i64 xn, .int .i64 xm] 78))
            have kO9 := Lib.hid (kO.out (wz.alloc (.cells #[.int .i64 xn, .int .i64 xm] 78)) (hE.out.below hB9.out))
            clear hB hs1 hS hR kO
            go_wp2_with fail
            refine kO9.out.mono ?_
            rintro e w10 ⟨rfl, hb⟩
            have hB10 := Lib.hid (hB9.out.trans (hb.mono hB9.out.size)); have hs10 := Lib.hid (hs9.out.below hb); have hS10 := Lib.hid (hS9.out.below hb); have hR10 := Lib.hid (hR9.out.below hb)
            clear hb hB9 hs9 hS9 hR9 kO9 e0 e1 e9
            have hB11 : Hid (Below w.heap.size w (w10.alloc (.cells #[.bool g2, .string n2, .string d2] 23))) := hB10.out.alloc hB10.out.size _
            have hs11 := Lib.hid (hs10.out.alloc (.cells #[.bool g2, .string n2, .string d2] 23)); have hS11 := Lib.hid (hS10.out.alloc (.cells #[.bool g2, .string n2, .string d2] 23)); have hR11 := Lib.hid (hR10.out.alloc (.cells #[.bool g2, .string n2, .string d2] 23))
            have kM11 := Lib.hid (kM.out (w10.alloc (.cells #[.bool g2, .string n2, .string d2] 23)) (hE.out.below hB11.out))
            have v0 := hs10.out.cell (j := 0) rfl; have v1 := hs10.out.cell (j := 1) rfl; have v2 := hs10.out.cell (j := 2) rfl; have v9 := hs10.out.lt
            clear hB10 hs10 hS10 hR10 kM
            go_wp2_with fail
            refine kM11.out.mono ?_
            rintro e w12 ⟨rfl, hb⟩
            have hB12 := Lib.hid (hB11.out.trans (hb.mono hB11.out.size)); have hs12 := Lib.hid (hs11.out.below hb); have hS12 := Lib.hid (hS11.out.below hb); have hR12 := Lib.hid (hR11.out.below hb)
            clear hb hB11 hs11 hS11 hR11 kM11 v0 v1 v2 v9
            have hB13 : Hid (Below w.heap.size w (((w12.setCell ⟨w7.heap.size, 0, none⟩ (.bool g3)).setCell ⟨w7.heap.size, 1, none⟩ (.string n3)).setCell ⟨w7.heap.size, 2, none⟩ (.string d3))) := ((hB12.out.setCell (p := ⟨w7.heap.size, 0, none⟩) (by have := hwv.out; simp only []; omega) _).setCell (p := ⟨w7.heap.size, 1, none⟩) (by have := hwv.out; simp only []; omega) _).setCell (p := ⟨w7.heap.size, 2, none⟩) (by have := hwv.out; simp only []; omega) _
            have hQ13 : Hid (QB (((w12.setCell ⟨w7.heap.size, 0, none⟩ (.bool g3)).setCell ⟨w7.heap.size, 1, none⟩ (.string n3)).setCell ⟨w7.heap.size, 2, none⟩ (.string d3)) w7.heap.size (cvK u xn xm ym yn 1)) := ⟨g3, n3, d3, q3.symm, ((hs12.out.set 0 (.bool g3)).set 1 (.string n3)).set 2 (.string d3)⟩
            have hS13 : Hid (Bk (((w12.setCell ⟨w7.heap.size, 0, none⟩ (.bool g3)).setCell ⟨w7.heap.size, 1, none⟩ (.string n3)).setCell ⟨w7.heap.size, 2, none⟩ (.string d3)) (w7.heap.size + 1) 78 [.int .i64 xn, .int .i64 xm, .int .i64 ym, .int .i64 yn]) := ((hS12.out.far (p := ⟨w7.heap.size, 0, none⟩) (by simp) _).far (p := ⟨w7.heap.size, 1, none⟩) (by simp) _).far (p := ⟨w7.heap.size, 2, none⟩) (by simp) _
            have hR13 : Hid (Bk (((w12.setCell ⟨w7.heap.size, 0, none⟩ (.bool g3)).setCell ⟨w7.heap.size, 1, none⟩ (.string n3)).setCell ⟨w7.heap.size, 2, none⟩ (.string d3)) (w.heap.size + 1) 23 [.bool false, .string ⟨#[]⟩, .string ⟨#[]⟩]) := ((hR12.out.far (p := ⟨w7.heap.size, 0, none⟩) (by have := hwv.out; simp only []; omega) _).far (p := ⟨w7.heap.size, 1, none⟩) (by have := hwv.out; simp only []; omega) _).far (p := ⟨w7.heap.size, 2, none⟩) (by have := hwv.out; simp only []; omega) _
            have v0 := hs12.out.cell (j := 0) rfl; have v1 := hs12.out.cell (j := 1) rfl; have v2 := hs12.out.cell (j := 2) rfl; have v9 := hs12.out.lt; have f0 := hs12.out.frozen 0; have f1 := hs12.out.frozen 1; have f2 := hs12.out.frozen 2
            go_wp2
            exact ⟨⟨1, by omega, by go_num, hB13, hQ13, hS13, hR13⟩, by simp only [intOf]; omega⟩
          · obtain ⟨g2, n2, d2, q2⟩ := agg_qv (ofQ ym yn)
            obtain ⟨g3, n3, d3, q3⟩ := agg_qv (cvK u xn xm ym yn 2)
            have kO : Hid (∀ W, Env W → Calls Tryz.prog 46 #[.int .i64 ym, .int .i64 yn] W fun e w' => e = .returned (.tuple #[.agg #[.bool g2, .string n2, .string d2], .int .i64 0]) ∧ Below W.heap.size W w') := fun W hW => by have h := RatOf_any ym yn (by omega) (by omega) (by omega) (by omega) (by omega) W hW; rw [q2] at h; exact h
            have kM : Hid (∀ W, Env W → Calls Tryz.prog 19 #[.agg #[.bool g1, .string n1, .string d1], .agg #[.bool g2, .string n2, .string d2]] W fun e w' => e = .returned (.tuple #[.agg #[.bool g3, .string n3, .string d3], .int .i64 0]) ∧ Below W.heap.size W w') := fun W hW => by have h := Mul_short (cvK u xn xm ym yn 1) (ofQ ym yn) (hsh.out 1) hdy.out W hW; rw [show cvK u xn xm ym yn 1 * ofQ ym yn = cvK u xn xm ym yn 2 from rfl, ← hq1, q2, q3] at h; exact h
            clear hq1 q2
            have e0 : wz.cell? ⟨w7.heap.size + 1, 2, none⟩ = some (.int .i64 ym) := hS.out.cell (j := 2) rfl; have e1 : wz.cell? ⟨w7.heap.size + 1, 3, none⟩ = some (.int .i64 yn) := hS.out.cell (j := 3) rfl; have e9 := hS.out.lt
            have hB9 : Hid (Below w.heap.size w (wz.alloc (.cells #[.int .i64 ym, .int .i64 yn] 78))) := hB.out.alloc hB.out.size _
            have hs9 := Lib.hid (hs1.out.alloc (.cells #[.int .i64 ym, .int .i64 yn] 78)); have hS9 := Lib.hid (hS.out.alloc (.cells #[.int .i64 ym, .int .i64 yn] 78)); have hR9 := Lib.hid (hR.out.alloc (.cells #[.int .i64 ym, .int .i64 yn] 78))
            have kO9 := Lib.hid (kO.out (wz.alloc (.cells #[.int .i64 ym, .int .i64 yn] 78)) (hE.out.below hB9.out))
            clear hB hs1 hS hR kO
            go_wp2_with fail
            refine kO9.out.mono ?_
            rintro e w10 ⟨rfl, hb⟩
            have hB10 := Lib.hid (hB9.out.trans (hb.mono hB9.out.size)); have hs10 := Lib.hid (hs9.out.below hb); have hS10 := Lib.hid (hS9.out.below hb); have hR10 := Lib.hid (hR9.out.below hb)
            clear hb hB9 hs9 hS9 hR9 kO9 e0 e1 e9
            have hB11 : Hid (Below w.heap.size w (w10.alloc (.cells #[.bool g2, .string n2, .string d2] 23))) := hB10.out.alloc hB10.out.size _
            have hs11 := Lib.hid (hs10.out.alloc (.cells #[.bool g2, .string n2, .string d2] 23)); have hS11 := Lib.hid (hS10.out.alloc (.cells #[.bool g2, .string n2, .string d2] 23)); have hR11 := Lib.hid (hR10.out.alloc (.cells #[.bool g2, .string n2, .string d2] 23))
            have kM11 := Lib.hid (kM.out (w10.alloc (.cells #[.bool g2, .string n2, .string d2] 23)) (hE.out.below hB11.out))
            have v0 := hs10.out.cell (j := 0) rfl; have v1 := hs10.out.cell (j := 1) rfl; have v2 := hs10.out.cell (j := 2) rfl; have v9 := hs10.out.lt
            clear hB10 hs10 hS10 hR10 kM
            go_wp2_with fail
            refine kM11.out.mono ?_
            rintro e w12 ⟨rfl, hb⟩
            have hB12 := Lib.hid (hB11.out.trans (hb.mono hB11.out.size)); have hs12 := Lib.hid (hs11.out.below hb); have hS12 := Lib.hid (hS11.out.below hb); have hR12 := Lib.hid (hR11.out.below hb)
            clear hb hB11 hs11 hS11 hR11 kM11 v0 v1 v2 v9
            have hB13 : Hid (Below w.heap.size w (((w12.setCell ⟨w7.heap.size, 0, none⟩ (.bool g3)).setCell ⟨w7.heap.size, 1, none⟩ (.string n3)).setCell ⟨w7.heap.size, 2, none⟩ (.string d3))) := ((hB12.out.setCell (p := ⟨w7.heap.size, 0, none⟩) (by have := hwv.out; simp only []; omega) _).setCell (p := ⟨w7.heap.size, 1, none⟩) (by have := hwv.out; simp only []; omega) _).setCell (p := ⟨w7.heap.size, 2, none⟩) (by have := hwv.out; simp only []; omega) _
            have hQ13 : Hid (QB (((w12.setCell ⟨w7.heap.size, 0, none⟩ (.bool g3)).setCell ⟨w7.heap.size, 1, none⟩ (.string n3)).setCell ⟨w7.heap.size, 2, none⟩ (.string d3)) w7.heap.size (cvK u xn xm ym yn 2)) := ⟨g3, n3, d3, q3.symm, ((hs12.out.set 0 (.bool g3)).set 1 (.string n3)).set 2 (.string d3)⟩
            have hS13 : Hid (Bk (((w12.setCell ⟨w7.heap.size, 0, none⟩ (.bool g3)).setCell ⟨w7.heap.size, 1, none⟩ (.string n3)).setCell ⟨w7.heap.size, 2, none⟩ (.string d3)) (w7.heap.size + 1) 78 [.int .i64 xn, .int .i64 xm, .int .i64 ym, .int .i64 yn]) := ((hS12.out.far (p := ⟨w7.heap.size, 0, none⟩) (by simp) _).far (p := ⟨w7.heap.size, 1, none⟩) (by simp) _).far (p := ⟨w7.heap.size, 2, none⟩) (by simp) _
            have hR13 : Hid (Bk (((w12.setCell ⟨w7.heap.size, 0, none⟩ (.bool g3)).setCell ⟨w7.heap.size, 1, none⟩ (.string n3)).setCell ⟨w7.heap.size, 2, none⟩ (.string d3)) (w.heap.size + 1) 23 [.bool false, .string ⟨#[]⟩, .string ⟨#[]⟩]) := ((hR12.out.far (p := ⟨w7.heap.size, 0, none⟩) (by have := hwv.out; simp only []; omega) _).far (p := ⟨w7.heap.size, 1, none⟩) (by have := hwv.out; simp only []; omega) _).far (p := ⟨w7.heap.size, 2, none⟩) (by have := hwv.out; simp only []; omega) _
            have v0 := hs12.out.cell (j := 0) rfl; have v1 := hs12.out.cell (j := 1) rfl; have v2 := hs12.out.cell (j := 2) rfl; have v9 := hs12.out.lt; have f0 := hs12.out.frozen 0; have f1 := hs12.out.frozen 1; have f2 := hs12.out.frozen 2
            go_wp2
            exact ⟨⟨2, by omega, by go_num, hB13, hQ13, hS13, hR13⟩, by simp only [intOf]; omega⟩
          · have hfin : Hid (Ending.returned (.tuple #[.agg #[.bool g1, .string n1, .string d1], .int .i64 0]) = .returned (.tuple #[cvV res.1, .int .i64 res.2])) := by rw [hrr.out, hq1]; rfl
            replace hq1 := Lib.hid hq1
            have v0 := hs1.out.cell (j := 0) rfl; have v1 := hs1.out.cell (j := 1) rfl; have v2 := hs1.out.cell (j := 2) rfl; have v9 := hs1.out.lt
            have hne : w.heap.size + 1 ≠ w7.heap.size := Nat.ne_of_lt hwv.out; have hne2 : w7.heap.size ≠ w.heap.size + 1 := Ne.symm hne
            have r0 := hR.out.cell (j := 0) rfl; have p0 := hR.out.frozen 0
            have r1 := hR.out.cell (j := 1) rfl; have p1 := hR.out.frozen 1
            have r2 := hR.out.cell (j := 2) rfl; have p2 := hR.out.frozen 2
            have r9 := hR.out.lt
            have hB5 : Hid (Below w.heap.size w (((wz.setCell ⟨w.heap.size + 1, 0, none⟩ (.bool g1)).setCell ⟨w.heap.size + 1, 1, none⟩ (.string n1)).setCell ⟨w.heap.size + 1, 2, none⟩ (.string d1))) := (((hB.out.setCell (p := ⟨w.heap.size + 1, 0, none⟩) (by simp only []; omega) _).setCell (p := ⟨w.heap.size + 1, 1, none⟩) (by simp only []; omega) _).setCell (p := ⟨w.heap.size + 1, 2, none⟩) (by simp only []; omega) _)
            have hR5 : Hid (Bk (((wz.setCell ⟨w.heap.size + 1, 0, none⟩ (.bool g1)).setCell ⟨w.heap.size + 1, 1, none⟩ (.string n1)).setCell ⟨w.heap.size + 1, 2, none⟩ (.string d1)) (w.heap.size + 1) 23 [.bool g1, .string n1, .string d1]) := ((Bk.set hR.out 0 (.bool g1)).set 1 (.string n1)).set 2 (.string d1)
            go_wp2
            (try simp only [Exit.inBlock, Exit.then])
            have s0 := hR5.out.cell (j := 0) rfl
            have s1 := hR5.out.cell (j := 1) rfl
            have s2 := hR5.out.cell (j := 2) rfl
            have s9 := hR5.out.lt
            refine bodyPost_ret (v := .tuple #[.agg #[.bool g1, .string n1, .string d1], .int .i64 0]) (by simp [results, Tryz.results17, go_sem, s0, s1, s2]) rfl ⟨hfin.out, hB5.out⟩
end Mo
end Go.Proofs.YtpmlhgmmobpilaaGreatDoor

namespace Go.Proofs.YtpmlhgmmobpilaaGreatDoor
open Go.RowKit Go.Shelf
namespace Mo
open Nt Ci
/-- The text of an amount. -/
def textA (c : ByteArray) (u : Int) : ByteArray := c ++ ⟨#[32]⟩ ++ ⟨(Lib.itoa u).toArray⟩
def textR (c : ByteArray) (u : Int) : ByteArray × Int := if properB c u = true then (textA c u, 0) else (⟨#[]⟩, 1)
theorem proper_parts {c : ByteArray} {u : Int} (h : properB c u = true) : identB c = true ∧ c.size ≤ 24 ∧ 0 < c.size ∧ -1000000000000 ≤ u ∧ u ≤ 1000000000000 := by
  unfold properB unitB at h
  simp only [Bool.and_eq_true, decide_eq_true_eq] at h
  have h1 := h.1
  unfold identB at h1
  simp only [Bool.and_eq_true, decide_eq_true_eq] at h1
  exact ⟨h.1, h1.2.2, h1.2.1, h.2.1, h.2.2⟩
theorem itoa_len {u : Int} (h0 : -1000000000000 ≤ u) (h1 : u ≤ 1000000000000) : (Lib.itoa u).length ≤ 20 := by
  unfold Lib.itoa
  split
  · have := (decDigits_len_iff u.natAbs 14 (by omega)).2 (by omega)
    rw [List.length_cons]; omega
  · have := (decDigits_len_iff u.toNat 14 (by omega)).2 (by omega)
    omega
set_option maxRecDepth 100000 in
theorem Text_any (c : ByteArray) (u : Int) (w : World) (hE : Env w) (hc : c.size ≤ 140737488355328) :
    Calls Tryz.prog 38 #[.agg #[.string c, .int .i64 u]] w fun e w' => e = .returned (.tuple #[.string (textR c u).1, .int .i64 (textR c u).2]) ∧ Below w.heap.size w w' := by
  have hB1 : Hid (Below w.heap.size w (w.alloc (.cells #[.string c, .int .i64 u] 35))) := (Below.refl _ w).alloc (Nat.le_refl _) _
  have ha1 : Hid (Bk (w.alloc (.cells #[.string c, .int .i64 u] 35)) w.heap.size 35 [.string c, .int .i64 u]) := Bk.new w _ _
  have kp := Lib.hid (proper_any c u (w.alloc (.cells #[.string c, .int .i64 u] 35)) hc)
  have a0 := ha1.out.cell (j := 0) rfl
  have a1 := ha1.out.cell (j := 1) rfl
  have a9 := ha1.out.lt
  cases hp : properB c u with
  | false =>
    have hr : textR c u = (⟨#[]⟩, 1) := if_neg (by rw [hp]; decide)
    rw [hr]
    rw [hp] at kp
    clear hp hr
    go_enter Tryz.func38, Tryz.ntmps38
    go_wp2_with fail
    refine kp.out.mono ?_
    rintro e w2 ⟨rfl, hb⟩
    have hB2 := Lib.hid (hB1.out.trans (hb.mono hB1.out.size))
    clear hb
    go_wp2
    go_ret2
    exact ⟨rfl, hB2.out⟩
  | true =>
    have hr : textR c u = (textA c u, 0) := if_pos hp
    obtain ⟨_, z1, z2, z3, z4⟩ := proper_parts hp
    rw [hr]
    rw [hp] at kp
    clear hp hr
    have ki := Lib.hid (fun W (h : Env W) => itoa_any u (by omega) (by omega) W h.tab)
    replace hE := Lib.hid hE
    have hta : Hid (textA c u = c ++ ⟨#[32]⟩ ++ ⟨(Lib.itoa u).toArray⟩) := rfl
    have hil := itoa_len z3 z4
    generalize Lib.itoa u = it at ki hta hil
    go_enter Tryz.func38, Tryz.ntmps38
    go_wp2_with fail
    refine kp.out.mono ?_
    rintro e w2 ⟨rfl, hb⟩
    have hB2 := Lib.hid (hB1.out.trans (hb.mono hB1.out.size))
    have ha2 := Lib.hid (ha1.out.below hb)
    have ha2d : Hid (Bk w2.drew w.heap.size 35 [.string c, .int .i64 u]) := ha2.out.below (Below.refl _ _).drew
    have hB2d : Hid (Below w.heap.size w w2.drew) := hB2.out.drew
    clear hb a0 a1 a9 kp
    have a0 := ha2.out.cell (j := 0) rfl
    have a1 := ha2.out.cell (j := 1) rfl
    have a9 := ha2.out.lt
    go_wp2_with fail
    have hn1 : ¬ 9223372036854775807 < c.size + 1 := by omega
    have hn2 : ¬ 9223372036854775807 < c.size + 1 + it.length := by omega
    go_region_held3 (fun w' => w'.cell? ⟨w.heap.size, 0, none⟩ = some (.string c) ∧ w'.cell? ⟨w.heap.size, 1, none⟩ = some (.int .i64 u)) (first | (with_reducible exact ⟨ha2.out.cell (j := 0) rfl, ha2.out.cell (j := 1) rfl⟩) | (with_reducible exact ⟨ha2d.out.cell (j := 0) rfl, ha2d.out.cell (j := 1) rfl⟩) | (with_reducible exact ⟨ha3.out.cell (j := 0) rfl, ha3.out.cell (j := 1) rfl⟩) | go_keep)
      (first | (go_at_call 89; refine (ki.out _ (hE.out.below hB2d.out)).mono ?_; rintro e w3 ⟨rfl, hb⟩; have hB3 := Lib.hid (hB2d.out.trans (hb.mono hB2d.out.size)); have ha3 := Lib.hid (ha2d.out.below hb); clear hb))
    go_wp2
    go_ret2
    exact ⟨by rw [hta.out]; rfl, hB3.out⟩
end Mo
end Go.Proofs.YtpmlhgmmobpilaaGreatDoor

namespace Go.Proofs.YtpmlhgmmobpilaaGreatDoor
open Go.RowKit Go.Shelf
namespace Mo
open Nt Ci
def cutC (t : ByteArray) : ByteArray := ⟨(Lib.cut t.data.toList [32]).1.toArray⟩
def cutD (t : ByteArray) : ByteArray := ⟨(Lib.cut t.data.toList [32]).2.1.toArray⟩
def cutY (t : ByteArray) : Bool := (Lib.cut t.data.toList [32]).2.2
def numO (t : ByteArray) : Option Int := match Lib.atoiAll t.data.toList with
  | .ok n => some n
  | _ => none
/-- What Parse returns. -/
def parseR (t : ByteArray) : (ByteArray × Int) × Int := match numO (cutD t) with
  | some n => if (textR (cutC t) n).2 = 0 ∧ (textR (cutC t) n).1 = t then ((cutC t, n), 0) else ((⟨#[]⟩, 0), 5)
  | none => ((⟨#[]⟩, 0), 5)
theorem cutS_any (t : ByteArray) (w : World) (hE : REnv w) (ht : t.size ≤ 1000000) : Calls Tryz.prog 91 #[.string t, .string ⟨#[32]⟩] w fun e w' => e = .returned (.tuple #[.string (cutC t), .string (cutD t), .bool (cutY t)]) ∧ Below w.heap.size w w' := by
  obtain ⟨m, hm⟩ := hE.2
  refine (Tryz.strings_Cut t ⟨#[32]⟩ m w (by omega) hm).mono ?_
  rintro e w' ⟨rfl, k, rfl⟩
  exact ⟨rfl, blw_drewN (Below.refl _ _) k⟩
theorem cutl_len (l : List UInt8) : (Lib.cut l [32]).1.length ≤ l.length ∧ (Lib.cut l [32]).2.1.length ≤ l.length := by
  unfold Lib.cut
  split
  · exact ⟨by simp; omega, by simp⟩
  · exact ⟨Nat.le_refl _, Nat.zero_le _⟩
theorem cut_sizes (t : ByteArray) : (cutC t).size ≤ t.size ∧ (cutD t).size ≤ t.size := by
  have h := cutl_len t.data.toList
  rw [← Lib.size_eq] at h
  exact ⟨by rw [Lib.size_eq]; exact h.1, by rw [Lib.size_eq]; exact h.2⟩
/-- Atoi at any text. -/
theorem Atoi_some (s : ByteArray) (w : World) (hE : Env w) (hs : s.size ≤ 1000000) :
    Calls Tryz.prog 92 #[.string s] w fun e w' => ((∃ n, numO s = some n ∧ e = .returned (.tuple #[.int .i64 n, .nilIface])) ∨ (∃ (z : Int) (N : Nat), numO s = none ∧ e = .returned (.tuple #[.int .i64 z, .iface 174 (.pointer (some ⟨N, 0, none⟩))]))) ∧ Below w.heap.size w w' := by
  cases h : Lib.atoiAll s.data.toList
  · rename_i n
    refine (atoi_ok s n hs h w hE).mono ?_
    rintro e w' ⟨rfl, hb⟩
    exact ⟨.inl ⟨n, by unfold numO; rw [h], rfl⟩, hb⟩
  · obtain ⟨tp, p, hv⟩ := hE.syn
    have hk := Any.strconv_Atoi_syntax_var Tryz.laysC172 s (by omega) h tp p w hv
    refine Calls.mono (show Calls Tryz.prog 92 #[.string s] w _ from hk) ?_
    rintro e w' ⟨N, rfl, _, _, hb⟩
    exact ⟨.inr ⟨0, N, by unfold numO; rw [h], rfl⟩, hb⟩
  · refine (atoi_bad s hs h w hE).mono ?_
    rintro e w' ⟨z, N, rfl, hb⟩
    exact ⟨.inr ⟨z, N, by unfold numO; rw [h], rfl⟩, hb⟩
set_option maxRecDepth 100000 in
set_option maxHeartbeats 8000000 in
theorem MParse_any (t : ByteArray) (w : World) (hE : REnv w) (ht : t.size ≤ 1000000) :
    Calls Tryz.prog 40 #[.string t] w fun e w' => e = .returned (.tuple #[.agg #[.string (parseR t).1.1, .int .i64 (parseR t).1.2], .int .i64 (parseR t).2]) ∧ Below w.heap.size w w' := by
  have hB1 : Hid (Below w.heap.size w (w.alloc (.cells #[.string ⟨#[]⟩, .int .i64 0] 35))) := (Below.refl _ w).alloc (Nat.le_refl _) _
  have hr1 : Hid (Bk (w.alloc (.cells #[.string ⟨#[]⟩, .int .i64 0] 35)) w.heap.size 35 [.string ⟨#[]⟩, .int .i64 0]) := Bk.new w _ _
  have kc := Lib.hid (cutS_any t (w.alloc (.cells #[.string ⟨#[]⟩, .int .i64 0] 35)) (hE.below hB1.out) ht)
  have hsz := cut_sizes t
  have ka := Lib.hid (fun W (h : Env W) => Atoi_some (cutD t) W h (by omega))
  have kt := Lib.hid (fun n W (h : Env W) => Text_any (cutC t) n W h (by omega))
  have hp0 : Hid (numO (cutD t) = none → parseR t = ((⟨#[]⟩, 0), 5)) := fun h => by unfold parseR; rw [h]
  have hp1 : Hid (∀ n, numO (cutD t) = some n → (textR (cutC t) n).2 = 0 → (textR (cutC t) n).1 = t → parseR t = ((cutC t, n), 0)) := fun n h h1 h2 => by unfold parseR; rw [h]; exact if_pos ⟨h1, h2⟩
  have hp2 : Hid (∀ n, numO (cutD t) = some n → ¬ ((textR (cutC t) n).2 = 0 ∧ (textR (cutC t) n).1 = t) → parseR t = ((⟨#[]⟩, 0), 5)) := fun n h h1 => by unfold parseR; rw [h]; exact if_neg h1
  generalize parseR t = res at hp0 hp1 hp2 ⊢
  generalize cutC t = c at kc kt hp1 hp2 hsz
  generalize cutD t = d at kc ka hp0 hp1 hp2 hsz
  generalize cutY t = y at kc
  replace hE := Lib.hid hE
  clear hsz
  go_enter Tryz.func40, Tryz.ntmps40
  go_wp2_with fail
  refine kc.out.mono ?_
  rintro e w2 ⟨rfl, hb⟩
  have hB2 := Lib.hid (hB1.out.trans (hb.mono hB1.out.size)); have hr2 := Lib.hid (hr1.out.below hb)
  clear hb hB1 hr1 kc
  have ka2 := Lib.hid (ka.out w2 (hE.out.1.below hB2.out)); clear ka
  go_wp2_with fail
  refine ka2.out.mono ?_
  rintro e w3 ⟨hor, hb⟩
  have hB3 := Lib.hid (hB2.out.trans (hb.mono hB2.out.size)); have hr3 := Lib.hid (hr2.out.below hb)
  clear hb hB2 hr2 ka2
  rcases hor with ⟨n, hno, rfl⟩ | ⟨z, N, hno, rfl⟩
  rotate_left
  · have hrr := hp0.out hno
    clear hp0 hp1 hp2
    have hB4 : Hid (Below w.heap.size w (w3.alloc (.cells #[.string c, .int .i64 z] 35))) := hB3.out.alloc hB3.out.size _
    have hr4 := Lib.hid (hr3.out.alloc (.cells #[.string c, .int .i64 z] 35))
    have ha4 : Hid (Bk (w3.alloc (.cells #[.string c, .int .i64 z] 35)) w3.heap.size 35 [.string c, .int .i64 z]) := Bk.new _ _ _
    have kt4 := Lib.hid (kt.out z (w3.alloc (.cells #[.string c, .int .i64 z] 35)) (hE.out.1.below hB4.out)); clear kt
    obtain ⟨tx, htx⟩ : ∃ x, x = textR c z := ⟨_, rfl⟩
    rw [← htx] at kt4
    obtain ⟨bk, er⟩ := tx
    replace kt4 : Hid (Calls Tryz.prog 38 #[.agg #[.string c, .int .i64 z]] (w3.alloc (.cells #[.string c, .int .i64 z] 35)) fun e w' => e = .returned (.tuple #[.string bk, .int .i64 er]) ∧ Below ((w3.alloc (.cells #[.string c, .int .i64 z] 35))).heap.size (w3.alloc (.cells #[.string c, .int .i64 z] 35)) w') := kt4
    clear hB3 hr3
    replace htx := Lib.hid htx
    go_wp2_with fail
    refine kt4.out.mono ?_
    rintro e w5 ⟨rfl, hb⟩
    have hB5 := Lib.hid (hB4.out.trans (hb.mono hB4.out.size)); have hr5 := Lib.hid (hr4.out.below hb); have ha5 := Lib.hid (ha4.out.below hb)
    clear hb hB4 hr4 ha4 kt4
    have r0 := hr5.out.cell (j := 0) rfl; have q0 := hr5.out.frozen 0
    have r1 := hr5.out.cell (j := 1) rfl; have q1 := hr5.out.frozen 1
    have r9 := hr5.out.lt
    have hB9 : Hid (Below w.heap.size w ((w5.setCell ⟨w.heap.size, 0, none⟩ (.string ⟨#[]⟩)).setCell ⟨w.heap.size, 1, none⟩ (.int .i64 0))) := (hB5.out.setCell (p := ⟨w.heap.size, 0, none⟩) (Nat.le_refl _) _).setCell (p := ⟨w.heap.size, 1, none⟩) (Nat.le_refl _) _
    have hR9 : Hid (Bk ((w5.setCell ⟨w.heap.size, 0, none⟩ (.string ⟨#[]⟩)).setCell ⟨w.heap.size, 1, none⟩ (.int .i64 0)) w.heap.size 35 [.string ⟨#[]⟩, .int .i64 0]) := (Bk.set hr5.out 0 (.string ⟨#[]⟩)).set 1 (.int .i64 0)
    go_wp2
    (try simp only [Exit.inBlock, Exit.then])
    have s0 := hR9.out.cell (j := 0) rfl
    have s1 := hR9.out.cell (j := 1) rfl
    have s9 := hR9.out.lt
    refine bodyPost_ret (v := .tuple #[.agg #[.string ⟨#[]⟩, .int .i64 0], .int .i64 5]) (by simp [results, Tryz.results40, go_sem, s0, s1]) rfl ⟨by rw [hrr], hB9.out⟩
  · replace hp1 := Lib.hid (hp1.out n hno); replace hp2 := Lib.hid (hp2.out n hno)
    clear hp0
    have hB4 : Hid (Below w.heap.size w (w3.alloc (.cells #[.string c, .int .i64 n] 35))) := hB3.out.alloc hB3.out.size _
    have hr4 := Lib.hid (hr3.out.alloc (.cells #[.string c, .int .i64 n] 35))
    have ha4 : Hid (Bk (w3.alloc (.cells #[.string c, .int .i64 n] 35)) w3.heap.size 35 [.string c, .int .i64 n]) := Bk.new _ _ _
    have kt4 := Lib.hid (kt.out n (w3.alloc (.cells #[.string c, .int .i64 n] 35)) (hE.out.1.below hB4.out)); clear kt
    obtain ⟨tx, htx⟩ : ∃ x, x = textR c n := ⟨_, rfl⟩
    rw [← htx] at kt4
    obtain ⟨bk, er⟩ := tx
    replace kt4 : Hid (Calls Tryz.prog 38 #[.agg #[.string c, .int .i64 n]] (w3.alloc (.cells #[.string c, .int .i64 n] 35)) fun e w' => e = .returned (.tuple #[.string bk, .int .i64 er]) ∧ Below ((w3.alloc (.cells #[.string c, .int .i64 n] 35))).heap.size (w3.alloc (.cells #[.string c, .int .i64 n] 35)) w') := kt4
    clear hB3 hr3
    replace htx := Lib.hid htx
    go_wp2_with fail
    refine kt4.out.mono ?_
    rintro e w5 ⟨rfl, hb⟩
    have hB5 := Lib.hid (hB4.out.trans (hb.mono hB4.out.size)); have hr5 := Lib.hid (hr4.out.below hb); have ha5 := Lib.hid (ha4.out.below hb)
    clear hb hB4 hr4 ha4 kt4
    have r0 := hr5.out.cell (j := 0) rfl; have q0 := hr5.out.frozen 0
    have r1 := hr5.out.cell (j := 1) rfl; have q1 := hr5.out.frozen 1
    have r9 := hr5.out.lt
    rw [← htx.out] at hp1 hp2
    clear htx
    by_cases he : er = 0
    rotate_left
    · have hrr := hp2.out fun h => he h.1
      have m1 : (er != 0) = true := by rw [bne_iff_ne]; exact he
      replace he := Lib.hid he
      have hB9 : Hid (Below w.heap.size w ((w5.setCell ⟨w.heap.size, 0, none⟩ (.string ⟨#[]⟩)).setCell ⟨w.heap.size, 1, none⟩ (.int .i64 0))) := (hB5.out.setCell (p := ⟨w.heap.size, 0, none⟩) (Nat.le_refl _) _).setCell (p := ⟨w.heap.size, 1, none⟩) (Nat.le_refl _) _
      have hR9 : Hid (Bk ((w5.setCell ⟨w.heap.size, 0, none⟩ (.string ⟨#[]⟩)).setCell ⟨w.heap.size, 1, none⟩ (.int .i64 0)) w.heap.size 35 [.string ⟨#[]⟩, .int .i64 0]) := (Bk.set hr5.out 0 (.string ⟨#[]⟩)).set 1 (.int .i64 0)
      go_wp2
      (try simp only [Exit.inBlock, Exit.then])
      have s0 := hR9.out.cell (j := 0) rfl
      have s1 := hR9.out.cell (j := 1) rfl
      have s9 := hR9.out.lt
      refine bodyPost_ret (v := .tuple #[.agg #[.string ⟨#[]⟩, .int .i64 0], .int .i64 5]) (by simp [results, Tryz.results40, go_sem, s0, s1]) rfl ⟨by rw [hrr], hB9.out⟩
    · obtain rfl := he.symm
      have hE2 := @toList_eq bk t
      by_cases hbt : bk = t
      rotate_left
      · have hrr := hp2.out fun h => hbt h.2
        rw [decide_eq_false hbt] at hE2
        have m2 : (bk.toList != t.toList) = true := by rw [bne, hE2]; rfl
        replace hbt := Lib.hid hbt
        have hB9 : Hid (Below w.heap.size w ((w5.setCell ⟨w.heap.size, 0, none⟩ (.string ⟨#[]⟩)).setCell ⟨w.heap.size, 1, none⟩ (.int .i64 0))) := (hB5.out.setCell (p := ⟨w.heap.size, 0, none⟩) (Nat.le_refl _) _).setCell (p := ⟨w.heap.size, 1, none⟩) (Nat.le_refl _) _
        have hR9 : Hid (Bk ((w5.setCell ⟨w.heap.size, 0, none⟩ (.string ⟨#[]⟩)).setCell ⟨w.heap.size, 1, none⟩ (.int .i64 0)) w.heap.size 35 [.string ⟨#[]⟩, .int .i64 0]) := (Bk.set hr5.out 0 (.string ⟨#[]⟩)).set 1 (.int .i64 0)
        go_wp2
        (try simp only [Exit.inBlock, Exit.then])
        have s0 := hR9.out.cell (j := 0) rfl
        have s1 := hR9.out.cell (j := 1) rfl
        have s9 := hR9.out.lt
        refine bodyPost_ret (v := .tuple #[.agg #[.string ⟨#[]⟩, .int .i64 0], .int .i64 5]) (by simp [results, Tryz.results40, go_sem, s0, s1]) rfl ⟨by rw [hrr], hB9.out⟩
      · have hrr := hp1.out rfl hbt
        rw [decide_eq_true hbt] at hE2
        have m2 : (bk.toList != t.toList) = false := by rw [bne, hE2]; rfl
        replace hbt := Lib.hid hbt
        have a0 := ha5.out.cell (j := 0) rfl; have a1 := ha5.out.cell (j := 1) rfl; have a9 := ha5.out.lt
        have hB9 : Hid (Below w.heap.size w ((w5.setCell ⟨w.heap.size, 0, none⟩ (.string c)).setCell ⟨w.heap.size, 1, none⟩ (.int .i64 n))) := (hB5.out.setCell (p := ⟨w.heap.size, 0, none⟩) (Nat.le_refl _) _).setCell (p := ⟨w.heap.size, 1, none⟩) (Nat.le_refl _) _
        have hR9 : Hid (Bk ((w5.setCell ⟨w.heap.size, 0, none⟩ (.string c)).setCell ⟨w.heap.size, 1, none⟩ (.int .i64 n)) w.heap.size 35 [.string c, .int .i64 n]) := (Bk.set hr5.out 0 (.string c)).set 1 (.int .i64 n)
        go_wp2
        (try simp only [Exit.inBlock, Exit.then])
        have s0 := hR9.out.cell (j := 0) rfl
        have s1 := hR9.out.cell (j := 1) rfl
        have s9 := hR9.out.lt
        refine bodyPost_ret (v := .tuple #[.agg #[.string c, .int .i64 n], .int .i64 0]) (by simp [results, Tryz.results40, go_sem, s0, s1]) rfl ⟨by rw [hrr], hB9.out⟩
end Mo
end Go.Proofs.YtpmlhgmmobpilaaGreatDoor

namespace Go.Proofs.YtpmlhgmmobpilaaGreatDoor
namespace Co
open Ci
/-- How many 6000ths of the votes in p the parties of a set have; a link: company, holder, part. -/
def vs (V : List (Nat × Nat × Nat)) (S : Nat → Bool) (p : Nat) : Nat := (V.map fun x => if x.1 = p ∧ S x.2.1 = true then x.2.2 else 0).sum
def maj (V : List (Nat × Nat × Nat)) (S : Nat → Bool) (p : Nat) : Bool := decide (3000 < vs V S p)
/-- Those that are controlled up to a round. -/
def inR (V : List (Nat × Nat × Nat)) (F : List Nat) : Nat → Nat → Bool
  | 0, p => decide (p ∈ F)
  | k + 1, p => inR V F k p || maj V (inR V F k) p
section
variable {V : List (Nat × Nat × Nat)} {F F' : List Nat} {S T : Nat → Bool} {n p q k j : Nat}
def IsRd (V : List (Nat × Nat × Nat)) (F : List Nat) (p : Nat) (r : Int) : Prop :=
  (r = -1 ∧ ∀ k, inR V F k p = false) ∨ ∃ k : Nat, r = (k : Int) ∧ inR V F k p = true ∧ ∀ j, j < k → inR V F j p = false
theorem isRd_ex (V : List (Nat × Nat × Nat)) (F : List Nat) (p : Nat) : ∃ r, IsRd V F p r := by
  by_cases h : ∃ k, inR V F k p = true
  · obtain ⟨k, hk⟩ := h
    obtain ⟨j, _, h1, h2⟩ := least_ex (P := fun k => inR V F k p = true) k hk
    exact ⟨j, .inr ⟨j, rfl, h1, fun i hi => by simpa using h2 i hi⟩⟩
  · exact ⟨-1, .inl ⟨rfl, fun k => by
      cases hc : inR V F k p
      · rfl
      · exact absurd ⟨k, hc⟩ h⟩⟩
/-- The round in which a party is controlled; -1 if it never is. -/
noncomputable def rd (V : List (Nat × Nat × Nat)) (F : List Nat) (p : Nat) : Int := Classical.choose (isRd_ex V F p)
end
end Co
end Go.Proofs.YtpmlhgmmobpilaaGreatDoor
namespace Go.Proofs.YtpmlhgmmobpilaaGreatDoor
open Go.RowKit Go.Shelf
namespace Co
open Nt Ci
/-- The links of a company, in their order. -/
def row (l : List Lk) (p : Nat) : List Lk := l.filter fun x => decide (x.1 = (p : Int))
end Co
end Go.Proofs.YtpmlhgmmobpilaaGreatDoor
namespace Go.Proofs.YtpmlhgmmobpilaaGreatDoor
open Go.RowKit Go.Shelf
namespace Co
open Nt Ci
section
variable {V : List (Nat × Nat × Nat)} {L : List Nat} {n p q k j m : Nat}
/-- What is known behind round k. -/
noncomputable def cut (V : List (Nat × Nat × Nat)) (L : List Nat) (k p : Nat) : Int := if inR V L k p = true then rd V L p else -1
/-- Who comes up in round k + 1, among the first m. -/
noncomputable def nx (V : List (Nat × Nat × Nat)) (L : List Nat) (k m : Nat) : List Nat := (List.range m).filter fun q => decide (rd V L q = ((k + 1 : Nat) : Int))
end
end Co
end Go.Proofs.YtpmlhgmmobpilaaGreatDoor
namespace Go.Proofs.YtpmlhgmmobpilaaGreatDoor
open Go.RowKit Go.Shelf
namespace Ci
/-- Block R has the headers of n slices of links. -/
structure Gv (W : World) (B R n : Nat) (v : Nat → Value) (rw_ : Nat → List Lk) : Prop where
  lt : R < W.heap.size
  hd : ∀ i, i < n → W.cell? ⟨R, i, none⟩ = some (v i)
  fr : ∀ i, W.frozen? ⟨R, i, none⟩ = false
  rows : ∀ i, i < n → W.ownsRow B 94 5 (v i) (rw_ i).length (lksL (rw_ i))
  apart : ∀ i j, i < n → j < n → i ≠ j → OffB (v i) (v j)
  ne : ∀ i, i < n → (v i).ownBlock ≠ some R
  lowR : B ≤ R
section
variable {W W' : World} {B R n i : Nat} {v : Nat → Value} {rw_ : Nat → List Lk}
theorem Gv.below (h : Gv W B R n v rw_) (hb : Below W.heap.size W W') : Gv W' B R n v rw_ :=
  ⟨Nat.lt_of_lt_of_le h.lt hb.size, fun i hi => (hb.cell (p := ⟨R, i, none⟩) h.lt).trans (h.hd i hi), fun i => (hb.frozen (p := ⟨R, i, none⟩) h.lt).trans (h.fr i), fun i hi => own_below' (h.rows i hi) hb, h.apart, h.ne, h.lowR⟩
theorem Gv.alloc (h : Gv W B R n v rw_) (o : Obj) : Gv (W.alloc o) B R n v rw_ := h.below ((Below.refl _ W).alloc (Nat.le_refl _) o)
theorem Gv.drew (h : Gv W B R n v rw_) : Gv W.drew B R n v rw_ := h.below (Below.refl _ W).drew
theorem Gv.mono {B' : Nat} (h : Gv W B R n v rw_) (hb : B' ≤ B) : Gv W B' R n v rw_ :=
  ⟨h.lt, h.hd, h.fr, fun i hi => by
    obtain ⟨h1, h2⟩ := h.rows i hi
    refine ⟨h1, ?_⟩
    rcases h2 with h2 | ⟨g, cap, cur, hv, hg, hh⟩
    · exact .inl h2
    · exact .inr ⟨g, cap, cur, hv, Nat.le_trans hb hg, hh⟩, h.apart, h.ne, Nat.le_trans hb h.lowR⟩
theorem Gv.start (w : World) {B : Nat} (hB : B ≤ w.heap.size) (n : Nat) (t : TypeId) : Gv (w.alloc (.cells (madeCells #[.slice none 0 0] n) t)) B w.heap.size n (fun _ => .slice none 0 0) fun _ => [] := by
  have h := heap_alloc_new w (.cells (madeCells #[(.slice none 0 0 : Value)] n) t)
  refine ⟨by simp, fun x hx => ?_, fun x => by simp only [World.frozen?, h]; simp, fun _ _ => World.ownsRow_nil _ _ _ _, fun _ _ _ _ _ b hb => (by cases hb), fun _ _ hb => (by cases hb), hB⟩
  simp only [World.cell?, h]
  simp [madeCells, hx]
  rw [Nat.mod_one]
  rfl
def setK (rw_ : Nat → List Lk) (x : Nat) (q : Lk) : Nat → List Lk := fun i => if i = x then rw_ i ++ [q] else rw_ i
/-- A row has grown, and its header is stored anew. -/
theorem Gv.step (h : Gv W B R n v rw_) {x : Nat} {q : Lk} (hx : x < n) {u : Value} (hg : W.grownBy W' (v x).ownBlock) (ho : W'.ownsRow B 94 5 u ((rw_ x).length + 1) (lksL (rw_ x) ++ lkL q)) (hn : u.ownBlock = (v x).ownBlock ∨ u.ownBlock = some W.heap.size) :
    Gv (W'.setCell ⟨R, x, none⟩ u) B R n (fun i => if i = x then u else v i) (setK rw_ x q) := by
  have hRx : some R ≠ (v x).ownBlock := fun e => h.ne x hx e.symm
  have hbR : W'.heap[R]? = W.heap[R]? := hg.block R h.lt hRx
  have hcell : ∀ i, W'.cell? ⟨R, i, none⟩ = W.cell? ⟨R, i, none⟩ := fun i => World.cell?_of_block (a := ⟨R, i, none⟩) hbR
  have hfr : ∀ i, W'.frozen? ⟨R, i, none⟩ = W.frozen? ⟨R, i, none⟩ := fun i => World.frozen?_of_block (a := ⟨R, i, none⟩) hbR
  have huR : u.ownBlock ≠ some R := fun e => by
    rcases hn with hn | hn
    · exact h.ne x hx (by rw [← hn, e])
    · rw [e] at hn
      have := h.lt
      simp only [Option.some.injEq] at hn
      omega
  have hne : ∀ a b : Nat, a ≠ b → (⟨R, a, none⟩ : Addr) ≠ ⟨R, b, none⟩ := fun a b e1 e2 => by injection e2 with _ e3; exact e1 e3
  have far : ∀ {m : Nat} {z : Value} {xs : List Value}, W'.ownsRow B 94 5 z m xs → z.ownBlock ≠ some R → (W'.setCell ⟨R, x, none⟩ u).ownsRow B 94 5 z m xs := fun h hz =>
    h.kept (row := some R) ⟨rfl, rfl, rfl, by simp, fun k _ hk => Below.heap_setCell _ _ _ _ (fun e => hk (by rw [e]))⟩ (.inr hz)
  have hoff : ∀ i, i < n → i ≠ x → OffB (v i) u := fun i hi hix b hb e => by
    rcases hn with hn | hn
    · exact h.apart i x hi hx hix b hb (by rw [← hn, e])
    · have := ((h.rows i hi).lt b hb).2
      rw [e] at hn
      simp only [Option.some.injEq] at hn
      omega
  refine ⟨by have := hg.size; have := h.lt; simp; omega, fun i hi => ?_, fun i => by simpa [hfr] using h.fr i, fun i hi => ?_, fun i j hi hj e => ?_, fun i hi => ?_, h.lowR⟩
  · by_cases e : i = x
    · subst e
      rw [if_pos rfl]
      exact World.cell?_setCell_same _ _ _ ((hcell i).trans (h.hd i hi))
    · rw [if_neg e, World.cell?_setCell_other _ _ _ _ (by first | exact hne _ _ e | exact hne _ _ fun c => e c.symm), hcell]
      exact h.hd i hi
  · by_cases e : i = x
    · subst e
      rw [if_pos rfl]
      have : setK rw_ i q i = rw_ i ++ [q] := if_pos rfl
      rw [this, List.length_append, lksL_snoc]
      exact far ho huR
    · rw [if_neg e]
      have : setK rw_ x q i = rw_ i := if_neg e
      rw [this]
      refine far ((h.rows i hi).kept hg ?_) (h.ne i hi)
      cases hv : (v i).ownBlock with
      | none => exact .inl rfl
      | some b => exact .inr fun c => h.apart i x hi hx e b hv c.symm
  · by_cases e1 : i = x
    · have e2 : j ≠ x := fun c => e (by rw [e1, c])
      rw [if_pos e1, if_neg e2]
      exact fun b hb hc => hoff j hj e2 b hc hb
    · rw [if_neg e1]
      by_cases e2 : j = x
      · rw [if_pos e2]
        exact hoff i hi e1
      · rw [if_neg e2]
        exact h.apart i j hi hj e
  · by_cases e : i = x
    · rw [if_pos e]; exact huR
    · rw [if_neg e]; exact h.ne i hi
theorem Gv.of_block (h : Gv W B R n v rw_) (hs : W.heap.size ≤ W'.heap.size) (hR : W'.heap[R]? = W.heap[R]?) (hv : ∀ i b, i < n → (v i).ownBlock = some b → W'.heap[b]? = W.heap[b]?) : Gv W' B R n v rw_ :=
  ⟨Nat.lt_of_lt_of_le h.lt hs, fun i hi => (World.cell?_of_block (a := ⟨R, i, none⟩) hR).trans (h.hd i hi), fun i => (World.frozen?_of_block (a := ⟨R, i, none⟩) hR).trans (h.fr i), fun i hi => by
    obtain ⟨h1, h2⟩ := h.rows i hi
    refine ⟨h1, ?_⟩
    rcases h2 with h2 | ⟨g, cap, cur, hv2, hg, hh, rest⟩
    · exact .inl h2
    · exact .inr ⟨g, cap, cur, hv2, hg, (hv i g hi (by rw [hv2]; rfl)).trans hh, rest⟩, h.apart, h.ne, h.lowR⟩
theorem Gv.kp {xs : List Nat} (h : Gv W B R n v rw_) (hk : Kp xs W W') (hR : R ∉ xs) (hv : ∀ i b, i < n → (v i).ownBlock = some b → b ∉ xs) : Gv W' B R n v rw_ :=
  h.of_block hk.size (hk.block R h.lt hR) fun i b hi e => hk.block b ((h.rows i hi).lt b e).2 (hv i b hi e)
theorem Gv.congr {a' : Nat → List Lk} (h : Gv W B R n v rw_) (e : ∀ i, i < n → rw_ i = a' i) : Gv W B R n v a' :=
  ⟨h.lt, h.hd, h.fr, fun i hi => by rw [← e i hi]; exact h.rows i hi, h.apart, h.ne, h.lowR⟩
end
end Ci
end Go.Proofs.YtpmlhgmmobpilaaGreatDoor
namespace Go.Proofs.YtpmlhgmmobpilaaGreatDoor
open Go.RowKit Go.Shelf
namespace Co
open Nt Ci
/-- A search: the votes of each company, and the rounds. -/
structure SeIn (w : World) (xb R b B n : Nat) (v : Nat → Value) (rows : Nat → List Lk) (o : Nat → Int) : Prop where
  x : Bk w xb 104 [.slice (some ⟨R, 0, none⟩) n n, .slice (some ⟨b, 0, none⟩) n n]
  g : Gv w B R n v rows
  r : RoI w b n o
  nx : xb ≠ b
  nxR : xb ≠ R
  nR : R ≠ b
  nv : ∀ i, i < n → (v i).ownBlock ≠ some b
  lb : B ≤ b
section
variable {w w' : World} {xb R b B n : Nat} {v : Nat → Value} {rows : Nat → List Lk} {o : Nat → Int}
theorem SeIn.below (h : SeIn w xb R b B n v rows o) (hb : Below w.heap.size w w') : SeIn w' xb R b B n v rows o :=
  ⟨h.x.below hb, h.g.below hb, h.r.below hb, h.nx, h.nxR, h.nR, h.nv, h.lb⟩
/-- A round is stored. -/
theorem SeIn.set (h : SeIn w xb R b B n v rows o) {p : Nat} (hp : p < n) (k : Int) : SeIn (w.setCell ⟨b, p, none⟩ (.int .i64 k)) xb R b B n v rows (setI o p k) := by
  have hg : w.grownBy (w.setCell ⟨b, p, none⟩ (.int .i64 k)) (some b) := grown_set w ⟨b, p, none⟩ _
  refine ⟨h.x.far h.nx _, ?_, h.r.set hp k, h.nx, h.nxR, h.nR, h.nv, h.lb⟩
  exact h.g.of_block (by simp) (Below.heap_setCell _ _ _ _ h.nR) fun i b' hi e => Below.heap_setCell _ _ _ _ fun c => h.nv i hi (by rw [e, c])
theorem SeIn.congr {o' : Nat → Int} (h : SeIn w xb R b B n v rows o) (e : ∀ x, x < n → o x = o' x) : SeIn w xb R b B n v rows o' := ⟨h.x, h.g, h.r.congr e, h.nx, h.nxR, h.nR, h.nv, h.lb⟩
end
end Co
end Go.Proofs.YtpmlhgmmobpilaaGreatDoor
namespace Go.Proofs.YtpmlhgmmobpilaaGreatDoor
open Go.RowKit Go.Shelf
namespace Co
open Nt Ci
/-- Block sb holds a rational number. -/
def QB (W : World) (sb : Nat) (q : Rat) : Prop := ∃ g n d, (.agg #[.bool g, .string n, .string d] : Value) = qv q ∧ Bk W sb 23 [.bool g, .string n, .string d]
theorem QB.below {W W' : World} {sb : Nat} {q : Rat} (h : QB W sb q) (hb : Below W.heap.size W W') : QB W' sb q := by
  obtain ⟨g, n, d, e, h⟩ := h
  exact ⟨g, n, d, e, h.below hb⟩
end Co
end Go.Proofs.YtpmlhgmmobpilaaGreatDoor
namespace Go.Proofs.YtpmlhgmmobpilaaGreatDoor
open Go.RowKit Go.Shelf
namespace Co
open Nt Ci
def isReg (k : Nat) : Code → Bool
  | .region a _ _ => a == k
  | _ => false
end Co
end Go.Proofs.YtpmlhgmmobpilaaGreatDoor
namespace Go.Proofs.YtpmlhgmmobpilaaGreatDoor
open Go.RowKit Go.Shelf
namespace Co
open Nt Ci
/-- A search over the votes of a structure, laid by the call. -/
def Se (s : SR) (base : Nat) (w : World) (xb b : Nat) (o : Nat → Int) : Prop :=
  ∃ R B v, base ≤ B ∧ base ≤ xb ∧ SeIn w xb R b B s.ps.length v (row s.vot) o
theorem Se.below {s : SR} {base xb b : Nat} {o : Nat → Int} {w w' : World} (h : Se s base w xb b o) (hb : Below w.heap.size w w') : Se s base w' xb b o := by
  obtain ⟨R, B, v, h1, h2, h3⟩ := h
  exact ⟨R, B, v, h1, h2, h3.below hb⟩
end Co
end Go.Proofs.YtpmlhgmmobpilaaGreatDoor
namespace Go.Proofs.YtpmlhgmmobpilaaGreatDoor
open Go.RowKit Go.Shelf
namespace Co
open Nt Ci
end Co
end Go.Proofs.YtpmlhgmmobpilaaGreatDoor
namespace Go.Proofs.YtpmlhgmmobpilaaGreatDoor
open Go.RowKit Go.Shelf
namespace Co
open Nt Ci
end Co
end Go.Proofs.YtpmlhgmmobpilaaGreatDoor
namespace Go.Proofs.YtpmlhgmmobpilaaGreatDoor
open Go.RowKit Go.Shelf
namespace Co
open Nt Ci
end Co
end Go.Proofs.YtpmlhgmmobpilaaGreatDoor

namespace Go.Proofs.YtpmlhgmmobpilaaGreatDoor
open Go.Sort
namespace St
section
variable {α : Type} [Inhabited α]
/-- Of d' it is said that d's parts [l, m) and [m, r) have changed places. -/
def IsRot (d : Array α) (l m r : Nat) (d' : Array α) : Prop :=
  d'.size = d.size ∧ ∀ k, d'[k]! = if l ≤ k ∧ k < l + (r - m) then d[k + (m - l)]! else if l + (r - m) ≤ k ∧ k < r then d[k - (r - m)]! else d[k]!
def swapRange (d : Array α) (a b : Nat) : Nat → Array α
  | 0 => d
  | n + 1 => swp (swapRange d a b n) (a + n) (b + n)
theorem swapRange_size (d : Array α) (a b n : Nat) : (swapRange d a b n).size = d.size := by
  induction n with
  | zero => rfl
  | succ n ih => unfold swapRange; rw [swp_size, ih]
theorem swapRange_get (d : Array α) (a b : Nat) : ∀ n, a + n ≤ b → b + n ≤ d.size → ∀ k, (swapRange d a b n)[k]! = if a ≤ k ∧ k < a + n then d[b + (k - a)]! else if b ≤ k ∧ k < b + n then d[a + (k - b)]! else d[k]! := by
  intro n
  induction n with
  | zero =>
    intro _ _ k
    rw [if_neg (by omega), if_neg (by omega)]
    rfl
  | succ n ih =>
    intro h1 h2 k
    have hs := swapRange_size d a b n
    have ih' := ih (by omega) (by omega)
    unfold swapRange
    rw [swp_get _ (by omega) (by omega)]
    by_cases e2 : k = b + n
    · subst e2
      have h3 := ih' (a + n)
      rw [if_neg (by omega), if_neg (by omega)] at h3
      rw [if_pos rfl, if_neg (by omega : ¬ (a ≤ b + n ∧ b + n < a + (n + 1))), if_pos (by omega : b ≤ b + n ∧ b + n < b + (n + 1)), h3]
      congr 1
      omega
    · rw [if_neg e2]
      by_cases e1 : k = a + n
      · subst e1
        have h3 := ih' (b + n)
        rw [if_neg (by omega), if_neg (by omega)] at h3
        rw [if_pos rfl, if_pos (by omega : a ≤ a + n ∧ a + n < a + (n + 1)), h3]
        congr 1
        omega
      · rw [if_neg e1, ih' k]
        by_cases c1 : a ≤ k ∧ k < a + n
        · rw [if_pos c1, if_pos (by omega)]
        · rw [if_neg c1]
          by_cases c2 : b ≤ k ∧ k < b + n
          · rw [if_pos c2, if_neg (by omega), if_pos (by omega)]
          · rw [if_neg c2, if_neg (by omega), if_neg (by omega)]
/-- The exchange of two neighbouring parts, i and j long, that meet at m. -/
def rot (d : Array α) (m i j : Nat) : Array α :=
  if i = 0 ∨ j = 0 then d
  else if i = j then swapRange d (m - i) m i
  else if j < i then rot (swapRange d (m - i) m j) m (i - j) j
  else rot (swapRange d (m - i) (m + j - i) i) m i (j - i)
termination_by i + j
decreasing_by
  · omega
  · omega
theorem rot_is : ∀ (n : Nat) (d : Array α) (m i j : Nat), i + j ≤ n → 0 < i → 0 < j → i ≤ m → m + j ≤ d.size → IsRot d (m - i) m (m + j) (rot d m i j) := by
  intro n
  induction n with
  | zero => intro d m i j h; omega
  | succ n ih =>
    intro d m i j hn hi hj him hmj
    unfold rot
    rw [if_neg (by omega)]
    by_cases e : i = j
    · subst e
      rw [if_pos rfl]
      refine ⟨swapRange_size _ _ _ _, fun k => ?_⟩
      rw [swapRange_get d (m - i) m i (by omega) hmj]
      by_cases c1 : m - i ≤ k ∧ k < m - i + i
      · rw [if_pos c1, if_pos (by omega)]
        congr 1
        omega
      · rw [if_neg c1]
        by_cases c2 : m ≤ k ∧ k < m + i
        · rw [if_pos c2, if_neg (by omega), if_pos (by omega)]
          congr 1
          omega
        · rw [if_neg c2, if_neg (by omega), if_neg (by omega)]
    · rw [if_neg e]
      by_cases c : j < i
      · rw [if_pos c]
        have hs := swapRange_size d (m - i) m j
        have hg := swapRange_get d (m - i) m j (by omega) hmj
        obtain ⟨h1, h2⟩ := ih (swapRange d (m - i) m j) m (i - j) j (by omega) (by omega) hj (by omega) (by omega)
        refine ⟨h1.trans hs, fun k => ?_⟩
        rw [h2 k]
        by_cases c1 : m - i ≤ k ∧ k < m - i + (m + j - m)
        · rw [if_neg (by omega), if_neg (by omega), if_pos c1, hg, if_pos (by omega)]
          congr 1
          omega
        · rw [if_neg c1]
          by_cases c2 : m - i + (m + j - m) ≤ k ∧ k < m + j
          · rw [if_pos c2]
            by_cases c3 : m - (i - j) ≤ k ∧ k < m - (i - j) + (m + j - m)
            · rw [if_pos c3, hg, if_neg (by omega), if_pos (by omega)]
              congr 1
              omega
            · rw [if_neg c3, if_pos (by omega), hg, if_neg (by omega), if_neg (by omega)]
          · rw [if_neg c2, if_neg (by omega), if_neg (by omega), hg, if_neg (by omega), if_neg (by omega)]
      · rw [if_neg c]
        have hs := swapRange_size d (m - i) (m + j - i) i
        have hg := swapRange_get d (m - i) (m + j - i) i (by omega) (by omega)
        obtain ⟨h1, h2⟩ := ih (swapRange d (m - i) (m + j - i) i) m i (j - i) (by omega) hi (by omega) him (by omega)
        refine ⟨h1.trans hs, fun k => ?_⟩
        rw [h2 k]
        by_cases c1 : m - i ≤ k ∧ k < m - i + (m + j - m)
        · rw [if_pos c1]
          by_cases c3 : m - i ≤ k ∧ k < m - i + (m + (j - i) - m)
          · rw [if_pos c3, hg, if_neg (by omega), if_neg (by omega)]
          · rw [if_neg c3, if_pos (by omega), hg, if_pos (by omega)]
            congr 1
            omega
        · rw [if_neg c1, if_neg (by omega), if_neg (by omega)]
          by_cases c2 : m - i + (m + j - m) ≤ k ∧ k < m + j
          · rw [if_pos c2, hg, if_neg (by omega), if_pos (by omega)]
            congr 1
            omega
          · rw [if_neg c2, hg, if_neg (by omega), if_neg (by omega)]
theorem get_list {d : Array α} {l r k : Nat} (hr : r ≤ d.size) (hk : k < r - l) : (d.extract l r).toList[k]? = some d[l + k]! := by
  rw [Array.toList_extract]
  simp only [List.extract_eq_take_drop, List.getElem?_take, List.getElem?_drop]
  rw [if_pos (by omega), Array.getElem?_toList, getElem!_def, Array.getElem?_eq_getElem (by omega)]
theorem IsRot.perm {d d' : Array α} {l m r : Nat} (h : IsRot d l m r d') (h1 : l ≤ m) (h2 : m ≤ r) (h3 : r ≤ d.size) : PermIn l r d d' := by
  obtain ⟨hs, hg⟩ := h
  refine ⟨hs, fun i hi => ?_, ?_⟩
  · rw [hg, if_neg (by omega), if_neg (by omega)]
  · have e1 : (d.extract l r).toList = (d.extract l m).toList ++ (d.extract m r).toList := by
      refine List.ext_getElem? fun k => ?_
      by_cases c : k < m - l
      · rw [get_list h3 (by omega), List.getElem?_append_left (by simp; omega), get_list (by omega) c]
      · by_cases c2 : k < r - l
        · rw [get_list h3 c2, List.getElem?_append_right (by simp; omega)]
          rw [show k - (d.extract l m).toList.length = k - (m - l) by simp; omega, get_list h3 (by omega)]
          congr 2
          omega
        · rw [List.getElem?_eq_none (by simp; omega), List.getElem?_eq_none (by simp; omega)]
    have e2 : (d'.extract l r).toList = (d.extract m r).toList ++ (d.extract l m).toList := by
      refine List.ext_getElem? fun k => ?_
      by_cases c : k < r - m
      · rw [get_list (by omega) (by omega), List.getElem?_append_left (by simp; omega), get_list h3 c, hg, if_pos (by omega)]
        congr 2
        omega
      · by_cases c2 : k < r - l
        · rw [get_list (by omega) c2, List.getElem?_append_right (by simp; omega)]
          rw [show k - (d.extract m r).toList.length = k - (r - m) by simp; omega, get_list (by omega) (by omega), hg, if_neg (by omega), if_pos (by omega)]
          congr 2
          omega
        · rw [List.getElem?_eq_none (by simp; omega), List.getElem?_eq_none (by simp; omega)]
    rw [e1, e2]
    exact List.perm_append_comm
def Srt (R : α → α → Prop) (a b : Nat) (d : Array α) : Prop := ∀ i j, a ≤ i → i < j → j < b → R d[i]! d[j]!
/-- The test that Go makes tells, of an element of the left part and one of the right, which comes first. -/
def Tells (lt : α → α → Bool) (R : α → α → Prop) (a m b : Nat) (d : Array α) : Prop := ∀ i j, a ≤ i → i < m → m ≤ j → j < b → (lt d[j]! d[i]! = true → R d[j]! d[i]!) ∧ (lt d[j]! d[i]! = false → R d[i]! d[j]!)
def Trn (R : α → α → Prop) : Prop := ∀ x y z, R x y → R y z → R x z
variable {lt : α → α → Bool} {R : α → α → Prop} {a m b : Nat} {d d' : Array α}
theorem Srt.le (h : Srt R a b d) (hT : Trn R) {i j k : Nat} (hi : a ≤ i) (hij : i ≤ j) (hj : j < b) (hk : R d[j]! d[k]!) : R d[i]! d[k]! := by
  by_cases e : i = j
  · rw [e]; exact hk
  · exact hT _ _ _ (h i j hi (by omega) hj) hk
theorem Srt.ge (h : Srt R a b d) (hT : Trn R) {i j k : Nat} (hi : a ≤ i) (hij : i ≤ j) (hj : j < b) (hk : R d[k]! d[i]!) : R d[k]! d[j]! := by
  by_cases e : i = j
  · rw [← e]; exact hk
  · exact hT _ _ _ hk (h i j hi (by omega) hj)
/-- Behind the exchange of [s, m) and [m, e) the two halves are apart, and each half has two ascending parts. -/
theorem merge_split (hT : Trn R) (h1 : Srt R a m d) (h2 : Srt R m b d) (hc : Tells lt R a m b d) {s e mid : Nat} (has : a ≤ s) (hsm : s ≤ m) (hme : m ≤ e) (heb : e ≤ b) (hmid : mid = s + (e - m))
    (hb1 : (s = a ∨ e = b) ∨ lt d[e]! d[s - 1]! = false) (hb2 : (e = m ∨ s = m) ∨ lt d[e - 1]! d[s]! = true) (hr : IsRot d s m e d') :
    (∀ x y, a ≤ x → x < mid → mid ≤ y → y < b → R d'[x]! d'[y]!) ∧ (Srt R a s d' ∧ Srt R s mid d' ∧ Tells lt R a s mid d') ∧ (Srt R mid e d' ∧ Srt R e b d' ∧ Tells lt R mid e b d') := by
  obtain ⟨_, hg⟩ := hr
  have g1 : ∀ x, x < s → d'[x]! = d[x]! := fun x hx => by rw [hg, if_neg (by omega), if_neg (by omega)]
  have g2 : ∀ x, s ≤ x → x < mid → d'[x]! = d[x + (m - s)]! := fun x h1 h2 => by rw [hg, if_pos (by omega)]
  have g3 : ∀ x, mid ≤ x → x < e → d'[x]! = d[x - (e - m)]! := fun x h1 h2 => by rw [hg, if_neg (by omega), if_pos (by omega)]
  have g4 : ∀ x, e ≤ x → d'[x]! = d[x]! := fun x hx => by rw [hg, if_neg (by omega), if_neg (by omega)]
  refine ⟨fun x y hx1 hx2 hy1 hy2 => ?_, ⟨fun i j hi hij hj => ?_, fun i j hi hij hj => ?_, fun i j hi him hmj hj => ?_⟩, fun i j hi hij hj => ?_, fun i j hi hij hj => ?_, fun i j hi him hmj hj => ?_⟩
  · by_cases cx : x < s
    · rw [g1 x cx]
      by_cases cy : y < e
      · rw [g3 y hy1 cy]
        exact h1 _ _ hx1 (by omega) (by omega)
      · rw [g4 y (by omega)]
        rcases hb1 with hb1 | hb1
        · omega
        · have k1 := (hc (s - 1) e (by omega) (by omega) (by omega) (by omega)).2 hb1
          exact h1.le hT hx1 (by omega : x ≤ s - 1) (by omega) (h2.ge hT (by omega) (by omega : e ≤ y) hy2 k1)
    · rw [g2 x (by omega) hx2]
      by_cases cy : y < e
      · rw [g3 y hy1 cy]
        rcases hb2 with hb2 | hb2
        · omega
        · have k1 := (hc s (e - 1) (by omega) (by omega) (by omega) (by omega)).1 hb2
          exact h2.le hT (by omega) (by omega : x + (m - s) ≤ e - 1) (by omega) (h1.ge hT (by omega) (by omega : s ≤ y - (e - m)) (by omega) k1)
      · rw [g4 y (by omega)]
        exact h2 _ _ (by omega) (by omega) hy2
  · rw [g1 i (by omega), g1 j hj]
    exact h1 i j hi hij (by omega)
  · rw [g2 i hi (by omega), g2 j (by omega) hj]
    exact h2 _ _ (by omega) (by omega) (by omega)
  · rw [g1 i him, g2 j hmj hj]
    exact hc _ _ hi (by omega) (by omega) (by omega)
  · rw [g3 i hi (by omega), g3 j (by omega) hj]
    exact h1 _ _ (by omega) (by omega) (by omega)
  · rw [g4 i hi, g4 j (by omega)]
    exact h2 i j (by omega) hij hj
  · rw [g3 i hi him, g4 j hmj]
    exact hc _ _ (by omega) (by omega) (by omega) hj
/-- Two ascending halves that are apart. -/
theorem srt_join {mid : Nat} (h1 : Srt R a mid d) (h2 : Srt R mid b d) (h3 : ∀ x y, a ≤ x → x < mid → mid ≤ y → y < b → R d[x]! d[y]!) : Srt R a b d := fun i j hi hij hj => by
  by_cases c1 : j < mid
  · exact h1 i j hi hij c1
  · by_cases c2 : i < mid
    · exact h3 i j hi c2 (by omega) hj
    · exact h2 i j (by omega) hij hj
/-- The one element of the left part goes to its place: i is the first of the right part behind which it belongs. -/
theorem merge_left (hT : Trn R) (h2 : Srt R (a + 1) b d) (hc : Tells lt R a (a + 1) b d) {i : Nat} (hi : a + 1 ≤ i) (hib : i ≤ b) (hb1 : i = a + 1 ∨ lt d[i - 1]! d[a]! = true) (hb2 : i = b ∨ lt d[i]! d[a]! = false) (hr : IsRot d a (a + 1) i d') : Srt R a b d' := by
  obtain ⟨hd, hs1, hs2⟩ := merge_split (lt := lt) (s := a) (e := i) (mid := a + (i - (a + 1))) hT (fun x y h1 h2 h3 => by omega) h2 hc (Nat.le_refl _) (by omega) hi hib rfl (.inl (.inl rfl)) (by
    rcases hb1 with hb1 | hb1
    · exact .inl (.inl hb1)
    · exact .inr hb1) hr
  refine srt_join hs1.2.1 ?_ hd
  refine srt_join (mid := i) hs2.1 hs2.2.1 fun x y hx1 hx2 hy1 hy2 => ?_
  have hx : x = i - 1 := by omega
  rcases hb2 with hb2 | hb2
  · omega
  · obtain ⟨_, hg⟩ := hr
    have k1 := (hc a i (Nat.le_refl _) (by omega) hi (by omega)).2 hb2
    have e1 : d'[x]! = d[a]! := by
      rw [hg, if_neg (by omega), if_pos (by omega)]
      congr 1
      omega
    have e2 : d'[y]! = d[y]! := by rw [hg, if_neg (by omega), if_neg (by omega)]
    rw [e1, e2]
    exact h2.ge hT (by omega) hy1 hy2 k1
/-- The one element of the right part goes to its place. -/
theorem merge_right (hT : Trn R) (h1 : Srt R a m d) (hc : Tells lt R a m (m + 1) d) {i : Nat} (hai : a ≤ i) (him : i ≤ m) (hb1 : i = a ∨ lt d[m]! d[i - 1]! = false) (hb2 : i = m ∨ lt d[m]! d[i]! = true) (hr : IsRot d i m (m + 1) d') : Srt R a (m + 1) d' := by
  obtain ⟨_, hg⟩ := hr
  have g1 : ∀ x, x < i → d'[x]! = d[x]! := fun x hx => by rw [hg, if_neg (by omega), if_neg (by omega)]
  have g2 : d'[i]! = d[m]! := by
    rw [hg, if_pos (by omega)]
    congr 1
    omega
  have g3 : ∀ x, i < x → x < m + 1 → d'[x]! = d[x - 1]! := fun x h1 h2 => by
    rw [hg, if_neg (by omega), if_pos (by omega)]
    congr 1
    omega
  intro x y hx hxy hy
  by_cases c1 : y < i
  · rw [g1 x (by omega), g1 y c1]
    exact h1 x y hx hxy (by omega)
  · by_cases c2 : y = i
    · rw [c2, g2, g1 x (by omega)]
      rcases hb1 with hb1 | hb1
      · omega
      · exact h1.le hT hx (by omega : x ≤ i - 1) (by omega) ((hc (i - 1) m (by omega) (by omega) (Nat.le_refl _) (by omega)).2 hb1)
    · rw [g3 y (by omega) hy]
      by_cases c3 : x < i
      · rw [g1 x c3]
        exact h1 x (y - 1) hx (by omega) (by omega)
      · by_cases c4 : x = i
        · rw [c4, g2]
          rcases hb2 with hb2 | hb2
          · omega
          · exact h1.ge hT (by omega) (by omega : i ≤ y - 1) (by omega) ((hc i m hai (by omega) (Nat.le_refl _) (by omega)).1 hb2)
        · rw [g3 x (by omega) (by omega)]
          exact h1 _ _ (by omega) (by omega) (by omega)
end
end St
end Go.Proofs.YtpmlhgmmobpilaaGreatDoor
namespace Go.Proofs.YtpmlhgmmobpilaaGreatDoor
open Go.Sort
namespace St
section
variable {α : Type} [Inhabited α] {lt lt' : α → α → Bool}
theorem swp_at {d : Array α} {j k : Nat} (hj : j + 1 < d.size) (hk : k < j) : (swp d (j + 1) j)[k]! = d[k]! := by
  rw [swp_get _ (by omega) (by omega), if_neg (by omega), if_neg (by omega)]
theorem swp_to {d : Array α} {j : Nat} (hj : j + 1 < d.size) : (swp d (j + 1) j)[j]! = d[j + 1]! := by
  rw [swp_get _ (by omega) (by omega), if_pos rfl]
theorem insInner_eq (a : Nat) : ∀ (j : Nat) (d : Array α), j < d.size → (∀ k, a ≤ k → k < j → lt d[j]! d[k]! = lt' d[j]! d[k]!) → insInner lt a j d = insInner lt' a j d := by
  intro j
  induction j with
  | zero => intro d _ _; rfl
  | succ j ih =>
    intro d hj h
    by_cases ha : j + 1 > a
    · have e := h j (by omega) (by omega)
      unfold insInner
      rw [e]
      by_cases c : lt' d[j + 1]! d[j]! = true
      · rw [c]
        simp only [ha, decide_true, Bool.and_self, if_true]
        refine ih _ (by rw [swp_size]; omega) fun k h1 h2 => ?_
        rw [swp_to hj, swp_at hj h2]
        exact h k h1 (by omega)
      · have c2 : lt' d[j + 1]! d[j]! = false := by simpa using c
        rw [c2]
        simp
    · unfold insInner
      simp [ha]
theorem insInner_perm (lt : α → α → Bool) (a b : Nat) : ∀ (j : Nat) (d : Array α), j < b → b ≤ d.size → PermIn a b d (insInner lt a j d) := by
  intro j
  induction j with
  | zero => intro d _ _; exact permIn_refl d a b
  | succ j ih =>
    intro d hj hb
    unfold insInner
    split
    · rename_i hc
      have ha : j + 1 > a := by
        simp only [Bool.and_eq_true, decide_eq_true_eq] at hc
        exact hc.1
      exact permIn_trans d _ _ a b (swp_permIn d a b (j + 1) j (by omega) hj (by omega) (by omega) hb) (ih _ (by omega) (by rw [swp_size]; exact hb))
    · exact permIn_refl d a b
theorem insInner_size (lt : α → α → Bool) (a : Nat) : ∀ (j : Nat) (d : Array α), (insInner lt a j d).size = d.size := by
  intro j
  induction j with
  | zero => intro d; rfl
  | succ j ih =>
    intro d
    unfold insInner
    split
    · rw [ih, swp_size]
    · rfl
theorem insOuter_size' (lt : α → α → Bool) (a b : Nat) : ∀ (n i : Nat) (d : Array α), b - i = n → (insOuter lt a b i d).size = d.size := by
  intro n
  induction n with
  | zero => intro i d hn; rw [insOuter_stop lt a b i d (by omega)]
  | succ n ih => intro i d hn; rw [insOuter_go lt a b i d (by omega), ih (i + 1) _ (by omega), insInner_size]
theorem insOuter_size (lt : α → α → Bool) (a b : Nat) (d : Array α) : (insertionSort lt d a b).size = d.size := insOuter_size' lt a b _ (a + 1) d rfl
theorem insOuter_eq (a b : Nat) : ∀ (n i : Nat) (d : Array α), b - i = n → a < i → b ≤ d.size → (∀ k j, a ≤ k → k < j → i ≤ j → j < b → lt d[j]! d[k]! = lt' d[j]! d[k]!) → insOuter lt a b i d = insOuter lt' a b i d := by
  intro n
  induction n with
  | zero =>
    intro i d hn _ _ _
    rw [insOuter_stop lt a b i d (by omega), insOuter_stop lt' a b i d (by omega)]
  | succ n ih =>
    intro i d hn hi hb h
    rw [insOuter_go lt a b i d (by omega), insOuter_go lt' a b i d (by omega), insInner_eq (lt := lt) (lt' := lt') a i d (by omega) fun k h1 h2 => h k i h1 h2 (Nat.le_refl _) (by omega)]
    have hp := insInner_perm lt' a (i + 1) i d (Nat.lt_succ_self _) (by omega)
    have hsz := hp.1
    refine ih (i + 1) _ (by omega) (by omega) (by rw [hsz]; exact hb) fun k j h1 h2 h3 h4 => ?_
    have e : (insInner lt' a i d)[j]! = d[j]! := hp.2.1 j (.inr h3)
    rw [e]
    by_cases c : k < i + 1
    · have hall := permIn_all d (insInner lt' a i d) a (i + 1) (fun x => lt d[j]! x = lt' d[j]! x) (by omega) hp fun k' h5 h6 => h k' j h5 (by omega) (by omega) h4
      exact hall k h1 c
    · rw [hp.2.1 k (.inr (by omega))]
      exact h k j h1 h2 (by omega) h4
theorem insertionSort_eq {a b : Nat} {d : Array α} (hb : b ≤ d.size) (h : ∀ k j, a ≤ k → k < j → j < b → lt d[j]! d[k]! = lt' d[j]! d[k]!) : insertionSort lt d a b = insertionSort lt' d a b :=
  insOuter_eq a b _ (a + 1) d rfl (Nat.lt_succ_self _) hb fun k j h1 h2 _ h4 => h k j h1 h2 h4
end
section
variable {α : Type}
def kLt (key : α → Int) (pos : α → Nat) (x y : α) : Bool := decide (key x < key y ∨ (key x = key y ∧ pos x < pos y))
theorem kLt_swo (key : α → Int) (pos : α → Nat) : SWO (kLt key pos) := by
  refine ⟨fun x => decide_eq_false (by omega), fun x y z h1 h2 => ?_, fun x y z h1 h2 => ?_⟩
  · have h1 := of_decide_eq_true h1
    have h2 := of_decide_eq_true h2
    exact decide_eq_true (by omega)
  · have h1 := of_decide_eq_false h1
    have h2 := of_decide_eq_false h2
    exact decide_eq_false (by omega)
end
end St
end Go.Proofs.YtpmlhgmmobpilaaGreatDoor
namespace Go.Proofs.YtpmlhgmmobpilaaGreatDoor
open Go.RowKit Go.Shelf Go.Sort
namespace St
open Nt Ci
section
variable {α : Type} [Inhabited α] {nm : α → Nat} {w w' w'' : World} {b : Nat} {d : Array α}
def en (nm : α → Nat) (x : α) : Value := .int .i64 (nm x : Int)
/-- Block b begins with the numbers of d. -/
structure Ro (nm : α → Nat) (w : World) (b : Nat) (d : Array α) : Prop where
  lt : b < w.heap.size
  cell : ∀ j, j < d.size → w.cell? ⟨b, j, none⟩ = some (.int .i64 (nm d[j]! : Int))
  fr : ∀ j, j < d.size → w.frozen? ⟨b, j, none⟩ = false
theorem Ro.of_block (h : Ro nm w b d) (hs : w.heap.size ≤ w'.heap.size) (hb : w'.heap[b]? = w.heap[b]?) : Ro nm w' b d :=
  ⟨Nat.lt_of_lt_of_le h.lt hs, fun j hj => (World.cell?_of_block (a := ⟨b, j, none⟩) hb).trans (h.cell j hj), fun j hj => (World.frozen?_of_block (a := ⟨b, j, none⟩) hb).trans (h.fr j hj)⟩
theorem Ro.below (h : Ro nm w b d) (hb : Below w.heap.size w w') : Ro nm w' b d := h.of_block hb.size (hb.block b h.lt)
theorem Ro.drewN (h : Ro nm w b d) (q : Nat) : Ro nm (w.drewN q) b d := h.below (blw_drewN (Below.refl _ w) q)
theorem Ro.swap (h : Ro nm w b d) {i j : Nat} (hi : i < d.size) (hj : j < d.size) {x y : Int} (hx : x = (nm d[j]! : Int)) (hy : y = (nm d[i]! : Int)) : Ro nm ((w.setCell ⟨b, i, none⟩ (.int .i64 x)).setCell ⟨b, j, none⟩ (.int .i64 y)) b (swp d i j) := by
  have hne : ∀ m n : Nat, m ≠ n → (⟨b, m, none⟩ : Addr) ≠ ⟨b, n, none⟩ := fun m n e1 e2 => by injection e2 with _ e3; exact e1 e3
  refine ⟨by simpa using h.lt, fun k hk => ?_, fun k hk => by simpa using h.fr k (by rwa [swp_size] at hk)⟩
  rw [swp_size] at hk
  rw [swp_get _ hi hj]
  by_cases e1 : k = j
  · subst e1
    have hc : ∃ u, (w.setCell ⟨b, i, none⟩ (.int .i64 x)).cell? ⟨b, k, none⟩ = some u := by
      by_cases e2 : k = i
      · subst e2; exact ⟨_, World.cell?_setCell_same _ _ _ (h.cell k hk)⟩
      · rw [World.cell?_setCell_other _ _ _ _ (by first | exact hne _ _ e2 | exact hne _ _ fun c => e2 c.symm)]
        exact ⟨_, h.cell k hk⟩
    obtain ⟨u, hc⟩ := hc
    rw [if_pos rfl, World.cell?_setCell_same _ _ _ hc, hy]
  · rw [if_neg e1, World.cell?_setCell_other _ _ _ _ (by first | exact hne _ _ e1 | exact hne _ _ fun c => e1 c.symm)]
    by_cases e2 : k = i
    · subst e2
      rw [if_pos rfl, World.cell?_setCell_same _ _ _ (h.cell k hk), hx]
    · rw [if_neg e2, World.cell?_setCell_other _ _ _ _ (by first | exact hne _ _ e2 | exact hne _ _ fun c => e2 c.symm)]
      exact h.cell k hk
theorem kp_swap (h : Kp [b] w w') (i j : Nat) (x y : Value) : Kp [b] w ((w'.setCell ⟨b, i, none⟩ x).setCell ⟨b, j, none⟩ y) := (h.set (a := ⟨b, i, none⟩) x (.inl (by simp))).set (a := ⟨b, j, none⟩) y (.inl (by simp))
theorem kp_trans {xs : List Nat} (h : Kp xs w w') (h2 : Kp xs w' w'') : Kp xs w w'' :=
  ⟨h2.os.trans h.os, h2.tape.trans h.tape, h2.output.trans h.output, Nat.le_trans h.size h2.size, fun k hk hx => (h2.block k (Nat.lt_of_lt_of_le hk h.size) hx).trans (h.block k hk hx)⟩
theorem kp_drewN {xs : List Nat} (h : Kp xs w w') (q : Nat) : Kp xs w (w'.drewN q) := h.below (blw_drewN (Below.refl _ _) q)
theorem kp_putRow {e : α → Value} (off : Nat) : Kp [b] w (putRow e w b off d) :=
  ⟨rfl, rfl, rfl, by simp [putRow, mapBlock], fun k _ hx => by
    have : b ≠ k := fun c => hx (by simp [c])
    simp [putRow, mapBlock, Array.getElem?_modify, this]⟩
theorem kp_grow {xs : List Nat} (os : Array Obj) (h : Kp xs w w') : Kp xs w (grow w' os) :=
  ⟨h.os, h.tape, h.output, by have := h.size; simp; omega, fun k hk hx => by
    have h1 : k < w'.heap.size := Nat.lt_of_lt_of_le hk h.size
    have h2 := h.block k hk hx
    rw [← h2]
    simp [grow, Array.getElem?_append, h1]⟩
theorem kp_ahead (xs : List Nat) (m : Nat) : Kp xs w (Sort.ahead w m) := ⟨rfl, rfl, rfl, Nat.le_refl _, fun _ _ _ => rfl⟩
theorem Ro.holds (h : Ro nm w b d) : Holds (en nm) w b 0 d := fun j hj => by
  rw [Nat.zero_add]
  exact ⟨h.cell j hj, h.fr j hj⟩
theorem Ro.of_holds (hl : b < w.heap.size) (h : Holds (en nm) w b 0 d) : Ro nm w b d := ⟨hl, fun j hj => by have := (h j hj).1; rwa [Nat.zero_add] at this, fun j hj => by have := (h j hj).2; rwa [Nat.zero_add] at this⟩
end
theorem en_one {α : Type} {nm : α → Nat} : OneCell (en nm) := fun _ => rfl
/-- What is asked of the comparison: in every world that differs in the row alone it says cf. -/
def CmpOn {α : Type} (P : Program) (g : Nat) (cb : Array Value) (nm : α → Nat) (cf : α → α → Int) (bl : Nat) (w0 : World) : Prop :=
  ∀ W, Kp [bl] w0 W → ∀ x y : α, Calls P g (#[.int .i64 (nm x : Int), .int .i64 (nm y : Int)] ++ cb) W fun e w' => e = .returned (.int .i64 (cf x y)) ∧ ∃ q, w' = W.drewN q
set_option maxRecDepth 100000 in
theorem ins_any {α : Type} [Inhabited α] (nm : α → Nat) (cf : α → α → Int) (g : Nat) (cb : Array Value) (eg : ∀ args w, (callFunc g args).run Tryz.prog w = .ok (.enter g args) w) (bl cap x y : Nat) (d : Array α) (w0 w : World) (hK : Kp [bl] w0 w) (HC : CmpOn Tryz.prog g cb nm cf bl w0) (hR : Ro nm w bl d) (hxy : x ≤ y) (hy : y ≤ d.size) (hs : d.size ≤ 1000) :
    Calls Tryz.prog 143 #[.slice (some ⟨bl, 0, none⟩) d.size cap, .int .i64 (x : Int), .int .i64 (y : Int), .func (.func g) #[] cb] w fun e w' => e = .returned (.tuple #[]) ∧ Ro nm w' bl (insertionSort (ltOf cf) d x y) ∧ Kp [bl] w w' := by
  have hcmp : CmpReads Tryz.prog g cb (en nm) cf bl 0 d.size w := fun m os dk _ p q => by
    have h1 : Kp [bl] w (sortWorld (en nm) w bl 0 m dk os) := kp_grow os (kp_trans (kp_ahead [bl] m) (kp_putRow 0))
    exact HC _ (kp_trans hK h1) p q
  refine (Any.insertionSortCmpFunc_one Tryz.insL (en nm) en_one cf g cb bl 0 cap x y d w eg hcmp hR.holds hxy hy (by omega)).mono ?_
  rintro e w' ⟨rfl, q, rfl⟩
  have hsz : (insertionSort (ltOf cf) d x y).size = d.size := insOuter_size _ _ _ _
  exact ⟨rfl, (Ro.of_holds (by have := hR.lt; simpa [putRow, mapBlock] using this) (holds_putRow _ _ _ _ _ _ hR.holds hsz)).drewN q, kp_drewN (kp_putRow 0) q⟩
set_option maxRecDepth 100000 in
set_option maxHeartbeats 4000000 in
theorem swapRange_any {α : Type} [Inhabited α] (nm : α → Nat) (bl cap x y n : Nat) (fv : Value) (d : Array α) (w : World) (hR : Ro nm w bl d) (hxy : x + n ≤ y) (hy : y + n ≤ d.size) (hs : d.size ≤ 1000) :
    Calls Tryz.prog 210 #[.slice (some ⟨bl, 0, none⟩) d.size cap, .int .i64 (x : Int), .int .i64 (y : Int), .int .i64 (n : Int), fv] w fun e w' => e = .returned (.tuple #[]) ∧ Ro nm w' bl (swapRange d x y n) ∧ Kp [bl] w w' := by
  replace hR := Lib.hid hR
  go_enter Tryz.func210, Tryz.ntmps210
  go_wp2
  go_loopw [10] (fun ix wr => ∃ (i : Nat), i ≤ n ∧ ix = .int .i64 (i : Int) ∧ Hid (Ro nm wr bl (swapRange d x y i)) ∧ Hid (Kp [bl] w wr)) (fun ix _ => n - (intOf ix).toNat)
  case atStart => exact ⟨0, Nat.zero_le _, rfl, hR, Kp.refl _ _⟩
  case round =>
    obtain ⟨i, hi, rfl, hO, hK⟩ := hrel
    have hsz : (swapRange d x y i).size = d.size := swapRange_size d x y i
    by_cases hlt : i < n
    · have c1 := hO.out.cell (x + i) (by omega)
      have c2 := hO.out.cell (y + i) (by omega)
      have f1 := hO.out.fr (x + i) (by omega)
      have f2 := hO.out.fr (y + i) (by omega)
      have l1 := hO.out.lt
      have hO9 : Hid (Ro nm ((wr.setCell ⟨bl, x + i, none⟩ (.int .i64 (nm (swapRange d x y i)[y + i]! : Int))).setCell ⟨bl, y + i, none⟩ (.int .i64 (nm (swapRange d x y i)[x + i]! : Int))).drew bl (swapRange d x y (i + 1))) := (hO.out.swap (by omega) (by omega) rfl rfl).below (Below.refl _ _).drew
      have hK9 := Lib.hid ((kp_swap hK.out (x + i) (y + i) (.int .i64 (nm (swapRange d x y i)[y + i]! : Int)) (.int .i64 (nm (swapRange d x y i)[x + i]! : Int))).drew)
      obtain ⟨p1, hp1⟩ : ∃ z, z = (nm (swapRange d x y i)[x + i]! : Int) := ⟨_, rfl⟩
      obtain ⟨p2, hp2⟩ : ∃ z, z = (nm (swapRange d x y i)[y + i]! : Int) := ⟨_, rfl⟩
      rw [← hp1] at c1 hO9 hK9
      rw [← hp2] at c2 hO9 hK9
      have j0 : (0 : Int) ≤ (x : Int) + (i : Int) := by omega
      have j1 : (x : Int) + (i : Int) < (d.size : Int) := by omega
      have j2 : (0 : Int) ≤ (y : Int) + (i : Int) := by omega
      have j3 : (y : Int) + (i : Int) < (d.size : Int) := by omega
      have j4 : ((x : Int) + (i : Int)).toNat = x + i := by omega
      have j5 : ((y : Int) + (i : Int)).toNat = y + i := by omega
      clear hp1 hp2 hO hK
      go_wp2_with fail
      go_region
      go_wp2
      exact ⟨⟨i + 1, by omega, by go_num, hO9, hK9⟩, by simp only [intOf]; omega⟩
    · obtain rfl : i = n := by omega
      go_wp2
      go_end0
      exact ⟨rfl, hO.out, hK.out⟩
end St
end Go.Proofs.YtpmlhgmmobpilaaGreatDoor
namespace Go.Proofs.YtpmlhgmmobpilaaGreatDoor
open Go.RowKit Go.Shelf Go.Sort
namespace Co
open Nt Ci St
/-- What the sort gives: the same numbers, by their keys, and where these are equal in their order. -/
def Sorted (o : Nat → Int) (l l' : List Nat) : Prop := l'.Perm l ∧ l'.Pairwise fun a b => o a < o b ∨ (o a = o b ∧ a < b)
section
variable {m : Nat}
/-- The numbers below m + 1 as an array. -/
def arr (l : List Nat) : Array (Fin (m + 1)) := (l.map fun x => (⟨min x m, by omega⟩ : Fin (m + 1))).toArray
theorem arr_size (l : List Nat) : (arr (m := m) l).size = l.length := by simp [arr]
theorem arr_at {l : List Nat} (h : ∀ x, x ∈ l → x < m + 1) {j : Nat} (hj : j < l.length) : ((arr (m := m) l)[j]!).val = l[j] := by
  have h1 := h l[j] (List.getElem_mem hj)
  rw [getElem!_pos _ j (by rw [arr_size]; exact hj)]
  simp [arr]
  omega
theorem val_map {l : List Nat} (h : ∀ x, x ∈ l → x < m + 1) : (arr (m := m) l).toList.map Fin.val = l := by
  refine List.ext_getElem (by simp [arr]) fun j h1 h2 => ?_
  have := h l[j] (List.getElem_mem h2)
  simp [arr]
  omega
/-- From the array to the list. -/
theorem sorted_of {o : Nat → Int} {l : List Nat} (h : ∀ x, x ∈ l → x < m + 1) (hnd : l.Pairwise (· < ·)) {d' : Array (Fin (m + 1))} (hp : PermIn 0 l.length (arr l) d') (hs : SortedIn (kLt (fun x : Fin (m + 1) => o x.val) Fin.val) 0 l.length d') : Sorted o l (d'.toList.map Fin.val) := by
  have hsz : d'.size = l.length := hp.1.trans (arr_size l)
  have hperm : (d'.toList.map Fin.val).Perm l := by
    have h1 := hp.2.2
    rw [show (arr (m := m) l).extract 0 l.length = arr l by rw [← arr_size (m := m) l]; simp, show d'.extract 0 l.length = d' by rw [← hsz]; simp] at h1
    have h2 := h1.map Fin.val
    rwa [val_map h] at h2
  refine ⟨hperm, ?_⟩
  have hnd2 : (d'.toList.map Fin.val).Nodup := (hperm.nodup_iff).2 (hnd.imp fun h => Nat.ne_of_lt h)
  rw [List.pairwise_iff_getElem]
  intro i j hi hj hij
  have hi2 : i < d'.size := by simpa using hi
  have hj2 : j < d'.size := by simpa using hj
  have h1 := hs i j (Nat.zero_le _) hij (by omega)
  rw [getElem!_pos _ i hi2, getElem!_pos _ j hj2] at h1
  replace h1 : ¬ (o d'[j].val < o d'[i].val ∨ (o d'[j].val = o d'[i].val ∧ d'[j].val < d'[i].val)) := of_decide_eq_false h1
  have h3 : (d'.toList.map Fin.val)[i] ≠ (d'.toList.map Fin.val)[j] := List.pairwise_iff_getElem.1 hnd2 i j hi hj hij
  simp only [List.getElem_map, Array.getElem_toList] at h3 ⊢
  omega
end
end Co
end Go.Proofs.YtpmlhgmmobpilaaGreatDoor
namespace Go.Proofs.YtpmlhgmmobpilaaGreatDoor
open Go.RowKit Go.Shelf
namespace Co
open Nt Ci
section
variable {o : Nat → Int} {n p i : Nat} {l l' : List Nat}
end
structure PvI (wo wr : World) (pb B : Nat) (l1 l2 : List Nat) (u1 u2 : Value) : Prop where
  k : Kp [pb] wo wr
  p : Bk wr pb 56 [u1, u2]
  r1 : wr.ownsRow B 3 1 u1 l1.length (intsL l1)
  r2 : wr.ownsRow B 3 1 u2 l2.length (intsL l2)
  ap : ∀ b, u1.ownBlock = some b → u2.ownBlock ≠ some b
  lp : pb < B
  lo : wo.heap.size ≤ B
section
variable {wo W W' : World} {pb B : Nat} {l1 l2 : List Nat} {u1 u2 u : Value} {q : Nat}
theorem PvI.below (h : PvI wo W pb B l1 l2 u1 u2) (hb : Below W.heap.size W W') : PvI wo W' pb B l1 l2 u1 u2 :=
  ⟨h.k.below hb, h.p.below hb, own_below' h.r1 hb, own_below' h.r2 hb, h.ap, h.lp, h.lo⟩
end
end Co
end Go.Proofs.YtpmlhgmmobpilaaGreatDoor
namespace Go.Proofs.YtpmlhgmmobpilaaGreatDoor
open Go.RowKit Go.Shelf
namespace Co
open Nt Ci
end Co
end Go.Proofs.YtpmlhgmmobpilaaGreatDoor

namespace Go.Proofs.YtpmlhgmmobpilaaGreatDoor
open Go.RowKit Go.Shelf Go.Sort
namespace St
section
variable {α : Type} [Inhabited α] {lt : α → α → Bool} {R : α → α → Prop} {a m b mid : Nat} {d d' d'' : Array α}
theorem isRot_triv {l r : Nat} (h : l = m ∨ m = r) (_hl : l ≤ m) (_hr : m ≤ r) : IsRot d l m r d := by
  refine ⟨rfl, fun k => ?_⟩
  split
  · rcases h with h | h
    · congr 1; omega
    · omega
  · split
    · rcases h with h | h
      · omega
      · congr 1; omega
    · rfl
theorem isRot_up {l k : Nat} (h : IsRot d l (l + 1) (k + 1) d') (hl : l ≤ k) (hk : k + 1 < d.size) : IsRot d l (l + 1) (k + 2) (swp d' k (k + 1)) := by
  obtain ⟨hs, hg⟩ := h
  refine ⟨by rw [swp_size]; exact hs, fun x => ?_⟩
  rw [swp_get _ (by omega) (by omega)]
  by_cases c1 : x = k + 1
  · subst c1
    rw [if_pos rfl, if_neg (by omega), if_pos (by omega), hg, if_neg (by omega), if_pos (by omega)]
    congr 1; omega
  · rw [if_neg c1]
    by_cases c2 : x = k
    · subst c2
      rw [if_pos rfl, hg, if_neg (by omega), if_neg (by omega), if_pos (by omega)]
      congr 1; omega
    · rw [if_neg c2, hg]
      by_cases c3 : l ≤ x ∧ x < k
      · rw [if_pos (by omega), if_pos (by omega)]
      · rw [if_neg (by omega), if_neg (by omega), if_neg (by omega), if_neg (by omega)]
theorem isRot_down {k : Nat} (h : IsRot d (k + 1) m (m + 1) d') (hk : k + 1 ≤ m) (hm : m < d.size) : IsRot d k m (m + 1) (swp d' (k + 1) k) := by
  obtain ⟨hs, hg⟩ := h
  refine ⟨by rw [swp_size]; exact hs, fun x => ?_⟩
  rw [swp_get _ (by omega) (by omega)]
  by_cases c1 : x = k
  · subst c1
    rw [if_pos rfl, if_pos (by omega), hg, if_pos (by omega)]
    congr 1; omega
  · rw [if_neg c1]
    by_cases c2 : x = k + 1
    · subst c2
      rw [if_pos rfl, if_neg (by omega), if_pos (by omega), hg, if_neg (by omega), if_neg (by omega)]
      congr 1; omega
    · rw [if_neg c2, hg]
      by_cases c3 : k + 1 < x ∧ x < m + 1
      · rw [if_neg (by omega), if_pos (by omega), if_neg (by omega), if_pos (by omega)]
      · rw [if_neg (by omega), if_neg (by omega), if_neg (by omega), if_neg (by omega)]
theorem Srt.out (h : Srt R a m d) {l r : Nat} (hp : PermIn l r d d') (ho : m ≤ l ∨ r ≤ a) : Srt R a m d' := fun i j h1 h2 h3 => by
  rw [hp.2.1 i (by omega), hp.2.1 j (by omega)]
  exact h i j h1 h2 h3
theorem Tells.out (h : Tells lt R a m b d) {l r : Nat} (hp : PermIn l r d d') (ho : b ≤ l ∨ r ≤ a) : Tells lt R a m b d' := fun i j h1 h2 h3 h4 => by
  rw [hp.2.1 i (by omega), hp.2.1 j (by omega)]
  exact h i j h1 h2 h3 h4
/-- The two halves are apart. -/
def Sep (R : α → α → Prop) (a mid b : Nat) (d : Array α) : Prop := ∀ x y, a ≤ x → x < mid → mid ≤ y → y < b → R d[x]! d[y]!
theorem Sep.left (h : Sep R a mid b d) (hp : PermIn a mid d d') (hm : mid ≤ d.size) : Sep R a mid b d' := fun x y h1 h2 h3 h4 => by
  rw [hp.2.1 y (.inr h3)]
  exact permIn_all d d' a mid (fun u => R u d[y]!) hm hp (fun k h5 h6 => h k y h5 h6 h3 h4) x h1 h2
theorem Sep.right (h : Sep R a mid b d) (hp : PermIn mid b d d') (hm : b ≤ d.size) : Sep R a mid b d' := fun x y h1 h2 h3 h4 => by
  rw [hp.2.1 x (.inl h2)]
  exact permIn_all d d' mid b (fun u => R d[x]! u) hm hp (fun k h5 h6 => h x k h1 h2 h5 h6) y h3 h4
/-- What a merge leaves. -/
def Mrg (R : α → α → Prop) (a b : Nat) (d d' : Array α) : Prop := PermIn a b d d' ∧ Srt R a b d'
theorem mrg_left (hT : Trn R) (h2 : Srt R (a + 1) b d) (hc : Tells lt R a (a + 1) b d) {i : Nat} (hi : a + 1 ≤ i) (hib : i ≤ b) (hb : b ≤ d.size) (hb1 : i = a + 1 ∨ lt d[i - 1]! d[a]! = true) (hb2 : i = b ∨ lt d[i]! d[a]! = false) (hr : IsRot d a (a + 1) i d') : Mrg R a b d d' :=
  ⟨permIn_mono _ _ a i a b (Nat.le_refl _) hib hb (hr.perm (by omega) hi (by omega)), merge_left hT h2 hc hi hib hb1 hb2 hr⟩
theorem mrg_right (hT : Trn R) (h1 : Srt R a m d) (hc : Tells lt R a m (m + 1) d) {i : Nat} (hai : a ≤ i) (him : i ≤ m) (hm : m < d.size) (hb1 : i = a ∨ lt d[m]! d[i - 1]! = false) (hb2 : i = m ∨ lt d[m]! d[i]! = true) (hr : IsRot d i m (m + 1) d') : Mrg R a (m + 1) d d' :=
  ⟨permIn_mono _ _ i (m + 1) a (m + 1) hai (Nat.le_refl _) hm (hr.perm him (by omega) hm), merge_right hT h1 hc hai him hb1 hb2 hr⟩
/-- The state behind the exchange. -/
structure Half (lt : α → α → Bool) (R : α → α → Prop) (a s mid e b : Nat) (d d' : Array α) : Prop where
  perm : PermIn a b d d'
  sep : Sep R a mid b d'
  l1 : Srt R a s d'
  l2 : Srt R s mid d'
  tl : Tells lt R a s mid d'
  r1 : Srt R mid e d'
  r2 : Srt R e b d'
  rt : Tells lt R mid e b d'
theorem Half.of (hT : Trn R) (h1 : Srt R a m d) (h2 : Srt R m b d) (hc : Tells lt R a m b d) {s e mid : Nat} (has : a ≤ s) (hsm : s ≤ m) (hme : m ≤ e) (heb : e ≤ b) (hb : b ≤ d.size) (hmid : mid = s + (e - m))
    (hb1 : (s = a ∨ e = b) ∨ lt d[e]! d[s - 1]! = false) (hb2 : (e = m ∨ s = m) ∨ lt d[e - 1]! d[s]! = true) (hr : IsRot d s m e d') : Half lt R a s mid e b d d' := by
  obtain ⟨k1, ⟨k2, k3, k4⟩, k5, k6, k7⟩ := merge_split hT h1 h2 hc has hsm hme heb hmid hb1 hb2 hr
  exact ⟨permIn_mono _ _ s e a b has heb hb (hr.perm hsm hme (by omega)), k1, k2, k3, k4, k5, k6, k7⟩
/-- Behind the first half's merge. -/
structure Half2 (lt : α → α → Bool) (R : α → α → Prop) (a mid e b : Nat) (d d' : Array α) : Prop where
  perm : PermIn a b d d'
  sep : Sep R a mid b d'
  l : Srt R a mid d'
  r1 : Srt R mid e d'
  r2 : Srt R e b d'
  rt : Tells lt R mid e b d'
theorem Half.merged {s e : Nat} (h : Half lt R a s mid e b d d') (hm : mid ≤ b) (hme : mid ≤ e) (hb : b ≤ d.size) (hk : Mrg R a mid d' d'') : Half2 lt R a mid e b d d'' := by
  obtain ⟨hp, hs⟩ := hk
  have hsz : d'.size = d.size := h.perm.1
  exact ⟨permIn_trans _ _ _ a b h.perm (permIn_mono _ _ a mid a b (Nat.le_refl _) hm (by omega) hp), h.sep.left hp (by omega), hs, h.r1.out hp (.inr (Nat.le_refl _)), h.r2.out hp (.inr hme), h.rt.out hp (.inr (Nat.le_refl _))⟩
theorem Half.still {s e : Nat} (h : Half lt R a s mid e b d d') (hs : ¬ a < s ∨ ¬ s < mid) (has : a ≤ s) (hsm : s ≤ mid) : Half2 lt R a mid e b d d' := by
  refine ⟨h.perm, h.sep, ?_, h.r1, h.r2, h.rt⟩
  rcases hs with hs | hs
  · obtain rfl : a = s := by omega
    exact h.l2
  · obtain rfl : s = mid := by omega
    exact h.l1
theorem Half2.merged {e : Nat} (h : Half2 lt R a mid e b d d') (ham : a ≤ mid) (hb : b ≤ d.size) (hk : Mrg R mid b d' d'') : Mrg R a b d d'' := by
  obtain ⟨hp, hs⟩ := hk
  have hsz : d'.size = d.size := h.perm.1
  exact ⟨permIn_trans _ _ _ a b h.perm (permIn_mono _ _ mid b a b ham (Nat.le_refl _) (by omega) hp), srt_join (h.l.out hp (.inl (Nat.le_refl _))) hs (h.sep.right hp (by omega))⟩
theorem Half2.still {e : Nat} (h : Half2 lt R a mid e b d d') (hs : ¬ mid < e ∨ ¬ e < b) (hme : mid ≤ e) (heb : e ≤ b) : Mrg R a b d d' := by
  refine ⟨h.perm, srt_join h.l ?_ h.sep⟩
  rcases hs with hs | hs
  · obtain rfl : mid = e := by omega
    exact h.r2
  · obtain rfl : e = b := by omega
    exact h.r1
end
end St
end Go.Proofs.YtpmlhgmmobpilaaGreatDoor

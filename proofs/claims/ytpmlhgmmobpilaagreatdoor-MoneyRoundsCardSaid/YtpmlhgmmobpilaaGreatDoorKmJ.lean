/- Texts that the proof needs: MonHead, LawMSplits, LawMRounds. -/
import Derived.Deep.RegionHeld3
import Derived.Test.YtpmlhgmmobpilaaGreatDoorKmA
import Derived.Test.YtpmlhgmmobpilaaGreatDoorKmB
import Derived.Test.YtpmlhgmmobpilaaGreatDoorKmC
import Derived.Test.YtpmlhgmmobpilaaGreatDoorKmD
import Derived.Test.YtpmlhgmmobpilaaGreatDoorKmE
import Derived.Test.YtpmlhgmmobpilaaGreatDoorKmF
import Derived.Test.YtpmlhgmmobpilaaGreatDoorKmG
import Derived.Test.YtpmlhgmmobpilaaGreatDoorKmH
import Derived.Test.YtpmlhgmmobpilaaGreatDoorKmI
namespace Go.Proofs.YtpmlhgmmobpilaaGreatDoor
open Go.RowKit Go.Shelf
namespace Mo
open Nt Ci
set_option maxRecDepth 100000 in
theorem of_any (m n : Int) (w : World) (hE : Env w) (hm0 : -9223372036854775808 ≤ m) (hm1 : m ≤ 9223372036854775807) (hn0 : -9223372036854775808 ≤ n) (hn1 : n ≤ 9223372036854775807) (h0 : n ≠ 0) :
    Calls Tryz.prog 18 #[.int .i64 m, .int .i64 n] w fun e w' => e = .returned (qv (ofQ m n)) ∧ Below w.heap.size w w' := by
  obtain ⟨g, x, d, q0⟩ := agg_qv (ofQ m n)
  have hB1 : Hid (Below w.heap.size w (w.alloc (.cells #[.bool false, .string ⟨#[]⟩, .string ⟨#[]⟩] 23))) := (Below.refl _ w).alloc (Nat.le_refl _) _
  have hr1 : Hid (Bk (w.alloc (.cells #[.bool false, .string ⟨#[]⟩, .string ⟨#[]⟩] 23)) w.heap.size 23 [.bool false, .string ⟨#[]⟩, .string ⟨#[]⟩]) := Bk.new w _ _
  have ko : Hid (Calls Tryz.prog 46 #[.int .i64 m, .int .i64 n] (w.alloc (.cells #[.bool false, .string ⟨#[]⟩, .string ⟨#[]⟩] 23)) fun e w' => e = .returned (.tuple #[.agg #[.bool g, .string x, .string d], .int .i64 0]) ∧ Below (w.alloc (.cells #[.bool false, .string ⟨#[]⟩, .string ⟨#[]⟩] 23)).heap.size (w.alloc (.cells #[.bool false, .string ⟨#[]⟩, .string ⟨#[]⟩] 23)) w') := by
    have h := RatOf_any m n hm0 hm1 hn0 hn1 h0 _ (hE.below hB1.out)
    rw [q0] at h
    exact h
  rw [q0]
  clear hE
  go_enter Tryz.func18, Tryz.ntmps18
  go_wp2_with fail
  refine ko.out.mono ?_
  rintro e w2 ⟨rfl, hb⟩
  have hB2 := Lib.hid (hB1.out.trans (hb.mono hB1.out.size))
  have hr2 := Lib.hid (hr1.out.below hb)
  clear hb hB1 hr1 ko
  have r0 := hr2.out.cell (j := 0) rfl; have r1 := hr2.out.cell (j := 1) rfl; have r2 := hr2.out.cell (j := 2) rfl
  have f0 := hr2.out.frozen 0; have f1 := hr2.out.frozen 1; have f2 := hr2.out.frozen 2
  have r9 := hr2.out.lt
  have hB5 : Hid (Below w.heap.size w ((((w2.setCell ⟨w.heap.size, 0, none⟩ (.bool g)).setCell ⟨w.heap.size, 1, none⟩ (.string x)).setCell ⟨w.heap.size, 2, none⟩ (.string d)).alloc (.cells #[.bool g, .string x, .string d] 23))) := by
    have h := ((hB2.out.setCell (p := ⟨w.heap.size, 0, none⟩) (Nat.le_refl _) (.bool g)).setCell (p := ⟨w.heap.size, 1, none⟩) (Nat.le_refl _) (.string x)).setCell (p := ⟨w.heap.size, 2, none⟩) (Nat.le_refl _) (.string d)
    exact h.alloc h.size _
  have hR5 : Hid (Bk ((((w2.setCell ⟨w.heap.size, 0, none⟩ (.bool g)).setCell ⟨w.heap.size, 1, none⟩ (.string x)).setCell ⟨w.heap.size, 2, none⟩ (.string d)).alloc (.cells #[.bool g, .string x, .string d] 23)) w.heap.size 23 [.bool g, .string x, .string d]) := (((hr2.out.set 0 (.bool g)).set 1 (.string x)).set 2 (.string d)).alloc _
  go_wp2
  (try simp only [Exit.inBlock, Exit.then])
  have s0 := hR5.out.cell (j := 0) rfl; have s1 := hR5.out.cell (j := 1) rfl; have s2 := hR5.out.cell (j := 2) rfl
  have s9 := hR5.out.lt
  refine bodyPost_ret (v := .agg #[.bool g, .string x, .string d]) (by simp [results, Tryz.results18, go_sem, s0, s1, s2]) rfl ⟨rfl, hB5.out⟩
def ratesL : List Rt := [(⟨#[85, 83, 68]⟩, 10, 4, 5), (⟨#[85, 83, 68]⟩, 0, 9, 10), (⟨#[67, 72, 70]⟩, 0, 1, 1)]
set_option maxRecDepth 100000 in
theorem rates_any (w : World) : Calls Tryz.prog 43 #[] w fun e w' => (e = .returned (.slice (some ⟨w.heap.size, 0, none⟩) 3 3) ∧ InRt w' (some ⟨w.heap.size, 0, none⟩) ratesL ∧ w.heap.size < w'.heap.size) ∧ Below w.heap.size w w' := by
  have hb := Lib.hid (Bk.new w 42 [.string ⟨#[85, 83, 68]⟩, .int .i64 10, .int .i64 4, .int .i64 5, .string ⟨#[85, 83, 68]⟩, .int .i64 0, .int .i64 9, .int .i64 10, .string ⟨#[67, 72, 70]⟩, .int .i64 0, .int .i64 1, .int .i64 1])
  have hB1 : Hid (Below w.heap.size w (w.alloc (.cells #[.string ⟨#[85, 83, 68]⟩, .int .i64 10, .int .i64 4, .int .i64 5, .string ⟨#[85, 83, 68]⟩, .int .i64 0, .int .i64 9, .int .i64 10, .string ⟨#[67, 72, 70]⟩, .int .i64 0, .int .i64 1, .int .i64 1] 42))) := (Below.refl _ w).alloc (Nat.le_refl _) _
  have hI : Hid (InRt (w.alloc (.cells #[.string ⟨#[85, 83, 68]⟩, .int .i64 10, .int .i64 4, .int .i64 5, .string ⟨#[85, 83, 68]⟩, .int .i64 0, .int .i64 9, .int .i64 10, .string ⟨#[67, 72, 70]⟩, .int .i64 0, .int .i64 1, .int .i64 1] 42)) (some ⟨w.heap.size, 0, none⟩) ratesL) := fun _ => ⟨w.heap.size, 0, rfl, hb.out.lt, fun j hj => by
    match j, hj with
    | 0, _ => exact ⟨hb.out.cell (j := 0) rfl, hb.out.cell (j := 1) rfl, hb.out.cell (j := 2) rfl, hb.out.cell (j := 3) rfl⟩
    | 1, _ => exact ⟨hb.out.cell (j := 4) rfl, hb.out.cell (j := 5) rfl, hb.out.cell (j := 6) rfl, hb.out.cell (j := 7) rfl⟩
    | 2, _ => exact ⟨hb.out.cell (j := 8) rfl, hb.out.cell (j := 9) rfl, hb.out.cell (j := 10) rfl, hb.out.cell (j := 11) rfl⟩
    | j + 3, hj => exact absurd hj (by simp [ratesL])⟩
  have hl := Lib.hid hb.out.lt
  clear hb
  go_enter Tryz.func43, Tryz.ntmps43
  go_wp2
  go_ret
  exact ⟨⟨rfl, hI.out, hl.out⟩, hB1.out⟩
theorem rates_sz : RtSz ratesL := by
  intro x hx
  simp only [ratesL, List.mem_cons, List.mem_nil_iff, or_false] at hx
  rcases hx with rfl | rfl | rfl <;> decide
set_option maxRecDepth 100000 in
set_option maxHeartbeats 4000000 in
theorem head1_any (c tc : ByteArray) (u day m n : Int) (lb : Nat) (A : Option Addr) (w : World) (hE : Env w) (hlb : w.cell? ⟨lb, 0, none⟩ = some (.slice A 3 3)) (hA : InRt w A ratesL) (hc : c.size ≤ 100) (ht : tc.size ≤ 100) (hm : -1000 ≤ m ∧ m ≤ 1000) (hn : 1 ≤ n ∧ n ≤ 1000) (hv : convR ratesL ⟨#[69, 85, 82]⟩ c u tc day = (some (ofQ m n), 0)) :
    Calls Tryz.prog 44 #[.string c, .int .i64 u, .string tc, .int .i64 day, .int .i64 m, .int .i64 n, .pointer (some ⟨lb, 0, none⟩)] w fun e w' => e = .returned (.bool true) ∧ Below w.heap.size w w' := by
  obtain ⟨g, x, d, q0⟩ := agg_qv (ofQ m n)
  have kc : Hid (Calls Tryz.prog 17 #[.slice A 3 3, .string ⟨#[69, 85, 82]⟩, .agg #[.string c, .int .i64 u], .string tc, .int .i64 day] w fun e w' => e = .returned (.tuple #[.agg #[.bool g, .string x, .string d], .int .i64 0]) ∧ Below w.heap.size w w') := by
    have h := Convert_any ratesL A 3 ⟨#[69, 85, 82]⟩ c u tc day w hE hA (by decide) (by decide) (by omega) (by omega) rates_sz
    rw [hv] at h
    rw [show cvV (some (ofQ m n), (0 : Int)).1 = .agg #[.bool g, .string x, .string d] from q0] at h
    exact h
  have ko : Hid (∀ W, Env W → Calls Tryz.prog 18 #[.int .i64 m, .int .i64 n] W fun e w' => e = .returned (.agg #[.bool g, .string x, .string d]) ∧ Below W.heap.size W w') := fun W hW => by
    have h := of_any m n W hW (by omega) (by omega) (by omega) (by omega) (by omega)
    rw [q0] at h
    exact h
  have hll := World.block_lt_of_cell? w _ hlb
  replace hE := Lib.hid hE
  clear hA hv q0
  go_enter Tryz.func44, Tryz.ntmps44
  go_wp2_with fail
  refine kc.out.mono ?_
  rintro e w2 ⟨rfl, hb⟩
  have hB3 : Hid (Below w.heap.size w (w2.alloc (.cells #[.bool g, .string x, .string d] 23))) := hb.alloc hb.size _
  have hr3 : Hid (Bk (w2.alloc (.cells #[.bool g, .string x, .string d] 23)) w2.heap.size 23 [.bool g, .string x, .string d]) := Bk.new _ _ _
  clear hb kc hlb hll
  go_wp2_with fail
  obtain ⟨w3, hw3⟩ : ∃ W, W = w2.alloc (.cells #[.bool g, .string x, .string d] 23) := ⟨_, rfl⟩
  rw [← hw3] at hB3 hr3 ⊢
  obtain ⟨rb, hrb⟩ : ∃ x, x = w2.heap.size := ⟨_, rfl⟩
  rw [← hrb] at hr3 ⊢
  replace hw3 := Lib.hid hw3; replace hrb := Lib.hid hrb
  have hB3d : Hid (Below w.heap.size w w3.drew) := hB3.out.drew
  have r0 := hr3.out.cell (j := 0) rfl; have r1 := hr3.out.cell (j := 1) rfl; have r2 := hr3.out.cell (j := 2) rfl; have r9 := hr3.out.lt
  have hS : Hid (∀ W, Below w3.heap.size w3 W → W.cell? ⟨rb, 0, none⟩ = some (.bool g) ∧ W.cell? ⟨rb, 1, none⟩ = some (.string x) ∧ W.cell? ⟨rb, 2, none⟩ = some (.string d)) := fun W hb => ⟨(hr3.out.below hb).cell (j := 0) rfl, (hr3.out.below hb).cell (j := 1) rfl, (hr3.out.below hb).cell (j := 2) rfl⟩
  go_region_held3 (fun W => W.cell? ⟨rb, 0, none⟩ = some (.bool g) ∧ W.cell? ⟨rb, 1, none⟩ = some (.string x) ∧ W.cell? ⟨rb, 2, none⟩ = some (.string d)) (first | (with_reducible exact hS.out _ (Below.refl _ _)) | (with_reducible exact hS.out _ (Below.refl _ _).drew) | (with_reducible exact hS.out _ hb4.out) | go_keep) (first | (refine (ko.out _ (hE.out.below hB3d.out)).mono ?_; rintro e w4 ⟨rfl, hb⟩; have hB4 := Lib.hid (hB3d.out.trans (hb.mono hB3d.out.size)); have hb4 : Hid (Below w3.heap.size w3 w4) := ((Below.refl _ w3).drew.trans (hb.mono (Nat.le_refl _))); clear hb))
  go_wp2
  go_ret
  exact ⟨by simp, hB4.out⟩
theorem hv1 : convR ratesL ⟨#[69, 85, 82]⟩ ⟨#[85, 83, 68]⟩ 100 ⟨#[69, 85, 82]⟩ 9 = (some (ofQ 90 1), 0) := by decide +kernel
theorem hv2 : convR ratesL ⟨#[69, 85, 82]⟩ ⟨#[85, 83, 68]⟩ 100 ⟨#[69, 85, 82]⟩ 10 = (some (ofQ 80 1), 0) := by decide +kernel
theorem hv3 : convR ratesL ⟨#[69, 85, 82]⟩ ⟨#[69, 85, 82]⟩ 10 ⟨#[85, 83, 68]⟩ 10 = (some (ofQ 25 2), 0) := by decide +kernel
theorem hv4 : convR ratesL ⟨#[69, 85, 82]⟩ ⟨#[67, 72, 70]⟩ 9 ⟨#[85, 83, 68]⟩ 0 = (some (ofQ 10 1), 0) := by decide +kernel
theorem hf1 : findR ratesL ⟨#[69, 85, 82]⟩ ⟨#[71, 66, 80]⟩ 5 = (noR, 11) := by decide +kernel
theorem hr1 : roundV (ofQ 5 2) = (2, 0) := by decide +kernel
theorem hr2 : roundV (ofQ 7 2) = (4, 0) := by decide +kernel
theorem hr3 : roundV (ofQ (-5) 2) = (-2, 0) := by decide +kernel
theorem hs1 : splitL 10 [1, 1, 1] = [4, 3, 3] := by decide +kernel
theorem he1 : splitE 10 [1, 1, 1] = 0 := by decide +kernel
theorem hs2 : splitL 7 [0, 2, 1] = [0, 5, 2] := by decide +kernel
theorem he2 : splitE 7 [0, 2, 1] = 0 := by decide +kernel
theorem sh1 : ShortQ (ofQ 5 2) := (ofQ_dg (by decide) (by decide)).short (by omega)
theorem sh2 : ShortQ (ofQ 7 2) := (ofQ_dg (by decide) (by decide)).short (by omega)
theorem sh3 : ShortQ (ofQ (-5) 2) := by
  have h := mkRat_le (sg (!(decide ((-5 : Int) < 0) == decide ((2 : Int) < 0))) (-5 : Int).natAbs) (2 : Int).natAbs (by decide)
  have d : Dg 7 (ofQ (-5) 2) := ⟨Nat.lt_of_le_of_lt h.1 (by rw [sg_natAbs]; decide), Nat.lt_of_le_of_lt h.2 (by decide)⟩
  exact d.short (by omega)
/-- A slice of three ints that was just laid. -/
theorem in3 (w : World) (a b c : Int) : InInt (w.alloc (.cells #[.int .i64 a, .int .i64 b, .int .i64 c] 3)) (some ⟨w.heap.size, 0, none⟩) [a, b, c] := fun _ => by
  have h := Bk.new w 3 [.int .i64 a, .int .i64 b, .int .i64 c]
  refine ⟨w.heap.size, 0, rfl, h.lt, fun j hj => ?_⟩
  match j, hj with
  | 0, _ => exact h.cell (j := 0) rfl
  | 1, _ => exact h.cell (j := 1) rfl
  | 2, _ => exact h.cell (j := 2) rfl
  | j + 3, hj => exact absurd hj (by simp)
set_option maxRecDepth 100000 in
set_option maxHeartbeats 8000000 in
theorem head8_any (w : World) (hE : Env w) : Calls Tryz.prog 11 #[] w fun e w' => e = .returned (.bool true) ∧ Below w.heap.size w w' := by
  replace hE := Lib.hid hE
  have hB0 : Hid (Below w.heap.size w w) := Below.refl _ _
  have kr := Lib.hid (rates_any w)
  go_enter Tryz.func11, Tryz.ntmps11
  go_wp2_with fail
  refine kr.out.mono ?_
  rintro e w1 ⟨⟨rfl, hI1, hlt⟩, hb⟩
  have hB1 := Lib.hid hb; replace hI1 := Lib.hid hI1; clear hb kr hB0
  have hbb : Hid (Below w1.heap.size w1 (w1.alloc (.cells #[.slice (some ⟨w.heap.size, 0, none⟩) 3 3] 33))) := (Below.refl _ _).alloc (Nat.le_refl _) _
  have hBb := Lib.hid (hB1.out.trans (hbb.out.mono hB1.out.size))
  have hIb := Lib.hid (hI1.out.below hbb.out)
  clear hbb hB1 hI1
  have hLb : Hid (Bk (w1.alloc (.cells #[.slice (some ⟨w.heap.size, 0, none⟩) 3 3] 33)) w1.heap.size 33 [.slice (some ⟨w.heap.size, 0, none⟩) 3 3]) := Bk.new _ _ _
  obtain ⟨lb, hlb⟩ : ∃ x, x = w1.heap.size := ⟨_, rfl⟩
  have kf : Hid (Calls Tryz.prog 21 #[.slice (some ⟨w.heap.size, 0, none⟩) 3 3, .string ⟨#[69, 85, 82]⟩, .string ⟨#[71, 66, 80]⟩, .int .i64 5] (w1.alloc (.cells #[.slice (some ⟨w.heap.size, 0, none⟩) 3 3] 33)) fun e w' => e = .returned (.tuple #[.agg #[.string ⟨#[]⟩, .int .i64 0, .int .i64 0, .int .i64 0], .int .i64 11]) ∧ Below ((w1.alloc (.cells #[.slice (some ⟨w.heap.size, 0, none⟩) 3 3] 33))).heap.size (w1.alloc (.cells #[.slice (some ⟨w.heap.size, 0, none⟩) 3 3] 33)) w') := by have h := Find_any ratesL (some ⟨w.heap.size, 0, none⟩) 3 ⟨#[69, 85, 82]⟩ ⟨#[71, 66, 80]⟩ 5 (w1.alloc (.cells #[.slice (some ⟨w.heap.size, 0, none⟩) 3 3] 33)) hIb.out (by decide) (by decide) (by decide) rates_sz; rw [hf1] at h; exact h
  have l0 := hLb.out.cell (j := 0) rfl; have l9 := hLb.out.lt
  go_wp2_with fail
  refine kf.out.mono ?_
  rintro e w2 ⟨rfl, hb⟩
  clear kf l0 l9 hlt
  have hB2 := Lib.hid (hBb.out.trans (hb.mono hBb.out.size))
  have hI2 := Lib.hid (hIb.out.below hb)
  have hL2 := Lib.hid (hLb.out.below hb)
  clear hb hBb hIb hLb
  rw [← hlb] at hL2
  (try rw [← hlb])
  replace hlb := Lib.hid hlb
  have hbb : Hid (Below w2.heap.size w2 (w2.alloc (.cells #[.string ⟨#[]⟩, .int .i64 0, .int .i64 0, .int .i64 0] 42))) := (Below.refl _ _).alloc (Nat.le_refl _) _
  have hBb := Lib.hid (hB2.out.trans (hbb.out.mono hB2.out.size))
  have hIb := Lib.hid (hI2.out.below hbb.out)
  have hLb := Lib.hid (hL2.out.below hbb.out)
  clear hbb hB2 hI2 hL2
  obtain ⟨g0, x0, d0, q0⟩ := agg_qv (ofQ 5 2)
  have ko : Hid (Calls Tryz.prog 18 #[.int .i64 5, .int .i64 2] (w2.alloc (.cells #[.string ⟨#[]⟩, .int .i64 0, .int .i64 0, .int .i64 0] 42)) fun e w' => e = .returned (.agg #[.bool g0, .string x0, .string d0]) ∧ Below ((w2.alloc (.cells #[.string ⟨#[]⟩, .int .i64 0, .int .i64 0, .int .i64 0] 42))).heap.size (w2.alloc (.cells #[.string ⟨#[]⟩, .int .i64 0, .int .i64 0, .int .i64 0] 42)) w') := by have h := of_any 5 2 (w2.alloc (.cells #[.string ⟨#[]⟩, .int .i64 0, .int .i64 0, .int .i64 0] 42)) (hE.out.below hBb.out) (by decide) (by decide) (by decide) (by decide) (by decide); rw [q0] at h; exact h
  go_wp2_with fail
  refine ko.out.mono ?_
  rintro e w3 ⟨rfl, hb⟩
  clear ko
  have hB3 := Lib.hid (hBb.out.trans (hb.mono hBb.out.size))
  have hI3 := Lib.hid (hIb.out.below hb)
  have hL3 := Lib.hid (hLb.out.below hb)
  clear hb hBb hIb hLb
  have ko : Hid (Calls Tryz.prog 12 #[.agg #[.bool g0, .string x0, .string d0]] w3 fun e w' => e = .returned (.tuple #[.int .i64 2, .int .i64 0]) ∧ Below w3.heap.size w3 w') := by have h := Round_short (ofQ 5 2) sh1 w3 (hE.out.below hB3.out); rw [hr1, q0] at h; exact h
  go_wp2_with fail
  refine ko.out.mono ?_
  rintro e w4 ⟨rfl, hb⟩
  clear ko q0
  have hB4 := Lib.hid (hB3.out.trans (hb.mono hB3.out.size))
  have hI4 := Lib.hid (hI3.out.below hb)
  have hL4 := Lib.hid (hL3.out.below hb)
  clear hb hB3 hI3 hL3
  obtain ⟨g1, x1, d1, q1⟩ := agg_qv (ofQ 7 2)
  have ko : Hid (Calls Tryz.prog 18 #[.int .i64 7, .int .i64 2] w4 fun e w' => e = .returned (.agg #[.bool g1, .string x1, .string d1]) ∧ Below (w4).heap.size w4 w') := by have h := of_any 7 2 w4 (hE.out.below hB4.out) (by decide) (by decide) (by decide) (by decide) (by decide); rw [q1] at h; exact h
  go_wp2_with fail
  refine ko.out.mono ?_
  rintro e w5 ⟨rfl, hb⟩
  clear ko
  have hB5 := Lib.hid (hB4.out.trans (hb.mono hB4.out.size))
  have hI5 := Lib.hid (hI4.out.below hb)
  have hL5 := Lib.hid (hL4.out.below hb)
  clear hb hB4 hI4 hL4
  have ko : Hid (Calls Tryz.prog 12 #[.agg #[.bool g1, .string x1, .string d1]] w5 fun e w' => e = .returned (.tuple #[.int .i64 4, .int .i64 0]) ∧ Below w5.heap.size w5 w') := by have h := Round_short (ofQ 7 2) sh2 w5 (hE.out.below hB5.out); rw [hr2, q1] at h; exact h
  go_wp2_with fail
  refine ko.out.mono ?_
  rintro e w6 ⟨rfl, hb⟩
  clear ko q1
  have hB6 := Lib.hid (hB5.out.trans (hb.mono hB5.out.size))
  have hI6 := Lib.hid (hI5.out.below hb)
  have hL6 := Lib.hid (hL5.out.below hb)
  clear hb hB5 hI5 hL5
  obtain ⟨g2, x2, d2, q2⟩ := agg_qv (ofQ (-5) 2)
  have ko : Hid (Calls Tryz.prog 18 #[.int .i64 (-5), .int .i64 2] w6 fun e w' => e = .returned (.agg #[.bool g2, .string x2, .string d2]) ∧ Below (w6).heap.size w6 w') := by have h := of_any (-5) 2 w6 (hE.out.below hB6.out) (by decide) (by decide) (by decide) (by decide) (by decide); rw [q2] at h; exact h
  go_wp2_with fail
  refine ko.out.mono ?_
  rintro e w7 ⟨rfl, hb⟩
  clear ko
  have hB7 := Lib.hid (hB6.out.trans (hb.mono hB6.out.size))
  have hI7 := Lib.hid (hI6.out.below hb)
  have hL7 := Lib.hid (hL6.out.below hb)
  clear hb hB6 hI6 hL6
  have ko : Hid (Calls Tryz.prog 12 #[.agg #[.bool g2, .string x2, .string d2]] w7 fun e w' => e = .returned (.tuple #[.int .i64 (-2), .int .i64 0]) ∧ Below w7.heap.size w7 w') := by have h := Round_short (ofQ (-5) 2) sh3 w7 (hE.out.below hB7.out); rw [hr3, q2] at h; exact h
  go_wp2_with fail
  refine ko.out.mono ?_
  rintro e w8 ⟨rfl, hb⟩
  clear ko q2
  have hB8 := Lib.hid (hB7.out.trans (hb.mono hB7.out.size))
  have hI8 := Lib.hid (hI7.out.below hb)
  have hL8 := Lib.hid (hL7.out.below hb)
  clear hb hB7 hI7 hL7
  have hT : Hid (InInt (w8.alloc (.cells #[.int .i64 1, .int .i64 1, .int .i64 1] 3)) (some ⟨w8.heap.size, 0, none⟩) [1, 1, 1]) := in3 _ _ _ _
  have hbb : Hid (Below w8.heap.size w8 (w8.alloc (.cells #[.int .i64 1, .int .i64 1, .int .i64 1] 3))) := (Below.refl _ _).alloc (Nat.le_refl _) _
  have hBb := Lib.hid (hB8.out.trans (hbb.out.mono hB8.out.size))
  have hIb := Lib.hid (hI8.out.below hbb.out)
  have hLb := Lib.hid (hL8.out.below hbb.out)
  clear hbb hB8 hI8 hL8
  have ks : Hid (Calls Tryz.prog 14 #[.int .i64 10, .slice (some ⟨w8.heap.size, 0, none⟩) 3 3] (w8.alloc (.cells #[.int .i64 1, .int .i64 1, .int .i64 1] 3)) (SpPost 10 [1, 1, 1] (w8.alloc (.cells #[.int .i64 1, .int .i64 1, .int .i64 1] 3)))) := Split_any 10 (some ⟨w8.heap.size, 0, none⟩) 3 [1, 1, 1] (w8.alloc (.cells #[.int .i64 1, .int .i64 1, .int .i64 1] 3)) hT.out (by decide)
  go_wp2_with fail
  refine ks.out.mono ?_
  rintro e w9 ⟨⟨B0, c0, he, hin⟩, hb⟩
  rw [hs1, he1] at he; rw [hs1] at hin
  obtain rfl := he
  replace hin := Lib.hid hin
  clear ks hT
  have hB9 := Lib.hid (hBb.out.trans (hb.mono hBb.out.size))
  have hI9 := Lib.hid (hIb.out.below hb)
  have hL9 := Lib.hid (hLb.out.below hb)
  clear hb hBb hIb hLb
  have hPa9 := hin; clear hin
  have hT : Hid (InInt (w9.alloc (.cells #[.int .i64 0, .int .i64 2, .int .i64 1] 3)) (some ⟨w9.heap.size, 0, none⟩) [0, 2, 1]) := in3 _ _ _ _
  have hbb : Hid (Below w9.heap.size w9 (w9.alloc (.cells #[.int .i64 0, .int .i64 2, .int .i64 1] 3))) := (Below.refl _ _).alloc (Nat.le_refl _) _
  have hBb := Lib.hid (hB9.out.trans (hbb.out.mono hB9.out.size))
  have hIb := Lib.hid (hI9.out.below hbb.out)
  have hLb := Lib.hid (hL9.out.below hbb.out)
  have hPab := Lib.hid (hPa9.out.below hbb.out)
  clear hbb hB9 hI9 hL9 hPa9
  have ks : Hid (Calls Tryz.prog 14 #[.int .i64 7, .slice (some ⟨w9.heap.size, 0, none⟩) 3 3] (w9.alloc (.cells #[.int .i64 0, .int .i64 2, .int .i64 1] 3)) (SpPost 7 [0, 2, 1] (w9.alloc (.cells #[.int .i64 0, .int .i64 2, .int .i64 1] 3)))) := Split_any 7 (some ⟨w9.heap.size, 0, none⟩) 3 [0, 2, 1] (w9.alloc (.cells #[.int .i64 0, .int .i64 2, .int .i64 1] 3)) hT.out (by decide)
  go_wp2_with fail
  refine ks.out.mono ?_
  rintro e w10 ⟨⟨B1, c1, he, hin⟩, hb⟩
  rw [hs2, he2] at he; rw [hs2] at hin
  obtain rfl := he
  replace hin := Lib.hid hin
  clear ks hT
  have hB10 := Lib.hid (hBb.out.trans (hb.mono hBb.out.size))
  have hI10 := Lib.hid (hIb.out.below hb)
  have hL10 := Lib.hid (hLb.out.below hb)
  have hPa10 := Lib.hid (hPab.out.below hb)
  clear hb hBb hIb hLb hPab
  have hPb10 := hin; clear hin
  have kh := Lib.hid (head1_any ⟨#[85, 83, 68]⟩ ⟨#[69, 85, 82]⟩ 100 9 90 1 lb (some ⟨w.heap.size, 0, none⟩) w10 (hE.out.below hB10.out) (hL10.out.cell (j := 0) rfl) hI10.out (by decide) (by decide) (by decide) (by decide) hv1)
  go_wp2_with fail
  refine kh.out.mono ?_
  rintro e w11 ⟨rfl, hb⟩
  clear kh
  have hB11 := Lib.hid (hB10.out.trans (hb.mono hB10.out.size))
  have hI11 := Lib.hid (hI10.out.below hb)
  have hL11 := Lib.hid (hL10.out.below hb)
  have hPa11 := Lib.hid (hPa10.out.below hb)
  have hPb11 := Lib.hid (hPb10.out.below hb)
  clear hb hB10 hI10 hL10 hPa10 hPb10
  have kh := Lib.hid (head1_any ⟨#[85, 83, 68]⟩ ⟨#[69, 85, 82]⟩ 100 10 80 1 lb (some ⟨w.heap.size, 0, none⟩) w11 (hE.out.below hB11.out) (hL11.out.cell (j := 0) rfl) hI11.out (by decide) (by decide) (by decide) (by decide) hv2)
  go_wp2_with fail
  refine kh.out.mono ?_
  rintro e w12 ⟨rfl, hb⟩
  clear kh
  have hB12 := Lib.hid (hB11.out.trans (hb.mono hB11.out.size))
  have hI12 := Lib.hid (hI11.out.below hb)
  have hL12 := Lib.hid (hL11.out.below hb)
  have hPa12 := Lib.hid (hPa11.out.below hb)
  have hPb12 := Lib.hid (hPb11.out.below hb)
  clear hb hB11 hI11 hL11 hPa11 hPb11
  have kh := Lib.hid (head1_any ⟨#[69, 85, 82]⟩ ⟨#[85, 83, 68]⟩ 10 10 25 2 lb (some ⟨w.heap.size, 0, none⟩) w12 (hE.out.below hB12.out) (hL12.out.cell (j := 0) rfl) hI12.out (by decide) (by decide) (by decide) (by decide) hv3)
  go_wp2_with fail
  refine kh.out.mono ?_
  rintro e w13 ⟨rfl, hb⟩
  clear kh
  have hB13 := Lib.hid (hB12.out.trans (hb.mono hB12.out.size))
  have hI13 := Lib.hid (hI12.out.below hb)
  have hL13 := Lib.hid (hL12.out.below hb)
  have hPa13 := Lib.hid (hPa12.out.below hb)
  have hPb13 := Lib.hid (hPb12.out.below hb)
  clear hb hB12 hI12 hL12 hPa12 hPb12
  have kh := Lib.hid (head1_any ⟨#[67, 72, 70]⟩ ⟨#[85, 83, 68]⟩ 9 0 10 1 lb (some ⟨w.heap.size, 0, none⟩) w13 (hE.out.below hB13.out) (hL13.out.cell (j := 0) rfl) hI13.out (by decide) (by decide) (by decide) (by decide) hv4)
  go_wp2_with fail
  refine kh.out.mono ?_
  rintro e w14 ⟨rfl, hb⟩
  clear kh
  have hB14 := Lib.hid (hB13.out.trans (hb.mono hB13.out.size))
  have hI14 := Lib.hid (hI13.out.below hb)
  have hL14 := Lib.hid (hL13.out.below hb)
  have hPa14 := Lib.hid (hPa13.out.below hb)
  have hPb14 := Lib.hid (hPb13.out.below hb)
  clear hb hB13 hI13 hL13 hPa13 hPb13
  have hT : Hid (InInt (w14.alloc (.cells #[.int .i64 4, .int .i64 3, .int .i64 3] 3)) (some ⟨w14.heap.size, 0, none⟩) [4, 3, 3]) := in3 _ _ _ _
  have hbb : Hid (Below w14.heap.size w14 (w14.alloc (.cells #[.int .i64 4, .int .i64 3, .int .i64 3] 3))) := (Below.refl _ _).alloc (Nat.le_refl _) _
  have hBb := Lib.hid (hB14.out.trans (hbb.out.mono hB14.out.size))
  have hIb := Lib.hid (hI14.out.below hbb.out)
  have hLb := Lib.hid (hL14.out.below hbb.out)
  have hPab := Lib.hid (hPa14.out.below hbb.out)
  have hPbb := Lib.hid (hPb14.out.below hbb.out)
  clear hbb hB14 hI14 hL14 hPa14 hPb14
  have ki : Hid (Calls Tryz.prog 16 #[.slice B0 3 c0, .slice (some ⟨w14.heap.size, 0, none⟩) 3 3] (w14.alloc (.cells #[.int .i64 4, .int .i64 3, .int .i64 3] 3)) fun e w' => e = .returned (.bool true) ∧ Below ((w14.alloc (.cells #[.int .i64 4, .int .i64 3, .int .i64 3] 3))).heap.size (w14.alloc (.cells #[.int .i64 4, .int .i64 3, .int .i64 3] 3)) w') := (Ints8_any B0 (some ⟨w14.heap.size, 0, none⟩) c0 3 [4, 3, 3] [4, 3, 3] (w14.alloc (.cells #[.int .i64 4, .int .i64 3, .int .i64 3] 3)) hPab.out hT.out (by decide)).mono fun e w' h => ⟨by rw [h.1, decide_eq_true rfl], by obtain ⟨q, rfl⟩ := h.2; exact blw_drewN (Below.refl _ _) q⟩
  go_wp2_with fail
  refine ki.out.mono ?_
  rintro e w15 ⟨rfl, hb⟩
  clear ki hT
  have hB15 := Lib.hid (hBb.out.trans (hb.mono hBb.out.size))
  have hI15 := Lib.hid (hIb.out.below hb)
  have hL15 := Lib.hid (hLb.out.below hb)
  have hPa15 := Lib.hid (hPab.out.below hb)
  have hPb15 := Lib.hid (hPbb.out.below hb)
  clear hb hBb hIb hLb hPab hPbb
  have hT : Hid (InInt (w15.alloc (.cells #[.int .i64 0, .int .i64 5, .int .i64 2] 3)) (some ⟨w15.heap.size, 0, none⟩) [0, 5, 2]) := in3 _ _ _ _
  have hbb : Hid (Below w15.heap.size w15 (w15.alloc (.cells #[.int .i64 0, .int .i64 5, .int .i64 2] 3))) := (Below.refl _ _).alloc (Nat.le_refl _) _
  have hBb := Lib.hid (hB15.out.trans (hbb.out.mono hB15.out.size))
  have hIb := Lib.hid (hI15.out.below hbb.out)
  have hLb := Lib.hid (hL15.out.below hbb.out)
  have hPab := Lib.hid (hPa15.out.below hbb.out)
  have hPbb := Lib.hid (hPb15.out.below hbb.out)
  clear hbb hB15 hI15 hL15 hPa15 hPb15
  have ki : Hid (Calls Tryz.prog 16 #[.slice B1 3 c1, .slice (some ⟨w15.heap.size, 0, none⟩) 3 3] (w15.alloc (.cells #[.int .i64 0, .int .i64 5, .int .i64 2] 3)) fun e w' => e = .returned (.bool true) ∧ Below ((w15.alloc (.cells #[.int .i64 0, .int .i64 5, .int .i64 2] 3))).heap.size (w15.alloc (.cells #[.int .i64 0, .int .i64 5, .int .i64 2] 3)) w') := (Ints8_any B1 (some ⟨w15.heap.size, 0, none⟩) c1 3 [0, 5, 2] [0, 5, 2] (w15.alloc (.cells #[.int .i64 0, .int .i64 5, .int .i64 2] 3)) hPbb.out hT.out (by decide)).mono fun e w' h => ⟨by rw [h.1, decide_eq_true rfl], by obtain ⟨q, rfl⟩ := h.2; exact blw_drewN (Below.refl _ _) q⟩
  go_wp2_with fail
  refine ki.out.mono ?_
  rintro e w16 ⟨rfl, hb⟩
  clear ki hT
  have hB16 := Lib.hid (hBb.out.trans (hb.mono hBb.out.size))
  have hI16 := Lib.hid (hIb.out.below hb)
  have hL16 := Lib.hid (hLb.out.below hb)
  have hPa16 := Lib.hid (hPab.out.below hb)
  have hPb16 := Lib.hid (hPbb.out.below hb)
  clear hb hBb hIb hLb hPab hPbb
  go_wp2
  go_ret
  exact ⟨rfl, hB16.out⟩
end Mo
end Go.Proofs.YtpmlhgmmobpilaaGreatDoor

namespace Go.Proofs.YtpmlhgmmobpilaaGreatDoor
open Go.RowKit Go.Shelf
namespace Mo
open Nt Ci
section
variable {units : Int} {parts : List Int}
theorem splitE_ok (h : splitE units parts = 0) : splitOk units parts = true := by
  cases c : splitOk units parts
  · rw [(split_no c).2] at h; cases h
  · rfl
theorem splitE_no (h : splitE units parts ≠ 0) : splitL units parts = [] := by
  cases c : splitOk units parts
  · exact (split_no c).1
  · exact absurd (split_yes c).2 h
theorem split_nonneg (h : SplitOk units parts) {k : Nat} (hk : k < (splitR units parts).length) : 0 ≤ (splitR units parts)[k] := by
  rw [split_at hk]
  have := (flo_lim h k).1
  rcases inc_01 (units := units) (parts := parts) (i := k) with c | c <;> omega
theorem split_part (h : SplitOk units parts) : ∀ k, k ≤ (splitR units parts).length → 0 ≤ sumI ((splitR units parts).take k) ∧ sumI ((splitR units parts).take k) ≤ units := fun k hk => by
  have h0 : ∀ m : List Int, (∀ x, x ∈ m → x ∈ splitR units parts) → 0 ≤ sumI m := fun m hm => sumI_nonneg fun x hx => by
    obtain ⟨i, hi, rfl⟩ := List.getElem_of_mem (hm x hx)
    exact split_nonneg h hi
  have h1 := h0 ((splitR units parts).take k) fun x hx => List.mem_of_mem_take hx
  have h2 := h0 ((splitR units parts).drop k) fun x hx => List.mem_of_mem_drop hx
  have h3 := split_sum h
  rw [← List.take_append_drop k (splitR units parts), sumI_append] at h3
  omega
theorem split_el (h : SplitOk units parts) {k : Nat} (hk : k < (splitR units parts).length) : 0 ≤ (splitR units parts)[k] ∧ (splitR units parts)[k] ≤ 1000000000000 := by
  have h1 := split_part h (k + 1) hk
  have h2 := split_part h k (Nat.le_of_lt hk)
  rw [sumI_take hk] at h1
  have := split_nonneg h hk
  have := h.u
  omega
theorem parts_at (h : SplitOk units parts) {k : Nat} (hk : k < parts.length) : parts.getD k 0 = parts[k] ∧ 0 ≤ parts[k] ∧ parts[k] ≤ 1000000 := by
  have e : parts.getD k 0 = parts[k] := by simp [List.getD_eq_getElem?_getD, hk]
  have := h.p k
  rw [e] at this
  exact ⟨e, this⟩
end
set_option maxRecDepth 100000 in
set_option maxHeartbeats 16000000 in
theorem law8_splits (units : Int) (A : Option Addr) (c : Nat) (parts : List Int) (w : World) (hE : Env w) (hp : InInt w A parts) (hpl : parts.length ≤ 140737488355328) :
    Calls Tryz.prog 7 #[.int .i64 units, .slice A parts.length c] w fun e w' => e = .returned (.bool true) ∧ Below w.heap.size w w' := by
  have kh := Lib.hid (head8_any w hE)
  replace hp := Lib.hid hp
  by_cases h30 : 30 < parts.length
  · have m1 : decide (30 < (parts.length : Int)) = true := decide_eq_true (by omega)
    have m1n : decide (30 < parts.length) = true := decide_eq_true h30
    go_enter Tryz.func7, Tryz.ntmps7
    go_wp2_with fail
    refine kh.out.mono ?_
    rintro e w1 ⟨rfl, hb⟩
    replace hb := Lib.hid hb
    go_wp2
    go_ret
    exact ⟨rfl, hb.out⟩
  · have m1 : decide (30 < (parts.length : Int)) = false := decide_eq_false (by omega)
    have m1n : decide (30 < parts.length) = false := decide_eq_false h30
    go_enter Tryz.func7, Tryz.ntmps7
    go_wp2_with fail
    refine kh.out.mono ?_
    rintro e w1 ⟨rfl, hb⟩
    have hB1 := Lib.hid hb; clear hb kh
    have ks := Lib.hid (Split_any units A c parts w1 (hp.out.below hB1.out) (by omega))
    go_wp2_with fail
    refine ks.out.mono ?_
    rintro e w2 ⟨⟨B, d, rfl, hin⟩, hb⟩
    have hB2 := Lib.hid (hB1.out.trans (hb.mono hB1.out.size)); clear hb ks hB1
    replace hin := Lib.hid hin
    by_cases hE0 : splitE units parts = 0
    rotate_left
    · have hnil := splitE_no hE0
      have m2 : (splitE units parts != 0) = true := by rw [bne_iff_ne]; exact hE0
      rw [hnil]
      replace hE0 := Lib.hid hE0; replace hnil := Lib.hid hnil
      clear hin
      generalize splitE units parts = E at m2 ⊢
      go_wp2
      go_ret
      exact ⟨rfl, hB2.out⟩
    · have hok := splitE_ok hE0
      have hSO := splitOk_iff hok
      rw [(split_yes hok).1] at hin ⊢
      rw [hE0]
      have hol : (splitR units parts).length = parts.length := split_len
      replace hok := Lib.hid hok; replace hE0 := Lib.hid hE0
      have hsum := split_sum hSO
      have hpart := Lib.hid (split_part hSO)
      have hel := Lib.hid (fun k hk => split_el hSO (k := k) hk)
      have hpa := Lib.hid (fun k hk => parts_at hSO (k := k) hk)
      have hshare := Lib.hid (fun k hk => split_share hSO (i := k) hk)
      have hmono := Lib.hid (fun i k hi hk h => split_mono hSO (i := i) (k := k) hi hk h)
      have hat := Lib.hid (fun k hk => split_at (units := units) (parts := parts) (i := k) hk)
      have hml := Lib.hid (fun k => mul_lim hSO k)
      have hss := hSO.s
      have huu := hSO.u
      have hsl := Lib.hid (fun k hk => sum_lim (parts := parts) k hk fun i h _ => (hpa.out i h).2)
      obtain ⟨out, hout⟩ : ∃ l, l = splitR units parts := ⟨_, rfl⟩
      rw [← hout] at hin hol hsum hpart ⊢
      simp only [← hout] at hel hat
      rw [hol]
      replace hout := Lib.hid hout; replace hSO := Lib.hid hSO
      go_wp2
      go_loopw [8, 9, 10] (fun sx tx ix wr => ∃ (k : Nat), k ≤ parts.length ∧ ix = .int .i64 (k : Int) ∧ sx = .int .i64 (sumI (parts.take k)) ∧ tx = .int .i64 (sumI (out.take k)) ∧ w2 = wr) (fun _ _ ix _ => parts.length - (intOf ix).toNat)
      case atStart => exact ⟨0, Nat.zero_le _, rfl, rfl, rfl, rfl⟩
      case round =>
        obtain ⟨k, hk, rfl, rfl, rfl, rfl⟩ := hrel
        have s1 := hsl.out k hk
        have s2 := hpart.out k (by omega)
        by_cases hkl : k < parts.length
        · obtain ⟨vb, vo, rfl, hvl, hcc⟩ := (hp.out.below hB2.out) (by omega)
          have hko : k < out.length := by omega
          obtain ⟨ob, oo, rfl, hol2, hoc⟩ := hin.out (by omega)
          have e1 := hcc k hkl; have e2 := hoc k hko
          clear hcc hoc
          have t1 := sumI_take hkl; have t2 := sumI_take hko
          have p1 := (hpa.out k hkl).2
          have p2 := hel.out k hko
          have j0 : (0 : Int) ≤ (k : Int) := by omega
          have j1 : (k : Int) < (parts.length : Int) := by omega
          generalize parts[k] = p at e1 t1 p1
          generalize out[k] = o at e2 t2 p2
          replace t1 := Lib.hid t1; replace t2 := Lib.hid t2
          generalize sumI (parts.take k) = S at s1 t1 ⊢
          generalize sumI (out.take k) = T at s2 t2 ⊢
          go_wp2
          exact ⟨⟨k + 1, by omega, by go_num, by rw [t1.out], by rw [t2.out], by first | rfl | trivial⟩, by simp only [intOf]; omega⟩
        · obtain rfl : k = parts.length := by omega
          rw [List.take_length]
          have hto : sumI (out.take parts.length) = units := by rw [← hol, List.take_length]; exact hsum
          rw [hto]
          clear hto s1 s2 hpart hsl hsum
          go_wp2
          go_loopw [11, 12, 13] (fun ix _ _ wr => ∃ (i : Nat), i ≤ parts.length ∧ ix = .int .i64 (i : Int) ∧ Hid (Below w2.heap.size w2 wr)) (fun ix _ _ _ => parts.length - (intOf ix).toNat)
          case atStart => exact ⟨0, Nat.zero_le _, rfl, Below.refl _ _⟩
          case round =>
            obtain ⟨i, hi, rfl, hbr⟩ := hrel
            obtain ⟨wz, rfl⟩ : ∃ z, z = wr := ⟨_, rfl⟩
            have hBz := Lib.hid (hB2.out.trans (hbr.out.mono hB2.out.size))
            by_cases hil : i < parts.length
            rotate_left
            · obtain rfl : i = parts.length := by omega
              go_wp2
              go_ret
              exact ⟨rfl, hBz.out⟩
            · obtain ⟨vb, vo, rfl, hvl, hcc⟩ := (hp.out.below hBz.out) (by omega)
              have hio : i < out.length := by omega
              obtain ⟨ob, oo, rfl, hol2, hoc⟩ := (hin.out.below hbr.out) (by omega)
              have e1 := hcc i hil; have e2 := hoc i hio
              clear hcc hoc
              obtain ⟨g1, p1, p2⟩ := hpa.out i hil
              obtain ⟨o1, o2⟩ := hel.out i hio
              obtain ⟨s1, s2, s3⟩ := hshare.out i hil
              have s4 := hml.out i
              rw [g1] at s1 s2 s3 s4
              rw [← hat.out i hio] at s1 s2 s3
              have hmi := Lib.hid (fun k hk (hlt : parts.getD k 0 < parts.getD i 0) => hmono.out i k hil hk hlt)
              have hai := Lib.hid (hat.out i hio)
              have hg1 := Lib.hid g1
              have j0 : (0 : Int) ≤ (i : Int) := by omega
              have j1 : (i : Int) < (parts.length : Int) := by omega
              clear g1
              obtain ⟨p, hpe⟩ : ∃ p, p = parts[i] := ⟨_, rfl⟩
              obtain ⟨o, hoe⟩ : ∃ o, o = out[i] := ⟨_, rfl⟩
              rw [← hpe] at e1 p1 p2 s1 s2 s3 s4; rw [← hoe] at e2 o1 o2 s1 s2 s3
              replace hpe := Lib.hid hpe; replace hoe := Lib.hid hoe
              obtain ⟨S, hSe⟩ : ∃ S, S = sumI parts := ⟨_, rfl⟩
              rw [← hSe] at s1 s2 hss ⊢
              replace hSe := Lib.hid hSe
              have s5 : 0 ≤ o * S := Int.mul_nonneg o1 (by omega)
              obtain ⟨s41, s42⟩ := s4
              obtain ⟨hs1, hs2⟩ := hss
              have s6 : o * S ≤ 2000000000000000000 := by omega
              have m3 : decide (units * p + S - 1 < o * S) = false := decide_eq_false (by omega)
              have m4 : decide (o * S < units * p - S + 1) = false := decide_eq_false (by omega)
              have hin2 : Hid (InInt wz (some ⟨ob, oo, none⟩) out) := hin.out.below hbr.out; have hp2 : Hid (InInt wz (some ⟨vb, vo, none⟩) parts) := hp.out.below hBz.out
              by_cases hp0 : p = 0
              · have o0 : o = 0 := s3 hp0
                have m2 : (p == 0) = true := by rw [beq_iff_eq]; exact hp0
                have m2b : (o != 0) = false := by rw [bne_eq_false_iff_eq]; exact o0
                replace hp0 := Lib.hid hp0; replace o0 := Lib.hid o0
                clear s3 s1 s2
                go_wp2
                clear m2 m3 m4 s5 s6 s41 s42 m2b
                go_loopw [13] (fun kx wr => ∃ (k : Nat), k ≤ parts.length ∧ kx = .int .i64 (k : Int) ∧ Hid (Below wz.heap.size wz wr)) (fun kx _ => parts.length - (intOf kx).toNat)
                case atStart => exact ⟨0, Nat.zero_le _, rfl, Below.refl _ _⟩
                case round =>
                  obtain ⟨k, hk, rfl, hbk⟩ := hrel
                  obtain ⟨wy, rfl⟩ : ∃ z, z = wr := ⟨_, rfl⟩
                  by_cases hkl : k < parts.length
                  rotate_left
                  · obtain rfl : k = parts.length := by omega
                    have hb9 : Hid (Below w2.heap.size w2 wy) := hbr.out.trans (hbk.out.mono hbr.out.size)
                    go_wp2
                    exact ⟨⟨i + 1, by omega, by go_num, hb9⟩, by simp only [intOf]; omega⟩
                  · obtain ⟨vb2, vo2, hA1, hvl2, hcc⟩ := (hp2.out.below hbk.out) (by omega)
                    simp only [Option.some.injEq, Addr.mk.injEq, and_true] at hA1
                    obtain ⟨rfl, rfl⟩ := hA1
                    have hko : k < out.length := by omega
                    obtain ⟨ob2, oo2, hA2, hol3, hoc⟩ := (hin2.out.below hbk.out) (by omega)
                    simp only [Option.some.injEq, Addr.mk.injEq, and_true] at hA2
                    obtain ⟨rfl, rfl⟩ := hA2
                    have c1 := hcc i hil; have c2 := hoc i hio; have c3 := hcc k hkl; have c4 := hoc k hko
                    clear hcc hoc
                    rw [← hpe.out] at c1; rw [← hoe.out] at c2
                    have q0 : (0 : Int) ≤ (k : Int) := by omega
                    have q1 : (k : Int) < (parts.length : Int) := by omega
                    have hmk : parts[k] < p → ¬ o < out[k] := fun hlt => by have h := hmi.out k hkl (by rw [hg1.out, (hpa.out k hkl).1, ← hpe.out]; exact hlt); rw [← hai.out, ← hat.out k hko, ← hoe.out] at h; omega
                    generalize parts[k] = pk at c3 hmk
                    generalize out[k] = ok at c4 hmk
                    by_cases hlt : pk < p
                    · have m5 : decide (pk < p) = true := decide_eq_true hlt
                      have m6 : decide (o < ok) = false := decide_eq_false (hmk hlt)
                      replace hlt := Lib.hid hlt; clear hmk
                      have hb8 : Hid (∀ q, Below wz.heap.size wz (wy.drewN q)) := fun q => blw_drewN hbk.out q
                      go_wp2_with fail
                      go_quiet (fail)
                      go_wp2
                      exact ⟨⟨k + 1, by omega, by go_num, hb8.out _⟩, by simp only [intOf]; omega⟩
                    · have m5 : decide (pk < p) = false := decide_eq_false hlt
                      replace hlt := Lib.hid hlt; clear hmk
                      have hb8 : Hid (∀ q, Below wz.heap.size wz (wy.drewN q)) := fun q => blw_drewN hbk.out q
                      go_wp2_with fail
                      go_quiet (fail)
                      go_wp2
                      exact ⟨⟨k + 1, by omega, by go_num, hb8.out _⟩, by simp only [intOf]; omega⟩
              · have m2 : (p == 0) = false := by rw [beq_eq_false_iff_ne]; exact hp0
                replace hp0 := Lib.hid hp0
                clear s3 s1 s2
                go_wp2
                clear m2 m3 m4 s5 s6 s41 s42
                go_loopw [13] (fun kx wr => ∃ (k : Nat), k ≤ parts.length ∧ kx = .int .i64 (k : Int) ∧ Hid (Below wz.heap.size wz wr)) (fun kx _ => parts.length - (intOf kx).toNat)
                case atStart => exact ⟨0, Nat.zero_le _, rfl, Below.refl _ _⟩
                case round =>
                  obtain ⟨k, hk, rfl, hbk⟩ := hrel
                  obtain ⟨wy, rfl⟩ : ∃ z, z = wr := ⟨_, rfl⟩
                  by_cases hkl : k < parts.length
                  rotate_left
                  · obtain rfl : k = parts.length := by omega
                    have hb9 : Hid (Below w2.heap.size w2 wy) := hbr.out.trans (hbk.out.mono hbr.out.size)
                    go_wp2
                    exact ⟨⟨i + 1, by omega, by go_num, hb9⟩, by simp only [intOf]; omega⟩
                  · obtain ⟨vb2, vo2, hA1, hvl2, hcc⟩ := (hp2.out.below hbk.out) (by omega)
                    simp only [Option.some.injEq, Addr.mk.injEq, and_true] at hA1
                    obtain ⟨rfl, rfl⟩ := hA1
                    have hko : k < out.length := by omega
                    obtain ⟨ob2, oo2, hA2, hol3, hoc⟩ := (hin2.out.below hbk.out) (by omega)
                    simp only [Option.some.injEq, Addr.mk.injEq, and_true] at hA2
                    obtain ⟨rfl, rfl⟩ := hA2
                    have c1 := hcc i hil; have c2 := hoc i hio; have c3 := hcc k hkl; have c4 := hoc k hko
                    clear hcc hoc
                    rw [← hpe.out] at c1; rw [← hoe.out] at c2
                    have q0 : (0 : Int) ≤ (k : Int) := by omega
                    have q1 : (k : Int) < (parts.length : Int) := by omega
                    have hmk : parts[k] < p → ¬ o < out[k] := fun hlt => by have h := hmi.out k hkl (by rw [hg1.out, (hpa.out k hkl).1, ← hpe.out]; exact hlt); rw [← hai.out, ← hat.out k hko, ← hoe.out] at h; omega
                    generalize parts[k] = pk at c3 hmk
                    generalize out[k] = ok at c4 hmk
                    by_cases hlt : pk < p
                    · have m5 : decide (pk < p) = true := decide_eq_true hlt
                      have m6 : decide (o < ok) = false := decide_eq_false (hmk hlt)
                      replace hlt := Lib.hid hlt; clear hmk
                      have hb8 : Hid (∀ q, Below wz.heap.size wz (wy.drewN q)) := fun q => blw_drewN hbk.out q
                      go_wp2_with fail
                      go_quiet (fail)
                      go_wp2
                      exact ⟨⟨k + 1, by omega, by go_num, hb8.out _⟩, by simp only [intOf]; omega⟩
                    · have m5 : decide (pk < p) = false := decide_eq_false hlt
                      replace hlt := Lib.hid hlt; clear hmk
                      have hb8 : Hid (∀ q, Below wz.heap.size wz (wy.drewN q)) := fun q => blw_drewN hbk.out q
                      go_wp2_with fail
                      go_quiet (fail)
                      go_wp2
                      exact ⟨⟨k + 1, by omega, by go_num, hb8.out _⟩, by simp only [intOf]; omega⟩
end Mo
end Go.Proofs.YtpmlhgmmobpilaaGreatDoor

namespace Go.Proofs.YtpmlhgmmobpilaaGreatDoor
open Go.RowKit Go.Shelf
namespace Mo
open Nt Ci
theorem diff_short {q : Rat} (h1 : (T (some q.num.natAbs)).size ≤ 60) (h2 : (T (some q.den)).size ≤ 60) {k : Int} (hk : InInt k) : ShortQ (q - (k : Rat)) := by
  have d1 : Dg 60 q := dg_of_size (by omega) h1 h2
  have d2 : Dg 19 (k : Rat) := ⟨by show k.natAbs < _; obtain ⟨a, b⟩ := hk; omega, by show 1 < _; omega⟩
  exact (d1.sub d2).short (by omega)
theorem short_60 {q : Rat} (h1 : (T (some q.num.natAbs)).size ≤ 60) (h2 : (T (some q.den)).size ≤ 60) : ShortQ q := (dg_of_size (k := 60) (by omega) h1 h2).short (by omega)
set_option maxRecDepth 100000 in
set_option maxHeartbeats 16000000 in
theorem law8_rounds (g : Bool) (n d : ByteArray) (N : Int) (w : World) (hE : Env w) (s1 : n.size ≤ 140737488355328) (s2 : d.size ≤ 140737488355328) (hN0 : -9223372036854775808 ≤ N) (hN1 : N ≤ 9223372036854775807) :
    Calls Tryz.prog 6 #[.agg #[.bool g, .string n, .string d], .int .i64 N] w fun e w' => e = .returned (.bool true) ∧ Below w.heap.size w w' := by
  obtain ⟨gN, nN, dN, qN⟩ := agg_qv (N : Rat)
  have hB1 : Hid (Below w.heap.size w (w.alloc (.cells #[.bool g, .string n, .string d] 23))) := (Below.refl _ w).alloc (Nat.le_refl _) _
  have hr1 : Hid (Bk (w.alloc (.cells #[.bool g, .string n, .string d] 23)) w.heap.size 23 [.bool g, .string n, .string d]) := Bk.new _ _ _
  have kh := Lib.hid (head8_any (w.alloc (.cells #[.bool g, .string n, .string d] 23)) (hE.below hB1.out))
  have ko : Hid (∀ W, Env W → Calls Tryz.prog 18 #[.int .i64 N, .int .i64 1] W fun e w' => e = .returned (.agg #[.bool gN, .string nN, .string dN]) ∧ Below W.heap.size W w') := fun W hW => by have h := of_any N 1 W hW hN0 hN1 (by omega) (by omega) (by omega); rw [ofQ_one, qN] at h; exact h
  obtain ⟨rm, hrm⟩ : ∃ x, x = roundV (N : Rat) := ⟨_, rfl⟩
  have hrv := hrm.trans (roundV_int hN0 hN1)
  have kr : Hid (∀ W, Env W → Calls Tryz.prog 12 #[.agg #[.bool gN, .string nN, .string dN]] W fun e w' => e = .returned (.tuple #[.int .i64 rm.1, .int .i64 rm.2]) ∧ Below W.heap.size W w') := fun W hW => by have h := Round_short (N : Rat) (short_int hN0 hN1) W hW; rw [qN, ← hrm] at h; exact h
  clear hrm qN
  obtain ⟨m, e0⟩ := rm
  replace kr : Hid (∀ W, Env W → Calls Tryz.prog 12 #[.agg #[.bool gN, .string nN, .string dN]] W fun e w' => e = .returned (.tuple #[.int .i64 m, .int .i64 e0]) ∧ Below W.heap.size W w') := kr
  have hme : (N = 9223372036854775807 ∧ m = 0 ∧ e0 = 10) ∨ (N ≠ 9223372036854775807 ∧ m = N ∧ e0 = 0) := by
    by_cases c : N = 9223372036854775807
    · rw [if_pos c] at hrv; simp only [Prod.mk.injEq] at hrv; exact .inl ⟨c, hrv.1, hrv.2⟩
    · rw [if_neg c] at hrv; simp only [Prod.mk.injEq] at hrv; exact .inr ⟨c, hrv.1, hrv.2⟩
  clear hrv
  replace hE := Lib.hid hE
  by_cases hlen : 60 < n.size ∨ 60 < d.size
  · rcases hme with ⟨rfl, rfl, rfl⟩ | ⟨hne, rfl, rfl⟩
    · skip
      by_cases c1 : 60 < n.size
      · have m1 : decide (60 < (n.size : Int)) = true := decide_eq_true (by omega)
        replace hlen := Lib.hid hlen; replace c1 := Lib.hid c1
        go_enter Tryz.func6, Tryz.ntmps6
        go_wp2_with fail
        refine kh.out.mono ?_
        rintro e w2 ⟨rfl, hb⟩
        have hB2 := Lib.hid (hB1.out.trans (hb.mono hB1.out.size)); have hr2 := Lib.hid (hr1.out.below hb)
        clear hb hB1 hr1 kh
        have ko2 := Lib.hid (ko.out w2 (hE.out.below hB2.out)); clear ko
        go_wp2_with fail
        refine ko2.out.mono ?_
        rintro e w3 ⟨rfl, hb⟩
        have hB3 := Lib.hid (hB2.out.trans (hb.mono hB2.out.size)); have hr3 := Lib.hid (hr2.out.below hb)
        clear hb hB2 hr2 ko2
        have hB4 : Hid (Below w.heap.size w (w3.alloc (.cells #[.bool gN, .string nN, .string dN] 23))) := hB3.out.alloc hB3.out.size _
        have hr4 := Lib.hid (hr3.out.alloc (.cells #[.bool gN, .string nN, .string dN] 23))
        have kr4 := Lib.hid (kr.out (w3.alloc (.cells #[.bool gN, .string nN, .string dN] 23)) (hE.out.below hB4.out)); clear kr hB3 hr3
        go_wp2_with fail
        refine kr4.out.mono ?_
        rintro e w5 ⟨rfl, hb⟩
        have hB5 := Lib.hid (hB4.out.trans (hb.mono hB4.out.size)); have hr5 := Lib.hid (hr4.out.below hb)
        clear hb hB4 hr4 kr4
        have x0 := hr5.out.cell (j := 0) rfl
        have x1 := hr5.out.cell (j := 1) rfl
        have x2 := hr5.out.cell (j := 2) rfl
        have x9 := hr5.out.lt
        go_wp2
        go_ret
        exact ⟨rfl, hB5.out⟩
      · have m1 : decide (60 < (n.size : Int)) = false := decide_eq_false (by omega); have m2 : decide (60 < (d.size : Int)) = true := decide_eq_true (by omega)
        replace hlen := Lib.hid hlen; replace c1 := Lib.hid c1
        go_enter Tryz.func6, Tryz.ntmps6
        go_wp2_with fail
        refine kh.out.mono ?_
        rintro e w2 ⟨rfl, hb⟩
        have hB2 := Lib.hid (hB1.out.trans (hb.mono hB1.out.size)); have hr2 := Lib.hid (hr1.out.below hb)
        clear hb hB1 hr1 kh
        have ko2 := Lib.hid (ko.out w2 (hE.out.below hB2.out)); clear ko
        go_wp2_with fail
        refine ko2.out.mono ?_
        rintro e w3 ⟨rfl, hb⟩
        have hB3 := Lib.hid (hB2.out.trans (hb.mono hB2.out.size)); have hr3 := Lib.hid (hr2.out.below hb)
        clear hb hB2 hr2 ko2
        have hB4 : Hid (Below w.heap.size w (w3.alloc (.cells #[.bool gN, .string nN, .string dN] 23))) := hB3.out.alloc hB3.out.size _
        have hr4 := Lib.hid (hr3.out.alloc (.cells #[.bool gN, .string nN, .string dN] 23))
        have kr4 := Lib.hid (kr.out (w3.alloc (.cells #[.bool gN, .string nN, .string dN] 23)) (hE.out.below hB4.out)); clear kr hB3 hr3
        go_wp2_with fail
        refine kr4.out.mono ?_
        rintro e w5 ⟨rfl, hb⟩
        have hB5 := Lib.hid (hB4.out.trans (hb.mono hB4.out.size)); have hr5 := Lib.hid (hr4.out.below hb)
        clear hb hB4 hr4 kr4
        have x0 := hr5.out.cell (j := 0) rfl
        have x1 := hr5.out.cell (j := 1) rfl
        have x2 := hr5.out.cell (j := 2) rfl
        have x9 := hr5.out.lt
        go_wp2
        go_ret
        exact ⟨rfl, hB5.out⟩
    · skip
      have t1 : (m != 9223372036854775807) = true := by rw [bne_iff_ne]; exact hne
      have t2 : (m == 9223372036854775807) = false := by rw [beq_eq_false_iff_ne]; exact hne
      replace hne := Lib.hid hne
      by_cases c1 : 60 < n.size
      · have m1 : decide (60 < (n.size : Int)) = true := decide_eq_true (by omega)
        replace hlen := Lib.hid hlen; replace c1 := Lib.hid c1
        go_enter Tryz.func6, Tryz.ntmps6
        go_wp2_with fail
        refine kh.out.mono ?_
        rintro e w2 ⟨rfl, hb⟩
        have hB2 := Lib.hid (hB1.out.trans (hb.mono hB1.out.size)); have hr2 := Lib.hid (hr1.out.below hb)
        clear hb hB1 hr1 kh
        have ko2 := Lib.hid (ko.out w2 (hE.out.below hB2.out)); clear ko
        go_wp2_with fail
        refine ko2.out.mono ?_
        rintro e w3 ⟨rfl, hb⟩
        have hB3 := Lib.hid (hB2.out.trans (hb.mono hB2.out.size)); have hr3 := Lib.hid (hr2.out.below hb)
        clear hb hB2 hr2 ko2
        have hB4 : Hid (Below w.heap.size w (w3.alloc (.cells #[.bool gN, .string nN, .string dN] 23))) := hB3.out.alloc hB3.out.size _
        have hr4 := Lib.hid (hr3.out.alloc (.cells #[.bool gN, .string nN, .string dN] 23))
        have kr4 := Lib.hid (kr.out (w3.alloc (.cells #[.bool gN, .string nN, .string dN] 23)) (hE.out.below hB4.out)); clear kr hB3 hr3
        go_wp2_with fail
        refine kr4.out.mono ?_
        rintro e w5 ⟨rfl, hb⟩
        have hB5 := Lib.hid (hB4.out.trans (hb.mono hB4.out.size)); have hr5 := Lib.hid (hr4.out.below hb)
        clear hb hB4 hr4 kr4
        have x0 := hr5.out.cell (j := 0) rfl
        have x1 := hr5.out.cell (j := 1) rfl
        have x2 := hr5.out.cell (j := 2) rfl
        have x9 := hr5.out.lt
        go_wp2
        go_ret
        exact ⟨rfl, hB5.out⟩
      · have m1 : decide (60 < (n.size : Int)) = false := decide_eq_false (by omega); have m2 : decide (60 < (d.size : Int)) = true := decide_eq_true (by omega)
        replace hlen := Lib.hid hlen; replace c1 := Lib.hid c1
        go_enter Tryz.func6, Tryz.ntmps6
        go_wp2_with fail
        refine kh.out.mono ?_
        rintro e w2 ⟨rfl, hb⟩
        have hB2 := Lib.hid (hB1.out.trans (hb.mono hB1.out.size)); have hr2 := Lib.hid (hr1.out.below hb)
        clear hb hB1 hr1 kh
        have ko2 := Lib.hid (ko.out w2 (hE.out.below hB2.out)); clear ko
        go_wp2_with fail
        refine ko2.out.mono ?_
        rintro e w3 ⟨rfl, hb⟩
        have hB3 := Lib.hid (hB2.out.trans (hb.mono hB2.out.size)); have hr3 := Lib.hid (hr2.out.below hb)
        clear hb hB2 hr2 ko2
        have hB4 : Hid (Below w.heap.size w (w3.alloc (.cells #[.bool gN, .string nN, .string dN] 23))) := hB3.out.alloc hB3.out.size _
        have hr4 := Lib.hid (hr3.out.alloc (.cells #[.bool gN, .string nN, .string dN] 23))
        have kr4 := Lib.hid (kr.out (w3.alloc (.cells #[.bool gN, .string nN, .string dN] 23)) (hE.out.below hB4.out)); clear kr hB3 hr3
        go_wp2_with fail
        refine kr4.out.mono ?_
        rintro e w5 ⟨rfl, hb⟩
        have hB5 := Lib.hid (hB4.out.trans (hb.mono hB4.out.size)); have hr5 := Lib.hid (hr4.out.below hb)
        clear hb hB4 hr4 kr4
        have x0 := hr5.out.cell (j := 0) rfl
        have x1 := hr5.out.cell (j := 1) rfl
        have x2 := hr5.out.cell (j := 2) rfl
        have x9 := hr5.out.lt
        go_wp2
        go_ret
        exact ⟨rfl, hB5.out⟩
  · have m1 : decide (60 < (n.size : Int)) = false := decide_eq_false (by omega); have m2 : decide (60 < (d.size : Int)) = false := decide_eq_false (by omega)
    have z1 : n.size ≤ 60 := by omega
    have z2 : d.size ≤ 60 := by omega
    replace hlen := Lib.hid hlen
    have t0 : Hid True := trivial
    have kv := Lib.hid (fun W (h : Env W) => Nt.Valid_any g n d W h (by omega) (by omega))
    have hR : (validB g n d = false ∧ ∀ W, Env W → Calls Tryz.prog 12 #[.agg #[.bool g, .string n, .string d]] W fun e w' => e = .returned (.tuple #[.int .i64 0, .int .i64 1]) ∧ Below W.heap.size W w') ∨ (validB g n d = true ∧ ((∀ W, Env W → Calls Tryz.prog 12 #[.agg #[.bool g, .string n, .string d]] W fun e w' => e = .returned (.tuple #[.int .i64 0, .int .i64 10]) ∧ Below W.heap.size W w') ∨ ∃ q : Rat, (.agg #[.bool g, .string n, .string d] : Value) = qv q ∧ InInt (roundQ q) ∧ ShortQ q ∧ ShortQ (q - (roundQ q : Rat)) ∧ ∀ W, Env W → Calls Tryz.prog 12 #[.agg #[.bool g, .string n, .string d]] W fun e w' => e = .returned (.tuple #[.int .i64 (roundQ q), .int .i64 0]) ∧ Below W.heap.size W w')) := by
      cases hv : validB g n d with
      | false => exact .inl ⟨rfl, fun W hW => Round_bad g n d W hW (by omega) (by omega) hv⟩
      | true =>
        right
        refine ⟨rfl, ?_⟩
        obtain ⟨q, hq, hg, hn, hd⟩ := of_valid hv
        have hqv : (.agg #[.bool g, .string n, .string d] : Value) = qv q := by rw [hg, hn, hd]; rfl
        have hs : ShortQ q := short_60 (by rw [← hn]; exact z1) (by rw [← hd]; exact z2)
        by_cases c : InInt q.floor ∧ q.floor ≠ 9223372036854775807
        · right
          have hrv : roundV q = (roundQ q, 0) := if_pos c
          refine ⟨q, hqv, round_in c, hs, diff_short (by rw [← hn]; exact z1) (by rw [← hd]; exact z2) (round_in c), fun W hW => ?_⟩
          have h := Round_short q hs W hW
          rw [hrv, ← hqv] at h
          exact h
        · left
          have hrv : roundV q = (0, 10) := if_neg c
          intro W hW
          have h := Round_short q hs W hW
          rw [hrv, ← hqv] at h
          exact h
    clear z1 z2
    have hT : (N = 9223372036854775807 ∧ m = 0 ∧ e0 = 10) ∨ (N ≠ 9223372036854775807 ∧ m = N ∧ e0 = 0) := hme
    clear hme
    rcases hR with ⟨hv, hr⟩ | ⟨hv, hr | ⟨q, hqv, hki, hsq, hsd, hr⟩⟩
    · skip
      rcases hT with ⟨rfl, rfl, rfl⟩ | ⟨hne, rfl, rfl⟩
      · skip
        rw [hv] at kv
        replace hr := Lib.hid hr
        go_enter Tryz.func6, Tryz.ntmps6
        go_wp2_with fail
        refine kh.out.mono ?_
        rintro e w2 ⟨rfl, hb⟩
        have hB2 := Lib.hid (hB1.out.trans (hb.mono hB1.out.size)); have hr2 := Lib.hid (hr1.out.below hb)
        clear hb hB1 hr1 kh
        have ko2 := Lib.hid (ko.out w2 (hE.out.below hB2.out)); clear ko
        go_wp2_with fail
        refine ko2.out.mono ?_
        rintro e w3 ⟨rfl, hb⟩
        have hB3 := Lib.hid (hB2.out.trans (hb.mono hB2.out.size)); have hr3 := Lib.hid (hr2.out.below hb)
        clear hb hB2 hr2 ko2
        have hB4 : Hid (Below w.heap.size w (w3.alloc (.cells #[.bool gN, .string nN, .string dN] 23))) := hB3.out.alloc hB3.out.size _
        have hr4 := Lib.hid (hr3.out.alloc (.cells #[.bool gN, .string nN, .string dN] 23))
        have kr4 := Lib.hid (kr.out (w3.alloc (.cells #[.bool gN, .string nN, .string dN] 23)) (hE.out.below hB4.out)); clear kr hB3 hr3
        go_wp2_with fail
        refine kr4.out.mono ?_
        rintro e w5 ⟨rfl, hb⟩
        have hB5 := Lib.hid (hB4.out.trans (hb.mono hB4.out.size)); have hr5 := Lib.hid (hr4.out.below hb)
        clear hb hB4 hr4 kr4
        have x0 := hr5.out.cell (j := 0) rfl
        have x1 := hr5.out.cell (j := 1) rfl
        have x2 := hr5.out.cell (j := 2) rfl
        have x9 := hr5.out.lt
        have kr5 := Lib.hid (hr.out w5 (hE.out.below hB5.out)); clear hr
        go_wp2_with fail
        refine kr5.out.mono ?_
        rintro e w6 ⟨rfl, hb⟩
        have hB6 := Lib.hid (hB5.out.trans (hb.mono hB5.out.size)); have hr6 := Lib.hid (hr5.out.below hb)
        clear hb hB5 hr5 kr5
        clear x0 x1 x2 x9
        have x0 := hr6.out.cell (j := 0) rfl
        have x1 := hr6.out.cell (j := 1) rfl
        have x2 := hr6.out.cell (j := 2) rfl
        have x9 := hr6.out.lt
        have kv6 := Lib.hid (kv.out w6 (hE.out.below hB6.out)); clear kv
        go_wp2_with fail
        refine kv6.out.mono ?_
        rintro e w7 ⟨rfl, hb⟩
        have hB7 := Lib.hid (hB6.out.trans (hb.mono hB6.out.size))
        clear hb kv6
        go_wp2
        go_ret
        exact ⟨rfl, hB7.out⟩
      · have t1 : (m != 9223372036854775807) = true := by rw [bne_iff_ne]; exact hne
        have t2 : (m == 9223372036854775807) = false := by rw [beq_eq_false_iff_ne]; exact hne
        replace hne := Lib.hid hne
        rw [hv] at kv
        replace hr := Lib.hid hr
        go_enter Tryz.func6, Tryz.ntmps6
        go_wp2_with fail
        refine kh.out.mono ?_
        rintro e w2 ⟨rfl, hb⟩
        have hB2 := Lib.hid (hB1.out.trans (hb.mono hB1.out.size)); have hr2 := Lib.hid (hr1.out.below hb)
        clear hb hB1 hr1 kh
        have ko2 := Lib.hid (ko.out w2 (hE.out.below hB2.out)); clear ko
        go_wp2_with fail
        refine ko2.out.mono ?_
        rintro e w3 ⟨rfl, hb⟩
        have hB3 := Lib.hid (hB2.out.trans (hb.mono hB2.out.size)); have hr3 := Lib.hid (hr2.out.below hb)
        clear hb hB2 hr2 ko2
        have hB4 : Hid (Below w.heap.size w (w3.alloc (.cells #[.bool gN, .string nN, .string dN] 23))) := hB3.out.alloc hB3.out.size _
        have hr4 := Lib.hid (hr3.out.alloc (.cells #[.bool gN, .string nN, .string dN] 23))
        have kr4 := Lib.hid (kr.out (w3.alloc (.cells #[.bool gN, .string nN, .string dN] 23)) (hE.out.below hB4.out)); clear kr hB3 hr3
        go_wp2_with fail
        refine kr4.out.mono ?_
        rintro e w5 ⟨rfl, hb⟩
        have hB5 := Lib.hid (hB4.out.trans (hb.mono hB4.out.size)); have hr5 := Lib.hid (hr4.out.below hb)
        clear hb hB4 hr4 kr4
        have x0 := hr5.out.cell (j := 0) rfl
        have x1 := hr5.out.cell (j := 1) rfl
        have x2 := hr5.out.cell (j := 2) rfl
        have x9 := hr5.out.lt
        have kr5 := Lib.hid (hr.out w5 (hE.out.below hB5.out)); clear hr
        go_wp2_with fail
        refine kr5.out.mono ?_
        rintro e w6 ⟨rfl, hb⟩
        have hB6 := Lib.hid (hB5.out.trans (hb.mono hB5.out.size)); have hr6 := Lib.hid (hr5.out.below hb)
        clear hb hB5 hr5 kr5
        clear x0 x1 x2 x9
        have x0 := hr6.out.cell (j := 0) rfl
        have x1 := hr6.out.cell (j := 1) rfl
        have x2 := hr6.out.cell (j := 2) rfl
        have x9 := hr6.out.lt
        have kv6 := Lib.hid (kv.out w6 (hE.out.below hB6.out)); clear kv
        go_wp2_with fail
        refine kv6.out.mono ?_
        rintro e w7 ⟨rfl, hb⟩
        have hB7 := Lib.hid (hB6.out.trans (hb.mono hB6.out.size))
        clear hb kv6
        go_wp2
        go_ret
        exact ⟨rfl, hB7.out⟩
    · skip
      rcases hT with ⟨rfl, rfl, rfl⟩ | ⟨hne, rfl, rfl⟩
      · skip
        rw [hv] at kv
        replace hr := Lib.hid hr
        go_enter Tryz.func6, Tryz.ntmps6
        go_wp2_with fail
        refine kh.out.mono ?_
        rintro e w2 ⟨rfl, hb⟩
        have hB2 := Lib.hid (hB1.out.trans (hb.mono hB1.out.size)); have hr2 := Lib.hid (hr1.out.below hb)
        clear hb hB1 hr1 kh
        have ko2 := Lib.hid (ko.out w2 (hE.out.below hB2.out)); clear ko
        go_wp2_with fail
        refine ko2.out.mono ?_
        rintro e w3 ⟨rfl, hb⟩
        have hB3 := Lib.hid (hB2.out.trans (hb.mono hB2.out.size)); have hr3 := Lib.hid (hr2.out.below hb)
        clear hb hB2 hr2 ko2
        have hB4 : Hid (Below w.heap.size w (w3.alloc (.cells #[.bool gN, .string nN, .string dN] 23))) := hB3.out.alloc hB3.out.size _
        have hr4 := Lib.hid (hr3.out.alloc (.cells #[.bool gN, .string nN, .string dN] 23))
        have kr4 := Lib.hid (kr.out (w3.alloc (.cells #[.bool gN, .string nN, .string dN] 23)) (hE.out.below hB4.out)); clear kr hB3 hr3
        go_wp2_with fail
        refine kr4.out.mono ?_
        rintro e w5 ⟨rfl, hb⟩
        have hB5 := Lib.hid (hB4.out.trans (hb.mono hB4.out.size)); have hr5 := Lib.hid (hr4.out.below hb)
        clear hb hB4 hr4 kr4
        have x0 := hr5.out.cell (j := 0) rfl
        have x1 := hr5.out.cell (j := 1) rfl
        have x2 := hr5.out.cell (j := 2) rfl
        have x9 := hr5.out.lt
        have kr5 := Lib.hid (hr.out w5 (hE.out.below hB5.out)); clear hr
        go_wp2_with fail
        refine kr5.out.mono ?_
        rintro e w6 ⟨rfl, hb⟩
        have hB6 := Lib.hid (hB5.out.trans (hb.mono hB5.out.size)); have hr6 := Lib.hid (hr5.out.below hb)
        clear hb hB5 hr5 kr5
        clear x0 x1 x2 x9
        have x0 := hr6.out.cell (j := 0) rfl
        have x1 := hr6.out.cell (j := 1) rfl
        have x2 := hr6.out.cell (j := 2) rfl
        have x9 := hr6.out.lt
        have kv6 := Lib.hid (kv.out w6 (hE.out.below hB6.out)); clear kv
        go_wp2_with fail
        refine kv6.out.mono ?_
        rintro e w7 ⟨rfl, hb⟩
        have hB7 := Lib.hid (hB6.out.trans (hb.mono hB6.out.size))
        clear hb kv6
        go_wp2
        go_ret
        exact ⟨rfl, hB7.out⟩
      · have t1 : (m != 9223372036854775807) = true := by rw [bne_iff_ne]; exact hne
        have t2 : (m == 9223372036854775807) = false := by rw [beq_eq_false_iff_ne]; exact hne
        replace hne := Lib.hid hne
        rw [hv] at kv
        replace hr := Lib.hid hr
        go_enter Tryz.func6, Tryz.ntmps6
        go_wp2_with fail
        refine kh.out.mono ?_
        rintro e w2 ⟨rfl, hb⟩
        have hB2 := Lib.hid (hB1.out.trans (hb.mono hB1.out.size)); have hr2 := Lib.hid (hr1.out.below hb)
        clear hb hB1 hr1 kh
        have ko2 := Lib.hid (ko.out w2 (hE.out.below hB2.out)); clear ko
        go_wp2_with fail
        refine ko2.out.mono ?_
        rintro e w3 ⟨rfl, hb⟩
        have hB3 := Lib.hid (hB2.out.trans (hb.mono hB2.out.size)); have hr3 := Lib.hid (hr2.out.below hb)
        clear hb hB2 hr2 ko2
        have hB4 : Hid (Below w.heap.size w (w3.alloc (.cells #[.bool gN, .string nN, .string dN] 23))) := hB3.out.alloc hB3.out.size _
        have hr4 := Lib.hid (hr3.out.alloc (.cells #[.bool gN, .string nN, .string dN] 23))
        have kr4 := Lib.hid (kr.out (w3.alloc (.cells #[.bool gN, .string nN, .string dN] 23)) (hE.out.below hB4.out)); clear kr hB3 hr3
        go_wp2_with fail
        refine kr4.out.mono ?_
        rintro e w5 ⟨rfl, hb⟩
        have hB5 := Lib.hid (hB4.out.trans (hb.mono hB4.out.size)); have hr5 := Lib.hid (hr4.out.below hb)
        clear hb hB4 hr4 kr4
        have x0 := hr5.out.cell (j := 0) rfl
        have x1 := hr5.out.cell (j := 1) rfl
        have x2 := hr5.out.cell (j := 2) rfl
        have x9 := hr5.out.lt
        have kr5 := Lib.hid (hr.out w5 (hE.out.below hB5.out)); clear hr
        go_wp2_with fail
        refine kr5.out.mono ?_
        rintro e w6 ⟨rfl, hb⟩
        have hB6 := Lib.hid (hB5.out.trans (hb.mono hB5.out.size)); have hr6 := Lib.hid (hr5.out.below hb)
        clear hb hB5 hr5 kr5
        clear x0 x1 x2 x9
        have x0 := hr6.out.cell (j := 0) rfl
        have x1 := hr6.out.cell (j := 1) rfl
        have x2 := hr6.out.cell (j := 2) rfl
        have x9 := hr6.out.lt
        have kv6 := Lib.hid (kv.out w6 (hE.out.below hB6.out)); clear kv
        go_wp2_with fail
        refine kv6.out.mono ?_
        rintro e w7 ⟨rfl, hb⟩
        have hB7 := Lib.hid (hB6.out.trans (hb.mono hB6.out.size))
        clear hb kv6
        go_wp2
        go_ret
        exact ⟨rfl, hB7.out⟩
    · obtain ⟨hc1, hc2⟩ := round_near q
      obtain ⟨K, hK⟩ : ∃ K, K = roundQ q := ⟨_, rfl⟩
      rw [← hK] at hc1 hc2 hki hsd
      simp only [← hK] at hr
      obtain ⟨hk0, hk1⟩ := hki
      obtain ⟨gK, nK, dK, qK⟩ := agg_qv (K : Rat)
      obtain ⟨gD, nD, dD, qD⟩ := agg_qv (q - (K : Rat))
      obtain ⟨gH, nH, dH, qH⟩ := agg_qv halfQ
      have koK : Hid (∀ W, Env W → Calls Tryz.prog 18 #[.int .i64 K, .int .i64 1] W fun e w' => e = .returned (.agg #[.bool gK, .string nK, .string dK]) ∧ Below W.heap.size W w') := fun W hW => by have h := of_any K 1 W hW hk0 hk1 (by omega) (by omega) (by omega); rw [ofQ_one, qK] at h; exact h
      have koH : Hid (∀ W, Env W → Calls Tryz.prog 18 #[.int .i64 1, .int .i64 2] W fun e w' => e = .returned (.agg #[.bool gH, .string nH, .string dH]) ∧ Below W.heap.size W w') := fun W hW => by have h := of_any 1 2 W hW (by omega) (by omega) (by omega) (by omega) (by omega); rw [ofQ_half, qH] at h; exact h
      have ksub : Hid (∀ W, Env W → Calls Tryz.prog 24 #[.agg #[.bool g, .string n, .string d], .agg #[.bool gK, .string nK, .string dK]] W fun e w' => e = .returned (.tuple #[.agg #[.bool gD, .string nD, .string dD], .int .i64 0]) ∧ Below W.heap.size W w') := fun W hW => by have h := Sub_short q (K : Rat) hsq (short_int hk0 hk1) W hW; rw [← hqv, qK, qD] at h; exact h
      have hab : (.agg #[.bool false, .string nD, .string dD] : Value) = qv (absR (q - (K : Rat))) := by
        rw [absR_qv]
        unfold qv at qD
        simp only [Value.agg.injEq, Array.mk.injEq, List.cons.injEq, Value.string.injEq, and_true] at qD
        rw [qD.2.1, qD.2.2]
      have kcm : Hid (∀ W, Env W → Calls Tryz.prog 25 #[.agg #[.bool false, .string nD, .string dD], .agg #[.bool gH, .string nH, .string dH]] W fun e w' => e = .returned (.tuple #[.int .i64 (cmpQ (absR (q - (K : Rat))) halfQ), .int .i64 0]) ∧ Below W.heap.size W w') := fun W hW => by have h := Compare_short (absR (q - (K : Rat))) halfQ (absR_short hsd) short_half W hW; rw [← hab, qH] at h; exact h
      generalize cmpQ (absR (q - (K : Rat))) halfQ = cc at kcm hc1 hc2
      clear hqv hsq hsd qK qD qH hab hK kv hv
      have v1 : decide (cc ≤ 0) = true := decide_eq_true hc1
      have hor : (decide (cc < 0) = true) ∨ (decide (cc < 0) = false ∧ (K.tmod 2 == 0) = true) := by
        by_cases c : cc < 0
        · exact .inl (decide_eq_true c)
        · exact .inr ⟨decide_eq_false c, by rw [beq_iff_eq]; exact hc2.resolve_left c⟩
      clear hc1 hc2
      rcases hT with ⟨rfl, rfl, rfl⟩ | ⟨hne, rfl, rfl⟩
      · skip
        replace hr := Lib.hid hr
        go_enter Tryz.func6, Tryz.ntmps6
        go_wp2_with fail
        refine kh.out.mono ?_
        rintro e w2 ⟨rfl, hb⟩
        have hB2 := Lib.hid (hB1.out.trans (hb.mono hB1.out.size)); have hr2 := Lib.hid (hr1.out.below hb)
        clear hb hB1 hr1 kh
        have ko2 := Lib.hid (ko.out w2 (hE.out.below hB2.out)); clear ko
        go_wp2_with fail
        refine ko2.out.mono ?_
        rintro e w3 ⟨rfl, hb⟩
        have hB3 := Lib.hid (hB2.out.trans (hb.mono hB2.out.size)); have hr3 := Lib.hid (hr2.out.below hb)
        clear hb hB2 hr2 ko2
        have hB4 : Hid (Below w.heap.size w (w3.alloc (.cells #[.bool gN, .string nN, .string dN] 23))) := hB3.out.alloc hB3.out.size _
        have hr4 := Lib.hid (hr3.out.alloc (.cells #[.bool gN, .string nN, .string dN] 23))
        have kr4 := Lib.hid (kr.out (w3.alloc (.cells #[.bool gN, .string nN, .string dN] 23)) (hE.out.below hB4.out)); clear kr hB3 hr3
        go_wp2_with fail
        refine kr4.out.mono ?_
        rintro e w5 ⟨rfl, hb⟩
        have hB5 := Lib.hid (hB4.out.trans (hb.mono hB4.out.size)); have hr5 := Lib.hid (hr4.out.below hb)
        clear hb hB4 hr4 kr4
        have x0 := hr5.out.cell (j := 0) rfl
        have x1 := hr5.out.cell (j := 1) rfl
        have x2 := hr5.out.cell (j := 2) rfl
        have x9 := hr5.out.lt
        have kr5 := Lib.hid (hr.out w5 (hE.out.below hB5.out)); clear hr
        go_wp2_with fail
        refine kr5.out.mono ?_
        rintro e w6 ⟨rfl, hb⟩
        have hB6 := Lib.hid (hB5.out.trans (hb.mono hB5.out.size)); have hr6 := Lib.hid (hr5.out.below hb)
        clear hb hB5 hr5 kr5
        clear x0 x1 x2 x9
        have x0 := hr6.out.cell (j := 0) rfl
        have x1 := hr6.out.cell (j := 1) rfl
        have x2 := hr6.out.cell (j := 2) rfl
        have x9 := hr6.out.lt
        have hS : Hid (∀ W, Below w6.heap.size w6 W → W.cell? ⟨w.heap.size, 0, none⟩ = some (.bool g) ∧ W.cell? ⟨w.heap.size, 1, none⟩ = some (.string n) ∧ W.cell? ⟨w.heap.size, 2, none⟩ = some (.string d)) := fun W hb => ⟨(hr6.out.below hb).cell (j := 0) rfl, (hr6.out.below hb).cell (j := 1) rfl, (hr6.out.below hb).cell (j := 2) rfl⟩
        have hd1 : Hid (Below w6.heap.size w6 w6.drew) := (Below.refl _ _).drew
        have hd2 : Hid (Below w6.heap.size w6 (w6.drew.alloc (.cells #[.bool false, .string ⟨#[]⟩, .string ⟨#[]⟩] 23))) := (Below.refl _ _).drew.alloc (Nat.le_refl _) _
        have hd3 : Hid (Below w6.heap.size w6 (w6.alloc (.cells #[.bool false, .string ⟨#[]⟩, .string ⟨#[]⟩] 23)).drew) := ((Below.refl _ _).alloc (Nat.le_refl _) _).drew
        have hz3 : Hid (Bk (w6.alloc (.cells #[.bool false, .string ⟨#[]⟩, .string ⟨#[]⟩] 23)).drew w6.heap.size 23 [.bool false, .string ⟨#[]⟩, .string ⟨#[]⟩]) := (Bk.new w6 _ _).below (Below.refl _ _).drew
        have hz1 : Hid (Bk (w6.drew.alloc (.cells #[.bool false, .string ⟨#[]⟩, .string ⟨#[]⟩] 23)) w6.heap.size 23 [.bool false, .string ⟨#[]⟩, .string ⟨#[]⟩]) := Bk.new w6.drew _ _
        have hz2 : Hid (∀ W : World, Bk (W.alloc (.cells #[.bool false, .string ⟨#[]⟩, .string ⟨#[]⟩] 23)) W.heap.size 23 [.bool false, .string ⟨#[]⟩, .string ⟨#[]⟩]) := fun W => Bk.new W _ _
        have hal : Hid (∀ W : World, Below w6.heap.size w6 W → Below w6.heap.size w6 (W.alloc (.cells #[.bool false, .string ⟨#[]⟩, .string ⟨#[]⟩] 23))) := fun W h => h.alloc h.size _
        have hao : Hid (∀ (W : World) o, Below w6.heap.size w6 W → Below w6.heap.size w6 (W.alloc o)) := fun W o h => h.alloc h.size _
        have hst : Hid (∀ (W : World) b v1 v2 v3, Below w6.heap.size w6 W → w6.heap.size ≤ b → Below w6.heap.size w6 (((W.setCell ⟨b, 0, none⟩ v1).setCell ⟨b, 1, none⟩ v2).setCell ⟨b, 2, none⟩ v3)) := fun W b v1 v2 v3 h hb => ((h.setCell (p := ⟨b, 0, none⟩) hb _).setCell (p := ⟨b, 1, none⟩) hb _).setCell (p := ⟨b, 2, none⟩) hb _
        have hEW : Hid (∀ W, Below w6.heap.size w6 W → Env W) := fun W h => hE.out.below (hB6.out.trans (h.mono hB6.out.size))
        go_wp2_with fail
        first | go_region_held3 (fun W => W.cell? ⟨w.heap.size, 0, none⟩ = some (.bool g) ∧ W.cell? ⟨w.heap.size, 1, none⟩ = some (.string n) ∧ W.cell? ⟨w.heap.size, 2, none⟩ = some (.string d)) (first | (with_reducible exact hS.out _ (Below.refl _ _)) | (with_reducible exact hS.out _ (Below.refl _ _).drew) | (with_reducible exact hS.out _ hd2.out) | (with_reducible exact hS.out _ hd3.out) | (with_reducible exact hS.out _ hb7.out) | (with_reducible exact hS.out _ (hal.out _ hb7.out)) | (with_reducible exact hS.out _ hb8.out) | (with_reducible exact hS.out _ (hao.out _ _ hb8.out)) | (with_reducible exact hS.out _ (hst.out _ _ _ _ _ hb8.out (Nat.le_refl _))) | (with_reducible exact hS.out _ (hst.out _ _ _ _ _ hb8.out hb7.out.size)) | go_keep) (first | ((with_reducible refine (koK.out w6.drew (hEW.out _ hd1.out)).mono ?_); rintro e w7 ⟨rfl, hb⟩; have hb7 : Hid (Below w6.heap.size w6 w7) := hd1.out.trans (hb.mono (Nat.le_refl _)); clear hb) | ((with_reducible refine (koK.out (w6.drew.alloc (.cells #[.bool false, .string ⟨#[]⟩, .string ⟨#[]⟩] 23)) (hEW.out _ hd2.out)).mono ?_); rintro e w7 ⟨rfl, hb⟩; have hb7 : Hid (Below w6.heap.size w6 w7) := hd2.out.trans (hb.mono hd2.out.size); have hza := Lib.hid (hz1.out.below hb); clear hb) | ((with_reducible refine (koK.out (w6.alloc (.cells #[.bool false, .string ⟨#[]⟩, .string ⟨#[]⟩] 23)).drew (hEW.out _ hd3.out)).mono ?_); rintro e w7 ⟨rfl, hb⟩; have hb7 : Hid (Below w6.heap.size w6 w7) := hd3.out.trans (hb.mono hd3.out.size); have hza := Lib.hid (hz3.out.below hb); clear hb) | ((with_reducible refine (ksub.out (w7.alloc (.cells #[.bool false, .string ⟨#[]⟩, .string ⟨#[]⟩] 23)) (hEW.out _ (hal.out _ hb7.out))).mono ?_); rintro e w8 ⟨rfl, hb⟩; have hb8 : Hid (Below w6.heap.size w6 w8) := (hal.out _ hb7.out).trans (hb.mono (hal.out _ hb7.out).size); have hD := Lib.hid ((hz2.out w7).below hb); have d0 := hD.out.cell (j := 0) rfl; have d1 := hD.out.cell (j := 1) rfl; have d2 := hD.out.cell (j := 2) rfl; have f0 := hD.out.frozen 0; have f1 := hD.out.frozen 1; have f2 := hD.out.frozen 2; have d9 := hD.out.lt; clear hb) | ((with_reducible refine (ksub.out w7 (hEW.out _ hb7.out)).mono ?_); rintro e w8 ⟨rfl, hb⟩; have hb8 : Hid (Below w6.heap.size w6 w8) := hb7.out.trans (hb.mono hb7.out.size); have hD := Lib.hid (hza.out.below hb); have d0 := hD.out.cell (j := 0) rfl; have d1 := hD.out.cell (j := 1) rfl; have d2 := hD.out.cell (j := 2) rfl; have f0 := hD.out.frozen 0; have f1 := hD.out.frozen 1; have f2 := hD.out.frozen 2; have d9 := hD.out.lt; clear hb) | ((with_reducible refine (ksub.out w7 (hEW.out _ hb7.out)).mono ?_); rintro e w8 ⟨rfl, hb⟩; have hb8 : Hid (Below w6.heap.size w6 w8) := hb7.out.trans (hb.mono hb7.out.size); clear hb)) | fail "x"
        all_goals go_wp2
        · have hbx : Hid (Below w6.heap.size w6 (w8.alloc (.cells #[.bool false, .string nD, .string dD] 23))) := hao.out _ _ hb8.out
          have hDx : Hid (Bk (w8.alloc (.cells #[.bool false, .string nD, .string dD] 23)) w8.heap.size 23 [.bool false, .string nD, .string dD]) := Bk.new _ _ _
          have hBx : Hid (Below w.heap.size w (w8.alloc (.cells #[.bool false, .string nD, .string dD] 23))) := hB6.out.trans (hbx.out.mono hB6.out.size)
          obtain ⟨db, hdb⟩ : ∃ x, x = w8.heap.size := ⟨_, rfl⟩
          obtain ⟨wq, hwq⟩ : ∃ W, W = (w8.alloc (.cells #[.bool false, .string nD, .string dD] 23)) := ⟨_, rfl⟩
          rw [← hwq] at hDx hBx ⊢
          rw [← hdb] at hDx ⊢
          replace hdb := Lib.hid hdb; replace hwq := Lib.hid hwq
          clear hbx hst hao hal hz1 hz2 hz3 hd1 hd2 hd3 hS hEW hB6 hr6
          have y0 := hDx.out.cell (j := 0) rfl; have y1 := hDx.out.cell (j := 1) rfl; have y2 := hDx.out.cell (j := 2) rfl; have y9 := hDx.out.lt
          have hBxd : Hid (Below w.heap.size w wq.drew) := hBx.out.drew
          have hSx : Hid (∀ W, Below wq.heap.size wq W → W.cell? ⟨db, 0, none⟩ = some (.bool false) ∧ W.cell? ⟨db, 1, none⟩ = some (.string nD) ∧ W.cell? ⟨db, 2, none⟩ = some (.string dD)) := fun W hb => ⟨(hDx.out.below hb).cell (j := 0) rfl, (hDx.out.below hb).cell (j := 1) rfl, (hDx.out.below hb).cell (j := 2) rfl⟩
          first | go_region_held3 (fun W => W.cell? ⟨db, 0, none⟩ = some (.bool false) ∧ W.cell? ⟨db, 1, none⟩ = some (.string nD) ∧ W.cell? ⟨db, 2, none⟩ = some (.string dD)) (first | (with_reducible exact hSx.out _ (Below.refl _ _)) | (with_reducible exact hSx.out _ (Below.refl _ _).drew) | (with_reducible exact hSx.out _ hb10.out) | (with_reducible exact hSx.out _ hb11.out) | go_keep) (first | ((with_reducible refine (koH.out wq.drew (hE.out.below hBxd.out)).mono ?_); rintro e w10 ⟨rfl, hb⟩; have hb10 : Hid (Below wq.heap.size wq w10) := (Below.refl _ _).drew.trans (hb.mono (Nat.le_refl _)); have hB10 := Lib.hid (hBxd.out.trans (hb.mono hBxd.out.size)); clear hb) | ((with_reducible refine (kcm.out w10 (hE.out.below hB10.out)).mono ?_); rintro e w11 ⟨rfl, hb⟩; have hb11 : Hid (Below wq.heap.size wq w11) := hb10.out.trans (hb.mono hb10.out.size); have hB11 := Lib.hid (hB10.out.trans (hb.mono hB10.out.size)); clear hb)) | fail "x"
          rcases hor with v2 | ⟨v2, v3⟩
          · go_wp2
            go_ret
            exact ⟨rfl, hB11.out⟩
          · go_wp2
            go_ret
            exact ⟨rfl, hB11.out⟩
        · have hbx : Hid (Below w6.heap.size w6 ((((w8.setCell ⟨w7.heap.size, 0, none⟩ (.bool gD)).setCell ⟨w7.heap.size, 1, none⟩ (.string nD)).setCell ⟨w7.heap.size, 2, none⟩ (.string dD)).setCell ⟨w7.heap.size, 0, none⟩ (.bool false))) := (hst.out _ _ _ _ _ hb8.out hb7.out.size).setCell (p := ⟨w7.heap.size, 0, none⟩) hb7.out.size _
          have hDx : Hid (Bk ((((w8.setCell ⟨w7.heap.size, 0, none⟩ (.bool gD)).setCell ⟨w7.heap.size, 1, none⟩ (.string nD)).setCell ⟨w7.heap.size, 2, none⟩ (.string dD)).setCell ⟨w7.heap.size, 0, none⟩ (.bool false)) w7.heap.size 23 [.bool false, .string nD, .string dD]) := (((hD.out.set 0 (.bool gD)).set 1 (.string nD)).set 2 (.string dD)).set 0 (.bool false)
          have hBx : Hid (Below w.heap.size w ((((w8.setCell ⟨w7.heap.size, 0, none⟩ (.bool gD)).setCell ⟨w7.heap.size, 1, none⟩ (.string nD)).setCell ⟨w7.heap.size, 2, none⟩ (.string dD)).setCell ⟨w7.heap.size, 0, none⟩ (.bool false))) := hB6.out.trans (hbx.out.mono hB6.out.size)
          obtain ⟨db, hdb⟩ : ∃ x, x = w7.heap.size := ⟨_, rfl⟩
          obtain ⟨wq, hwq⟩ : ∃ W, W = ((((w8.setCell ⟨w7.heap.size, 0, none⟩ (.bool gD)).setCell ⟨w7.heap.size, 1, none⟩ (.string nD)).setCell ⟨w7.heap.size, 2, none⟩ (.string dD)).setCell ⟨w7.heap.size, 0, none⟩ (.bool false)) := ⟨_, rfl⟩
          rw [← hwq] at hDx hBx ⊢
          rw [← hdb] at hDx ⊢
          replace hdb := Lib.hid hdb; replace hwq := Lib.hid hwq
          clear hbx hst hao hal hz1 hz2 hz3 hd1 hd2 hd3 hS hEW hB6 hr6 d0 d1 d2 f0 f1 f2 d9
          have y0 := hDx.out.cell (j := 0) rfl; have y1 := hDx.out.cell (j := 1) rfl; have y2 := hDx.out.cell (j := 2) rfl; have y9 := hDx.out.lt
          have hBxd : Hid (Below w.heap.size w wq.drew) := hBx.out.drew
          have hSx : Hid (∀ W, Below wq.heap.size wq W → W.cell? ⟨db, 0, none⟩ = some (.bool false) ∧ W.cell? ⟨db, 1, none⟩ = some (.string nD) ∧ W.cell? ⟨db, 2, none⟩ = some (.string dD)) := fun W hb => ⟨(hDx.out.below hb).cell (j := 0) rfl, (hDx.out.below hb).cell (j := 1) rfl, (hDx.out.below hb).cell (j := 2) rfl⟩
          first | go_region_held3 (fun W => W.cell? ⟨db, 0, none⟩ = some (.bool false) ∧ W.cell? ⟨db, 1, none⟩ = some (.string nD) ∧ W.cell? ⟨db, 2, none⟩ = some (.string dD)) (first | (with_reducible exact hSx.out _ (Below.refl _ _)) | (with_reducible exact hSx.out _ (Below.refl _ _).drew) | (with_reducible exact hSx.out _ hb10.out) | (with_reducible exact hSx.out _ hb11.out) | go_keep) (first | ((with_reducible refine (koH.out wq.drew (hE.out.below hBxd.out)).mono ?_); rintro e w10 ⟨rfl, hb⟩; have hb10 : Hid (Below wq.heap.size wq w10) := (Below.refl _ _).drew.trans (hb.mono (Nat.le_refl _)); have hB10 := Lib.hid (hBxd.out.trans (hb.mono hBxd.out.size)); clear hb) | ((with_reducible refine (kcm.out w10 (hE.out.below hB10.out)).mono ?_); rintro e w11 ⟨rfl, hb⟩; have hb11 : Hid (Below wq.heap.size wq w11) := hb10.out.trans (hb.mono hb10.out.size); have hB11 := Lib.hid (hB10.out.trans (hb.mono hB10.out.size)); clear hb)) | fail "x"
          rcases hor with v2 | ⟨v2, v3⟩
          · go_wp2
            go_ret
            exact ⟨rfl, hB11.out⟩
          · go_wp2
            go_ret
            exact ⟨rfl, hB11.out⟩
        · have hbx : Hid (Below w6.heap.size w6 ((((w8.setCell ⟨w6.heap.size, 0, none⟩ (.bool gD)).setCell ⟨w6.heap.size, 1, none⟩ (.string nD)).setCell ⟨w6.heap.size, 2, none⟩ (.string dD)).setCell ⟨w6.heap.size, 0, none⟩ (.bool false))) := (hst.out _ _ _ _ _ hb8.out (Nat.le_refl _)).setCell (p := ⟨w6.heap.size, 0, none⟩) (Nat.le_refl _) _
          have hDx : Hid (Bk ((((w8.setCell ⟨w6.heap.size, 0, none⟩ (.bool gD)).setCell ⟨w6.heap.size, 1, none⟩ (.string nD)).setCell ⟨w6.heap.size, 2, none⟩ (.string dD)).setCell ⟨w6.heap.size, 0, none⟩ (.bool false)) w6.heap.size 23 [.bool false, .string nD, .string dD]) := (((hD.out.set 0 (.bool gD)).set 1 (.string nD)).set 2 (.string dD)).set 0 (.bool false)
          have hBx : Hid (Below w.heap.size w ((((w8.setCell ⟨w6.heap.size, 0, none⟩ (.bool gD)).setCell ⟨w6.heap.size, 1, none⟩ (.string nD)).setCell ⟨w6.heap.size, 2, none⟩ (.string dD)).setCell ⟨w6.heap.size, 0, none⟩ (.bool false))) := hB6.out.trans (hbx.out.mono hB6.out.size)
          obtain ⟨db, hdb⟩ : ∃ x, x = w6.heap.size := ⟨_, rfl⟩
          obtain ⟨wq, hwq⟩ : ∃ W, W = ((((w8.setCell ⟨w6.heap.size, 0, none⟩ (.bool gD)).setCell ⟨w6.heap.size, 1, none⟩ (.string nD)).setCell ⟨w6.heap.size, 2, none⟩ (.string dD)).setCell ⟨w6.heap.size, 0, none⟩ (.bool false)) := ⟨_, rfl⟩
          rw [← hwq] at hDx hBx ⊢
          rw [← hdb] at hDx ⊢
          replace hdb := Lib.hid hdb; replace hwq := Lib.hid hwq
          clear hbx hst hao hal hz1 hz2 hz3 hd1 hd2 hd3 hS hEW hB6 hr6 d0 d1 d2 f0 f1 f2 d9
          have y0 := hDx.out.cell (j := 0) rfl; have y1 := hDx.out.cell (j := 1) rfl; have y2 := hDx.out.cell (j := 2) rfl; have y9 := hDx.out.lt
          have hBxd : Hid (Below w.heap.size w wq.drew) := hBx.out.drew
          have hSx : Hid (∀ W, Below wq.heap.size wq W → W.cell? ⟨db, 0, none⟩ = some (.bool false) ∧ W.cell? ⟨db, 1, none⟩ = some (.string nD) ∧ W.cell? ⟨db, 2, none⟩ = some (.string dD)) := fun W hb => ⟨(hDx.out.below hb).cell (j := 0) rfl, (hDx.out.below hb).cell (j := 1) rfl, (hDx.out.below hb).cell (j := 2) rfl⟩
          first | go_region_held3 (fun W => W.cell? ⟨db, 0, none⟩ = some (.bool false) ∧ W.cell? ⟨db, 1, none⟩ = some (.string nD) ∧ W.cell? ⟨db, 2, none⟩ = some (.string dD)) (first | (with_reducible exact hSx.out _ (Below.refl _ _)) | (with_reducible exact hSx.out _ (Below.refl _ _).drew) | (with_reducible exact hSx.out _ hb10.out) | (with_reducible exact hSx.out _ hb11.out) | go_keep) (first | ((with_reducible refine (koH.out wq.drew (hE.out.below hBxd.out)).mono ?_); rintro e w10 ⟨rfl, hb⟩; have hb10 : Hid (Below wq.heap.size wq w10) := (Below.refl _ _).drew.trans (hb.mono (Nat.le_refl _)); have hB10 := Lib.hid (hBxd.out.trans (hb.mono hBxd.out.size)); clear hb) | ((with_reducible refine (kcm.out w10 (hE.out.below hB10.out)).mono ?_); rintro e w11 ⟨rfl, hb⟩; have hb11 : Hid (Below wq.heap.size wq w11) := hb10.out.trans (hb.mono hb10.out.size); have hB11 := Lib.hid (hB10.out.trans (hb.mono hB10.out.size)); clear hb)) | fail "x"
          rcases hor with v2 | ⟨v2, v3⟩
          · go_wp2
            go_ret
            exact ⟨rfl, hB11.out⟩
          · go_wp2
            go_ret
            exact ⟨rfl, hB11.out⟩
      · have t1 : (m != 9223372036854775807) = true := by rw [bne_iff_ne]; exact hne
        have t2 : (m == 9223372036854775807) = false := by rw [beq_eq_false_iff_ne]; exact hne
        replace hne := Lib.hid hne
        replace hr := Lib.hid hr
        go_enter Tryz.func6, Tryz.ntmps6
        go_wp2_with fail
        refine kh.out.mono ?_
        rintro e w2 ⟨rfl, hb⟩
        have hB2 := Lib.hid (hB1.out.trans (hb.mono hB1.out.size)); have hr2 := Lib.hid (hr1.out.below hb)
        clear hb hB1 hr1 kh
        have ko2 := Lib.hid (ko.out w2 (hE.out.below hB2.out)); clear ko
        go_wp2_with fail
        refine ko2.out.mono ?_
        rintro e w3 ⟨rfl, hb⟩
        have hB3 := Lib.hid (hB2.out.trans (hb.mono hB2.out.size)); have hr3 := Lib.hid (hr2.out.below hb)
        clear hb hB2 hr2 ko2
        have hB4 : Hid (Below w.heap.size w (w3.alloc (.cells #[.bool gN, .string nN, .string dN] 23))) := hB3.out.alloc hB3.out.size _
        have hr4 := Lib.hid (hr3.out.alloc (.cells #[.bool gN, .string nN, .string dN] 23))
        have kr4 := Lib.hid (kr.out (w3.alloc (.cells #[.bool gN, .string nN, .string dN] 23)) (hE.out.below hB4.out)); clear kr hB3 hr3
        go_wp2_with fail
        refine kr4.out.mono ?_
        rintro e w5 ⟨rfl, hb⟩
        have hB5 := Lib.hid (hB4.out.trans (hb.mono hB4.out.size)); have hr5 := Lib.hid (hr4.out.below hb)
        clear hb hB4 hr4 kr4
        have x0 := hr5.out.cell (j := 0) rfl
        have x1 := hr5.out.cell (j := 1) rfl
        have x2 := hr5.out.cell (j := 2) rfl
        have x9 := hr5.out.lt
        have kr5 := Lib.hid (hr.out w5 (hE.out.below hB5.out)); clear hr
        go_wp2_with fail
        refine kr5.out.mono ?_
        rintro e w6 ⟨rfl, hb⟩
        have hB6 := Lib.hid (hB5.out.trans (hb.mono hB5.out.size)); have hr6 := Lib.hid (hr5.out.below hb)
        clear hb hB5 hr5 kr5
        clear x0 x1 x2 x9
        have x0 := hr6.out.cell (j := 0) rfl
        have x1 := hr6.out.cell (j := 1) rfl
        have x2 := hr6.out.cell (j := 2) rfl
        have x9 := hr6.out.lt
        have hS : Hid (∀ W, Below w6.heap.size w6 W → W.cell? ⟨w.heap.size, 0, none⟩ = some (.bool g) ∧ W.cell? ⟨w.heap.size, 1, none⟩ = some (.string n) ∧ W.cell? ⟨w.heap.size, 2, none⟩ = some (.string d)) := fun W hb => ⟨(hr6.out.below hb).cell (j := 0) rfl, (hr6.out.below hb).cell (j := 1) rfl, (hr6.out.below hb).cell (j := 2) rfl⟩
        have hd1 : Hid (Below w6.heap.size w6 w6.drew) := (Below.refl _ _).drew
        have hd2 : Hid (Below w6.heap.size w6 (w6.drew.alloc (.cells #[.bool false, .string ⟨#[]⟩, .string ⟨#[]⟩] 23))) := (Below.refl _ _).drew.alloc (Nat.le_refl _) _
        have hd3 : Hid (Below w6.heap.size w6 (w6.alloc (.cells #[.bool false, .string ⟨#[]⟩, .string ⟨#[]⟩] 23)).drew) := ((Below.refl _ _).alloc (Nat.le_refl _) _).drew
        have hz3 : Hid (Bk (w6.alloc (.cells #[.bool false, .string ⟨#[]⟩, .string ⟨#[]⟩] 23)).drew w6.heap.size 23 [.bool false, .string ⟨#[]⟩, .string ⟨#[]⟩]) := (Bk.new w6 _ _).below (Below.refl _ _).drew
        have hz1 : Hid (Bk (w6.drew.alloc (.cells #[.bool false, .string ⟨#[]⟩, .string ⟨#[]⟩] 23)) w6.heap.size 23 [.bool false, .string ⟨#[]⟩, .string ⟨#[]⟩]) := Bk.new w6.drew _ _
        have hz2 : Hid (∀ W : World, Bk (W.alloc (.cells #[.bool false, .string ⟨#[]⟩, .string ⟨#[]⟩] 23)) W.heap.size 23 [.bool false, .string ⟨#[]⟩, .string ⟨#[]⟩]) := fun W => Bk.new W _ _
        have hal : Hid (∀ W : World, Below w6.heap.size w6 W → Below w6.heap.size w6 (W.alloc (.cells #[.bool false, .string ⟨#[]⟩, .string ⟨#[]⟩] 23))) := fun W h => h.alloc h.size _
        have hao : Hid (∀ (W : World) o, Below w6.heap.size w6 W → Below w6.heap.size w6 (W.alloc o)) := fun W o h => h.alloc h.size _
        have hst : Hid (∀ (W : World) b v1 v2 v3, Below w6.heap.size w6 W → w6.heap.size ≤ b → Below w6.heap.size w6 (((W.setCell ⟨b, 0, none⟩ v1).setCell ⟨b, 1, none⟩ v2).setCell ⟨b, 2, none⟩ v3)) := fun W b v1 v2 v3 h hb => ((h.setCell (p := ⟨b, 0, none⟩) hb _).setCell (p := ⟨b, 1, none⟩) hb _).setCell (p := ⟨b, 2, none⟩) hb _
        have hEW : Hid (∀ W, Below w6.heap.size w6 W → Env W) := fun W h => hE.out.below (hB6.out.trans (h.mono hB6.out.size))
        go_wp2_with fail
        first | go_region_held3 (fun W => W.cell? ⟨w.heap.size, 0, none⟩ = some (.bool g) ∧ W.cell? ⟨w.heap.size, 1, none⟩ = some (.string n) ∧ W.cell? ⟨w.heap.size, 2, none⟩ = some (.string d)) (first | (with_reducible exact hS.out _ (Below.refl _ _)) | (with_reducible exact hS.out _ (Below.refl _ _).drew) | (with_reducible exact hS.out _ hd2.out) | (with_reducible exact hS.out _ hd3.out) | (with_reducible exact hS.out _ hb7.out) | (with_reducible exact hS.out _ (hal.out _ hb7.out)) | (with_reducible exact hS.out _ hb8.out) | (with_reducible exact hS.out _ (hao.out _ _ hb8.out)) | (with_reducible exact hS.out _ (hst.out _ _ _ _ _ hb8.out (Nat.le_refl _))) | (with_reducible exact hS.out _ (hst.out _ _ _ _ _ hb8.out hb7.out.size)) | go_keep) (first | ((with_reducible refine (koK.out w6.drew (hEW.out _ hd1.out)).mono ?_); rintro e w7 ⟨rfl, hb⟩; have hb7 : Hid (Below w6.heap.size w6 w7) := hd1.out.trans (hb.mono (Nat.le_refl _)); clear hb) | ((with_reducible refine (koK.out (w6.drew.alloc (.cells #[.bool false, .string ⟨#[]⟩, .string ⟨#[]⟩] 23)) (hEW.out _ hd2.out)).mono ?_); rintro e w7 ⟨rfl, hb⟩; have hb7 : Hid (Below w6.heap.size w6 w7) := hd2.out.trans (hb.mono hd2.out.size); have hza := Lib.hid (hz1.out.below hb); clear hb) | ((with_reducible refine (koK.out (w6.alloc (.cells #[.bool false, .string ⟨#[]⟩, .string ⟨#[]⟩] 23)).drew (hEW.out _ hd3.out)).mono ?_); rintro e w7 ⟨rfl, hb⟩; have hb7 : Hid (Below w6.heap.size w6 w7) := hd3.out.trans (hb.mono hd3.out.size); have hza := Lib.hid (hz3.out.below hb); clear hb) | ((with_reducible refine (ksub.out (w7.alloc (.cells #[.bool false, .string ⟨#[]⟩, .string ⟨#[]⟩] 23)) (hEW.out _ (hal.out _ hb7.out))).mono ?_); rintro e w8 ⟨rfl, hb⟩; have hb8 : Hid (Below w6.heap.size w6 w8) := (hal.out _ hb7.out).trans (hb.mono (hal.out _ hb7.out).size); have hD := Lib.hid ((hz2.out w7).below hb); have d0 := hD.out.cell (j := 0) rfl; have d1 := hD.out.cell (j := 1) rfl; have d2 := hD.out.cell (j := 2) rfl; have f0 := hD.out.frozen 0; have f1 := hD.out.frozen 1; have f2 := hD.out.frozen 2; have d9 := hD.out.lt; clear hb) | ((with_reducible refine (ksub.out w7 (hEW.out _ hb7.out)).mono ?_); rintro e w8 ⟨rfl, hb⟩; have hb8 : Hid (Below w6.heap.size w6 w8) := hb7.out.trans (hb.mono hb7.out.size); have hD := Lib.hid (hza.out.below hb); have d0 := hD.out.cell (j := 0) rfl; have d1 := hD.out.cell (j := 1) rfl; have d2 := hD.out.cell (j := 2) rfl; have f0 := hD.out.frozen 0; have f1 := hD.out.frozen 1; have f2 := hD.out.frozen 2; have d9 := hD.out.lt; clear hb) | ((with_reducible refine (ksub.out w7 (hEW.out _ hb7.out)).mono ?_); rintro e w8 ⟨rfl, hb⟩; have hb8 : Hid (Below w6.heap.size w6 w8) := hb7.out.trans (hb.mono hb7.out.size); clear hb)) | fail "x"
        all_goals go_wp2
        · have hbx : Hid (Below w6.heap.size w6 (w8.alloc (.cells #[.bool false, .string nD, .string dD] 23))) := hao.out _ _ hb8.out
          have hDx : Hid (Bk (w8.alloc (.cells #[.bool false, .string nD, .string dD] 23)) w8.heap.size 23 [.bool false, .string nD, .string dD]) := Bk.new _ _ _
          have hBx : Hid (Below w.heap.size w (w8.alloc (.cells #[.bool false, .string nD, .string dD] 23))) := hB6.out.trans (hbx.out.mono hB6.out.size)
          obtain ⟨db, hdb⟩ : ∃ x, x = w8.heap.size := ⟨_, rfl⟩
          obtain ⟨wq, hwq⟩ : ∃ W, W = (w8.alloc (.cells #[.bool false, .string nD, .string dD] 23)) := ⟨_, rfl⟩
          rw [← hwq] at hDx hBx ⊢
          rw [← hdb] at hDx ⊢
          replace hdb := Lib.hid hdb; replace hwq := Lib.hid hwq
          clear hbx hst hao hal hz1 hz2 hz3 hd1 hd2 hd3 hS hEW hB6 hr6
          have y0 := hDx.out.cell (j := 0) rfl; have y1 := hDx.out.cell (j := 1) rfl; have y2 := hDx.out.cell (j := 2) rfl; have y9 := hDx.out.lt
          have hBxd : Hid (Below w.heap.size w wq.drew) := hBx.out.drew
          have hSx : Hid (∀ W, Below wq.heap.size wq W → W.cell? ⟨db, 0, none⟩ = some (.bool false) ∧ W.cell? ⟨db, 1, none⟩ = some (.string nD) ∧ W.cell? ⟨db, 2, none⟩ = some (.string dD)) := fun W hb => ⟨(hDx.out.below hb).cell (j := 0) rfl, (hDx.out.below hb).cell (j := 1) rfl, (hDx.out.below hb).cell (j := 2) rfl⟩
          first | go_region_held3 (fun W => W.cell? ⟨db, 0, none⟩ = some (.bool false) ∧ W.cell? ⟨db, 1, none⟩ = some (.string nD) ∧ W.cell? ⟨db, 2, none⟩ = some (.string dD)) (first | (with_reducible exact hSx.out _ (Below.refl _ _)) | (with_reducible exact hSx.out _ (Below.refl _ _).drew) | (with_reducible exact hSx.out _ hb10.out) | (with_reducible exact hSx.out _ hb11.out) | go_keep) (first | ((with_reducible refine (koH.out wq.drew (hE.out.below hBxd.out)).mono ?_); rintro e w10 ⟨rfl, hb⟩; have hb10 : Hid (Below wq.heap.size wq w10) := (Below.refl _ _).drew.trans (hb.mono (Nat.le_refl _)); have hB10 := Lib.hid (hBxd.out.trans (hb.mono hBxd.out.size)); clear hb) | ((with_reducible refine (kcm.out w10 (hE.out.below hB10.out)).mono ?_); rintro e w11 ⟨rfl, hb⟩; have hb11 : Hid (Below wq.heap.size wq w11) := hb10.out.trans (hb.mono hb10.out.size); have hB11 := Lib.hid (hB10.out.trans (hb.mono hB10.out.size)); clear hb)) | fail "x"
          rcases hor with v2 | ⟨v2, v3⟩
          · go_wp2
            go_ret
            exact ⟨rfl, hB11.out⟩
          · go_wp2
            go_ret
            exact ⟨rfl, hB11.out⟩
        · have hbx : Hid (Below w6.heap.size w6 ((((w8.setCell ⟨w7.heap.size, 0, none⟩ (.bool gD)).setCell ⟨w7.heap.size, 1, none⟩ (.string nD)).setCell ⟨w7.heap.size, 2, none⟩ (.string dD)).setCell ⟨w7.heap.size, 0, none⟩ (.bool false))) := (hst.out _ _ _ _ _ hb8.out hb7.out.size).setCell (p := ⟨w7.heap.size, 0, none⟩) hb7.out.size _
          have hDx : Hid (Bk ((((w8.setCell ⟨w7.heap.size, 0, none⟩ (.bool gD)).setCell ⟨w7.heap.size, 1, none⟩ (.string nD)).setCell ⟨w7.heap.size, 2, none⟩ (.string dD)).setCell ⟨w7.heap.size, 0, none⟩ (.bool false)) w7.heap.size 23 [.bool false, .string nD, .string dD]) := (((hD.out.set 0 (.bool gD)).set 1 (.string nD)).set 2 (.string dD)).set 0 (.bool false)
          have hBx : Hid (Below w.heap.size w ((((w8.setCell ⟨w7.heap.size, 0, none⟩ (.bool gD)).setCell ⟨w7.heap.size, 1, none⟩ (.string nD)).setCell ⟨w7.heap.size, 2, none⟩ (.string dD)).setCell ⟨w7.heap.size, 0, none⟩ (.bool false))) := hB6.out.trans (hbx.out.mono hB6.out.size)
          obtain ⟨db, hdb⟩ : ∃ x, x = w7.heap.size := ⟨_, rfl⟩
          obtain ⟨wq, hwq⟩ : ∃ W, W = ((((w8.setCell ⟨w7.heap.size, 0, none⟩ (.bool gD)).setCell ⟨w7.heap.size, 1, none⟩ (.string nD)).setCell ⟨w7.heap.size, 2, none⟩ (.string dD)).setCell ⟨w7.heap.size, 0, none⟩ (.bool false)) := ⟨_, rfl⟩
          rw [← hwq] at hDx hBx ⊢
          rw [← hdb] at hDx ⊢
          replace hdb := Lib.hid hdb; replace hwq := Lib.hid hwq
          clear hbx hst hao hal hz1 hz2 hz3 hd1 hd2 hd3 hS hEW hB6 hr6 d0 d1 d2 f0 f1 f2 d9
          have y0 := hDx.out.cell (j := 0) rfl; have y1 := hDx.out.cell (j := 1) rfl; have y2 := hDx.out.cell (j := 2) rfl; have y9 := hDx.out.lt
          have hBxd : Hid (Below w.heap.size w wq.drew) := hBx.out.drew
          have hSx : Hid (∀ W, Below wq.heap.size wq W → W.cell? ⟨db, 0, none⟩ = some (.bool false) ∧ W.cell? ⟨db, 1, none⟩ = some (.string nD) ∧ W.cell? ⟨db, 2, none⟩ = some (.string dD)) := fun W hb => ⟨(hDx.out.below hb).cell (j := 0) rfl, (hDx.out.below hb).cell (j := 1) rfl, (hDx.out.below hb).cell (j := 2) rfl⟩
          first | go_region_held3 (fun W => W.cell? ⟨db, 0, none⟩ = some (.bool false) ∧ W.cell? ⟨db, 1, none⟩ = some (.string nD) ∧ W.cell? ⟨db, 2, none⟩ = some (.string dD)) (first | (with_reducible exact hSx.out _ (Below.refl _ _)) | (with_reducible exact hSx.out _ (Below.refl _ _).drew) | (with_reducible exact hSx.out _ hb10.out) | (with_reducible exact hSx.out _ hb11.out) | go_keep) (first | ((with_reducible refine (koH.out wq.drew (hE.out.below hBxd.out)).mono ?_); rintro e w10 ⟨rfl, hb⟩; have hb10 : Hid (Below wq.heap.size wq w10) := (Below.refl _ _).drew.trans (hb.mono (Nat.le_refl _)); have hB10 := Lib.hid (hBxd.out.trans (hb.mono hBxd.out.size)); clear hb) | ((with_reducible refine (kcm.out w10 (hE.out.below hB10.out)).mono ?_); rintro e w11 ⟨rfl, hb⟩; have hb11 : Hid (Below wq.heap.size wq w11) := hb10.out.trans (hb.mono hb10.out.size); have hB11 := Lib.hid (hB10.out.trans (hb.mono hB10.out.size)); clear hb)) | fail "x"
          rcases hor with v2 | ⟨v2, v3⟩
          · go_wp2
            go_ret
            exact ⟨rfl, hB11.out⟩
          · go_wp2
            go_ret
            exact ⟨rfl, hB11.out⟩
        · have hbx : Hid (Below w6.heap.size w6 ((((w8.setCell ⟨w6.heap.size, 0, none⟩ (.bool gD)).setCell ⟨w6.heap.size, 1, none⟩ (.string nD)).setCell ⟨w6.heap.size, 2, none⟩ (.string dD)).setCell ⟨w6.heap.size, 0, none⟩ (.bool false))) := (hst.out _ _ _ _ _ hb8.out (Nat.le_refl _)).setCell (p := ⟨w6.heap.size, 0, none⟩) (Nat.le_refl _) _
          have hDx : Hid (Bk ((((w8.setCell ⟨w6.heap.size, 0, none⟩ (.bool gD)).setCell ⟨w6.heap.size, 1, none⟩ (.string nD)).setCell ⟨w6.heap.size, 2, none⟩ (.string dD)).setCell ⟨w6.heap.size, 0, none⟩ (.bool false)) w6.heap.size 23 [.bool false, .string nD, .string dD]) := (((hD.out.set 0 (.bool gD)).set 1 (.string nD)).set 2 (.string dD)).set 0 (.bool false)
          have hBx : Hid (Below w.heap.size w ((((w8.setCell ⟨w6.heap.size, 0, none⟩ (.bool gD)).setCell ⟨w6.heap.size, 1, none⟩ (.string nD)).setCell ⟨w6.heap.size, 2, none⟩ (.string dD)).setCell ⟨w6.heap.size, 0, none⟩ (.bool false))) := hB6.out.trans (hbx.out.mono hB6.out.size)
          obtain ⟨db, hdb⟩ : ∃ x, x = w6.heap.size := ⟨_, rfl⟩
          obtain ⟨wq, hwq⟩ : ∃ W, W = ((((w8.setCell ⟨w6.heap.size, 0, none⟩ (.bool gD)).setCell ⟨w6.heap.size, 1, none⟩ (.string nD)).setCell ⟨w6.heap.size, 2, none⟩ (.string dD)).setCell ⟨w6.heap.size, 0, none⟩ (.bool false)) := ⟨_, rfl⟩
          rw [← hwq] at hDx hBx ⊢
          rw [← hdb] at hDx ⊢
          replace hdb := Lib.hid hdb; replace hwq := Lib.hid hwq
          clear hbx hst hao hal hz1 hz2 hz3 hd1 hd2 hd3 hS hEW hB6 hr6 d0 d1 d2 f0 f1 f2 d9
          have y0 := hDx.out.cell (j := 0) rfl; have y1 := hDx.out.cell (j := 1) rfl; have y2 := hDx.out.cell (j := 2) rfl; have y9 := hDx.out.lt
          have hBxd : Hid (Below w.heap.size w wq.drew) := hBx.out.drew
          have hSx : Hid (∀ W, Below wq.heap.size wq W → W.cell? ⟨db, 0, none⟩ = some (.bool false) ∧ W.cell? ⟨db, 1, none⟩ = some (.string nD) ∧ W.cell? ⟨db, 2, none⟩ = some (.string dD)) := fun W hb => ⟨(hDx.out.below hb).cell (j := 0) rfl, (hDx.out.below hb).cell (j := 1) rfl, (hDx.out.below hb).cell (j := 2) rfl⟩
          first | go_region_held3 (fun W => W.cell? ⟨db, 0, none⟩ = some (.bool false) ∧ W.cell? ⟨db, 1, none⟩ = some (.string nD) ∧ W.cell? ⟨db, 2, none⟩ = some (.string dD)) (first | (with_reducible exact hSx.out _ (Below.refl _ _)) | (with_reducible exact hSx.out _ (Below.refl _ _).drew) | (with_reducible exact hSx.out _ hb10.out) | (with_reducible exact hSx.out _ hb11.out) | go_keep) (first | ((with_reducible refine (koH.out wq.drew (hE.out.below hBxd.out)).mono ?_); rintro e w10 ⟨rfl, hb⟩; have hb10 : Hid (Below wq.heap.size wq w10) := (Below.refl _ _).drew.trans (hb.mono (Nat.le_refl _)); have hB10 := Lib.hid (hBxd.out.trans (hb.mono hBxd.out.size)); clear hb) | ((with_reducible refine (kcm.out w10 (hE.out.below hB10.out)).mono ?_); rintro e w11 ⟨rfl, hb⟩; have hb11 : Hid (Below wq.heap.size wq w11) := hb10.out.trans (hb.mono hb10.out.size); have hB11 := Lib.hid (hB10.out.trans (hb.mono hB10.out.size)); clear hb)) | fail "x"
          rcases hor with v2 | ⟨v2, v3⟩
          · go_wp2
            go_ret
            exact ⟨rfl, hB11.out⟩
          · go_wp2
            go_ret
            exact ⟨rfl, hB11.out⟩
end Mo
end Go.Proofs.YtpmlhgmmobpilaaGreatDoor

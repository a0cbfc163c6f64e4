/- Texts that the proof needs: MonHead, MonTextP, LawMTexts. -/
import Derived.Test.YtpmlhgmmobpilaaGreatDoorKtA
import Derived.Test.YtpmlhgmmobpilaaGreatDoorKtB
import Derived.Test.YtpmlhgmmobpilaaGreatDoorKtC
import Derived.Test.YtpmlhgmmobpilaaGreatDoorKtD
import Derived.Test.YtpmlhgmmobpilaaGreatDoorKtE
import Derived.Test.YtpmlhgmmobpilaaGreatDoorKtF
import Derived.Test.YtpmlhgmmobpilaaGreatDoorKtG
import Derived.Test.YtpmlhgmmobpilaaGreatDoorKtH
import Derived.Test.YtpmlhgmmobpilaaGreatDoorKtI
namespace Go.Proofs.YtpmlhgmmobpilaaGreatDoor
open Go.RowKit Go.Shelf
namespace Mo
open Nt Ci
set_option maxRecDepth 100000 in
theorem of_any (m n : Int) (w : World) (hE : Env w) (hm0 : -9223372036854775808 ≤ m) (hm1 : m ≤ 9223372036854775807) (hn0 : -9223372036854775808 ≤ n) (hn1 : n ≤ 9223372036854775807) (h0 : n ≠ 0) :
    Calls Tryz.prog 18 #[.int .i64 m, .int .i64 n] w fun e w' => e = .returned (qv (ofQ m n)) ∧ Below w.heap.size w w' := by
  obtain ⟨g, x, d, q0⟩ := agg_qv (ofQ m n)
  have hB1 : Hid (Below w.heap.size w (w.alloc (.cells #[.bool false, .string ⟨#[]⟩, .string ⟨#[]⟩] 23))) := (Below.refl _ w).alloc (Nat.le_refl _) _
  have hr1 : Hid (Bk (w.alloc (.cells #[.bool false, .string ⟨#[]⟩, .string ⟨#[]⟩] 23)) w.heap.size 23 [.bool false, .string ⟨#[]⟩, .string ⟨#[]⟩]) := Bk.new w _ _
  have ko : Hid (Calls Tryz.prog 46 #[.int .i64 m, .int .i64 n] (w.alloc (.cells #[.bool false, .string ⟨#[]⟩, .string ⟨#[]⟩] 23)) fun e w' => e = .returned (.tuple #[.agg #[.bool g, .string x, .string d], .int .i64 0]) ∧ Below (w.alloc (.cells #[.bool false, .string ⟨#[]⟩, .string ⟨#[]⟩] 23)).heap.size (w.alloc (.cells #[.bool false, .string ⟨#[]⟩, .string ⟨#[]⟩] 23)) w') := by
    have h := RatOf_any m n hm0 hm1 hn0 hn1 h0 _ (hE.below hB1.out)
    rw [q0] at h
    exact h
  rw [q0]
  clear hE
  go_enter Tryz.func18, Tryz.ntmps18
  go_wp2_with fail
  refine ko.out.mono ?_
  rintro e w2 ⟨rfl, hb⟩
  have hB2 := Lib.hid (hB1.out.trans (hb.mono hB1.out.size))
  have hr2 := Lib.hid (hr1.out.below hb)
  clear hb hB1 hr1 ko
  have r0 := hr2.out.cell (j := 0) rfl; have r1 := hr2.out.cell (j := 1) rfl; have r2 := hr2.out.cell (j := 2) rfl
  have f0 := hr2.out.frozen 0; have f1 := hr2.out.frozen 1; have f2 := hr2.out.frozen 2
  have r9 := hr2.out.lt
  have hB5 : Hid (Below w.heap.size w ((((w2.setCell ⟨w.heap.size, 0, none⟩ (.bool g)).setCell ⟨w.heap.size, 1, none⟩ (.string x)).setCell ⟨w.heap.size, 2, none⟩ (.string d)).alloc (.cells #[.bool g, .string x, .string d] 23))) := by
    have h := ((hB2.out.setCell (p := ⟨w.heap.size, 0, none⟩) (Nat.le_refl _) (.bool g)).setCell (p := ⟨w.heap.size, 1, none⟩) (Nat.le_refl _) (.string x)).setCell (p := ⟨w.heap.size, 2, none⟩) (Nat.le_refl _) (.string d)
    exact h.alloc h.size _
  have hR5 : Hid (Bk ((((w2.setCell ⟨w.heap.size, 0, none⟩ (.bool g)).setCell ⟨w.heap.size, 1, none⟩ (.string x)).setCell ⟨w.heap.size, 2, none⟩ (.string d)).alloc (.cells #[.bool g, .string x, .string d] 23)) w.heap.size 23 [.bool g, .string x, .string d]) := (((hr2.out.set 0 (.bool g)).set 1 (.string x)).set 2 (.string d)).alloc _
  go_wp2
  (try simp only [Exit.inBlock, Exit.then])
  have s0 := hR5.out.cell (j := 0) rfl; have s1 := hR5.out.cell (j := 1) rfl; have s2 := hR5.out.cell (j := 2) rfl
  have s9 := hR5.out.lt
  refine bodyPost_ret (v := .agg #[.bool g, .string x, .string d]) (by simp [results, Tryz.results18, go_sem, s0, s1, s2]) rfl ⟨rfl, hB5.out⟩
def ratesL : List Rt := [(⟨#[85, 83, 68]⟩, 10, 4, 5), (⟨#[85, 83, 68]⟩, 0, 9, 10), (⟨#[67, 72, 70]⟩, 0, 1, 1)]
set_option maxRecDepth 100000 in
theorem rates_any (w : World) : Calls Tryz.prog 43 #[] w fun e w' => (e = .returned (.slice (some ⟨w.heap.size, 0, none⟩) 3 3) ∧ InRt w' (some ⟨w.heap.size, 0, none⟩) ratesL ∧ w.heap.size < w'.heap.size) ∧ Below w.heap.size w w' := by
  have hb := Lib.hid (Bk.new w 42 [.string ⟨#[85, 83, 68]⟩, .int .i64 10, .int .i64 4, .int .i64 5, .string ⟨#[85, 83, 68]⟩, .int .i64 0, .int .i64 9, .int .i64 10, .string ⟨#[67, 72, 70]⟩, .int .i64 0, .int .i64 1, .int .i64 1])
  have hB1 : Hid (Below w.heap.size w (w.alloc (.cells #[.string ⟨#[85, 83, 68]⟩, .int .i64 10, .int .i64 4, .int .i64 5, .string ⟨#[85, 83, 68]⟩, .int .i64 0, .int .i64 9, .int .i64 10, .string ⟨#[67, 72, 70]⟩, .int .i64 0, .int .i64 1, .int .i64 1] 42))) := (Below.refl _ w).alloc (Nat.le_refl _) _
  have hI : Hid (InRt (w.alloc (.cells #[.string ⟨#[85, 83, 68]⟩, .int .i64 10, .int .i64 4, .int .i64 5, .string ⟨#[85, 83, 68]⟩, .int .i64 0, .int .i64 9, .int .i64 10, .string ⟨#[67, 72, 70]⟩, .int .i64 0, .int .i64 1, .int .i64 1] 42)) (some ⟨w.heap.size, 0, none⟩) ratesL) := fun _ => ⟨w.heap.size, 0, rfl, hb.out.lt, fun j hj => by
    match j, hj with
    | 0, _ => exact ⟨hb.out.cell (j := 0) rfl, hb.out.cell (j := 1) rfl, hb.out.cell (j := 2) rfl, hb.out.cell (j := 3) rfl⟩
    | 1, _ => exact ⟨hb.out.cell (j := 4) rfl, hb.out.cell (j := 5) rfl, hb.out.cell (j := 6) rfl, hb.out.cell (j := 7) rfl⟩
    | 2, _ => exact ⟨hb.out.cell (j := 8) rfl, hb.out.cell (j := 9) rfl, hb.out.cell (j := 10) rfl, hb.out.cell (j := 11) rfl⟩
    | j + 3, hj => exact absurd hj (by simp [ratesL])⟩
  have hl := Lib.hid hb.out.lt
  clear hb
  go_enter Tryz.func43, Tryz.ntmps43
  go_wp2
  go_ret
  exact ⟨⟨rfl, hI.out, hl.out⟩, hB1.out⟩
theorem rates_sz : RtSz ratesL := by
  intro x hx
  simp only [ratesL, List.mem_cons, List.mem_nil_iff, or_false] at hx
  rcases hx with rfl | rfl | rfl <;> decide
set_option maxRecDepth 100000 in
set_option maxHeartbeats 4000000 in
theorem head1_any (c tc : ByteArray) (u day m n : Int) (lb : Nat) (A : Option Addr) (w : World) (hE : Env w) (hlb : w.cell? ⟨lb, 0, none⟩ = some (.slice A 3 3)) (hA : InRt w A ratesL) (hc : c.size ≤ 100) (ht : tc.size ≤ 100) (hm : -1000 ≤ m ∧ m ≤ 1000) (hn : 1 ≤ n ∧ n ≤ 1000) (hv : convR ratesL ⟨#[69, 85, 82]⟩ c u tc day = (some (ofQ m n), 0)) :
    Calls Tryz.prog 44 #[.string c, .int .i64 u, .string tc, .int .i64 day, .int .i64 m, .int .i64 n, .pointer (some ⟨lb, 0, none⟩)] w fun e w' => e = .returned (.bool true) ∧ Below w.heap.size w w' := by
  obtain ⟨g, x, d, q0⟩ := agg_qv (ofQ m n)
  have kc : Hid (Calls Tryz.prog 17 #[.slice A 3 3, .string ⟨#[69, 85, 82]⟩, .agg #[.string c, .int .i64 u], .string tc, .int .i64 day] w fun e w' => e = .returned (.tuple #[.agg #[.bool g, .string x, .string d], .int .i64 0]) ∧ Below w.heap.size w w') := by
    have h := Convert_any ratesL A 3 ⟨#[69, 85, 82]⟩ c u tc day w hE hA (by decide) (by decide) (by omega) (by omega) rates_sz
    rw [hv] at h
    rw [show cvV (some (ofQ m n), (0 : Int)).1 = .agg #[.bool g, .string x, .string d] from q0] at h
    exact h
  have ko : Hid (∀ W, Env W → Calls Tryz.prog 18 #[.int .i64 m, .int .i64 n] W fun e w' => e = .returned (.agg #[.bool g, .string x, .string d]) ∧ Below W.heap.size W w') := fun W hW => by
    have h := of_any m n W hW (by omega) (by omega) (by omega) (by omega) (by omega)
    rw [q0] at h
    exact h
  have hll := World.block_lt_of_cell? w _ hlb
  replace hE := Lib.hid hE
  clear hA hv q0
  go_enter Tryz.func44, Tryz.ntmps44
  go_wp2_with fail
  refine kc.out.mono ?_
  rintro e w2 ⟨rfl, hb⟩
  have hB3 : Hid (Below w.heap.size w (w2.alloc (.cells #[.bool g, .string x, .string d] 23))) := hb.alloc hb.size _
  have hr3 : Hid (Bk (w2.alloc (.cells #[.bool g, .string x, .string d] 23)) w2.heap.size 23 [.bool g, .string x, .string d]) := Bk.new _ _ _
  clear hb kc hlb hll
  go_wp2_with fail
  obtain ⟨w3, hw3⟩ : ∃ W, W = w2.alloc (.cells #[.bool g, .string x, .string d] 23) := ⟨_, rfl⟩
  rw [← hw3] at hB3 hr3 ⊢
  obtain ⟨rb, hrb⟩ : ∃ x, x = w2.heap.size := ⟨_, rfl⟩
  rw [← hrb] at hr3 ⊢
  replace hw3 := Lib.hid hw3; replace hrb := Lib.hid hrb
  have hB3d : Hid (Below w.heap.size w w3.drew) := hB3.out.drew
  have r0 := hr3.out.cell (j := 0) rfl; have r1 := hr3.out.cell (j := 1) rfl; have r2 := hr3.out.cell (j := 2) rfl; have r9 := hr3.out.lt
  have hS : Hid (∀ W, Below w3.heap.size w3 W → W.cell? ⟨rb, 0, none⟩ = some (.bool g) ∧ W.cell? ⟨rb, 1, none⟩ = some (.string x) ∧ W.cell? ⟨rb, 2, none⟩ = some (.string d)) := fun W hb => ⟨(hr3.out.below hb).cell (j := 0) rfl, (hr3.out.below hb).cell (j := 1) rfl, (hr3.out.below hb).cell (j := 2) rfl⟩
  go_region_held3 (fun W => W.cell? ⟨rb, 0, none⟩ = some (.bool g) ∧ W.cell? ⟨rb, 1, none⟩ = some (.string x) ∧ W.cell? ⟨rb, 2, none⟩ = some (.string d)) (first | (with_reducible exact hS.out _ (Below.refl _ _)) | (with_reducible exact hS.out _ (Below.refl _ _).drew) | (with_reducible exact hS.out _ hb4.out) | go_keep) (first | (refine (ko.out _ (hE.out.below hB3d.out)).mono ?_; rintro e w4 ⟨rfl, hb⟩; have hB4 := Lib.hid (hB3d.out.trans (hb.mono hB3d.out.size)); have hb4 : Hid (Below w3.heap.size w3 w4) := ((Below.refl _ w3).drew.trans (hb.mono (Nat.le_refl _))); clear hb))
  go_wp2
  go_ret
  exact ⟨by simp, hB4.out⟩
theorem hv1 : convR ratesL ⟨#[69, 85, 82]⟩ ⟨#[85, 83, 68]⟩ 100 ⟨#[69, 85, 82]⟩ 9 = (some (ofQ 90 1), 0) := by decide +kernel
theorem hv2 : convR ratesL ⟨#[69, 85, 82]⟩ ⟨#[85, 83, 68]⟩ 100 ⟨#[69, 85, 82]⟩ 10 = (some (ofQ 80 1), 0) := by decide +kernel
theorem hv3 : convR ratesL ⟨#[69, 85, 82]⟩ ⟨#[69, 85, 82]⟩ 10 ⟨#[85, 83, 68]⟩ 10 = (some (ofQ 25 2), 0) := by decide +kernel
theorem hv4 : convR ratesL ⟨#[69, 85, 82]⟩ ⟨#[67, 72, 70]⟩ 9 ⟨#[85, 83, 68]⟩ 0 = (some (ofQ 10 1), 0) := by decide +kernel
theorem hf1 : findR ratesL ⟨#[69, 85, 82]⟩ ⟨#[71, 66, 80]⟩ 5 = (noR, 11) := by decide +kernel
theorem hr1 : roundV (ofQ 5 2) = (2, 0) := by decide +kernel
theorem hr2 : roundV (ofQ 7 2) = (4, 0) := by decide +kernel
theorem hr3 : roundV (ofQ (-5) 2) = (-2, 0) := by decide +kernel
theorem hs1 : splitL 10 [1, 1, 1] = [4, 3, 3] := by decide +kernel
theorem he1 : splitE 10 [1, 1, 1] = 0 := by decide +kernel
theorem hs2 : splitL 7 [0, 2, 1] = [0, 5, 2] := by decide +kernel
theorem he2 : splitE 7 [0, 2, 1] = 0 := by decide +kernel
theorem sh1 : ShortQ (ofQ 5 2) := (ofQ_dg (by decide) (by decide)).short (by omega)
theorem sh2 : ShortQ (ofQ 7 2) := (ofQ_dg (by decide) (by decide)).short (by omega)
theorem sh3 : ShortQ (ofQ (-5) 2) := by
  have h := mkRat_le (sg (!(decide ((-5 : Int) < 0) == decide ((2 : Int) < 0))) (-5 : Int).natAbs) (2 : Int).natAbs (by decide)
  have d : Dg 7 (ofQ (-5) 2) := ⟨Nat.lt_of_le_of_lt h.1 (by rw [sg_natAbs]; decide), Nat.lt_of_le_of_lt h.2 (by decide)⟩
  exact d.short (by omega)
/-- A slice of three ints that was just laid. -/
theorem in3 (w : World) (a b c : Int) : InInt (w.alloc (.cells #[.int .i64 a, .int .i64 b, .int .i64 c] 3)) (some ⟨w.heap.size, 0, none⟩) [a, b, c] := fun _ => by
  have h := Bk.new w 3 [.int .i64 a, .int .i64 b, .int .i64 c]
  refine ⟨w.heap.size, 0, rfl, h.lt, fun j hj => ?_⟩
  match j, hj with
  | 0, _ => exact h.cell (j := 0) rfl
  | 1, _ => exact h.cell (j := 1) rfl
  | 2, _ => exact h.cell (j := 2) rfl
  | j + 3, hj => exact absurd hj (by simp)
set_option maxRecDepth 100000 in
set_option maxHeartbeats 8000000 in
theorem head8_any (w : World) (hE : Env w) : Calls Tryz.prog 11 #[] w fun e w' => e = .returned (.bool true) ∧ Below w.heap.size w w' := by
  replace hE := Lib.hid hE
  have hB0 : Hid (Below w.heap.size w w) := Below.refl _ _
  have kr := Lib.hid (rates_any w)
  go_enter Tryz.func11, Tryz.ntmps11
  go_wp2_with fail
  refine kr.out.mono ?_
  rintro e w1 ⟨⟨rfl, hI1, hlt⟩, hb⟩
  have hB1 := Lib.hid hb; replace hI1 := Lib.hid hI1; clear hb kr hB0
  have hbb : Hid (Below w1.heap.size w1 (w1.alloc (.cells #[.slice (some ⟨w.heap.size, 0, none⟩) 3 3] 33))) := (Below.refl _ _).alloc (Nat.le_refl _) _
  have hBb := Lib.hid (hB1.out.trans (hbb.out.mono hB1.out.size))
  have hIb := Lib.hid (hI1.out.below hbb.out)
  clear hbb hB1 hI1
  have hLb : Hid (Bk (w1.alloc (.cells #[.slice (some ⟨w.heap.size, 0, none⟩) 3 3] 33)) w1.heap.size 33 [.slice (some ⟨w.heap.size, 0, none⟩) 3 3]) := Bk.new _ _ _
  obtain ⟨lb, hlb⟩ : ∃ x, x = w1.heap.size := ⟨_, rfl⟩
  have kf : Hid (Calls Tryz.prog 21 #[.slice (some ⟨w.heap.size, 0, none⟩) 3 3, .string ⟨#[69, 85, 82]⟩, .string ⟨#[71, 66, 80]⟩, .int .i64 5] (w1.alloc (.cells #[.slice (some ⟨w.heap.size, 0, none⟩) 3 3] 33)) fun e w' => e = .returned (.tuple #[.agg #[.string ⟨#[]⟩, .int .i64 0, .int .i64 0, .int .i64 0], .int .i64 11]) ∧ Below ((w1.alloc (.cells #[.slice (some ⟨w.heap.size, 0, none⟩) 3 3] 33))).heap.size (w1.alloc (.cells #[.slice (some ⟨w.heap.size, 0, none⟩) 3 3] 33)) w') := by have h := Find_any ratesL (some ⟨w.heap.size, 0, none⟩) 3 ⟨#[69, 85, 82]⟩ ⟨#[71, 66, 80]⟩ 5 (w1.alloc (.cells #[.slice (some ⟨w.heap.size, 0, none⟩) 3 3] 33)) hIb.out (by decide) (by decide) (by decide) rates_sz; rw [hf1] at h; exact h
  have l0 := hLb.out.cell (j := 0) rfl; have l9 := hLb.out.lt
  go_wp2_with fail
  refine kf.out.mono ?_
  rintro e w2 ⟨rfl, hb⟩
  clear kf l0 l9 hlt
  have hB2 := Lib.hid (hBb.out.trans (hb.mono hBb.out.size))
  have hI2 := Lib.hid (hIb.out.below hb)
  have hL2 := Lib.hid (hLb.out.below hb)
  clear hb hBb hIb hLb
  rw [← hlb] at hL2
  (try rw [← hlb])
  replace hlb := Lib.hid hlb
  have hbb : Hid (Below w2.heap.size w2 (w2.alloc (.cells #[.string ⟨#[]⟩, .int .i64 0, .int .i64 0, .int .i64 0] 42))) := (Below.refl _ _).alloc (Nat.le_refl _) _
  have hBb := Lib.hid (hB2.out.trans (hbb.out.mono hB2.out.size))
  have hIb := Lib.hid (hI2.out.below hbb.out)
  have hLb := Lib.hid (hL2.out.below hbb.out)
  clear hbb hB2 hI2 hL2
  obtain ⟨g0, x0, d0, q0⟩ := agg_qv (ofQ 5 2)
  have ko : Hid (Calls Tryz.prog 18 #[.int .i64 5, .int .i64 2] (w2.alloc (.cells #[.string ⟨#[]⟩, .int .i64 0, .int .i64 0, .int .i64 0] 42)) fun e w' => e = .returned (.agg #[.bool g0, .string x0, .string d0]) ∧ Below ((w2.alloc (.cells #[.string ⟨#[]⟩, .int .i64 0, .int .i64 0, .int .i64 0] 42))).heap.size (w2.alloc (.cells #[.string ⟨#[]⟩, .int .i64 0, .int .i64 0, .int .i64 0] 42)) w') := by have h := of_any 5 2 (w2.alloc (.cells #[.string ⟨#[]⟩, .int .i64 0, .int .i64 0, .int .i64 0] 42)) (hE.out.below hBb.out) (by decide) (by decide) (by decide) (by decide) (by decide); rw [q0] at h; exact h
  go_wp2_with fail
  refine ko.out.mono ?_
  rintro e w3 ⟨rfl, hb⟩
  clear ko
  have hB3 := Lib.hid (hBb.out.trans (hb.mono hBb.out.size))
  have hI3 := Lib.hid (hIb.out.below hb)
  have hL3 := Lib.hid (hLb.out.below hb)
  clear hb hBb hIb hLb
  have ko : Hid (Calls Tryz.prog 12 #[.agg #[.bool g0, .string x0, .string d0]] w3 fun e w' => e = .returned (.tuple #[.int .i64 2, .int .i64 0]) ∧ Below w3.heap.size w3 w') := by have h := Round_short (ofQ 5 2) sh1 w3 (hE.out.below hB3.out); rw [hr1, q0] at h; exact h
  go_wp2_with fail
  refine ko.out.mono ?_
  rintro e w4 ⟨rfl, hb⟩
  clear ko q0
  have hB4 := Lib.hid (hB3.out.trans (hb.mono hB3.out.size))
  have hI4 := Lib.hid (hI3.out.below hb)
  have hL4 := Lib.hid (hL3.out.below hb)
  clear hb hB3 hI3 hL3
  obtain ⟨g1, x1, d1, q1⟩ := agg_qv (ofQ 7 2)
  have ko : Hid (Calls Tryz.prog 18 #[.int .i64 7, .int .i64 2] w4 fun e w' => e = .returned (.agg #[.bool g1, .string x1, .string d1]) ∧ Below (w4).heap.size w4 w') := by have h := of_any 7 2 w4 (hE.out.below hB4.out) (by decide) (by decide) (by decide) (by decide) (by decide); rw [q1] at h; exact h
  go_wp2_with fail
  refine ko.out.mono ?_
  rintro e w5 ⟨rfl, hb⟩
  clear ko
  have hB5 := Lib.hid (hB4.out.trans (hb.mono hB4.out.size))
  have hI5 := Lib.hid (hI4.out.below hb)
  have hL5 := Lib.hid (hL4.out.below hb)
  clear hb hB4 hI4 hL4
  have ko : Hid (Calls Tryz.prog 12 #[.agg #[.bool g1, .string x1, .string d1]] w5 fun e w' => e = .returned (.tuple #[.int .i64 4, .int .i64 0]) ∧ Below w5.heap.size w5 w') := by have h := Round_short (ofQ 7 2) sh2 w5 (hE.out.below hB5.out); rw [hr2, q1] at h; exact h
  go_wp2_with fail
  refine ko.out.mono ?_
  rintro e w6 ⟨rfl, hb⟩
  clear ko q1
  have hB6 := Lib.hid (hB5.out.trans (hb.mono hB5.out.size))
  have hI6 := Lib.hid (hI5.out.below hb)
  have hL6 := Lib.hid (hL5.out.below hb)
  clear hb hB5 hI5 hL5
  obtain ⟨g2, x2, d2, q2⟩ := agg_qv (ofQ (-5) 2)
  have ko : Hid (Calls Tryz.prog 18 #[.int .i64 (-5), .int .i64 2] w6 fun e w' => e = .returned (.agg #[.bool g2, .string x2, .string d2]) ∧ Below (w6).heap.size w6 w') := by have h := of_any (-5) 2 w6 (hE.out.below hB6.out) (by decide) (by decide) (by decide) (by decide) (by decide); rw [q2] at h; exact h
  go_wp2_with fail
  refine ko.out.mono ?_
  rintro e w7 ⟨rfl, hb⟩
  clear ko
  have hB7 := Lib.hid (hB6.out.trans (hb.mono hB6.out.size))
  have hI7 := Lib.hid (hI6.out.below hb)
  have hL7 := Lib.hid (hL6.out.below hb)
  clear hb hB6 hI6 hL6
  have ko : Hid (Calls Tryz.prog 12 #[.agg #[.bool g2, .string x2, .string d2]] w7 fun e w' => e = .returned (.tuple #[.int .i64 (-2), .int .i64 0]) ∧ Below w7.heap.size w7 w') := by have h := Round_short (ofQ (-5) 2) sh3 w7 (hE.out.below hB7.out); rw [hr3, q2] at h; exact h
  go_wp2_with fail
  refine ko.out.mono ?_
  rintro e w8 ⟨rfl, hb⟩
  clear ko q2
  have hB8 := Lib.hid (hB7.out.trans (hb.mono hB7.out.size))
  have hI8 := Lib.hid (hI7.out.below hb)
  have hL8 := Lib.hid (hL7.out.below hb)
  clear hb hB7 hI7 hL7
  have hT : Hid (InInt (w8.alloc (.cells #[.int .i64 1, .int .i64 1, .int .i64 1] 3)) (some ⟨w8.heap.size, 0, none⟩) [1, 1, 1]) := in3 _ _ _ _
  have hbb : Hid (Below w8.heap.size w8 (w8.alloc (.cells #[.int .i64 1, .int .i64 1, .int .i64 1] 3))) := (Below.refl _ _).alloc (Nat.le_refl _) _
  have hBb := Lib.hid (hB8.out.trans (hbb.out.mono hB8.out.size))
  have hIb := Lib.hid (hI8.out.below hbb.out)
  have hLb := Lib.hid (hL8.out.below hbb.out)
  clear hbb hB8 hI8 hL8
  have ks : Hid (Calls Tryz.prog 14 #[.int .i64 10, .slice (some ⟨w8.heap.size, 0, none⟩) 3 3] (w8.alloc (.cells #[.int .i64 1, .int .i64 1, .int .i64 1] 3)) (SpPost 10 [1, 1, 1] (w8.alloc (.cells #[.int .i64 1, .int .i64 1, .int .i64 1] 3)))) := Split_any 10 (some ⟨w8.heap.size, 0, none⟩) 3 [1, 1, 1] (w8.alloc (.cells #[.int .i64 1, .int .i64 1, .int .i64 1] 3)) hT.out (by decide)
  go_wp2_with fail
  refine ks.out.mono ?_
  rintro e w9 ⟨⟨B0, c0, he, hin⟩, hb⟩
  rw [hs1, he1] at he; rw [hs1] at hin
  obtain rfl := he
  replace hin := Lib.hid hin
  clear ks hT
  have hB9 := Lib.hid (hBb.out.trans (hb.mono hBb.out.size))
  have hI9 := Lib.hid (hIb.out.below hb)
  have hL9 := Lib.hid (hLb.out.below hb)
  clear hb hBb hIb hLb
  have hPa9 := hin; clear hin
  have hT : Hid (InInt (w9.alloc (.cells #[.int .i64 0, .int .i64 2, .int .i64 1] 3)) (some ⟨w9.heap.size, 0, none⟩) [0, 2, 1]) := in3 _ _ _ _
  have hbb : Hid (Below w9.heap.size w9 (w9.alloc (.cells #[.int .i64 0, .int .i64 2, .int .i64 1] 3))) := (Below.refl _ _).alloc (Nat.le_refl _) _
  have hBb := Lib.hid (hB9.out.trans (hbb.out.mono hB9.out.size))
  have hIb := Lib.hid (hI9.out.below hbb.out)
  have hLb := Lib.hid (hL9.out.below hbb.out)
  have hPab := Lib.hid (hPa9.out.below hbb.out)
  clear hbb hB9 hI9 hL9 hPa9
  have ks : Hid (Calls Tryz.prog 14 #[.int .i64 7, .slice (some ⟨w9.heap.size, 0, none⟩) 3 3] (w9.alloc (.cells #[.int .i64 0, .int .i64 2, .int .i64 1] 3)) (SpPost 7 [0, 2, 1] (w9.alloc (.cells #[.int .i64 0, .int .i64 2, .int .i64 1] 3)))) := Split_any 7 (some ⟨w9.heap.size, 0, none⟩) 3 [0, 2, 1] (w9.alloc (.cells #[.int .i64 0, .int .i64 2, .int .i64 1] 3)) hT.out (by decide)
  go_wp2_with fail
  refine ks.out.mono ?_
  rintro e w10 ⟨⟨B1, c1, he, hin⟩, hb⟩
  rw [hs2, he2] at he; rw [hs2] at hin
  obtain rfl := he
  replace hin := Lib.hid hin
  clear ks hT
  have hB10 := Lib.hid (hBb.out.trans (hb.mono hBb.out.size))
  have hI10 := Lib.hid (hIb.out.below hb)
  have hL10 := Lib.hid (hLb.out.below hb)
  have hPa10 := Lib.hid (hPab.out.below hb)
  clear hb hBb hIb hLb hPab
  have hPb10 := hin; clear hin
  have kh := Lib.hid (head1_any ⟨#[85, 83, 68]⟩ ⟨#[69, 85, 82]⟩ 100 9 90 1 lb (some ⟨w.heap.size, 0, none⟩) w10 (hE.out.below hB10.out) (hL10.out.cell (j := 0) rfl) hI10.out (by decide) (by decide) (by decide) (by decide) hv1)
  go_wp2_with fail
  refine kh.out.mono ?_
  rintro e w11 ⟨rfl, hb⟩
  clear kh
  have hB11 := Lib.hid (hB10.out.trans (hb.mono hB10.out.size))
  have hI11 := Lib.hid (hI10.out.below hb)
  have hL11 := Lib.hid (hL10.out.below hb)
  have hPa11 := Lib.hid (hPa10.out.below hb)
  have hPb11 := Lib.hid (hPb10.out.below hb)
  clear hb hB10 hI10 hL10 hPa10 hPb10
  have kh := Lib.hid (head1_any ⟨#[85, 83, 68]⟩ ⟨#[69, 85, 82]⟩ 100 10 80 1 lb (some ⟨w.heap.size, 0, none⟩) w11 (hE.out.below hB11.out) (hL11.out.cell (j := 0) rfl) hI11.out (by decide) (by decide) (by decide) (by decide) hv2)
  go_wp2_with fail
  refine kh.out.mono ?_
  rintro e w12 ⟨rfl, hb⟩
  clear kh
  have hB12 := Lib.hid (hB11.out.trans (hb.mono hB11.out.size))
  have hI12 := Lib.hid (hI11.out.below hb)
  have hL12 := Lib.hid (hL11.out.below hb)
  have hPa12 := Lib.hid (hPa11.out.below hb)
  have hPb12 := Lib.hid (hPb11.out.below hb)
  clear hb hB11 hI11 hL11 hPa11 hPb11
  have kh := Lib.hid (head1_any ⟨#[69, 85, 82]⟩ ⟨#[85, 83, 68]⟩ 10 10 25 2 lb (some ⟨w.heap.size, 0, none⟩) w12 (hE.out.below hB12.out) (hL12.out.cell (j := 0) rfl) hI12.out (by decide) (by decide) (by decide) (by decide) hv3)
  go_wp2_with fail
  refine kh.out.mono ?_
  rintro e w13 ⟨rfl, hb⟩
  clear kh
  have hB13 := Lib.hid (hB12.out.trans (hb.mono hB12.out.size))
  have hI13 := Lib.hid (hI12.out.below hb)
  have hL13 := Lib.hid (hL12.out.below hb)
  have hPa13 := Lib.hid (hPa12.out.below hb)
  have hPb13 := Lib.hid (hPb12.out.below hb)
  clear hb hB12 hI12 hL12 hPa12 hPb12
  have kh := Lib.hid (head1_any ⟨#[67, 72, 70]⟩ ⟨#[85, 83, 68]⟩ 9 0 10 1 lb (some ⟨w.heap.size, 0, none⟩) w13 (hE.out.below hB13.out) (hL13.out.cell (j := 0) rfl) hI13.out (by decide) (by decide) (by decide) (by decide) hv4)
  go_wp2_with fail
  refine kh.out.mono ?_
  rintro e w14 ⟨rfl, hb⟩
  clear kh
  have hB14 := Lib.hid (hB13.out.trans (hb.mono hB13.out.size))
  have hI14 := Lib.hid (hI13.out.below hb)
  have hL14 := Lib.hid (hL13.out.below hb)
  have hPa14 := Lib.hid (hPa13.out.below hb)
  have hPb14 := Lib.hid (hPb13.out.below hb)
  clear hb hB13 hI13 hL13 hPa13 hPb13
  have hT : Hid (InInt (w14.alloc (.cells #[.int .i64 4, .int .i64 3, .int .i64 3] 3)) (some ⟨w14.heap.size, 0, none⟩) [4, 3, 3]) := in3 _ _ _ _
  have hbb : Hid (Below w14.heap.size w14 (w14.alloc (.cells #[.int .i64 4, .int .i64 3, .int .i64 3] 3))) := (Below.refl _ _).alloc (Nat.le_refl _) _
  have hBb := Lib.hid (hB14.out.trans (hbb.out.mono hB14.out.size))
  have hIb := Lib.hid (hI14.out.below hbb.out)
  have hLb := Lib.hid (hL14.out.below hbb.out)
  have hPab := Lib.hid (hPa14.out.below hbb.out)
  have hPbb := Lib.hid (hPb14.out.below hbb.out)
  clear hbb hB14 hI14 hL14 hPa14 hPb14
  have ki : Hid (Calls Tryz.prog 16 #[.slice B0 3 c0, .slice (some ⟨w14.heap.size, 0, none⟩) 3 3] (w14.alloc (.cells #[.int .i64 4, .int .i64 3, .int .i64 3] 3)) fun e w' => e = .returned (.bool true) ∧ Below ((w14.alloc (.cells #[.int .i64 4, .int .i64 3, .int .i64 3] 3))).heap.size (w14.alloc (.cells #[.int .i64 4, .int .i64 3, .int .i64 3] 3)) w') := (Ints8_any B0 (some ⟨w14.heap.size, 0, none⟩) c0 3 [4, 3, 3] [4, 3, 3] (w14.alloc (.cells #[.int .i64 4, .int .i64 3, .int .i64 3] 3)) hPab.out hT.out (by decide)).mono fun e w' h => ⟨by rw [h.1, decide_eq_true rfl], by obtain ⟨q, rfl⟩ := h.2; exact blw_drewN (Below.refl _ _) q⟩
  go_wp2_with fail
  refine ki.out.mono ?_
  rintro e w15 ⟨rfl, hb⟩
  clear ki hT
  have hB15 := Lib.hid (hBb.out.trans (hb.mono hBb.out.size))
  have hI15 := Lib.hid (hIb.out.below hb)
  have hL15 := Lib.hid (hLb.out.below hb)
  have hPa15 := Lib.hid (hPab.out.below hb)
  have hPb15 := Lib.hid (hPbb.out.below hb)
  clear hb hBb hIb hLb hPab hPbb
  have hT : Hid (InInt (w15.alloc (.cells #[.int .i64 0, .int .i64 5, .int .i64 2] 3)) (some ⟨w15.heap.size, 0, none⟩) [0, 5, 2]) := in3 _ _ _ _
  have hbb : Hid (Below w15.heap.size w15 (w15.alloc (.cells #[.int .i64 0, .int .i64 5, .int .i64 2] 3))) := (Below.refl _ _).alloc (Nat.le_refl _) _
  have hBb := Lib.hid (hB15.out.trans (hbb.out.mono hB15.out.size))
  have hIb := Lib.hid (hI15.out.below hbb.out)
  have hLb := Lib.hid (hL15.out.below hbb.out)
  have hPab := Lib.hid (hPa15.out.below hbb.out)
  have hPbb := Lib.hid (hPb15.out.below hbb.out)
  clear hbb hB15 hI15 hL15 hPa15 hPb15
  have ki : Hid (Calls Tryz.prog 16 #[.slice B1 3 c1, .slice (some ⟨w15.heap.size, 0, none⟩) 3 3] (w15.alloc (.cells #[.int .i64 0, .int .i64 5, .int .i64 2] 3)) fun e w' => e = .returned (.bool true) ∧ Below ((w15.alloc (.cells #[.int .i64 0, .int .i64 5, .int .i64 2] 3))).heap.size (w15.alloc (.cells #[.int .i64 0, .int .i64 5, .int .i64 2] 3)) w') := (Ints8_any B1 (some ⟨w15.heap.size, 0, none⟩) c1 3 [0, 5, 2] [0, 5, 2] (w15.alloc (.cells #[.int .i64 0, .int .i64 5, .int .i64 2] 3)) hPbb.out hT.out (by decide)).mono fun e w' h => ⟨by rw [h.1, decide_eq_true rfl], by obtain ⟨q, rfl⟩ := h.2; exact blw_drewN (Below.refl _ _) q⟩
  go_wp2_with fail
  refine ki.out.mono ?_
  rintro e w16 ⟨rfl, hb⟩
  clear ki hT
  have hB16 := Lib.hid (hBb.out.trans (hb.mono hBb.out.size))
  have hI16 := Lib.hid (hIb.out.below hb)
  have hL16 := Lib.hid (hLb.out.below hb)
  have hPa16 := Lib.hid (hPab.out.below hb)
  have hPb16 := Lib.hid (hPbb.out.below hb)
  clear hb hBb hIb hLb hPab hPbb
  go_wp2
  go_ret
  exact ⟨rfl, hB16.out⟩
end Mo
end Go.Proofs.YtpmlhgmmobpilaaGreatDoor

namespace Go.Proofs.YtpmlhgmmobpilaaGreatDoor
namespace Mo
open Nt Ci
theorem occ_sp (l : List UInt8) (c : UInt8) (j : Nat) : Lib.occAt l [c] j = (l[j]? == some c) := by
  unfold Lib.occAt
  rw [← List.head?_drop]
  cases l.drop j with
  | nil => rfl
  | cons a t =>
    simp [List.isPrefixOf]
    exact Bool.beq_comm
theorem cut_sp (a b : List UInt8) (h : ∀ x ∈ a, x ≠ 32) : Lib.cut (a ++ 32 :: b) [32] = (a, b, true) := by
  have hi : Lib.index (a ++ 32 :: b) [32] = a.length := by
    refine Lib.index_first (by simp) ?_ ?_
    · rw [occ_sp]; simp
    · intro j hj
      rw [occ_sp, List.getElem?_append_left hj, List.getElem?_eq_getElem hj]
      have := h _ (List.getElem_mem hj)
      simpa using this
  unfold Lib.cut
  rw [hi, if_pos (by omega)]
  simp
theorem ident_sp {c : ByteArray} (h : identB c = true) : ∀ x ∈ c.data.toList, x ≠ 32 := by
  unfold identB at h
  simp only [Bool.and_eq_true, decide_eq_true_eq] at h
  intro x hx e
  obtain ⟨i, hi, rfl⟩ := List.getElem_of_mem hx
  have hi2 : i < c.size := by rw [Lib.size_eq]; exact hi
  have h1 := h.1 i hi2
  have e2 : c[i] = c.data.toList[i] := by simp [ByteArray.getElem_eq_getElem_data]
  rw [e2, e] at h1
  unfold OkAt at h1
  simp at h1
theorem itoa_back {u : Int} (h0 : -1000000000000 ≤ u) (h1 : u ≤ 1000000000000) : Lib.atoiAll (Lib.itoa u) = .ok u := by
  unfold Lib.itoa
  by_cases c : u < 0
  · rw [if_pos c, atoi_neg _ (by omega), if_pos (by omega)]
    congr 1
    omega
  · rw [if_neg c]
    have h := atoi_num u.toNat
    rw [if_pos (by omega)] at h
    rw [show Lib.decDigits u.toNat = (num u.toNat).data.toList from rfl, h]
    congr 1
    omega
theorem textA_list (c : ByteArray) (u : Int) : (textA c u).data.toList = c.data.toList ++ 32 :: Lib.itoa u := by
  unfold textA
  rw [ByteArray.toList_data_append, ByteArray.toList_data_append]
  simp
theorem ba_ext {a b : ByteArray} (h : a.data.toList = b.data.toList) : a = b := by
  rcases a with ⟨a⟩
  rcases b with ⟨b⟩
  simp only [Array.toList_inj] at h
  rw [h]
theorem cutC_text {c : ByteArray} {u : Int} (h : properB c u = true) : cutC (textA c u) = c ∧ cutD (textA c u) = ⟨(Lib.itoa u).toArray⟩ := by
  obtain ⟨h1, _⟩ := proper_parts h
  unfold cutC cutD
  rw [textA_list, cut_sp _ _ (ident_sp h1)]
  exact ⟨ba_ext (by simp), rfl⟩
theorem textR_ok {c : ByteArray} {u : Int} (h : properB c u = true) : textR c u = (textA c u, 0) := if_pos h
theorem textR_zero {c : ByteArray} {u : Int} (h : (textR c u).2 = 0) : properB c u = true := by
  unfold textR at h
  by_cases c : properB c u = true
  · exact c
  · rw [if_neg c] at h; cases h
/-- Parse gives back what Text was told. -/
theorem parse_text {c : ByteArray} {u : Int} (h : properB c u = true) : parseR (textA c u) = ((c, u), 0) := by
  obtain ⟨h1, h2⟩ := cutC_text h
  obtain ⟨_, _, _, h3, h4⟩ := proper_parts h
  have hn : numO (cutD (textA c u)) = some u := by
    rw [h2]
    unfold numO
    rw [show (⟨(Lib.itoa u).toArray⟩ : ByteArray).data.toList = Lib.itoa u from rfl, itoa_back h3 h4]
  unfold parseR
  rw [hn, h1]
  exact if_pos ⟨by rw [textR_ok h], by rw [textR_ok h]⟩
/-- What Parse accepts is the text of its result. -/
theorem parse_ok {t : ByteArray} : parseR t = ((⟨#[]⟩, 0), 5) ∨ ∃ c u, parseR t = ((c, u), 0) ∧ properB c u = true ∧ textA c u = t := by
  unfold parseR
  cases hn : numO (cutD t) with
  | none => exact .inl rfl
  | some n =>
    by_cases c : (textR (cutC t) n).2 = 0 ∧ (textR (cutC t) n).1 = t
    · right
      have hp := textR_zero c.1
      refine ⟨cutC t, n, if_pos c, hp, ?_⟩
      have h := c.2
      rwa [textR_ok hp] at h
    · exact .inl (if_neg c)
end Mo
end Go.Proofs.YtpmlhgmmobpilaaGreatDoor

namespace Go.Proofs.YtpmlhgmmobpilaaGreatDoor
open Go.RowKit Go.Shelf
namespace Mo
open Nt Ci
theorem textA_size {c : ByteArray} {u : Int} (h : properB c u = true) : (textA c u).size ≤ 1000 := by
  obtain ⟨_, h2, _, h3, h4⟩ := proper_parts h
  have h5 := itoa_len h3 h4
  rw [Lib.size_eq] at h2
  rw [Lib.size_eq, textA_list, List.length_append, List.length_cons]
  omega
set_option maxRecDepth 100000 in
set_option maxHeartbeats 16000000 in
theorem law8_texts (c : ByteArray) (u : Int) (t : ByteArray) (w : World) (hE : REnv w) (hc : c.size ≤ 140737488355328) (ht : t.size ≤ 140737488355328) :
    Calls Tryz.prog 10 #[.agg #[.string c, .int .i64 u], .string t] w fun e w' => e = .returned (.bool true) ∧ Below w.heap.size w w' := by
  have hB1 : Hid (Below w.heap.size w (w.alloc (.cells #[.string c, .int .i64 u] 35))) := (Below.refl _ w).alloc (Nat.le_refl _) _
  have ha1 : Hid (Bk (w.alloc (.cells #[.string c, .int .i64 u] 35)) w.heap.size 35 [.string c, .int .i64 u]) := Bk.new _ _ _
  have kh := Lib.hid (head8_any (w.alloc (.cells #[.string c, .int .i64 u] 35)) (hE.1.below hB1.out))
  by_cases hlen : 60 < t.size ∨ 60 < c.size
  · by_cases c1 : 60 < t.size
    · have m1 : decide (60 < (t.size : Int)) = true := decide_eq_true (by omega)
      replace hlen := Lib.hid hlen; replace c1 := Lib.hid c1
      go_enter Tryz.func10, Tryz.ntmps10
      go_wp2_with fail
      refine kh.out.mono ?_
      rintro e w2 ⟨rfl, hb⟩
      have hB2 := Lib.hid (hB1.out.trans (hb.mono hB1.out.size)); have ha2 := Lib.hid (ha1.out.below hb)
      clear hb hB1 ha1 kh
      have a0 := ha2.out.cell (j := 0) rfl; have a1 := ha2.out.cell (j := 1) rfl; have a9 := ha2.out.lt
      go_wp2
      go_ret
      exact ⟨rfl, hB2.out⟩
    · have m1 : decide (60 < (t.size : Int)) = false := decide_eq_false (by omega); have m2 : decide (60 < (c.size : Int)) = true := decide_eq_true (by omega)
      replace hlen := Lib.hid hlen; replace c1 := Lib.hid c1
      go_enter Tryz.func10, Tryz.ntmps10
      go_wp2_with fail
      refine kh.out.mono ?_
      rintro e w2 ⟨rfl, hb⟩
      have hB2 := Lib.hid (hB1.out.trans (hb.mono hB1.out.size)); have ha2 := Lib.hid (ha1.out.below hb)
      clear hb hB1 ha1 kh
      have a0 := ha2.out.cell (j := 0) rfl; have a1 := ha2.out.cell (j := 1) rfl; have a9 := ha2.out.lt
      go_wp2
      go_ret
      exact ⟨rfl, hB2.out⟩
  · have m1 : decide (60 < (t.size : Int)) = false := decide_eq_false (by omega); have m2 : decide (60 < (c.size : Int)) = false := decide_eq_false (by omega)
    have z1 : t.size ≤ 60 := by omega
    have z2 : c.size ≤ 60 := by omega
    replace hlen := Lib.hid hlen
    replace hE := Lib.hid hE
    have kt := Lib.hid (fun W (h : Env W) => Text_any c u W h (by omega))
    have kp := Lib.hid (fun W (h : REnv W) => MParse_any t W h (by omega))
    have hok := @parse_ok t
    generalize parseR t = pr at kp hok
    replace hok := Lib.hid hok
    cases hp : properB c u with
    | false =>
      have hr : textR c u = (⟨#[]⟩, 1) := if_neg (by rw [hp]; decide)
      simp only [hr] at kt
      replace hp := Lib.hid hp; clear hr
      go_enter Tryz.func10, Tryz.ntmps10
      go_wp2_with fail
      refine kh.out.mono ?_
      rintro e w2 ⟨rfl, hb⟩
      have hB2 := Lib.hid (hB1.out.trans (hb.mono hB1.out.size)); have ha2 := Lib.hid (ha1.out.below hb)
      clear hb hB1 ha1 kh
      have a0 := ha2.out.cell (j := 0) rfl; have a1 := ha2.out.cell (j := 1) rfl; have a9 := ha2.out.lt
      have kt2 := Lib.hid (kt.out w2 (hE.out.1.below hB2.out)); clear kt
      go_wp2_with fail
      refine kt2.out.mono ?_
      rintro e w3 ⟨rfl, hb⟩
      have hB3 := Lib.hid (hB2.out.trans (hb.mono hB2.out.size))
      clear hb kt2 a0 a1 a9 ha2 hB2
      have kp2 := Lib.hid (kp.out w3 (hE.out.below hB3.out)); clear kp
      rcases hok.out with rfl | ⟨c2, u2, rfl, hp2, htx⟩
      · clear hok
        go_wp2_with fail
        refine kp2.out.mono ?_
        rintro e w4 ⟨rfl, hb⟩
        have hB4 := Lib.hid (hB3.out.trans (hb.mono hB3.out.size))
        clear hb kp2
        have hB5 : Hid (Below w.heap.size w (w4.alloc (.cells #[.string ⟨#[]⟩, .int .i64 0] 35))) := hB4.out.alloc hB4.out.size _
        go_wp2
        go_ret
        exact ⟨rfl, hB5.out⟩
      · clear hok
        have hsz2 := (proper_parts hp2).2.1
        have kt2 := fun W (h : Env W) => Text_any c2 u2 W h (by omega)
        rw [textR_ok hp2] at kt2
        simp only [htx] at kt2
        replace kt2 := Lib.hid kt2; replace htx := Lib.hid htx; replace hp2 := Lib.hid hp2
        go_wp2_with fail
        refine kp2.out.mono ?_
        rintro e w4 ⟨rfl, hb⟩
        have hB4 := Lib.hid (hB3.out.trans (hb.mono hB3.out.size))
        clear hb kp2
        have hB5 : Hid (Below w.heap.size w (w4.alloc (.cells #[.string c2, .int .i64 u2] 35))) := hB4.out.alloc hB4.out.size _
        have kt3 := Lib.hid (kt2.out (w4.alloc (.cells #[.string c2, .int .i64 u2] 35)) (hE.out.1.below hB5.out)); clear kt2
        go_wp2_with fail
        refine kt3.out.mono ?_
        rintro e w6 ⟨rfl, hb⟩
        have hB6 := Lib.hid (hB5.out.trans (hb.mono hB5.out.size))
        clear hb kt3
        go_wp2
        go_ret
        exact ⟨by simp, hB6.out⟩
    | true =>
      have hr := textR_ok hp
      simp only [hr] at kt
      have kq := Lib.hid (fun W (h : REnv W) => MParse_any (textA c u) W h (by have := textA_size hp; omega))
      simp only [parse_text hp] at kq
      obtain ⟨_, _, _, u0, u1⟩ := proper_parts hp
      have m3 : decide (1000000000000 < u) = false := decide_eq_false (by omega); have m4 : decide (u < -1000000000000) = false := decide_eq_false (by omega)
      have hts := textA_size hp
      generalize textA c u = tx at kt kq hts
      replace hp := Lib.hid hp; clear hr
      go_enter Tryz.func10, Tryz.ntmps10
      go_wp2_with fail
      refine kh.out.mono ?_
      rintro e w2 ⟨rfl, hb⟩
      have hB2 := Lib.hid (hB1.out.trans (hb.mono hB1.out.size)); have ha2 := Lib.hid (ha1.out.below hb)
      clear hb hB1 ha1 kh
      have a0 := ha2.out.cell (j := 0) rfl; have a1 := ha2.out.cell (j := 1) rfl; have a9 := ha2.out.lt
      have kt2 := Lib.hid (kt.out w2 (hE.out.1.below hB2.out)); clear kt
      go_wp2_with fail
      refine kt2.out.mono ?_
      rintro e w3 ⟨rfl, hb⟩
      have hB3 := Lib.hid (hB2.out.trans (hb.mono hB2.out.size)); have ha3 := Lib.hid (ha2.out.below hb)
      clear hb kt2 a0 a1 a9 ha2 hB2
      have kq3 := Lib.hid (kq.out w3 (hE.out.below hB3.out)); clear kq
      go_wp2_with fail
      refine kq3.out.mono ?_
      rintro e w4 ⟨rfl, hb⟩
      have hB4 := Lib.hid (hB3.out.trans (hb.mono hB3.out.size)); have ha4 := Lib.hid (ha3.out.below hb)
      clear hb kq3 ha3 hB3
      have a0 := ha4.out.cell (j := 0) rfl; have a1 := ha4.out.cell (j := 1) rfl; have a9 := ha4.out.lt
      have hB5 : Hid (Below w.heap.size w (w4.alloc (.cells #[.string c, .int .i64 u] 35))) := hB4.out.alloc hB4.out.size _
      have kp2 := Lib.hid (kp.out (w4.alloc (.cells #[.string c, .int .i64 u] 35)) (hE.out.below hB5.out)); clear kp
      rcases hok.out with rfl | ⟨c2, u2, rfl, hp2, htx⟩
      · clear hok
        go_wp2_with fail
        refine kp2.out.mono ?_
        rintro e w6 ⟨rfl, hb⟩
        have hB6 := Lib.hid (hB5.out.trans (hb.mono hB5.out.size))
        clear hb kp2
        have hB7 : Hid (Below w.heap.size w (w6.alloc (.cells #[.string ⟨#[]⟩, .int .i64 0] 35))) := hB6.out.alloc hB6.out.size _
        go_wp2
        go_ret
        exact ⟨rfl, hB7.out⟩
      · clear hok
        have hsz2 := (proper_parts hp2).2.1
        have kt2 := fun W (h : Env W) => Text_any c2 u2 W h (by omega)
        rw [textR_ok hp2] at kt2
        simp only [htx] at kt2
        replace kt2 := Lib.hid kt2; replace htx := Lib.hid htx; replace hp2 := Lib.hid hp2
        go_wp2_with fail
        refine kp2.out.mono ?_
        rintro e w6 ⟨rfl, hb⟩
        have hB6 := Lib.hid (hB5.out.trans (hb.mono hB5.out.size))
        clear hb kp2
        have hB7 : Hid (Below w.heap.size w (w6.alloc (.cells #[.string c2, .int .i64 u2] 35))) := hB6.out.alloc hB6.out.size _
        have kt3 := Lib.hid (kt2.out (w6.alloc (.cells #[.string c2, .int .i64 u2] 35)) (hE.out.1.below hB7.out)); clear kt2
        go_wp2_with fail
        refine kt3.out.mono ?_
        rintro e w8 ⟨rfl, hb⟩
        have hB8 := Lib.hid (hB7.out.trans (hb.mono hB7.out.size))
        clear hb kt3
        go_wp2
        go_ret
        exact ⟨by simp, hB8.out⟩
end Mo
end Go.Proofs.YtpmlhgmmobpilaaGreatDoor

/- The law of the reference; distances and places. -/
import Derived.Test.YthggedpgcchneaaGreatDoorCirF
import Derived.Test.YthggedpgcchneaaGreatDoorCirE
import Derived.Test.YthggedpgcchneaaGreatDoorCirD
namespace Go.Proofs.YthggedpgcchneaaGreatDoor
open Go.RowKit Go.Shelf
namespace Ci
open Nt

theorem fewS_sz {s : SR} (h : fewS s = true) : s.ps.length ≤ 70 ∧ s.cap.length ≤ 300 ∧ s.vot.length ≤ 300 := by
  unfold fewS at h
  simp only [Bool.and_eq_true, decide_eq_true_eq] at h
  exact h.1
theorem few18_sz {s : SR} {F : List Int} (h : few18 s F = true) : s.ps.length ≤ 70 ∧ s.cap.length ≤ 300 ∧ s.vot.length ≤ 300 ∧ F.length ≤ 70 := by
  unfold few18 at h
  simp only [Bool.and_eq_true, decide_eq_true_eq] at h
  have := fewS_sz h.1
  omega
/-- What Components gives, in one form. -/
theorem CmPost.open {s : SR} {w w' : World} {e : Ending} (h : CmPost s w e w') : (∃ A c l, e = .returned (.tuple #[.slice A (List.length l) c, .int .i64 (if soundB s = true then 0 else 1)]) ∧ InLs w' A l ∧ bare l = (if soundB s = true then compsI s else []) ∧ l.length ≤ 70) ∧ Below w.heap.size w w' := by
  obtain ⟨h1, h2⟩ := h
  refine ⟨?_, h2⟩
  by_cases hs : soundB s = true
  · rw [if_pos hs] at h1
    obtain ⟨A, c, l, e1, e2, e3⟩ := h1
    refine ⟨A, c, l, by rw [if_pos hs]; exact e1, e2, by rw [if_pos hs]; exact e3, ?_⟩
    have hl := congrArg List.length e3
    simp only [bare, compsI, List.length_map] at hl
    have h3 := ords_len (edges_in hs)
    rw [comps_len] at hl
    have h4 := sound_n hs
    omega
  · rw [if_neg hs] at h1
    exact ⟨none, 0, [], by rw [if_neg hs]; exact h1, fun h => absurd h (by simp), by rw [if_neg hs]; rfl, by simp⟩
noncomputable def rkI (s : SR) (F : List Int) : List Int := (List.range s.ps.length).map (rk (edges s) (toN F))
theorem rkI_len (s : SR) (F : List Int) : (rkI s F).length = s.ps.length := by simp [rkI]
theorem RkPost.open {s : SR} {F : List Int} {w w' : World} {e : Ending} (h : RkPost s F w e w') : (∃ A c l, e = .returned (.tuple #[.slice A (List.length l) c, .int .i64 (if soundB s = true ∧ listB s.ps.length F = true then 0 else 1)]) ∧ InInt w' A l ∧ l = (if soundB s = true ∧ listB s.ps.length F = true then rkI s F else []) ∧ l.length ≤ 70) ∧ Below w.heap.size w w' := by
  obtain ⟨h1, h2⟩ := h
  refine ⟨?_, h2⟩
  by_cases hs : soundB s = true ∧ listB s.ps.length F = true
  · rw [if_pos hs] at h1
    obtain ⟨b, e1, _, e2⟩ := h1
    have h4 := sound_n hs.1
    exact ⟨some ⟨b, 0, none⟩, s.ps.length, rkI s F, by rw [if_pos hs, rkI_len]; exact e1, e2.inInt, by rw [if_pos hs], by rw [rkI_len]; omega⟩
  · rw [if_neg hs] at h1
    exact ⟨none, 0, [], by rw [if_neg hs]; exact h1, fun h => absurd h (by simp), by rw [if_neg hs], by simp⟩
theorem RRkPost.open {s : SR} {F : List Int} {w w' : World} {e : Ending} (h : RRkPost s F w e w') : (∃ A c l, e = .returned (.tuple #[.slice A (List.length l) c, .int .i64 (if soundB s = true ∧ listB s.ps.length F = true then 0 else 1)]) ∧ InInt w' A l ∧ l = (if soundB s = true ∧ listB s.ps.length F = true then rkI s F else []) ∧ l.length ≤ 70) ∧ Below w.heap.size w w' := by
  obtain ⟨h1, h2⟩ := h
  refine ⟨?_, h2⟩
  by_cases hs : soundB s = true ∧ listB s.ps.length F = true
  · rw [if_pos hs] at h1
    obtain ⟨A, c, e1, e2⟩ := h1
    have h4 := sound_n hs.1
    exact ⟨A, c, rkI s F, by rw [if_pos hs, rkI_len]; exact e1, e2, by rw [if_pos hs], by rw [rkI_len]; omega⟩
  · rw [if_neg hs] at h1
    exact ⟨none, 0, [], by rw [if_neg hs]; exact h1, fun h => absurd h (by simp), by rw [if_neg hs], by simp⟩
/-- Equal lists of lists, equal lists. -/
theorem lists_same {W : World} {A B : Option Addr} {ca cb : Nat} {a b : List (Option Addr × Nat × List Int)} (hA : InLs W A a) (hB : InLs W B b) (h : bare a = bare b) (hl : a.length ≤ 70) :
    Calls Tryz.prog 15 #[.slice A a.length ca, .slice B b.length cb] W fun e w' => e = .returned (.bool true) ∧ Below W.heap.size W w' := by
  refine (Lists_any A B ca cb a b W hA hB (by omega)).mono ?_
  rintro e w' ⟨rfl, q, rfl⟩
  exact ⟨by rw [decide_eq_true h], bl_drewN (Below.refl _ W) q⟩
theorem ints_same {W : World} {A B : Option Addr} {ca cb : Nat} {a b : List Int} (hA : InInt W A a) (hB : InInt W B b) (h : a = b) (hl : a.length ≤ 70) :
    Calls Tryz.prog 16 #[.slice A a.length ca, .slice B b.length cb] W fun e w' => e = .returned (.bool true) ∧ Below W.heap.size W w' := by
  refine (Ints_any A B ca cb a b W hA hB (by omega)).mono ?_
  rintro e w' ⟨rfl, q, rfl⟩
  exact ⟨by rw [decide_eq_true h], bl_drewN (Below.refl _ W) q⟩

set_option maxRecDepth 100000 in
set_option maxHeartbeats 16000000 in
theorem law_match (s : SR) (Ap Ac Av Af : Option Addr) (cp cc cv cf : Nat) (F : List Int) (w : World) (hE : Env w) (hs : StIn w s Ap Ac Av) (hF : InInt w Af F) (hFl : F.length ≤ 140737488355328) :
    Calls Tryz.prog 3 #[.agg #[.slice Ap s.ps.length cp, .slice Ac s.cap.length cc, .slice Av s.vot.length cv], .slice Af F.length cf] w fun e w' => e = .returned (.bool true) ∧ Below w.heap.size w w' := by
  have hX1 : Hid (Bk (w.alloc (.cells #[.slice Ap s.ps.length cp, .slice Ac s.cap.length cc, .slice Av s.vot.length cv] 25)) w.heap.size 25 (SC s Ap Ac Av cp cc cv)) := Bk.new w _ _
  have hB1 : Hid (Below w.heap.size w (w.alloc (.cells #[.slice Ap s.ps.length cp, .slice Ac s.cap.length cc, .slice Av s.vot.length cv] 25))) := (Below.refl _ w).alloc (Nat.le_refl _) _
  replace hE := Lib.hid hE
  replace hs := Lib.hid hs
  replace hF := Lib.hid hF
  go_enter Tryz.func3, Tryz.ntmps3
  go_wp2_with fail
  refine (head_any _ (hE.out.below hB1.out)).mono ?_
  rintro e w2 ⟨rfl, hb⟩
  have hB2 := Lib.hid (hB1.out.trans (hb.mono hB1.out.size))
  have hX2 := Lib.hid (hX1.out.below hb)
  clear hb hB1 hX1
  have u0 := hX2.out.cell (j := 0) rfl
  have u1 := hX2.out.cell (j := 1) rfl
  have u2 := hX2.out.cell (j := 2) rfl
  have u9 := hX2.out.lt
  have kf := few18_any s Ap Ac Av Af cp cc cv cf F w2 (hs.out.below hB2.out) hFl
  cases hfw : few18 s F with
  | false =>
    rw [hfw] at kf
    replace kf := Lib.hid kf
    clear hfw
    go_wp2_with fail
    refine kf.out.mono ?_
    rintro e w3 ⟨rfl, hb⟩
    have hB3 := Lib.hid (hB2.out.trans (hb.mono hB2.out.size))
    clear hb
    go_wp2
    go_ret
    exact ⟨rfl, hB3.out⟩
  | true =>
    rw [hfw] at kf
    replace kf := Lib.hid kf
    obtain ⟨_, hc3, _, _⟩ := few18_sz hfw
    clear hfw
    go_wp2_with fail
    refine kf.out.mono ?_
    rintro e w3 ⟨rfl, hb⟩
    have hB3 := Lib.hid (hB2.out.trans (hb.mono hB2.out.size))
    have hX3 := Lib.hid (hX2.out.below hb)
    clear hb hB2 hX2 u0 u1 u2 u9 kf
    have u0 := hX3.out.cell (j := 0) rfl
    have u1 := hX3.out.cell (j := 1) rfl
    have u2 := hX3.out.cell (j := 2) rfl
    have u9 := hX3.out.lt
    go_wp2_with fail
    refine (Components_any s Ap Ac Av cp cc cv w3 (hE.out.below hB3.out) (hs.out.below hB3.out) hc3).mono ?_
    intro e w4 h
    obtain ⟨⟨A1, c1, l1, rfl, hA, hbA, hla⟩, hb⟩ := h.open
    have hB4 := Lib.hid (hB3.out.trans (hb.mono hB3.out.size))
    have hX4 := Lib.hid (hX3.out.below hb)
    replace hA := Lib.hid hA
    replace hbA := Lib.hid hbA
    clear hb hB3 hX3 u0 u1 u2 u9 h
    have u0 := hX4.out.cell (j := 0) rfl
    have u1 := hX4.out.cell (j := 1) rfl
    have u2 := hX4.out.cell (j := 2) rfl
    have u9 := hX4.out.lt
    obtain ⟨er, her⟩ : ∃ x : Int, x = (if soundB s = true then 0 else 1) := ⟨_, rfl⟩
    rw [← her]
    replace her := Lib.hid her
    go_wp2_with fail
    refine (RComponents_any s Ap Ac Av cp cc cv w4 (hs.out.below hB4.out)).mono ?_
    intro e w5 h
    obtain ⟨⟨A2, c2, l2, rfl, hA2, hbA2, _⟩, hb⟩ := h.open
    rw [← her.out]
    have hB5 := Lib.hid (hB4.out.trans (hb.mono hB4.out.size))
    have hX5 := Lib.hid (hX4.out.below hb)
    have hA1 := Lib.hid (hA.out.below hb)
    replace hA2 := Lib.hid hA2
    have hbb : Hid (bare l1 = bare l2) := hbA.out.trans hbA2.symm
    clear hb hB4 hX4 u0 u1 u2 u9 h hA hbA hbA2
    have u0 := hX5.out.cell (j := 0) rfl
    have u1 := hX5.out.cell (j := 1) rfl
    have u2 := hX5.out.cell (j := 2) rfl
    have u9 := hX5.out.lt
    go_wp2_with fail
    refine (Ranks_any s Ap Ac Av Af cp cc cv cf F w5 (hE.out.below hB5.out) (hs.out.below hB5.out) hc3 (hF.out.below hB5.out) hFl).mono ?_
    intro e w6 h
    obtain ⟨⟨A3, c3, l3, rfl, hA3, hbA3, hl3⟩, hb⟩ := h.open
    have hB6 := Lib.hid (hB5.out.trans (hb.mono hB5.out.size))
    have hX6 := Lib.hid (hX5.out.below hb)
    have hA16 := Lib.hid (hA1.out.below hb)
    have hA26 := Lib.hid (hA2.out.below hb)
    replace hA3 := Lib.hid hA3
    replace hbA3 := Lib.hid hbA3
    clear hb hB5 hX5 u0 u1 u2 u9 h hA1 hA2
    have u0 := hX6.out.cell (j := 0) rfl
    have u1 := hX6.out.cell (j := 1) rfl
    have u2 := hX6.out.cell (j := 2) rfl
    have u9 := hX6.out.lt
    obtain ⟨eg, heg⟩ : ∃ x : Int, x = (if soundB s = true ∧ listB s.ps.length F = true then 0 else 1) := ⟨_, rfl⟩
    rw [← heg]
    replace heg := Lib.hid heg
    go_wp2_with fail
    refine (RRanks_any s Ap Ac Av Af cp cc cv cf F w6 (hs.out.below hB6.out) (hF.out.below hB6.out) hFl).mono ?_
    intro e w7 h
    obtain ⟨⟨A4, c4, l4, rfl, hA4, hbA4, _⟩, hb⟩ := h.open
    rw [← heg.out]
    have hB7 := Lib.hid (hB6.out.trans (hb.mono hB6.out.size))
    have hA17 := Lib.hid (hA16.out.below hb)
    have hA27 := Lib.hid (hA26.out.below hb)
    have hA37 := Lib.hid (hA3.out.below hb)
    replace hA4 := Lib.hid hA4
    have hcc : Hid (l3 = l4) := hbA3.out.trans hbA4.symm
    clear hb hB6 hX6 u0 u1 u2 u9 h hA16 hA26 hA3 hbA3 hbA4
    go_wp2_with fail
    refine (lists_same hA17.out hA27.out hbb.out hla).mono ?_
    rintro e w8 ⟨rfl, hb⟩
    have hB8 := Lib.hid (hB7.out.trans (hb.mono hB7.out.size))
    have hA38 := Lib.hid (hA37.out.below hb)
    have hA48 := Lib.hid (hA4.out.below hb)
    clear hb hB7
    go_wp2_with fail
    refine (ints_same hA38.out hA48.out hcc.out hl3).mono ?_
    rintro e w9 ⟨rfl, hb⟩
    have hB9 := Lib.hid (hB8.out.trans (hb.mono hB8.out.size))
    clear hb hB8
    go_wp2
    go_ret
    exact ⟨rfl, hB9.out⟩
end Ci
end Go.Proofs.YthggedpgcchneaaGreatDoor

namespace Go.Proofs.YthggedpgcchneaaGreatDoor
open Go.RowKit Go.Shelf
namespace Ci
open Nt

set_option maxRecDepth 100000 in
set_option maxHeartbeats 16000000 in
theorem Dist_any (s : SR) (Ap Ac Av : Option Addr) (cp cc cv p q : Nat) (w : World) (hs : StIn w s Ap Ac Av) (hsd : soundB s = true) (hp : p < s.ps.length) (hq : q < s.ps.length) :
    Calls Tryz.prog 19 #[.agg #[.slice Ap s.ps.length cp, .slice Ac s.cap.length cc, .slice Av s.vot.length cv], .int .i64 (p : Int), .int .i64 (q : Int)] w fun e w' => e = .returned (.int .i64 (rk (edges s) [p] q)) ∧ Below w.heap.size w w' := by
  have hn60 := sound_n hsd
  have hin : Hid (∀ x, x ∈ s.cap → (0 ≤ x.1 ∧ x.1 < s.ps.length) ∧ (0 ≤ x.2.1 ∧ x.2.1 < s.ps.length)) := fun x hx => sound_cap hsd hx
  have hin2 := Lib.hid (edges_in hsd)
  have hmk := run_make_row' (P := Tryz.prog) 26 3 (.int .i64 0) 8 Tryz.underlying26 infoIr rfl .i64 .i64 s.ps.length (by omega) (by omega)
  have hX0 : Hid (Bk (w.alloc (.cells #[.slice Ap s.ps.length cp, .slice Ac s.cap.length cc, .slice Av s.vot.length cv] 25)) w.heap.size 25 (SC s Ap Ac Av cp cc cv)) := Bk.new w _ _
  have hB0 : Hid (Below w.heap.size w (w.alloc (.cells #[.slice Ap s.ps.length cp, .slice Ac s.cap.length cc, .slice Av s.vot.length cv] 25))) := (Below.refl _ w).alloc (Nat.le_refl _) _
  have hsz0 : (w.alloc (.cells #[.slice Ap s.ps.length cp, .slice Ac s.cap.length cc, .slice Av s.vot.length cv] 25)).heap.size = w.heap.size + 1 := by simp
  have hR0 := RoI.made (w.alloc (.cells #[.slice Ap s.ps.length cp, .slice Ac s.cap.length cc, .slice Av s.vot.length cv] 25)) s.ps.length 3
  rw [hsz0] at hR0
  have hX1 := Lib.hid (hX0.out.alloc (.cells (madeCells #[.int .i64 0] s.ps.length) 3))
  have hB1 : Hid (Below w.heap.size w ((w.alloc (.cells #[.slice Ap s.ps.length cp, .slice Ac s.cap.length cc, .slice Av s.vot.length cv] 25)).alloc (.cells (madeCells #[.int .i64 0] s.ps.length) 3))) := hB0.out.alloc (by rw [hsz0]; omega) _
  have u0 := hX0.out.cell (j := 0) rfl
  have u9 := hX0.out.lt
  replace hs := Lib.hid hs
  replace hR0 := Lib.hid hR0
  replace hsd := Lib.hid hsd
  clear hX0 hB0 hsz0
  go_enter Tryz.func19, Tryz.ntmps19
  go_wp2
  obtain ⟨w4, hw4⟩ : ∃ x, x = ((w.alloc (.cells #[.slice Ap s.ps.length cp, .slice Ac s.cap.length cc, .slice Av s.vot.length cv] 25)).alloc (.cells (madeCells #[.int .i64 0] s.ps.length) 3)) := ⟨_, rfl⟩
  rw [← hw4] at hR0 hX1 hB1 ⊢
  obtain ⟨b0, hb0⟩ : ∃ x, x = w.heap.size + 1 := ⟨_, rfl⟩
  rw [← hb0] at hR0 ⊢
  have hX4 := hX1
  have hBr := hB1
  have hbb : Hid (∀ x, x ∈ [b0] → w.heap.size ≤ x) := fun x hx => by rw [List.mem_singleton.1 hx]; omega
  have hxb : Hid (w.heap.size ∉ [b0]) := by unfold Hid; simp; omega
  clear u0 u9 hmk hw4 hb0 hX1 hB1
  go_loopw [8] (fun ix wr => ∃ (k : Nat) (o : Nat → Int), k ≤ s.ps.length ∧ ix = .int .i64 (k : Int) ∧ Hid (Kp [b0] w4 wr) ∧ Hid (RoI wr b0 s.ps.length o) ∧ Hid (∀ x, x < k → o x = -1)) (fun ix _ => s.ps.length - (intOf ix).toNat)
  case atStart => exact ⟨0, _, Nat.zero_le _, rfl, Kp.refl _ _, hR0, fun x h => absurd h (Nat.not_lt_zero _)⟩
  case round =>
    obtain ⟨k, o, hk, rfl, hK, hR, ho⟩ := hrel
    clear hR0
    by_cases hlt : k < s.ps.length
    · have e2 := hR.out.cell k hlt
      have e3 := hR.out.fr k
      have hR2 := Lib.hid (hR.out.set hlt (-1))
      have hK2 := Lib.hid (hK.out.set (a := ⟨b0, k, none⟩) (.int .i64 (-1)) (.inl (List.mem_singleton.2 rfl)))
      have ho2 : Hid (∀ x, x < k + 1 → setI o k (-1) x = -1) := fun x hx => by
        by_cases e : x = k
        · rw [e, setI_same]
        · rw [setI_other e]; exact ho.out x (by omega)
      have j0 : (0 : Int) ≤ (k : Int) := by omega
      have j1 : (k : Int) < (s.ps.length : Int) := by omega
      go_wp2
      exact ⟨⟨k + 1, _, by omega, by go_num, hK2, hR2, ho2⟩, by simp only [intOf]; omega⟩
    · obtain rfl : k = s.ps.length := by omega
      have e2 := hR.out.cell p hp
      have e3 := hR.out.fr p
      have hR2 := Lib.hid (hR.out.set hp 0)
      have hK2 := Lib.hid (hK.out.set (a := ⟨b0, p, none⟩) (.int .i64 0) (.inl (List.mem_singleton.2 rfl)))
      have hLv : Hid (Lv s.ps.length (edges s) [p] 0 0 (setI o p 0)) := Lv.start fun x hx => by
        by_cases e : x = p
        · rw [e, setI_same, if_pos (List.mem_singleton.2 rfl)]
        · rw [setI_other e, ho.out x hx, if_neg fun c => e (List.mem_singleton.1 c)]
      have j0 : (0 : Int) ≤ (p : Int) := by omega
      have j1 : (p : Int) < (s.ps.length : Int) := by omega
      have j2 : (0 : Int) ≤ (q : Int) := by omega
      have j3 : (q : Int) < (s.ps.length : Int) := by omega
      clear hK hR ho
      go_wp2
      go_loopw [9] (fun ix wr => ∃ (r : Nat) (o : Nat → Int), r ≤ s.ps.length ∧ ix = .int .i64 (r : Int) ∧ Hid (Kp [b0] w4 wr) ∧ Hid (RoI wr b0 s.ps.length o) ∧ Hid (Lv s.ps.length (edges s) [p] r 0 o)) (fun ix _ => s.ps.length - (intOf ix).toNat)
      case atStart => exact ⟨0, _, Nat.zero_le _, rfl, hK2, hR2, hLv⟩
      case round =>
        clear hK2 hR2 hLv
        obtain ⟨r, o, hr, rfl, hK, hR, hLv⟩ := hrel
        have f8 := hR.out.cell q hq
        have f9 := hR.out.lt
        have hend : Hid (s.ps.length ≤ r ∨ 0 ≤ o q → o q = rk (edges s) [p] q) := fun h => hLv.out.at hin2.out hq h
        have hBe : Hid (Below w.heap.size w wr) := hK.out.to_below hBr.out hbb.out
        by_cases hrn : r < s.ps.length
        · have m3 : decide ((r : Int) < (s.ps.length : Int)) = true := decide_eq_true (by omega)
          have m3' : decide (r < s.ps.length) = true := decide_eq_true hrn
          by_cases hoq : o q < 0
          · have m4 : decide (o q < 0) = true := decide_eq_true hoq
            clear hend
            go_wp2
            go_loopw [10] (fun ix wr => ∃ (i : Nat) (o : Nat → Int), i ≤ s.cap.length ∧ ix = .int .i64 (i : Int) ∧ Hid (Kp [b0] w4 wr) ∧ Hid (RoI wr b0 s.ps.length o) ∧ Hid (Lv s.ps.length (edges s) [p] r i o)) (fun ix _ => s.cap.length - (intOf ix).toNat)
            case atStart => exact ⟨0, o, Nat.zero_le _, rfl, hK, hR, hLv⟩
            case round =>
              clear hK hR hLv f8 f9 m3 m3' m4 hoq hBe
              obtain ⟨i, o, hi, rfl, hK, hR, hLv⟩ := hrel
              have hX := hX4.out.kp hK.out hxb.out
              have u1 := hX.cell (j := 1) rfl
              have u9 := hX.lt
              have hBk : Hid (Below w.heap.size w wr) := hK.out.to_below hBr.out hbb.out
              clear hX
              by_cases hil : i < s.cap.length
              · obtain ⟨b, of, rfl, hbl, hcc⟩ := (hs.out.below hBk.out).cap (by omega)
                obtain ⟨e1, e2, e3, e4, e5⟩ := hcc i hil
                have hix := hin.out s.cap[i] (List.getElem_mem hil)
                have hie : i < (edges s).length := by rw [edges_len]; exact hil
                have hee := edges_at hil
                obtain ⟨x, hx⟩ : ∃ x, x = s.cap[i] := ⟨_, rfl⟩
                rw [← hx] at e1 e2 e3 e4 e5 hix hee
                obtain ⟨coI, hoI, g, nn, dd⟩ := x
                obtain ⟨⟨i1, i2⟩, i3, i4⟩ := hix
                replace i1 : 0 ≤ coI := i1
                replace i2 : coI < s.ps.length := i2
                replace i3 : 0 ≤ hoI := i3
                replace i4 : hoI < s.ps.length := i4
                obtain ⟨co, rfl⟩ : ∃ c : Nat, coI = (c : Int) := ⟨coI.toNat, by omega⟩
                obtain ⟨ho, rfl⟩ : ∃ c : Nat, hoI = (c : Int) := ⟨hoI.toNat, by omega⟩
                replace hee : (edges s)[i] = (ho, co) := by simpa using hee
                replace e1 : wr.cell? ⟨b, of + i * 5, none⟩ = some (.int .i64 (co : Int)) := e1
                replace e2 : wr.cell? ⟨b, of + i * 5 + 1, none⟩ = some (.int .i64 (ho : Int)) := e2
                replace e3 : wr.cell? ⟨b, of + i * 5 + 2, none⟩ = some (.bool g) := e3
                replace e4 : wr.cell? ⟨b, of + i * 5 + 3, none⟩ = some (.string nn) := e4
                replace e5 : wr.cell? ⟨b, of + i * 5 + 4, none⟩ = some (.string dd) := e5
                have j0 : (0 : Int) ≤ (i : Int) := by omega
                have j1 : (i : Int) < (s.cap.length : Int) := by omega
                have hho : ho < s.ps.length := by omega
                have hco : co < s.ps.length := by omega
                have hRx := Lib.hid (hR.out.alloc (.cells #[.int .i64 (co : Int), .int .i64 (ho : Int), .bool g, .string nn, .string dd] 44))
                have hKx := Lib.hid (hK.out.alloc (.cells #[.int .i64 (co : Int), .int .i64 (ho : Int), .bool g, .string nn, .string dd] 44))
                have f1 := hRx.out.cell ho hho
                have f2 := hRx.out.cell co hco
                have f3 := hRx.out.fr co
                have f4 := hRx.out.lt
                have f5 := hR.out.lt
                have f6 : b0 ≠ wr.heap.size := by omega
                have hnc := hs.out.nc
                have hst := Lib.hid (fun h1 h2 => hLv.out.step_yes hie hin2.out hee h1 h2)
                have hsn := Lib.hid (fun h => hLv.out.step_no hie hin2.out hee h)
                clear hcc hx hee hLv hie
                by_cases hq : o ho = r
                · have m1 : ((o ho) == (r : Int)) = true := by rw [beq_iff_eq]; exact hq
                  by_cases hq2 : o co < 0
                  · have m2 : decide (o co < 0) = true := decide_eq_true hq2
                    have hL2 := Lib.hid (hst.out hq hq2)
                    have hR2 := Lib.hid ((hR.out.set hco ((r : Int) + 1)).alloc (.cells #[.int .i64 (co : Int), .int .i64 (ho : Int), .bool g, .string nn, .string dd] 44))
                    have hK2 := Lib.hid ((hK.out.set (a := ⟨b0, co, none⟩) (.int .i64 ((r : Int) + 1)) (.inl (List.mem_singleton.2 rfl))).alloc (.cells #[.int .i64 (co : Int), .int .i64 (ho : Int), .bool g, .string nn, .string dd] 44))
                    replace hq := Lib.hid hq
                    clear hst hsn hq2
                    go_wp2
                    exact ⟨⟨i + 1, _, by omega, by go_num, hK2, hR2, hL2⟩, by simp only [intOf]; omega⟩
                  · have m2 : decide (o co < 0) = false := decide_eq_false hq2
                    have hL2 := Lib.hid (hsn.out fun c => hq2 c.2)
                    replace hq := Lib.hid hq
                    clear hst hsn hq2
                    go_wp2
                    exact ⟨⟨i + 1, _, by omega, by go_num, hKx, hRx, hL2⟩, by simp only [intOf]; omega⟩
                · have m1 : ((o ho) == (r : Int)) = false := by rw [beq_eq_false_iff_ne]; exact hq
                  have hL2 := Lib.hid (hsn.out fun c => hq c.1)
                  replace hq := Lib.hid hq
                  clear hst hsn
                  go_wp2
                  exact ⟨⟨i + 1, _, by omega, by go_num, hKx, hRx, hL2⟩, by simp only [intOf]; omega⟩
              · obtain rfl : i = s.cap.length := by omega
                have hnc := hs.out.nc
                have hL2 : Hid (Lv s.ps.length (edges s) [p] (r + 1) 0 o) := by
                  have h := hLv.out
                  rw [← edges_len] at h
                  exact h.next
                clear hLv
                go_wp2
                exact ⟨⟨r + 1, o, by omega, by go_num, hK, hR, hL2⟩, by simp only [intOf]; omega⟩
          · have hG := Lib.hid (hend.out (.inr (by omega)))
            have m4 : decide (o q < 0) = false := decide_eq_false hoq
            clear hend hLv
            go_wp2
            go_ret
            exact ⟨congrArg (fun x => Ending.returned (.int .i64 x)) hG.out, hBe.out⟩
        · have hG := Lib.hid (hend.out (.inl (by omega)))
          have m3 : decide ((r : Int) < (s.ps.length : Int)) = false := decide_eq_false (by omega)
          have m3' : decide (r < s.ps.length) = false := decide_eq_false (by omega)
          clear hend hLv
          go_wp2
          go_ret
          exact ⟨congrArg (fun x => Ending.returned (.int .i64 x)) hG.out, hBe.out⟩
end Ci
end Go.Proofs.YthggedpgcchneaaGreatDoor

namespace Go.Proofs.YthggedpgcchneaaGreatDoor
open Go.RowKit Go.Shelf
namespace Ci
open Nt
open Classical

/-- What is placed ahead of member i of component k. -/
noncomputable def plO (n : Nat) (E : List (Nat × Nat)) (k i x : Nat) : Int := if at' n E x < k ∨ (at' n E x = k ∧ x ∈ ((comps n E).getD k []).take i) then (at' n E x : Int) else -1
section
variable {n : Nat} {E : List (Nat × Nat)} {k i x : Nat}
theorem comps_getD (hk : k < (comps n E).length) : (comps n E).getD k [] = (comps n E)[k] := by simp [hk]
theorem plO_zero (x : Nat) : plO n E 0 0 x = -1 := by
  unfold plO
  rw [if_neg]
  rintro (h | ⟨_, h⟩)
  · omega
  · simp at h
theorem comp_in (hE : InN n E) (hk : k < (comps n E).length) (hi : i < ((comps n E)[k]).length) : ((comps n E)[k])[i] < n ∧ at' n E ((comps n E)[k])[i] = k := by
  have hm := List.getElem_mem hi
  have hall : ∀ q, q ∈ (comps n E)[k] → q < n := by
    rw [comps_get]
    exact fun q hq => (mem_comp.1 hq).1
  have h1 : ((comps n E)[k])[i] < n := hall _ hm
  exact ⟨h1, ((at_iff hE h1 hk).1 hm).symm⟩
theorem comp_srt (hk : k < (comps n E).length) : ((comps n E)[k]).Pairwise (· < ·) := by rw [comps_get]; exact comp_sorted
theorem plO_new (hE : InN n E) (hk : k < (comps n E).length) (hi : i < ((comps n E)[k]).length) : plO n E k i ((comps n E)[k])[i] = -1 := by
  obtain ⟨_, h2⟩ := comp_in hE hk hi
  unfold plO
  rw [if_neg]
  rintro (h | ⟨_, h⟩)
  · omega
  · rw [comps_getD hk] at h
    obtain ⟨j, hj, e⟩ := List.getElem_of_mem h
    rw [List.length_take] at hj
    rw [List.getElem_take] at e
    have := List.pairwise_iff_getElem.1 (comp_srt hk) j i (by omega) hi (by omega)
    omega
theorem plO_step (hE : InN n E) (hk : k < (comps n E).length) (hi : i < ((comps n E)[k]).length) (x : Nat) : setI (plO n E k i) ((comps n E)[k])[i] (k : Int) x = plO n E k (i + 1) x := by
  obtain ⟨_, h2⟩ := comp_in hE hk hi
  unfold setI plO
  rw [comps_getD hk, List.take_succ_eq_append_getElem hi]
  by_cases e : x = ((comps n E)[k])[i]
  · rw [if_pos e, if_pos (.inr ⟨by rw [e, h2], by rw [e]; exact List.mem_append_right _ (List.mem_singleton.2 rfl)⟩), e, h2]
  · rw [if_neg e]
    by_cases c : at' n E x < k ∨ (at' n E x = k ∧ x ∈ ((comps n E)[k]).take i)
    · rw [if_pos c, if_pos (c.imp id fun c => ⟨c.1, List.mem_append_left _ c.2⟩)]
    · rw [if_neg c, if_neg]
      rintro (d | ⟨d1, d2⟩)
      · exact c (.inl d)
      · rcases List.mem_append.1 d2 with d2 | d2
        · exact c (.inr ⟨d1, d2⟩)
        · exact e (List.mem_singleton.1 d2)
theorem plO_next (hE : InN n E) (hk : k < (comps n E).length) {x : Nat} (hx : x < n) : plO n E k ((comps n E)[k]).length x = plO n E (k + 1) 0 x := by
  unfold plO
  rw [comps_getD hk, List.take_length]
  by_cases c : at' n E x ≤ k
  · rw [if_pos, if_pos (.inl (by omega))]
    by_cases e : at' n E x = k
    · exact .inr ⟨e, (at_iff hE hx hk).2 e.symm⟩
    · exact .inl (by omega)
  · rw [if_neg, if_neg]
    · rintro (d | ⟨_, d⟩)
      · omega
      · simp at d
    · rintro (d | ⟨d, _⟩) <;> omega
theorem plO_all (hE : InN n E) {x : Nat} (hx : x < n) : plO n E (comps n E).length 0 x = (at' n E x : Int) := by
  unfold plO
  rw [if_pos (.inl (by rw [comps_len]; exact at_lt hE hx))]
end
theorem bare_at {s : SR} {l : List (Option Addr × Nat × List Int)} (h : bare l = compsI s) {k : Nat} (hk : k < l.length) : ∃ hc : k < (comps s.ps.length (edges s)).length, l[k].2.2 = ((comps s.ps.length (edges s))[k]).map fun (q : Nat) => (q : Int) := by
  have hl := congrArg List.length h
  simp only [bare, compsI, List.length_map] at hl
  refine ⟨by omega, ?_⟩
  have h1 : (bare l)[k]'(by simpa [bare] using hk) = (compsI s)[k]'(by simp [compsI]; omega) := by simp only [h]
  simpa [bare, compsI] using h1
/-- What places gives. -/
def PlPost (s : SR) (w : World) (e : Ending) (w' : World) : Prop := (∃ b, e = .returned (.tuple #[.slice (some ⟨b, 0, none⟩) s.ps.length s.ps.length, .bool true]) ∧ RoI w' b s.ps.length (fun x => (at' s.ps.length (edges s) x : Int))) ∧ Below w.heap.size w w'

set_option maxRecDepth 100000 in
set_option maxHeartbeats 16000000 in
theorem places_any (s : SR) (Ap Ac Av : Option Addr) (cp cc cv : Nat) (Al : Option Addr) (cl : Nat) (l : List (Option Addr × Nat × List Int)) (w : World) (hsd : soundB s = true) (hl : InLs w Al l) (hb : bare l = compsI s) :
    Calls Tryz.prog 18 #[.agg #[.slice Ap s.ps.length cp, .slice Ac s.cap.length cc, .slice Av s.vot.length cv], .slice Al l.length cl] w (PlPost s w) := by
  have hn60 := sound_n hsd
  have hE := edges_in hsd
  have hll : l.length = (comps s.ps.length (edges s)).length := by
    have h := congrArg List.length hb
    simpa [bare, compsI] using h
  have hl60 : l.length ≤ 60 := by have h := ords_len hE; rw [← comps_len, ← hll] at h; omega
  obtain ⟨E, hE0⟩ : ∃ E, E = edges s := ⟨_, rfl⟩
  have hat := Lib.hid (fun (k : Nat) (hk : k < l.length) => bare_at hb hk)
  have hPf : Hid (∀ e w' b, e = .returned (.tuple #[.slice (some ⟨b, 0, none⟩) s.ps.length s.ps.length, .bool true]) → RoI w' b s.ps.length (fun x => (at' s.ps.length (edges s) x : Int)) → Below w.heap.size w w' → PlPost s w e w') := fun e w' b h1 h2 h3 => ⟨⟨b, h1, h2⟩, h3⟩
  rw [← hE0] at hE hll hat hPf
  have hmk := run_make_row' (P := Tryz.prog) 26 3 (.int .i64 0) 8 Tryz.underlying26 infoIr rfl .i64 .i64 s.ps.length (by omega) (by omega)
  have hX0 : Hid (Bk (w.alloc (.cells #[.slice Ap s.ps.length cp, .slice Ac s.cap.length cc, .slice Av s.vot.length cv] 25)) w.heap.size 25 (SC s Ap Ac Av cp cc cv)) := Bk.new w _ _
  have hB0 : Hid (Below w.heap.size w (w.alloc (.cells #[.slice Ap s.ps.length cp, .slice Ac s.cap.length cc, .slice Av s.vot.length cv] 25))) := (Below.refl _ w).alloc (Nat.le_refl _) _
  have hsz0 : (w.alloc (.cells #[.slice Ap s.ps.length cp, .slice Ac s.cap.length cc, .slice Av s.vot.length cv] 25)).heap.size = w.heap.size + 1 := by simp
  have hR0 := RoI.made (w.alloc (.cells #[.slice Ap s.ps.length cp, .slice Ac s.cap.length cc, .slice Av s.vot.length cv] 25)) s.ps.length 3
  rw [hsz0] at hR0
  have hB1 : Hid (Below w.heap.size w ((w.alloc (.cells #[.slice Ap s.ps.length cp, .slice Ac s.cap.length cc, .slice Av s.vot.length cv] 25)).alloc (.cells (madeCells #[.int .i64 0] s.ps.length) 3))) := hB0.out.alloc (by rw [hsz0]; omega) _
  have u0 := hX0.out.cell (j := 0) rfl
  have u9 := hX0.out.lt
  replace hR0 := Lib.hid hR0
  replace hE := Lib.hid hE
  replace hl := Lib.hid hl
  replace hll := Lib.hid hll
  replace hsd := Lib.hid hsd
  replace hb := Lib.hid hb
  clear hX0 hB0 hsz0 hE0
  go_enter Tryz.func18, Tryz.ntmps18
  go_wp2
  obtain ⟨w4, hw4⟩ : ∃ x, x = ((w.alloc (.cells #[.slice Ap s.ps.length cp, .slice Ac s.cap.length cc, .slice Av s.vot.length cv] 25)).alloc (.cells (madeCells #[.int .i64 0] s.ps.length) 3)) := ⟨_, rfl⟩
  rw [← hw4] at hR0 hB1 ⊢
  obtain ⟨b0, hb0⟩ : ∃ x, x = w.heap.size + 1 := ⟨_, rfl⟩
  rw [← hb0] at hR0 ⊢
  have hbb : Hid (∀ x, x ∈ [b0] → w.heap.size ≤ x) := fun x hx => by rw [List.mem_singleton.1 hx]; omega
  clear u0 u9 hmk hw4 hb0
  go_loopw [7] (fun ix wr => ∃ (k : Nat) (o : Nat → Int), k ≤ s.ps.length ∧ ix = .int .i64 (k : Int) ∧ Hid (Kp [b0] w4 wr) ∧ Hid (RoI wr b0 s.ps.length o) ∧ Hid (∀ x, x < k → o x = -1)) (fun ix _ => s.ps.length - (intOf ix).toNat)
  case atStart => exact ⟨0, _, Nat.zero_le _, rfl, Kp.refl _ _, hR0, fun x h => absurd h (Nat.not_lt_zero _)⟩
  case round =>
    obtain ⟨k, o, hk, rfl, hK, hR, ho⟩ := hrel
    clear hR0
    by_cases hlt : k < s.ps.length
    · have e2 := hR.out.cell k hlt
      have e3 := hR.out.fr k
      have hR2 := Lib.hid (hR.out.set hlt (-1))
      have hK2 := Lib.hid (hK.out.set (a := ⟨b0, k, none⟩) (.int .i64 (-1)) (.inl (List.mem_singleton.2 rfl)))
      have ho2 : Hid (∀ x, x < k + 1 → setI o k (-1) x = -1) := fun x hx => by
        by_cases e : x = k
        · rw [e, setI_same]
        · rw [setI_other e]; exact ho.out x (by omega)
      have j0 : (0 : Int) ≤ (k : Int) := by omega
      have j1 : (k : Int) < (s.ps.length : Int) := by omega
      go_wp2
      exact ⟨⟨k + 1, _, by omega, by go_num, hK2, hR2, ho2⟩, by simp only [intOf]; omega⟩
    · obtain rfl : k = s.ps.length := by omega
      have hR2 : Hid (RoI wr b0 s.ps.length (plO s.ps.length E 0 0)) := hR.out.congr fun x hx => by rw [ho.out x hx, plO_zero]
      clear hR ho
      go_wp2
      go_loopw [8] (fun ix wr => ∃ (k : Nat), k ≤ l.length ∧ ix = .int .i64 (k : Int) ∧ Hid (Kp [b0] w4 wr) ∧ Hid (RoI wr b0 s.ps.length (plO s.ps.length E k 0))) (fun ix _ => l.length - (intOf ix).toNat)
      case atStart => exact ⟨0, Nat.zero_le _, rfl, hK, hR2⟩
      case round =>
        clear hK hR2
        obtain ⟨k, hk, rfl, hK, hR⟩ := hrel
        have hBk : Hid (Below w.heap.size w wr) := hK.out.to_below hB1.out hbb.out
        by_cases hkl : k < l.length
        · obtain ⟨lb, lo, rfl, hlb, hlc⟩ := hl.out (by omega)
          obtain ⟨c1, c2, c3⟩ := hlc k hkl
          obtain ⟨hc, hce⟩ := hat.out k hkl
          obtain ⟨cm, hcm⟩ : ∃ x, x = (comps s.ps.length E)[k] := ⟨_, rfl⟩
          have hin := Lib.hid (fun i (hi : i < ((comps s.ps.length E)[k]).length) => comp_in hE.out hc hi)
          have hnew := Lib.hid (fun i (hi : i < ((comps s.ps.length E)[k]).length) => plO_new hE.out hc hi)
          have hstp := Lib.hid (fun i (hi : i < ((comps s.ps.length E)[k]).length) => plO_step hE.out hc hi)
          have hnx := Lib.hid (fun x (hx : x < s.ps.length) => plO_next hE.out hc hx)
          have hsr := Lib.hid (List.pairwise_iff_getElem.1 (comp_srt hc))
          have hne0 : 0 < ((comps s.ps.length E)[k]).length := by
            obtain ⟨_, h⟩ := comps_ne hE.out hc
            rw [h]; simp
          rw [← hcm] at hce hin hnew hstp hnx hsr hne0
          obtain ⟨A1, hA1⟩ : ∃ x, x = l[k].1 := ⟨_, rfl⟩
          obtain ⟨C1, hC1⟩ : ∃ x, x = l[k].2.1 := ⟨_, rfl⟩
          rw [hce, List.length_map, ← hA1, ← hC1] at c1
          rw [hce, ← hA1] at c2
          rw [hce, List.length_map] at c3
          have d1 := fun W (hW : Below w.heap.size w W) => (hW.cell (p := ⟨lb, lo + k, none⟩) hlb).trans c1
          have d2 := fun W (hW : Below w.heap.size w W) => c2.below hW
          replace d1 := Lib.hid d1
          replace d2 := Lib.hid d2
          have f1 := d1.out wr hBk.out
          have k0 : (0 : Int) ≤ (k : Int) := by omega
          have k1 : (k : Int) < (l.length : Int) := by omega
          have m1 : ((cm.length : Int) == 0) = false := by rw [beq_eq_false_iff_ne]; omega
          have m1' : (cm.length == 0) = false := by rw [beq_eq_false_iff_ne]; omega
          clear hlc c1 c2 hcm hce hA1 hC1 hc
          go_wp2
          go_loopw [9] (fun ix wr => ∃ (i : Nat), i ≤ cm.length ∧ ix = .int .i64 (i : Int) ∧ Hid (Kp [b0] w4 wr) ∧ Hid (RoI wr b0 s.ps.length (plO s.ps.length E k i))) (fun ix _ => cm.length - (intOf ix).toNat)
          case atStart => exact ⟨0, Nat.zero_le _, rfl, hK, hR⟩
          case round =>
            clear hK hR f1 m1 m1' hBk
            obtain ⟨i, hi, rfl, hK, hR⟩ := hrel
            have hBk : Hid (Below w.heap.size w wr) := hK.out.to_below hB1.out hbb.out
            have f1 := d1.out wr hBk.out
            by_cases hil : i < cm.length
            · obtain ⟨gb, go, rfl, hgb, hgc⟩ := d2.out wr hBk.out (by simpa using hne0)
              have f2 := hgc i (by simpa using hil)
              simp only [List.getElem_map] at f2
              have f3 : 0 < i → wr.cell? ⟨gb, go + (i - 1), none⟩ = some (.int .i64 ((cm[i - 1]'(by omega) : Nat) : Int)) ∧ cm[i - 1]'(by omega) < cm[i] := fun h => ⟨by have := hgc (i - 1) (by simpa using Nat.lt_of_le_of_lt (Nat.sub_le i 1) hil); simpa using this, hsr.out (i - 1) i (by omega) hil (by omega)⟩
              obtain ⟨h1, h2⟩ := hin.out i hil
              have h3 := hnew.out i hil
              have h4 := hstp.out i hil
              obtain ⟨q, hq⟩ : ∃ x, x = cm[i] := ⟨_, rfl⟩
              rw [← hq] at f2 h1 h2 h3 h4 f3
              obtain ⟨pr, f3⟩ : ∃ pr : Nat, 0 < i → wr.cell? ⟨gb, go + (i - 1), none⟩ = some (.int .i64 (pr : Int)) ∧ pr < q := ⟨cm[i - 1]'(by omega), f3⟩
              have g1 := hR.out.cell q h1
              rw [h3] at g1
              have g2 := hR.out.fr q
              have hR3 : Hid (RoI (wr.setCell ⟨b0, q, none⟩ (.int .i64 (k : Int))) b0 s.ps.length (plO s.ps.length E k (i + 1))) := (hR.out.set h1 (k : Int)).congr fun x _ => h4 x
              have hK3 := Lib.hid (hK.out.set (a := ⟨b0, q, none⟩) (.int .i64 (k : Int)) (.inl (List.mem_singleton.2 rfl)))
              have i0 : (0 : Int) ≤ (i : Int) := by omega
              have i1 : (i : Int) < (cm.length : Int) := by omega
              have q0 : (0 : Int) ≤ (q : Int) := by omega
              have q1 : (q : Int) < (s.ps.length : Int) := by omega
              have n1 : decide ((q : Int) < 0) = false := decide_eq_false (by omega)
              have n2 : decide ((s.ps.length : Int) ≤ (q : Int)) = false := decide_eq_false (by omega)
              clear hgc hq h4 h3
              by_cases hi0 : i = 0
              · have n3 : decide (0 < (i : Int)) = false := decide_eq_false (by omega)
                have n4 : decide (0 < i) = false := decide_eq_false (by omega)
                clear f3
                replace hi0 := Lib.hid hi0
                go_wp2
                exact ⟨⟨i + 1, by omega, by go_num, hK3, hR3⟩, by simp only [intOf]; omega⟩
              · have n3 : decide (0 < (i : Int)) = true := decide_eq_true (by omega)
                have n4 : decide (0 < i) = true := decide_eq_true (by omega)
                obtain ⟨f4, f5⟩ := f3 (by omega)
                have j2 : (0 : Int) ≤ (i : Int) - 1 := by omega
                have j3 : (i : Int) - 1 < (cm.length : Int) := by omega
                have j5 : ((i : Int) - 1).toNat = i - 1 := by omega
                have n5 : decide ((q : Int) ≤ (pr : Int)) = false := decide_eq_false (by omega)
                clear f3
                go_wp2
                exact ⟨⟨i + 1, by omega, by go_num, hK3, hR3⟩, by simp only [intOf]; omega⟩
            · obtain rfl : i = cm.length := by omega
              have hR3 : Hid (RoI wr b0 s.ps.length (plO s.ps.length E (k + 1) 0)) := hR.out.congr fun x hx => hnx.out x hx
              clear hR
              go_wp2
              exact ⟨⟨k + 1, by omega, by go_num, hK, hR3⟩, by simp only [intOf]; omega⟩
        · obtain rfl : k = l.length := by omega
          have hR3 : Hid (RoI wr b0 s.ps.length (fun x => (at' s.ps.length E x : Int))) := hR.out.congr fun x hx => by rw [hll.out]; exact plO_all hE.out hx
          clear hR
          go_wp2
          go_loopw [11] (fun ix wz => ∃ (i : Nat), i ≤ s.ps.length ∧ ix = .int .i64 (i : Int) ∧ wz = wr) (fun ix _ => s.ps.length - (intOf ix).toNat)
          case atStart => exact ⟨0, Nat.zero_le _, rfl, rfl⟩
          case round =>
            obtain ⟨i, hi, rfl, hwz⟩ := hrel
            subst hwz
            by_cases hil : i < s.ps.length
            · have g1 := hR3.out.cell i hil
              have g3 := hR3.out.lt
              have n1 : decide ((at' s.ps.length E i : Int) < 0) = false := decide_eq_false (by omega)
              have i0 : (0 : Int) ≤ (i : Int) := by omega
              have i1 : (i : Int) < (s.ps.length : Int) := by omega
              generalize at' s.ps.length E i = av at g1 n1
              go_wp2
              exact ⟨⟨i + 1, by omega, by go_num, trivial⟩, by simp only [intOf]; omega⟩
            · obtain rfl : i = s.ps.length := by omega
              go_wp2
              go_ret2
              exact hPf.out _ _ b0 rfl hR3.out hBk.out
end Ci
end Go.Proofs.YthggedpgcchneaaGreatDoor

namespace Go.Proofs.YthggedpgcchneaaGreatDoor
open Go.RowKit Go.Shelf
namespace Ci
open Nt

def b60 : ByteArray := ⟨#[54, 48]⟩
/-- The same link, one 60th. -/
def reLk (x : Lk) : Lk := (x.1, x.2.1, false, b1, b60)
def reS (s : SR) : SR := ⟨s.ps, s.cap.map reLk, []⟩
theorem units_60 : unitsN (false, b1, b60) = 100 := by kernel_rfl
theorem rise_trans {a b c : Lk} (h1 : Rise a b) (h2 : Rise b c) : Rise a c := by
  unfold Rise at *
  omega
theorem good_rise {n : Nat} {l : List Lk} (h : goodB n l = true) : l.Pairwise Rise := by
  refine List.pairwise_iff_getElem.2 fun i j hi hj hij => ?_
  induction j with
  | zero => omega
  | succ j ih =>
    have h1 := (good_at h hj).2.1 (by omega)
    simp only [Nat.add_sub_cancel] at h1
    by_cases e : i = j
    · subst e; exact h1
    · exact rise_trans (ih (by omega) (by omega)) h1
theorem count_le {n : Nat} {l : List Lk} (h : goodB n l = true) (k : Nat) (c : Int) : ((l.take k).filter fun x => decide (x.1 = c)).length ≤ n := by
  have hp : ((l.take k).filter fun x => decide (x.1 = c)).Pairwise Rise := ((good_rise h).sublist (List.take_sublist k l)).filter _
  have hin : ∀ x, x ∈ (l.take k).filter (fun x => decide (x.1 = c)) → x.1 = c ∧ 0 ≤ x.2.1 ∧ x.2.1 < n := fun x hx => by
    obtain ⟨h1, h2⟩ := List.mem_filter.1 hx
    obtain ⟨i, hi, rfl⟩ := List.getElem_of_mem (List.mem_of_mem_take h1)
    have := (good_at h hi).1
    exact ⟨of_decide_eq_true h2, this.2.1.1, this.2.1.2⟩
  have hd : (((l.take k).filter fun x => decide (x.1 = c)).map fun x => x.2.1.toNat).Nodup := by
    unfold List.Nodup
    rw [List.pairwise_map]
    refine List.Pairwise.imp_of_mem (fun {a b} ha hb hab => ?_) hp
    have h1 := hin a ha
    have h2 := hin b hb
    unfold Rise at hab
    omega
  have hl := nodup_len n _ hd fun x hx => by
    obtain ⟨y, hy, rfl⟩ := List.mem_map.1 hx
    have := hin y hy
    omega
  rwa [List.length_map] at hl
theorem sum_re (l : List Lk) (c : Int) : sumU (l.map reLk) c = 100 * (l.filter fun x => decide (x.1 = c)).length := by
  unfold sumU
  rw [List.filter_map, List.map_map]
  have h1 : (fun x => decide (x.1 = c)) ∘ reLk = fun x : Lk => decide (x.1 = c) := rfl
  rw [h1]
  generalize l.filter (fun x => decide (x.1 = c)) = m
  induction m with
  | nil => rfl
  | cons a m ih =>
    rw [List.map_cons, List.sum_cons, ih, List.length_cons]
    have h2 : ((fun x => unitsN (lkP x)) ∘ reLk) a = 100 := by
      simp only [Function.comp_apply, reLk, lkP]
      exact units_60
    rw [h2]; omega
theorem good_re {n : Nat} {l : List Lk} (h : goodB n l = true) (hn : n ≤ 60) : goodB n (l.map reLk) = true := by
  refine good_all fun i hi => ?_
  have hi2 : i < l.length := by simpa using hi
  obtain ⟨⟨a1, a2, a3, _⟩, a5, _⟩ := good_at h hi2
  refine ⟨⟨by simpa [reLk] using a1, by simpa [reLk] using a2, by simpa [reLk] using a3, ?_⟩, fun h0 => ?_, ?_⟩
  · simp only [List.getElem_map]
    show unitsN (false, b1, b60) ≠ 0
    rw [units_60]; decide
  · have := a5 h0
    simpa [Rise, reLk] using this
  · rw [← List.map_take, sum_re]
    have := count_le h (i + 1) ((l.map reLk)[i]).1
    omega
theorem sound_n' {s : SR} (h : soundB s = true) : s.ps.length ≤ 60 := by
  unfold soundB at h
  simp only [Bool.and_eq_true, decide_eq_true_eq] at h
  exact h.2.1
theorem sound_re {s : SR} (h : soundB s = true) : soundB (reS s) = true := by
  have hn := sound_n' h
  unfold soundB at h ⊢
  simp only [Bool.and_eq_true, decide_eq_true_eq] at h ⊢
  refine ⟨h.1, h.2.1, good_re h.2.2.1 hn, ?_⟩
  exact good_all fun i hi => absurd hi (by simp [reS])
theorem edges_re (s : SR) : edges (reS s) = edges s := by
  unfold edges reS
  simp only [List.map_map]
  rfl
end Ci
end Go.Proofs.YthggedpgcchneaaGreatDoor

namespace Go.Proofs.YthggedpgcchneaaGreatDoor
open Go.RowKit Go.Shelf
namespace Ci
open Nt

/-- After i parties of G: whether p was placed, and the new list. -/
structure Mi (G : List Nat) (p i : Nat) (b : Bool) (acc : List Nat) : Prop where
  srt : acc.Pairwise (· < ·)
  mem : ∀ x, x ∈ acc ↔ x ∈ G.take i ∨ (b = true ∧ x = p)
  lo : b = false → ∀ x, x ∈ G.take i → x < p
  hi : b = true → ∃ y, y ∈ G.take i ∧ p ≤ y
  len : acc.length ≤ 2 * i
theorem Mi.zero (G : List Nat) (p : Nat) : Mi G p 0 false [] := ⟨List.Pairwise.nil, by simp, fun _ x h => by simp at h, fun h => (by cases h), by simp⟩
theorem srt_add {l : List Nat} {x : Nat} (h : l.Pairwise (· < ·)) (hx : ∀ y, y ∈ l → y < x) : (l ++ [x]).Pairwise (· < ·) :=
  List.pairwise_append.2 ⟨h, by simp, fun y hy z hz => by rw [List.mem_singleton.1 hz]; exact hx y hy⟩
theorem take_lt {G : List Nat} (hG : G.Pairwise (· < ·)) {i : Nat} (hi : i < G.length) {y : Nat} (h : y ∈ G.take i) : y < G[i] := by
  obtain ⟨j, hj, rfl⟩ := List.getElem_of_mem h
  rw [List.length_take] at hj
  rw [List.getElem_take]
  exact List.pairwise_iff_getElem.1 hG j i (by omega) hi (by omega)
section
variable {G : List Nat} {p i : Nat} {b : Bool} {acc : List Nat}
/-- The party is placed ahead of the next one. -/
theorem Mi.place (h : Mi G p i false acc) (_ : G.Pairwise (· < ·)) (hi : i < G.length) (hp : p < G[i]) : Mi G p (i + 1) true (acc ++ [p] ++ [G[i]]) := by
  have hm : ∀ y, y ∈ acc → y < p := fun y hy => by
    rcases (h.mem y).1 hy with h1 | ⟨h1, _⟩
    · exact h.lo rfl y h1
    · cases h1
  refine ⟨srt_add (srt_add h.srt hm) fun y hy => ?_, fun x => ?_, fun e => (by cases e), fun _ => ⟨G[i], ?_, Nat.le_of_lt hp⟩, ?_⟩
  · rcases List.mem_append.1 hy with hy | hy
    · exact Nat.lt_trans (hm y hy) hp
    · rw [List.mem_singleton.1 hy]; exact hp
  · rw [List.take_succ_eq_append_getElem hi]
    simp only [List.mem_append, List.mem_singleton, h.mem, true_and]
    constructor
    · rintro ((h1 | h1) | h1)
      · rcases h1 with h1 | ⟨h1, _⟩
        · exact .inl (.inl h1)
        · cases h1
      · exact .inr h1
      · exact .inl (.inr h1)
    · rintro ((h1 | h1) | h1)
      · exact .inl (.inl (.inl h1))
      · exact .inr h1
      · exact .inl (.inr h1)
  · rw [List.take_succ_eq_append_getElem hi]; exact List.mem_append_right _ (List.mem_singleton.2 rfl)
  · have := h.len
    simp only [List.length_append, List.length_singleton]
    omega
/-- The party is there already. -/
theorem Mi.there (h : Mi G p i false acc) (hG : G.Pairwise (· < ·)) (hi : i < G.length) (hp : p = G[i]) : Mi G p (i + 1) true (acc ++ [G[i]]) := by
  have hm : ∀ y, y ∈ acc → y < G[i] := fun y hy => by
    rcases (h.mem y).1 hy with h1 | ⟨h1, _⟩
    · exact take_lt hG hi h1
    · cases h1
  refine ⟨srt_add h.srt hm, fun x => ?_, fun e => (by cases e), fun _ => ⟨G[i], ?_, Nat.le_of_eq hp⟩, ?_⟩
  · rw [List.take_succ_eq_append_getElem hi]
    simp only [List.mem_append, List.mem_singleton, h.mem, true_and]
    constructor
    · rintro (h1 | h1)
      · rcases h1 with h1 | ⟨h1, _⟩
        · exact .inl (.inl h1)
        · cases h1
      · exact .inl (.inr h1)
    · rintro ((h1 | h1) | h1)
      · exact .inl (.inl h1)
      · exact .inr h1
      · exact .inr (by rw [h1, hp])
  · rw [List.take_succ_eq_append_getElem hi]; exact List.mem_append_right _ (List.mem_singleton.2 rfl)
  · have := h.len
    simp only [List.length_append, List.length_singleton]
    omega
/-- The next party alone. -/
theorem Mi.next (h : Mi G p i b acc) (hG : G.Pairwise (· < ·)) (hi : i < G.length) (hp : b = true ∨ G[i] < p) : Mi G p (i + 1) b (acc ++ [G[i]]) := by
  have hm : ∀ y, y ∈ acc → y < G[i] := fun y hy => by
    rcases (h.mem y).1 hy with h1 | ⟨h1, rfl⟩
    · exact take_lt hG hi h1
    · obtain ⟨z, h2, h3⟩ := h.hi h1
      have := take_lt hG hi h2
      omega
  refine ⟨srt_add h.srt hm, fun x => ?_, fun e x hx => ?_, fun e => ?_, ?_⟩
  · rw [List.take_succ_eq_append_getElem hi]
    simp only [List.mem_append, List.mem_singleton, h.mem]
    constructor
    · rintro ((h1 | h1) | h1)
      · exact .inl (.inl h1)
      · exact .inr h1
      · exact .inl (.inr h1)
    · rintro ((h1 | h1) | h1)
      · exact .inl (.inl h1)
      · exact .inr h1
      · exact .inl (.inr h1)
  · rw [List.take_succ_eq_append_getElem hi] at hx
    rcases List.mem_append.1 hx with h1 | h1
    · exact h.lo e x h1
    · rw [List.mem_singleton.1 h1]
      rcases hp with h2 | h2
      · rw [e] at h2; cases h2
      · exact h2
  · obtain ⟨z, h2, h3⟩ := h.hi e
    refine ⟨z, ?_, h3⟩
    rw [List.take_succ_eq_append_getElem hi]
    exact List.mem_append_left _ h2
  · have := h.len
    simp only [List.length_append, List.length_singleton]
    omega
end
/-- The whole list with the party in it. -/
def Mo (G : List Nat) (p : Nat) (R : List Nat) : Prop := R.Pairwise (· < ·) ∧ (∀ x, x ∈ R ↔ x ∈ G ∨ x = p) ∧ R.length ≤ 2 * G.length + 1
theorem Mi.all {G : List Nat} {p : Nat} {acc : List Nat} (h : Mi G p G.length true acc) : Mo G p acc := by
  refine ⟨h.srt, fun x => ?_, by have := h.len; omega⟩
  rw [h.mem, List.take_length]
  simp
theorem Mi.last {G : List Nat} {p : Nat} {acc : List Nat} (h : Mi G p G.length false acc) : Mo G p (acc ++ [p]) := by
  have hm := h.mem
  rw [List.take_length] at hm
  have hl := h.lo rfl
  rw [List.take_length] at hl
  refine ⟨srt_add h.srt fun y hy => ?_, fun x => ?_, ?_⟩
  · rcases (hm y).1 hy with h1 | ⟨h1, _⟩
    · exact hl y h1
    · cases h1
  · rw [List.mem_append, hm, List.mem_singleton]
    simp
  · have := h.len
    simp only [List.length_append, List.length_singleton]
    omega
theorem toN_map (R : List Nat) : toN (R.map fun (q : Nat) => (q : Int)) = R := by
  unfold toN
  rw [List.map_map]
  have : (Int.toNat ∘ fun (q : Nat) => (q : Int)) = id := by funext x; rfl
  rw [this, List.map_id]
theorem toN_srt {n : Int} {F : List Int} (h : listB n F = true) : (toN F).Pairwise (· < ·) := by
  refine List.pairwise_iff_getElem.2 fun i j hi hj hij => ?_
  have hl : (toN F).length = F.length := by unfold toN; rw [List.length_map]
  have hg : ∀ k (h1 : k < (toN F).length) (h2 : k < F.length), (toN F)[k] = (F[k]).toNat := fun k h1 h2 => by simp [toN]
  induction j with
  | zero => omega
  | succ j ih =>
    have h1 := (lst_at h (k := j + 1) (by omega)).2 (by omega)
    have h2 := (lst_at h (k := j) (by omega)).1
    simp only [Nat.add_sub_cancel] at h1
    rw [hg (j + 1) hj (by omega)]
    by_cases e : i = j
    · subst e
      rw [hg i hi (by omega)]
      omega
    · have h3 := ih (by omega) (by omega)
      rw [hg j (by omega) (by omega)] at h3
      omega
theorem mo_list {n : Nat} {F : List Int} {p : Nat} {R : List Nat} (h : listB n F = true) (hp : p < n) (hR : Mo (toN F) p R) : listB n (R.map fun (q : Nat) => (q : Int)) = true := by
  refine list_all fun k hk => ?_
  have hk2 : k < R.length := by simpa using hk
  refine ⟨?_, fun h0 => ?_⟩
  · rw [List.getElem_map]
    rcases (hR.2.1 R[k]).1 (List.getElem_mem hk2) with h1 | h1
    · have := toN_in h h1
      omega
    · rw [h1]; omega
  · simp only [List.getElem_map]
    have := List.pairwise_iff_getElem.1 hR.1 (k - 1) k (by omega) hk2 (by omega)
    omega
end Ci
end Go.Proofs.YthggedpgcchneaaGreatDoor

/- The law CircleMatchesReference. -/
import Derived.Test.YthggedpgcchneaaGreatDoorCirF
import Derived.Test.YthggedpgcchneaaGreatDoorCirE
namespace Go.Proofs.YthggedpgcchneaaGreatDoor
open Go.RowKit Go.Shelf
namespace Ci
open Nt

theorem fewS_sz {s : SR} (h : fewS s = true) : s.ps.length ≤ 70 ∧ s.cap.length ≤ 300 ∧ s.vot.length ≤ 300 := by
  unfold fewS at h
  simp only [Bool.and_eq_true, decide_eq_true_eq] at h
  exact h.1
theorem few18_sz {s : SR} {F : List Int} (h : few18 s F = true) : s.ps.length ≤ 70 ∧ s.cap.length ≤ 300 ∧ s.vot.length ≤ 300 ∧ F.length ≤ 70 := by
  unfold few18 at h
  simp only [Bool.and_eq_true, decide_eq_true_eq] at h
  have := fewS_sz h.1
  omega
/-- What Components gives, in one form. -/
theorem CmPost.open {s : SR} {w w' : World} {e : Ending} (h : CmPost s w e w') : (∃ A c l, e = .returned (.tuple #[.slice A (List.length l) c, .int .i64 (if soundB s = true then 0 else 1)]) ∧ InLs w' A l ∧ bare l = (if soundB s = true then compsI s else []) ∧ l.length ≤ 70) ∧ Below w.heap.size w w' := by
  obtain ⟨h1, h2⟩ := h
  refine ⟨?_, h2⟩
  by_cases hs : soundB s = true
  · rw [if_pos hs] at h1
    obtain ⟨A, c, l, e1, e2, e3⟩ := h1
    refine ⟨A, c, l, by rw [if_pos hs]; exact e1, e2, by rw [if_pos hs]; exact e3, ?_⟩
    have hl := congrArg List.length e3
    simp only [bare, compsI, List.length_map] at hl
    have h3 := ords_len (edges_in hs)
    rw [comps_len] at hl
    have h4 := sound_n hs
    omega
  · rw [if_neg hs] at h1
    exact ⟨none, 0, [], by rw [if_neg hs]; exact h1, fun h => absurd h (by simp), by rw [if_neg hs]; rfl, by simp⟩
noncomputable def rkI (s : SR) (F : List Int) : List Int := (List.range s.ps.length).map (rk (edges s) (toN F))
theorem rkI_len (s : SR) (F : List Int) : (rkI s F).length = s.ps.length := by simp [rkI]
theorem RkPost.open {s : SR} {F : List Int} {w w' : World} {e : Ending} (h : RkPost s F w e w') : (∃ A c l, e = .returned (.tuple #[.slice A (List.length l) c, .int .i64 (if soundB s = true ∧ listB s.ps.length F = true then 0 else 1)]) ∧ InInt w' A l ∧ l = (if soundB s = true ∧ listB s.ps.length F = true then rkI s F else []) ∧ l.length ≤ 70) ∧ Below w.heap.size w w' := by
  obtain ⟨h1, h2⟩ := h
  refine ⟨?_, h2⟩
  by_cases hs : soundB s = true ∧ listB s.ps.length F = true
  · rw [if_pos hs] at h1
    obtain ⟨b, e1, _, e2⟩ := h1
    have h4 := sound_n hs.1
    exact ⟨some ⟨b, 0, none⟩, s.ps.length, rkI s F, by rw [if_pos hs, rkI_len]; exact e1, e2.inInt, by rw [if_pos hs], by rw [rkI_len]; omega⟩
  · rw [if_neg hs] at h1
    exact ⟨none, 0, [], by rw [if_neg hs]; exact h1, fun h => absurd h (by simp), by rw [if_neg hs], by simp⟩
theorem RRkPost.open {s : SR} {F : List Int} {w w' : World} {e : Ending} (h : RRkPost s F w e w') : (∃ A c l, e = .returned (.tuple #[.slice A (List.length l) c, .int .i64 (if soundB s = true ∧ listB s.ps.length F = true then 0 else 1)]) ∧ InInt w' A l ∧ l = (if soundB s = true ∧ listB s.ps.length F = true then rkI s F else []) ∧ l.length ≤ 70) ∧ Below w.heap.size w w' := by
  obtain ⟨h1, h2⟩ := h
  refine ⟨?_, h2⟩
  by_cases hs : soundB s = true ∧ listB s.ps.length F = true
  · rw [if_pos hs] at h1
    obtain ⟨A, c, e1, e2⟩ := h1
    have h4 := sound_n hs.1
    exact ⟨A, c, rkI s F, by rw [if_pos hs, rkI_len]; exact e1, e2, by rw [if_pos hs], by rw [rkI_len]; omega⟩
  · rw [if_neg hs] at h1
    exact ⟨none, 0, [], by rw [if_neg hs]; exact h1, fun h => absurd h (by simp), by rw [if_neg hs], by simp⟩
/-- Equal lists of lists, equal lists. -/
theorem lists_same {W : World} {A B : Option Addr} {ca cb : Nat} {a b : List (Option Addr × Nat × List Int)} (hA : InLs W A a) (hB : InLs W B b) (h : bare a = bare b) (hl : a.length ≤ 70) :
    Calls Tryz.prog 15 #[.slice A a.length ca, .slice B b.length cb] W fun e w' => e = .returned (.bool true) ∧ Below W.heap.size W w' := by
  refine (Lists_any A B ca cb a b W hA hB (by omega)).mono ?_
  rintro e w' ⟨rfl, q, rfl⟩
  exact ⟨by rw [decide_eq_true h], bl_drewN (Below.refl _ W) q⟩
theorem ints_same {W : World} {A B : Option Addr} {ca cb : Nat} {a b : List Int} (hA : InInt W A a) (hB : InInt W B b) (h : a = b) (hl : a.length ≤ 70) :
    Calls Tryz.prog 16 #[.slice A a.length ca, .slice B b.length cb] W fun e w' => e = .returned (.bool true) ∧ Below W.heap.size W w' := by
  refine (Ints_any A B ca cb a b W hA hB (by omega)).mono ?_
  rintro e w' ⟨rfl, q, rfl⟩
  exact ⟨by rw [decide_eq_true h], bl_drewN (Below.refl _ W) q⟩

set_option maxRecDepth 100000 in
set_option maxHeartbeats 16000000 in
theorem law_match (s : SR) (Ap Ac Av Af : Option Addr) (cp cc cv cf : Nat) (F : List Int) (w : World) (hE : Env w) (hs : StIn w s Ap Ac Av) (hF : InInt w Af F) (hFl : F.length ≤ 140737488355328) :
    Calls Tryz.prog 3 #[.agg #[.slice Ap s.ps.length cp, .slice Ac s.cap.length cc, .slice Av s.vot.length cv], .slice Af F.length cf] w fun e w' => e = .returned (.bool true) ∧ Below w.heap.size w w' := by
  have hX1 : Hid (Bk (w.alloc (.cells #[.slice Ap s.ps.length cp, .slice Ac s.cap.length cc, .slice Av s.vot.length cv] 25)) w.heap.size 25 (SC s Ap Ac Av cp cc cv)) := Bk.new w _ _
  have hB1 : Hid (Below w.heap.size w (w.alloc (.cells #[.slice Ap s.ps.length cp, .slice Ac s.cap.length cc, .slice Av s.vot.length cv] 25))) := (Below.refl _ w).alloc (Nat.le_refl _) _
  replace hE := Lib.hid hE
  replace hs := Lib.hid hs
  replace hF := Lib.hid hF
  go_enter Tryz.func3, Tryz.ntmps3
  go_wp2_with fail
  refine (head_any _ (hE.out.below hB1.out)).mono ?_
  rintro e w2 ⟨rfl, hb⟩
  have hB2 := Lib.hid (hB1.out.trans (hb.mono hB1.out.size))
  have hX2 := Lib.hid (hX1.out.below hb)
  clear hb hB1 hX1
  have u0 := hX2.out.cell (j := 0) rfl
  have u1 := hX2.out.cell (j := 1) rfl
  have u2 := hX2.out.cell (j := 2) rfl
  have u9 := hX2.out.lt
  have kf := few18_any s Ap Ac Av Af cp cc cv cf F w2 (hs.out.below hB2.out) hFl
  cases hfw : few18 s F with
  | false =>
    rw [hfw] at kf
    replace kf := Lib.hid kf
    clear hfw
    go_wp2_with fail
    refine kf.out.mono ?_
    rintro e w3 ⟨rfl, hb⟩
    have hB3 := Lib.hid (hB2.out.trans (hb.mono hB2.out.size))
    clear hb
    go_wp2
    go_ret
    exact ⟨rfl, hB3.out⟩
  | true =>
    rw [hfw] at kf
    replace kf := Lib.hid kf
    obtain ⟨_, hc3, _, _⟩ := few18_sz hfw
    clear hfw
    go_wp2_with fail
    refine kf.out.mono ?_
    rintro e w3 ⟨rfl, hb⟩
    have hB3 := Lib.hid (hB2.out.trans (hb.mono hB2.out.size))
    have hX3 := Lib.hid (hX2.out.below hb)
    clear hb hB2 hX2 u0 u1 u2 u9 kf
    have u0 := hX3.out.cell (j := 0) rfl
    have u1 := hX3.out.cell (j := 1) rfl
    have u2 := hX3.out.cell (j := 2) rfl
    have u9 := hX3.out.lt
    go_wp2_with fail
    refine (Components_any s Ap Ac Av cp cc cv w3 (hE.out.below hB3.out) (hs.out.below hB3.out) hc3).mono ?_
    intro e w4 h
    obtain ⟨⟨A1, c1, l1, rfl, hA, hbA, hla⟩, hb⟩ := h.open
    have hB4 := Lib.hid (hB3.out.trans (hb.mono hB3.out.size))
    have hX4 := Lib.hid (hX3.out.below hb)
    replace hA := Lib.hid hA
    replace hbA := Lib.hid hbA
    clear hb hB3 hX3 u0 u1 u2 u9 h
    have u0 := hX4.out.cell (j := 0) rfl
    have u1 := hX4.out.cell (j := 1) rfl
    have u2 := hX4.out.cell (j := 2) rfl
    have u9 := hX4.out.lt
    obtain ⟨er, her⟩ : ∃ x : Int, x = (if soundB s = true then 0 else 1) := ⟨_, rfl⟩
    rw [← her]
    replace her := Lib.hid her
    go_wp2_with fail
    refine (RComponents_any s Ap Ac Av cp cc cv w4 (hs.out.below hB4.out)).mono ?_
    intro e w5 h
    obtain ⟨⟨A2, c2, l2, rfl, hA2, hbA2, _⟩, hb⟩ := h.open
    rw [← her.out]
    have hB5 := Lib.hid (hB4.out.trans (hb.mono hB4.out.size))
    have hX5 := Lib.hid (hX4.out.below hb)
    have hA1 := Lib.hid (hA.out.below hb)
    replace hA2 := Lib.hid hA2
    have hbb : Hid (bare l1 = bare l2) := hbA.out.trans hbA2.symm
    clear hb hB4 hX4 u0 u1 u2 u9 h hA hbA hbA2
    have u0 := hX5.out.cell (j := 0) rfl
    have u1 := hX5.out.cell (j := 1) rfl
    have u2 := hX5.out.cell (j := 2) rfl
    have u9 := hX5.out.lt
    go_wp2_with fail
    refine (Ranks_any s Ap Ac Av Af cp cc cv cf F w5 (hE.out.below hB5.out) (hs.out.below hB5.out) hc3 (hF.out.below hB5.out) hFl).mono ?_
    intro e w6 h
    obtain ⟨⟨A3, c3, l3, rfl, hA3, hbA3, hl3⟩, hb⟩ := h.open
    have hB6 := Lib.hid (hB5.out.trans (hb.mono hB5.out.size))
    have hX6 := Lib.hid (hX5.out.below hb)
    have hA16 := Lib.hid (hA1.out.below hb)
    have hA26 := Lib.hid (hA2.out.below hb)
    replace hA3 := Lib.hid hA3
    replace hbA3 := Lib.hid hbA3
    clear hb hB5 hX5 u0 u1 u2 u9 h hA1 hA2
    have u0 := hX6.out.cell (j := 0) rfl
    have u1 := hX6.out.cell (j := 1) rfl
    have u2 := hX6.out.cell (j := 2) rfl
    have u9 := hX6.out.lt
    obtain ⟨eg, heg⟩ : ∃ x : Int, x = (if soundB s = true ∧ listB s.ps.length F = true then 0 else 1) := ⟨_, rfl⟩
    rw [← heg]
    replace heg := Lib.hid heg
    go_wp2_with fail
    refine (RRanks_any s Ap Ac Av Af cp cc cv cf F w6 (hs.out.below hB6.out) (hF.out.below hB6.out) hFl).mono ?_
    intro e w7 h
    obtain ⟨⟨A4, c4, l4, rfl, hA4, hbA4, _⟩, hb⟩ := h.open
    rw [← heg.out]
    have hB7 := Lib.hid (hB6.out.trans (hb.mono hB6.out.size))
    have hA17 := Lib.hid (hA16.out.below hb)
    have hA27 := Lib.hid (hA26.out.below hb)
    have hA37 := Lib.hid (hA3.out.below hb)
    replace hA4 := Lib.hid hA4
    have hcc : Hid (l3 = l4) := hbA3.out.trans hbA4.symm
    clear hb hB6 hX6 u0 u1 u2 u9 h hA16 hA26 hA3 hbA3 hbA4
    go_wp2_with fail
    refine (lists_same hA17.out hA27.out hbb.out hla).mono ?_
    rintro e w8 ⟨rfl, hb⟩
    have hB8 := Lib.hid (hB7.out.trans (hb.mono hB7.out.size))
    have hA38 := Lib.hid (hA37.out.below hb)
    have hA48 := Lib.hid (hA4.out.below hb)
    clear hb hB7
    go_wp2_with fail
    refine (ints_same hA38.out hA48.out hcc.out hl3).mono ?_
    rintro e w9 ⟨rfl, hb⟩
    have hB9 := Lib.hid (hB8.out.trans (hb.mono hB8.out.size))
    clear hb hB8
    go_wp2
    go_ret
    exact ⟨rfl, hB9.out⟩
end Ci
end Go.Proofs.YthggedpgcchneaaGreatDoor

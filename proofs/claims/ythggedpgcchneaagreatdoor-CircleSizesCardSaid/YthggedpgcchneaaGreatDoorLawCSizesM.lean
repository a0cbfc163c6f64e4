/- The law CircleSizes. Printed by gen_lcsizes.py. -/
import Derived.Test.YthggedpgcchneaaGreatDoorCirH
import Derived.Test.YthggedpgcchneaaGreatDoorCirC
import Derived.Deep.RegionHeld3
import Derived.Deep.QuietTactic
import Derived.BigQuiet
namespace Go.Proofs.YthggedpgcchneaaGreatDoor
open Go.RowKit Go.Shelf
namespace Ci
open Nt
open Classical

theorem stIn_re {w w' : World} {s : SR} {Ap Ac Av A : Option Addr} (h : StIn w s Ap Ac Av) (hb : Below w.heap.size w w') (hA : InLk w' A (s.cap.map reLk)) : StIn w' (reS s) Ap A none := by
  have h2 := h.below hb
  refine ⟨h2.ps, hA, fun h0 => absurd h0 (by simp [reS]), h.np, by simpa [reS] using h.nc, by simp [reS], h.zp, fun x hx => ?_, fun x hx => absurd hx (by simp [reS]), fun x hx => ?_, fun x hx => absurd hx (by simp [reS])⟩
  · obtain ⟨y, _, rfl⟩ := List.mem_map.1 (show x ∈ s.cap.map reLk from hx)
    exact ⟨by show b1.size ≤ _; decide, by show b60.size ≤ _; decide⟩
  · obtain ⟨y, hy, rfl⟩ := List.mem_map.1 (show x ∈ s.cap.map reLk from hx)
    exact h.ic y hy
theorem compsI_re (s : SR) : compsI (reS s) = compsI s := by
  unfold compsI
  rw [edges_re]
  rfl
theorem rkI_re (s : SR) (F : List Int) : rkI (reS s) F = rkI s F := by
  unfold rkI
  rw [edges_re]
  rfl

set_option maxRecDepth 100000 in
set_option maxHeartbeats 16000000 in
theorem law_sizes (s : SR) (Ap Ac Av Af : Option Addr) (cp cc cv cf : Nat) (F : List Int) (w : World) (hE : Env w) (hs : StIn w s Ap Ac Av) (hF : InInt w Af F) (hFl : F.length ≤ 140737488355328) :
    Calls Tryz.prog 8 #[.agg #[.slice Ap s.ps.length cp, .slice Ac s.cap.length cc, .slice Av s.vot.length cv], .slice Af F.length cf] w fun e w' => e = .returned (.bool true) ∧ Below w.heap.size w w' := by
  have hX1 : Hid (Bk (w.alloc (.cells #[.slice Ap s.ps.length cp, .slice Ac s.cap.length cc, .slice Av s.vot.length cv] 25)) w.heap.size 25 (SC s Ap Ac Av cp cc cv)) := Bk.new w _ _
  have hB1 : Hid (Below w.heap.size w (w.alloc (.cells #[.slice Ap s.ps.length cp, .slice Ac s.cap.length cc, .slice Av s.vot.length cv] 25))) := (Below.refl _ w).alloc (Nat.le_refl _) _
  replace hE := Lib.hid hE
  replace hs := Lib.hid hs
  replace hF := Lib.hid hF
  go_enter Tryz.func8, Tryz.ntmps8
  go_wp2_with fail
  refine (head_any _ (hE.out.below hB1.out)).mono ?_
  rintro e w2 ⟨rfl, hb⟩
  have hX2 := Lib.hid (hX1.out.below hb)
  have hB2 := Lib.hid (hB1.out.trans (hb.mono hB1.out.size))
  clear hb hX1 hB1
  have u0 := hX2.out.cell (j := 0) rfl
  have u1 := hX2.out.cell (j := 1) rfl
  have u2 := hX2.out.cell (j := 2) rfl
  have u9 := hX2.out.lt
  have kf := few18_any s Ap Ac Av Af cp cc cv cf F w2 (hs.out.below hB2.out) hFl
  cases hfw : few18 s F with
  | false =>
    rw [hfw] at kf
    replace kf := Lib.hid kf
    clear hfw
    go_wp2_with fail
    refine kf.out.mono ?_
    rintro e w3 ⟨rfl, hb⟩
    have hX3 := Lib.hid (hX2.out.below hb)
    have hB3 := Lib.hid (hB2.out.trans (hb.mono hB2.out.size))
    clear hb hX2 hB2
    clear u0 u1 u2 u9
    go_wp2
    go_ret
    exact ⟨rfl, hB3.out⟩
  | true =>
    rw [hfw] at kf
    replace kf := Lib.hid kf
    obtain ⟨_, hc3, _, _⟩ := few18_sz hfw
    clear hfw
    go_wp2_with fail
    refine kf.out.mono ?_
    rintro e w3 ⟨rfl, hb⟩
    have hX3 := Lib.hid (hX2.out.below hb)
    have hB3 := Lib.hid (hB2.out.trans (hb.mono hB2.out.size))
    clear hb hX2 hB2
    clear u0 u1 u2 u9
    clear kf
    have u0 := hX3.out.cell (j := 0) rfl
    have u1 := hX3.out.cell (j := 1) rfl
    have u2 := hX3.out.cell (j := 2) rfl
    have u9 := hX3.out.lt
    have ks := Sound_any s Ap Ac Av cp cc cv w3 (hE.out.below hB3.out) (hs.out.below hB3.out)
    cases hsd : soundB s with
    | false =>
      rw [hsd] at ks
      replace ks := Lib.hid ks
      replace hsd := Lib.hid hsd
      go_wp2_with fail
      refine ks.out.mono ?_
      rintro e w4 ⟨rfl, hb⟩
      have hX4 := Lib.hid (hX3.out.below hb)
      have hB4 := Lib.hid (hB3.out.trans (hb.mono hB3.out.size))
      clear hb hX3 hB3
      clear u0 u1 u2 u9
      go_wp2
      go_ret
      exact ⟨rfl, hB4.out⟩
    | true =>
      rw [hsd] at ks
      replace ks := Lib.hid ks
      have hn60 := sound_n hsd
      go_wp2_with fail
      refine ks.out.mono ?_
      rintro e w4 ⟨rfl, hb⟩
      have hX4 := Lib.hid (hX3.out.below hb)
      have hB4 := Lib.hid (hB3.out.trans (hb.mono hB3.out.size))
      clear hb hX3 hB3
      clear u0 u1 u2 u9
      clear ks
      have u0 := hX4.out.cell (j := 0) rfl
      have u1 := hX4.out.cell (j := 1) rfl
      have u2 := hX4.out.cell (j := 2) rfl
      have u9 := hX4.out.lt
      obtain ⟨ob, hob⟩ : ∃ b, b = w4.heap.size := ⟨_, rfl⟩
      obtain ⟨W0, hW0⟩ : ∃ W, W = w4.alloc (.cells #[.slice Ap s.ps.length cp, .slice none 0 0, .slice none 0 0] 25) := ⟨_, rfl⟩
      have hO0 : Hid (Bk W0 ob 25 [.slice Ap s.ps.length cp, .slice none 0 0, .slice none 0 0]) := by rw [hW0, hob]; exact Bk.new _ _ _
      have hBW0 : Hid (Below w.heap.size w W0) := by rw [hW0]; exact hB4.out.alloc hB4.out.size _
      have hBn0 : Hid (Below w4.heap.size w4 W0) := by rw [hW0]; exact (Below.refl _ _).alloc (Nat.le_refl _) _
      have hsz0 : W0.heap.size = ob + 1 := by rw [hW0, hob]; simp
      have hobw : w.heap.size < ob := by rw [hob]; exact Nat.lt_of_lt_of_le u9 (Nat.le_refl _)
      obtain ⟨i0, hi0, hzz⟩ := Option.map_eq_some_iff.1 infoL
      simp only [Prod.mk.injEq] at hzz
      obtain ⟨hz0, hz1, hz2⟩ := hzz
      replace hi0 := Lib.hid hi0
      replace hz0 := Lib.hid hz0
      replace hz1 := Lib.hid hz1
      replace hz2 := Lib.hid hz2
      replace hsd := Lib.hid hsd
      go_wp2_with fail
      rw [← hW0, ← hob]
      replace hob := Lib.hid hob; replace hW0 := Lib.hid hW0
      go_loopw [7] (fun ix wr => ∃ (k c : Nat) (A : Option Addr), k ≤ s.cap.length ∧ ix = .int .i64 (k : Int) ∧ Hid (Kp [ob] W0 wr) ∧ Hid (Bk wr ob 25 [.slice Ap s.ps.length cp, .slice A k c, .slice none 0 0]) ∧ Hid (wr.ownsRow (ob + 1) 44 5 (.slice A k c) k (lksL ((s.cap.take k).map reLk)))) (fun ix _ => s.cap.length - (intOf ix).toNat)
      case atStart => exact ⟨0, 0, none, Nat.zero_le _, rfl, Kp.refl _ _, hO0, World.ownsRow_nil _ _ _ _⟩
      case round =>
        obtain ⟨k, c, A, hk, rfl, hK, hO, hR⟩ := hrel
        clear hO0 u0 u1 u2 u9
        have hBr : Hid (Below w.heap.size w wr) := hK.out.to_below hBW0.out fun x hx => by simp at hx; omega
        have hBn : Hid (Below w4.heap.size w4 wr) := hK.out.to_below hBn0.out fun x hx => by simp at hx; rw [hx, hob.out]; exact Nat.le_refl _
        have hXr := Lib.hid (hX4.out.below hBn.out)
        have u0 := hXr.out.cell (j := 0) rfl; have u1 := hXr.out.cell (j := 1) rfl; have u2 := hXr.out.cell (j := 2) rfl; have u9 := hXr.out.lt
        have v0 := hO.out.cell (j := 0) rfl; have v1 := hO.out.cell (j := 1) rfl; have v2 := hO.out.cell (j := 2) rfl; have v9 := hO.out.lt
        by_cases hlt : k < s.cap.length
        · obtain ⟨b, o, rfl, hbl, hcc⟩ := (hs.out.below hBr.out).cap (by omega)
          obtain ⟨e1, e2, e3, e4, e5⟩ := hcc k hlt
          clear hcc
          have hrl : Hid (lksL ((s.cap.take k).map reLk) ++ lkL (reLk s.cap[k]) = lksL ((s.cap.take (k + 1)).map reLk)) := by rw [List.take_succ_eq_append_getElem hlt, List.map_append]; exact (lksL_snoc _ _).symm
          obtain ⟨x, hx⟩ : ∃ x, x = s.cap[k] := ⟨_, rfl⟩
          rw [← hx] at e1 e2 e3 e4 e5 hrl
          replace hx := Lib.hid hx
          obtain ⟨co, ho, gg, nn, dd⟩ := x
          replace e1 : wr.cell? ⟨b, o + k * 5, none⟩ = some (.int .i64 co) := e1
          replace e2 : wr.cell? ⟨b, o + k * 5 + 1, none⟩ = some (.int .i64 ho) := e2
          replace e3 : wr.cell? ⟨b, o + k * 5 + 2, none⟩ = some (.bool gg) := e3
          replace e4 : wr.cell? ⟨b, o + k * 5 + 3, none⟩ = some (.string nn) := e4
          replace e5 : wr.cell? ⟨b, o + k * 5 + 4, none⟩ = some (.string dd) := e5
          have j0 : (0 : Int) ≤ (k : Int) := by omega
          have j1 : (k : Int) < (s.cap.length : Int) := by omega
          replace hrl : Hid (lksL ((s.cap.take k).map reLk) ++ [.int .i64 co, .int .i64 ho, .bool false, .string ⟨#[49]⟩, .string ⟨#[54, 48]⟩] = lksL ((s.cap.take (k + 1)).map reLk)) := hrl.out
          have hb2 : Hid (Below wr.heap.size wr ((wr.alloc (.cells #[.int .i64 co, .int .i64 ho, .bool false, .string ⟨#[49]⟩, .string ⟨#[54, 48]⟩] 44)).alloc (.cells #[.int .i64 co, .int .i64 ho, .bool false, .string ⟨#[49]⟩, .string ⟨#[54, 48]⟩] 44))) := ((Below.refl _ wr).alloc (Nat.le_refl _) _).alloc (by simp) _
          have hR7 := Lib.hid (own_below' hR.out hb2.out)
          have hO7 := Lib.hid (hO.out.below hb2.out)
          have hK7 := Lib.hid (hK.out.below hb2.out)
          have hbs7 : Hid (ob + 1 ≤ ((wr.alloc (.cells #[.int .i64 co, .int .i64 ho, .bool false, .string ⟨#[49]⟩, .string ⟨#[54, 48]⟩] 44)).alloc (.cells #[.int .i64 co, .int .i64 ho, .bool false, .string ⟨#[49]⟩, .string ⟨#[54, 48]⟩] 44)).heap.size) := by have := hK7.out.size; rw [hsz0] at this; exact this
          have had7 : Hid (∀ j u, ([.int .i64 co, .int .i64 ho, .bool false, .string ⟨#[49]⟩, .string ⟨#[54, 48]⟩] : List Value)[j]? = some u → ((wr.alloc (.cells #[.int .i64 co, .int .i64 ho, .bool false, .string ⟨#[49]⟩, .string ⟨#[54, 48]⟩] 44)).alloc (.cells #[.int .i64 co, .int .i64 ho, .bool false, .string ⟨#[49]⟩, .string ⟨#[54, 48]⟩] 44)).cell? (Addr.add ⟨wr.heap.size + 1, 0, none⟩ j) = some u) := by have h := head_lk (wr.alloc (.cells #[.int .i64 co, .int .i64 ho, .bool false, .string ⟨#[49]⟩, .string ⟨#[54, 48]⟩] 44)) (co, ho, false, ⟨#[49]⟩, ⟨#[54, 48]⟩) 44; rw [World.size_alloc] at h; exact h
          have hone7 : Hid (∀ u ∈ ([.int .i64 co, .int .i64 ho, .bool false, .string ⟨#[49]⟩, .string ⟨#[54, 48]⟩] : List Value), u.oneCell' = true) := one_lk (co, ho, false, ⟨#[49]⟩, ⟨#[54, 48]⟩)
          have hno : Hid (some ob ≠ (Value.slice A k c).ownBlock) := fun e => by have := (hR.out.lt ob e.symm).1; omega
          have hrow7 : Hid (∀ b, (Value.slice A k c).ownBlock = some b → b ∈ [ob] ∨ W0.heap.size ≤ b) := fun b e => .inr (by have := (hR.out.lt b e).1; omega)
          obtain ⟨zl, hzl⟩ : ∃ z, z = zeroL := ⟨_, rfl⟩
          have hzc : Hid (zl.cells.size = 5) := by rw [hzl]; rfl
          have hz0' : Hid (i0.zero = some zl) := by rw [hzl]; exact hz0.out
          clear hzl
          go_wp2_with (at_builtin; refine wpList_append_new _ rfl _ _ 23 rfl (ob + 1) 44 i0 zl 5 56 Tryz.underlying23 hi0.out hz0'.out hz1.out hz2.out hzc.out (by decide) (.slice A k c) k _ rfl hR7.out ⟨wr.heap.size + 1, 0, none⟩ 1 1 [.int .i64 co, .int .i64 ho, .bool false, .string ⟨#[49]⟩, .string ⟨#[54, 48]⟩] rfl rfl had7.out hone7.out (by decide) (by unfold maxLen; omega) (by omega) hbs7.out ?_; intro vb wb ho7 hg7 hn7; obtain ⟨A7, c7, rfl⟩ := own_form5 ho7; rw [hrl.out] at ho7; have hO8 := Lib.hid (hO7.out.grown hg7 hno.out); have hK8 := Lib.hid (hK7.out.grown hg7 hrow7.out); have hO9 := Lib.hid (hO8.out.set 1 (.slice A7 (k + 1) c7)); have hK9 := Lib.hid (hK8.out.set (a := ⟨ob, 1, none⟩) (.slice A7 (k + 1) c7) (.inl (by simp))); have hR9 : Hid ((wb.setCell ⟨ob, 1, none⟩ (.slice A7 (k + 1) c7)).ownsRow (ob + 1) 44 5 (.slice A7 (k + 1) c7) (k + 1) (lksL ((s.cap.take (k + 1)).map reLk))) := ho7.kept (grown_set wb ⟨ob, 1, none⟩ _) (.inr fun e => by have := (ho7.lt ob e).1; omega); have y1 := hO8.out.cell (j := 1) rfl; have y2 := hO8.out.frozen 1; have y3 := hO8.out.lt; clear hg7 hn7 ho7)
          exact ⟨⟨k + 1, c7, A7, by omega, by go_num, hK9, hO9, hR9⟩, by simp only [intOf]; omega⟩
        · obtain rfl : k = s.cap.length := by omega
          have hRr := hR.out
          rw [List.take_length] at hRr
          have hlr : (s.cap.map reLk).length = s.cap.length := List.length_map ..
          obtain ⟨A2, cap2, hA2, hIn⟩ := own_lks (l := s.cap.map reLk) (by rw [hlr]; exact hRr)
          simp only [Value.slice.injEq, hlr, true_and] at hA2
          obtain ⟨rfl, rfl⟩ := hA2
          have hs2 : Hid (StIn wr (reS s) Ap A none) := stIn_re hs.out hBr.out hIn
          clear hRr hIn hR
          have hsr : soundB (reS s) = true := sound_re hsd.out
          have kS : Hid (Calls Tryz.prog 17 #[.agg #[.slice Ap s.ps.length cp, .slice A s.cap.length c, .slice none 0 0]] wr fun e w' => e = .returned (.bool true) ∧ Below wr.heap.size wr w') := by have h := Sound_any (reS s) Ap A none cp c 0 wr (hE.out.below hBr.out) hs2.out; rw [hsr] at h; have e : (reS s).cap.length = s.cap.length := hlr; rw [e] at h; exact h
          replace hsr := Lib.hid hsr
          go_wp2_with fail
          refine kS.out.mono ?_
          rintro e x1 ⟨rfl, hb⟩
          have hB1 := Lib.hid (hBr.out.trans (hb.mono hBr.out.size))
          have hX1 := Lib.hid (hXr.out.below hb)
          have hP1 := Lib.hid (hO.out.below hb)
          have hs3 := Lib.hid (hs2.out.below hb)
          clear hb u0 u1 u2 u9 v0 v1 v2 v9 kS
          have u0 := hX1.out.cell (j := 0) rfl; have v0 := hP1.out.cell (j := 0) rfl
          have u1 := hX1.out.cell (j := 1) rfl; have v1 := hP1.out.cell (j := 1) rfl
          have u2 := hX1.out.cell (j := 2) rfl; have v2 := hP1.out.cell (j := 2) rfl
          have u9 := hX1.out.lt; have v9 := hP1.out.lt
          obtain ⟨er, her⟩ : ∃ x : Int, x = (if soundB s = true then 0 else 1) := ⟨_, rfl⟩
          have her2 : Hid ((if soundB (reS s) = true then 0 else 1) = er) := by show (if soundB (reS s) = true then (0 : Int) else 1) = er; rw [her, hsr.out, hsd.out]
          go_wp2_with fail
          refine (Components_any s Ap Ac Av cp cc cv x1 (hE.out.below hB1.out) (hs.out.below hB1.out) hc3).mono ?_
          intro e x2 h
          obtain ⟨⟨A1, c1, l1, rfl, hA, hbA, hla⟩, hb⟩ := h.open
          rw [← her]
          replace her := Lib.hid her
          replace hA := Lib.hid hA
          replace hbA := Lib.hid hbA
          have hB2 := Lib.hid (hB1.out.trans (hb.mono hB1.out.size))
          have hX2 := Lib.hid (hX1.out.below hb)
          have hP2 := Lib.hid (hP1.out.below hb)
          replace hs3 := Lib.hid (hs3.out.below hb)
          clear hb hB1 hX1 hP1 u0 u1 u2 u9 v0 v1 v2 v9
          clear h
          have u0 := hX2.out.cell (j := 0) rfl; have v0 := hP2.out.cell (j := 0) rfl
          have u1 := hX2.out.cell (j := 1) rfl; have v1 := hP2.out.cell (j := 1) rfl
          have u2 := hX2.out.cell (j := 2) rfl; have v2 := hP2.out.cell (j := 2) rfl
          have u9 := hX2.out.lt; have v9 := hP2.out.lt
          have kC : Hid (Calls Tryz.prog 11 #[.agg #[.slice Ap s.ps.length cp, .slice A s.cap.length c, .slice none 0 0]] x2 (CmPost (reS s) x2)) := by have h := Components_any (reS s) Ap A none cp c 0 x2 (hE.out.below hB2.out) hs3.out (by show (s.cap.map reLk).length ≤ 300; rw [hlr]; exact hc3); have e : (reS s).cap.length = s.cap.length := hlr; rw [e] at h; exact h
          go_wp2_with fail
          refine kC.out.mono ?_
          intro e x3 h
          obtain ⟨⟨A2, c2, l2, rfl, hA2, hbA2, _⟩, hb⟩ := h.open
          rw [her2.out]
          rw [compsI_re, hsr.out] at hbA2
          replace hA2 := Lib.hid hA2
          have hbb : Hid (bare l1 = bare l2) := by have h1 := hbA.out; rw [hsd.out] at h1; exact h1.trans hbA2.symm
          have hB3 := Lib.hid (hB2.out.trans (hb.mono hB2.out.size))
          have hX3 := Lib.hid (hX2.out.below hb)
          have hP3 := Lib.hid (hP2.out.below hb)
          replace hs3 := Lib.hid (hs3.out.below hb)
          replace hA := Lib.hid (hA.out.below hb)
          clear hb hB2 hX2 hP2 u0 u1 u2 u9 v0 v1 v2 v9
          clear h kC hbA hbA2
          have u0 := hX3.out.cell (j := 0) rfl; have v0 := hP3.out.cell (j := 0) rfl
          have u1 := hX3.out.cell (j := 1) rfl; have v1 := hP3.out.cell (j := 1) rfl
          have u2 := hX3.out.cell (j := 2) rfl; have v2 := hP3.out.cell (j := 2) rfl
          have u9 := hX3.out.lt; have v9 := hP3.out.lt
          obtain ⟨eg, heg⟩ : ∃ x : Int, x = (if soundB s = true ∧ listB s.ps.length F = true then 0 else 1) := ⟨_, rfl⟩
          have heg2 : Hid ((if soundB (reS s) = true ∧ listB (reS s).ps.length F = true then 0 else 1) = eg) := by show (if soundB (reS s) = true ∧ listB s.ps.length F = true then (0 : Int) else 1) = eg; rw [heg, hsr.out, hsd.out]
          go_wp2_with fail
          refine (Ranks_any s Ap Ac Av Af cp cc cv cf F x3 (hE.out.below hB3.out) (hs.out.below hB3.out) hc3 (hF.out.below hB3.out) hFl).mono ?_
          intro e x4 h
          obtain ⟨⟨A3, c3, l3, rfl, hA3, hl3, hla3⟩, hb⟩ := h.open
          rw [← heg]
          replace heg := Lib.hid heg
          replace hA3 := Lib.hid hA3
          replace hl3 := Lib.hid hl3
          have hB4 := Lib.hid (hB3.out.trans (hb.mono hB3.out.size))
          have hX4 := Lib.hid (hX3.out.below hb)
          have hP4 := Lib.hid (hP3.out.below hb)
          replace hs3 := Lib.hid (hs3.out.below hb)
          replace hA := Lib.hid (hA.out.below hb)
          replace hA2 := Lib.hid (hA2.out.below hb)
          clear hb hB3 hX3 hP3 u0 u1 u2 u9 v0 v1 v2 v9
          clear h
          have u0 := hX4.out.cell (j := 0) rfl; have v0 := hP4.out.cell (j := 0) rfl
          have u1 := hX4.out.cell (j := 1) rfl; have v1 := hP4.out.cell (j := 1) rfl
          have u2 := hX4.out.cell (j := 2) rfl; have v2 := hP4.out.cell (j := 2) rfl
          have u9 := hX4.out.lt; have v9 := hP4.out.lt
          have kR : Hid (Calls Tryz.prog 13 #[.agg #[.slice Ap s.ps.length cp, .slice A s.cap.length c, .slice none 0 0], .slice Af F.length cf] x4 (RkPost (reS s) F x4)) := by have h := Ranks_any (reS s) Ap A none Af cp c 0 cf F x4 (hE.out.below hB4.out) hs3.out (by show (s.cap.map reLk).length ≤ 300; rw [hlr]; exact hc3) (hF.out.below hB4.out) hFl; have e : (reS s).cap.length = s.cap.length := hlr; rw [e] at h; exact h
          go_wp2_with fail
          refine kR.out.mono ?_
          intro e x5 h
          obtain ⟨⟨A4, c4, l4, rfl, hA4, hl4, _⟩, hb⟩ := h.open
          rw [heg2.out]
          rw [rkI_re, hsr.out] at hl4
          replace hA4 := Lib.hid hA4
          have hcc : Hid (l3 = l4) := by have h1 := hl3.out; rw [hsd.out] at h1; exact h1.trans hl4.symm
          have hB5 := Lib.hid (hB4.out.trans (hb.mono hB4.out.size))
          have hX5 := Lib.hid (hX4.out.below hb)
          have hP5 := Lib.hid (hP4.out.below hb)
          replace hA := Lib.hid (hA.out.below hb)
          replace hA2 := Lib.hid (hA2.out.below hb)
          replace hA3 := Lib.hid (hA3.out.below hb)
          clear hb hB4 hX4 hP4 u0 u1 u2 u9 v0 v1 v2 v9
          clear h kR hl3 hl4
          go_wp2_with fail
          refine (lists_same hA.out hA2.out hbb.out hla).mono ?_
          rintro e x6 ⟨rfl, hb⟩
          have hB6 := Lib.hid (hB5.out.trans (hb.mono hB5.out.size))
          replace hA3 := Lib.hid (hA3.out.below hb)
          replace hA4 := Lib.hid (hA4.out.below hb)
          clear hb hB5
          go_wp2_with fail
          refine (ints_same hA3.out hA4.out hcc.out hla3).mono ?_
          rintro e x7 ⟨rfl, hb⟩
          have hB7 := Lib.hid (hB6.out.trans (hb.mono hB6.out.size))
          clear hb hB6
          go_wp2
          go_ret
          exact ⟨rfl, hB7.out⟩
end Ci
end Go.Proofs.YthggedpgcchneaaGreatDoor

/- The law CircleRanks. Printed by gen_lcranks.py. -/
import Derived.Test.YthggedpgcchneaaGreatDoorCirH
import Derived.Deep.RegionHeld3
import Derived.Deep.QuietTactic
import Derived.BigQuiet
namespace Go.Proofs.YthggedpgcchneaaGreatDoor
open Go.RowKit Go.Shelf
namespace Ci
open Nt
open Classical

theorem remIn {x : Int} {n : Nat} (hx : 0 ≤ x) (hn : n ≠ 0) : ∃ p : Nat, x % (n : Int) = (p : Int) ∧ p < n ∧ x.tmod (n : Int) = (p : Int) := by
  have h0 := Int.emod_nonneg x (show (n : Int) ≠ 0 by omega)
  have h1 := Int.emod_lt_of_pos x (show (0 : Int) < (n : Int) by omega)
  refine ⟨(x % (n : Int)).toNat, by omega, by omega, ?_⟩
  rw [Int.tmod_eq_emod_of_nonneg hx]
  omega
theorem RoI.drewN {w : World} {b n : Nat} {o : Nat → Int} (h : RoI w b n o) (q : Nat) : RoI (w.drewN q) b n o := ⟨h.lt, h.cell, h.fr⟩
/-- The least distance from the first i parties. -/
def Lst (E : List (Nat × Nat)) (F : List Nat) (p i : Nat) (r : Int) : Prop := (r = -1 ∧ ∀ f, f ∈ F.take i → rk E [f] p < 0) ∨ (0 ≤ r ∧ (∃ f, f ∈ F.take i ∧ rk E [f] p = r) ∧ ∀ f, f ∈ F.take i → 0 ≤ rk E [f] p → r ≤ rk E [f] p)
theorem lst_skip {E : List (Nat × Nat)} {F : List Nat} {p i f : Nat} {r : Int} (h : Lst E F p i r) (hf : F[i]? = some f) (hn : ¬ (0 ≤ rk E [f] p ∧ (r < 0 ∨ rk E [f] p < r))) : Lst E F p (i + 1) r := by
  obtain ⟨hi, rfl⟩ := List.getElem?_eq_some_iff.1 hf
  unfold Lst
  rw [List.take_succ_eq_append_getElem hi]
  rcases h with ⟨h1, h2⟩ | ⟨h1, ⟨x, h2, h3⟩, h4⟩
  · refine .inl ⟨h1, fun x hx => ?_⟩
    rcases List.mem_append.1 hx with hx | hx
    · exact h2 x hx
    · rw [List.mem_singleton.1 hx]; omega
  · refine .inr ⟨h1, ⟨x, List.mem_append_left _ h2, h3⟩, fun y hy h0 => ?_⟩
    rcases List.mem_append.1 hy with hy | hy
    · exact h4 y hy h0
    · rw [List.mem_singleton.1 hy] at h0 ⊢; omega
theorem lst_set {E : List (Nat × Nat)} {F : List Nat} {p i f : Nat} {r : Int} (h : Lst E F p i r) (hf : F[i]? = some f) (h1 : 0 ≤ rk E [f] p) (h2 : r < 0 ∨ rk E [f] p < r) : Lst E F p (i + 1) (rk E [f] p) := by
  obtain ⟨hi, rfl⟩ := List.getElem?_eq_some_iff.1 hf
  unfold Lst
  rw [List.take_succ_eq_append_getElem hi]
  refine .inr ⟨h1, ⟨_, List.mem_append_right _ (List.mem_singleton.2 rfl), rfl⟩, fun y hy h0 => ?_⟩
  rcases List.mem_append.1 hy with hy | hy
  · rcases h with ⟨h3, h4⟩ | ⟨h3, _, h4⟩
    · have := h4 y hy; omega
    · have := h4 y hy h0; omega
  · rw [List.mem_singleton.1 hy]; exact Int.le_refl _
theorem lst_all {E : List (Nat × Nat)} {F : List Nat} {p : Nat} {r : Int} (h : Lst E F p F.length r) : rk E F p = r := by
  unfold Lst at h
  rw [List.take_length] at h
  have hge := rk_ge (E := E) (F := F) (p := p)
  have hmo : ∀ f, f ∈ F → 0 ≤ rk E [f] p → 0 ≤ rk E F p ∧ rk E F p ≤ rk E [f] p := fun f hf h0 => rk_mono (F := [f]) (F' := F) (fun x hx => by rw [List.mem_singleton.1 hx]; exact hf) h0
  by_cases h0 : 0 ≤ rk E F p
  · obtain ⟨f, hf, he⟩ := rk_least h0
    rcases h with ⟨h1, h2⟩ | ⟨h1, ⟨x, h2, h3⟩, h4⟩
    · have := h2 f hf; omega
    · have a1 := h4 f hf (by omega)
      have a2 := hmo x h2 (by omega)
      omega
  · rcases h with ⟨h1, h2⟩ | ⟨h1, ⟨x, h2, h3⟩, h4⟩
    · omega
    · have a2 := hmo x h2 (by omega)
      omega

set_option maxRecDepth 100000 in
set_option maxHeartbeats 16000000 in
theorem law_ranks (s : SR) (Ap Ac Av Af : Option Addr) (cp cc cv cf : Nat) (F : List Int) (x : Int) (hx0 : 0 ≤ x) (hx1 : x ≤ 255) (w : World) (hE : Env w) (hs : StIn w s Ap Ac Av) (hF : InInt w Af F) (hFl : F.length ≤ 140737488355328) :
    Calls Tryz.prog 6 #[.agg #[.slice Ap s.ps.length cp, .slice Ac s.cap.length cc, .slice Av s.vot.length cv], .slice Af F.length cf, .int .u8 x] w fun e w' => e = .returned (.bool true) ∧ Below w.heap.size w w' := by
  have hX1 : Hid (Bk (w.alloc (.cells #[.slice Ap s.ps.length cp, .slice Ac s.cap.length cc, .slice Av s.vot.length cv] 25)) w.heap.size 25 (SC s Ap Ac Av cp cc cv)) := Bk.new w _ _
  have hB1 : Hid (Below w.heap.size w (w.alloc (.cells #[.slice Ap s.ps.length cp, .slice Ac s.cap.length cc, .slice Av s.vot.length cv] 25))) := (Below.refl _ w).alloc (Nat.le_refl _) _
  replace hE := Lib.hid hE
  replace hs := Lib.hid hs
  replace hF := Lib.hid hF
  go_enter Tryz.func6, Tryz.ntmps6
  go_wp2_with fail
  refine (head_any _ (hE.out.below hB1.out)).mono ?_
  rintro e w2 ⟨rfl, hb⟩
  have hX2 := Lib.hid (hX1.out.below hb)
  have hB2 := Lib.hid (hB1.out.trans (hb.mono hB1.out.size))
  clear hb hX1 hB1
  have u0 := hX2.out.cell (j := 0) rfl
  have u1 := hX2.out.cell (j := 1) rfl
  have u2 := hX2.out.cell (j := 2) rfl
  have u9 := hX2.out.lt
  have kf := few18_any s Ap Ac Av Af cp cc cv cf F w2 (hs.out.below hB2.out) hFl
  cases hfw : few18 s F with
  | false =>
    rw [hfw] at kf
    replace kf := Lib.hid kf
    clear hfw
    go_wp2_with fail
    refine kf.out.mono ?_
    rintro e w3 ⟨rfl, hb⟩
    have hX3 := Lib.hid (hX2.out.below hb)
    have hB3 := Lib.hid (hB2.out.trans (hb.mono hB2.out.size))
    clear hb hX2 hB2
    clear u0 u1 u2 u9
    go_wp2
    go_ret
    exact ⟨rfl, hB3.out⟩
  | true =>
    rw [hfw] at kf
    replace kf := Lib.hid kf
    obtain ⟨_, hc3, _, _⟩ := few18_sz hfw
    clear hfw
    go_wp2_with fail
    refine kf.out.mono ?_
    rintro e w3 ⟨rfl, hb⟩
    have hX3 := Lib.hid (hX2.out.below hb)
    have hB3 := Lib.hid (hB2.out.trans (hb.mono hB2.out.size))
    clear hb hX2 hB2
    clear u0 u1 u2 u9
    clear kf
    have u0 := hX3.out.cell (j := 0) rfl
    have u1 := hX3.out.cell (j := 1) rfl
    have u2 := hX3.out.cell (j := 2) rfl
    have u9 := hX3.out.lt
    have ks := Sound_any s Ap Ac Av cp cc cv w3 (hE.out.below hB3.out) (hs.out.below hB3.out)
    cases hsd : soundB s with
    | false =>
      rw [hsd] at ks
      replace ks := Lib.hid ks
      replace hsd := Lib.hid hsd
      go_wp2_with fail
      refine ks.out.mono ?_
      rintro e w4 ⟨rfl, hb⟩
      have hX4 := Lib.hid (hX3.out.below hb)
      have hB4 := Lib.hid (hB3.out.trans (hb.mono hB3.out.size))
      clear hb hX3 hB3
      clear u0 u1 u2 u9
      go_wp2
      go_ret
      exact ⟨rfl, hB4.out⟩
    | true =>
      rw [hsd] at ks
      replace ks := Lib.hid ks
      have hn60 := sound_n hsd
      go_wp2_with fail
      refine ks.out.mono ?_
      rintro e w4 ⟨rfl, hb⟩
      have hX4 := Lib.hid (hX3.out.below hb)
      have hB4 := Lib.hid (hB3.out.trans (hb.mono hB3.out.size))
      clear hb hX3 hB3
      clear u0 u1 u2 u9
      clear ks
      have u0 := hX4.out.cell (j := 0) rfl
      have u1 := hX4.out.cell (j := 1) rfl
      have u2 := hX4.out.cell (j := 2) rfl
      have u9 := hX4.out.lt
      by_cases hn0 : s.ps.length = 0
      · have m1 : ((s.ps.length : Int) == 0) = true := by rw [beq_iff_eq]; omega
        have m2 : (s.ps.length == 0) = true := by rw [beq_iff_eq]; exact hn0
        replace hn0 := Lib.hid hn0
        go_wp2
        go_ret
        exact ⟨rfl, hB4.out⟩
      · have m1 : ((s.ps.length : Int) == 0) = false := by rw [beq_eq_false_iff_ne]; omega
        have m2 : (s.ps.length == 0) = false := by rw [beq_eq_false_iff_ne]; exact hn0
        have kr := Ranks_any s Ap Ac Av Af cp cc cv cf F w4 (hE.out.below hB4.out) (hs.out.below hB4.out) hc3 (hF.out.below hB4.out) hFl
        cases hls : listB s.ps.length F with
        | false =>
          have kr2 : Hid (Calls Tryz.prog 13 #[.agg #[.slice Ap s.ps.length cp, .slice Ac s.cap.length cc, .slice Av s.vot.length cv], .slice Af F.length cf] w4 fun e w' => e = .returned (.tuple #[.slice none 0 0, .int .i64 1]) ∧ Below w4.heap.size w4 w') := kr.mono fun e w' h => ⟨by have h1 := h.1; rwa [if_neg (by rw [hls]; simp)] at h1, h.2⟩
          clear kr hls
          go_wp2_with fail
          refine kr2.out.mono ?_
          rintro e w5 ⟨rfl, hb⟩
          have hX5 := Lib.hid (hX4.out.below hb)
          have hB5 := Lib.hid (hB4.out.trans (hb.mono hB4.out.size))
          clear hb hX4 hB4
          clear u0 u1 u2 u9
          go_wp2
          go_ret
          exact ⟨rfl, hB5.out⟩
        | true =>
          have kr2 : Hid (Calls Tryz.prog 13 #[.agg #[.slice Ap s.ps.length cp, .slice Ac s.cap.length cc, .slice Av s.vot.length cv], .slice Af F.length cf] w4 fun e w' => (∃ b, e = .returned (.tuple #[.slice (some ⟨b, 0, none⟩) s.ps.length s.ps.length, .int .i64 0]) ∧ RoI w' b s.ps.length (rk (edges s) (toN F))) ∧ Below w4.heap.size w4 w') := kr.mono fun e w' h => ⟨by have h1 := h.1; rw [if_pos ⟨hsd, hls⟩] at h1; obtain ⟨b, e1, _, e2⟩ := h1; exact ⟨b, e1, e2⟩, h.2⟩
          clear kr
          go_wp2_with fail
          refine kr2.out.mono ?_
          rintro e w5 ⟨⟨rb, rfl, hR⟩, hb⟩
          have hX5 := Lib.hid (hX4.out.below hb)
          have hB5 := Lib.hid (hB4.out.trans (hb.mono hB4.out.size))
          clear hb hX4 hB4
          have hR5 := Lib.hid hR
          clear hR
          clear u0 u1 u2 u9
          clear kr2 m1 m2
          have u0 := hX5.out.cell (j := 0) rfl
          have u1 := hX5.out.cell (j := 1) rfl
          have u2 := hX5.out.cell (j := 2) rfl
          have u9 := hX5.out.lt
          obtain ⟨p, hp, hpn, hp2⟩ := remIn hx0 hn0
          have hn0i : ((s.ps.length : Int) == 0) = false := by rw [beq_eq_false_iff_ne]; omega
          have hnz : (s.ps.length : Int) ≠ 0 := by omega
          go_wp2_with fail
          clear hp2
          have hX0 := hX5; have hB0 := hB5; have hR0 := hR5; clear hX5 hB5 hR5 u0 u1 u2 u9
          have hL0 : Hid (Lst (edges s) (toN F) p 0 (-1)) := .inl ⟨rfl, fun f hf => by rw [List.take_zero] at hf; cases hf⟩
          have hlen : (toN F).length = F.length := by unfold toN; rw [List.length_map]
          have hin : Hid (∀ i (h : i < F.length), ∃ f : Nat, F[i] = (f : Int) ∧ f < s.ps.length ∧ (toN F)[i]? = some f) := fun i h => by obtain ⟨f, h1, h2, h3⟩ := toN_at hls h; exact ⟨f, h1, by omega, h3⟩
          have hup : Hid (∀ i (h : i < F.length) (_ : 0 < i), F[i - 1]'(Nat.lt_of_le_of_lt (Nat.sub_le i 1) h) < F[i]) := fun i h h0 => (lst_at hls h).2 h0
          have hend : Hid (∀ r, Lst (edges s) (toN F) p F.length r → rk (edges s) (toN F) p = r) := fun r h => by rw [← hlen] at h; exact lst_all h
          have hsk : Hid (∀ i f r, Lst (edges s) (toN F) p i r → (toN F)[i]? = some f → ¬ (0 ≤ rk (edges s) [f] p ∧ (r < 0 ∨ rk (edges s) [f] p < r)) → Lst (edges s) (toN F) p (i + 1) r) := fun _ _ _ h1 h2 h3 => lst_skip h1 h2 h3
          have hst : Hid (∀ i f r, Lst (edges s) (toN F) p i r → (toN F)[i]? = some f → 0 ≤ rk (edges s) [f] p → (r < 0 ∨ rk (edges s) [f] p < r) → Lst (edges s) (toN F) p (i + 1) (rk (edges s) [f] p)) := fun _ _ _ h1 h2 h3 h4 => lst_set h1 h2 h3 h4
          have hD : Hid (∀ (f : Nat) W, f < s.ps.length → Below w.heap.size w W → Calls Tryz.prog 19 #[.agg #[.slice Ap s.ps.length cp, .slice Ac s.cap.length cc, .slice Av s.vot.length cv], .int .i64 (f : Int), .int .i64 (p : Int)] W fun e w' => e = .returned (.int .i64 (rk (edges s) [f] p)) ∧ Below W.heap.size W w') := fun f W hf hW => Dist_any s Ap Ac Av cp cc cv f p W (hs.out.below hW) hsd hf hpn
          replace hsd := Lib.hid hsd
          clear hls hlen hnz hn0i
          replace hp := Lib.hid hp
          replace hn0 := Lib.hid hn0
          have p0 : (0 : Int) ≤ (p : Int) := by omega
          have p1 : (p : Int) < (s.ps.length : Int) := by omega
          replace hpn := Lib.hid hpn
          go_loopw [11, 12] (fun u ix wr => ∃ (r : Int) (i : Nat), i ≤ F.length ∧ u = .int .i64 r ∧ ix = .int .i64 (i : Int) ∧ Hid (Below w5.heap.size w5 wr) ∧ Hid (Lst (edges s) (toN F) p i r)) (fun _ ix _ => F.length - (intOf ix).toNat)
          case atStart => exact ⟨-1, 0, Nat.zero_le _, rfl, rfl, Below.refl _ _, hL0⟩
          case round =>
            obtain ⟨r, i, hi, rfl, rfl, hK, hL⟩ := hrel
            clear hL0
            have hX := hX0.out.below hK.out
            have hBr := Lib.hid (hB0.out.trans (hK.out.mono hB0.out.size))
            have u0 := hX.cell (j := 0) rfl
            have u1 := hX.cell (j := 1) rfl
            have u2 := hX.cell (j := 2) rfl
            have u9 := hX.lt
            clear hX
            by_cases hlt : i < F.length
            · obtain ⟨b1, o1, rfl, hb1, hc1⟩ := (hF.out.below hBr.out) (by omega)
              obtain ⟨f, hf1, hf2, hf3⟩ := hin.out i hlt
              have e1 := hc1 i hlt
              rw [hf1] at e1
              have e0 : Hid (∀ h : 0 < i, wr.cell? ⟨b1, o1 + (i - 1), none⟩ = some (.int .i64 (F[i - 1]'(Nat.lt_of_le_of_lt (Nat.sub_le i 1) hlt)))) := fun h => hc1 (i - 1) (by omega)
              have hui := hup.out i hlt
              rw [hf1] at hui
              replace hui := Lib.hid hui
              have j0 : (0 : Int) ≤ (i : Int) := by omega
              have j1 : (i : Int) < (F.length : Int) := by omega
              have m1 : decide ((f : Int) < 0) = false := decide_eq_false (by omega)
              have m2 : decide ((s.ps.length : Int) ≤ (f : Int)) = false := decide_eq_false (by omega)
              have m2' : decide (s.ps.length ≤ f) = false := decide_eq_false (by omega)
              clear hc1 hf1
              have hkd := hD.out f
              have hsk2 := hsk.out i f r hL.out hf3
              have hst2 := hst.out i f r hL.out hf3
              obtain ⟨d, hd⟩ : ∃ d, d = rk (edges s) [f] p := ⟨_, rfl⟩
              rw [← hd] at hkd hsk2 hst2
              clear hd hf3
              replace hkd := Lib.hid (fun W hW => hkd W hf2 hW)
              replace hsk2 := Lib.hid hsk2
              replace hst2 := Lib.hid hst2
              replace hf2 := Lib.hid hf2
              by_cases hi0 : i = 0
              · have m3 : decide (0 < (i : Int)) = false := decide_eq_false (by omega)
                have m4 : decide (0 < i) = false := decide_eq_false (by omega)
                replace hi0 := Lib.hid hi0
                go_wp2_with fail
                go_quiet (fail)
                clear m3 m4
                have hK2 := Lib.hid (bl_drewN hK.out nq)
                have hB2 := Lib.hid (bl_drewN hBr.out nq)
                have f1 : (wr.drewN nq).cell? ⟨b1, o1 + i, none⟩ = some (.int .i64 (f : Int)) := e1
                have v0 : (wr.drewN nq).cell? ⟨w.heap.size, 0, none⟩ = some (.slice Ap s.ps.length cp) := u0
                have v1 : (wr.drewN nq).cell? ⟨w.heap.size, 1, none⟩ = some (.slice Ac s.cap.length cc) := u1
                have v2 : (wr.drewN nq).cell? ⟨w.heap.size, 2, none⟩ = some (.slice Av s.vot.length cv) := u2
                have hbl : b1 < (wr.drewN nq).heap.size := hb1
                have hxl : w.heap.size < (wr.drewN nq).heap.size := u9
                obtain ⟨wq, hwq⟩ : ∃ x, x = wr.drewN nq := ⟨_, rfl⟩
                rw [← hwq] at hK2 hB2 f1 v0 v1 v2 hbl hxl ⊢
                clear hwq e1 e0 u0 u1 u2 u9 hK hBr hb1 hui m1 m2 m2'
                have HS : Hid (∀ W, Below wq.heap.size wq W → (fun W => W.cell? ⟨b1, o1 + i, none⟩ = some (.int .i64 (f : Int)) ∧ W.cell? ⟨w.heap.size, 0, none⟩ = some (.slice Ap s.ps.length cp) ∧ W.cell? ⟨w.heap.size, 1, none⟩ = some (.slice Ac s.cap.length cc) ∧ W.cell? ⟨w.heap.size, 2, none⟩ = some (.slice Av s.vot.length cv)) W) := fun W hb => ⟨(hb.cell (p := ⟨b1, o1 + i, none⟩) hbl).trans f1, (hb.cell (p := ⟨w.heap.size, 0, none⟩) hxl).trans v0, (hb.cell (p := ⟨w.heap.size, 1, none⟩) hxl).trans v1, (hb.cell (p := ⟨w.heap.size, 2, none⟩) hxl).trans v2⟩
                have hwz := hB2.out.size
                have z0 : Hid (Below wq.heap.size wq wq.drew) := (Below.refl _ wq).drew
                clear f1 v0 v1 v2 hbl hxl
                go_wp2_with fail
                first | go_region_held3 (fun W => W.cell? ⟨b1, o1 + i, none⟩ = some (.int .i64 (f : Int)) ∧ W.cell? ⟨w.heap.size, 0, none⟩ = some (.slice Ap s.ps.length cp) ∧ W.cell? ⟨w.heap.size, 1, none⟩ = some (.slice Ac s.cap.length cc) ∧ W.cell? ⟨w.heap.size, 2, none⟩ = some (.slice Av s.vot.length cv)) (first | (with_reducible exact HS.out _ (Below.refl _ _)) | (with_reducible exact HS.out _ z0.out) | (with_reducible exact HS.out _ z1.out) | go_keep) (first | (go_at_call 19; with_reducible refine (hkd.out _ (hB2.out.trans (z0.out.mono hwz))).mono ?_; rintro e wy ⟨rfl, hb⟩; have z1 := Lib.hid (z0.out.trans (hb.mono z0.out.size)); clear hb)) | fail
                have hK3 := Lib.hid (hK2.out.trans (z1.out.mono hK2.out.size))
                clear z1 z0 HS hK2 hB2 hkd
                replace j1 := Lib.hid j1
                have hcl : d < 0 ∨ (0 ≤ d ∧ r < 0) ∨ (0 ≤ d ∧ 0 ≤ r ∧ d < r) ∨ (0 ≤ d ∧ 0 ≤ r ∧ r ≤ d) := by omega
                rcases hcl with k1 | ⟨k1, k2⟩ | ⟨k1, k2, k3⟩ | ⟨k1, k2, k3⟩
                · have m6 : decide (0 ≤ d) = false := decide_eq_false (by omega)
                  have hLn := Lib.hid (hsk2.out (by omega))
                  clear hst2 hsk2
                  go_wp2
                  exact ⟨⟨r, i + 1, by omega, rfl, by go_num, hK3, hLn⟩, by simp only [intOf]; omega⟩
                · have m6 : decide (0 ≤ d) = true := decide_eq_true (by omega)
                  have m7 : decide (r < 0) = true := decide_eq_true (by omega)
                  have hLn := Lib.hid (hst2.out k1 (.inl k2))
                  clear hst2 hsk2
                  go_wp2
                  exact ⟨⟨d, i + 1, by omega, rfl, by go_num, hK3, hLn⟩, by simp only [intOf]; omega⟩
                · have m6 : decide (0 ≤ d) = true := decide_eq_true (by omega)
                  have m7 : decide (r < 0) = false := decide_eq_false (by omega)
                  have m8 : decide (d < r) = true := decide_eq_true (by omega)
                  have hLn := Lib.hid (hst2.out k1 (.inr k3))
                  clear hst2 hsk2
                  go_wp2
                  exact ⟨⟨d, i + 1, by omega, rfl, by go_num, hK3, hLn⟩, by simp only [intOf]; omega⟩
                · have m6 : decide (0 ≤ d) = true := decide_eq_true (by omega)
                  have m7 : decide (r < 0) = false := decide_eq_false (by omega)
                  have m8 : decide (d < r) = false := decide_eq_false (by omega)
                  have hLn := Lib.hid (hsk2.out (by omega))
                  clear hst2 hsk2
                  go_wp2
                  exact ⟨⟨r, i + 1, by omega, rfl, by go_num, hK3, hLn⟩, by simp only [intOf]; omega⟩
              · have m3 : decide (0 < (i : Int)) = true := decide_eq_true (by omega)
                have m4 : decide (0 < i) = true := decide_eq_true (by omega)
                have e2 := e0.out (by omega)
                have hui2 := hui.out (by omega)
                obtain ⟨y, hy⟩ : ∃ y, y = F[i - 1]'(Nat.lt_of_le_of_lt (Nat.sub_le i 1) hlt) := ⟨_, rfl⟩
                rw [← hy] at e2 hui2
                have j3 : (0 : Int) ≤ (i : Int) - 1 := by omega
                have j4 : (i : Int) - 1 < (F.length : Int) := by omega
                have j5 : IntKind.i64.wrap ((i : Int) - 1) = (i : Int) - 1 := IntWalk.i64_in _ (by omega)
                have j6 : ((i : Int) - 1).toNat = i - 1 := by omega
                have m5 : decide ((f : Int) ≤ y) = false := decide_eq_false (by omega)
                clear hui2 hy
                replace hi0 := Lib.hid hi0
                go_wp2_with fail
                go_quiet (fail)
                clear m3 m4 m5 j3 j4 j5 j6 e2
                have hK2 := Lib.hid (bl_drewN hK.out nq)
                have hB2 := Lib.hid (bl_drewN hBr.out nq)
                have f1 : (wr.drewN nq).cell? ⟨b1, o1 + i, none⟩ = some (.int .i64 (f : Int)) := e1
                have v0 : (wr.drewN nq).cell? ⟨w.heap.size, 0, none⟩ = some (.slice Ap s.ps.length cp) := u0
                have v1 : (wr.drewN nq).cell? ⟨w.heap.size, 1, none⟩ = some (.slice Ac s.cap.length cc) := u1
                have v2 : (wr.drewN nq).cell? ⟨w.heap.size, 2, none⟩ = some (.slice Av s.vot.length cv) := u2
                have hbl : b1 < (wr.drewN nq).heap.size := hb1
                have hxl : w.heap.size < (wr.drewN nq).heap.size := u9
                obtain ⟨wq, hwq⟩ : ∃ x, x = wr.drewN nq := ⟨_, rfl⟩
                rw [← hwq] at hK2 hB2 f1 v0 v1 v2 hbl hxl ⊢
                clear hwq e1 e0 u0 u1 u2 u9 hK hBr hb1 hui m1 m2 m2'
                have HS : Hid (∀ W, Below wq.heap.size wq W → (fun W => W.cell? ⟨b1, o1 + i, none⟩ = some (.int .i64 (f : Int)) ∧ W.cell? ⟨w.heap.size, 0, none⟩ = some (.slice Ap s.ps.length cp) ∧ W.cell? ⟨w.heap.size, 1, none⟩ = some (.slice Ac s.cap.length cc) ∧ W.cell? ⟨w.heap.size, 2, none⟩ = some (.slice Av s.vot.length cv)) W) := fun W hb => ⟨(hb.cell (p := ⟨b1, o1 + i, none⟩) hbl).trans f1, (hb.cell (p := ⟨w.heap.size, 0, none⟩) hxl).trans v0, (hb.cell (p := ⟨w.heap.size, 1, none⟩) hxl).trans v1, (hb.cell (p := ⟨w.heap.size, 2, none⟩) hxl).trans v2⟩
                have hwz := hB2.out.size
                have z0 : Hid (Below wq.heap.size wq wq.drew) := (Below.refl _ wq).drew
                clear f1 v0 v1 v2 hbl hxl
                go_wp2_with fail
                first | go_region_held3 (fun W => W.cell? ⟨b1, o1 + i, none⟩ = some (.int .i64 (f : Int)) ∧ W.cell? ⟨w.heap.size, 0, none⟩ = some (.slice Ap s.ps.length cp) ∧ W.cell? ⟨w.heap.size, 1, none⟩ = some (.slice Ac s.cap.length cc) ∧ W.cell? ⟨w.heap.size, 2, none⟩ = some (.slice Av s.vot.length cv)) (first | (with_reducible exact HS.out _ (Below.refl _ _)) | (with_reducible exact HS.out _ z0.out) | (with_reducible exact HS.out _ z1.out) | go_keep) (first | (go_at_call 19; with_reducible refine (hkd.out _ (hB2.out.trans (z0.out.mono hwz))).mono ?_; rintro e wy ⟨rfl, hb⟩; have z1 := Lib.hid (z0.out.trans (hb.mono z0.out.size)); clear hb)) | fail
                have hK3 := Lib.hid (hK2.out.trans (z1.out.mono hK2.out.size))
                clear z1 z0 HS hK2 hB2 hkd
                replace j1 := Lib.hid j1
                have hcl : d < 0 ∨ (0 ≤ d ∧ r < 0) ∨ (0 ≤ d ∧ 0 ≤ r ∧ d < r) ∨ (0 ≤ d ∧ 0 ≤ r ∧ r ≤ d) := by omega
                rcases hcl with k1 | ⟨k1, k2⟩ | ⟨k1, k2, k3⟩ | ⟨k1, k2, k3⟩
                · have m6 : decide (0 ≤ d) = false := decide_eq_false (by omega)
                  have hLn := Lib.hid (hsk2.out (by omega))
                  clear hst2 hsk2
                  go_wp2
                  exact ⟨⟨r, i + 1, by omega, rfl, by go_num, hK3, hLn⟩, by simp only [intOf]; omega⟩
                · have m6 : decide (0 ≤ d) = true := decide_eq_true (by omega)
                  have m7 : decide (r < 0) = true := decide_eq_true (by omega)
                  have hLn := Lib.hid (hst2.out k1 (.inl k2))
                  clear hst2 hsk2
                  go_wp2
                  exact ⟨⟨d, i + 1, by omega, rfl, by go_num, hK3, hLn⟩, by simp only [intOf]; omega⟩
                · have m6 : decide (0 ≤ d) = true := decide_eq_true (by omega)
                  have m7 : decide (r < 0) = false := decide_eq_false (by omega)
                  have m8 : decide (d < r) = true := decide_eq_true (by omega)
                  have hLn := Lib.hid (hst2.out k1 (.inr k3))
                  clear hst2 hsk2
                  go_wp2
                  exact ⟨⟨d, i + 1, by omega, rfl, by go_num, hK3, hLn⟩, by simp only [intOf]; omega⟩
                · have m6 : decide (0 ≤ d) = true := decide_eq_true (by omega)
                  have m7 : decide (r < 0) = false := decide_eq_false (by omega)
                  have m8 : decide (d < r) = false := decide_eq_false (by omega)
                  have hLn := Lib.hid (hsk2.out (by omega))
                  clear hst2 hsk2
                  go_wp2
                  exact ⟨⟨r, i + 1, by omega, rfl, by go_num, hK3, hLn⟩, by simp only [intOf]; omega⟩
            · obtain rfl : i = F.length := by omega
              have he := hend.out _ hL.out
              have hR := hR0.out.below hK.out
              have e3 := hR.cell p hpn.out
              have e4 := hR.lt
              rw [he] at e3
              clear hR he
              go_wp2
              go_ret
              exact ⟨rfl, hBr.out⟩
end Ci
end Go.Proofs.YthggedpgcchneaaGreatDoor

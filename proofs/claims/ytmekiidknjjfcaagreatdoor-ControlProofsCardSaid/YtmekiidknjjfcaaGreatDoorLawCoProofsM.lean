/- The law ControlProofs. Printed by gen_lproofs.py. -/
import Derived.Test.YtmekiidknjjfcaaGreatDoorCoE
import Derived.Test.YtmekiidknjjfcaaGreatDoorConSort60M
namespace Go.Proofs.YtmekiidknjjfcaaGreatDoor
open Go.RowKit Go.Shelf
namespace Co
open Nt Ci

theorem chk_out {s : SR} {F lo lc : List Int} {party : Int} (h : ¬ (soundB s = true ∧ listB s.ps.length F = true ∧ 0 ≤ party ∧ party < s.ps.length)) : chk s F party lo lc = (false, false) := by
  unfold chk
  rw [if_neg h]

set_option maxRecDepth 100000 in
set_option maxHeartbeats 16000000 in
theorem lawCo_proofs (s : SR) (Ap Ac Av Af : Option Addr) (cp cc cv cf : Nat) (F : List Int) (party : Int) (w : World) (hE : Env w) (hs : StIn w s Ap Ac Av) (hF : InInt w Af F) (hFl : F.length ≤ 140737488355328) :
    Calls Tryz.prog 6 #[.agg #[.slice Ap s.ps.length cp, .slice Ac s.cap.length cc, .slice Av s.vot.length cv], .slice Af F.length cf, .int .i64 party] w fun e w' => e = .returned (.bool true) ∧ Below w.heap.size w w' := by
  have hX1 : Hid (Bk (w.alloc (.cells #[.slice Ap s.ps.length cp, .slice Ac s.cap.length cc, .slice Av s.vot.length cv] 25)) w.heap.size 25 (SC s Ap Ac Av cp cc cv)) := Bk.new w _ _
  have hB1 : Hid (Below w.heap.size w (w.alloc (.cells #[.slice Ap s.ps.length cp, .slice Ac s.cap.length cc, .slice Av s.vot.length cv] 25))) := (Below.refl _ w).alloc (Nat.le_refl _) _
  replace hE := Lib.hid hE
  replace hs := Lib.hid hs
  replace hF := Lib.hid hF
  go_enter Tryz.func6, Tryz.ntmps6
  go_wp2_with fail
  refine (headCo_any _ (hE.out.below hB1.out)).mono ?_
  rintro e w2 ⟨rfl, hb⟩
  have hX2 := Lib.hid (hX1.out.below hb)
  have hB2 := Lib.hid (hB1.out.trans (hb.mono hB1.out.size))
  clear hb hX1 hB1
  have u0 := hX2.out.cell (j := 0) rfl
  have u1 := hX2.out.cell (j := 1) rfl
  have u2 := hX2.out.cell (j := 2) rfl
  have u9 := hX2.out.lt
  have hLb : Hid (Below w2.heap.size w2 (w2.alloc (.cells #[.slice Af F.length cf] 26))) := (Below.refl _ _).alloc (Nat.le_refl _) _
  have hLk : Hid (Bk (w2.alloc (.cells #[.slice Af F.length cf] 26)) w2.heap.size 26 [.slice Af F.length cf]) := Bk.new _ _ _
  have hLi : Hid (InLens (w2.alloc (.cells #[.slice Af F.length cf] 26)) w2.heap.size [F.length]) := ⟨hLk.out.lt, fun j hj => by
    match j, hj with
    | 0, _ => exact ⟨_, _, hLk.out.cell (j := 0) rfl⟩
    | j + 1, hj => exact absurd hj (by simp)⟩
  have kf := Lib.hid (few_some s Ap Ac Av cp cc cv w2.heap.size [F.length] (w2.alloc (.cells #[.slice Af F.length cf] 26)) (hs.out.below (hB2.out.trans (hLb.out.mono hB2.out.size))) hLi.out (by simp))
  go_wp2_with fail
  refine kf.out.mono ?_
  rintro e w3 ⟨⟨r, rfl, hr⟩, hb0⟩
  have hb := hLb.out.trans (hb0.mono hLb.out.size)
  replace hr := Lib.hid hr
  clear hb0 hLb hLk hLi kf
  have hX3 := Lib.hid (hX2.out.below hb)
  have hB3 := Lib.hid (hB2.out.trans (hb.mono hB2.out.size))
  clear hb hX2 hB2
  clear u0 u1 u2 u9
  cases r with
  | false =>
    go_wp2
    go_ret
    exact ⟨rfl, hB3.out⟩
  | true =>
    obtain ⟨⟨hp60, hc30, hv30⟩, hl70⟩ := hr.out rfl
    replace hl70 := Lib.hid hl70
    clear hr
    have u0 := hX3.out.cell (j := 0) rfl
    have u1 := hX3.out.cell (j := 1) rfl
    have u2 := hX3.out.cell (j := 2) rfl
    have u9 := hX3.out.lt
    have kc := Controlled_any s Ap Ac Av Af cp cc cv cf F w3 (hE.out.below hB3.out) (hs.out.below hB3.out) (by omega) (by omega) (hF.out.below hB3.out) hFl
    by_cases hgd : soundB s = true ∧ listB s.ps.length F = true
    rotate_left
    · have kc2 : Hid (Calls Tryz.prog 12 #[.agg #[.slice Ap s.ps.length cp, .slice Ac s.cap.length cc, .slice Av s.vot.length cv], .slice Af F.length cf] w3 fun e w' => e = .returned (.tuple #[.slice none 0 0, .int .i64 1]) ∧ Below w3.heap.size w3 w') := kc.mono fun e w' h => ⟨by have h1 := h.1; rw [if_neg hgd] at h1; exact h1, h.2⟩
      clear kc
      replace hgd := Lib.hid hgd
      go_wp2_with fail
      refine kc2.out.mono ?_
      rintro e w4 ⟨rfl, hb⟩
      have hX4 := Lib.hid (hX3.out.below hb)
      have hB4 := Lib.hid (hB3.out.trans (hb.mono hB3.out.size))
      clear hb hX3 hB3
      clear u0 u1 u2 u9
      clear kc2
      have u0 := hX4.out.cell (j := 0) rfl
      have u1 := hX4.out.cell (j := 1) rfl
      have u2 := hX4.out.cell (j := 2) rfl
      have u9 := hX4.out.lt
      have kp2 : Hid (Calls Tryz.prog 14 #[.agg #[.slice Ap s.ps.length cp, .slice Ac s.cap.length cc, .slice Av s.vot.length cv], .slice Af F.length cf, .int .i64 party] w4 fun e w' => e = .returned (.tuple #[.agg #[.slice none 0 0, .slice none 0 0], .int .i64 1]) ∧ Below w4.heap.size w4 w') := (Prove_w 80 sortUpTo_80 s Ap Ac Av Af cp cc cv cf F party w4 (hE.out.below hB4.out) (hs.out.below hB4.out) (by omega) (by omega) (hF.out.below hB4.out) hFl (by omega)).mono fun e w' h => ⟨by have h1 := h.1; rw [if_neg (fun h => hgd.out ⟨h.1, h.2.1⟩)] at h1; exact h1, h.2⟩
      go_wp2_with fail
      refine kp2.out.mono ?_
      rintro e w5 ⟨rfl, hb⟩
      have hX5 := Lib.hid (hX4.out.below hb)
      have hB5 := Lib.hid (hB4.out.trans (hb.mono hB4.out.size))
      clear hb hX4 hB4
      clear u0 u1 u2 u9
      clear kp2
      have hLb : Hid (Below w5.heap.size w5 (w5.alloc (.cells #[.slice none 0 0, .slice none 0 0] 28))) := (Below.refl _ _).alloc (Nat.le_refl _) _
      have hPb : Hid (Bk (w5.alloc (.cells #[.slice none 0 0, .slice none 0 0] 28)) w5.heap.size 28 [.slice none 0 0, .slice none 0 0]) := Bk.new _ _ _
      have hXb := Lib.hid (hX5.out.below hLb.out)
      have u0 := hXb.out.cell (j := 0) rfl
      have u1 := hXb.out.cell (j := 1) rfl
      have u2 := hXb.out.cell (j := 2) rfl
      have u9 := hXb.out.lt
      have p0 := hPb.out.cell (j := 0) rfl; have p1 := hPb.out.cell (j := 1) rfl; have p9 := hPb.out.lt
      have hBb := hB5.out.trans (hLb.out.mono hB5.out.size)
      have kk : Hid (Calls Tryz.prog 16 #[.agg #[.slice Ap s.ps.length cp, .slice Ac s.cap.length cc, .slice Av s.vot.length cv], .slice Af F.length cf, .int .i64 party, .agg #[.slice none 0 0, .slice none 0 0]] (w5.alloc (.cells #[.slice none 0 0, .slice none 0 0] 28)) fun e w' => e = .returned (.tuple #[.bool false, .bool false]) ∧ Below (w5.alloc (.cells #[.slice none 0 0, .slice none 0 0] 28)).heap.size (w5.alloc (.cells #[.slice none 0 0, .slice none 0 0] 28)) w') := by
        have h := Check_any s Ap Ac Av Af none none cp cc cv cf 0 0 F [] [] party (w5.alloc (.cells #[.slice none 0 0, .slice none 0 0] 28)) (hE.out.below hBb) (hs.out.below hBb) (by omega) (by omega) (hF.out.below hBb) hFl (fun h0 => absurd h0 (by simp)) (by simp) (fun h0 => absurd h0 (by simp)) (by simp)
        rw [chk_out (fun h => hgd.out ⟨h.1, h.2.1⟩)] at h
        exact h
      clear hBb
      go_wp2_with fail
      refine kk.out.mono ?_
      rintro e w6 ⟨rfl, hb0⟩
      have hb := hLb.out.trans (hb0.mono hLb.out.size)
      have hP6 := Lib.hid (hPb.out.below hb0)
      clear hb0 hLb hPb hXb kk u0 u1 u2 u9 p0 p1 p9
      have hX6 := Lib.hid (hX5.out.below hb)
      have hB6 := Lib.hid (hB5.out.trans (hb.mono hB5.out.size))
      clear hb hX5 hB5
      have p0 := hP6.out.cell (j := 0) rfl; have p1 := hP6.out.cell (j := 1) rfl; have p9 := hP6.out.lt
      go_wp2
      go_ret
      exact ⟨rfl, hB6.out⟩
    · have kc2 : Hid (Calls Tryz.prog 12 #[.agg #[.slice Ap s.ps.length cp, .slice Ac s.cap.length cc, .slice Av s.vot.length cv], .slice Af F.length cf] w3 fun e w' => (∃ b, e = .returned (.tuple #[.slice (some ⟨b, 0, none⟩) s.ps.length s.ps.length, .int .i64 0]) ∧ RoI w' b s.ps.length (rd (VT s) (toN F))) ∧ Below w3.heap.size w3 w') := kc.mono fun e w' h => ⟨by have h1 := h.1; rw [if_pos hgd] at h1; obtain ⟨b, e1, _, e2⟩ := h1; exact ⟨b, e1, e2⟩, h.2⟩
      clear kc
      have hsd := Lib.hid hgd.1; have hls := Lib.hid hgd.2
      have hV : Hid (VIn s.ps.length (VT s)) := VIn_of (sound_vot hgd.1)
      replace hgd := Lib.hid hgd
      go_wp2_with fail
      refine kc2.out.mono ?_
      rintro e w4 ⟨⟨rb, rfl, hR⟩, hb⟩
      have hX4 := Lib.hid (hX3.out.below hb)
      have hB4 := Lib.hid (hB3.out.trans (hb.mono hB3.out.size))
      clear hb hX3 hB3
      have hR4 := Lib.hid hR
      clear hR
      clear u0 u1 u2 u9
      clear kc2
      by_cases hp0 : party < 0
      · have m1 : decide (party < 0) = true := decide_eq_true hp0
        have hbad : Hid (¬ (soundB s = true ∧ listB s.ps.length F = true ∧ 0 ≤ party ∧ party < s.ps.length)) := fun h => by omega
        replace hp0 := Lib.hid hp0
        have u0 := hX4.out.cell (j := 0) rfl
        have u1 := hX4.out.cell (j := 1) rfl
        have u2 := hX4.out.cell (j := 2) rfl
        have u9 := hX4.out.lt
        have kp2 : Hid (Calls Tryz.prog 14 #[.agg #[.slice Ap s.ps.length cp, .slice Ac s.cap.length cc, .slice Av s.vot.length cv], .slice Af F.length cf, .int .i64 party] w4 fun e w' => e = .returned (.tuple #[.agg #[.slice none 0 0, .slice none 0 0], .int .i64 1]) ∧ Below w4.heap.size w4 w') := (Prove_w 80 sortUpTo_80 s Ap Ac Av Af cp cc cv cf F party w4 (hE.out.below hB4.out) (hs.out.below hB4.out) (by omega) (by omega) (hF.out.below hB4.out) hFl (by omega)).mono fun e w' h => ⟨by have h1 := h.1; rw [if_neg hbad.out] at h1; exact h1, h.2⟩
        go_wp2_with fail
        refine kp2.out.mono ?_
        rintro e w5 ⟨rfl, hb⟩
        have hX5 := Lib.hid (hX4.out.below hb)
        have hB5 := Lib.hid (hB4.out.trans (hb.mono hB4.out.size))
        have hR5 := Lib.hid (hR4.out.below hb)
        clear hb hX4 hB4 hR4
        clear u0 u1 u2 u9
        clear kp2
        have hLb : Hid (Below w5.heap.size w5 (w5.alloc (.cells #[.slice none 0 0, .slice none 0 0] 28))) := (Below.refl _ _).alloc (Nat.le_refl _) _
        have hPb : Hid (Bk (w5.alloc (.cells #[.slice none 0 0, .slice none 0 0] 28)) w5.heap.size 28 [.slice none 0 0, .slice none 0 0]) := Bk.new _ _ _
        have hXb := Lib.hid (hX5.out.below hLb.out)
        have u0 := hXb.out.cell (j := 0) rfl
        have u1 := hXb.out.cell (j := 1) rfl
        have u2 := hXb.out.cell (j := 2) rfl
        have u9 := hXb.out.lt
        have p0 := hPb.out.cell (j := 0) rfl; have p1 := hPb.out.cell (j := 1) rfl; have p9 := hPb.out.lt
        have hBb := hB5.out.trans (hLb.out.mono hB5.out.size)
        have kk : Hid (Calls Tryz.prog 16 #[.agg #[.slice Ap s.ps.length cp, .slice Ac s.cap.length cc, .slice Av s.vot.length cv], .slice Af F.length cf, .int .i64 party, .agg #[.slice none 0 0, .slice none 0 0]] (w5.alloc (.cells #[.slice none 0 0, .slice none 0 0] 28)) fun e w' => e = .returned (.tuple #[.bool false, .bool false]) ∧ Below (w5.alloc (.cells #[.slice none 0 0, .slice none 0 0] 28)).heap.size (w5.alloc (.cells #[.slice none 0 0, .slice none 0 0] 28)) w') := by
          have h := Check_any s Ap Ac Av Af none none cp cc cv cf 0 0 F [] [] party (w5.alloc (.cells #[.slice none 0 0, .slice none 0 0] 28)) (hE.out.below hBb) (hs.out.below hBb) (by omega) (by omega) (hF.out.below hBb) hFl (fun h0 => absurd h0 (by simp)) (by simp) (fun h0 => absurd h0 (by simp)) (by simp)
          rw [chk_out hbad.out] at h
          exact h
        clear hBb
        go_wp2_with fail
        refine kk.out.mono ?_
        rintro e w6 ⟨rfl, hb0⟩
        have hb := hLb.out.trans (hb0.mono hLb.out.size)
        have hP6 := Lib.hid (hPb.out.below hb0)
        clear hb0 hLb hPb hXb kk u0 u1 u2 u9 p0 p1 p9
        have hX6 := Lib.hid (hX5.out.below hb)
        have hB6 := Lib.hid (hB5.out.trans (hb.mono hB5.out.size))
        have hR6 := Lib.hid (hR5.out.below hb)
        clear hb hX5 hB5 hR5
        have p0 := hP6.out.cell (j := 0) rfl; have p1 := hP6.out.cell (j := 1) rfl; have p9 := hP6.out.lt
        go_wp2
        go_ret
        exact ⟨rfl, hB6.out⟩
      · have m1 : decide (party < 0) = false := decide_eq_false hp0
        by_cases hpn : (s.ps.length : Int) ≤ party
        · have m2 : decide ((s.ps.length : Int) ≤ party) = true := decide_eq_true hpn
          have hbad : Hid (¬ (soundB s = true ∧ listB s.ps.length F = true ∧ 0 ≤ party ∧ party < s.ps.length)) := fun h => by omega
          replace hp0 := Lib.hid hp0; replace hpn := Lib.hid hpn
          have u0 := hX4.out.cell (j := 0) rfl
          have u1 := hX4.out.cell (j := 1) rfl
          have u2 := hX4.out.cell (j := 2) rfl
          have u9 := hX4.out.lt
          have kp2 : Hid (Calls Tryz.prog 14 #[.agg #[.slice Ap s.ps.length cp, .slice Ac s.cap.length cc, .slice Av s.vot.length cv], .slice Af F.length cf, .int .i64 party] w4 fun e w' => e = .returned (.tuple #[.agg #[.slice none 0 0, .slice none 0 0], .int .i64 1]) ∧ Below w4.heap.size w4 w') := (Prove_w 80 sortUpTo_80 s Ap Ac Av Af cp cc cv cf F party w4 (hE.out.below hB4.out) (hs.out.below hB4.out) (by omega) (by omega) (hF.out.below hB4.out) hFl (by omega)).mono fun e w' h => ⟨by have h1 := h.1; rw [if_neg hbad.out] at h1; exact h1, h.2⟩
          go_wp2_with fail
          refine kp2.out.mono ?_
          rintro e w5 ⟨rfl, hb⟩
          have hX5 := Lib.hid (hX4.out.below hb)
          have hB5 := Lib.hid (hB4.out.trans (hb.mono hB4.out.size))
          have hR5 := Lib.hid (hR4.out.below hb)
          clear hb hX4 hB4 hR4
          clear u0 u1 u2 u9
          clear kp2
          have hLb : Hid (Below w5.heap.size w5 (w5.alloc (.cells #[.slice none 0 0, .slice none 0 0] 28))) := (Below.refl _ _).alloc (Nat.le_refl _) _
          have hPb : Hid (Bk (w5.alloc (.cells #[.slice none 0 0, .slice none 0 0] 28)) w5.heap.size 28 [.slice none 0 0, .slice none 0 0]) := Bk.new _ _ _
          have hXb := Lib.hid (hX5.out.below hLb.out)
          have u0 := hXb.out.cell (j := 0) rfl
          have u1 := hXb.out.cell (j := 1) rfl
          have u2 := hXb.out.cell (j := 2) rfl
          have u9 := hXb.out.lt
          have p0 := hPb.out.cell (j := 0) rfl; have p1 := hPb.out.cell (j := 1) rfl; have p9 := hPb.out.lt
          have hBb := hB5.out.trans (hLb.out.mono hB5.out.size)
          have kk : Hid (Calls Tryz.prog 16 #[.agg #[.slice Ap s.ps.length cp, .slice Ac s.cap.length cc, .slice Av s.vot.length cv], .slice Af F.length cf, .int .i64 party, .agg #[.slice none 0 0, .slice none 0 0]] (w5.alloc (.cells #[.slice none 0 0, .slice none 0 0] 28)) fun e w' => e = .returned (.tuple #[.bool false, .bool false]) ∧ Below (w5.alloc (.cells #[.slice none 0 0, .slice none 0 0] 28)).heap.size (w5.alloc (.cells #[.slice none 0 0, .slice none 0 0] 28)) w') := by
            have h := Check_any s Ap Ac Av Af none none cp cc cv cf 0 0 F [] [] party (w5.alloc (.cells #[.slice none 0 0, .slice none 0 0] 28)) (hE.out.below hBb) (hs.out.below hBb) (by omega) (by omega) (hF.out.below hBb) hFl (fun h0 => absurd h0 (by simp)) (by simp) (fun h0 => absurd h0 (by simp)) (by simp)
            rw [chk_out hbad.out] at h
            exact h
          clear hBb
          go_wp2_with fail
          refine kk.out.mono ?_
          rintro e w6 ⟨rfl, hb0⟩
          have hb := hLb.out.trans (hb0.mono hLb.out.size)
          have hP6 := Lib.hid (hPb.out.below hb0)
          clear hb0 hLb hPb hXb kk u0 u1 u2 u9 p0 p1 p9
          have hX6 := Lib.hid (hX5.out.below hb)
          have hB6 := Lib.hid (hB5.out.trans (hb.mono hB5.out.size))
          have hR6 := Lib.hid (hR5.out.below hb)
          clear hb hX5 hB5 hR5
          have p0 := hP6.out.cell (j := 0) rfl; have p1 := hP6.out.cell (j := 1) rfl; have p9 := hP6.out.lt
          go_wp2
          go_ret
          exact ⟨rfl, hB6.out⟩
        · obtain ⟨p, rfl⟩ : ∃ p : Nat, party = (p : Int) := ⟨party.toNat, by omega⟩
          have hpp : p < s.ps.length := by omega
          have m2 : decide ((s.ps.length : Int) ≤ (p : Int)) = false := decide_eq_false hpn
          have m2n : decide (s.ps.length ≤ p) = false := decide_eq_false (by omega)
          have j0 : (0 : Int) ≤ (p : Int) := by omega
          have j1 : (p : Int) < (s.ps.length : Int) := by omega
          have hgood : Hid (soundB s = true ∧ listB s.ps.length F = true ∧ 0 ≤ (p : Int) ∧ (p : Int) < s.ps.length) := ⟨hsd.out, hls.out, j0, j1⟩
          replace hp0 := Lib.hid hp0; replace hpn := Lib.hid hpn
          have u0 := hX4.out.cell (j := 0) rfl
          have u1 := hX4.out.cell (j := 1) rfl
          have u2 := hX4.out.cell (j := 2) rfl
          have u9 := hX4.out.lt
          have kp := Prove_w 80 sortUpTo_80 s Ap Ac Av Af cp cc cv cf F (p : Int) w4 (hE.out.below hB4.out) (hs.out.below hB4.out) (by omega) (by omega) (hF.out.below hB4.out) hFl (by omega)
          by_cases hrd : 0 ≤ rd (VT s) (toN F) p
          · have kp2 : Hid (Calls Tryz.prog 14 #[.agg #[.slice Ap s.ps.length cp, .slice Ac s.cap.length cc, .slice Av s.vot.length cv], .slice Af F.length cf, .int .i64 (p : Int)] w4 fun e w' => (∃ A c l, e = .returned (.tuple #[.agg #[.slice A (List.length l) c, .slice none 0 0], .int .i64 0]) ∧ InInt w' A (castL l) ∧ OrdIs (rd (VT s) (toN F)) s.ps.length p l) ∧ Below w4.heap.size w4 w') := kp.mono fun e w' h => ⟨by have h1 := h.1; rw [if_pos hgood.out, if_pos (show 0 ≤ rd (VT s) (toN F) ((p : Int)).toNat from hrd)] at h1; exact h1, h.2⟩
            clear kp
            have hm3 : Hid (decide (0 ≤ rd (VT s) (toN F) p) = true) := decide_eq_true hrd
            have hch : Hid (∀ l, OrdIs (rd (VT s) (toN F)) s.ps.length p l → chk s F (p : Int) (castL l) [] = (true, true)) := fun l hO => chk_prove_yes hsd.out hls.out hV.out hpp hrd hO
            replace hrd := Lib.hid hrd
            go_wp2_with fail
            refine kp2.out.mono ?_
            rintro e w5 ⟨⟨A, c, l, rfl, hI, hO⟩, hb⟩
            have hX5 := Lib.hid (hX4.out.below hb)
            have hB5 := Lib.hid (hB4.out.trans (hb.mono hB4.out.size))
            have hR5 := Lib.hid (hR4.out.below hb)
            clear hb hX4 hB4 hR4
            clear u0 u1 u2 u9
            clear kp2
            have hl60 : l.length ≤ 60 := by have h1 := (hO.1.imp fun {x y} hxy => (fun e => by rw [e] at hxy; unfold lexo at hxy; omega : x ≠ y)); have h2 := nodup_len s.ps.length l h1 (fun x hx => ((hO.2 x).1 hx).1); omega
            have hc1 := Lib.hid (hch.out l hO); clear hch hO
            replace hI := Lib.hid hI
            have hLb : Hid (Below w5.heap.size w5 (w5.alloc (.cells #[.slice A l.length c, .slice none 0 0] 28))) := (Below.refl _ _).alloc (Nat.le_refl _) _
            have hPb : Hid (Bk (w5.alloc (.cells #[.slice A l.length c, .slice none 0 0] 28)) w5.heap.size 28 [.slice A l.length c, .slice none 0 0]) := Bk.new _ _ _
            have hXb := Lib.hid (hX5.out.below hLb.out)
            have u0 := hXb.out.cell (j := 0) rfl
            have u1 := hXb.out.cell (j := 1) rfl
            have u2 := hXb.out.cell (j := 2) rfl
            have u9 := hXb.out.lt
            have p0 := hPb.out.cell (j := 0) rfl; have p1 := hPb.out.cell (j := 1) rfl; have p9 := hPb.out.lt
            have hBb := hB5.out.trans (hLb.out.mono hB5.out.size)
            have kk : Hid (Calls Tryz.prog 16 #[.agg #[.slice Ap s.ps.length cp, .slice Ac s.cap.length cc, .slice Av s.vot.length cv], .slice Af F.length cf, .int .i64 (p : Int), .agg #[.slice A l.length c, .slice none 0 0]] (w5.alloc (.cells #[.slice A l.length c, .slice none 0 0] 28)) fun e w' => e = .returned (.tuple #[.bool true, .bool true]) ∧ Below (w5.alloc (.cells #[.slice A l.length c, .slice none 0 0] 28)).heap.size (w5.alloc (.cells #[.slice A l.length c, .slice none 0 0] 28)) w') := by
              have h := Check_any s Ap Ac Av Af A none cp cc cv cf c 0 F (castL l) [] (p : Int) (w5.alloc (.cells #[.slice A l.length c, .slice none 0 0] 28)) (hE.out.below hBb) (hs.out.below hBb) (by omega) (by omega) (hF.out.below hBb) hFl (hI.out.below hLb.out) (by rw [castL_len]; omega) (fun h0 => absurd h0 (by simp)) (by simp)
              rw [hc1.out] at h
              rw [castL_len] at h
              exact h
            clear hBb
            go_wp2_with fail
            refine kk.out.mono ?_
            rintro e w6 ⟨rfl, hb0⟩
            have hb := hLb.out.trans (hb0.mono hLb.out.size)
            have hP6 := Lib.hid (hPb.out.below hb0)
            clear hb0 hLb hPb hXb kk u0 u1 u2 u9 p0 p1 p9
            have hX6 := Lib.hid (hX5.out.below hb)
            have hB6 := Lib.hid (hB5.out.trans (hb.mono hB5.out.size))
            have hR6 := Lib.hid (hR5.out.below hb)
            clear hb hX5 hB5 hR5
            have p0 := hP6.out.cell (j := 0) rfl; have p1 := hP6.out.cell (j := 1) rfl; have p9 := hP6.out.lt
            have e1 := hR6.out.cell p hpp; have e9 := hR6.out.lt
            have m3 := hm3.out
            clear hm3
            generalize rd (VT s) (toN F) p = d at e1 m3
            clear p0 p1 p9
            go_wp2
            go_ret
            exact ⟨rfl, hB6.out⟩
          · have kp2 : Hid (Calls Tryz.prog 14 #[.agg #[.slice Ap s.ps.length cp, .slice Ac s.cap.length cc, .slice Av s.vot.length cv], .slice Af F.length cf, .int .i64 (p : Int)] w4 fun e w' => (∃ A c, e = .returned (.tuple #[.agg #[.slice none 0 0, .slice A (clL (rd (VT s) (toN F)) s.ps.length).length c], .int .i64 0]) ∧ InInt w' A (castL (clL (rd (VT s) (toN F)) s.ps.length))) ∧ Below w4.heap.size w4 w') := kp.mono fun e w' h => ⟨by have h1 := h.1; rw [if_pos hgood.out, if_neg (show ¬ 0 ≤ rd (VT s) (toN F) ((p : Int)).toNat from hrd)] at h1; exact h1, h.2⟩
            clear kp
            have hm3 : Hid (decide (0 ≤ rd (VT s) (toN F) p) = false) := decide_eq_false hrd
            have hch : Hid (∀ l, l = clL (rd (VT s) (toN F)) s.ps.length → chk s F (p : Int) [] (castL l) = (false, true)) := fun l hO => hO ▸ chk_prove_no hsd.out hls.out hV.out hpp hrd
            replace hrd := Lib.hid hrd
            go_wp2_with fail
            refine kp2.out.mono ?_
            rintro e w5 ⟨⟨A, c, rfl, hI⟩, hb⟩
            have hX5 := Lib.hid (hX4.out.below hb)
            have hB5 := Lib.hid (hB4.out.trans (hb.mono hB4.out.size))
            have hR5 := Lib.hid (hR4.out.below hb)
            clear hb hX4 hB4 hR4
            clear u0 u1 u2 u9
            clear kp2
            obtain ⟨l, hl⟩ : ∃ l, l = clL (rd (VT s) (toN F)) s.ps.length := ⟨_, rfl⟩
            rw [← hl] at hI ⊢
            have hl60 : l.length ≤ 60 := by rw [hl]; have := clL_len (o := rd (VT s) (toN F)) (n := s.ps.length); omega
            have hc1 := Lib.hid (hch.out l hl); clear hch; replace hl := Lib.hid hl
            replace hI := Lib.hid hI
            have hLb : Hid (Below w5.heap.size w5 (w5.alloc (.cells #[.slice none 0 0, .slice A l.length c] 28))) := (Below.refl _ _).alloc (Nat.le_refl _) _
            have hPb : Hid (Bk (w5.alloc (.cells #[.slice none 0 0, .slice A l.length c] 28)) w5.heap.size 28 [.slice none 0 0, .slice A l.length c]) := Bk.new _ _ _
            have hXb := Lib.hid (hX5.out.below hLb.out)
            have u0 := hXb.out.cell (j := 0) rfl
            have u1 := hXb.out.cell (j := 1) rfl
            have u2 := hXb.out.cell (j := 2) rfl
            have u9 := hXb.out.lt
            have p0 := hPb.out.cell (j := 0) rfl; have p1 := hPb.out.cell (j := 1) rfl; have p9 := hPb.out.lt
            have hBb := hB5.out.trans (hLb.out.mono hB5.out.size)
            have kk : Hid (Calls Tryz.prog 16 #[.agg #[.slice Ap s.ps.length cp, .slice Ac s.cap.length cc, .slice Av s.vot.length cv], .slice Af F.length cf, .int .i64 (p : Int), .agg #[.slice none 0 0, .slice A l.length c]] (w5.alloc (.cells #[.slice none 0 0, .slice A l.length c] 28)) fun e w' => e = .returned (.tuple #[.bool false, .bool true]) ∧ Below (w5.alloc (.cells #[.slice none 0 0, .slice A l.length c] 28)).heap.size (w5.alloc (.cells #[.slice none 0 0, .slice A l.length c] 28)) w') := by
              have h := Check_any s Ap Ac Av Af none A cp cc cv cf 0 c F [] (castL l) (p : Int) (w5.alloc (.cells #[.slice none 0 0, .slice A l.length c] 28)) (hE.out.below hBb) (hs.out.below hBb) (by omega) (by omega) (hF.out.below hBb) hFl (fun h0 => absurd h0 (by simp)) (by simp) (hI.out.below hLb.out) (by rw [castL_len]; omega)
              rw [hc1.out] at h
              rw [castL_len] at h
              exact h
            clear hBb
            go_wp2_with fail
            refine kk.out.mono ?_
            rintro e w6 ⟨rfl, hb0⟩
            have hb := hLb.out.trans (hb0.mono hLb.out.size)
            have hP6 := Lib.hid (hPb.out.below hb0)
            clear hb0 hLb hPb hXb kk u0 u1 u2 u9 p0 p1 p9
            have hX6 := Lib.hid (hX5.out.below hb)
            have hB6 := Lib.hid (hB5.out.trans (hb.mono hB5.out.size))
            have hR6 := Lib.hid (hR5.out.below hb)
            clear hb hX5 hB5 hR5
            have p0 := hP6.out.cell (j := 0) rfl; have p1 := hP6.out.cell (j := 1) rfl; have p9 := hP6.out.lt
            have e1 := hR6.out.cell p hpp; have e9 := hR6.out.lt
            have m3 := hm3.out
            clear hm3
            generalize rd (VT s) (toN F) p = d at e1 m3
            clear p0 p1 p9
            go_wp2
            go_ret
            exact ⟨rfl, hB6.out⟩
end Co
end Go.Proofs.YtmekiidknjjfcaaGreatDoor

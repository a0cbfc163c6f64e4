/- The law ControlSound. Printed by gen_lsound.py. -/
import Derived.Test.YtmekiidknjjfcaaGreatDoorCoE
namespace Go.Proofs.YtmekiidknjjfcaaGreatDoor
open Go.RowKit Go.Shelf
namespace Co
open Nt Ci


set_option maxRecDepth 100000 in
set_option maxHeartbeats 16000000 in
theorem lawCo_sound (s : SR) (Ap Ac Av Af : Option Addr) (cp cc cv cf : Nat) (F : List Int) (party : Int) (Ao Al : Option Addr) (co cl : Nat) (lo lc : List Int) (w : World) (hE : Env w) (hs : StIn w s Ap Ac Av) (hF : InInt w Af F) (hFl : F.length ≤ 140737488355328) (hlo : InInt w Ao lo) (hlc : InInt w Al lc) :
    Calls Tryz.prog 7 #[.agg #[.slice Ap s.ps.length cp, .slice Ac s.cap.length cc, .slice Av s.vot.length cv], .slice Af F.length cf, .int .i64 party, .agg #[.slice Ao lo.length co, .slice Al lc.length cl]] w fun e w' => e = .returned (.bool true) ∧ Below w.heap.size w w' := by
  have hX1 : Hid (Bk ((w.alloc (.cells #[.slice Ap s.ps.length cp, .slice Ac s.cap.length cc, .slice Av s.vot.length cv] 25)).alloc (.cells #[.slice Ao lo.length co, .slice Al lc.length cl] 28)) w.heap.size 25 (SC s Ap Ac Av cp cc cv)) := (Bk.new w _ _).alloc _
  have hB1 : Hid (Below w.heap.size w ((w.alloc (.cells #[.slice Ap s.ps.length cp, .slice Ac s.cap.length cc, .slice Av s.vot.length cv] 25)).alloc (.cells #[.slice Ao lo.length co, .slice Al lc.length cl] 28))) := ((Below.refl _ w).alloc (Nat.le_refl _) _).alloc (by simp) _
  have hP1 : Hid (Bk ((w.alloc (.cells #[.slice Ap s.ps.length cp, .slice Ac s.cap.length cc, .slice Av s.vot.length cv] 25)).alloc (.cells #[.slice Ao lo.length co, .slice Al lc.length cl] 28)) (w.heap.size + 1) 28 [.slice Ao lo.length co, .slice Al lc.length cl]) := by have h := Bk.new (w.alloc (.cells #[.slice Ap s.ps.length cp, .slice Ac s.cap.length cc, .slice Av s.vot.length cv] 25)) 28 [.slice Ao lo.length co, .slice Al lc.length cl]; rw [World.size_alloc] at h; exact h
  replace hE := Lib.hid hE
  replace hs := Lib.hid hs
  replace hF := Lib.hid hF
  replace hlo := Lib.hid hlo
  replace hlc := Lib.hid hlc
  go_enter Tryz.func7, Tryz.ntmps7
  go_wp2_with fail
  refine (headCo_any _ (hE.out.below hB1.out)).mono ?_
  rintro e w2 ⟨rfl, hb⟩
  have hX2 := Lib.hid (hX1.out.below hb)
  have hB2 := Lib.hid (hB1.out.trans (hb.mono hB1.out.size))
  have hP2 := Lib.hid (hP1.out.below hb)
  clear hb hX1 hB1 hP1
  have p0 := hP2.out.cell (j := 0) rfl; have p1 := hP2.out.cell (j := 1) rfl; have p9 := hP2.out.lt
  have u0 := hX2.out.cell (j := 0) rfl
  have u1 := hX2.out.cell (j := 1) rfl
  have u2 := hX2.out.cell (j := 2) rfl
  have u9 := hX2.out.lt
  have hLb : Hid (Below w2.heap.size w2 (w2.alloc (.cells #[.slice Af F.length cf, .slice Ao lo.length co, .slice Al lc.length cl] 26))) := (Below.refl _ _).alloc (Nat.le_refl _) _
  have hLk : Hid (Bk (w2.alloc (.cells #[.slice Af F.length cf, .slice Ao lo.length co, .slice Al lc.length cl] 26)) w2.heap.size 26 [.slice Af F.length cf, .slice Ao lo.length co, .slice Al lc.length cl]) := Bk.new _ _ _
  have hLi : Hid (InLens (w2.alloc (.cells #[.slice Af F.length cf, .slice Ao lo.length co, .slice Al lc.length cl] 26)) w2.heap.size [F.length, lo.length, lc.length]) := ⟨hLk.out.lt, fun j hj => by
    match j, hj with
    | 0, _ => exact ⟨_, _, hLk.out.cell (j := 0) rfl⟩
    | 1, _ => exact ⟨_, _, hLk.out.cell (j := 1) rfl⟩
    | 2, _ => exact ⟨_, _, hLk.out.cell (j := 2) rfl⟩
    | j + 3, hj => exact absurd hj (by simp)⟩
  have kf := Lib.hid (few_some s Ap Ac Av cp cc cv w2.heap.size [F.length, lo.length, lc.length] (w2.alloc (.cells #[.slice Af F.length cf, .slice Ao lo.length co, .slice Al lc.length cl] 26)) (hs.out.below (hB2.out.trans (hLb.out.mono hB2.out.size))) hLi.out (by simp))
  go_wp2_with fail
  refine kf.out.mono ?_
  rintro e w3 ⟨⟨r, rfl, hr⟩, hb0⟩
  have hb := hLb.out.trans (hb0.mono hLb.out.size)
  replace hr := Lib.hid hr
  clear hb0 hLb hLk hLi kf
  have hX3 := Lib.hid (hX2.out.below hb)
  have hB3 := Lib.hid (hB2.out.trans (hb.mono hB2.out.size))
  have hP3 := Lib.hid (hP2.out.below hb)
  clear hb hX2 hB2 hP2
  clear u0 u1 u2 u9
  clear p0 p1 p9
  cases r with
  | false =>
    go_wp2
    go_ret
    exact ⟨rfl, hB3.out⟩
  | true =>
    obtain ⟨⟨hp60, hc30, hv30⟩, hl70⟩ := hr.out rfl
    replace hl70 := Lib.hid hl70
    clear hr
    have z1 := hl70.out lo.length (by simp); have z2 := hl70.out lc.length (by simp)
    have u0 := hX3.out.cell (j := 0) rfl
    have u1 := hX3.out.cell (j := 1) rfl
    have u2 := hX3.out.cell (j := 2) rfl
    have u9 := hX3.out.lt
    have p0 := hP3.out.cell (j := 0) rfl; have p1 := hP3.out.cell (j := 1) rfl; have p9 := hP3.out.lt
    have kk := Check_any s Ap Ac Av Af Ao Al cp cc cv cf co cl F lo lc party w3 (hE.out.below hB3.out) (hs.out.below hB3.out) (by omega) (by omega) (hF.out.below hB3.out) hFl (hlo.out.below hB3.out) (by omega) (hlc.out.below hB3.out) (by omega)
    have hno := Lib.hid (chk_no2 (s := s) (F := F) (party := party) (lo := lo) (lc := lc))
    have hso := Lib.hid (fun is h => chk_sound (s := s) (F := F) (party := party) (lo := lo) (lc := lc) (is := is) (fun h => VIn_of (sound_vot h)) h)
    obtain ⟨⟨r1, r2⟩, hch⟩ : ∃ x, x = chk s F party lo lc := ⟨_, rfl⟩
    rw [← hch] at kk hno hso
    replace kk := Lib.hid kk
    go_wp2_with fail
    refine kk.out.mono ?_
    rintro e w4 ⟨rfl, hb⟩
    have hX4 := Lib.hid (hX3.out.below hb)
    have hB4 := Lib.hid (hB3.out.trans (hb.mono hB3.out.size))
    have hP4 := Lib.hid (hP3.out.below hb)
    clear hb hX3 hB3 hP3
    clear u0 u1 u2 u9
    clear p0 p1 p9 kk
    cases r2 with
    | false =>
      obtain rfl : r1 = false := hno.out rfl
      clear hso hno hch
      go_wp2
      go_ret
      exact ⟨rfl, hB4.out⟩
    | true =>
      obtain ⟨hgd0, hpa, his⟩ := hso.out r1 rfl
      clear hno hso hch
      obtain ⟨p, rfl⟩ : ∃ p : Nat, party = (p : Int) := ⟨party.toNat, by omega⟩
      rw [Int.toNat_natCast] at his
      have hpn : p < s.ps.length := by omega
      have m1 : decide (0 ≤ (p : Int)) = true := decide_eq_true (by omega)
      have m2 : decide ((p : Int) < (s.ps.length : Int)) = true := decide_eq_true (by omega)
      have m2n : decide (p < s.ps.length) = true := decide_eq_true hpn
      have q0 : (0 : Int) ≤ (p : Int) := by omega
      have q1 : (p : Int) < (s.ps.length : Int) := by omega
      replace his := Lib.hid his
      have u0 := hX4.out.cell (j := 0) rfl
      have u1 := hX4.out.cell (j := 1) rfl
      have u2 := hX4.out.cell (j := 2) rfl
      have u9 := hX4.out.lt
      have kc := Controlled_any s Ap Ac Av Af cp cc cv cf F w4 (hE.out.below hB4.out) (hs.out.below hB4.out) (by omega) (by omega) (hF.out.below hB4.out) hFl
      by_cases hgd : soundB s = true ∧ listB s.ps.length F = true
      rotate_left
      · have kc2 : Hid (Calls Tryz.prog 12 #[.agg #[.slice Ap s.ps.length cp, .slice Ac s.cap.length cc, .slice Av s.vot.length cv], .slice Af F.length cf] w4 fun e w' => e = .returned (.tuple #[.slice none 0 0, .int .i64 1]) ∧ Below w4.heap.size w4 w') := kc.mono fun e w' h => ⟨by have h1 := h.1; rw [if_neg hgd] at h1; exact h1, h.2⟩
        clear kc
        replace hgd := Lib.hid hgd
        go_wp2_with fail
        refine kc2.out.mono ?_
        rintro e w5 ⟨rfl, hb⟩
        have hX5 := Lib.hid (hX4.out.below hb)
        have hB5 := Lib.hid (hB4.out.trans (hb.mono hB4.out.size))
        have hP5 := Lib.hid (hP4.out.below hb)
        clear hb hX4 hB4 hP4
        clear u0 u1 u2 u9
        clear kc2
        exact absurd hgd0 hgd.out
      · have kc2 : Hid (Calls Tryz.prog 12 #[.agg #[.slice Ap s.ps.length cp, .slice Ac s.cap.length cc, .slice Av s.vot.length cv], .slice Af F.length cf] w4 fun e w' => (∃ b, e = .returned (.tuple #[.slice (some ⟨b, 0, none⟩) s.ps.length s.ps.length, .int .i64 0]) ∧ RoI w' b s.ps.length (rd (VT s) (toN F))) ∧ Below w4.heap.size w4 w') := kc.mono fun e w' h => ⟨by have h1 := h.1; rw [if_pos hgd] at h1; obtain ⟨b, e1, _, e2⟩ := h1; exact ⟨b, e1, e2⟩, h.2⟩
        clear kc
        have hsd := Lib.hid hgd.1; have hls := Lib.hid hgd.2
        have hV : Hid (VIn s.ps.length (VT s)) := VIn_of (sound_vot hgd.1)
        replace hgd := Lib.hid hgd
        go_wp2_with fail
        refine kc2.out.mono ?_
        rintro e w5 ⟨⟨rb, rfl, hR⟩, hb⟩
        have hX5 := Lib.hid (hX4.out.below hb)
        have hB5 := Lib.hid (hB4.out.trans (hb.mono hB4.out.size))
        have hP5 := Lib.hid (hP4.out.below hb)
        clear hb hX4 hB4 hP4
        have hR5 := Lib.hid hR
        clear hR
        clear u0 u1 u2 u9
        clear kc2
        have e1 := hR5.out.cell p hpn; have e9 := hR5.out.lt
        have hi2 := his.out
        generalize rd (VT s) (toN F) p = d at e1 hi2
        clear his
        have m3 : (r1 == decide (0 ≤ d)) = true := by rw [hi2]; exact beq_self_eq_true _
        by_cases hd : 0 ≤ d
        · have m4 : decide (0 ≤ d) = true := decide_eq_true hd
          obtain rfl : r1 = true := by rw [hi2, m4]
          replace hd := Lib.hid hd; clear hi2 m3
          go_wp2
          go_ret
          exact ⟨rfl, hB5.out⟩
        · have m4 : decide (0 ≤ d) = false := decide_eq_false hd
          obtain rfl : r1 = false := by rw [hi2, m4]
          replace hd := Lib.hid hd; clear hi2 m3
          go_wp2
          go_ret
          exact ⟨rfl, hB5.out⟩
end Co
end Go.Proofs.YtmekiidknjjfcaaGreatDoor

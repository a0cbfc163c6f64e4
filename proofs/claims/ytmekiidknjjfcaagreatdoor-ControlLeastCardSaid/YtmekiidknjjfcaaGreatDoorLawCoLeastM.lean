/- The law ControlLeast. Printed by gen_lleast.py. -/
import Derived.Test.YtmekiidknjjfcaaGreatDoorCoE
namespace Go.Proofs.YtmekiidknjjfcaaGreatDoor
open Go.RowKit Go.Shelf
namespace Co
open Nt Ci

/-- The set that the law lays out: 0 for those in it, -1 for others; the first k of them. -/
def inO (B : Nat → Bool) (o : Nat → Int) (k q : Nat) : Int := if q < k ∧ B q = true ∧ o q ≠ 0 then -1 else 0
section
variable {B : Nat → Bool} {o : Nat → Int} {k q : Nat}
theorem inO_zero (q : Nat) : inO B o 0 q = 0 := if_neg fun h => absurd h.1 (Nat.not_lt_zero _)
theorem inO_set (h : B k = true ∧ o k ≠ 0) (q : Nat) : setI (inO B o k) k (-1) q = inO B o (k + 1) q := by
  unfold setI inO
  by_cases e : q = k
  · rw [if_pos e, e, if_pos ⟨Nat.lt_succ_self _, h.1, h.2⟩]
  · rw [if_neg e]
    by_cases c : q < k ∧ B q = true ∧ o q ≠ 0
    · rw [if_pos c, if_pos ⟨by omega, c.2⟩]
    · rw [if_neg c, if_neg fun d => c ⟨by omega, d.2⟩]
theorem inO_keep (h : ¬ (B k = true ∧ o k ≠ 0)) (q : Nat) : inO B o k q = inO B o (k + 1) q := by
  unfold inO
  by_cases c : q < k ∧ B q = true ∧ o q ≠ 0
  · rw [if_pos c, if_pos ⟨by omega, c.2⟩]
  · rw [if_neg c, if_neg fun d => by
      by_cases e : q = k
      · subst e; exact h d.2
      · exact c ⟨by omega, d.2⟩]
theorem inO_val : inO B o k q = 0 ∨ inO B o k q = -1 := by
  unfold inO
  split
  · exact .inr rfl
  · exact .inl rfl
end

set_option maxRecDepth 100000 in
set_option maxHeartbeats 16000000 in
theorem lawCo_least (s : SR) (Ap Ac Av Af : Option Addr) (cp cc cv cf : Nat) (F : List Int) (x : Int) (_hx0 : 0 ≤ x) (_hx1 : x ≤ 18446744073709551615) (w : World) (hE : Env w) (hs : StIn w s Ap Ac Av) (hF : InInt w Af F) (hFl : F.length ≤ 140737488355328) :
    Calls Tryz.prog 5 #[.agg #[.slice Ap s.ps.length cp, .slice Ac s.cap.length cc, .slice Av s.vot.length cv], .slice Af F.length cf, .int .u64 x] w fun e w' => e = .returned (.bool true) ∧ Below w.heap.size w w' := by
  have hX1 : Hid (Bk (w.alloc (.cells #[.slice Ap s.ps.length cp, .slice Ac s.cap.length cc, .slice Av s.vot.length cv] 25)) w.heap.size 25 (SC s Ap Ac Av cp cc cv)) := Bk.new w _ _
  have hB1 : Hid (Below w.heap.size w (w.alloc (.cells #[.slice Ap s.ps.length cp, .slice Ac s.cap.length cc, .slice Av s.vot.length cv] 25))) := (Below.refl _ w).alloc (Nat.le_refl _) _
  replace hE := Lib.hid hE
  replace hs := Lib.hid hs
  replace hF := Lib.hid hF
  go_enter Tryz.func5, Tryz.ntmps5
  go_wp2_with fail
  refine (headCo_any _ (hE.out.below hB1.out)).mono ?_
  rintro e w2 ⟨rfl, hb⟩
  have hX2 := Lib.hid (hX1.out.below hb)
  have hB2 := Lib.hid (hB1.out.trans (hb.mono hB1.out.size))
  clear hb hX1 hB1
  have u0 := hX2.out.cell (j := 0) rfl
  have u1 := hX2.out.cell (j := 1) rfl
  have u2 := hX2.out.cell (j := 2) rfl
  have u9 := hX2.out.lt
  have hLb : Hid (Below w2.heap.size w2 (w2.alloc (.cells #[.slice Af F.length cf] 26))) := (Below.refl _ _).alloc (Nat.le_refl _) _
  have hLk : Hid (Bk (w2.alloc (.cells #[.slice Af F.length cf] 26)) w2.heap.size 26 [.slice Af F.length cf]) := Bk.new _ _ _
  have hLi : Hid (InLens (w2.alloc (.cells #[.slice Af F.length cf] 26)) w2.heap.size [F.length]) := ⟨hLk.out.lt, fun j hj => by
    match j, hj with
    | 0, _ => exact ⟨_, _, hLk.out.cell (j := 0) rfl⟩
    | j + 1, hj => exact absurd hj (by simp)⟩
  have kf := Lib.hid (few_some s Ap Ac Av cp cc cv w2.heap.size [F.length] (w2.alloc (.cells #[.slice Af F.length cf] 26)) (hs.out.below (hB2.out.trans (hLb.out.mono hB2.out.size))) hLi.out (by simp))
  go_wp2_with fail
  refine kf.out.mono ?_
  rintro e w3 ⟨⟨r, rfl, hr⟩, hb0⟩
  have hb := hLb.out.trans (hb0.mono hLb.out.size)
  replace hr := Lib.hid hr
  clear hb0 hLb hLk hLi kf
  have hX3 := Lib.hid (hX2.out.below hb)
  have hB3 := Lib.hid (hB2.out.trans (hb.mono hB2.out.size))
  clear hb hX2 hB2
  clear u0 u1 u2 u9
  cases r with
  | false =>
    go_wp2
    go_ret
    exact ⟨rfl, hB3.out⟩
  | true =>
    obtain ⟨⟨hp60, hc30, hv30⟩, hl70⟩ := hr.out rfl
    replace hl70 := Lib.hid hl70
    clear hr
    have u0 := hX3.out.cell (j := 0) rfl
    have u1 := hX3.out.cell (j := 1) rfl
    have u2 := hX3.out.cell (j := 2) rfl
    have u9 := hX3.out.lt
    have kc := Controlled_any s Ap Ac Av Af cp cc cv cf F w3 (hE.out.below hB3.out) (hs.out.below hB3.out) (by omega) (by omega) (hF.out.below hB3.out) hFl
    by_cases hgd : soundB s = true ∧ listB s.ps.length F = true
    rotate_left
    · have kc2 : Hid (Calls Tryz.prog 12 #[.agg #[.slice Ap s.ps.length cp, .slice Ac s.cap.length cc, .slice Av s.vot.length cv], .slice Af F.length cf] w3 fun e w' => e = .returned (.tuple #[.slice none 0 0, .int .i64 1]) ∧ Below w3.heap.size w3 w') := kc.mono fun e w' h => ⟨by have h1 := h.1; rw [if_neg hgd] at h1; exact h1, h.2⟩
      clear kc
      replace hgd := Lib.hid hgd
      go_wp2_with fail
      refine kc2.out.mono ?_
      rintro e w4 ⟨rfl, hb⟩
      have hX4 := Lib.hid (hX3.out.below hb)
      have hB4 := Lib.hid (hB3.out.trans (hb.mono hB3.out.size))
      clear hb hX3 hB3
      clear u0 u1 u2 u9
      clear kc2
      go_wp2
      go_ret
      exact ⟨rfl, hB4.out⟩
    · have kc2 : Hid (Calls Tryz.prog 12 #[.agg #[.slice Ap s.ps.length cp, .slice Ac s.cap.length cc, .slice Av s.vot.length cv], .slice Af F.length cf] w3 fun e w' => (∃ b, e = .returned (.tuple #[.slice (some ⟨b, 0, none⟩) s.ps.length s.ps.length, .int .i64 0]) ∧ RoI w' b s.ps.length (rd (VT s) (toN F))) ∧ Below w3.heap.size w3 w') := kc.mono fun e w' h => ⟨by have h1 := h.1; rw [if_pos hgd] at h1; obtain ⟨b, e1, _, e2⟩ := h1; exact ⟨b, e1, e2⟩, h.2⟩
      clear kc
      have hsd := Lib.hid hgd.1; have hls := Lib.hid hgd.2
      have hV : Hid (VIn s.ps.length (VT s)) := VIn_of (sound_vot hgd.1)
      replace hgd := Lib.hid hgd
      go_wp2_with fail
      refine kc2.out.mono ?_
      rintro e w4 ⟨⟨rb, rfl, hR⟩, hb⟩
      have hX4 := Lib.hid (hX3.out.below hb)
      have hB4 := Lib.hid (hB3.out.trans (hb.mono hB3.out.size))
      clear hb hX3 hB3
      have hR4 := Lib.hid hR
      clear hR
      clear u0 u1 u2 u9
      clear kc2
      obtain ⟨o, ho⟩ : ∃ o, o = rd (VT s) (toN F) := ⟨_, rfl⟩
      rw [← ho] at hR4
      replace ho := Lib.hid ho
      have hmk := run_make_row' (P := Tryz.prog) 26 3 (.int .i64 0) 8 Tryz.underlying26 infoI rfl .i64 .i64 s.ps.length (by omega) (by omega)
      have hI0 : Hid (RoI (w4.alloc (.cells (madeCells #[(.int .i64 0 : Value)] s.ps.length) 3)) w4.heap.size s.ps.length fun _ => 0) := RoI.made w4 s.ps.length 3
      have hbm : Hid (Below w4.heap.size w4 (w4.alloc (.cells (madeCells #[(.int .i64 0 : Value)] s.ps.length) 3))) := (Below.refl _ _).alloc (Nat.le_refl _) _
      go_wp2_with fail
      clear hmk
      obtain ⟨ib, hib⟩ : ∃ b, b = w4.heap.size := ⟨_, rfl⟩
      obtain ⟨W0, hW0⟩ : ∃ W, W = (w4.alloc (.cells (madeCells #[(.int .i64 0 : Value)] s.ps.length) 3)) := ⟨_, rfl⟩
      rw [← hW0, ← hib] at hI0
      rw [← hW0] at hbm
      rw [← hW0, ← hib]
      have hBW0 := Lib.hid (hB4.out.trans (hbm.out.mono hB4.out.size)); have hX0 := Lib.hid (hX4.out.below hbm.out); have hR0 := Lib.hid (hR4.out.below hbm.out)
      have hrb : Hid (rb ≠ ib) := fun e => by have := hR4.out.lt; omega
      have hxb : Hid (w.heap.size ≠ ib) := fun e => by have := hX4.out.lt; omega
      have hwi : Hid (w.heap.size ≤ ib) := by rw [hib]; exact hB4.out.size
      replace hib := Lib.hid hib; replace hW0 := Lib.hid hW0; clear hbm
      obtain ⟨B, hBd⟩ : ∃ B : Nat → Bool, B = fun k => decide (bits BinOp.and IntKind.u64 (x / 2 ^ k) 1 = 0) := ⟨_, rfl⟩
      have hBk : Hid (∀ k, B k = decide (bits BinOp.and IntKind.u64 (x / 2 ^ k) 1 = 0)) := fun k => by rw [hBd]
      clear hBd
      have hI1 : Hid (RoI W0 ib s.ps.length (inO B o 0)) := hI0.out.congr fun q _ => (inO_zero q).symm
      go_loopw [11] (fun ix wr => ∃ (k : Nat), k ≤ s.ps.length ∧ ix = .int .i64 (k : Int) ∧ Hid (Kp [ib] W0 wr) ∧ Hid (RoI wr ib s.ps.length (inO B o k))) (fun ix _ => s.ps.length - (intOf ix).toNat)
      case atStart => exact ⟨0, Nat.zero_le _, rfl, Kp.refl _ _, hI1⟩
      case round =>
        obtain ⟨k, hk, rfl, hK, hI⟩ := hrel
        clear hI0 hI1
        obtain ⟨wz, rfl⟩ : ∃ z, z = wr := ⟨_, rfl⟩
        have hRz : Hid (RoI wz rb s.ps.length o) := hR0.out.of_block hK.out.size (hK.out.block rb hR0.out.lt (by simp; exact hrb.out))
        have hBz : Hid (Below w.heap.size w wz) := hK.out.to_below hBW0.out fun x hx => by simp at hx; rw [hx]; exact hwi.out
        have hXz := Lib.hid (hX0.out.kp hK.out (by simp; exact hxb.out))
        have j0 : (0 : Int) ≤ (k : Int) := by omega
        by_cases hkn : k < s.ps.length
        · have j1 : (k : Int) < (s.ps.length : Int) := by omega
          have r1 := hRz.out.cell k hkn; have r9 := hRz.out.lt
          have i1 := hI.out.cell k hkn; have i2 := hI.out.fr k; have i9 := hI.out.lt
          have hBB := hBk.out k
          by_cases hb : bits BinOp.and IntKind.u64 (x / 2 ^ k) 1 = 0
          · rw [decide_eq_true hb] at hBB
            by_cases hd : o k = 0
            · have hI9 : Hid (RoI wz ib s.ps.length (inO B o (k + 1))) := hI.out.congr fun q _ => inO_keep (fun h => h.2 hd) q
              have m2 : (o k != 0) = false := by simp [hd]
              generalize inO B o k k = iv at i1
              generalize o k = d at r1 m2 hd
              replace hd := Lib.hid hd; replace hBB := Lib.hid hBB
              go_wp2
              go_roundw
              case rel => exact ⟨k + 1, by omega, by go_num, hK, hI9⟩
              case measure => simp [intOf]; omega
            · have hI9 : Hid (RoI (wz.setCell ⟨ib, k, none⟩ (.int .i64 (-1))) ib s.ps.length (inO B o (k + 1))) := (hI.out.set hkn (-1)).congr fun q _ => inO_set ⟨hBB, hd⟩ q
              have hK9 : Hid (Kp [ib] W0 (wz.setCell ⟨ib, k, none⟩ (.int .i64 (-1)))) := hK.out.set (a := ⟨ib, k, none⟩) _ (.inl (by simp))
              have m2 : (o k != 0) = true := by simp [hd]
              generalize inO B o k k = iv at i1
              generalize o k = d at r1 m2 hd
              replace hd := Lib.hid hd; replace hBB := Lib.hid hBB
              go_wp2
              go_roundw
              case rel => exact ⟨k + 1, by omega, by go_num, hK9, hI9⟩
              case measure => simp [intOf]; omega
          · rw [decide_eq_false hb] at hBB
            have hI9 : Hid (RoI wz ib s.ps.length (inO B o (k + 1))) := hI.out.congr fun q _ => inO_keep (fun h => by rw [hBB] at h; cases h.1) q
            generalize inO B o k k = iv at i1
            generalize o k = d at r1
            replace hBB := Lib.hid hBB
            go_wp2
            go_roundw
            case rel => exact ⟨k + 1, by omega, by go_num, hK, hI9⟩
            case measure => simp [intOf]; omega
        · obtain rfl : k = s.ps.length := by omega
          obtain ⟨u, hu⟩ : ∃ u, u = inO B o s.ps.length := ⟨_, rfl⟩
          rw [← hu] at hI
          have huv : Hid (∀ q, u q = 0 ∨ u q = -1) := fun q => by rw [hu]; exact inO_val
          have hu0 : Hid (∀ q, o q = 0 → u q = 0) := fun q h => by rw [hu]; exact if_neg fun c => c.2.2 h
          replace hu := Lib.hid hu
          have kmj := Lib.hid (fun W j (h1 : Below w.heap.size w W) (h2 : Below wz.heap.size wz W) => lmaj_any s Ap Ac Av cp cc cv ib j u 0 W (hE.out.below h1) (hs.out.below h1) (by omega) hsd.out (hI.out.below h2))
          go_wp2_with fail
          go_loopw [12] (fun ix wr => ∃ (j : Nat), j ≤ s.ps.length ∧ ix = .int .i64 (j : Int) ∧ Hid (Below wz.heap.size wz wr) ∧ Hid (∀ q, q < j → u q < 0 → maj (VT s) (upS u 0) q = false)) (fun ix _ => s.ps.length - (intOf ix).toNat)
          case atStart => exact ⟨0, Nat.zero_le _, rfl, Below.refl _ _, fun q h => absurd h (Nat.not_lt_zero _)⟩
          case round =>
            obtain ⟨j, hj, rfl, hZ, hN⟩ := hrel
            obtain ⟨wy, rfl⟩ : ∃ z, z = wr := ⟨_, rfl⟩
            have hBy := Lib.hid (hBz.out.trans (hZ.out.mono hBz.out.size)); have hXy := Lib.hid (hXz.out.below hZ.out); have hIy := Lib.hid (hI.out.below hZ.out); have hRy := Lib.hid (hRz.out.below hZ.out)
            have j0 : (0 : Int) ≤ (j : Int) := by omega
            by_cases hjn : j < s.ps.length
            · have j1 : (j : Int) < (s.ps.length : Int) := by omega
              have i1 := hIy.out.cell j hjn; have i9 := hIy.out.lt
              have u0 := hXy.out.cell (j := 0) rfl; have u1 := hXy.out.cell (j := 1) rfl; have u2 := hXy.out.cell (j := 2) rfl; have u9 := hXy.out.lt
              have km := kmj.out wy j hBy.out hZ.out
              have hnx : Hid ((u j < 0 → maj (VT s) (upS u 0) j = false) → ∀ q, q < j + 1 → u q < 0 → maj (VT s) (upS u 0) q = false) := fun h q hq hn => by
                by_cases c : q = j
                · subst c; exact h hn
                · exact hN.out q (by omega) hn
              by_cases hd : u j < 0
              · have m1 : decide (u j < 0) = true := decide_eq_true hd
                generalize u j = d at i1 m1 hnx hd
                cases hm : maj (VT s) (upS u 0) j with
                | true =>
                  rw [hm] at km
                  replace km := Lib.hid km; replace hd := Lib.hid hd; replace hm := Lib.hid hm; clear hnx
                  go_wp2_with fail
                  refine km.out.mono ?_
                  rintro e w9 ⟨rfl, hb⟩
                  have hB9 := Lib.hid (hBy.out.trans (hb.mono hBy.out.size))
                  clear hb
                  go_wp2
                  go_ret
                  exact ⟨rfl, hB9.out⟩
                | false =>
                  rw [hm] at km hnx
                  have hN9 := Lib.hid (hnx.out fun _ => rfl)
                  replace km := Lib.hid km; replace hd := Lib.hid hd; replace hm := Lib.hid hm; clear hnx
                  go_wp2_with fail
                  refine km.out.mono ?_
                  rintro e w9 ⟨rfl, hb⟩
                  have hZ9 := Lib.hid (hZ.out.trans (hb.mono hZ.out.size))
                  clear hb u0 u1 u2 u9 i1 i9
                  go_wp2
                  go_roundw
                  case rel => exact ⟨j + 1, by omega, by go_num, hZ9, hN9⟩
                  case measure => simp [intOf]; omega
              · have m1 : decide (u j < 0) = false := decide_eq_false hd
                have hN9 := Lib.hid (hnx.out fun h => absurd h hd)
                clear hnx km
                generalize u j = d at i1 m1 hd
                replace hd := Lib.hid hd
                go_wp2
                go_roundw
                case rel => exact ⟨j + 1, by omega, by go_num, hZ, hN9⟩
                case measure => simp [intOf]; omega
            · obtain rfl : j = s.ps.length := by omega
              have hall : Hid (∀ p, p < s.ps.length → 0 ≤ o p → ¬ u p < 0) := fun p hp h0 hn => by
                rw [ho.out] at h0
                have h0 : inR (VT s) (toN F) s.ps.length p = true := by rw [← ctl_in hV.out hp]; exact decide_eq_true h0
                have h1 := inR_least (S := upS u 0) hV.out (fun f hf => by unfold upS; rw [hu0.out f (by rw [ho.out]; exact rd_zero.2 hf)]; decide) (fun q hq hS => hN.out q hq (by rcases huv.out q with h | h; (· unfold upS at hS; rw [h] at hS; cases hS); (· omega))) s.ps.length p hp h0
                unfold upS at h1
                simp only [Bool.and_eq_true, decide_eq_true_eq] at h1
                omega
              clear hN kmj hI hZ hXy
              go_wp2_with fail
              go_loopw [13] (fun ix wr => ∃ (i : Nat), i ≤ s.ps.length ∧ ix = .int .i64 (i : Int) ∧ wr = wy) (fun ix _ => s.ps.length - (intOf ix).toNat)
              case atStart => exact ⟨0, Nat.zero_le _, rfl, rfl⟩
              case round =>
                obtain ⟨i, hi, rfl, rfl⟩ := hrel
                have j0 : (0 : Int) ≤ (i : Int) := by omega
                by_cases hin : i < s.ps.length
                · have j1 : (i : Int) < (s.ps.length : Int) := by omega
                  have r1 := hRy.out.cell i hin; have r9 := hRy.out.lt; have i1 := hIy.out.cell i hin; have i9 := hIy.out.lt
                  have ha := hall.out i hin
                  generalize o i = d at r1 ha; generalize u i = e at i1 ha
                  by_cases hd : 0 ≤ d
                  · have m1 : decide (0 ≤ d) = true := decide_eq_true hd; have m2 : decide (e < 0) = false := decide_eq_false (by have := ha hd; omega)
                    clear ha; replace hd := Lib.hid hd
                    go_wp2
                    go_roundw
                    case rel => exact ⟨i + 1, by omega, by go_num, by first | rfl | trivial⟩
                    case measure => simp [intOf]; omega
                  · have m1 : decide (0 ≤ d) = false := decide_eq_false hd
                    clear ha; replace hd := Lib.hid hd
                    go_wp2
                    go_roundw
                    case rel => exact ⟨i + 1, by omega, by go_num, by first | rfl | trivial⟩
                    case measure => simp [intOf]; omega
                · obtain rfl : i = s.ps.length := by omega
                  go_wp2
                  go_ret
                  exact ⟨rfl, hBy.out⟩
end Co
end Go.Proofs.YtmekiidknjjfcaaGreatDoor

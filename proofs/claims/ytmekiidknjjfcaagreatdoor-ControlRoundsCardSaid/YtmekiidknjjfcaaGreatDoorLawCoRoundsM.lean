/- The law ControlRounds. Printed by gen_lrounds.py. -/
import Derived.Test.YtmekiidknjjfcaaGreatDoorCoE
import Derived.Deep.RegionHeld3
namespace Go.Proofs.YtmekiidknjjfcaaGreatDoor
open Go.RowKit Go.Shelf
namespace Co
open Nt Ci

/-- How many of the first k have the round 0. -/
def zs (o : Nat → Int) (k : Nat) : Nat := ((List.range k).filter fun x => decide (o x = 0)).length
section
variable {V : List (Nat × Nat × Nat)} {L : List Nat} {o : Nat → Int} {n p q k : Nat}
theorem zs_yes (h : o k = 0) : zs o (k + 1) = zs o k + 1 := by
  unfold zs
  rw [List.range_succ, List.filter_append, List.filter_cons, if_pos (decide_eq_true h)]
  simp
theorem zs_no (h : o k ≠ 0) : zs o (k + 1) = zs o k := by
  unfold zs
  rw [List.range_succ, List.filter_append, List.filter_cons, if_neg (by simpa using h)]
  simp
theorem zs_le : zs o k ≤ k := by
  have := List.length_filter_le (fun x => decide (o x = 0)) (List.range k)
  rwa [List.length_range] at this
theorem zs_all {F : List Int} (hl : listB n F = true) (h : ∀ x, o x = 0 ↔ x ∈ toN F) : zs o n = F.length := by
  have hp : ((List.range n).filter fun x => decide (o x = 0)).Perm (toN F) := (List.perm_ext_iff_of_nodup (List.nodup_range.filter _) ((toN_sorted hl).imp fun h => Nat.ne_of_lt h)).2 fun x => by
    rw [List.mem_filter, List.mem_range, decide_eq_true_iff, h]
    exact ⟨fun h => h.2, fun h => ⟨toN_in hl h, h⟩⟩
  have := hp.length_eq
  unfold zs
  rw [this, toN, List.length_map]
theorem upS_in (k : Nat) : upS (rd V L) (k : Int) = inR V L k := by
  funext q
  unfold upS
  rw [Bool.eq_iff_iff, Bool.and_eq_true, decide_eq_true_iff, decide_eq_true_iff, rd_in]
theorem upS_neg {u : Int} (h : u < 0) : upS o u = fun _ => false := by
  funext q
  unfold upS
  by_cases c : 0 ≤ o q
  · rw [decide_eq_false (p := o q ≤ u) (by omega), Bool.and_false]
  · rw [decide_eq_false c]; rfl
theorem sum_nil : ∀ V : List (Nat × Nat × Nat), (V.map fun _ => 0).sum = 0
  | [] => rfl
  | _ :: V => by rw [List.map_cons, List.sum_cons, sum_nil V]
theorem maj_none : maj V (fun _ => false) p = false := by
  unfold maj vs
  have h : (V.map fun x => if x.1 = p ∧ (fun _ : Nat => false) x.2.1 = true then x.2.2 else 0) = V.map fun _ => 0 := List.map_congr_left fun x _ => if_neg fun h => by cases h.2
  rw [h]
  rw [sum_nil]
  rfl
theorem rounds_yes (h : 0 < rd V L p) : maj V (upS (rd V L) (rd V L p - 1)) p = true := by
  obtain ⟨k, hk⟩ : ∃ k : Nat, rd V L p = ((k + 1 : Nat) : Int) := ⟨(rd V L p).toNat - 1, by omega⟩
  rw [show rd V L p - 1 = (k : Int) by omega, upS_in]
  exact rd_step hk
theorem rounds_no (h : 0 < rd V L p) : maj V (upS (rd V L) (rd V L p - 2)) p = false := by
  by_cases c : rd V L p = 1
  · rw [upS_neg (by omega)]
    exact maj_none
  · obtain ⟨k, hk⟩ : ∃ k : Nat, rd V L p = ((k + 2 : Nat) : Int) := ⟨(rd V L p).toNat - 2, by omega⟩
    rw [show rd V L p - 2 = (k : Int) by omega, upS_in]
    exact rd_not (.inl (by omega))
theorem rounds_never (h : rd V L p < 0) (n : Nat) : maj V (upS (rd V L) (n : Int)) p = false := by
  rw [upS_in]
  exact rd_not (.inr h)
end

set_option maxRecDepth 100000 in
set_option maxHeartbeats 16000000 in
theorem lawCo_rounds (s : SR) (Ap Ac Av Af : Option Addr) (cp cc cv cf : Nat) (F : List Int) (w : World) (hE : Env w) (hs : StIn w s Ap Ac Av) (hF : InInt w Af F) (hFl : F.length ≤ 140737488355328) :
    Calls Tryz.prog 4 #[.agg #[.slice Ap s.ps.length cp, .slice Ac s.cap.length cc, .slice Av s.vot.length cv], .slice Af F.length cf] w fun e w' => e = .returned (.bool true) ∧ Below w.heap.size w w' := by
  have hX1 : Hid (Bk (w.alloc (.cells #[.slice Ap s.ps.length cp, .slice Ac s.cap.length cc, .slice Av s.vot.length cv] 25)) w.heap.size 25 (SC s Ap Ac Av cp cc cv)) := Bk.new w _ _
  have hB1 : Hid (Below w.heap.size w (w.alloc (.cells #[.slice Ap s.ps.length cp, .slice Ac s.cap.length cc, .slice Av s.vot.length cv] 25))) := (Below.refl _ w).alloc (Nat.le_refl _) _
  replace hE := Lib.hid hE
  replace hs := Lib.hid hs
  replace hF := Lib.hid hF
  go_enter Tryz.func4, Tryz.ntmps4
  go_wp2_with fail
  refine (headCo_any _ (hE.out.below hB1.out)).mono ?_
  rintro e w2 ⟨rfl, hb⟩
  have hX2 := Lib.hid (hX1.out.below hb)
  have hB2 := Lib.hid (hB1.out.trans (hb.mono hB1.out.size))
  clear hb hX1 hB1
  have u0 := hX2.out.cell (j := 0) rfl
  have u1 := hX2.out.cell (j := 1) rfl
  have u2 := hX2.out.cell (j := 2) rfl
  have u9 := hX2.out.lt
  have hLb : Hid (Below w2.heap.size w2 (w2.alloc (.cells #[.slice Af F.length cf] 26))) := (Below.refl _ _).alloc (Nat.le_refl _) _
  have hLk : Hid (Bk (w2.alloc (.cells #[.slice Af F.length cf] 26)) w2.heap.size 26 [.slice Af F.length cf]) := Bk.new _ _ _
  have hLi : Hid (InLens (w2.alloc (.cells #[.slice Af F.length cf] 26)) w2.heap.size [F.length]) := ⟨hLk.out.lt, fun j hj => by
    match j, hj with
    | 0, _ => exact ⟨_, _, hLk.out.cell (j := 0) rfl⟩
    | j + 1, hj => exact absurd hj (by simp)⟩
  have kf := Lib.hid (few_some s Ap Ac Av cp cc cv w2.heap.size [F.length] (w2.alloc (.cells #[.slice Af F.length cf] 26)) (hs.out.below (hB2.out.trans (hLb.out.mono hB2.out.size))) hLi.out (by simp))
  go_wp2_with fail
  refine kf.out.mono ?_
  rintro e w3 ⟨⟨r, rfl, hr⟩, hb0⟩
  have hb := hLb.out.trans (hb0.mono hLb.out.size)
  replace hr := Lib.hid hr
  clear hb0 hLb hLk hLi kf
  have hX3 := Lib.hid (hX2.out.below hb)
  have hB3 := Lib.hid (hB2.out.trans (hb.mono hB2.out.size))
  clear hb hX2 hB2
  clear u0 u1 u2 u9
  cases r with
  | false =>
    go_wp2
    go_ret
    exact ⟨rfl, hB3.out⟩
  | true =>
    obtain ⟨⟨hp60, hc30, hv30⟩, hl70⟩ := hr.out rfl
    replace hl70 := Lib.hid hl70
    clear hr
    have u0 := hX3.out.cell (j := 0) rfl
    have u1 := hX3.out.cell (j := 1) rfl
    have u2 := hX3.out.cell (j := 2) rfl
    have u9 := hX3.out.lt
    have kc := Controlled_any s Ap Ac Av Af cp cc cv cf F w3 (hE.out.below hB3.out) (hs.out.below hB3.out) (by omega) (by omega) (hF.out.below hB3.out) hFl
    by_cases hgd : soundB s = true ∧ listB s.ps.length F = true
    rotate_left
    · have kc2 : Hid (Calls Tryz.prog 12 #[.agg #[.slice Ap s.ps.length cp, .slice Ac s.cap.length cc, .slice Av s.vot.length cv], .slice Af F.length cf] w3 fun e w' => e = .returned (.tuple #[.slice none 0 0, .int .i64 1]) ∧ Below w3.heap.size w3 w') := kc.mono fun e w' h => ⟨by have h1 := h.1; rw [if_neg hgd] at h1; exact h1, h.2⟩
      clear kc
      replace hgd := Lib.hid hgd
      go_wp2_with fail
      refine kc2.out.mono ?_
      rintro e w4 ⟨rfl, hb⟩
      have hX4 := Lib.hid (hX3.out.below hb)
      have hB4 := Lib.hid (hB3.out.trans (hb.mono hB3.out.size))
      clear hb hX3 hB3
      clear u0 u1 u2 u9
      clear kc2
      have z1 := hl70.out F.length (by simp)
      have u0 := hX4.out.cell (j := 0) rfl
      have u1 := hX4.out.cell (j := 1) rfl
      have u2 := hX4.out.cell (j := 2) rfl
      have u9 := hX4.out.lt
      have ks := Sound_any s Ap Ac Av cp cc cv w4 (hE.out.below hB4.out) (hs.out.below hB4.out)
      cases hsd : soundB s with
      | false =>
        rw [hsd] at ks
        replace ks := Lib.hid ks; replace hsd := Lib.hid hsd
        go_wp2_with fail
        refine ks.out.mono ?_
        rintro e w5 ⟨rfl, hb⟩
        have hX5 := Lib.hid (hX4.out.below hb)
        have hB5 := Lib.hid (hB4.out.trans (hb.mono hB4.out.size))
        clear hb hX4 hB4
        clear u0 u1 u2 u9
        go_wp2
        go_ret
        exact ⟨rfl, hB5.out⟩
      | true =>
        rw [hsd] at ks
        have hls : Hid (listB s.ps.length F = false) := Lib.hid (Bool.eq_false_iff.2 fun h => hgd.out ⟨hsd, h⟩)
        replace ks := Lib.hid ks; replace hsd := Lib.hid hsd
        go_wp2_with fail
        refine ks.out.mono ?_
        rintro e w5 ⟨rfl, hb⟩
        have hX5 := Lib.hid (hX4.out.below hb)
        have hB5 := Lib.hid (hB4.out.trans (hb.mono hB4.out.size))
        clear hb hX4 hB4
        clear u0 u1 u2 u9
        have u0 := hX5.out.cell (j := 0) rfl
        have u1 := hX5.out.cell (j := 1) rfl
        have u2 := hX5.out.cell (j := 2) rfl
        have u9 := hX5.out.lt
        have kl := List_any Af cf (s.ps.length : Int) F w5 (hF.out.below hB5.out) hFl
        rw [hls.out] at kl
        replace kl := Lib.hid kl
        go_wp2_with fail
        refine kl.out.mono ?_
        rintro e w6 ⟨rfl, q, hq⟩
        have hB6 : Hid (Below w.heap.size w w6) := by rw [hq]; exact blDrewN hB5.out q
        clear hq
        go_wp2
        go_ret
        exact ⟨rfl, hB6.out⟩
    · have kc2 : Hid (Calls Tryz.prog 12 #[.agg #[.slice Ap s.ps.length cp, .slice Ac s.cap.length cc, .slice Av s.vot.length cv], .slice Af F.length cf] w3 fun e w' => (∃ b, e = .returned (.tuple #[.slice (some ⟨b, 0, none⟩) s.ps.length s.ps.length, .int .i64 0]) ∧ RoI w' b s.ps.length (rd (VT s) (toN F))) ∧ Below w3.heap.size w3 w') := kc.mono fun e w' h => ⟨by have h1 := h.1; rw [if_pos hgd] at h1; obtain ⟨b, e1, _, e2⟩ := h1; exact ⟨b, e1, e2⟩, h.2⟩
      clear kc
      have hsd := Lib.hid hgd.1; have hls := Lib.hid hgd.2
      have hV : Hid (VIn s.ps.length (VT s)) := VIn_of (sound_vot hgd.1)
      replace hgd := Lib.hid hgd
      go_wp2_with fail
      refine kc2.out.mono ?_
      rintro e w4 ⟨⟨rb, rfl, hR⟩, hb⟩
      have hX4 := Lib.hid (hX3.out.below hb)
      have hB4 := Lib.hid (hB3.out.trans (hb.mono hB3.out.size))
      clear hb hX3 hB3
      have hR4 := Lib.hid hR
      clear hR
      clear u0 u1 u2 u9
      clear kc2
      have u0 := hX4.out.cell (j := 0) rfl
      have u1 := hX4.out.cell (j := 1) rfl
      have u2 := hX4.out.cell (j := 2) rfl
      have u9 := hX4.out.lt
      have ks := Sound_any s Ap Ac Av cp cc cv w4 (hE.out.below hB4.out) (hs.out.below hB4.out)
      rw [hsd.out] at ks
      replace ks := Lib.hid ks
      go_wp2_with fail
      refine ks.out.mono ?_
      rintro e w5 ⟨rfl, hb⟩
      have hX5 := Lib.hid (hX4.out.below hb)
      have hB5 := Lib.hid (hB4.out.trans (hb.mono hB4.out.size))
      have hR5 := Lib.hid (hR4.out.below hb)
      clear hb hX4 hB4 hR4
      clear u0 u1 u2 u9
      clear ks
      obtain ⟨o, ho⟩ : ∃ o, o = rd (VT s) (toN F) := ⟨_, rfl⟩
      rw [← ho] at hR5
      have h0f : Hid (∀ x, o x = 0 ↔ x ∈ toN F) := by rw [ho]; exact fun x => rd_zero
      have hyes : Hid (∀ p, 0 < o p → maj (VT s) (upS o (o p - 1)) p = true) := by rw [ho]; exact fun p h => rounds_yes h
      have hno : Hid (∀ p, 0 < o p → maj (VT s) (upS o (o p - 2)) p = false) := by rw [ho]; exact fun p h => rounds_no h
      have hnev : Hid (∀ p, o p < 0 → maj (VT s) (upS o (s.ps.length : Int)) p = false) := by rw [ho]; exact fun p h => rounds_never h _
      have hge : Hid (∀ p, -1 ≤ o p) := by rw [ho]; exact fun p => rd_ge
      have hle : Hid (∀ p, p < s.ps.length → o p ≤ s.ps.length) := by rw [ho]; exact fun p hp => rd_lt hV.out hp
      replace ho := Lib.hid ho
      have kmj := Lib.hid (fun W j u (h1 : Below w.heap.size w W) (h2 : Below w5.heap.size w5 W) => lmaj_any s Ap Ac Av cp cc cv rb j o u W (hE.out.below h1) (hs.out.below h1) (by omega) hsd.out (hR5.out.below h2))
      go_wp2_with fail
      go_loopw [8, 9] (fun zv ix wr => ∃ (i : Nat), i ≤ s.ps.length ∧ ix = .int .i64 (i : Int) ∧ zv = .int .i64 (zs o i : Int) ∧ Hid (Below w5.heap.size w5 wr)) (fun _ ix _ => s.ps.length - (intOf ix).toNat)
      case atStart => exact ⟨0, Nat.zero_le _, rfl, rfl, Below.refl _ _⟩
      case round =>
        obtain ⟨i, hi, rfl, rfl, hZ⟩ := hrel
        obtain ⟨wz, rfl⟩ : ∃ z, z = wr := ⟨_, rfl⟩
        have hBz := Lib.hid (hB5.out.trans (hZ.out.mono hB5.out.size)); have hXz := Lib.hid (hX5.out.below hZ.out); have hRz := Lib.hid (hR5.out.below hZ.out)
        have hzl := zs_le (o := o) (k := i)
        have j0 : (0 : Int) ≤ (i : Int) := by omega
        by_cases hin : i < s.ps.length
        · have j1 : (i : Int) < (s.ps.length : Int) := by omega
          have r1 := hRz.out.cell i hin; have r9 := hRz.out.lt
          have u0 := hXz.out.cell (j := 0) rfl; have u1 := hXz.out.cell (j := 1) rfl; have u2 := hXz.out.cell (j := 2) rfl; have u9 := hXz.out.lt
          have zy : Hid (o i = 0 → zs o (i + 1) = zs o i + 1) := zs_yes; have zn : Hid (o i ≠ 0 → zs o (i + 1) = zs o i) := zs_no
          have hy1 := Lib.hid (hyes.out i); have hn1 := Lib.hid (hno.out i); have hv1 := Lib.hid (hnev.out i); have hg1 := hge.out i; have hl1 := hle.out i hin
          have k1 := Lib.hid (fun W h1 h2 => kmj.out W i (o i - 1) h1 h2); have k2 := Lib.hid (fun W h1 h2 => kmj.out W i (o i - 2) h1 h2)
          obtain ⟨d, hd⟩ : ∃ d, d = o i := ⟨_, rfl⟩
          rw [← hd] at r1 zy zn hy1 hn1 hv1 hg1 hl1 k1 k2
          replace hd := Lib.hid hd
          obtain ⟨z, hz⟩ : ∃ z, z = zs o i := ⟨_, rfl⟩
          obtain ⟨z9, hz9⟩ : ∃ z, z = zs o (i + 1) := ⟨_, rfl⟩
          rw [← hz, ← hz9] at zy zn
          rw [← hz] at hzl ⊢
          replace hz := Lib.hid hz; replace hz9 := Lib.hid hz9
          have hcl : d = 0 ∨ 0 < d ∨ d < 0 := by omega
          rcases hcl with c | c | c
          · have m1 : (d == 0) = true := by rw [beq_iff_eq]; exact c
            have hzz : Hid (z9 = z + 1) := zy.out c
            clear k1 k2 hy1 hn1 hv1 zy zn
            replace c := Lib.hid c
            go_wp2
            go_roundw
            case rel => exact ⟨i + 1, by omega, by go_num, by rw [← hz9.out, hzz.out]; go_num, hZ⟩
            case measure => simp [intOf]; omega
          · have m1 : (d == 0) = false := by rw [beq_eq_false_iff_ne]; omega
            have m2 : decide (0 < d) = true := decide_eq_true c
            have hzz : Hid (z9 = z) := zn.out (by omega)
            have y1 := hy1.out c; have y2 := hn1.out c
            have kA := fun W h1 h2 => k1.out W h1 h2; have kB := fun W h1 h2 => k2.out W h1 h2
            simp only [y1] at kA
            simp only [y2] at kB
            replace kA := Lib.hid kA; replace kB := Lib.hid kB; replace c := Lib.hid c; replace y1 := Lib.hid y1; replace y2 := Lib.hid y2
            clear k1 k2 hy1 hn1 hv1 zy zn
            have w1 : IntKind.i64.wrap (d - 1) = d - 1 := IntWalk.i64_in _ (by omega)
            have w2 : IntKind.i64.wrap (d - 2) = d - 2 := IntWalk.i64_in _ (by omega)
            have HO : Hid (∀ W, Below wz.heap.size wz W → W.cell? ⟨w.heap.size, 0, none⟩ = some (.slice Ap s.ps.length cp) ∧ W.cell? ⟨w.heap.size, 1, none⟩ = some (.slice Ac s.cap.length cc) ∧ W.cell? ⟨w.heap.size, 2, none⟩ = some (.slice Av s.vot.length cv) ∧ W.cell? ⟨rb, i, none⟩ = some (.int .i64 d)) := fun W h => ⟨(hXz.out.below h).cell (j := 0) rfl, (hXz.out.below h).cell (j := 1) rfl, (hXz.out.below h).cell (j := 2) rfl, (h.cell (p := ⟨rb, i, none⟩) r9).trans r1⟩
            clear u0 u1 u2 u9 r1
            have r1 := (HO.out wz (Below.refl _ _)).2.2.2
            go_wp2_with fail
            clear r1
            refine wp_region_noPanic ?_
            have b0 : Hid (Below wz.heap.size wz wz.drew) := (Below.refl _ _).drew
            refine wp_region_held_drew (S := fun W => W.cell? ⟨w.heap.size, 0, none⟩ = some (.slice Ap s.ps.length cp) ∧ W.cell? ⟨w.heap.size, 1, none⟩ = some (.slice Ac s.cap.length cc) ∧ W.cell? ⟨w.heap.size, 2, none⟩ = some (.slice Av s.vot.length cv) ∧ W.cell? ⟨rb, i, none⟩ = some (.int .i64 d)) (by kernel_rfl) (HO.out _ b0.out) (fun hS0 => ?_)
            replace hS0 := Lib.hid hS0
            refine wpAnyH_take (i := 0) (oi := _) (v := ?_) rfl (by kernel_rfl) (by kernel_rfl) (by kernel_rfl) (fun _ _ _ h => h) (Or.inl ⟨by rfl, ?_⟩) (hS0.out) ?_
            rotate_left
            · (intro w hSw; obtain ⟨q0, q1, q2, q3⟩ := hSw; go_simp <;> with_reducible rfl)
            try simp only [List.getElem_toArray, List.getElem_cons_zero, Act.put, List.setIfInBounds_toArray, List.set_cons_zero, List.set_cons_succ]
            refine wpAnyH_take (i := 1) (oi := _) (v := ?_) rfl (by kernel_rfl) (by kernel_rfl) (by kernel_rfl) (fun _ _ _ h => h) (Or.inl ⟨by rfl, ?_⟩) (hS0.out) ?_
            rotate_left
            · (intro w hSw; obtain ⟨q0, q1, q2, q3⟩ := hSw; go_simp <;> with_reducible rfl)
            try simp only [List.getElem_toArray, List.getElem_cons_succ, List.getElem_cons_zero, Act.put, List.setIfInBounds_toArray, List.set_cons_zero, List.set_cons_succ]
            refine wpAnyH_take (i := 2) (oi := _) (v := ?_) rfl (by kernel_rfl) (by kernel_rfl) (by kernel_rfl) (fun _ _ _ h => h) (Or.inl ⟨by rfl, ?_⟩) (hS0.out) ?_
            rotate_left
            · (intro w hSw; obtain ⟨q0, q1, q2, q3⟩ := hSw; go_simp <;> with_reducible rfl)
            try simp only [List.getElem_toArray, List.getElem_cons_succ, List.getElem_cons_zero, Act.put, List.setIfInBounds_toArray, List.set_cons_zero, List.set_cons_succ]
            refine wpAnyH_take (i := 3) (oi := _) (v := ?_) rfl (by kernel_rfl) (by kernel_rfl) (by kernel_rfl) (fun _ _ _ h => h) (Or.inl ⟨by rfl, ?_⟩) (hS0.out) ?_
            rotate_left
            · (intro w hSw; obtain ⟨q0, q1, q2, q3⟩ := hSw; go_simp <;> with_reducible rfl)
            try simp only [List.getElem_toArray, List.getElem_cons_succ, List.getElem_cons_zero, Act.put, List.setIfInBounds_toArray, List.set_cons_zero, List.set_cons_succ]
            refine wpAnyH_take (i := 4) (oi := _) (v := ?_) rfl (by kernel_rfl) (by kernel_rfl) (by kernel_rfl) (fun _ _ _ h => h) (Or.inl ⟨by rfl, ?_⟩) (hS0.out) ?_
            rotate_left
            · (intro w hSw; obtain ⟨q0, q1, q2, q3⟩ := hSw; go_simp <;> with_reducible rfl)
            try simp only [List.getElem_toArray, List.getElem_cons_succ, List.getElem_cons_zero, Act.put, List.setIfInBounds_toArray, List.set_cons_zero, List.set_cons_succ]
            refine wpAnyH_take (i := 5) (oi := _) (v := ?_) rfl (by kernel_rfl) (by kernel_rfl) (by kernel_rfl) (fun _ _ _ h => h) (Or.inl ⟨by rfl, ?_⟩) (hS0.out) ?_
            rotate_left
            · (intro w hSw; obtain ⟨q0, q1, q2, q3⟩ := hSw; go_simp <;> with_reducible rfl)
            try simp only [List.getElem_toArray, List.getElem_cons_succ, List.getElem_cons_zero, Act.put, List.setIfInBounds_toArray, List.set_cons_zero, List.set_cons_succ]
            refine wpAnyH_take (i := 6) (oi := _) (v := ?_) rfl (by kernel_rfl) (by kernel_rfl) (by kernel_rfl) (fun _ _ _ h => h) (Or.inl ⟨by rfl, ?_⟩) (hS0.out) ?_
            rotate_left
            · (intro w hSw; obtain ⟨q0, q1, q2, q3⟩ := hSw; go_simp <;> with_reducible rfl)
            try simp only [List.getElem_toArray, List.getElem_cons_succ, List.getElem_cons_zero, Act.put, List.setIfInBounds_toArray, List.set_cons_zero, List.set_cons_succ]
            refine wpAnyH_take (i := 7) (oi := _) (v := ?_) rfl (by kernel_rfl) (by kernel_rfl) (by kernel_rfl) (fun _ _ _ h => h) (Or.inl ⟨by rfl, ?_⟩) (hS0.out) ?_
            rotate_left
            · (intro w hSw; obtain ⟨q0, q1, q2, q3⟩ := hSw; go_simp <;> with_reducible rfl)
            try simp only [List.getElem_toArray, List.getElem_cons_succ, List.getElem_cons_zero, Act.put, List.setIfInBounds_toArray, List.set_cons_zero, List.set_cons_succ]
            refine wpAnyH_ready (rs := [8]) (by kernel_rfl) (by simp) ?_
            refine AllReadyH.cons (o := _) rfl (fun K hK => ?_) AllReadyH.nil
            go_simp
            go_at_call 22
            refine (kA.out _ (hBz.out.trans (b0.out.mono hBz.out.size)) (hZ.out.trans (b0.out.mono hZ.out.size))).mono ?_
            rintro _ v1 ⟨rfl, hb⟩
            have bv1 := Lib.hid (b0.out.trans (hb.mono b0.out.size))
            clear hb
            go_wp2_with fail
            have hSv1 := Lib.hid (HO.out _ bv1.out)
            refine hK.out _ _ hSv1.out (fun _ => ?_)
            clear hK K
            try simp only [List.getElem_toArray, List.getElem_cons_succ, List.getElem_cons_zero, Act.put, List.setIfInBounds_toArray, List.set_cons_zero, List.set_cons_succ]
            refine wpAnyH_take (i := 9) (oi := _) (v := ?_) rfl (by kernel_rfl) (by kernel_rfl) (by kernel_rfl) (fun _ _ _ h => h) (Or.inl ⟨by rfl, ?_⟩) (hSv1.out) ?_
            rotate_left
            · (intro w hSw; obtain ⟨q0, q1, q2, q3⟩ := hSw; go_simp <;> with_reducible rfl)
            try simp only [List.getElem_toArray, List.getElem_cons_succ, List.getElem_cons_zero, Act.put, List.setIfInBounds_toArray, List.set_cons_zero, List.set_cons_succ]
            refine wpAnyH_take (i := 10) (oi := _) (v := ?_) rfl (by kernel_rfl) (by kernel_rfl) (by kernel_rfl) (fun _ _ _ h => h) (Or.inl ⟨by rfl, ?_⟩) (hSv1.out) ?_
            rotate_left
            · (intro w hSw; obtain ⟨q0, q1, q2, q3⟩ := hSw; go_simp <;> with_reducible rfl)
            try simp only [List.getElem_toArray, List.getElem_cons_succ, List.getElem_cons_zero, Act.put, List.setIfInBounds_toArray, List.set_cons_zero, List.set_cons_succ]
            refine wpAnyH_take (i := 11) (oi := _) (v := ?_) rfl (by kernel_rfl) (by kernel_rfl) (by kernel_rfl) (fun _ _ _ h => h) (Or.inl ⟨by rfl, ?_⟩) (hSv1.out) ?_
            rotate_left
            · (intro w hSw; obtain ⟨q0, q1, q2, q3⟩ := hSw; go_simp <;> with_reducible rfl)
            try simp only [List.getElem_toArray, List.getElem_cons_succ, List.getElem_cons_zero, Act.put, List.setIfInBounds_toArray, List.set_cons_zero, List.set_cons_succ]
            refine wpAnyH_take (i := 12) (oi := _) (v := ?_) rfl (by kernel_rfl) (by kernel_rfl) (by kernel_rfl) (fun _ _ _ h => h) (Or.inl ⟨by rfl, ?_⟩) (hSv1.out) ?_
            rotate_left
            · (intro w hSw; obtain ⟨q0, q1, q2, q3⟩ := hSw; go_simp <;> with_reducible rfl)
            try simp only [List.getElem_toArray, List.getElem_cons_succ, List.getElem_cons_zero, Act.put, List.setIfInBounds_toArray, List.set_cons_zero, List.set_cons_succ]
            refine wpAnyH_take (i := 13) (oi := _) (v := ?_) rfl (by kernel_rfl) (by kernel_rfl) (by kernel_rfl) (fun _ _ _ h => h) (Or.inl ⟨by rfl, ?_⟩) (hSv1.out) ?_
            rotate_left
            · (intro w hSw; obtain ⟨q0, q1, q2, q3⟩ := hSw; go_simp <;> with_reducible rfl)
            try simp only [List.getElem_toArray, List.getElem_cons_succ, List.getElem_cons_zero, Act.put, List.setIfInBounds_toArray, List.set_cons_zero, List.set_cons_succ]
            refine wpAnyH_take (i := 14) (oi := _) (v := ?_) rfl (by kernel_rfl) (by kernel_rfl) (by kernel_rfl) (fun _ _ _ h => h) (Or.inl ⟨by rfl, ?_⟩) (hSv1.out) ?_
            rotate_left
            · (intro w hSw; obtain ⟨q0, q1, q2, q3⟩ := hSw; go_simp <;> with_reducible rfl)
            try simp only [List.getElem_toArray, List.getElem_cons_succ, List.getElem_cons_zero, Act.put, List.setIfInBounds_toArray, List.set_cons_zero, List.set_cons_succ]
            refine wpAnyH_take (i := 15) (oi := _) (v := ?_) rfl (by kernel_rfl) (by kernel_rfl) (by kernel_rfl) (fun _ _ _ h => h) (Or.inl ⟨by rfl, ?_⟩) (hSv1.out) ?_
            rotate_left
            · (intro w hSw; obtain ⟨q0, q1, q2, q3⟩ := hSw; go_simp <;> with_reducible rfl)
            try simp only [List.getElem_toArray, List.getElem_cons_succ, List.getElem_cons_zero, Act.put, List.setIfInBounds_toArray, List.set_cons_zero, List.set_cons_succ]
            refine wpAnyH_take (i := 16) (oi := _) (v := ?_) rfl (by kernel_rfl) (by kernel_rfl) (by kernel_rfl) (fun _ _ _ h => h) (Or.inl ⟨by rfl, ?_⟩) (hSv1.out) ?_
            rotate_left
            · (intro w hSw; obtain ⟨q0, q1, q2, q3⟩ := hSw; go_simp <;> with_reducible rfl)
            try simp only [List.getElem_toArray, List.getElem_cons_succ, List.getElem_cons_zero, Act.put, List.setIfInBounds_toArray, List.set_cons_zero, List.set_cons_succ]
            refine wpAnyH_take (i := 17) (oi := _) (v := ?_) rfl (by kernel_rfl) (by kernel_rfl) (by kernel_rfl) (fun _ _ _ h => h) (Or.inl ⟨by rfl, ?_⟩) (hSv1.out) ?_
            rotate_left
            · (intro w hSw; obtain ⟨q0, q1, q2, q3⟩ := hSw; go_simp <;> with_reducible rfl)
            try simp only [List.getElem_toArray, List.getElem_cons_succ, List.getElem_cons_zero, Act.put, List.setIfInBounds_toArray, List.set_cons_zero, List.set_cons_succ]
            refine wpAnyH_take (i := 18) (oi := _) (v := ?_) rfl (by kernel_rfl) (by kernel_rfl) (by kernel_rfl) (fun _ _ _ h => h) (Or.inl ⟨by rfl, ?_⟩) (hSv1.out) ?_
            rotate_left
            · (intro w hSw; obtain ⟨q0, q1, q2, q3⟩ := hSw; go_simp <;> with_reducible rfl)
            try simp only [List.getElem_toArray, List.getElem_cons_succ, List.getElem_cons_zero, Act.put, List.setIfInBounds_toArray, List.set_cons_zero, List.set_cons_succ]
            refine wpAnyH_ready (rs := [19]) (by kernel_rfl) (by simp) ?_
            refine AllReadyH.cons (o := _) rfl (fun K hK => ?_) AllReadyH.nil
            go_simp
            go_at_call 22
            refine (kB.out _ (hBz.out.trans (bv1.out.mono hBz.out.size)) (hZ.out.trans (bv1.out.mono hZ.out.size))).mono ?_
            rintro _ v2 ⟨rfl, hb⟩
            have bv2 := Lib.hid (bv1.out.trans (hb.mono bv1.out.size))
            clear hb
            go_wp2_with fail
            have hSv2 := Lib.hid (HO.out _ bv2.out)
            refine hK.out _ _ hSv2.out (fun _ => ?_)
            clear hK K
            try simp only [List.getElem_toArray, List.getElem_cons_succ, List.getElem_cons_zero, Act.put, List.setIfInBounds_toArray, List.set_cons_zero, List.set_cons_succ]
            refine wpAnyH_take (i := 20) (oi := _) (v := ?_) rfl (by kernel_rfl) (by kernel_rfl) (by kernel_rfl) (fun _ _ _ h => h) (Or.inl ⟨by rfl, ?_⟩) (hSv2.out) ?_
            rotate_left
            · (intro w hSw; obtain ⟨q0, q1, q2, q3⟩ := hSw; go_simp <;> with_reducible rfl)
            try simp only [List.getElem_toArray, List.getElem_cons_succ, List.getElem_cons_zero, Act.put, List.setIfInBounds_toArray, List.set_cons_zero, List.set_cons_succ]
            refine wpAnyH_done (by kernel_rfl) ?_ _
            refine NoPanic.normal ?_
            have hZ9 := Lib.hid (hZ.out.trans (bv2.out.mono hZ.out.size))
            clear HO hS0 hSv1 hSv2 b0 bv1 bv2
            go_wp2
            go_roundw
            case rel => exact ⟨i + 1, by omega, by go_num, by rw [← hz9.out, hzz.out], hZ9⟩
            case measure => simp [intOf]; omega
          · have m1 : (d == 0) = false := by rw [beq_eq_false_iff_ne]; omega
            have m2 : decide (0 < d) = false := decide_eq_false (by omega)
            have m3 : (d != -1) = false := bne_eq_false_iff_eq.2 (by omega)
            have hzz : Hid (z9 = z) := zn.out (by omega)
            have km := kmj.out wz i (s.ps.length : Int) hBz.out hZ.out
            rw [hv1.out c] at km
            replace km := Lib.hid km; replace c := Lib.hid c
            clear k1 k2 hy1 hn1 hv1 zy zn
            go_wp2_with fail
            refine km.out.mono ?_
            rintro e w9 ⟨rfl, hb⟩
            have hZ9 := Lib.hid (hZ.out.trans (hb.mono hZ.out.size))
            clear hb u0 u1 u2 u9 r1 r9 km
            go_wp2
            go_roundw
            case rel => exact ⟨i + 1, by omega, by go_num, by rw [← hz9.out, hzz.out], hZ9⟩
            case measure => simp [intOf]; omega
        · obtain rfl : i = s.ps.length := by omega
          have hzf : Hid (zs o s.ps.length = F.length) := zs_all hls.out h0f.out
          rw [hzf.out]
          have z1 := hl70.out F.length (by simp)
          have hin : Hid (∀ i (h : i < F.length), ∃ f : Nat, F[i] = (f : Int) ∧ f < s.ps.length ∧ o f = 0) := fun i h => by
            obtain ⟨f, h1, h2, h3⟩ := toN_at hls.out h
            exact ⟨f, h1, by omega, (h0f.out f).2 (List.mem_of_getElem? h3)⟩
          clear kmj hyes hno hnev hge hle h0f hXz hzl
          go_wp2_with fail
          go_loopw [10] (fun ix wr => ∃ (j : Nat), j ≤ F.length ∧ ix = .int .i64 (j : Int) ∧ wr = wz) (fun ix _ => F.length - (intOf ix).toNat)
          case atStart => exact ⟨0, Nat.zero_le _, rfl, rfl⟩
          case round =>
            obtain ⟨j, hj, rfl, rfl⟩ := hrel
            have k0 : (0 : Int) ≤ (j : Int) := by omega
            by_cases hjl : j < F.length
            · have k1 : (j : Int) < (F.length : Int) := by omega
              obtain ⟨fb, fo, rfl, hfl, hfc⟩ := (hF.out.below hBz.out) (by omega)
              obtain ⟨f, hf1, hf2, hf3⟩ := hin.out j hjl
              have e1 := hfc j hjl
              rw [hf1] at e1
              have r1 := hRz.out.cell f hf2; have r9 := hRz.out.lt
              rw [hf3] at r1
              have q0 : (0 : Int) ≤ (f : Int) := by omega
              have q1 : (f : Int) < (s.ps.length : Int) := by omega
              have m1 : decide ((f : Int) < 0) = false := decide_eq_false (by omega)
              have m2 : decide ((s.ps.length : Int) ≤ (f : Int)) = false := decide_eq_false (by omega)
              have m2n : decide (s.ps.length ≤ f) = false := decide_eq_false (by omega)
              clear hf1 hf3 hfc
              go_wp2
              go_roundw
              case rel => exact ⟨j + 1, by omega, by go_num, by first | rfl | trivial⟩
              case measure => simp [intOf]; omega
            · obtain rfl : j = F.length := by omega
              go_wp2
              go_ret
              exact ⟨rfl, hBz.out⟩
end Co
end Go.Proofs.YtmekiidknjjfcaaGreatDoor

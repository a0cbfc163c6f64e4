/- The law ControlOthers. Printed by gen_lothers.py. -/
import Derived.Test.YtmekiidknjjfcaaGreatDoorLawCoOthRM
namespace Go.Proofs.YtmekiidknjjfcaaGreatDoor
open Go.RowKit Go.Shelf
namespace Co
open Nt Ci

/-- Without capital, and without the votes of those who are not controlled. -/
noncomputable def keepL (o : Nat → Int) (l : List Lk) : List Lk := l.filter fun x => decide (0 ≤ o x.2.1.toNat)
noncomputable def otS (o : Nat → Int) (s : SR) : SR := ⟨s.ps, [], keepL o s.vot⟩
section
variable {o : Nat → Int} {l l' : List Lk} {n k : Nat}
theorem keep_yes (h : k < l.length) (hc : 0 ≤ o l[k].2.1.toNat) : keepL o (l.take (k + 1)) = keepL o (l.take k) ++ [l[k]] := by
  unfold keepL
  rw [List.take_succ_eq_append_getElem h, List.filter_append, List.filter_cons, if_pos (decide_eq_true hc)]
  rfl
theorem keep_no (h : k < l.length) (hc : ¬ 0 ≤ o l[k].2.1.toNat) : keepL o (l.take (k + 1)) = keepL o (l.take k) := by
  unfold keepL
  rw [List.take_succ_eq_append_getElem h, List.filter_append, List.filter_cons, if_neg (by simpa using hc)]
  simp
theorem keep_len : (keepL o (l.take k)).length ≤ l.length := by
  unfold keepL
  have h1 := List.length_filter_le (fun x : Lk => decide (0 ≤ o x.2.1.toNat)) (l.take k)
  have h2 : (l.take k).length ≤ l.length := List.length_take_le' _ _
  omega
theorem riseTrans {a b c : Lk} (h1 : Rise a b) (h2 : Rise b c) : Rise a c := by
  unfold Rise at *
  omega
theorem goodRise (h : goodB n l = true) : l.Pairwise Rise := by
  refine List.pairwise_iff_getElem.2 fun i j hi hj hij => ?_
  induction j with
  | zero => omega
  | succ j ih =>
    have h1 := (good_at h hj).2.1 (by omega)
    simp only [Nat.add_sub_cancel] at h1
    by_cases e : i = j
    · subst e; exact h1
    · exact riseTrans (ih (by omega) (by omega)) h1
theorem sum_sub {a b : List Nat} (h : a.Sublist b) : a.sum ≤ b.sum := by
  induction h with
  | slnil => exact Nat.le_refl _
  | cons x _ ih => rw [List.sum_cons]; omega
  | cons_cons x _ ih => rw [List.sum_cons, List.sum_cons]; omega
theorem sumU_all (h : goodB n l = true) (c : Int) : ∀ k, k ≤ l.length → sumU (l.take k) c ≤ 6000 := by
  intro k
  induction k with
  | zero => intro _; simp [sumU]
  | succ k ih =>
    intro hk
    by_cases e : (l[k]'(by omega)).1 = c
    · rw [← e]
      exact (good_at h (by omega)).2.2
    · have h1 := ih (by omega)
      unfold sumU at h1 ⊢
      rw [List.take_succ_eq_append_getElem (by omega), List.filter_append, List.filter_cons, if_neg (by simpa using e)]
      simpa using h1
theorem good_sub (h : goodB n l = true) (hs : l'.Sublist l) : goodB n l' = true := by
  refine good_all fun i hi => ⟨?_, fun h0 => ?_, ?_⟩
  · obtain ⟨j, hj, e⟩ := List.getElem_of_mem (hs.subset (List.getElem_mem hi))
    rw [← e]
    exact (good_at h hj).1
  · exact List.pairwise_iff_getElem.1 ((goodRise h).sublist hs) (i - 1) i (by omega) hi (by omega)
  · have h1 := sumU_all h l'[i].1 l.length (Nat.le_refl _)
    rw [List.take_length] at h1
    have h2 : sumU (l'.take (i + 1)) l'[i].1 ≤ sumU l l'[i].1 := sum_sub (((List.take_sublist _ _).trans hs |>.filter _).map _)
    omega
end
theorem sound_ot {o : Nat → Int} {s : SR} (h : soundB s = true) : soundB (otS o s) = true := by
  unfold soundB at h ⊢
  simp only [Bool.and_eq_true, decide_eq_true_eq] at h ⊢
  exact ⟨h.1, h.2.1, good_all fun i hi => absurd hi (by simp [otS]), good_sub h.2.2.2 List.filter_sublist⟩
theorem rd_ot {s : SR} {L : List Nat} (p : Nat) : rd (VT (otS (rd (VT s) L) s)) L p = rd (VT s) L p := by
  have e : VT (otS (rd (VT s) L) s) = (VT s).filter fun x => decide (0 ≤ rd (VT s) L x.2.1) := by
    unfold VT otS keepL
    rw [List.filter_map]
    rfl
  rw [e]
  exact rd_filter fun x _ h => decide_eq_true h
theorem stIn_ot {w w' : World} {s : SR} {Ap Ac Av A : Option Addr} {o : Nat → Int} (h : StIn w s Ap Ac Av) (hb : Below w.heap.size w w') (hA : InLk w' A (keepL o s.vot)) : StIn w' (otS o s) Ap none A := by
  have h2 := h.below hb
  have hl : (keepL o s.vot).length ≤ s.vot.length := List.length_filter_le _ _
  refine ⟨h2.ps, fun h0 => absurd h0 (by simp [otS]), hA, h.np, by simp [otS], Nat.le_trans hl h.nv, h.zp, fun x hx => absurd hx (by simp [otS]), fun x hx => h.zv x (List.mem_filter.1 hx).1, fun x hx => absurd hx (by simp [otS]), fun x hx => h.iv x (List.mem_filter.1 hx).1⟩

set_option maxRecDepth 100000 in
set_option maxHeartbeats 16000000 in
theorem lawCo_others (s : SR) (Ap Ac Av Af : Option Addr) (cp cc cv cf : Nat) (F : List Int) (w : World) (hE : Env w) (hs : StIn w s Ap Ac Av) (hF : InInt w Af F) (hFl : F.length ≤ 140737488355328) :
    Calls Tryz.prog 9 #[.agg #[.slice Ap s.ps.length cp, .slice Ac s.cap.length cc, .slice Av s.vot.length cv], .slice Af F.length cf] w fun e w' => e = .returned (.bool true) ∧ Below w.heap.size w w' := by
  have hX1 : Hid (Bk (w.alloc (.cells #[.slice Ap s.ps.length cp, .slice Ac s.cap.length cc, .slice Av s.vot.length cv] 25)) w.heap.size 25 (SC s Ap Ac Av cp cc cv)) := Bk.new w _ _
  have hB1 : Hid (Below w.heap.size w (w.alloc (.cells #[.slice Ap s.ps.length cp, .slice Ac s.cap.length cc, .slice Av s.vot.length cv] 25))) := (Below.refl _ w).alloc (Nat.le_refl _) _
  replace hE := Lib.hid hE
  replace hs := Lib.hid hs
  replace hF := Lib.hid hF
  go_enter Tryz.func9, Tryz.ntmps9
  go_wp2_with fail
  refine (headCo_any _ (hE.out.below hB1.out)).mono ?_
  rintro e w2 ⟨rfl, hb⟩
  have hX2 := Lib.hid (hX1.out.below hb)
  have hB2 := Lib.hid (hB1.out.trans (hb.mono hB1.out.size))
  clear hb hX1 hB1
  have u0 := hX2.out.cell (j := 0) rfl
  have u1 := hX2.out.cell (j := 1) rfl
  have u2 := hX2.out.cell (j := 2) rfl
  have u9 := hX2.out.lt
  have hLb : Hid (Below w2.heap.size w2 (w2.alloc (.cells #[.slice Af F.length cf] 26))) := (Below.refl _ _).alloc (Nat.le_refl _) _
  have hLk : Hid (Bk (w2.alloc (.cells #[.slice Af F.length cf] 26)) w2.heap.size 26 [.slice Af F.length cf]) := Bk.new _ _ _
  have hLi : Hid (InLens (w2.alloc (.cells #[.slice Af F.length cf] 26)) w2.heap.size [F.length]) := ⟨hLk.out.lt, fun j hj => by
    match j, hj with
    | 0, _ => exact ⟨_, _, hLk.out.cell (j := 0) rfl⟩
    | j + 1, hj => exact absurd hj (by simp)⟩
  have kf := Lib.hid (few_some s Ap Ac Av cp cc cv w2.heap.size [F.length] (w2.alloc (.cells #[.slice Af F.length cf] 26)) (hs.out.below (hB2.out.trans (hLb.out.mono hB2.out.size))) hLi.out (by simp))
  go_wp2_with fail
  refine kf.out.mono ?_
  rintro e w3 ⟨⟨r, rfl, hr⟩, hb0⟩
  have hb := hLb.out.trans (hb0.mono hLb.out.size)
  replace hr := Lib.hid hr
  clear hb0 hLb hLk hLi kf
  have hX3 := Lib.hid (hX2.out.below hb)
  have hB3 := Lib.hid (hB2.out.trans (hb.mono hB2.out.size))
  clear hb hX2 hB2
  clear u0 u1 u2 u9
  cases r with
  | false =>
    go_wp2
    go_ret
    exact ⟨rfl, hB3.out⟩
  | true =>
    obtain ⟨⟨hp60, hc30, hv30⟩, hl70⟩ := hr.out rfl
    replace hl70 := Lib.hid hl70
    clear hr
    have u0 := hX3.out.cell (j := 0) rfl
    have u1 := hX3.out.cell (j := 1) rfl
    have u2 := hX3.out.cell (j := 2) rfl
    have u9 := hX3.out.lt
    have kc := Controlled_any s Ap Ac Av Af cp cc cv cf F w3 (hE.out.below hB3.out) (hs.out.below hB3.out) (by omega) (by omega) (hF.out.below hB3.out) hFl
    by_cases hgd : soundB s = true ∧ listB s.ps.length F = true
    rotate_left
    · have kc2 : Hid (Calls Tryz.prog 12 #[.agg #[.slice Ap s.ps.length cp, .slice Ac s.cap.length cc, .slice Av s.vot.length cv], .slice Af F.length cf] w3 fun e w' => e = .returned (.tuple #[.slice none 0 0, .int .i64 1]) ∧ Below w3.heap.size w3 w') := kc.mono fun e w' h => ⟨by have h1 := h.1; rw [if_neg hgd] at h1; exact h1, h.2⟩
      clear kc
      replace hgd := Lib.hid hgd
      go_wp2_with fail
      refine kc2.out.mono ?_
      rintro e w4 ⟨rfl, hb⟩
      have hX4 := Lib.hid (hX3.out.below hb)
      have hB4 := Lib.hid (hB3.out.trans (hb.mono hB3.out.size))
      clear hb hX3 hB3
      clear u0 u1 u2 u9
      clear kc2
      go_wp2
      go_ret
      exact ⟨rfl, hB4.out⟩
    · have kc2 : Hid (Calls Tryz.prog 12 #[.agg #[.slice Ap s.ps.length cp, .slice Ac s.cap.length cc, .slice Av s.vot.length cv], .slice Af F.length cf] w3 fun e w' => (∃ b, e = .returned (.tuple #[.slice (some ⟨b, 0, none⟩) s.ps.length s.ps.length, .int .i64 0]) ∧ RoI w' b s.ps.length (rd (VT s) (toN F))) ∧ Below w3.heap.size w3 w') := kc.mono fun e w' h => ⟨by have h1 := h.1; rw [if_pos hgd] at h1; obtain ⟨b, e1, _, e2⟩ := h1; exact ⟨b, e1, e2⟩, h.2⟩
      clear kc
      have hsd := Lib.hid hgd.1; have hls := Lib.hid hgd.2
      have hV : Hid (VIn s.ps.length (VT s)) := VIn_of (sound_vot hgd.1)
      replace hgd := Lib.hid hgd
      go_wp2_with fail
      refine kc2.out.mono ?_
      rintro e w4 ⟨⟨rb, rfl, hR⟩, hb⟩
      have hX4 := Lib.hid (hX3.out.below hb)
      have hB4 := Lib.hid (hB3.out.trans (hb.mono hB3.out.size))
      clear hb hX3 hB3
      have hR4 := Lib.hid hR
      clear hR
      clear u0 u1 u2 u9
      clear kc2
      have u0 := hX4.out.cell (j := 0) rfl
      have u1 := hX4.out.cell (j := 1) rfl
      have u2 := hX4.out.cell (j := 2) rfl
      have u9 := hX4.out.lt
      obtain ⟨o, ho⟩ : ∃ o, o = rd (VT s) (toN F) := ⟨_, rfl⟩
      rw [← ho] at hR4
      have hrd : Hid (∀ p, rd (VT (otS o s)) (toN F) p = o p) := by rw [ho]; exact fun p => rd_ot p
      replace ho := Lib.hid ho
      have hvt := Lib.hid (sound_vot hsd.out)
      obtain ⟨ob, hob⟩ : ∃ b, b = w4.heap.size := ⟨_, rfl⟩
      obtain ⟨W0, hW0⟩ : ∃ W, W = w4.alloc (.cells #[.slice Ap s.ps.length cp, .slice none 0 0, .slice none 0 0] 25) := ⟨_, rfl⟩
      have hO0 : Hid (Bk W0 ob 25 [.slice Ap s.ps.length cp, .slice none 0 0, .slice none 0 0]) := by rw [hW0, hob]; exact Bk.new _ _ _
      have hBW0 : Hid (Below w.heap.size w W0) := by rw [hW0]; exact hB4.out.alloc hB4.out.size _
      have hBn0 : Hid (Below w4.heap.size w4 W0) := by rw [hW0]; exact (Below.refl _ _).alloc (Nat.le_refl _) _
      have hsz0 : W0.heap.size = ob + 1 := by rw [hW0, hob]; simp
      have hobw : w.heap.size < ob := by rw [hob]; exact u9
      go_wp2_with fail
      rw [← hW0, ← hob]
      replace hob := Lib.hid hob; replace hW0 := Lib.hid hW0
      clear u0 u1 u2 u9
      go_loopw [9] (fun ix wr => ∃ (k m c : Nat) (A : Option Addr), k ≤ s.vot.length ∧ m = (keepL o (s.vot.take k)).length ∧ ix = .int .i64 (k : Int) ∧ Hid (Kp [ob] W0 wr) ∧ Hid (Bk wr ob 25 [.slice Ap s.ps.length cp, .slice none 0 0, .slice A m c]) ∧ Hid (wr.ownsRow (ob + 1) 51 5 (.slice A m c) m (lksL (keepL o (s.vot.take k))))) (fun ix _ => s.vot.length - (intOf ix).toNat)
      case atStart => exact ⟨0, 0, 0, none, Nat.zero_le _, rfl, rfl, Kp.refl _ _, hO0, World.ownsRow_nil _ _ _ _⟩
      case round =>
        obtain ⟨k, m, c, A, hk, hm, rfl, hK, hO, hRw⟩ := hrel
        clear hO0
        obtain ⟨wz, rfl⟩ : ∃ z, z = wr := ⟨_, rfl⟩
        have hml : m ≤ 300 := by rw [hm]; exact Nat.le_trans keep_len (by omega)
        replace hm := Lib.hid hm
        have hBr : Hid (Below w.heap.size w wz) := hK.out.to_below hBW0.out fun x hx => by simp at hx; omega
        have hBn : Hid (Below w4.heap.size w4 wz) := hK.out.to_below hBn0.out fun x hx => by simp at hx; rw [hx, hob.out]; exact Nat.le_refl _
        have hXr := Lib.hid (hX4.out.below hBn.out); have hRr := Lib.hid (hR4.out.below hBn.out)
        have u0 := hXr.out.cell (j := 0) rfl; have u1 := hXr.out.cell (j := 1) rfl; have u2 := hXr.out.cell (j := 2) rfl; have u9 := hXr.out.lt
        by_cases hlt : k < s.vot.length
        · obtain ⟨vb, off, rfl, hbl, hcc0⟩ := hs.out.vot (by omega)
          obtain ⟨d1, d2, d3, d4, d5⟩ := hcc0 k hlt
          have e1 := (hBr.out.cell (p := ⟨vb, off + k * 5, none⟩) hbl).trans d1
          have e2 := (hBr.out.cell (p := ⟨vb, off + k * 5 + 1, none⟩) hbl).trans d2
          have e3 := (hBr.out.cell (p := ⟨vb, off + k * 5 + 2, none⟩) hbl).trans d3
          have e4 := (hBr.out.cell (p := ⟨vb, off + k * 5 + 3, none⟩) hbl).trans d4
          have e5 := (hBr.out.cell (p := ⟨vb, off + k * 5 + 4, none⟩) hbl).trans d5
          clear hcc0 d1 d2 d3 d4 d5
          have hix := hvt.out s.vot[k] (List.getElem_mem hlt)
          have hyes := Lib.hid (fun h => keep_yes (o := o) hlt h)
          have hno := Lib.hid (fun h => keep_no (o := o) hlt h)
          obtain ⟨x, hx⟩ : ∃ x, x = s.vot[k] := ⟨_, rfl⟩
          rw [← hx] at e1 e2 e3 e4 e5 hix hyes hno
          replace hx := Lib.hid hx
          obtain ⟨co, hoI, gg, nn, dd⟩ := x
          obtain ⟨_, ⟨i3, i4⟩, _⟩ := hix
          replace i3 : 0 ≤ hoI := i3; replace i4 : hoI < s.ps.length := i4
          obtain ⟨h, rfl⟩ : ∃ c : Nat, hoI = (c : Int) := ⟨hoI.toNat, by omega⟩
          have hhn : h < s.ps.length := by omega
          replace e1 : wz.cell? ⟨vb, off + k * 5, none⟩ = some (.int .i64 co) := e1
          replace e2 : wz.cell? ⟨vb, off + k * 5 + 1, none⟩ = some (.int .i64 (h : Int)) := e2
          replace e3 : wz.cell? ⟨vb, off + k * 5 + 2, none⟩ = some (.bool gg) := e3
          replace e4 : wz.cell? ⟨vb, off + k * 5 + 3, none⟩ = some (.string nn) := e4
          replace e5 : wz.cell? ⟨vb, off + k * 5 + 4, none⟩ = some (.string dd) := e5
          replace hyes : Hid (0 ≤ o h → keepL o (s.vot.take (k + 1)) = keepL o (s.vot.take k) ++ [(co, (h : Int), gg, nn, dd)]) := hyes.out
          replace hno : Hid (¬ 0 ≤ o h → keepL o (s.vot.take (k + 1)) = keepL o (s.vot.take k)) := hno.out
          have j0 : (0 : Int) ≤ (k : Int) := by omega
          have j1 : (k : Int) < (s.vot.length : Int) := by omega
          have q0 : (0 : Int) ≤ (h : Int) := by omega
          have q1 : (h : Int) < (s.ps.length : Int) := by omega
          have m1 : decide ((h : Int) < 0) = false := decide_eq_false (by omega)
          have m2 : decide ((s.ps.length : Int) ≤ (h : Int)) = false := decide_eq_false (by omega)
          have m2n : decide (s.ps.length ≤ h) = false := decide_eq_false (by omega)
          have r1 := hRr.out.cell h hhn; have r9 := hRr.out.lt
          obtain ⟨d, hd⟩ : ∃ d, d = o h := ⟨_, rfl⟩
          rw [← hd] at r1 hyes hno
          replace hd := Lib.hid hd
          have hbl2 : vb < wz.heap.size := Nat.lt_of_lt_of_le hbl hBr.out.size
          by_cases hd0 : 0 ≤ d
          · have m3 : decide (0 ≤ d) = true := decide_eq_true hd0
            have hnx := Lib.hid (hyes.out hd0)
            have hm2 : Hid (m + 1 = (keepL o (s.vot.take (k + 1))).length) := by show m + 1 = _; rw [hnx.out, List.length_append, List.length_singleton, ← hm.out]
            replace hd0 := Lib.hid hd0; clear hyes hno
            go_wp2_with fail
            refine ot15 w.heap.size ob vb off k s.vot.length m c cp cv cc s.ps.length s.cap.length Ap Ac A co (h : Int) gg nn dd (keepL o (s.vot.take k)) wz W0 hlt (by omega) hXr.out hO.out hRw.out hK.out hsz0 hobw (by omega) hbl2 e1 e2 e3 e4 e5 ?_
            intro _ _ _ _ _ _ _ _ _ _ A9 c9 w9 hO9 hK9 hR9
            rw [← hnx.out] at hR9
            clear e1 e2 e3 e4 e5 r1 r9 u0 u1 u2 u9
            go_wp2
            go_roundw
            case rel => exact ⟨k + 1, m + 1, c9, A9, by omega, hm2.out, by go_num, hK9, hO9, hR9⟩
            case measure => simp [intOf]; omega
          · have m3 : decide (0 ≤ d) = false := decide_eq_false hd0
            have hnx := Lib.hid (hno.out hd0)
            have hm2 : Hid (m = (keepL o (s.vot.take (k + 1))).length) := by rw [hnx.out]; exact hm.out
            have hR2 : Hid (wz.ownsRow (ob + 1) 51 5 (.slice A m c) m (lksL (keepL o (s.vot.take (k + 1))))) := by rw [hnx.out]; exact hRw.out
            replace hd0 := Lib.hid hd0; clear hyes hno
            go_wp2
            go_roundw
            case rel => exact ⟨k + 1, m, c, A, by omega, hm2.out, by go_num, hK, hO, hR2⟩
            case measure => simp [intOf]; omega
        · obtain rfl : k = s.vot.length := by omega
          have hm3 : m = (keepL o s.vot).length := by have h := hm.out; rwa [List.take_length] at h
          have hRw2 := hRw.out
          rw [List.take_length] at hRw2
          obtain ⟨A2, cap2, hA2, hIn⟩ := own_lks (l := keepL o s.vot) (by rw [← hm3]; exact hRw2)
          rw [← hm3] at hA2
          simp only [Value.slice.injEq, true_and] at hA2
          obtain ⟨rfl, rfl⟩ := hA2
          have hs2 : Hid (StIn wz (otS o s) Ap none A) := stIn_ot hs.out hBr.out hIn
          have kc : Hid (Calls Tryz.prog 12 #[.agg #[.slice Ap s.ps.length cp, .slice none 0 0, .slice A m c], .slice Af F.length cf] wz fun e w' => (∃ b, e = .returned (.tuple #[.slice (some ⟨b, 0, none⟩) s.ps.length s.ps.length, .int .i64 0]) ∧ RoI w' b s.ps.length o) ∧ Below wz.heap.size wz w') := by
            have h := Controlled_any (otS o s) Ap none A Af cp 0 c cf F wz (hE.out.below hBr.out) hs2.out (by show ([] : List Lk).length ≤ 300; decide) (by show (keepL o s.vot).length ≤ 300; omega) (hF.out.below hBr.out) hFl
            have e : (otS o s).vot.length = m := hm3.symm
            rw [e] at h
            refine Calls.mono h fun e w' h => ⟨?_, h.2⟩
            have h1 := h.1
            rw [if_pos ⟨sound_ot hsd.out, hls.out⟩] at h1
            obtain ⟨b, e1, _, e2⟩ := h1
            exact ⟨b, e1, e2.congr fun p _ => hrd.out p⟩
          have v0 := hO.out.cell (j := 0) rfl; have v1 := hO.out.cell (j := 1) rfl; have v2 := hO.out.cell (j := 2) rfl; have v9 := hO.out.lt
          clear hRw2 hIn hRw hs2
          replace hm3 := Lib.hid hm3
          go_wp2_with fail
          refine kc.out.mono ?_
          rintro e w9 ⟨⟨rb2, rfl, hS9⟩, hb⟩
          have hB9 := Lib.hid (hBr.out.trans (hb.mono hBr.out.size))
          have hI1 := Lib.hid (hRr.out.below hb).inInt; have hI2 := Lib.hid hS9.inInt
          clear hb u0 u1 u2 u9 v0 v1 v2 v9 kc hS9
          have ki : Hid (Calls Tryz.prog 18 #[.slice (some ⟨rb, 0, none⟩) s.ps.length s.ps.length, .slice (some ⟨rb2, 0, none⟩) s.ps.length s.ps.length] w9 fun e w' => e = .returned (.bool true) ∧ Below w9.heap.size w9 w') := by
            have hl : ((List.range s.ps.length).map o).length = s.ps.length := by simp
            have h := Ints_any (some ⟨rb, 0, none⟩) (some ⟨rb2, 0, none⟩) s.ps.length s.ps.length _ _ w9 hI1.out hI2.out (by rw [hl]; omega)
            rw [hl, decide_eq_true rfl] at h
            refine Calls.mono h ?_
            rintro e w' ⟨rfl, q, rfl⟩
            exact ⟨rfl, blDrewN (Below.refl _ _) q⟩
          go_wp2_with fail
          refine ki.out.mono ?_
          rintro e w10 ⟨rfl, hb⟩
          have hB10 := Lib.hid (hB9.out.trans (hb.mono hB9.out.size))
          clear hb
          go_wp2
          go_ret
          exact ⟨rfl, hB10.out⟩
end Co
end Go.Proofs.YtmekiidknjjfcaaGreatDoor

/- The law ControlMore. Printed by gen_lmore.py. -/
import Derived.Test.YtmekiidknjjfcaaGreatDoorCoD
import Derived.Deep.QuietTactic
import Derived.BigQuiet
namespace Go.Proofs.YtmekiidknjjfcaaGreatDoor
open Go.RowKit Go.Shelf
namespace Co
open Nt Ci

/-- The listed ones and one party more, as the law lays them out. -/
noncomputable def moL (o : Nat → Int) (p m : Nat) : List Nat := (List.range m).filter fun x => decide (o x = 0 ∨ x = p)
section
variable {o : Nat → Int} {p m n : Nat}
theorem moL_yes (h : o m = 0 ∨ m = p) : moL o p (m + 1) = moL o p m ++ [m] := by
  unfold moL
  rw [List.range_succ, List.filter_append, List.filter_cons, if_pos (decide_eq_true h)]
  rfl
theorem moL_no (h : ¬ (o m = 0 ∨ m = p)) : moL o p (m + 1) = moL o p m := by
  unfold moL
  rw [List.range_succ, List.filter_append, List.filter_cons, if_neg (by simpa using h)]
  simp
theorem moL_mem {x : Nat} : x ∈ moL o p m ↔ x < m ∧ (o x = 0 ∨ x = p) := by unfold moL; rw [List.mem_filter, List.mem_range, decide_eq_true_iff]
theorem moL_len : (moL o p m).length ≤ m := by
  have := List.length_filter_le (fun x => decide (o x = 0 ∨ x = p)) (List.range m)
  rwa [List.length_range] at this
end

set_option maxRecDepth 100000 in
set_option maxHeartbeats 16000000 in
theorem lawCo_more (s : SR) (Ap Ac Av Af : Option Addr) (cp cc cv cf : Nat) (F : List Int) (party : Int) (w : World) (hE : Env w) (hs : StIn w s Ap Ac Av) (hF : InInt w Af F) (hFl : F.length ≤ 140737488355328) :
    Calls Tryz.prog 8 #[.agg #[.slice Ap s.ps.length cp, .slice Ac s.cap.length cc, .slice Av s.vot.length cv], .slice Af F.length cf, .int .i64 party] w fun e w' => e = .returned (.bool true) ∧ Below w.heap.size w w' := by
  have hX1 : Hid (Bk (w.alloc (.cells #[.slice Ap s.ps.length cp, .slice Ac s.cap.length cc, .slice Av s.vot.length cv] 25)) w.heap.size 25 (SC s Ap Ac Av cp cc cv)) := Bk.new w _ _
  have hB1 : Hid (Below w.heap.size w (w.alloc (.cells #[.slice Ap s.ps.length cp, .slice Ac s.cap.length cc, .slice Av s.vot.length cv] 25))) := (Below.refl _ w).alloc (Nat.le_refl _) _
  replace hE := Lib.hid hE
  replace hs := Lib.hid hs
  replace hF := Lib.hid hF
  go_enter Tryz.func8, Tryz.ntmps8
  go_wp2_with fail
  refine (headCo_any _ (hE.out.below hB1.out)).mono ?_
  rintro e w2 ⟨rfl, hb⟩
  have hX2 := Lib.hid (hX1.out.below hb)
  have hB2 := Lib.hid (hB1.out.trans (hb.mono hB1.out.size))
  clear hb hX1 hB1
  have u0 := hX2.out.cell (j := 0) rfl
  have u1 := hX2.out.cell (j := 1) rfl
  have u2 := hX2.out.cell (j := 2) rfl
  have u9 := hX2.out.lt
  have hLb : Hid (Below w2.heap.size w2 (w2.alloc (.cells #[.slice Af F.length cf] 26))) := (Below.refl _ _).alloc (Nat.le_refl _) _
  have hLk : Hid (Bk (w2.alloc (.cells #[.slice Af F.length cf] 26)) w2.heap.size 26 [.slice Af F.length cf]) := Bk.new _ _ _
  have hLi : Hid (InLens (w2.alloc (.cells #[.slice Af F.length cf] 26)) w2.heap.size [F.length]) := ⟨hLk.out.lt, fun j hj => by
    match j, hj with
    | 0, _ => exact ⟨_, _, hLk.out.cell (j := 0) rfl⟩
    | j + 1, hj => exact absurd hj (by simp)⟩
  have kf := Lib.hid (few_some s Ap Ac Av cp cc cv w2.heap.size [F.length] (w2.alloc (.cells #[.slice Af F.length cf] 26)) (hs.out.below (hB2.out.trans (hLb.out.mono hB2.out.size))) hLi.out (by simp))
  go_wp2_with fail
  refine kf.out.mono ?_
  rintro e w3 ⟨⟨r, rfl, hr⟩, hb0⟩
  have hb := hLb.out.trans (hb0.mono hLb.out.size)
  replace hr := Lib.hid hr
  clear hb0 hLb hLk hLi kf
  have hX3 := Lib.hid (hX2.out.below hb)
  have hB3 := Lib.hid (hB2.out.trans (hb.mono hB2.out.size))
  clear hb hX2 hB2
  clear u0 u1 u2 u9
  cases r with
  | false =>
    go_wp2
    go_ret
    exact ⟨rfl, hB3.out⟩
  | true =>
    obtain ⟨⟨hp60, hc30, hv30⟩, hl70⟩ := hr.out rfl
    replace hl70 := Lib.hid hl70
    clear hr
    have u0 := hX3.out.cell (j := 0) rfl
    have u1 := hX3.out.cell (j := 1) rfl
    have u2 := hX3.out.cell (j := 2) rfl
    have u9 := hX3.out.lt
    have kc := Controlled_any s Ap Ac Av Af cp cc cv cf F w3 (hE.out.below hB3.out) (hs.out.below hB3.out) (by omega) (by omega) (hF.out.below hB3.out) hFl
    by_cases hgd : soundB s = true ∧ listB s.ps.length F = true
    rotate_left
    · have kc2 : Hid (Calls Tryz.prog 12 #[.agg #[.slice Ap s.ps.length cp, .slice Ac s.cap.length cc, .slice Av s.vot.length cv], .slice Af F.length cf] w3 fun e w' => e = .returned (.tuple #[.slice none 0 0, .int .i64 1]) ∧ Below w3.heap.size w3 w') := kc.mono fun e w' h => ⟨by have h1 := h.1; rw [if_neg hgd] at h1; exact h1, h.2⟩
      clear kc
      replace hgd := Lib.hid hgd
      go_wp2_with fail
      refine kc2.out.mono ?_
      rintro e w4 ⟨rfl, hb⟩
      have hX4 := Lib.hid (hX3.out.below hb)
      have hB4 := Lib.hid (hB3.out.trans (hb.mono hB3.out.size))
      clear hb hX3 hB3
      clear u0 u1 u2 u9
      clear kc2
      go_wp2
      go_ret
      exact ⟨rfl, hB4.out⟩
    · have kc2 : Hid (Calls Tryz.prog 12 #[.agg #[.slice Ap s.ps.length cp, .slice Ac s.cap.length cc, .slice Av s.vot.length cv], .slice Af F.length cf] w3 fun e w' => (∃ b, e = .returned (.tuple #[.slice (some ⟨b, 0, none⟩) s.ps.length s.ps.length, .int .i64 0]) ∧ RoI w' b s.ps.length (rd (VT s) (toN F))) ∧ Below w3.heap.size w3 w') := kc.mono fun e w' h => ⟨by have h1 := h.1; rw [if_pos hgd] at h1; obtain ⟨b, e1, _, e2⟩ := h1; exact ⟨b, e1, e2⟩, h.2⟩
      clear kc
      have hsd := Lib.hid hgd.1; have hls := Lib.hid hgd.2
      have hV : Hid (VIn s.ps.length (VT s)) := VIn_of (sound_vot hgd.1)
      replace hgd := Lib.hid hgd
      go_wp2_with fail
      refine kc2.out.mono ?_
      rintro e w4 ⟨⟨rb, rfl, hR⟩, hb⟩
      have hX4 := Lib.hid (hX3.out.below hb)
      have hB4 := Lib.hid (hB3.out.trans (hb.mono hB3.out.size))
      clear hb hX3 hB3
      have hR4 := Lib.hid hR
      clear hR
      clear u0 u1 u2 u9
      clear kc2
      by_cases hp0 : party < 0
      · have m1 : decide (party < 0) = true := decide_eq_true hp0
        replace hp0 := Lib.hid hp0
        go_wp2
        go_ret
        exact ⟨rfl, hB4.out⟩
      · have m1 : decide (party < 0) = false := decide_eq_false hp0
        by_cases hpn : (s.ps.length : Int) ≤ party
        · have m2 : decide ((s.ps.length : Int) ≤ party) = true := decide_eq_true hpn
          replace hp0 := Lib.hid hp0; replace hpn := Lib.hid hpn
          go_wp2
          go_ret
          exact ⟨rfl, hB4.out⟩
        · obtain ⟨p, rfl⟩ : ∃ p : Nat, party = (p : Int) := ⟨party.toNat, by omega⟩
          have hpp : p < s.ps.length := by omega
          have m2 : decide ((s.ps.length : Int) ≤ (p : Int)) = false := decide_eq_false hpn
          have m2n : decide (s.ps.length ≤ p) = false := decide_eq_false (by omega)
          replace hp0 := Lib.hid hp0; replace hpn := Lib.hid hpn
          have p0 : (0 : Int) ≤ (p : Int) := by omega
          have p1 : (p : Int) < (s.ps.length : Int) := by omega
          obtain ⟨o, ho⟩ : ∃ o, o = rd (VT s) (toN F) := ⟨_, rfl⟩
          rw [← ho] at hR4
          replace ho := Lib.hid ho
          have e1 := hR4.out.cell p hpp; have e9 := hR4.out.lt
          by_cases hz : o p = 0
          · have m3 : (o p == 0) = true := by rw [beq_iff_eq]; exact hz
            generalize o p = d at e1 m3
            replace hz := Lib.hid hz
            go_wp2
            go_ret
            exact ⟨rfl, hB4.out⟩
          · have m3 : (o p == 0) = false := by rw [beq_eq_false_iff_ne]; exact hz
            obtain ⟨d, hd⟩ : ∃ d, d = o p := ⟨_, rfl⟩
            rw [← hd] at e1 m3
            replace hz := Lib.hid hz; replace hd := Lib.hid hd
            obtain ⟨i0, hi0, hzz⟩ := Option.map_eq_some_iff.1 infoI
            simp only [Prod.mk.injEq] at hzz
            obtain ⟨hz0, hz1, hz2⟩ := hzz
            replace hi0 := Lib.hid hi0
            replace hz0 := Lib.hid hz0
            replace hz1 := Lib.hid hz1
            replace hz2 := Lib.hid hz2
            have hO0 : Hid (w4.ownsRow w4.heap.size 3 1 (.slice none 0 0) 0 (intsL (moL o p 0))) := World.ownsRow_nil _ _ _ _
            go_wp2_with fail
            clear e1 e9 m3
            go_loopw [10, 11] (fun nv ix wr => ∃ (i m c : Nat) (A : Option Addr), i ≤ s.ps.length ∧ m = (moL o p i).length ∧ nv = .slice A m c ∧ ix = .int .i64 (i : Int) ∧ Hid (Kp [] w4 wr) ∧ Hid (wr.ownsRow w4.heap.size 3 1 (.slice A m c) m (intsL (moL o p i)))) (fun _ ix _ => s.ps.length - (intOf ix).toNat)
            case atStart => exact ⟨0, 0, 0, none, Nat.zero_le _, rfl, rfl, rfl, Kp.refl _ _, hO0⟩
            case round =>
              obtain ⟨i, m, c, A, hi, hm, rfl, rfl, hK, hO⟩ := hrel
              clear hO0
              obtain ⟨wz, rfl⟩ : ∃ z, z = wr := ⟨_, rfl⟩
              have hq : Hid (Below w4.heap.size w4 wz) := hK.out.to_below (Below.refl _ _) (fun x hx => by simp at hx)
              have hml : m ≤ i := by rw [hm]; exact moL_len
              replace hm := Lib.hid hm
              by_cases hin : i < s.ps.length
              · have e1 := (hR4.out.below hq.out).cell i hin; have e9 := (hR4.out.below hq.out).lt
                have j0 : (0 : Int) ≤ (i : Int) := by omega
                have j1 : (i : Int) < (s.ps.length : Int) := by omega
                have hyes : Hid (o i = 0 ∨ i = p → moL o p (i + 1) = moL o p i ++ [i]) := moL_yes
                have hno : Hid (¬ (o i = 0 ∨ i = p) → moL o p (i + 1) = moL o p i) := moL_no
                obtain ⟨t, ht⟩ : ∃ t, t = o i := ⟨_, rfl⟩
                rw [← ht] at e1 hyes hno
                replace ht := Lib.hid ht
                by_cases h1 : t = 0
                · have q1 : (t == 0) = true := by rw [beq_iff_eq]; exact h1
                  have hnx := Lib.hid (hyes.out (.inl h1))
                  replace h1 := Lib.hid h1; clear hyes hno
                  have hm2 : Hid (m + 1 = (moL o p (i + 1)).length) := by show m + 1 = _; rw [hnx.out, List.length_append, List.length_singleton, ← hm.out]
                  have hO7 := Lib.hid (own_below' hO.out ((Below.refl _ wz).alloc (Nat.le_refl _) (.cells #[.int .i64 (i : Int)] 3)))
                  have hK7 := Lib.hid (hK.out.alloc (.cells #[.int .i64 (i : Int)] 3))
                  have hbs7 : Hid (w4.heap.size ≤ (wz.alloc (.cells #[.int .i64 (i : Int)] 3)).heap.size) := hK7.out.size
                  have had7 : Hid (∀ j u, [(Value.int .i64 (i : Int))][j]? = some u → (wz.alloc (.cells #[.int .i64 (i : Int)] 3)).cell? (Addr.add ⟨wz.heap.size, 0, none⟩ j) = some u) := head_new wz _ _
                  have hrp7 : Hid (intsL (moL o p i) ++ [.int .i64 (i : Int)] = intsL (moL o p (i + 1))) := by rw [hnx.out]; exact (intsL_snoc _ _).symm
                  have hrow7 : Hid (∀ b, (Value.slice A m c).ownBlock = some b → b ∈ ([] : List Nat) ∨ w4.heap.size ≤ b) := fun b e => .inr (hO.out.lt b e).1
                  go_wp2_with (at_builtin; refine wpList_append_new _ rfl _ _ 26 rfl w4.heap.size 3 i0 (.int .i64 0) 1 8 Tryz.underlying26 hi0.out hz0.out hz1.out hz2.out rfl (by decide) (.slice A m c) m _ rfl hO7.out ⟨wz.heap.size, 0, none⟩ 1 1 [.int .i64 (i : Int)] rfl rfl had7.out (one_cell1 _ rfl) (by decide) (by unfold maxLen; omega) (by omega) hbs7.out ?_; intro vb7 wb7 ho7 hg7 hn7; obtain ⟨A7, c7, rfl⟩ := own_form ho7; rw [hrp7.out] at ho7; have hk7 := Lib.hid (hK7.out.grown hg7 hrow7.out); replace ho7 := Lib.hid ho7; clear hg7 hn7)
                  go_roundw
                  case rel => exact ⟨i + 1, m + 1, c7, A7, by omega, hm2.out, rfl, by go_num, hk7, ho7⟩
                  case measure => simp [intOf]; omega
                · have q1 : (t == 0) = false := by rw [beq_eq_false_iff_ne]; exact h1
                  by_cases h2 : i = p
                  · have q2 : ((i : Int) == (p : Int)) = true := by rw [beq_iff_eq]; omega
                    have q2n : (i == p) = true := by rw [beq_iff_eq]; exact h2
                    have hnx := Lib.hid (hyes.out (.inr h2))
                    replace h1 := Lib.hid h1; replace h2 := Lib.hid h2; clear hyes hno
                    have hm2 : Hid (m + 1 = (moL o p (i + 1)).length) := by show m + 1 = _; rw [hnx.out, List.length_append, List.length_singleton, ← hm.out]
                    have hO7 := Lib.hid (own_below' hO.out ((Below.refl _ wz).alloc (Nat.le_refl _) (.cells #[.int .i64 (i : Int)] 3)))
                    have hK7 := Lib.hid (hK.out.alloc (.cells #[.int .i64 (i : Int)] 3))
                    have hbs7 : Hid (w4.heap.size ≤ (wz.alloc (.cells #[.int .i64 (i : Int)] 3)).heap.size) := hK7.out.size
                    have had7 : Hid (∀ j u, [(Value.int .i64 (i : Int))][j]? = some u → (wz.alloc (.cells #[.int .i64 (i : Int)] 3)).cell? (Addr.add ⟨wz.heap.size, 0, none⟩ j) = some u) := head_new wz _ _
                    have hrp7 : Hid (intsL (moL o p i) ++ [.int .i64 (i : Int)] = intsL (moL o p (i + 1))) := by rw [hnx.out]; exact (intsL_snoc _ _).symm
                    have hrow7 : Hid (∀ b, (Value.slice A m c).ownBlock = some b → b ∈ ([] : List Nat) ∨ w4.heap.size ≤ b) := fun b e => .inr (hO.out.lt b e).1
                    go_wp2_with (at_builtin; refine wpList_append_new _ rfl _ _ 26 rfl w4.heap.size 3 i0 (.int .i64 0) 1 8 Tryz.underlying26 hi0.out hz0.out hz1.out hz2.out rfl (by decide) (.slice A m c) m _ rfl hO7.out ⟨wz.heap.size, 0, none⟩ 1 1 [.int .i64 (i : Int)] rfl rfl had7.out (one_cell1 _ rfl) (by decide) (by unfold maxLen; omega) (by omega) hbs7.out ?_; intro vb7 wb7 ho7 hg7 hn7; obtain ⟨A7, c7, rfl⟩ := own_form ho7; rw [hrp7.out] at ho7; have hk7 := Lib.hid (hK7.out.grown hg7 hrow7.out); replace ho7 := Lib.hid ho7; clear hg7 hn7)
                    go_roundw
                    case rel => exact ⟨i + 1, m + 1, c7, A7, by omega, hm2.out, rfl, by go_num, hk7, ho7⟩
                    case measure => simp [intOf]; omega
                  · have q2 : ((i : Int) == (p : Int)) = false := by rw [beq_eq_false_iff_ne]; omega
                    have q2n : (i == p) = false := by rw [beq_eq_false_iff_ne]; exact h2
                    have hnx := Lib.hid (hno.out fun h => h.elim h1 h2)
                    have hm2 : Hid (m = (moL o p (i + 1)).length) := by rw [hnx.out]; exact hm.out
                    have hO2 : Hid (wz.ownsRow w4.heap.size 3 1 (.slice A m c) m (intsL (moL o p (i + 1)))) := by rw [hnx.out]; exact hO.out
                    replace h1 := Lib.hid h1; replace h2 := Lib.hid h2; clear hyes hno
                    go_wp2
                    go_roundw
                    case rel => exact ⟨i + 1, m, c, A, by omega, hm2.out, rfl, by go_num, hK, hO2⟩
                    case measure => simp [intOf]; omega
              · obtain rfl : i = s.ps.length := by omega
                have hBz := Lib.hid (hB4.out.trans (hq.out.mono hB4.out.size)); have hXz := Lib.hid (hX4.out.below hq.out); have hRz := Lib.hid (hR4.out.below hq.out)
                obtain ⟨M, hM⟩ : ∃ M, M = moL o p s.ps.length := ⟨_, rfl⟩
                have hMm : Hid (∀ x, x ∈ M ↔ x < s.ps.length ∧ (o x = 0 ∨ x = p)) := fun x => by rw [hM]; exact moL_mem
                have hMl : Hid (listB s.ps.length (castL M) = true) := asc_list (by rw [hM]; exact List.Pairwise.filter _ List.pairwise_lt_range) (fun x hx => ((hMm.out x).1 hx).1)
                have hin := (own_inInt (u := .slice A m c) (l := M) (by rw [hM, ← hm.out]; exact hO.out)).2
                have hmM : m = (castL M).length := by rw [castL_len, hM]; exact hm.out
                have kc := Controlled_any s Ap Ac Av A cp cc cv c (castL M) wz (hE.out.below hBz.out) (hs.out.below hBz.out) (by omega) (by omega) hin (by rw [← hmM]; omega)
                rw [← hmM] at kc
                have kc2 : Hid (Calls Tryz.prog 12 #[.agg #[.slice Ap s.ps.length cp, .slice Ac s.cap.length cc, .slice Av s.vot.length cv], .slice A m c] wz fun e w' => (∃ b, e = .returned (.tuple #[.slice (some ⟨b, 0, none⟩) s.ps.length s.ps.length, .int .i64 0]) ∧ RoI w' b s.ps.length (rd (VT s) M)) ∧ Below wz.heap.size wz w') := kc.mono fun e w' h => ⟨by have h1 := h.1; rw [if_pos ⟨hsd.out, hMl.out⟩, castL_toN] at h1; obtain ⟨b, e1, _, e2⟩ := h1; exact ⟨b, e1, e2⟩, h.2⟩
                have hpos : Hid (∀ j, j < s.ps.length → 0 ≤ o j → 0 ≤ rd (VT s) M j ∧ rd (VT s) M j ≤ o j) := fun j hj h => by
                  rw [ho.out] at h ⊢
                  refine rd_mono hV.out (fun f hf => (hMm.out f).2 ⟨toN_in hls.out hf, .inl ?_⟩) hj h
                  rw [ho.out]; exact rd_zero.2 hf
                have hpz : Hid (rd (VT s) M p = 0) := rd_zero.2 ((hMm.out p).2 ⟨hpp, .inr rfl⟩)
                have u0 := hXz.out.cell (j := 0) rfl; have u1 := hXz.out.cell (j := 1) rfl; have u2 := hXz.out.cell (j := 2) rfl; have u9 := hXz.out.lt
                clear kc hin hM hMm hMl hO hK
                replace hmM := Lib.hid hmM
                go_wp2_with fail
                refine kc2.out.mono ?_
                rintro e w9 ⟨⟨rb2, rfl, hS9⟩, hb⟩
                have hB9 := Lib.hid (hBz.out.trans (hb.mono hBz.out.size)); have hR9 := Lib.hid (hRz.out.below hb)
                replace hS9 := Lib.hid hS9
                obtain ⟨o2, ho2⟩ : ∃ o2, o2 = rd (VT s) M := ⟨_, rfl⟩
                rw [← ho2] at hS9 hpos hpz
                replace ho2 := Lib.hid ho2
                clear hb u0 u1 u2 u9 kc2 hBz hRz hXz
                go_wp2_with fail
                go_loopw [14] (fun ix wr => ∃ (j : Nat), j ≤ s.ps.length ∧ ix = .int .i64 (j : Int) ∧ Hid (Below w9.heap.size w9 wr)) (fun ix _ => s.ps.length - (intOf ix).toNat)
                case atStart => exact ⟨0, Nat.zero_le _, rfl, Below.refl _ _⟩
                case round =>
                  obtain ⟨j, hj, rfl, hZ⟩ := hrel
                  obtain ⟨wy, rfl⟩ : ∃ z, z = wr := ⟨_, rfl⟩
                  have hRy := Lib.hid (hR9.out.below hZ.out); have hSy := Lib.hid (hS9.out.below hZ.out); have hBy := Lib.hid (hB9.out.trans (hZ.out.mono hB9.out.size))
                  by_cases hjn : j < s.ps.length
                  · have c1 := hRy.out.cell j hjn; have c2 := hSy.out.cell j hjn; have c3 := hRy.out.lt; have c4 := hSy.out.lt
                    have hp1 := hpos.out j hjn
                    generalize o j = x at c1 hp1; generalize o2 j = y at c2 hp1
                    have j0 : (0 : Int) ≤ (j : Int) := by omega
                    have j1 : (j : Int) < (s.ps.length : Int) := by omega
                    replace hjn := Lib.hid hjn
                    by_cases hx : 0 ≤ x
                    · obtain ⟨q1, q2⟩ := hp1 hx
                      have m3 : decide (0 ≤ x) = true := decide_eq_true hx; have m4 : decide (y < 0) = false := decide_eq_false (by omega); have m5 : decide (x < y) = false := decide_eq_false (by omega)
                      clear hp1 q1 q2
                      replace hx := Lib.hid hx
                      go_wp2_with fail
                      go_quiet (fail)
                      have hZ2 := Lib.hid (blDrewN hZ.out nq)
                      clear c1 c2 c3 c4
                      go_wp2
                      go_roundw
                      case rel => exact ⟨j + 1, by have := hjn.out; omega, by go_num, hZ2⟩
                      case measure => simp [intOf]; have := hjn.out; omega
                    · have m3 : decide (0 ≤ x) = false := decide_eq_false hx
                      clear hp1
                      replace hx := Lib.hid hx
                      go_wp2_with fail
                      go_quiet (fail)
                      have hZ2 := Lib.hid (blDrewN hZ.out nq)
                      clear c1 c2 c3 c4
                      go_wp2
                      go_roundw
                      case rel => exact ⟨j + 1, by have := hjn.out; omega, by go_num, hZ2⟩
                      case measure => simp [intOf]; have := hjn.out; omega
                  · obtain rfl : j = s.ps.length := by omega
                    have c2 := hSy.out.cell p hpp; have c4 := hSy.out.lt
                    rw [hpz.out] at c2
                    go_wp2
                    go_ret
                    exact ⟨rfl, hBy.out⟩
end Co
end Go.Proofs.YtmekiidknjjfcaaGreatDoor

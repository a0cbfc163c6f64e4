/- The law CircleOrder. Printed by gen_lcorder.py. -/
import Derived.Test.YthggedpgcchneaaGreatDoorCirH
import Derived.Test.YthggedpgcchneaaGreatDoorCirE
import Derived.Deep.RegionHeld3
import Derived.Deep.QuietTactic
import Derived.BigQuiet
namespace Go.Proofs.YthggedpgcchneaaGreatDoor
open Go.RowKit Go.Shelf
namespace Ci
open Nt
open Classical

/-- Some of the first i links leads from component x to the one behind it. -/
def Ld (n : Nat) (E : List (Nat × Nat)) (i x : Nat) : Prop := ∃ p q, (p, q) ∈ E.take i ∧ at' n E p = x ∧ at' n E q = x + 1
theorem ld_zero {n : Nat} {E : List (Nat × Nat)} {x : Nat} : ¬ Ld n E 0 x := fun ⟨p, q, h, _⟩ => by rw [List.take_zero] at h; cases h
theorem ld_yes {n : Nat} {E : List (Nat × Nat)} {i h c : Nat} (hi : i < E.length) (he : E[i] = (h, c)) (e : at' n E h + 1 = at' n E c) (x : Nat) : Ld n E (i + 1) x ↔ Ld n E i x ∨ x = at' n E h := by
  unfold Ld
  rw [List.take_succ_eq_append_getElem hi, he]
  constructor
  · rintro ⟨p, q, hm, h1, h2⟩
    rcases List.mem_append.1 hm with hm | hm
    · exact .inl ⟨p, q, hm, h1, h2⟩
    · injection List.mem_singleton.1 hm with a b
      subst a; exact .inr h1.symm
  · rintro (⟨p, q, hm, h1, h2⟩ | rfl)
    · exact ⟨p, q, List.mem_append_left _ hm, h1, h2⟩
    · exact ⟨h, c, List.mem_append_right _ (List.mem_singleton.2 rfl), rfl, e.symm⟩
theorem ld_no {n : Nat} {E : List (Nat × Nat)} {i h c : Nat} (hi : i < E.length) (he : E[i] = (h, c)) (e : at' n E h + 1 ≠ at' n E c) (x : Nat) : Ld n E i x ↔ Ld n E (i + 1) x := by
  unfold Ld
  rw [List.take_succ_eq_append_getElem hi, he]
  constructor
  · rintro ⟨p, q, hm, h1, h2⟩
    exact ⟨p, q, List.mem_append_left _ hm, h1, h2⟩
  · rintro ⟨p, q, hm, h1, h2⟩
    rcases List.mem_append.1 hm with hm | hm
    · exact ⟨p, q, hm, h1, h2⟩
    · injection List.mem_singleton.1 hm with a b
      subst a b; omega
/-- The first party of a component, and of the next. -/
theorem ord_two {s : SR} {l : List (Option Addr × Nat × List Int)} (hsd : soundB s = true) (hb : bare l = compsI s) {k : Nat} (hk : k + 1 < l.length) (hn : ¬ Ld s.ps.length (edges s) (edges s).length k) :
    ∃ x y : Nat, ∃ u v : List Int, (l[k]'(Nat.lt_of_succ_lt hk)).2.2 = (x : Int) :: u ∧ l[k + 1].2.2 = (y : Int) :: v ∧ x < y := by
  have hE := edges_in hsd
  have hll : l.length = (comps s.ps.length (edges s)).length := by
    have h := congrArg List.length hb
    simpa [bare, compsI] using h
  have hc1 : k < (comps s.ps.length (edges s)).length := by omega
  have hc2 : k + 1 < (comps s.ps.length (edges s)).length := by omega
  have hat : ∀ i (h : i < l.length) (h2 : i < (comps s.ps.length (edges s)).length), l[i].2.2 = ((comps s.ps.length (edges s))[i]).map fun (q : Nat) => (q : Int) := fun i h h2 => by
    have e : (bare l)[i]'(by simpa [bare] using h) = (compsI s)[i]'(by simpa [compsI] using h2) := by simp only [hb]
    simpa [bare, compsI] using e
  obtain ⟨u, hu⟩ := comps_ne hE hc1
  obtain ⟨v, hv⟩ := comps_ne hE hc2
  refine ⟨_, _, u.map fun (q : Nat) => (q : Int), v.map fun (q : Nat) => (q : Int), by rw [hat k (Nat.lt_of_succ_lt hk) hc1, hu, List.map_cons], (by rw [hat (k + 1) hk hc2, hv]; rfl), at_next hE _ fun a b e c => hn ⟨a, b, by rw [List.take_length]; exact e, c.1, c.2⟩⟩

set_option maxRecDepth 100000 in
set_option maxHeartbeats 16000000 in
theorem law_order (s : SR) (Ap Ac Av : Option Addr) (cp cc cv : Nat) (w : World) (hE : Env w) (hs : StIn w s Ap Ac Av) :
    Calls Tryz.prog 4 #[.agg #[.slice Ap s.ps.length cp, .slice Ac s.cap.length cc, .slice Av s.vot.length cv]] w fun e w' => e = .returned (.bool true) ∧ Below w.heap.size w w' := by
  have hX1 : Hid (Bk (w.alloc (.cells #[.slice Ap s.ps.length cp, .slice Ac s.cap.length cc, .slice Av s.vot.length cv] 25)) w.heap.size 25 (SC s Ap Ac Av cp cc cv)) := Bk.new w _ _
  have hB1 : Hid (Below w.heap.size w (w.alloc (.cells #[.slice Ap s.ps.length cp, .slice Ac s.cap.length cc, .slice Av s.vot.length cv] 25))) := (Below.refl _ w).alloc (Nat.le_refl _) _
  replace hE := Lib.hid hE
  replace hs := Lib.hid hs
  go_enter Tryz.func4, Tryz.ntmps4
  go_wp2_with fail
  refine (head_any _ (hE.out.below hB1.out)).mono ?_
  rintro e w2 ⟨rfl, hb⟩
  have hX2 := Lib.hid (hX1.out.below hb)
  have hB2 := Lib.hid (hB1.out.trans (hb.mono hB1.out.size))
  clear hb hX1 hB1
  have u0 := hX2.out.cell (j := 0) rfl
  have u1 := hX2.out.cell (j := 1) rfl
  have u2 := hX2.out.cell (j := 2) rfl
  have u9 := hX2.out.lt
  have kf := few18_any s Ap Ac Av none cp cc cv 0 [] w2 (hs.out.below hB2.out) (by decide)
  cases hfw : few18 s [] with
  | false =>
    rw [hfw] at kf
    replace kf := Lib.hid kf
    clear hfw
    go_wp2_with fail
    refine kf.out.mono ?_
    rintro e w3 ⟨rfl, hb⟩
    have hX3 := Lib.hid (hX2.out.below hb)
    have hB3 := Lib.hid (hB2.out.trans (hb.mono hB2.out.size))
    clear hb hX2 hB2
    clear u0 u1 u2 u9
    go_wp2
    go_ret
    exact ⟨rfl, hB3.out⟩
  | true =>
    rw [hfw] at kf
    replace kf := Lib.hid kf
    obtain ⟨_, hc3, _, _⟩ := few18_sz hfw
    clear hfw
    go_wp2_with fail
    refine kf.out.mono ?_
    rintro e w3 ⟨rfl, hb⟩
    have hX3 := Lib.hid (hX2.out.below hb)
    have hB3 := Lib.hid (hB2.out.trans (hb.mono hB2.out.size))
    clear hb hX2 hB2
    clear u0 u1 u2 u9
    clear kf
    have u0 := hX3.out.cell (j := 0) rfl
    have u1 := hX3.out.cell (j := 1) rfl
    have u2 := hX3.out.cell (j := 2) rfl
    have u9 := hX3.out.lt
    have kr := Components_any s Ap Ac Av cp cc cv w3 (hE.out.below hB3.out) (hs.out.below hB3.out) hc3
    cases hsd : soundB s with
    | false =>
      have kr2 : Hid (Calls Tryz.prog 11 #[.agg #[.slice Ap s.ps.length cp, .slice Ac s.cap.length cc, .slice Av s.vot.length cv]] w3 fun e w' => e = .returned (.tuple #[.slice none 0 0, .int .i64 1]) ∧ Below w3.heap.size w3 w') := kr.mono fun e w' h => ⟨by have h1 := h.1; rwa [if_neg (by rw [hsd]; simp)] at h1, h.2⟩
      clear kr
      go_wp2_with fail
      refine kr2.out.mono ?_
      rintro e w4 ⟨rfl, hb⟩
      have hX4 := Lib.hid (hX3.out.below hb)
      have hB4 := Lib.hid (hB3.out.trans (hb.mono hB3.out.size))
      clear hb hX3 hB3
      clear u0 u1 u2 u9
      clear kr2
      have u0 := hX4.out.cell (j := 0) rfl
      have u1 := hX4.out.cell (j := 1) rfl
      have u2 := hX4.out.cell (j := 2) rfl
      have u9 := hX4.out.lt
      have ks := Sound_any s Ap Ac Av cp cc cv w4 (hE.out.below hB4.out) (hs.out.below hB4.out)
      rw [hsd] at ks
      replace ks := Lib.hid ks
      replace hsd := Lib.hid hsd
      go_wp2_with fail
      refine ks.out.mono ?_
      rintro e w5 ⟨rfl, hb⟩
      have hX5 := Lib.hid (hX4.out.below hb)
      have hB5 := Lib.hid (hB4.out.trans (hb.mono hB4.out.size))
      clear hb hX4 hB4
      clear u0 u1 u2 u9
      clear ks
      go_wp2
      go_ret
      exact ⟨rfl, hB5.out⟩
    | true =>
      have kr2 : Hid (Calls Tryz.prog 11 #[.agg #[.slice Ap s.ps.length cp, .slice Ac s.cap.length cc, .slice Av s.vot.length cv]] w3 fun e w' => (∃ A c l, e = .returned (.tuple #[.slice A (List.length l) c, .int .i64 0]) ∧ InLs w' A l ∧ bare l = compsI s) ∧ Below w3.heap.size w3 w') := kr.mono fun e w' h => ⟨by have h1 := h.1; rwa [if_pos hsd] at h1, h.2⟩
      clear kr
      go_wp2_with fail
      refine kr2.out.mono ?_
      rintro e w4 ⟨⟨A1, c1, l1, rfl, hA, hbA⟩, hb⟩
      have hX4 := Lib.hid (hX3.out.below hb)
      have hB4 := Lib.hid (hB3.out.trans (hb.mono hB3.out.size))
      clear hb hX3 hB3
      have hA4 := Lib.hid hA
      clear hA
      clear u0 u1 u2 u9
      clear kr2
      replace hbA := Lib.hid hbA
      have u0 := hX4.out.cell (j := 0) rfl
      have u1 := hX4.out.cell (j := 1) rfl
      have u2 := hX4.out.cell (j := 2) rfl
      have u9 := hX4.out.lt
      have ks := Sound_any s Ap Ac Av cp cc cv w4 (hE.out.below hB4.out) (hs.out.below hB4.out)
      rw [hsd] at ks
      replace ks := Lib.hid ks
      have hn60 := sound_n hsd
      go_wp2_with fail
      refine ks.out.mono ?_
      rintro e w5 ⟨rfl, hb⟩
      have hX5 := Lib.hid (hX4.out.below hb)
      have hB5 := Lib.hid (hB4.out.trans (hb.mono hB4.out.size))
      have hA5 := Lib.hid (hA4.out.below hb)
      clear hb hX4 hB4 hA4
      clear u0 u1 u2 u9
      clear ks
      have u0 := hX5.out.cell (j := 0) rfl
      have u1 := hX5.out.cell (j := 1) rfl
      have u2 := hX5.out.cell (j := 2) rfl
      have u9 := hX5.out.lt
      go_wp2_with fail
      refine (places_any s Ap Ac Av cp cc cv A1 c1 l1 w5 hsd hA5.out hbA.out).mono ?_
      rintro e w6 ⟨⟨rb, rfl, hR⟩, hb⟩
      have hX6 := Lib.hid (hX5.out.below hb)
      have hB6 := Lib.hid (hB5.out.trans (hb.mono hB5.out.size))
      have hA6 := Lib.hid (hA5.out.below hb)
      clear hb hX5 hB5 hA5
      have hR6 := Lib.hid hR
      clear hR
      clear u0 u1 u2 u9
      have hin := edges_in hsd
      have hlo : l1.length = (ords s.ps.length (edges s)).length := by have h := congrArg List.length hbA.out; rw [← comps_len]; simpa [bare, compsI] using h
      have hl60 : l1.length ≤ 60 := by have h := ords_len hin; omega
      have hedge : Hid (∀ i h c, (hi : i < (edges s).length) → (edges s)[i] = (h, c) → at' s.ps.length (edges s) h ≤ at' s.ps.length (edges s) c ∧ at' s.ps.length (edges s) h < l1.length) := fun i h c hi he => ⟨at_edge hin (by rw [← he]; exact List.getElem_mem hi), by rw [hlo]; exact at_lt hin (hin (h, c) (by rw [← he]; exact List.getElem_mem hi)).1⟩
      have hyes : Hid (∀ i h c, (hi : i < (edges s).length) → (edges s)[i] = (h, c) → at' s.ps.length (edges s) h + 1 = at' s.ps.length (edges s) c → ∀ x, Ld s.ps.length (edges s) (i + 1) x ↔ Ld s.ps.length (edges s) i x ∨ x = at' s.ps.length (edges s) h) := fun _ _ _ h1 h2 h3 x => ld_yes h1 h2 h3 x
      have hno : Hid (∀ i h c, (hi : i < (edges s).length) → (edges s)[i] = (h, c) → at' s.ps.length (edges s) h + 1 ≠ at' s.ps.length (edges s) c → ∀ x, Ld s.ps.length (edges s) i x ↔ Ld s.ps.length (edges s) (i + 1) x) := fun _ _ _ h1 h2 h3 x => ld_no h1 h2 h3 x
      have htwo : Hid (∀ k, (h : k + 1 < l1.length) → ¬ Ld s.ps.length (edges s) s.cap.length k → ∃ x y : Nat, ∃ u v : List Int, (l1[k]'(Nat.lt_of_succ_lt h)).2.2 = (x : Int) :: u ∧ l1[k + 1].2.2 = (y : Int) :: v ∧ x < y) := fun k h hn => ord_two hsd hbA.out h (by rw [edges_len]; exact hn)
      have hcapin := hs.out.nc
      have hmk := run_make_row' (P := Tryz.prog) 40 4 (.bool false) 1 Tryz.underlying40 infoB rfl .i64 .i64 (l1.length + 1) (by omega) (by omega)
      rw [show ((l1.length + 1 : Nat) : Int) = (l1.length : Int) + 1 by omega] at hmk
      have hD0 := Lib.hid (BoD.made w6 (l1.length + 1) 4)
      have hB0 : Hid (Below w6.heap.size w6 (w6.alloc (.cells (madeCells #[.bool false] (l1.length + 1)) 4))) := (Below.refl _ _).alloc (Nat.le_refl _) _
      have hcap : Hid (∀ x, x ∈ s.cap → (0 ≤ x.1 ∧ x.1 < s.ps.length) ∧ (0 ≤ x.2.1 ∧ x.2.1 < s.ps.length)) := fun x hx => sound_cap hsd hx
      clear hlo hsd hin
      have j1 : IntKind.i64.wrap ((l1.length : Int) + 1) = (l1.length : Int) + 1 := IntWalk.i64_in _ (by omega)
      have j2 : ((l1.length : Int) + 1).toNat = l1.length + 1 := by omega
      have j3 : (0 : Int) ≤ (l1.length : Int) + 1 := by omega
      go_wp2_with fail
      go_wp2
      clear hmk j1 j2 j3
      obtain ⟨w9, hw9⟩ : ∃ x, x = (w6.alloc (.cells (madeCells #[.bool false] (l1.length + 1)) 4)) := ⟨_, rfl⟩
      rw [← hw9] at hD0 hB0 ⊢
      obtain ⟨lb, hlb⟩ : ∃ x, x = w6.heap.size := ⟨_, rfl⟩
      have hbb : Hid (∀ x, x ∈ [lb] → w6.heap.size ≤ x) := fun x hx => by rw [List.mem_singleton.1 hx, hlb]; exact Nat.le_refl _
      rw [← hlb] at hD0 ⊢
      clear hw9 hlb
      generalize hEe : edges s = E at *
      replace hEe := Lib.hid hEe
      have hEl : Hid (E.length = s.cap.length) := by unfold Hid; rw [← hEe.out]; exact edges_len s
      replace hD0 : Hid (BoD w9 lb (l1.length + 1) (Ld s.ps.length E 0)) := hD0.out.congr fun x _ => ⟨fun h => h.elim, fun h => (ld_zero h).elim⟩
      go_loopw [9] (fun ix wr => ∃ (i : Nat), i ≤ s.cap.length ∧ ix = .int .i64 (i : Int) ∧ Hid (Kp [lb] w9 wr) ∧ Hid (BoD wr lb (l1.length + 1) (Ld s.ps.length E i))) (fun ix _ => s.cap.length - (intOf ix).toNat)
      case atStart => exact ⟨0, Nat.zero_le _, rfl, Kp.refl _ _, hD0⟩
      case round =>
        obtain ⟨i, hi, rfl, hK, hD⟩ := hrel
        clear hD0
        have hk : Hid (Below w6.heap.size w6 wr) := hK.out.to_below hB0.out hbb.out
        have hBk : Hid (Below w.heap.size w wr) := hB6.out.trans (hk.out.mono hB6.out.size)
        have hXk := Lib.hid (hX6.out.below hk.out)
        have u1 := hXk.out.cell (j := 1) rfl
        have u9 := hXk.out.lt
        by_cases hil : i < s.cap.length
        · obtain ⟨b, of, rfl, hbl, hcc⟩ := (hs.out.below hBk.out).cap (by omega)
          obtain ⟨e1, e2, _, _, _⟩ := hcc i hil
          have hRk := Lib.hid (hR6.out.below hk.out)
          have hie : i < E.length := by rw [hEl.out]; exact hil
          have hee : E[i] = (s.cap[i].2.1.toNat, s.cap[i].1.toNat) := by simp only [← hEe.out]; exact edges_at hil
          have hix := hcap.out s.cap[i] (List.getElem_mem hil)
          obtain ⟨x, hx⟩ : ∃ x, x = s.cap[i] := ⟨_, rfl⟩
          rw [← hx] at e1 e2 hix hee
          obtain ⟨coI, hoI, gg, nn, dd⟩ := x
          obtain ⟨⟨i1, i2⟩, i3, i4⟩ := hix
          replace i1 : 0 ≤ coI := i1
          replace i2 : coI < s.ps.length := i2
          replace i3 : 0 ≤ hoI := i3
          replace i4 : hoI < s.ps.length := i4
          obtain ⟨co, rfl⟩ : ∃ c : Nat, coI = (c : Int) := ⟨coI.toNat, by omega⟩
          obtain ⟨ho, rfl⟩ : ∃ c : Nat, hoI = (c : Int) := ⟨hoI.toNat, by omega⟩
          replace hee : E[i] = (ho, co) := by simpa using hee
          replace e1 : wr.cell? ⟨b, of + i * 5, none⟩ = some (.int .i64 (co : Int)) := e1
          replace e2 : wr.cell? ⟨b, of + i * 5 + 1, none⟩ = some (.int .i64 (ho : Int)) := e2
          have j0 : (0 : Int) ≤ (i : Int) := by omega
          have j1 : (i : Int) < (s.cap.length : Int) := by omega
          have f1 := hRk.out.cell ho (by omega)
          have f2 := hRk.out.cell co (by omega)
          have f3 := hRk.out.lt
          have hed := hedge.out i ho co hie hee
          have hy := hyes.out i ho co hie hee
          have hn := hno.out i ho co hie hee
          clear hcc hx hee hie hRk
          generalize at' s.ps.length E ho = ah at hed hy hn f1
          generalize at' s.ps.length E co = ac at hed hy hn f2
          obtain ⟨hd1, hd2⟩ := hed
          have k0 : (0 : Int) ≤ (ho : Int) := by omega
          have k1 : (0 : Int) ≤ (co : Int) := by omega
          have m1 : decide ((ac : Int) < (ah : Int)) = false := decide_eq_false (by omega)
          have m1' : decide (ac < ah) = false := decide_eq_false (by omega)
          replace hy := Lib.hid hy; replace hn := Lib.hid hn
          clear hXk hBk hk
          have hcapin' := hcapin
          go_wp2_with fail
          go_quiet (fail)
          have hK2 : Hid (Kp [lb] w9 (wr.drewN nq)) := hK.out.below (bl_drewN (Below.refl _ _) nq)
          have hD2 : Hid (BoD (wr.drewN nq) lb (l1.length + 1) (Ld s.ps.length E i)) := ⟨hD.out.lt, hD.out.cell, hD.out.fr⟩
          obtain ⟨wq, hwq⟩ : ∃ x, x = wr.drewN nq := ⟨_, rfl⟩
          rw [← hwq] at hK2 hD2 ⊢
          clear hwq e1 e2 f1 f2 f3 u1 u9 hK hD hbl
          have j2 : IntKind.i64.wrap ((ah : Int) + 1) = (ah : Int) + 1 := IntWalk.i64_in _ (by omega)
          by_cases hac : ah + 1 = ac
          · have m2 : (((ah : Int) + 1) == (ac : Int)) = true := by rw [beq_iff_eq]; omega
            have p1 := hD2.out.cell ah (by omega)
            have p2 := hD2.out.fr ah
            have p3 := hD2.out.lt
            have hD3 : Hid (BoD (wq.setCell ⟨lb, ah, none⟩ (.bool true)) lb (l1.length + 1) (Ld s.ps.length E (i + 1))) := hD2.out.set (by omega) (hy.out hac)
            have hK3 := Lib.hid (hK2.out.set (a := ⟨lb, ah, none⟩) (.bool true) (.inl (List.mem_singleton.2 rfl)))
            have j3 : (0 : Int) ≤ (ah : Int) := by omega
            have j4 : (ah : Int) < (l1.length : Int) + 1 := by omega
            have j5 : (ah : Int) < ((l1.length + 1 : Nat) : Int) := by omega
            replace hac := Lib.hid hac
            clear hn hy
            go_wp2
            exact ⟨⟨i + 1, by omega, by go_num, hK3, hD3⟩, by simp only [intOf]; omega⟩
          · have m2 : (((ah : Int) + 1) == (ac : Int)) = false := by rw [beq_eq_false_iff_ne]; omega
            have hD3 : Hid (BoD wq lb (l1.length + 1) (Ld s.ps.length E (i + 1))) := hD2.out.congr fun x _ => hn.out hac x
            replace hac := Lib.hid hac
            clear hn hy
            go_wp2
            exact ⟨⟨i + 1, by omega, by go_num, hK2, hD3⟩, by simp only [intOf]; omega⟩
        · obtain rfl : i = s.cap.length := by omega
          clear hcapin hcap hedge hyes hno
          go_wp2
          clear u1 u9 hXk hi hil
          have hAk := Lib.hid (hA6.out.below hk.out)
          clear hk hK
          go_loopw [12] (fun ix wz => ∃ (k q : Nat), k ≤ l1.length ∧ ix = .int .i64 (k : Int) ∧ wz = wr.drewN q) (fun ix _ => l1.length - (intOf ix).toNat)
          case atStart => exact ⟨0, 0, Nat.zero_le _, rfl, rfl⟩
          case round =>
            obtain ⟨k, q, hk, rfl, rfl⟩ := hrel
            have k0 : (0 : Int) ≤ (k : Int) := by omega
            have k3 : (0 : Int) ≤ (k : Int) + 1 := by omega
            have k2 : IntKind.i64.wrap ((k : Int) + 1) = (k : Int) + 1 := IntWalk.i64_in _ (by omega)
            by_cases hkl : k + 1 < l1.length
            · have m1 : decide ((k : Int) + 1 < (l1.length : Int)) = true := decide_eq_true (by omega)
              have m1' : decide (k + 1 < l1.length) = true := decide_eq_true hkl
              have k4 : ((k : Int) + 1).toNat = k + 1 := by omega
              have k1 : (k : Int) < (l1.length : Int) := by omega
              have k5 : (k : Int) + 1 < (l1.length : Int) := by omega
              have k6 : (k : Int) < (l1.length : Int) + 1 := by omega
              have f0 : (wr.drewN q).cell? ⟨lb, k, none⟩ = some (.bool (bV (Ld s.ps.length E s.cap.length k))) := hD.out.cell k (by omega)
              by_cases hld : Ld s.ps.length E s.cap.length k
              · rw [bV_true hld] at f0
                replace hld := Lib.hid hld
                generalize hwq : wr.drewN q = wq at *
                replace hwq := Lib.hid hwq
                go_wp2_with fail
                go_quiet (fail)
                clear f0 k1 k4 k5 k6 m1 m1'
                go_wp2
                exact ⟨⟨k + 1, q + nq, by omega, by go_num, by rw [← hwq.out, World.drewN_drewN]⟩, by simp only [intOf]; omega⟩
              · rw [bV_false hld] at f0
                obtain ⟨x, y, u, v, h1, h2, hxy⟩ := htwo.out k hkl hld
                obtain ⟨gb, go, rfl, hgb, hgc⟩ := hAk.out (by omega)
                obtain ⟨c1, c2, _⟩ := hgc k (Nat.lt_of_succ_lt hkl)
                obtain ⟨c3, c4, _⟩ := hgc (k + 1) hkl
                rw [h1] at c1 c2
                rw [h2] at c3 c4
                obtain ⟨b1, o1, d1, _, d2⟩ := c2 (by simp)
                obtain ⟨b2, o2, d3, _, d4⟩ := c4 (by simp)
                rw [d1, List.length_cons] at c1
                rw [d3, List.length_cons] at c3
                have d5 := d2 0 (by simp)
                have d6 := d4 0 (by simp)
                rw [List.getElem_cons_zero, Nat.add_zero] at d5 d6
                replace c1 : (wr.drewN q).cell? ⟨gb, go + k, none⟩ = _ := c1
                replace c3 : (wr.drewN q).cell? ⟨gb, go + (k + 1), none⟩ = _ := c3
                replace d5 : (wr.drewN q).cell? ⟨b1, o1, none⟩ = _ := d5
                replace d6 : (wr.drewN q).cell? ⟨b2, o2, none⟩ = _ := d6
                have q1 : (0 : Int) < (u.length : Int) + 1 := by omega
                have q2 : (0 : Int) < (v.length : Int) + 1 := by omega
                have m2 : decide ((y : Int) < (x : Int)) = false := decide_eq_false (by omega)
                have m2' : decide (y < x) = false := decide_eq_false (by omega)
                clear hgc h1 h2 d1 d2 d3 d4 hld hxy c2 c4
                generalize (l1[k]'(Nat.lt_of_succ_lt hkl)).2.1 = ca at c1
                generalize (l1[k + 1]'hkl).2.1 = cb at c3
                have hgo : go + (k + 1) = go + (k + 1) := rfl
                clear hgo
                generalize hwq : wr.drewN q = wq at *
                replace hwq := Lib.hid hwq
                go_wp2_with fail
                go_quiet (fail)
                clear f0 k1 k4 k5 k6 m1 m1' m2 m2' c1 c3 d5 d6 q1 q2
                go_wp2
                exact ⟨⟨k + 1, q + nq, by omega, by go_num, by rw [← hwq.out, World.drewN_drewN]⟩, by simp only [intOf]; omega⟩
            · have m1 : decide ((k : Int) + 1 < (l1.length : Int)) = false := decide_eq_false (by omega)
              have m1' : decide (k + 1 < l1.length) = false := decide_eq_false hkl
              replace hkl := Lib.hid hkl
              go_wp2
              go_ret
              exact ⟨rfl, bl_drewN hBk.out q⟩
end Ci
end Go.Proofs.YthggedpgcchneaaGreatDoor

/- The law CircleMeets. Printed by gen_lcmeets.py. -/
import Derived.Test.YthggedpgcchneaaGreatDoorCirH
import Derived.Deep.RegionHeld3
import Derived.Deep.QuietTactic
import Derived.BigQuiet
namespace Go.Proofs.YthggedpgcchneaaGreatDoor
open Go.RowKit Go.Shelf
namespace Ci
open Nt
open Classical

theorem rem_in {x : Int} {n : Nat} (hx : 0 ≤ x) (hn : n ≠ 0) : ∃ p : Nat, x % (n : Int) = (p : Int) ∧ p < n ∧ x.tmod (n : Int) = (p : Int) := by
  have h0 := Int.emod_nonneg x (show (n : Int) ≠ 0 by omega)
  have h1 := Int.emod_lt_of_pos x (show (0 : Int) < (n : Int) by omega)
  refine ⟨(x % (n : Int)).toNat, by omega, by omega, ?_⟩
  rw [Int.tmod_eq_emod_of_nonneg hx]
  omega
/-- An operation of a region, by its number alone. -/
theorem wpAnyH_op {P : Program} {ops : Array Oper} {Q : Exit → Act → World → Prop} {md : Region.Mode} {S : World → Prop} {i fuel : Nat} {listed : Array Bool} {a : Act} {w : World} (hs : Region.noSelect ops = true) (hf : Region.free md ops listed i = true) (hr : (Region.ready md ops listed).contains i = true) (hi : (ops[i]?).isSome = true) (hS : S w)
    (h : ∀ oi, ops[i]? = some oi → ∃ v, (∀ c a w, Q (.panic c) (a.put oi.dst v) w → Q (.panic c) a w) ∧ YieldsIf P ops S oi v a ∧ wpAnyH P md ops Q S fuel (listed.setIfInBounds i true) (a.put oi.dst v) w) : wpAnyH P md ops Q S (fuel + 1) listed a w := by
  obtain ⟨oi, ho⟩ := Option.isSome_iff_exists.1 hi
  obtain ⟨v, h1, h2, h3⟩ := h oi ho
  exact wpAnyH_take ho hs hf hr h1 h2 hS h3
/-- The only one that may come up, by its number alone. -/
theorem wpAnyH_one {P : Program} {ops : Array Oper} {Q : Exit → Act → World → Prop} {md : Region.Mode} {S : World → Prop} {i fuel : Nat} {listed : Array Bool} {a : Act} {w : World} (hr : Region.ready md ops listed = [i]) (hi : (ops[i]?).isSome = true)
    (h : ∀ oi, ops[i]? = some oi → AllReadyH P md ops Q S fuel listed a w [i]) : wpAnyH P md ops Q S (fuel + 1) listed a w := by
  obtain ⟨oi, ho⟩ := Option.isSome_iff_exists.1 hi
  exact wpAnyH_ready hr (by simp) (h oi ho)

set_option maxRecDepth 100000 in
set_option maxHeartbeats 16000000 in
theorem law_meets (s : SR) (Ap Ac Av : Option Addr) (cp cc cv : Nat) (x y : Int) (hx0 : 0 ≤ x) (hx1 : x ≤ 255) (hy0 : 0 ≤ y) (hy1 : y ≤ 255) (w : World) (hE : Env w) (hs : StIn w s Ap Ac Av) :
    Calls Tryz.prog 5 #[.agg #[.slice Ap s.ps.length cp, .slice Ac s.cap.length cc, .slice Av s.vot.length cv], .int .u8 x, .int .u8 y] w fun e w' => e = .returned (.bool true) ∧ Below w.heap.size w w' := by
  have hX1 : Hid (Bk (w.alloc (.cells #[.slice Ap s.ps.length cp, .slice Ac s.cap.length cc, .slice Av s.vot.length cv] 25)) w.heap.size 25 (SC s Ap Ac Av cp cc cv)) := Bk.new w _ _
  have hB1 : Hid (Below w.heap.size w (w.alloc (.cells #[.slice Ap s.ps.length cp, .slice Ac s.cap.length cc, .slice Av s.vot.length cv] 25))) := (Below.refl _ w).alloc (Nat.le_refl _) _
  replace hE := Lib.hid hE
  replace hs := Lib.hid hs
  go_enter Tryz.func5, Tryz.ntmps5
  go_wp2_with fail
  refine (head_any _ (hE.out.below hB1.out)).mono ?_
  rintro e w2 ⟨rfl, hb⟩
  have hX2 := Lib.hid (hX1.out.below hb)
  have hB2 := Lib.hid (hB1.out.trans (hb.mono hB1.out.size))
  clear hb hX1 hB1
  have u0 := hX2.out.cell (j := 0) rfl
  have u1 := hX2.out.cell (j := 1) rfl
  have u2 := hX2.out.cell (j := 2) rfl
  have u9 := hX2.out.lt
  have kf := few18_any s Ap Ac Av none cp cc cv 0 [] w2 (hs.out.below hB2.out) (by decide)
  cases hfw : few18 s [] with
  | false =>
    rw [hfw] at kf
    replace kf := Lib.hid kf
    clear hfw
    go_wp2_with fail
    refine kf.out.mono ?_
    rintro e w3 ⟨rfl, hb⟩
    have hX3 := Lib.hid (hX2.out.below hb)
    have hB3 := Lib.hid (hB2.out.trans (hb.mono hB2.out.size))
    clear hb hX2 hB2
    clear u0 u1 u2 u9
    go_wp2
    go_ret
    exact ⟨rfl, hB3.out⟩
  | true =>
    rw [hfw] at kf
    replace kf := Lib.hid kf
    obtain ⟨_, hc3, _, _⟩ := few18_sz hfw
    clear hfw
    go_wp2_with fail
    refine kf.out.mono ?_
    rintro e w3 ⟨rfl, hb⟩
    have hX3 := Lib.hid (hX2.out.below hb)
    have hB3 := Lib.hid (hB2.out.trans (hb.mono hB2.out.size))
    clear hb hX2 hB2
    clear u0 u1 u2 u9
    clear kf
    have u0 := hX3.out.cell (j := 0) rfl
    have u1 := hX3.out.cell (j := 1) rfl
    have u2 := hX3.out.cell (j := 2) rfl
    have u9 := hX3.out.lt
    have ks := Sound_any s Ap Ac Av cp cc cv w3 (hE.out.below hB3.out) (hs.out.below hB3.out)
    cases hsd : soundB s with
    | false =>
      rw [hsd] at ks
      replace ks := Lib.hid ks
      replace hsd := Lib.hid hsd
      go_wp2_with fail
      refine ks.out.mono ?_
      rintro e w4 ⟨rfl, hb⟩
      have hX4 := Lib.hid (hX3.out.below hb)
      have hB4 := Lib.hid (hB3.out.trans (hb.mono hB3.out.size))
      clear hb hX3 hB3
      clear u0 u1 u2 u9
      go_wp2
      go_ret
      exact ⟨rfl, hB4.out⟩
    | true =>
      rw [hsd] at ks
      replace ks := Lib.hid ks
      have hn60 := sound_n hsd
      go_wp2_with fail
      refine ks.out.mono ?_
      rintro e w4 ⟨rfl, hb⟩
      have hX4 := Lib.hid (hX3.out.below hb)
      have hB4 := Lib.hid (hB3.out.trans (hb.mono hB3.out.size))
      clear hb hX3 hB3
      clear u0 u1 u2 u9
      clear ks
      have u0 := hX4.out.cell (j := 0) rfl
      have u1 := hX4.out.cell (j := 1) rfl
      have u2 := hX4.out.cell (j := 2) rfl
      have u9 := hX4.out.lt
      by_cases hn0 : s.ps.length = 0
      · have m1 : ((s.ps.length : Int) == 0) = true := by rw [beq_iff_eq]; omega
        have m2 : (s.ps.length == 0) = true := by rw [beq_iff_eq]; exact hn0
        replace hn0 := Lib.hid hn0
        go_wp2
        go_ret
        exact ⟨rfl, hB4.out⟩
      · have m1 : ((s.ps.length : Int) == 0) = false := by rw [beq_eq_false_iff_ne]; omega
        have m2 : (s.ps.length == 0) = false := by rw [beq_eq_false_iff_ne]; exact hn0
        have kr2 : Hid (Calls Tryz.prog 11 #[.agg #[.slice Ap s.ps.length cp, .slice Ac s.cap.length cc, .slice Av s.vot.length cv]] w4 fun e w' => (∃ A c l, e = .returned (.tuple #[.slice A (List.length l) c, .int .i64 0]) ∧ InLs w' A l ∧ bare l = compsI s) ∧ Below w4.heap.size w4 w') := (Components_any s Ap Ac Av cp cc cv w4 (hE.out.below hB4.out) (hs.out.below hB4.out) hc3).mono fun e w' h => ⟨by have h1 := h.1; rwa [if_pos hsd] at h1, h.2⟩
        go_wp2_with fail
        refine kr2.out.mono ?_
        rintro e w5 ⟨⟨A1, c1, l1, rfl, hA, hbA⟩, hb⟩
        have hX5 := Lib.hid (hX4.out.below hb)
        have hB5 := Lib.hid (hB4.out.trans (hb.mono hB4.out.size))
        clear hb hX4 hB4
        have hA5 := Lib.hid hA
        clear hA
        clear u0 u1 u2 u9
        clear kr2 m1 m2
        replace hbA := Lib.hid hbA
        have u0 := hX5.out.cell (j := 0) rfl
        have u1 := hX5.out.cell (j := 1) rfl
        have u2 := hX5.out.cell (j := 2) rfl
        have u9 := hX5.out.lt
        go_wp2_with fail
        refine (places_any s Ap Ac Av cp cc cv A1 c1 l1 w5 hsd hA5.out hbA.out).mono ?_
        rintro e w6 ⟨⟨rb, rfl, hR⟩, hb⟩
        have hX6 := Lib.hid (hX5.out.below hb)
        have hB6 := Lib.hid (hB5.out.trans (hb.mono hB5.out.size))
        have hA6 := Lib.hid (hA5.out.below hb)
        clear hb hX5 hB5 hA5
        have hR6 := Lib.hid hR
        clear hR
        clear u0 u1 u2 u9
        obtain ⟨p, hp, hpn, hp2⟩ := rem_in hx0 hn0
        obtain ⟨q, hq, hqn, hq2⟩ := rem_in hy0 hn0
        have hnz : (s.ps.length : Int) ≠ 0 := by omega
        have hn0i : ((s.ps.length : Int) == 0) = false := by rw [beq_eq_false_iff_ne]; omega
        have u0 := hX6.out.cell (j := 0) rfl
        have u9 := hX6.out.lt
        go_wp2_with fail
        go_quiet (fail)
        have hB' := Lib.hid (bl_drewN hB6.out nq)
        have hX' : Hid (Bk (w6.drewN nq) w.heap.size 25 (SC s Ap Ac Av cp cc cv)) := hX6.out
        have hR' : Hid (RoI (w6.drewN nq) rb s.ps.length (fun x => (at' s.ps.length (edges s) x : Int))) := ⟨hR6.out.lt, hR6.out.cell, hR6.out.fr⟩
        obtain ⟨wq, hwq⟩ : ∃ x, x = w6.drewN nq := ⟨_, rfl⟩
        rw [← hwq] at hB' hX' hR' ⊢
        clear hB6 hX6 hR6 hA6 hwq u0 u9 hp2 hq2 hn0i hnz
        have hsq := hs.out.below hB'.out
        have k1 : Hid (∀ W, Below w.heap.size w W → Calls Tryz.prog 19 #[.agg #[.slice Ap s.ps.length cp, .slice Ac s.cap.length cc, .slice Av s.vot.length cv], .int .i64 (p : Int), .int .i64 (q : Int)] W fun e w' => e = .returned (.int .i64 (rk (edges s) [p] q)) ∧ Below W.heap.size W w') := fun W hW => Dist_any s Ap Ac Av cp cc cv p q W (hs.out.below hW) hsd hpn hqn
        have k2 : Hid (∀ W, Below w.heap.size w W → Calls Tryz.prog 19 #[.agg #[.slice Ap s.ps.length cp, .slice Ac s.cap.length cc, .slice Av s.vot.length cv], .int .i64 (q : Int), .int .i64 (p : Int)] W fun e w' => e = .returned (.int .i64 (rk (edges s) [q] p)) ∧ Below W.heap.size W w') := fun W hW => Dist_any s Ap Ac Av cp cc cv q p W (hs.out.below hW) hsd hqn hpn
        have hlR := hR'.out.lt
        have hlX := hX'.out.lt
        have HS : Hid (∀ W, Below wq.heap.size wq W → (fun W => (W.cell? ⟨rb, p, none⟩ = some (.int .i64 (at' s.ps.length (edges s) p : Int)) ∧ W.cell? ⟨rb, q, none⟩ = some (.int .i64 (at' s.ps.length (edges s) q : Int))) ∧ W.cell? ⟨w.heap.size, 0, none⟩ = some (.slice Ap s.ps.length cp) ∧ W.cell? ⟨w.heap.size, 1, none⟩ = some (.slice Ac s.cap.length cc) ∧ W.cell? ⟨w.heap.size, 2, none⟩ = some (.slice Av s.vot.length cv)) W) := fun W hb => ⟨⟨(hb.cell (p := ⟨rb, p, none⟩) hlR).trans (hR'.out.cell p hpn), (hb.cell (p := ⟨rb, q, none⟩) hlR).trans (hR'.out.cell q hqn)⟩, (hX'.out.below hb).cell (j := 0) rfl, (hX'.out.below hb).cell (j := 1) rfl, (hX'.out.below hb).cell (j := 2) rfl⟩
        have hm := at_same (edges_in hsd) hpn hqn
        have r1 := rk_one (E := edges s) (p := p) (q := q)
        have r2 := rk_one (E := edges s) (p := q) (q := p)
        generalize at' s.ps.length (edges s) p = ap at *
        generalize at' s.ps.length (edges s) q = aq at *
        generalize rk (edges s) [p] q = d1 at *
        generalize rk (edges s) [q] p = d2 at *
        have hcl : (0 ≤ d1 ∧ 0 ≤ d2 ∧ ap = aq) ∨ (0 ≤ d1 ∧ d2 < 0 ∧ ap ≠ aq) ∨ (d1 < 0 ∧ ap ≠ aq) := by
          by_cases c1 : 0 ≤ d1
          · by_cases c2 : 0 ≤ d2
            · exact .inl ⟨c1, c2, hm.2 ⟨r1.1 c1, r2.1 c2⟩⟩
            · exact .inr (.inl ⟨c1, by omega, fun e => c2 (r2.2 (hm.1 e).2)⟩)
          · exact .inr (.inr ⟨by omega, fun e => c1 (r1.2 (hm.1 e).1)⟩)
        clear hm r1 r2 hsd hR' hX' hsq
        have hwz := hB'.out.size
        replace hpn := Lib.hid hpn
        replace hqn := Lib.hid hqn
        have p0 : (0 : Int) ≤ (p : Int) := by omega
        have p1 : (p : Int) < (s.ps.length : Int) := by have := hpn.out; omega
        have q0 : (0 : Int) ≤ (q : Int) := by omega
        have q1 : (q : Int) < (s.ps.length : Int) := by have := hqn.out; omega
        rcases hcl with ⟨c1, c2, c3⟩ | ⟨c1, c2, c3⟩ | ⟨c1, c3⟩
        · have m3 : ((ap : Int) == (aq : Int)) = true := by rw [beq_iff_eq]; omega
          have m4 : decide (0 ≤ d1) = true := decide_eq_true (by omega)
          have m5 : decide (0 ≤ d2) = true := decide_eq_true (by omega)
          have z0 : Hid (Below wq.heap.size wq wq.drew) := (Below.refl _ wq).drew
          replace c3 := Lib.hid c3
          go_wp2_with fail
          first | go_region_held3 (fun W => (W.cell? ⟨rb, p, none⟩ = some (.int .i64 (ap : Int)) ∧ W.cell? ⟨rb, q, none⟩ = some (.int .i64 (aq : Int))) ∧ W.cell? ⟨w.heap.size, 0, none⟩ = some (.slice Ap s.ps.length cp) ∧ W.cell? ⟨w.heap.size, 1, none⟩ = some (.slice Ac s.cap.length cc) ∧ W.cell? ⟨w.heap.size, 2, none⟩ = some (.slice Av s.vot.length cv)) (first | (with_reducible exact HS.out _ (Below.refl _ _)) | (with_reducible exact HS.out _ z0.out) | (with_reducible exact HS.out _ z1.out) | (with_reducible exact HS.out _ z2.out) | go_keep)
            (first
              | (go_at_call 19; with_reducible refine (k1.out _ (hB'.out.trans (z0.out.mono hwz))).mono ?_; rintro e wy ⟨rfl, hb⟩; have z1 := Lib.hid (z0.out.trans (hb.mono z0.out.size)); clear hb)
              | (go_at_call 19; with_reducible refine (k2.out _ (hB'.out.trans (z1.out.mono hwz))).mono ?_; rintro e wy ⟨rfl, hb⟩; have z2 := Lib.hid (z1.out.trans (hb.mono z1.out.size)); clear hb)) | fail
          go_wp2
          go_ret
          exact ⟨rfl, hB'.out.trans (z2.out.mono hwz)⟩
        · have m3 : ((ap : Int) == (aq : Int)) = false := by rw [beq_eq_false_iff_ne]; omega
          have m4 : decide (0 ≤ d1) = true := decide_eq_true (by omega)
          have m5 : decide (0 ≤ d2) = false := decide_eq_false (by omega)
          have z0 : Hid (Below wq.heap.size wq wq.drew) := (Below.refl _ wq).drew
          replace c3 := Lib.hid c3
          go_wp2_with fail
          first | go_region_held3 (fun W => (W.cell? ⟨rb, p, none⟩ = some (.int .i64 (ap : Int)) ∧ W.cell? ⟨rb, q, none⟩ = some (.int .i64 (aq : Int))) ∧ W.cell? ⟨w.heap.size, 0, none⟩ = some (.slice Ap s.ps.length cp) ∧ W.cell? ⟨w.heap.size, 1, none⟩ = some (.slice Ac s.cap.length cc) ∧ W.cell? ⟨w.heap.size, 2, none⟩ = some (.slice Av s.vot.length cv)) (first | (with_reducible exact HS.out _ (Below.refl _ _)) | (with_reducible exact HS.out _ z0.out) | (with_reducible exact HS.out _ z1.out) | (with_reducible exact HS.out _ z2.out) | go_keep)
            (first
              | (go_at_call 19; with_reducible refine (k1.out _ (hB'.out.trans (z0.out.mono hwz))).mono ?_; rintro e wy ⟨rfl, hb⟩; have z1 := Lib.hid (z0.out.trans (hb.mono z0.out.size)); clear hb)
              | (go_at_call 19; with_reducible refine (k2.out _ (hB'.out.trans (z1.out.mono hwz))).mono ?_; rintro e wy ⟨rfl, hb⟩; have z2 := Lib.hid (z1.out.trans (hb.mono z1.out.size)); clear hb)) | fail
          go_wp2
          go_ret
          exact ⟨rfl, hB'.out.trans (z2.out.mono hwz)⟩
        · have m3 : ((ap : Int) == (aq : Int)) = false := by rw [beq_eq_false_iff_ne]; omega
          have m4 : decide (0 ≤ d1) = false := decide_eq_false (by omega)
          have z0 : Hid (Below wq.heap.size wq wq.drew) := (Below.refl _ wq).drew
          replace c3 := Lib.hid c3
          go_wp2_with fail
          refine wp_region_held_drew (S := fun W => (W.cell? ⟨rb, p, none⟩ = some (.int .i64 (ap : Int)) ∧ W.cell? ⟨rb, q, none⟩ = some (.int .i64 (aq : Int))) ∧ W.cell? ⟨w.heap.size, 0, none⟩ = some (.slice Ap s.ps.length cp) ∧ W.cell? ⟨w.heap.size, 1, none⟩ = some (.slice Ac s.cap.length cc) ∧ W.cell? ⟨w.heap.size, 2, none⟩ = some (.slice Av s.vot.length cv)) (by kernel_rfl) (HS.out _ z0.out) (fun hHeld => ?_)
          refine wpAnyH_op (i := 0) (by kernel_rfl) (by kernel_rfl) (by kernel_rfl) (by rfl) (by assumption) (fun oi ho => ?_)
          simp only [List.getElem?_toArray, List.getElem?_cons_zero, Option.some.injEq] at ho
          subst ho
          refine ⟨?_, fun _ _ _ h => h, .inl ⟨by rfl, fun W hSw => ?_⟩, ?_⟩
          rotate_left
          · (try dsimp only at hSw); (go_simp) <;> with_reducible rfl
          simp only [Act.put, List.setIfInBounds_toArray, List.set_cons_zero, List.set_cons_succ]
          refine wpAnyH_op (i := 1) (by kernel_rfl) (by kernel_rfl) (by kernel_rfl) (by rfl) (by assumption) (fun oi ho => ?_)
          simp only [List.getElem?_toArray, List.getElem?_cons_succ, List.getElem?_cons_zero, Option.some.injEq] at ho
          subst ho
          refine ⟨?_, fun _ _ _ h => h, .inl ⟨by rfl, fun W hSw => ?_⟩, ?_⟩
          rotate_left
          · (try dsimp only at hSw); (go_simp) <;> with_reducible rfl
          simp only [Act.put, List.setIfInBounds_toArray, List.set_cons_zero, List.set_cons_succ]
          refine wpAnyH_op (i := 2) (by kernel_rfl) (by kernel_rfl) (by kernel_rfl) (by rfl) (by assumption) (fun oi ho => ?_)
          simp only [List.getElem?_toArray, List.getElem?_cons_succ, List.getElem?_cons_zero, Option.some.injEq] at ho
          subst ho
          refine ⟨?_, fun _ _ _ h => h, .inl ⟨by rfl, fun W hSw => ?_⟩, ?_⟩
          rotate_left
          · (try dsimp only at hSw); (go_simp) <;> with_reducible rfl
          simp only [Act.put, List.setIfInBounds_toArray, List.set_cons_zero, List.set_cons_succ]
          refine wpAnyH_op (i := 3) (by kernel_rfl) (by kernel_rfl) (by kernel_rfl) (by rfl) (by assumption) (fun oi ho => ?_)
          simp only [List.getElem?_toArray, List.getElem?_cons_succ, List.getElem?_cons_zero, Option.some.injEq] at ho
          subst ho
          refine ⟨?_, fun _ _ _ h => h, .inl ⟨by rfl, fun W hSw => ?_⟩, ?_⟩
          rotate_left
          · (try dsimp only at hSw); (go_simp) <;> with_reducible rfl
          simp only [Act.put, List.setIfInBounds_toArray, List.set_cons_zero, List.set_cons_succ]
          refine wpAnyH_op (i := 4) (by kernel_rfl) (by kernel_rfl) (by kernel_rfl) (by rfl) (by assumption) (fun oi ho => ?_)
          simp only [List.getElem?_toArray, List.getElem?_cons_succ, List.getElem?_cons_zero, Option.some.injEq] at ho
          subst ho
          refine ⟨?_, fun _ _ _ h => h, .inl ⟨by rfl, fun W hSw => ?_⟩, ?_⟩
          rotate_left
          · (try dsimp only at hSw); (go_simp) <;> with_reducible rfl
          simp only [Act.put, List.setIfInBounds_toArray, List.set_cons_zero, List.set_cons_succ]
          refine wpAnyH_op (i := 5) (by kernel_rfl) (by kernel_rfl) (by kernel_rfl) (by rfl) (by assumption) (fun oi ho => ?_)
          simp only [List.getElem?_toArray, List.getElem?_cons_succ, List.getElem?_cons_zero, Option.some.injEq] at ho
          subst ho
          refine ⟨?_, fun _ _ _ h => h, .inl ⟨by rfl, fun W hSw => ?_⟩, ?_⟩
          rotate_left
          · (try dsimp only at hSw); (go_simp) <;> with_reducible rfl
          simp only [Act.put, List.setIfInBounds_toArray, List.set_cons_zero, List.set_cons_succ]
          refine wpAnyH_op (i := 6) (by kernel_rfl) (by kernel_rfl) (by kernel_rfl) (by rfl) (by assumption) (fun oi ho => ?_)
          simp only [List.getElem?_toArray, List.getElem?_cons_succ, List.getElem?_cons_zero, Option.some.injEq] at ho
          subst ho
          refine ⟨?_, fun _ _ _ h => h, .inl ⟨by rfl, fun W hSw => ?_⟩, ?_⟩
          rotate_left
          · (try dsimp only at hSw); (go_simp) <;> with_reducible rfl
          simp only [Act.put, List.setIfInBounds_toArray, List.set_cons_zero, List.set_cons_succ]
          refine wpAnyH_op (i := 7) (by kernel_rfl) (by kernel_rfl) (by kernel_rfl) (by rfl) (by assumption) (fun oi ho => ?_)
          simp only [List.getElem?_toArray, List.getElem?_cons_succ, List.getElem?_cons_zero, Option.some.injEq] at ho
          subst ho
          refine ⟨?_, fun _ _ _ h => h, .inl ⟨by rfl, fun W hSw => ?_⟩, ?_⟩
          rotate_left
          · (try dsimp only at hSw); (go_simp) <;> with_reducible rfl
          simp only [Act.put, List.setIfInBounds_toArray, List.set_cons_zero, List.set_cons_succ]
          refine wpAnyH_op (i := 8) (by kernel_rfl) (by kernel_rfl) (by kernel_rfl) (by rfl) (by assumption) (fun oi ho => ?_)
          simp only [List.getElem?_toArray, List.getElem?_cons_succ, List.getElem?_cons_zero, Option.some.injEq] at ho
          subst ho
          refine ⟨?_, fun _ _ _ h => h, .inl ⟨by rfl, fun W hSw => ?_⟩, ?_⟩
          rotate_left
          · (try dsimp only at hSw); (go_simp) <;> with_reducible rfl
          simp only [Act.put, List.setIfInBounds_toArray, List.set_cons_zero, List.set_cons_succ]
          refine wpAnyH_op (i := 9) (by kernel_rfl) (by kernel_rfl) (by kernel_rfl) (by rfl) (by assumption) (fun oi ho => ?_)
          simp only [List.getElem?_toArray, List.getElem?_cons_succ, List.getElem?_cons_zero, Option.some.injEq] at ho
          subst ho
          refine ⟨?_, fun _ _ _ h => h, .inl ⟨by rfl, fun W hSw => ?_⟩, ?_⟩
          rotate_left
          · (try dsimp only at hSw); (go_simp) <;> with_reducible rfl
          simp only [Act.put, List.setIfInBounds_toArray, List.set_cons_zero, List.set_cons_succ]
          refine wpAnyH_op (i := 10) (by kernel_rfl) (by kernel_rfl) (by kernel_rfl) (by rfl) (by assumption) (fun oi ho => ?_)
          simp only [List.getElem?_toArray, List.getElem?_cons_succ, List.getElem?_cons_zero, Option.some.injEq] at ho
          subst ho
          refine ⟨?_, fun _ _ _ h => h, .inl ⟨by rfl, fun W hSw => ?_⟩, ?_⟩
          rotate_left
          · (try dsimp only at hSw); (go_simp) <;> with_reducible rfl
          simp only [Act.put, List.setIfInBounds_toArray, List.set_cons_zero, List.set_cons_succ]
          refine wpAnyH_op (i := 11) (by kernel_rfl) (by kernel_rfl) (by kernel_rfl) (by rfl) (by assumption) (fun oi ho => ?_)
          simp only [List.getElem?_toArray, List.getElem?_cons_succ, List.getElem?_cons_zero, Option.some.injEq] at ho
          subst ho
          refine ⟨?_, fun _ _ _ h => h, .inl ⟨by rfl, fun W hSw => ?_⟩, ?_⟩
          rotate_left
          · (try dsimp only at hSw); (go_simp) <;> with_reducible rfl
          simp only [Act.put, List.setIfInBounds_toArray, List.set_cons_zero, List.set_cons_succ]
          refine wpAnyH_op (i := 12) (by kernel_rfl) (by kernel_rfl) (by kernel_rfl) (by rfl) (by assumption) (fun oi ho => ?_)
          simp only [List.getElem?_toArray, List.getElem?_cons_succ, List.getElem?_cons_zero, Option.some.injEq] at ho
          subst ho
          refine ⟨?_, fun _ _ _ h => h, .inl ⟨by rfl, fun W hSw => ?_⟩, ?_⟩
          rotate_left
          · (try dsimp only at hSw); (go_simp) <;> with_reducible rfl
          simp only [Act.put, List.setIfInBounds_toArray, List.set_cons_zero, List.set_cons_succ]
          refine wpAnyH_op (i := 13) (by kernel_rfl) (by kernel_rfl) (by kernel_rfl) (by rfl) (by assumption) (fun oi ho => ?_)
          simp only [List.getElem?_toArray, List.getElem?_cons_succ, List.getElem?_cons_zero, Option.some.injEq] at ho
          subst ho
          refine ⟨?_, fun _ _ _ h => h, .inl ⟨by rfl, fun W hSw => ?_⟩, ?_⟩
          rotate_left
          · (try dsimp only at hSw); (go_simp) <;> with_reducible rfl
          simp only [Act.put, List.setIfInBounds_toArray, List.set_cons_zero, List.set_cons_succ]
          refine wpAnyH_one (i := 14) (by kernel_rfl) (by rfl) (fun oi ho => ?_)
          refine AllReadyH.cons ho (fun K hK => ?_) AllReadyH.nil
          simp only [List.getElem?_toArray, List.getElem?_cons_succ, List.getElem?_cons_zero, Option.some.injEq] at ho
          subst ho
          go_simp
          go_at_call 19
          with_reducible refine (k1.out _ (hB'.out.trans (z0.out.mono hwz))).mono ?_
          rintro e wy ⟨rfl, hb⟩
          have z1 := Lib.hid (z0.out.trans (hb.mono z0.out.size))
          clear hb hHeld
          go_wp2_with fail
          refine hK.out _ _ (HS.out _ z1.out) (fun hHeld => ?_)
          clear hK K
          refine wpAnyH_op (i := 15) (by kernel_rfl) (by kernel_rfl) (by kernel_rfl) (by rfl) (by assumption) (fun oi ho => ?_)
          simp only [List.getElem?_toArray, List.getElem?_cons_succ, List.getElem?_cons_zero, Option.some.injEq] at ho
          subst ho
          refine ⟨?_, fun _ _ _ h => h, .inl ⟨by rfl, fun W hSw => ?_⟩, ?_⟩
          rotate_left
          · (try dsimp only at hSw); (go_simp) <;> with_reducible rfl
          simp only [Act.put, List.setIfInBounds_toArray, List.set_cons_zero, List.set_cons_succ]
          refine wpAnyH_op (i := 16) (by kernel_rfl) (by kernel_rfl) (by kernel_rfl) (by rfl) (by assumption) (fun oi ho => ?_)
          simp only [List.getElem?_toArray, List.getElem?_cons_succ, List.getElem?_cons_zero, Option.some.injEq] at ho
          subst ho
          refine ⟨?_, fun _ _ _ h => h, .inl ⟨by rfl, fun W hSw => ?_⟩, ?_⟩
          rotate_left
          · (try dsimp only at hSw); (go_simp) <;> with_reducible rfl
          simp only [Act.put, List.setIfInBounds_toArray, List.set_cons_zero, List.set_cons_succ]
          refine wpAnyH_op (i := 17) (by kernel_rfl) (by kernel_rfl) (by kernel_rfl) (by rfl) (by assumption) (fun oi ho => ?_)
          simp only [List.getElem?_toArray, List.getElem?_cons_succ, List.getElem?_cons_zero, Option.some.injEq] at ho
          subst ho
          refine ⟨undef, fun _ _ _ h => h, .inr ⟨by rfl, rfl⟩, ?_⟩
          simp only [Act.put, List.setIfInBounds_toArray, List.set_cons_zero, List.set_cons_succ]
          refine wpAnyH_op (i := 18) (by kernel_rfl) (by kernel_rfl) (by kernel_rfl) (by rfl) (by assumption) (fun oi ho => ?_)
          simp only [List.getElem?_toArray, List.getElem?_cons_succ, List.getElem?_cons_zero, Option.some.injEq] at ho
          subst ho
          refine ⟨undef, fun _ _ _ h => h, .inr ⟨by rfl, rfl⟩, ?_⟩
          simp only [Act.put, List.setIfInBounds_toArray, List.set_cons_zero, List.set_cons_succ]
          refine wpAnyH_op (i := 19) (by kernel_rfl) (by kernel_rfl) (by kernel_rfl) (by rfl) (by assumption) (fun oi ho => ?_)
          simp only [List.getElem?_toArray, List.getElem?_cons_succ, List.getElem?_cons_zero, Option.some.injEq] at ho
          subst ho
          refine ⟨undef, fun _ _ _ h => h, .inr ⟨by rfl, rfl⟩, ?_⟩
          simp only [Act.put, List.setIfInBounds_toArray, List.set_cons_zero, List.set_cons_succ]
          refine wpAnyH_op (i := 20) (by kernel_rfl) (by kernel_rfl) (by kernel_rfl) (by rfl) (by assumption) (fun oi ho => ?_)
          simp only [List.getElem?_toArray, List.getElem?_cons_succ, List.getElem?_cons_zero, Option.some.injEq] at ho
          subst ho
          refine ⟨undef, fun _ _ _ h => h, .inr ⟨by rfl, rfl⟩, ?_⟩
          simp only [Act.put, List.setIfInBounds_toArray, List.set_cons_zero, List.set_cons_succ]
          refine wpAnyH_op (i := 21) (by kernel_rfl) (by kernel_rfl) (by kernel_rfl) (by rfl) (by assumption) (fun oi ho => ?_)
          simp only [List.getElem?_toArray, List.getElem?_cons_succ, List.getElem?_cons_zero, Option.some.injEq] at ho
          subst ho
          refine ⟨undef, fun _ _ _ h => h, .inr ⟨by rfl, rfl⟩, ?_⟩
          simp only [Act.put, List.setIfInBounds_toArray, List.set_cons_zero, List.set_cons_succ]
          refine wpAnyH_op (i := 22) (by kernel_rfl) (by kernel_rfl) (by kernel_rfl) (by rfl) (by assumption) (fun oi ho => ?_)
          simp only [List.getElem?_toArray, List.getElem?_cons_succ, List.getElem?_cons_zero, Option.some.injEq] at ho
          subst ho
          refine ⟨?_, fun _ _ _ h => h, .inl ⟨by rfl, fun W hSw => ?_⟩, ?_⟩
          rotate_left
          · (try dsimp only at hSw); (go_simp) <;> with_reducible rfl
          simp only [Act.put, List.setIfInBounds_toArray, List.set_cons_zero, List.set_cons_succ]
          refine wpAnyH_op (i := 23) (by kernel_rfl) (by kernel_rfl) (by kernel_rfl) (by rfl) (by assumption) (fun oi ho => ?_)
          simp only [List.getElem?_toArray, List.getElem?_cons_succ, List.getElem?_cons_zero, Option.some.injEq] at ho
          subst ho
          refine ⟨?_, fun _ _ _ h => h, .inl ⟨by rfl, fun W hSw => ?_⟩, ?_⟩
          rotate_left
          · (try dsimp only at hSw); (go_simp) <;> with_reducible rfl
          simp only [Act.put, List.setIfInBounds_toArray, List.set_cons_zero, List.set_cons_succ]
          refine wpAnyH_op (i := 24) (by kernel_rfl) (by kernel_rfl) (by kernel_rfl) (by rfl) (by assumption) (fun oi ho => ?_)
          simp only [List.getElem?_toArray, List.getElem?_cons_succ, List.getElem?_cons_zero, Option.some.injEq] at ho
          subst ho
          refine ⟨?_, fun _ _ _ h => h, .inl ⟨by rfl, fun W hSw => ?_⟩, ?_⟩
          rotate_left
          · (try dsimp only at hSw); (go_simp) <;> with_reducible rfl
          simp only [Act.put, List.setIfInBounds_toArray, List.set_cons_zero, List.set_cons_succ]
          refine wpAnyH_op (i := 25) (by kernel_rfl) (by kernel_rfl) (by kernel_rfl) (by rfl) (by assumption) (fun oi ho => ?_)
          simp only [List.getElem?_toArray, List.getElem?_cons_succ, List.getElem?_cons_zero, Option.some.injEq] at ho
          subst ho
          refine ⟨?_, fun _ _ _ h => h, .inl ⟨by rfl, fun W hSw => ?_⟩, ?_⟩
          rotate_left
          · (try dsimp only at hSw); (go_simp) <;> with_reducible rfl
          simp only [Act.put, List.setIfInBounds_toArray, List.set_cons_zero, List.set_cons_succ]
          refine wpAnyH_done (by kernel_rfl) ?_ _
          go_wp2
          go_ret
          exact ⟨rfl, hB'.out.trans (z1.out.mono hwz)⟩
end Ci
end Go.Proofs.YthggedpgcchneaaGreatDoor

/- The law CircleMore. Printed by gen_lcmore.py. -/
import Derived.Test.YthggedpgcchneaaGreatDoorCirH
import Derived.Deep.RegionHeld3
import Derived.Deep.QuietTactic
import Derived.BigQuiet
namespace Go.Proofs.YthggedpgcchneaaGreatDoor
open Go.RowKit Go.Shelf
namespace Ci
open Nt
open Classical

theorem remMo {x : Int} {n : Nat} (hx : 0 ≤ x) (hn : n ≠ 0) : ∃ p : Nat, x % (n : Int) = (p : Int) ∧ p < n ∧ x.tmod (n : Int) = (p : Int) := by
  have h0 := Int.emod_nonneg x (show (n : Int) ≠ 0 by omega)
  have h1 := Int.emod_lt_of_pos x (show (0 : Int) < (n : Int) by omega)
  refine ⟨(x % (n : Int)).toNat, by omega, by omega, ?_⟩
  rw [Int.tmod_eq_emod_of_nonneg hx]
  omega
/-- An operation of a region, by its number alone. -/
theorem wpAnyH_op' {P : Program} {ops : Array Oper} {Q : Exit → Act → World → Prop} {md : Region.Mode} {S : World → Prop} {i fuel : Nat} {listed : Array Bool} {a : Act} {w : World} (hs : Region.noSelect ops = true) (hf : Region.free md ops listed i = true) (hr : (Region.ready md ops listed).contains i = true) (hi : (ops[i]?).isSome = true) (hS : S w)
    (h : ∀ oi, ops[i]? = some oi → ∃ v, (∀ c a w, Q (.panic c) (a.put oi.dst v) w → Q (.panic c) a w) ∧ YieldsIf P ops S oi v a ∧ wpAnyH P md ops Q S fuel (listed.setIfInBounds i true) (a.put oi.dst v) w) : wpAnyH P md ops Q S (fuel + 1) listed a w := by
  obtain ⟨oi, ho⟩ := Option.isSome_iff_exists.1 hi
  obtain ⟨v, h1, h2, h3⟩ := h oi ho
  exact wpAnyH_take ho hs hf hr h1 h2 hS h3
/-- The only one that may come up, by its number alone. -/
theorem wpAnyH_one' {P : Program} {ops : Array Oper} {Q : Exit → Act → World → Prop} {md : Region.Mode} {S : World → Prop} {i fuel : Nat} {listed : Array Bool} {a : Act} {w : World} (hr : Region.ready md ops listed = [i]) (hi : (ops[i]?).isSome = true)
    (h : ∀ oi, ops[i]? = some oi → AllReadyH P md ops Q S fuel listed a w [i]) : wpAnyH P md ops Q S (fuel + 1) listed a w := by
  obtain ⟨oi, ho⟩ := Option.isSome_iff_exists.1 hi
  exact wpAnyH_ready hr (by simp) (h oi ho)

set_option maxRecDepth 100000 in
set_option maxHeartbeats 16000000 in
theorem law_more (s : SR) (Ap Ac Av Af : Option Addr) (cp cc cv cf : Nat) (F : List Int) (x : Int) (hx0 : 0 ≤ x) (hx1 : x ≤ 255) (w : World) (hE : Env w) (hs : StIn w s Ap Ac Av) (hF : InInt w Af F) (hFl : F.length ≤ 140737488355328) :
    Calls Tryz.prog 7 #[.agg #[.slice Ap s.ps.length cp, .slice Ac s.cap.length cc, .slice Av s.vot.length cv], .slice Af F.length cf, .int .u8 x] w fun e w' => e = .returned (.bool true) ∧ Below w.heap.size w w' := by
  have hX1 : Hid (Bk (w.alloc (.cells #[.slice Ap s.ps.length cp, .slice Ac s.cap.length cc, .slice Av s.vot.length cv] 25)) w.heap.size 25 (SC s Ap Ac Av cp cc cv)) := Bk.new w _ _
  have hB1 : Hid (Below w.heap.size w (w.alloc (.cells #[.slice Ap s.ps.length cp, .slice Ac s.cap.length cc, .slice Av s.vot.length cv] 25))) := (Below.refl _ w).alloc (Nat.le_refl _) _
  replace hE := Lib.hid hE
  replace hs := Lib.hid hs
  replace hF := Lib.hid hF
  go_enter Tryz.func7, Tryz.ntmps7
  go_wp2_with fail
  refine (head_any _ (hE.out.below hB1.out)).mono ?_
  rintro e w2 ⟨rfl, hb⟩
  have hX2 := Lib.hid (hX1.out.below hb)
  have hB2 := Lib.hid (hB1.out.trans (hb.mono hB1.out.size))
  clear hb hX1 hB1
  have u0 := hX2.out.cell (j := 0) rfl
  have u1 := hX2.out.cell (j := 1) rfl
  have u2 := hX2.out.cell (j := 2) rfl
  have u9 := hX2.out.lt
  have kf := few18_any s Ap Ac Av Af cp cc cv cf F w2 (hs.out.below hB2.out) hFl
  cases hfw : few18 s F with
  | false =>
    rw [hfw] at kf
    replace kf := Lib.hid kf
    clear hfw
    go_wp2_with fail
    refine kf.out.mono ?_
    rintro e w3 ⟨rfl, hb⟩
    have hX3 := Lib.hid (hX2.out.below hb)
    have hB3 := Lib.hid (hB2.out.trans (hb.mono hB2.out.size))
    clear hb hX2 hB2
    clear u0 u1 u2 u9
    go_wp2
    go_ret
    exact ⟨rfl, hB3.out⟩
  | true =>
    rw [hfw] at kf
    replace kf := Lib.hid kf
    obtain ⟨_, hc3, _, _⟩ := few18_sz hfw
    clear hfw
    go_wp2_with fail
    refine kf.out.mono ?_
    rintro e w3 ⟨rfl, hb⟩
    have hX3 := Lib.hid (hX2.out.below hb)
    have hB3 := Lib.hid (hB2.out.trans (hb.mono hB2.out.size))
    clear hb hX2 hB2
    clear u0 u1 u2 u9
    clear kf
    have u0 := hX3.out.cell (j := 0) rfl
    have u1 := hX3.out.cell (j := 1) rfl
    have u2 := hX3.out.cell (j := 2) rfl
    have u9 := hX3.out.lt
    by_cases hn0 : s.ps.length = 0
    · have m1 : ((s.ps.length : Int) == 0) = true := by rw [beq_iff_eq]; omega
      have m2 : (s.ps.length == 0) = true := by rw [beq_iff_eq]; exact hn0
      replace hn0 := Lib.hid hn0
      go_wp2
      go_ret
      exact ⟨rfl, hB3.out⟩
    · have m1 : ((s.ps.length : Int) == 0) = false := by rw [beq_eq_false_iff_ne]; omega
      have m2 : (s.ps.length == 0) = false := by rw [beq_eq_false_iff_ne]; exact hn0
      have kr := Ranks_any s Ap Ac Av Af cp cc cv cf F w3 (hE.out.below hB3.out) (hs.out.below hB3.out) hc3 (hF.out.below hB3.out) hFl
      by_cases hgd : soundB s = true ∧ listB s.ps.length F = true
      · obtain ⟨hsd, hls⟩ := hgd
        have kr2 : Hid (Calls Tryz.prog 13 #[.agg #[.slice Ap s.ps.length cp, .slice Ac s.cap.length cc, .slice Av s.vot.length cv], .slice Af F.length cf] w3 fun e w' => (∃ b, e = .returned (.tuple #[.slice (some ⟨b, 0, none⟩) s.ps.length s.ps.length, .int .i64 0]) ∧ RoI w' b s.ps.length (rk (edges s) (toN F))) ∧ Below w3.heap.size w3 w') := kr.mono fun e w' h => ⟨by have h1 := h.1; rw [if_pos ⟨hsd, hls⟩] at h1; obtain ⟨b, e1, _, e2⟩ := h1; exact ⟨b, e1, e2⟩, h.2⟩
        clear kr
        have hn60 := sound_n hsd
        go_wp2_with fail
        refine kr2.out.mono ?_
        rintro e w4 ⟨⟨rb, rfl, hR⟩, hb⟩
        have hX4 := Lib.hid (hX3.out.below hb)
        have hB4 := Lib.hid (hB3.out.trans (hb.mono hB3.out.size))
        clear hb hX3 hB3
        have hR4 := Lib.hid hR
        clear hR
        clear u0 u1 u2 u9
        clear kr2 m1 m2
        obtain ⟨p, hp, hpn, hp2⟩ := remMo hx0 hn0
        have hnz : (s.ps.length : Int) ≠ 0 := by omega
        have hn0i : ((s.ps.length : Int) == 0) = false := by rw [beq_eq_false_iff_ne]; omega
        have u0 := hX4.out.cell (j := 0) rfl
        have u1 := hX4.out.cell (j := 1) rfl
        have u2 := hX4.out.cell (j := 2) rfl
        have u9 := hX4.out.lt
        go_wp2_with fail
        clear hp2 u0 u1 u2 u9
        have hin : Hid (∀ i (h : i < F.length), ∃ f : Nat, F[i] = (f : Int) ∧ f < s.ps.length ∧ (toN F)[i]? = some f) := fun i h => by obtain ⟨f, h1, h2, h3⟩ := toN_at hls h; exact ⟨f, h1, by omega, h3⟩
        have hsrt := Lib.hid (toN_srt hls)
        have hlen : Hid ((toN F).length = F.length) := by unfold Hid toN; rw [List.length_map]
        have hmo : Hid (∀ R, Mo (toN F) p R → listB s.ps.length (R.map fun (q : Nat) => (q : Int)) = true) := fun R h => mo_list hls hpn h
        have hM0 := Lib.hid (Mi.zero (toN F) p)
        replace hsd := Lib.hid hsd; replace hls := Lib.hid hls; replace hp := Lib.hid hp; replace hn0 := Lib.hid hn0
        clear hnz hn0i
        have p0 : (0 : Int) ≤ (p : Int) := by omega
        have p1 : (p : Int) < (s.ps.length : Int) := by omega
        replace hpn := Lib.hid hpn
        obtain ⟨i0, hi0, hzz⟩ := Option.map_eq_some_iff.1 infoIr
        simp only [Prod.mk.injEq] at hzz
        obtain ⟨hz0, hz1, hz2⟩ := hzz
        replace hi0 := Lib.hid hi0; replace hz0 := Lib.hid hz0; replace hz1 := Lib.hid hz1; replace hz2 := Lib.hid hz2
        go_loopw [11, 12, 13] (fun u bv ix wr => ∃ (i k c : Nat) (A : Option Addr) (pb : Bool) (acc : List Nat), i ≤ F.length ∧ k = acc.length ∧ u = .slice A k c ∧ bv = .bool pb ∧ ix = .int .i64 (i : Int) ∧ Hid (Kp [] w4 wr) ∧ Hid (wr.ownsRow w4.heap.size 3 1 (.slice A k c) k (intsL acc)) ∧ Hid (Mi (toN F) p i pb acc)) (fun _ _ ix _ => F.length - (intOf ix).toNat)
        case atStart => exact ⟨0, 0, 0, none, false, [], Nat.zero_le _, rfl, rfl, rfl, rfl, Kp.refl _ _, World.ownsRow_nil _ _ _ _, hM0⟩
        case round =>
          obtain ⟨i, k, c, A, pb, acc, hi, hk, rfl, rfl, rfl, hK, hO, hM⟩ := hrel
          clear hM0
          have hBr : Hid (Below w.heap.size w wr) := hK.out.to_below hB4.out fun x hx => by simp at hx
          have hk2 : k ≤ 2 * i := by have := hM.out.len; omega
          replace hk := Lib.hid hk
          by_cases hlt : i < F.length
          · obtain ⟨b1, o1, rfl, hb1, hc1⟩ := hF.out (by omega)
            obtain ⟨f, hf1, hf2, hf3⟩ := hin.out i hlt
            have hcF : Hid (∀ W, Below w.heap.size w W → W.cell? ⟨b1, o1 + i, none⟩ = some (.int .i64 (f : Int))) := fun W hW => by rw [← hf1]; exact (hW.cell (p := ⟨b1, o1 + i, none⟩) hb1).trans (hc1 i hlt)
            have e1 := hcF.out wr hBr.out
            have hb2 : b1 < wr.heap.size := Nat.lt_of_lt_of_le hb1 hBr.out.size
            have j0 : (0 : Int) ≤ (i : Int) := by omega
            have j1 : (i : Int) < (F.length : Int) := by omega
            have hiG : i < (toN F).length := by rw [hlen.out]; exact hlt
            have hfG : (toN F)[i] = f := by rw [List.getElem?_eq_getElem hiG] at hf3; exact Option.some.inj hf3
            clear hc1 hf1 hf3
            cases pb with
            | true =>
              have hMn := Lib.hid (hM.out.next hsrt.out hiG (.inl rfl))
              rw [hfG] at hMn
              have hO7 := Lib.hid (own_below' hO.out ((Below.refl _ wr).alloc (Nat.le_refl _) (.cells #[.int .i64 (f : Int)] 3)))
              have hK7 := Lib.hid (hK.out.alloc (.cells #[.int .i64 (f : Int)] 3))
              have hbs7 : Hid (w4.heap.size ≤ (wr.alloc (.cells #[.int .i64 (f : Int)] 3)).heap.size) := hK7.out.size
              have had7 : Hid (∀ j u, [(Value.int .i64 (f : Int))][j]? = some u → (wr.alloc (.cells #[.int .i64 (f : Int)] 3)).cell? (Addr.add ⟨wr.heap.size, 0, none⟩ j) = some u) := head_new wr _ _
              have hrp7 : Hid (intsL acc ++ [.int .i64 (f : Int)] = intsL (acc ++ [f])) := (intsL_snoc _ _).symm
              have hrow7 : Hid (∀ b, (Value.slice A k c).ownBlock = some b → b ∈ ([] : List Nat) ∨ w4.heap.size ≤ b) := fun b e => .inr (hO.out.lt b e).1
              go_wp2_with (at_builtin; refine wpList_append_new _ rfl _ _ 26 rfl w4.heap.size 3 i0 (.int .i64 0) 1 8 Tryz.underlying26 hi0.out hz0.out hz1.out hz2.out rfl (by decide) (.slice A k c) k _ rfl hO7.out ⟨wr.heap.size, 0, none⟩ 1 1 [.int .i64 (f : Int)] rfl rfl had7.out (one_cell1 _ rfl) (by decide) (by unfold maxLen; omega) (by omega) hbs7.out ?_; intro vb7 wb7 ho7 hg7 hn7; obtain ⟨A7, c7, rfl⟩ := own_form ho7; rw [hrp7.out] at ho7; have hk7 := Lib.hid (hK7.out.grown hg7 hrow7.out); replace ho7 := Lib.hid ho7; clear hg7 hn7)
              exact ⟨⟨i + 1, k + 1, c7, A7, true, _, by omega, by simp only [List.length_append, List.length_singleton]; have := hk.out; omega, rfl, rfl, by go_num, hk7, ho7, hMn⟩, by simp only [intOf]; omega⟩
            | false =>
              have hcl : f < p ∨ f = p ∨ p < f := by omega
              rcases hcl with h1 | h1 | h1
              · have m1 : decide ((p : Int) ≤ (f : Int)) = false := decide_eq_false (by omega)
                have m1' : decide (p ≤ f) = false := decide_eq_false (by omega)
                have hMn := Lib.hid (hM.out.next hsrt.out hiG (.inr (by rw [hfG]; exact h1)))
                rw [hfG] at hMn
                replace h1 := Lib.hid h1
                have hO7 := Lib.hid (own_below' hO.out ((Below.refl _ wr).alloc (Nat.le_refl _) (.cells #[.int .i64 (f : Int)] 3)))
                have hK7 := Lib.hid (hK.out.alloc (.cells #[.int .i64 (f : Int)] 3))
                have hbs7 : Hid (w4.heap.size ≤ (wr.alloc (.cells #[.int .i64 (f : Int)] 3)).heap.size) := hK7.out.size
                have had7 : Hid (∀ j u, [(Value.int .i64 (f : Int))][j]? = some u → (wr.alloc (.cells #[.int .i64 (f : Int)] 3)).cell? (Addr.add ⟨wr.heap.size, 0, none⟩ j) = some u) := head_new wr _ _
                have hrp7 : Hid (intsL acc ++ [.int .i64 (f : Int)] = intsL (acc ++ [f])) := (intsL_snoc _ _).symm
                have hrow7 : Hid (∀ b, (Value.slice A k c).ownBlock = some b → b ∈ ([] : List Nat) ∨ w4.heap.size ≤ b) := fun b e => .inr (hO.out.lt b e).1
                go_wp2_with (at_builtin; refine wpList_append_new _ rfl _ _ 26 rfl w4.heap.size 3 i0 (.int .i64 0) 1 8 Tryz.underlying26 hi0.out hz0.out hz1.out hz2.out rfl (by decide) (.slice A k c) k _ rfl hO7.out ⟨wr.heap.size, 0, none⟩ 1 1 [.int .i64 (f : Int)] rfl rfl had7.out (one_cell1 _ rfl) (by decide) (by unfold maxLen; omega) (by omega) hbs7.out ?_; intro vb7 wb7 ho7 hg7 hn7; obtain ⟨A7, c7, rfl⟩ := own_form ho7; rw [hrp7.out] at ho7; have hk7 := Lib.hid (hK7.out.grown hg7 hrow7.out); replace ho7 := Lib.hid ho7; clear hg7 hn7)
                exact ⟨⟨i + 1, k + 1, c7, A7, false, _, by omega, by simp only [List.length_append, List.length_singleton]; have := hk.out; omega, rfl, rfl, by go_num, hk7, ho7, hMn⟩, by simp only [intOf]; omega⟩
              · have m1 : decide ((p : Int) ≤ (f : Int)) = true := decide_eq_true (by omega)
                have m1' : decide (p ≤ f) = true := decide_eq_true (by omega)
                have m2 : decide ((p : Int) < (f : Int)) = false := decide_eq_false (by omega)
                have m2' : decide (p < f) = false := decide_eq_false (by omega)
                have hMn := Lib.hid (hM.out.there hsrt.out hiG (by rw [hfG]; exact h1.symm))
                rw [hfG] at hMn
                replace h1 := Lib.hid h1
                have hO7 := Lib.hid (own_below' hO.out ((Below.refl _ wr).alloc (Nat.le_refl _) (.cells #[.int .i64 (f : Int)] 3)))
                have hK7 := Lib.hid (hK.out.alloc (.cells #[.int .i64 (f : Int)] 3))
                have hbs7 : Hid (w4.heap.size ≤ (wr.alloc (.cells #[.int .i64 (f : Int)] 3)).heap.size) := hK7.out.size
                have had7 : Hid (∀ j u, [(Value.int .i64 (f : Int))][j]? = some u → (wr.alloc (.cells #[.int .i64 (f : Int)] 3)).cell? (Addr.add ⟨wr.heap.size, 0, none⟩ j) = some u) := head_new wr _ _
                have hrp7 : Hid (intsL acc ++ [.int .i64 (f : Int)] = intsL (acc ++ [f])) := (intsL_snoc _ _).symm
                have hrow7 : Hid (∀ b, (Value.slice A k c).ownBlock = some b → b ∈ ([] : List Nat) ∨ w4.heap.size ≤ b) := fun b e => .inr (hO.out.lt b e).1
                go_wp2_with (at_builtin; refine wpList_append_new _ rfl _ _ 26 rfl w4.heap.size 3 i0 (.int .i64 0) 1 8 Tryz.underlying26 hi0.out hz0.out hz1.out hz2.out rfl (by decide) (.slice A k c) k _ rfl hO7.out ⟨wr.heap.size, 0, none⟩ 1 1 [.int .i64 (f : Int)] rfl rfl had7.out (one_cell1 _ rfl) (by decide) (by unfold maxLen; omega) (by omega) hbs7.out ?_; intro vb7 wb7 ho7 hg7 hn7; obtain ⟨A7, c7, rfl⟩ := own_form ho7; rw [hrp7.out] at ho7; have hk7 := Lib.hid (hK7.out.grown hg7 hrow7.out); replace ho7 := Lib.hid ho7; clear hg7 hn7)
                exact ⟨⟨i + 1, k + 1, c7, A7, true, _, by omega, by simp only [List.length_append, List.length_singleton]; have := hk.out; omega, rfl, rfl, by go_num, hk7, ho7, hMn⟩, by simp only [intOf]; omega⟩
              · have m1 : decide ((p : Int) ≤ (f : Int)) = true := decide_eq_true (by omega)
                have m1' : decide (p ≤ f) = true := decide_eq_true (by omega)
                have m2 : decide ((p : Int) < (f : Int)) = true := decide_eq_true (by omega)
                have m2' : decide (p < f) = true := decide_eq_true (by omega)
                have hMn := Lib.hid (hM.out.place hsrt.out hiG (by rw [hfG]; exact h1))
                rw [hfG] at hMn
                replace h1 := Lib.hid h1
                have hO7 := Lib.hid (own_below' hO.out ((Below.refl _ wr).alloc (Nat.le_refl _) (.cells #[.int .i64 (p : Int)] 3)))
                have hK7 := Lib.hid (hK.out.alloc (.cells #[.int .i64 (p : Int)] 3))
                have hbs7 : Hid (w4.heap.size ≤ (wr.alloc (.cells #[.int .i64 (p : Int)] 3)).heap.size) := hK7.out.size
                have had7 : Hid (∀ j u, [(Value.int .i64 (p : Int))][j]? = some u → (wr.alloc (.cells #[.int .i64 (p : Int)] 3)).cell? (Addr.add ⟨wr.heap.size, 0, none⟩ j) = some u) := head_new wr _ _
                have hrp7 : Hid (intsL acc ++ [.int .i64 (p : Int)] = intsL (acc ++ [p])) := (intsL_snoc _ _).symm
                have hrow7 : Hid (∀ b, (Value.slice A k c).ownBlock = some b → b ∈ ([] : List Nat) ∨ w4.heap.size ≤ b) := fun b e => .inr (hO.out.lt b e).1
                go_wp2_with (first | (at_builtin; refine wpList_append_new _ rfl _ _ 26 rfl w4.heap.size 3 i0 (.int .i64 0) 1 8 Tryz.underlying26 hi0.out hz0.out hz1.out hz2.out rfl (by decide) (.slice A k c) k _ rfl hO7.out ⟨wr.heap.size, 0, none⟩ 1 1 [.int .i64 (p : Int)] rfl rfl had7.out (one_cell1 _ rfl) (by decide) (by unfold maxLen; omega) (by omega) hbs7.out ?_; intro vb7 wb7 ho7 hg7 hn7; obtain ⟨A7, c7, rfl⟩ := own_form ho7; rw [hrp7.out] at ho7; have hk7 := Lib.hid (hK7.out.grown hg7 hrow7.out); replace ho7 := Lib.hid ho7; clear hg7 hn7; have hB7 : Hid (Below w.heap.size w wb7) := hk7.out.to_below hB4.out (fun x hx => by simp at hx); have e7 := hcF.out wb7 hB7.out; have e8 := Nat.lt_of_lt_of_le hb1 hB7.out.size; have hO8 := Lib.hid (own_below' ho7.out ((Below.refl _ wb7).alloc (Nat.le_refl _) (.cells #[.int .i64 (f : Int)] 3))); have hK8 := Lib.hid (hk7.out.alloc (.cells #[.int .i64 (f : Int)] 3)); have hbs8 : Hid (w4.heap.size ≤ (wb7.alloc (.cells #[.int .i64 (f : Int)] 3)).heap.size) := hK8.out.size; have had8 : Hid (∀ j u, [(Value.int .i64 (f : Int))][j]? = some u → (wb7.alloc (.cells #[.int .i64 (f : Int)] 3)).cell? (Addr.add ⟨wb7.heap.size, 0, none⟩ j) = some u) := head_new wb7 _ _; have hrp8 : Hid (intsL (acc ++ [p]) ++ [.int .i64 (f : Int)] = intsL ((acc ++ [p]) ++ [f])) := (intsL_snoc _ _).symm; have hrow8 : Hid (∀ b, (Value.slice A7 (k + 1) c7).ownBlock = some b → b ∈ ([] : List Nat) ∨ w4.heap.size ≤ b) := fun b e => .inr (ho7.out.lt b e).1) | (at_builtin; refine wpList_append_new _ rfl _ _ 26 rfl w4.heap.size 3 i0 (.int .i64 0) 1 8 Tryz.underlying26 hi0.out hz0.out hz1.out hz2.out rfl (by decide) (.slice A7 (k + 1) c7) (k + 1) _ rfl hO8.out ⟨wb7.heap.size, 0, none⟩ 1 1 [.int .i64 (f : Int)] rfl rfl had8.out (one_cell1 _ rfl) (by decide) (by unfold maxLen; omega) (by omega) hbs8.out ?_; intro vb8 wb8 ho8 hg8 hn8; obtain ⟨A8, c8, rfl⟩ := own_form ho8; rw [hrp8.out] at ho8; have hk8 := Lib.hid (hK8.out.grown hg8 hrow8.out); replace ho8 := Lib.hid ho8; clear hg8 hn8))
                exact ⟨⟨i + 1, k + 1 + 1, c8, A8, true, _, by omega, by simp only [List.length_append, List.length_singleton]; have := hk.out; omega, rfl, rfl, by go_num, hk8, ho8, hMn⟩, by simp only [intOf]; omega⟩
          · obtain rfl : i = F.length := by omega
            cases pb with
            | true =>
              have hMo : Mo (toN F) p acc := Mi.all (by rw [hlen.out]; exact hM.out)
              have hkR : k = acc.length := hk.out
              clear hk
              have hq : Hid (Below w4.heap.size w4 wr) := hK.out.to_below (Below.refl _ _) (fun x hx => by simp at hx)
              have hBW : Hid (Below w.heap.size w wr) := hB4.out.trans (hq.out.mono hB4.out.size)
              obtain ⟨R, hRe⟩ : ∃ x, x = acc := ⟨_, rfl⟩
              rw [← hRe] at hMo hkR hO
              clear hRe
              have kr2 : Hid (Calls Tryz.prog 13 #[.agg #[.slice Ap s.ps.length cp, .slice Ac s.cap.length cc, .slice Av s.vot.length cv], .slice A k c] wr fun e w' => (∃ b, e = .returned (.tuple #[.slice (some ⟨b, 0, none⟩) s.ps.length s.ps.length, .int .i64 0]) ∧ RoI w' b s.ps.length (rk (edges s) R)) ∧ Below wr.heap.size wr w') := (by have hI : InInt wr A (R.map fun (q : Nat) => (q : Int)) := (own_inInt (u := .slice A k c) (by rw [← hkR]; exact hO.out)).2; have kq := Ranks_any s Ap Ac Av A cp cc cv c (R.map fun (q : Nat) => (q : Int)) wr (hE.out.below hBW.out) (hs.out.below hBW.out) hc3 hI (by have := hMo.2.2; have := hlen.out; rw [List.length_map]; omega); rw [List.length_map, ← hkR] at kq; exact kq.mono fun e w' h => ⟨by have h1 := h.1; rw [if_pos ⟨hsd.out, hmo.out _ hMo⟩, toN_map] at h1; obtain ⟨b, e1, _, e2⟩ := h1; exact ⟨b, e1, e2⟩, h.2⟩)
              have hz : rk (edges s) R p = 0 := rk_zero.2 ((hMo.2.1 p).2 (.inr rfl))
              have hXW := Lib.hid (hX4.out.below hq.out)
              have u0 := hXW.out.cell (j := 0) rfl
              have u1 := hXW.out.cell (j := 1) rfl
              have u2 := hXW.out.cell (j := 2) rfl
              have u9 := hXW.out.lt
              replace hMo := Lib.hid hMo
              replace hz := Lib.hid hz
              replace hkR := Lib.hid hkR
              clear hO hK hM
              go_wp2_with fail
              refine kr2.out.mono ?_
              rintro e w9 ⟨⟨rb2, rfl, hR2⟩, hb⟩
              have hq9 : Hid (Below w4.heap.size w4 w9) := hq.out.trans (hb.mono hq.out.size)
              have hX9 := Lib.hid (hX4.out.below hq9.out)
              have hR1 := Lib.hid (hR4.out.below hq9.out)
              have hB9 : Hid (Below w.heap.size w w9) := hB4.out.trans (hq9.out.mono hB4.out.size)
              replace hR2 := Lib.hid hR2
              clear hb u0 u1 u2 u9 kr2 hXW hq
              have u0 := hX9.out.cell (j := 0) rfl
              have u9 := hX9.out.lt
              have e3 := hR2.out.cell p hpn.out
              have e4 := hR2.out.lt
              rw [hz.out] at e3
              go_wp2
              clear u0 u9 e3 e4
              have hpos : Hid (∀ j, 0 ≤ rk (edges s) (toN F) j → 0 ≤ rk (edges s) R j ∧ rk (edges s) R j ≤ rk (edges s) (toN F) j) := fun j h => rk_mono (fun f hf => (hMo.out.2.1 f).2 (.inl hf)) h
              have hneg : Hid (∀ j, rk (edges s) (toN F) j < 0 → (0 ≤ rk (edges s) R j ↔ 0 ≤ rk (edges s) [p] j)) := fun j h => (rk_more hMo.out.2.1 h).trans rk_one.symm
              have hDi : Hid (∀ (j : Nat) W, j < s.ps.length → Below w.heap.size w W → Calls Tryz.prog 19 #[.agg #[.slice Ap s.ps.length cp, .slice Ac s.cap.length cc, .slice Av s.vot.length cv], .int .i64 (p : Int), .int .i64 (j : Int)] W fun e w' => e = .returned (.int .i64 (rk (edges s) [p] j)) ∧ Below W.heap.size W w') := fun j W hj hW => Dist_any s Ap Ac Av cp cc cv p j W (hs.out.below hW) hsd.out hpn.out hj
              go_loopw [16] (fun ix wr => ∃ (j : Nat), j ≤ s.ps.length ∧ ix = .int .i64 (j : Int) ∧ Hid (Below w9.heap.size w9 wr)) (fun ix _ => s.ps.length - (intOf ix).toNat)
              case atStart => exact ⟨0, Nat.zero_le _, rfl, Below.refl _ _⟩
              case round =>
                obtain ⟨j, hj, rfl, hZ⟩ := hrel
                have hBz : Hid (Below w.heap.size w wr) := hB9.out.trans (hZ.out.mono hB9.out.size)
                by_cases hjn : j < s.ps.length
                · have r1 := hR1.out.below hZ.out; have r2 := hR2.out.below hZ.out; have r3 := hX9.out.below hZ.out
                  have c1 := r1.cell j hjn; have c2 := r2.cell j hjn; have c3 := r1.lt; have c4 := r2.lt; have c9 := r3.lt
                  have v0 := r3.cell (j := 0) rfl; have v1 := r3.cell (j := 1) rfl; have v2 := r3.cell (j := 2) rfl
                  clear r1 r2 r3
                  have hp1 := hpos.out j; have hn1 := hneg.out j; have hk1 := fun W hW => hDi.out j W hjn hW
                  generalize rk (edges s) (toN F) j = d at hp1 hn1 c1
                  generalize rk (edges s) R j = e at hp1 hn1 c2
                  generalize rk (edges s) [p] j = z at hn1 hk1
                  replace hk1 := Lib.hid hk1
                  have j0 : (0 : Int) ≤ (j : Int) := by omega
                  have j1 : (j : Int) < (s.ps.length : Int) := by omega
                  replace hjn := Lib.hid hjn
                  by_cases hd : 0 ≤ d
                  · obtain ⟨q1, q2⟩ := hp1 hd
                    have m1 : decide (0 ≤ d) = true := decide_eq_true hd; have m2 : decide (e < 0) = false := decide_eq_false (by omega); have m3 : decide (d < e) = false := decide_eq_false (by omega); have m4 : decide (d < 0) = false := decide_eq_false (by omega)
                    clear hn1 hk1 hd q1 q2
                    go_wp2_with fail
                    go_quiet (fail)
                    have hZ2 := Lib.hid (bl_drewN hZ.out nq)
                    clear c1 c2 c3 c4 v0 v1 v2 m1 m2 m3 m4
                    go_wp2
                    exact ⟨⟨j + 1, by have := hjn.out; omega, by go_num, hZ2⟩, by simp only [intOf]; have := hjn.out; omega⟩
                  · have m1 : decide (0 ≤ d) = false := decide_eq_false hd
                    have m4 : decide (d < 0) = true := decide_eq_true (by omega)
                    have HS : Hid (∀ W, Below wr.heap.size wr W → (fun W => W.cell? ⟨rb, j, none⟩ = some (.int .i64 d) ∧ W.cell? ⟨rb2, j, none⟩ = some (.int .i64 e) ∧ W.cell? ⟨w.heap.size, 0, none⟩ = some (.slice Ap s.ps.length cp) ∧ W.cell? ⟨w.heap.size, 1, none⟩ = some (.slice Ac s.cap.length cc) ∧ W.cell? ⟨w.heap.size, 2, none⟩ = some (.slice Av s.vot.length cv)) W) := fun W hb => ⟨(hb.cell (p := ⟨rb, j, none⟩) c3).trans c1, (hb.cell (p := ⟨rb2, j, none⟩) c4).trans c2, (hb.cell (p := ⟨w.heap.size, 0, none⟩) c9).trans v0, (hb.cell (p := ⟨w.heap.size, 1, none⟩) c9).trans v1, (hb.cell (p := ⟨w.heap.size, 2, none⟩) c9).trans v2⟩
                    have hez := hn1 (by omega)
                    clear hp1 hn1 c1 c2 c3 c4 c9 v0 v1 v2 hd
                    have hsz := hBz.out.size
                    have z0 : Hid (Below wr.heap.size wr wr.drew) := (Below.refl _ wr).drew
                    have hcl : (0 ≤ e ∧ 0 ≤ z) ∨ (e < 0 ∧ z < 0) := by omega
                    rcases hcl with ⟨k1, k2⟩ | ⟨k1, k2⟩
                    · have m5 : decide (0 ≤ e) = true := decide_eq_true (by omega)
                      have m6 : decide (0 ≤ z) = true := decide_eq_true (by omega)
                      clear hez k1 k2
                      go_wp2_with fail
                      refine wp_region_held_drew (S := fun W => W.cell? ⟨rb, j, none⟩ = some (.int .i64 d) ∧ W.cell? ⟨rb2, j, none⟩ = some (.int .i64 e) ∧ W.cell? ⟨w.heap.size, 0, none⟩ = some (.slice Ap s.ps.length cp) ∧ W.cell? ⟨w.heap.size, 1, none⟩ = some (.slice Ac s.cap.length cc) ∧ W.cell? ⟨w.heap.size, 2, none⟩ = some (.slice Av s.vot.length cv)) (by kernel_rfl) (HS.out _ z0.out) (fun hHeld => ?_)
                      refine wpAnyH_op' (i := 0) (by kernel_rfl) (by kernel_rfl) (by kernel_rfl) (by rfl) (by assumption) (fun oi ho => ?_)
                      simp only [List.getElem?_toArray, List.getElem?_cons_zero, Option.some.injEq] at ho
                      subst ho
                      refine ⟨?_, fun _ _ _ h => h, .inl ⟨by rfl, fun W hSw => ?_⟩, ?_⟩
                      rotate_left
                      · (try dsimp only at hSw); (go_simp) <;> with_reducible rfl
                      simp only [Act.put, List.setIfInBounds_toArray, List.set_cons_zero, List.set_cons_succ]
                      refine wpAnyH_op' (i := 1) (by kernel_rfl) (by kernel_rfl) (by kernel_rfl) (by rfl) (by assumption) (fun oi ho => ?_)
                      simp only [List.getElem?_toArray, List.getElem?_cons_succ, List.getElem?_cons_zero, Option.some.injEq] at ho
                      subst ho
                      refine ⟨?_, fun _ _ _ h => h, .inl ⟨by rfl, fun W hSw => ?_⟩, ?_⟩
                      rotate_left
                      · (try dsimp only at hSw); (go_simp) <;> with_reducible rfl
                      simp only [Act.put, List.setIfInBounds_toArray, List.set_cons_zero, List.set_cons_succ]
                      refine wpAnyH_op' (i := 2) (by kernel_rfl) (by kernel_rfl) (by kernel_rfl) (by rfl) (by assumption) (fun oi ho => ?_)
                      simp only [List.getElem?_toArray, List.getElem?_cons_succ, List.getElem?_cons_zero, Option.some.injEq] at ho
                      subst ho
                      refine ⟨?_, fun _ _ _ h => h, .inl ⟨by rfl, fun W hSw => ?_⟩, ?_⟩
                      rotate_left
                      · (try dsimp only at hSw); (go_simp) <;> with_reducible rfl
                      simp only [Act.put, List.setIfInBounds_toArray, List.set_cons_zero, List.set_cons_succ]
                      refine wpAnyH_op' (i := 3) (by kernel_rfl) (by kernel_rfl) (by kernel_rfl) (by rfl) (by assumption) (fun oi ho => ?_)
                      simp only [List.getElem?_toArray, List.getElem?_cons_succ, List.getElem?_cons_zero, Option.some.injEq] at ho
                      subst ho
                      refine ⟨?_, fun _ _ _ h => h, .inl ⟨by rfl, fun W hSw => ?_⟩, ?_⟩
                      rotate_left
                      · (try dsimp only at hSw); (go_simp) <;> with_reducible rfl
                      simp only [Act.put, List.setIfInBounds_toArray, List.set_cons_zero, List.set_cons_succ]
                      refine wpAnyH_op' (i := 4) (by kernel_rfl) (by kernel_rfl) (by kernel_rfl) (by rfl) (by assumption) (fun oi ho => ?_)
                      simp only [List.getElem?_toArray, List.getElem?_cons_succ, List.getElem?_cons_zero, Option.some.injEq] at ho
                      subst ho
                      refine ⟨?_, fun _ _ _ h => h, .inl ⟨by rfl, fun W hSw => ?_⟩, ?_⟩
                      rotate_left
                      · (try dsimp only at hSw); (go_simp) <;> with_reducible rfl
                      simp only [Act.put, List.setIfInBounds_toArray, List.set_cons_zero, List.set_cons_succ]
                      refine wpAnyH_op' (i := 5) (by kernel_rfl) (by kernel_rfl) (by kernel_rfl) (by rfl) (by assumption) (fun oi ho => ?_)
                      simp only [List.getElem?_toArray, List.getElem?_cons_succ, List.getElem?_cons_zero, Option.some.injEq] at ho
                      subst ho
                      refine ⟨?_, fun _ _ _ h => h, .inl ⟨by rfl, fun W hSw => ?_⟩, ?_⟩
                      rotate_left
                      · (try dsimp only at hSw); (go_simp) <;> with_reducible rfl
                      simp only [Act.put, List.setIfInBounds_toArray, List.set_cons_zero, List.set_cons_succ]
                      refine wpAnyH_op' (i := 6) (by kernel_rfl) (by kernel_rfl) (by kernel_rfl) (by rfl) (by assumption) (fun oi ho => ?_)
                      simp only [List.getElem?_toArray, List.getElem?_cons_succ, List.getElem?_cons_zero, Option.some.injEq] at ho
                      subst ho
                      refine ⟨undef, fun _ _ _ h => h, .inr ⟨by rfl, rfl⟩, ?_⟩
                      simp only [Act.put, List.setIfInBounds_toArray, List.set_cons_zero, List.set_cons_succ]
                      refine wpAnyH_op' (i := 7) (by kernel_rfl) (by kernel_rfl) (by kernel_rfl) (by rfl) (by assumption) (fun oi ho => ?_)
                      simp only [List.getElem?_toArray, List.getElem?_cons_succ, List.getElem?_cons_zero, Option.some.injEq] at ho
                      subst ho
                      refine ⟨undef, fun _ _ _ h => h, .inr ⟨by rfl, rfl⟩, ?_⟩
                      simp only [Act.put, List.setIfInBounds_toArray, List.set_cons_zero, List.set_cons_succ]
                      refine wpAnyH_op' (i := 8) (by kernel_rfl) (by kernel_rfl) (by kernel_rfl) (by rfl) (by assumption) (fun oi ho => ?_)
                      simp only [List.getElem?_toArray, List.getElem?_cons_succ, List.getElem?_cons_zero, Option.some.injEq] at ho
                      subst ho
                      refine ⟨undef, fun _ _ _ h => h, .inr ⟨by rfl, rfl⟩, ?_⟩
                      simp only [Act.put, List.setIfInBounds_toArray, List.set_cons_zero, List.set_cons_succ]
                      refine wpAnyH_op' (i := 9) (by kernel_rfl) (by kernel_rfl) (by kernel_rfl) (by rfl) (by assumption) (fun oi ho => ?_)
                      simp only [List.getElem?_toArray, List.getElem?_cons_succ, List.getElem?_cons_zero, Option.some.injEq] at ho
                      subst ho
                      refine ⟨undef, fun _ _ _ h => h, .inr ⟨by rfl, rfl⟩, ?_⟩
                      simp only [Act.put, List.setIfInBounds_toArray, List.set_cons_zero, List.set_cons_succ]
                      refine wpAnyH_op' (i := 10) (by kernel_rfl) (by kernel_rfl) (by kernel_rfl) (by rfl) (by assumption) (fun oi ho => ?_)
                      simp only [List.getElem?_toArray, List.getElem?_cons_succ, List.getElem?_cons_zero, Option.some.injEq] at ho
                      subst ho
                      refine ⟨undef, fun _ _ _ h => h, .inr ⟨by rfl, rfl⟩, ?_⟩
                      simp only [Act.put, List.setIfInBounds_toArray, List.set_cons_zero, List.set_cons_succ]
                      refine wpAnyH_op' (i := 11) (by kernel_rfl) (by kernel_rfl) (by kernel_rfl) (by rfl) (by assumption) (fun oi ho => ?_)
                      simp only [List.getElem?_toArray, List.getElem?_cons_succ, List.getElem?_cons_zero, Option.some.injEq] at ho
                      subst ho
                      refine ⟨undef, fun _ _ _ h => h, .inr ⟨by rfl, rfl⟩, ?_⟩
                      simp only [Act.put, List.setIfInBounds_toArray, List.set_cons_zero, List.set_cons_succ]
                      refine wpAnyH_op' (i := 12) (by kernel_rfl) (by kernel_rfl) (by kernel_rfl) (by rfl) (by assumption) (fun oi ho => ?_)
                      simp only [List.getElem?_toArray, List.getElem?_cons_succ, List.getElem?_cons_zero, Option.some.injEq] at ho
                      subst ho
                      refine ⟨undef, fun _ _ _ h => h, .inr ⟨by rfl, rfl⟩, ?_⟩
                      simp only [Act.put, List.setIfInBounds_toArray, List.set_cons_zero, List.set_cons_succ]
                      refine wpAnyH_op' (i := 13) (by kernel_rfl) (by kernel_rfl) (by kernel_rfl) (by rfl) (by assumption) (fun oi ho => ?_)
                      simp only [List.getElem?_toArray, List.getElem?_cons_succ, List.getElem?_cons_zero, Option.some.injEq] at ho
                      subst ho
                      refine ⟨undef, fun _ _ _ h => h, .inr ⟨by rfl, rfl⟩, ?_⟩
                      simp only [Act.put, List.setIfInBounds_toArray, List.set_cons_zero, List.set_cons_succ]
                      refine wpAnyH_op' (i := 14) (by kernel_rfl) (by kernel_rfl) (by kernel_rfl) (by rfl) (by assumption) (fun oi ho => ?_)
                      simp only [List.getElem?_toArray, List.getElem?_cons_succ, List.getElem?_cons_zero, Option.some.injEq] at ho
                      subst ho
                      refine ⟨undef, fun _ _ _ h => h, .inr ⟨by rfl, rfl⟩, ?_⟩
                      simp only [Act.put, List.setIfInBounds_toArray, List.set_cons_zero, List.set_cons_succ]
                      refine wpAnyH_op' (i := 15) (by kernel_rfl) (by kernel_rfl) (by kernel_rfl) (by rfl) (by assumption) (fun oi ho => ?_)
                      simp only [List.getElem?_toArray, List.getElem?_cons_succ, List.getElem?_cons_zero, Option.some.injEq] at ho
                      subst ho
                      refine ⟨undef, fun _ _ _ h => h, .inr ⟨by rfl, rfl⟩, ?_⟩
                      simp only [Act.put, List.setIfInBounds_toArray, List.set_cons_zero, List.set_cons_succ]
                      refine wpAnyH_op' (i := 16) (by kernel_rfl) (by kernel_rfl) (by kernel_rfl) (by rfl) (by assumption) (fun oi ho => ?_)
                      simp only [List.getElem?_toArray, List.getElem?_cons_succ, List.getElem?_cons_zero, Option.some.injEq] at ho
                      subst ho
                      refine ⟨undef, fun _ _ _ h => h, .inr ⟨by rfl, rfl⟩, ?_⟩
                      simp only [Act.put, List.setIfInBounds_toArray, List.set_cons_zero, List.set_cons_succ]
                      refine wpAnyH_op' (i := 17) (by kernel_rfl) (by kernel_rfl) (by kernel_rfl) (by rfl) (by assumption) (fun oi ho => ?_)
                      simp only [List.getElem?_toArray, List.getElem?_cons_succ, List.getElem?_cons_zero, Option.some.injEq] at ho
                      subst ho
                      refine ⟨undef, fun _ _ _ h => h, .inr ⟨by rfl, rfl⟩, ?_⟩
                      simp only [Act.put, List.setIfInBounds_toArray, List.set_cons_zero, List.set_cons_succ]
                      refine wpAnyH_op' (i := 18) (by kernel_rfl) (by kernel_rfl) (by kernel_rfl) (by rfl) (by assumption) (fun oi ho => ?_)
                      simp only [List.getElem?_toArray, List.getElem?_cons_succ, List.getElem?_cons_zero, Option.some.injEq] at ho
                      subst ho
                      refine ⟨undef, fun _ _ _ h => h, .inr ⟨by rfl, rfl⟩, ?_⟩
                      simp only [Act.put, List.setIfInBounds_toArray, List.set_cons_zero, List.set_cons_succ]
                      refine wpAnyH_op' (i := 19) (by kernel_rfl) (by kernel_rfl) (by kernel_rfl) (by rfl) (by assumption) (fun oi ho => ?_)
                      simp only [List.getElem?_toArray, List.getElem?_cons_succ, List.getElem?_cons_zero, Option.some.injEq] at ho
                      subst ho
                      refine ⟨undef, fun _ _ _ h => h, .inr ⟨by rfl, rfl⟩, ?_⟩
                      simp only [Act.put, List.setIfInBounds_toArray, List.set_cons_zero, List.set_cons_succ]
                      refine wpAnyH_op' (i := 20) (by kernel_rfl) (by kernel_rfl) (by kernel_rfl) (by rfl) (by assumption) (fun oi ho => ?_)
                      simp only [List.getElem?_toArray, List.getElem?_cons_succ, List.getElem?_cons_zero, Option.some.injEq] at ho
                      subst ho
                      refine ⟨undef, fun _ _ _ h => h, .inr ⟨by rfl, rfl⟩, ?_⟩
                      simp only [Act.put, List.setIfInBounds_toArray, List.set_cons_zero, List.set_cons_succ]
                      refine wpAnyH_op' (i := 21) (by kernel_rfl) (by kernel_rfl) (by kernel_rfl) (by rfl) (by assumption) (fun oi ho => ?_)
                      simp only [List.getElem?_toArray, List.getElem?_cons_succ, List.getElem?_cons_zero, Option.some.injEq] at ho
                      subst ho
                      refine ⟨undef, fun _ _ _ h => h, .inr ⟨by rfl, rfl⟩, ?_⟩
                      simp only [Act.put, List.setIfInBounds_toArray, List.set_cons_zero, List.set_cons_succ]
                      refine wpAnyH_op' (i := 22) (by kernel_rfl) (by kernel_rfl) (by kernel_rfl) (by rfl) (by assumption) (fun oi ho => ?_)
                      simp only [List.getElem?_toArray, List.getElem?_cons_succ, List.getElem?_cons_zero, Option.some.injEq] at ho
                      subst ho
                      refine ⟨?_, fun _ _ _ h => h, .inl ⟨by rfl, fun W hSw => ?_⟩, ?_⟩
                      rotate_left
                      · (try dsimp only at hSw); (go_simp) <;> with_reducible rfl
                      simp only [Act.put, List.setIfInBounds_toArray, List.set_cons_zero, List.set_cons_succ]
                      refine wpAnyH_op' (i := 23) (by kernel_rfl) (by kernel_rfl) (by kernel_rfl) (by rfl) (by assumption) (fun oi ho => ?_)
                      simp only [List.getElem?_toArray, List.getElem?_cons_succ, List.getElem?_cons_zero, Option.some.injEq] at ho
                      subst ho
                      refine ⟨?_, fun _ _ _ h => h, .inl ⟨by rfl, fun W hSw => ?_⟩, ?_⟩
                      rotate_left
                      · (try dsimp only at hSw); (go_simp) <;> with_reducible rfl
                      simp only [Act.put, List.setIfInBounds_toArray, List.set_cons_zero, List.set_cons_succ]
                      refine wpAnyH_op' (i := 24) (by kernel_rfl) (by kernel_rfl) (by kernel_rfl) (by rfl) (by assumption) (fun oi ho => ?_)
                      simp only [List.getElem?_toArray, List.getElem?_cons_succ, List.getElem?_cons_zero, Option.some.injEq] at ho
                      subst ho
                      refine ⟨?_, fun _ _ _ h => h, .inl ⟨by rfl, fun W hSw => ?_⟩, ?_⟩
                      rotate_left
                      · (try dsimp only at hSw); (go_simp) <;> with_reducible rfl
                      simp only [Act.put, List.setIfInBounds_toArray, List.set_cons_zero, List.set_cons_succ]
                      refine wpAnyH_op' (i := 25) (by kernel_rfl) (by kernel_rfl) (by kernel_rfl) (by rfl) (by assumption) (fun oi ho => ?_)
                      simp only [List.getElem?_toArray, List.getElem?_cons_succ, List.getElem?_cons_zero, Option.some.injEq] at ho
                      subst ho
                      refine ⟨?_, fun _ _ _ h => h, .inl ⟨by rfl, fun W hSw => ?_⟩, ?_⟩
                      rotate_left
                      · (try dsimp only at hSw); (go_simp) <;> with_reducible rfl
                      simp only [Act.put, List.setIfInBounds_toArray, List.set_cons_zero, List.set_cons_succ]
                      refine wpAnyH_op' (i := 26) (by kernel_rfl) (by kernel_rfl) (by kernel_rfl) (by rfl) (by assumption) (fun oi ho => ?_)
                      simp only [List.getElem?_toArray, List.getElem?_cons_succ, List.getElem?_cons_zero, Option.some.injEq] at ho
                      subst ho
                      refine ⟨?_, fun _ _ _ h => h, .inl ⟨by rfl, fun W hSw => ?_⟩, ?_⟩
                      rotate_left
                      · (try dsimp only at hSw); (go_simp) <;> with_reducible rfl
                      simp only [Act.put, List.setIfInBounds_toArray, List.set_cons_zero, List.set_cons_succ]
                      refine wpAnyH_op' (i := 27) (by kernel_rfl) (by kernel_rfl) (by kernel_rfl) (by rfl) (by assumption) (fun oi ho => ?_)
                      simp only [List.getElem?_toArray, List.getElem?_cons_succ, List.getElem?_cons_zero, Option.some.injEq] at ho
                      subst ho
                      refine ⟨?_, fun _ _ _ h => h, .inl ⟨by rfl, fun W hSw => ?_⟩, ?_⟩
                      rotate_left
                      · (try dsimp only at hSw); (go_simp) <;> with_reducible rfl
                      simp only [Act.put, List.setIfInBounds_toArray, List.set_cons_zero, List.set_cons_succ]
                      refine wpAnyH_op' (i := 28) (by kernel_rfl) (by kernel_rfl) (by kernel_rfl) (by rfl) (by assumption) (fun oi ho => ?_)
                      simp only [List.getElem?_toArray, List.getElem?_cons_succ, List.getElem?_cons_zero, Option.some.injEq] at ho
                      subst ho
                      refine ⟨?_, fun _ _ _ h => h, .inl ⟨by rfl, fun W hSw => ?_⟩, ?_⟩
                      rotate_left
                      · (try dsimp only at hSw); (go_simp) <;> with_reducible rfl
                      simp only [Act.put, List.setIfInBounds_toArray, List.set_cons_zero, List.set_cons_succ]
                      refine wpAnyH_op' (i := 29) (by kernel_rfl) (by kernel_rfl) (by kernel_rfl) (by rfl) (by assumption) (fun oi ho => ?_)
                      simp only [List.getElem?_toArray, List.getElem?_cons_succ, List.getElem?_cons_zero, Option.some.injEq] at ho
                      subst ho
                      refine ⟨?_, fun _ _ _ h => h, .inl ⟨by rfl, fun W hSw => ?_⟩, ?_⟩
                      rotate_left
                      · (try dsimp only at hSw); (go_simp) <;> with_reducible rfl
                      simp only [Act.put, List.setIfInBounds_toArray, List.set_cons_zero, List.set_cons_succ]
                      refine wpAnyH_op' (i := 30) (by kernel_rfl) (by kernel_rfl) (by kernel_rfl) (by rfl) (by assumption) (fun oi ho => ?_)
                      simp only [List.getElem?_toArray, List.getElem?_cons_succ, List.getElem?_cons_zero, Option.some.injEq] at ho
                      subst ho
                      refine ⟨?_, fun _ _ _ h => h, .inl ⟨by rfl, fun W hSw => ?_⟩, ?_⟩
                      rotate_left
                      · (try dsimp only at hSw); (go_simp) <;> with_reducible rfl
                      simp only [Act.put, List.setIfInBounds_toArray, List.set_cons_zero, List.set_cons_succ]
                      refine wpAnyH_op' (i := 31) (by kernel_rfl) (by kernel_rfl) (by kernel_rfl) (by rfl) (by assumption) (fun oi ho => ?_)
                      simp only [List.getElem?_toArray, List.getElem?_cons_succ, List.getElem?_cons_zero, Option.some.injEq] at ho
                      subst ho
                      refine ⟨?_, fun _ _ _ h => h, .inl ⟨by rfl, fun W hSw => ?_⟩, ?_⟩
                      rotate_left
                      · (try dsimp only at hSw); (go_simp) <;> with_reducible rfl
                      simp only [Act.put, List.setIfInBounds_toArray, List.set_cons_zero, List.set_cons_succ]
                      refine wpAnyH_op' (i := 32) (by kernel_rfl) (by kernel_rfl) (by kernel_rfl) (by rfl) (by assumption) (fun oi ho => ?_)
                      simp only [List.getElem?_toArray, List.getElem?_cons_succ, List.getElem?_cons_zero, Option.some.injEq] at ho
                      subst ho
                      refine ⟨?_, fun _ _ _ h => h, .inl ⟨by rfl, fun W hSw => ?_⟩, ?_⟩
                      rotate_left
                      · (try dsimp only at hSw); (go_simp) <;> with_reducible rfl
                      simp only [Act.put, List.setIfInBounds_toArray, List.set_cons_zero, List.set_cons_succ]
                      refine wpAnyH_op' (i := 33) (by kernel_rfl) (by kernel_rfl) (by kernel_rfl) (by rfl) (by assumption) (fun oi ho => ?_)
                      simp only [List.getElem?_toArray, List.getElem?_cons_succ, List.getElem?_cons_zero, Option.some.injEq] at ho
                      subst ho
                      refine ⟨?_, fun _ _ _ h => h, .inl ⟨by rfl, fun W hSw => ?_⟩, ?_⟩
                      rotate_left
                      · (try dsimp only at hSw); (go_simp) <;> with_reducible rfl
                      simp only [Act.put, List.setIfInBounds_toArray, List.set_cons_zero, List.set_cons_succ]
                      refine wpAnyH_op' (i := 34) (by kernel_rfl) (by kernel_rfl) (by kernel_rfl) (by rfl) (by assumption) (fun oi ho => ?_)
                      simp only [List.getElem?_toArray, List.getElem?_cons_succ, List.getElem?_cons_zero, Option.some.injEq] at ho
                      subst ho
                      refine ⟨?_, fun _ _ _ h => h, .inl ⟨by rfl, fun W hSw => ?_⟩, ?_⟩
                      rotate_left
                      · (try dsimp only at hSw); (go_simp) <;> with_reducible rfl
                      simp only [Act.put, List.setIfInBounds_toArray, List.set_cons_zero, List.set_cons_succ]
                      refine wpAnyH_op' (i := 35) (by kernel_rfl) (by kernel_rfl) (by kernel_rfl) (by rfl) (by assumption) (fun oi ho => ?_)
                      simp only [List.getElem?_toArray, List.getElem?_cons_succ, List.getElem?_cons_zero, Option.some.injEq] at ho
                      subst ho
                      refine ⟨?_, fun _ _ _ h => h, .inl ⟨by rfl, fun W hSw => ?_⟩, ?_⟩
                      rotate_left
                      · (try dsimp only at hSw); (go_simp) <;> with_reducible rfl
                      simp only [Act.put, List.setIfInBounds_toArray, List.set_cons_zero, List.set_cons_succ]
                      refine wpAnyH_op' (i := 36) (by kernel_rfl) (by kernel_rfl) (by kernel_rfl) (by rfl) (by assumption) (fun oi ho => ?_)
                      simp only [List.getElem?_toArray, List.getElem?_cons_succ, List.getElem?_cons_zero, Option.some.injEq] at ho
                      subst ho
                      refine ⟨?_, fun _ _ _ h => h, .inl ⟨by rfl, fun W hSw => ?_⟩, ?_⟩
                      rotate_left
                      · (try dsimp only at hSw); (go_simp) <;> with_reducible rfl
                      simp only [Act.put, List.setIfInBounds_toArray, List.set_cons_zero, List.set_cons_succ]
                      refine wpAnyH_op' (i := 37) (by kernel_rfl) (by kernel_rfl) (by kernel_rfl) (by rfl) (by assumption) (fun oi ho => ?_)
                      simp only [List.getElem?_toArray, List.getElem?_cons_succ, List.getElem?_cons_zero, Option.some.injEq] at ho
                      subst ho
                      refine ⟨?_, fun _ _ _ h => h, .inl ⟨by rfl, fun W hSw => ?_⟩, ?_⟩
                      rotate_left
                      · (try dsimp only at hSw); (go_simp) <;> with_reducible rfl
                      simp only [Act.put, List.setIfInBounds_toArray, List.set_cons_zero, List.set_cons_succ]
                      refine wpAnyH_one' (i := 38) (by kernel_rfl) (by rfl) (fun oi ho => ?_)
                      refine AllReadyH.cons ho (fun K hK => ?_) AllReadyH.nil
                      simp only [List.getElem?_toArray, List.getElem?_cons_succ, List.getElem?_cons_zero, Option.some.injEq] at ho
                      subst ho
                      go_simp
                      go_at_call 19
                      with_reducible refine (hk1.out _ (hBz.out.trans (z0.out.mono hsz))).mono ?_
                      rintro _ wy ⟨rfl, hb⟩
                      have z1 := Lib.hid (z0.out.trans (hb.mono z0.out.size))
                      clear hb hHeld
                      go_wp2_with fail
                      refine hK.out _ _ (HS.out _ z1.out) (fun hHeld => ?_)
                      clear hK K
                      refine wpAnyH_op' (i := 39) (by kernel_rfl) (by kernel_rfl) (by kernel_rfl) (by rfl) (by assumption) (fun oi ho => ?_)
                      simp only [List.getElem?_toArray, List.getElem?_cons_succ, List.getElem?_cons_zero, Option.some.injEq] at ho
                      subst ho
                      refine ⟨?_, fun _ _ _ h => h, .inl ⟨by rfl, fun W hSw => ?_⟩, ?_⟩
                      rotate_left
                      · (try dsimp only at hSw); (go_simp) <;> with_reducible rfl
                      simp only [Act.put, List.setIfInBounds_toArray, List.set_cons_zero, List.set_cons_succ]
                      refine wpAnyH_op' (i := 40) (by kernel_rfl) (by kernel_rfl) (by kernel_rfl) (by rfl) (by assumption) (fun oi ho => ?_)
                      simp only [List.getElem?_toArray, List.getElem?_cons_succ, List.getElem?_cons_zero, Option.some.injEq] at ho
                      subst ho
                      refine ⟨?_, fun _ _ _ h => h, .inl ⟨by rfl, fun W hSw => ?_⟩, ?_⟩
                      rotate_left
                      · (try dsimp only at hSw); (go_simp) <;> with_reducible rfl
                      simp only [Act.put, List.setIfInBounds_toArray, List.set_cons_zero, List.set_cons_succ]
                      refine wpAnyH_op' (i := 41) (by kernel_rfl) (by kernel_rfl) (by kernel_rfl) (by rfl) (by assumption) (fun oi ho => ?_)
                      simp only [List.getElem?_toArray, List.getElem?_cons_succ, List.getElem?_cons_zero, Option.some.injEq] at ho
                      subst ho
                      refine ⟨?_, fun _ _ _ h => h, .inl ⟨by rfl, fun W hSw => ?_⟩, ?_⟩
                      rotate_left
                      · (try dsimp only at hSw); (go_simp) <;> with_reducible rfl
                      simp only [Act.put, List.setIfInBounds_toArray, List.set_cons_zero, List.set_cons_succ]
                      refine wpAnyH_op' (i := 42) (by kernel_rfl) (by kernel_rfl) (by kernel_rfl) (by rfl) (by assumption) (fun oi ho => ?_)
                      simp only [List.getElem?_toArray, List.getElem?_cons_succ, List.getElem?_cons_zero, Option.some.injEq] at ho
                      subst ho
                      refine ⟨?_, fun _ _ _ h => h, .inl ⟨by rfl, fun W hSw => ?_⟩, ?_⟩
                      rotate_left
                      · (try dsimp only at hSw); (go_simp) <;> with_reducible rfl
                      simp only [Act.put, List.setIfInBounds_toArray, List.set_cons_zero, List.set_cons_succ]
                      refine wpAnyH_done (by kernel_rfl) ?_ _
                      have hZ2 := Lib.hid (hZ.out.trans (z1.out.mono hZ.out.size))
                      clear HS hHeld m1 m4 m5 m6 z0 z1
                      go_wp2
                      exact ⟨⟨j + 1, by have := hjn.out; omega, by go_num, hZ2⟩, by simp only [intOf]; have := hjn.out; omega⟩
                    · have m5 : decide (0 ≤ e) = false := decide_eq_false (by omega)
                      have m6 : decide (0 ≤ z) = false := decide_eq_false (by omega)
                      clear hez k1 k2
                      go_wp2_with fail
                      refine wp_region_held_drew (S := fun W => W.cell? ⟨rb, j, none⟩ = some (.int .i64 d) ∧ W.cell? ⟨rb2, j, none⟩ = some (.int .i64 e) ∧ W.cell? ⟨w.heap.size, 0, none⟩ = some (.slice Ap s.ps.length cp) ∧ W.cell? ⟨w.heap.size, 1, none⟩ = some (.slice Ac s.cap.length cc) ∧ W.cell? ⟨w.heap.size, 2, none⟩ = some (.slice Av s.vot.length cv)) (by kernel_rfl) (HS.out _ z0.out) (fun hHeld => ?_)
                      refine wpAnyH_op' (i := 0) (by kernel_rfl) (by kernel_rfl) (by kernel_rfl) (by rfl) (by assumption) (fun oi ho => ?_)
                      simp only [List.getElem?_toArray, List.getElem?_cons_zero, Option.some.injEq] at ho
                      subst ho
                      refine ⟨?_, fun _ _ _ h => h, .inl ⟨by rfl, fun W hSw => ?_⟩, ?_⟩
                      rotate_left
                      · (try dsimp only at hSw); (go_simp) <;> with_reducible rfl
                      simp only [Act.put, List.setIfInBounds_toArray, List.set_cons_zero, List.set_cons_succ]
                      refine wpAnyH_op' (i := 1) (by kernel_rfl) (by kernel_rfl) (by kernel_rfl) (by rfl) (by assumption) (fun oi ho => ?_)
                      simp only [List.getElem?_toArray, List.getElem?_cons_succ, List.getElem?_cons_zero, Option.some.injEq] at ho
                      subst ho
                      refine ⟨?_, fun _ _ _ h => h, .inl ⟨by rfl, fun W hSw => ?_⟩, ?_⟩
                      rotate_left
                      · (try dsimp only at hSw); (go_simp) <;> with_reducible rfl
                      simp only [Act.put, List.setIfInBounds_toArray, List.set_cons_zero, List.set_cons_succ]
                      refine wpAnyH_op' (i := 2) (by kernel_rfl) (by kernel_rfl) (by kernel_rfl) (by rfl) (by assumption) (fun oi ho => ?_)
                      simp only [List.getElem?_toArray, List.getElem?_cons_succ, List.getElem?_cons_zero, Option.some.injEq] at ho
                      subst ho
                      refine ⟨?_, fun _ _ _ h => h, .inl ⟨by rfl, fun W hSw => ?_⟩, ?_⟩
                      rotate_left
                      · (try dsimp only at hSw); (go_simp) <;> with_reducible rfl
                      simp only [Act.put, List.setIfInBounds_toArray, List.set_cons_zero, List.set_cons_succ]
                      refine wpAnyH_op' (i := 3) (by kernel_rfl) (by kernel_rfl) (by kernel_rfl) (by rfl) (by assumption) (fun oi ho => ?_)
                      simp only [List.getElem?_toArray, List.getElem?_cons_succ, List.getElem?_cons_zero, Option.some.injEq] at ho
                      subst ho
                      refine ⟨?_, fun _ _ _ h => h, .inl ⟨by rfl, fun W hSw => ?_⟩, ?_⟩
                      rotate_left
                      · (try dsimp only at hSw); (go_simp) <;> with_reducible rfl
                      simp only [Act.put, List.setIfInBounds_toArray, List.set_cons_zero, List.set_cons_succ]
                      refine wpAnyH_op' (i := 4) (by kernel_rfl) (by kernel_rfl) (by kernel_rfl) (by rfl) (by assumption) (fun oi ho => ?_)
                      simp only [List.getElem?_toArray, List.getElem?_cons_succ, List.getElem?_cons_zero, Option.some.injEq] at ho
                      subst ho
                      refine ⟨?_, fun _ _ _ h => h, .inl ⟨by rfl, fun W hSw => ?_⟩, ?_⟩
                      rotate_left
                      · (try dsimp only at hSw); (go_simp) <;> with_reducible rfl
                      simp only [Act.put, List.setIfInBounds_toArray, List.set_cons_zero, List.set_cons_succ]
                      refine wpAnyH_op' (i := 5) (by kernel_rfl) (by kernel_rfl) (by kernel_rfl) (by rfl) (by assumption) (fun oi ho => ?_)
                      simp only [List.getElem?_toArray, List.getElem?_cons_succ, List.getElem?_cons_zero, Option.some.injEq] at ho
                      subst ho
                      refine ⟨?_, fun _ _ _ h => h, .inl ⟨by rfl, fun W hSw => ?_⟩, ?_⟩
                      rotate_left
                      · (try dsimp only at hSw); (go_simp) <;> with_reducible rfl
                      simp only [Act.put, List.setIfInBounds_toArray, List.set_cons_zero, List.set_cons_succ]
                      refine wpAnyH_op' (i := 6) (by kernel_rfl) (by kernel_rfl) (by kernel_rfl) (by rfl) (by assumption) (fun oi ho => ?_)
                      simp only [List.getElem?_toArray, List.getElem?_cons_succ, List.getElem?_cons_zero, Option.some.injEq] at ho
                      subst ho
                      refine ⟨undef, fun _ _ _ h => h, .inr ⟨by rfl, rfl⟩, ?_⟩
                      simp only [Act.put, List.setIfInBounds_toArray, List.set_cons_zero, List.set_cons_succ]
                      refine wpAnyH_op' (i := 7) (by kernel_rfl) (by kernel_rfl) (by kernel_rfl) (by rfl) (by assumption) (fun oi ho => ?_)
                      simp only [List.getElem?_toArray, List.getElem?_cons_succ, List.getElem?_cons_zero, Option.some.injEq] at ho
                      subst ho
                      refine ⟨undef, fun _ _ _ h => h, .inr ⟨by rfl, rfl⟩, ?_⟩
                      simp only [Act.put, List.setIfInBounds_toArray, List.set_cons_zero, List.set_cons_succ]
                      refine wpAnyH_op' (i := 8) (by kernel_rfl) (by kernel_rfl) (by kernel_rfl) (by rfl) (by assumption) (fun oi ho => ?_)
                      simp only [List.getElem?_toArray, List.getElem?_cons_succ, List.getElem?_cons_zero, Option.some.injEq] at ho
                      subst ho
                      refine ⟨undef, fun _ _ _ h => h, .inr ⟨by rfl, rfl⟩, ?_⟩
                      simp only [Act.put, List.setIfInBounds_toArray, List.set_cons_zero, List.set_cons_succ]
                      refine wpAnyH_op' (i := 9) (by kernel_rfl) (by kernel_rfl) (by kernel_rfl) (by rfl) (by assumption) (fun oi ho => ?_)
                      simp only [List.getElem?_toArray, List.getElem?_cons_succ, List.getElem?_cons_zero, Option.some.injEq] at ho
                      subst ho
                      refine ⟨undef, fun _ _ _ h => h, .inr ⟨by rfl, rfl⟩, ?_⟩
                      simp only [Act.put, List.setIfInBounds_toArray, List.set_cons_zero, List.set_cons_succ]
                      refine wpAnyH_op' (i := 10) (by kernel_rfl) (by kernel_rfl) (by kernel_rfl) (by rfl) (by assumption) (fun oi ho => ?_)
                      simp only [List.getElem?_toArray, List.getElem?_cons_succ, List.getElem?_cons_zero, Option.some.injEq] at ho
                      subst ho
                      refine ⟨undef, fun _ _ _ h => h, .inr ⟨by rfl, rfl⟩, ?_⟩
                      simp only [Act.put, List.setIfInBounds_toArray, List.set_cons_zero, List.set_cons_succ]
                      refine wpAnyH_op' (i := 11) (by kernel_rfl) (by kernel_rfl) (by kernel_rfl) (by rfl) (by assumption) (fun oi ho => ?_)
                      simp only [List.getElem?_toArray, List.getElem?_cons_succ, List.getElem?_cons_zero, Option.some.injEq] at ho
                      subst ho
                      refine ⟨undef, fun _ _ _ h => h, .inr ⟨by rfl, rfl⟩, ?_⟩
                      simp only [Act.put, List.setIfInBounds_toArray, List.set_cons_zero, List.set_cons_succ]
                      refine wpAnyH_op' (i := 12) (by kernel_rfl) (by kernel_rfl) (by kernel_rfl) (by rfl) (by assumption) (fun oi ho => ?_)
                      simp only [List.getElem?_toArray, List.getElem?_cons_succ, List.getElem?_cons_zero, Option.some.injEq] at ho
                      subst ho
                      refine ⟨undef, fun _ _ _ h => h, .inr ⟨by rfl, rfl⟩, ?_⟩
                      simp only [Act.put, List.setIfInBounds_toArray, List.set_cons_zero, List.set_cons_succ]
                      refine wpAnyH_op' (i := 13) (by kernel_rfl) (by kernel_rfl) (by kernel_rfl) (by rfl) (by assumption) (fun oi ho => ?_)
                      simp only [List.getElem?_toArray, List.getElem?_cons_succ, List.getElem?_cons_zero, Option.some.injEq] at ho
                      subst ho
                      refine ⟨undef, fun _ _ _ h => h, .inr ⟨by rfl, rfl⟩, ?_⟩
                      simp only [Act.put, List.setIfInBounds_toArray, List.set_cons_zero, List.set_cons_succ]
                      refine wpAnyH_op' (i := 14) (by kernel_rfl) (by kernel_rfl) (by kernel_rfl) (by rfl) (by assumption) (fun oi ho => ?_)
                      simp only [List.getElem?_toArray, List.getElem?_cons_succ, List.getElem?_cons_zero, Option.some.injEq] at ho
                      subst ho
                      refine ⟨undef, fun _ _ _ h => h, .inr ⟨by rfl, rfl⟩, ?_⟩
                      simp only [Act.put, List.setIfInBounds_toArray, List.set_cons_zero, List.set_cons_succ]
                      refine wpAnyH_op' (i := 15) (by kernel_rfl) (by kernel_rfl) (by kernel_rfl) (by rfl) (by assumption) (fun oi ho => ?_)
                      simp only [List.getElem?_toArray, List.getElem?_cons_succ, List.getElem?_cons_zero, Option.some.injEq] at ho
                      subst ho
                      refine ⟨undef, fun _ _ _ h => h, .inr ⟨by rfl, rfl⟩, ?_⟩
                      simp only [Act.put, List.setIfInBounds_toArray, List.set_cons_zero, List.set_cons_succ]
                      refine wpAnyH_op' (i := 16) (by kernel_rfl) (by kernel_rfl) (by kernel_rfl) (by rfl) (by assumption) (fun oi ho => ?_)
                      simp only [List.getElem?_toArray, List.getElem?_cons_succ, List.getElem?_cons_zero, Option.some.injEq] at ho
                      subst ho
                      refine ⟨undef, fun _ _ _ h => h, .inr ⟨by rfl, rfl⟩, ?_⟩
                      simp only [Act.put, List.setIfInBounds_toArray, List.set_cons_zero, List.set_cons_succ]
                      refine wpAnyH_op' (i := 17) (by kernel_rfl) (by kernel_rfl) (by kernel_rfl) (by rfl) (by assumption) (fun oi ho => ?_)
                      simp only [List.getElem?_toArray, List.getElem?_cons_succ, List.getElem?_cons_zero, Option.some.injEq] at ho
                      subst ho
                      refine ⟨undef, fun _ _ _ h => h, .inr ⟨by rfl, rfl⟩, ?_⟩
                      simp only [Act.put, List.setIfInBounds_toArray, List.set_cons_zero, List.set_cons_succ]
                      refine wpAnyH_op' (i := 18) (by kernel_rfl) (by kernel_rfl) (by kernel_rfl) (by rfl) (by assumption) (fun oi ho => ?_)
                      simp only [List.getElem?_toArray, List.getElem?_cons_succ, List.getElem?_cons_zero, Option.some.injEq] at ho
                      subst ho
                      refine ⟨undef, fun _ _ _ h => h, .inr ⟨by rfl, rfl⟩, ?_⟩
                      simp only [Act.put, List.setIfInBounds_toArray, List.set_cons_zero, List.set_cons_succ]
                      refine wpAnyH_op' (i := 19) (by kernel_rfl) (by kernel_rfl) (by kernel_rfl) (by rfl) (by assumption) (fun oi ho => ?_)
                      simp only [List.getElem?_toArray, List.getElem?_cons_succ, List.getElem?_cons_zero, Option.some.injEq] at ho
                      subst ho
                      refine ⟨undef, fun _ _ _ h => h, .inr ⟨by rfl, rfl⟩, ?_⟩
                      simp only [Act.put, List.setIfInBounds_toArray, List.set_cons_zero, List.set_cons_succ]
                      refine wpAnyH_op' (i := 20) (by kernel_rfl) (by kernel_rfl) (by kernel_rfl) (by rfl) (by assumption) (fun oi ho => ?_)
                      simp only [List.getElem?_toArray, List.getElem?_cons_succ, List.getElem?_cons_zero, Option.some.injEq] at ho
                      subst ho
                      refine ⟨undef, fun _ _ _ h => h, .inr ⟨by rfl, rfl⟩, ?_⟩
                      simp only [Act.put, List.setIfInBounds_toArray, List.set_cons_zero, List.set_cons_succ]
                      refine wpAnyH_op' (i := 21) (by kernel_rfl) (by kernel_rfl) (by kernel_rfl) (by rfl) (by assumption) (fun oi ho => ?_)
                      simp only [List.getElem?_toArray, List.getElem?_cons_succ, List.getElem?_cons_zero, Option.some.injEq] at ho
                      subst ho
                      refine ⟨undef, fun _ _ _ h => h, .inr ⟨by rfl, rfl⟩, ?_⟩
                      simp only [Act.put, List.setIfInBounds_toArray, List.set_cons_zero, List.set_cons_succ]
                      refine wpAnyH_op' (i := 22) (by kernel_rfl) (by kernel_rfl) (by kernel_rfl) (by rfl) (by assumption) (fun oi ho => ?_)
                      simp only [List.getElem?_toArray, List.getElem?_cons_succ, List.getElem?_cons_zero, Option.some.injEq] at ho
                      subst ho
                      refine ⟨?_, fun _ _ _ h => h, .inl ⟨by rfl, fun W hSw => ?_⟩, ?_⟩
                      rotate_left
                      · (try dsimp only at hSw); (go_simp) <;> with_reducible rfl
                      simp only [Act.put, List.setIfInBounds_toArray, List.set_cons_zero, List.set_cons_succ]
                      refine wpAnyH_op' (i := 23) (by kernel_rfl) (by kernel_rfl) (by kernel_rfl) (by rfl) (by assumption) (fun oi ho => ?_)
                      simp only [List.getElem?_toArray, List.getElem?_cons_succ, List.getElem?_cons_zero, Option.some.injEq] at ho
                      subst ho
                      refine ⟨?_, fun _ _ _ h => h, .inl ⟨by rfl, fun W hSw => ?_⟩, ?_⟩
                      rotate_left
                      · (try dsimp only at hSw); (go_simp) <;> with_reducible rfl
                      simp only [Act.put, List.setIfInBounds_toArray, List.set_cons_zero, List.set_cons_succ]
                      refine wpAnyH_op' (i := 24) (by kernel_rfl) (by kernel_rfl) (by kernel_rfl) (by rfl) (by assumption) (fun oi ho => ?_)
                      simp only [List.getElem?_toArray, List.getElem?_cons_succ, List.getElem?_cons_zero, Option.some.injEq] at ho
                      subst ho
                      refine ⟨?_, fun _ _ _ h => h, .inl ⟨by rfl, fun W hSw => ?_⟩, ?_⟩
                      rotate_left
                      · (try dsimp only at hSw); (go_simp) <;> with_reducible rfl
                      simp only [Act.put, List.setIfInBounds_toArray, List.set_cons_zero, List.set_cons_succ]
                      refine wpAnyH_op' (i := 25) (by kernel_rfl) (by kernel_rfl) (by kernel_rfl) (by rfl) (by assumption) (fun oi ho => ?_)
                      simp only [List.getElem?_toArray, List.getElem?_cons_succ, List.getElem?_cons_zero, Option.some.injEq] at ho
                      subst ho
                      refine ⟨?_, fun _ _ _ h => h, .inl ⟨by rfl, fun W hSw => ?_⟩, ?_⟩
                      rotate_left
                      · (try dsimp only at hSw); (go_simp) <;> with_reducible rfl
                      simp only [Act.put, List.setIfInBounds_toArray, List.set_cons_zero, List.set_cons_succ]
                      refine wpAnyH_op' (i := 26) (by kernel_rfl) (by kernel_rfl) (by kernel_rfl) (by rfl) (by assumption) (fun oi ho => ?_)
                      simp only [List.getElem?_toArray, List.getElem?_cons_succ, List.getElem?_cons_zero, Option.some.injEq] at ho
                      subst ho
                      refine ⟨?_, fun _ _ _ h => h, .inl ⟨by rfl, fun W hSw => ?_⟩, ?_⟩
                      rotate_left
                      · (try dsimp only at hSw); (go_simp) <;> with_reducible rfl
                      simp only [Act.put, List.setIfInBounds_toArray, List.set_cons_zero, List.set_cons_succ]
                      refine wpAnyH_op' (i := 27) (by kernel_rfl) (by kernel_rfl) (by kernel_rfl) (by rfl) (by assumption) (fun oi ho => ?_)
                      simp only [List.getElem?_toArray, List.getElem?_cons_succ, List.getElem?_cons_zero, Option.some.injEq] at ho
                      subst ho
                      refine ⟨?_, fun _ _ _ h => h, .inl ⟨by rfl, fun W hSw => ?_⟩, ?_⟩
                      rotate_left
                      · (try dsimp only at hSw); (go_simp) <;> with_reducible rfl
                      simp only [Act.put, List.setIfInBounds_toArray, List.set_cons_zero, List.set_cons_succ]
                      refine wpAnyH_op' (i := 28) (by kernel_rfl) (by kernel_rfl) (by kernel_rfl) (by rfl) (by assumption) (fun oi ho => ?_)
                      simp only [List.getElem?_toArray, List.getElem?_cons_succ, List.getElem?_cons_zero, Option.some.injEq] at ho
                      subst ho
                      refine ⟨?_, fun _ _ _ h => h, .inl ⟨by rfl, fun W hSw => ?_⟩, ?_⟩
                      rotate_left
                      · (try dsimp only at hSw); (go_simp) <;> with_reducible rfl
                      simp only [Act.put, List.setIfInBounds_toArray, List.set_cons_zero, List.set_cons_succ]
                      refine wpAnyH_op' (i := 29) (by kernel_rfl) (by kernel_rfl) (by kernel_rfl) (by rfl) (by assumption) (fun oi ho => ?_)
                      simp only [List.getElem?_toArray, List.getElem?_cons_succ, List.getElem?_cons_zero, Option.some.injEq] at ho
                      subst ho
                      refine ⟨?_, fun _ _ _ h => h, .inl ⟨by rfl, fun W hSw => ?_⟩, ?_⟩
                      rotate_left
                      · (try dsimp only at hSw); (go_simp) <;> with_reducible rfl
                      simp only [Act.put, List.setIfInBounds_toArray, List.set_cons_zero, List.set_cons_succ]
                      refine wpAnyH_op' (i := 30) (by kernel_rfl) (by kernel_rfl) (by kernel_rfl) (by rfl) (by assumption) (fun oi ho => ?_)
                      simp only [List.getElem?_toArray, List.getElem?_cons_succ, List.getElem?_cons_zero, Option.some.injEq] at ho
                      subst ho
                      refine ⟨?_, fun _ _ _ h => h, .inl ⟨by rfl, fun W hSw => ?_⟩, ?_⟩
                      rotate_left
                      · (try dsimp only at hSw); (go_simp) <;> with_reducible rfl
                      simp only [Act.put, List.setIfInBounds_toArray, List.set_cons_zero, List.set_cons_succ]
                      refine wpAnyH_op' (i := 31) (by kernel_rfl) (by kernel_rfl) (by kernel_rfl) (by rfl) (by assumption) (fun oi ho => ?_)
                      simp only [List.getElem?_toArray, List.getElem?_cons_succ, List.getElem?_cons_zero, Option.some.injEq] at ho
                      subst ho
                      refine ⟨?_, fun _ _ _ h => h, .inl ⟨by rfl, fun W hSw => ?_⟩, ?_⟩
                      rotate_left
                      · (try dsimp only at hSw); (go_simp) <;> with_reducible rfl
                      simp only [Act.put, List.setIfInBounds_toArray, List.set_cons_zero, List.set_cons_succ]
                      refine wpAnyH_op' (i := 32) (by kernel_rfl) (by kernel_rfl) (by kernel_rfl) (by rfl) (by assumption) (fun oi ho => ?_)
                      simp only [List.getElem?_toArray, List.getElem?_cons_succ, List.getElem?_cons_zero, Option.some.injEq] at ho
                      subst ho
                      refine ⟨?_, fun _ _ _ h => h, .inl ⟨by rfl, fun W hSw => ?_⟩, ?_⟩
                      rotate_left
                      · (try dsimp only at hSw); (go_simp) <;> with_reducible rfl
                      simp only [Act.put, List.setIfInBounds_toArray, List.set_cons_zero, List.set_cons_succ]
                      refine wpAnyH_op' (i := 33) (by kernel_rfl) (by kernel_rfl) (by kernel_rfl) (by rfl) (by assumption) (fun oi ho => ?_)
                      simp only [List.getElem?_toArray, List.getElem?_cons_succ, List.getElem?_cons_zero, Option.some.injEq] at ho
                      subst ho
                      refine ⟨?_, fun _ _ _ h => h, .inl ⟨by rfl, fun W hSw => ?_⟩, ?_⟩
                      rotate_left
                      · (try dsimp only at hSw); (go_simp) <;> with_reducible rfl
                      simp only [Act.put, List.setIfInBounds_toArray, List.set_cons_zero, List.set_cons_succ]
                      refine wpAnyH_op' (i := 34) (by kernel_rfl) (by kernel_rfl) (by kernel_rfl) (by rfl) (by assumption) (fun oi ho => ?_)
                      simp only [List.getElem?_toArray, List.getElem?_cons_succ, List.getElem?_cons_zero, Option.some.injEq] at ho
                      subst ho
                      refine ⟨?_, fun _ _ _ h => h, .inl ⟨by rfl, fun W hSw => ?_⟩, ?_⟩
                      rotate_left
                      · (try dsimp only at hSw); (go_simp) <;> with_reducible rfl
                      simp only [Act.put, List.setIfInBounds_toArray, List.set_cons_zero, List.set_cons_succ]
                      refine wpAnyH_op' (i := 35) (by kernel_rfl) (by kernel_rfl) (by kernel_rfl) (by rfl) (by assumption) (fun oi ho => ?_)
                      simp only [List.getElem?_toArray, List.getElem?_cons_succ, List.getElem?_cons_zero, Option.some.injEq] at ho
                      subst ho
                      refine ⟨?_, fun _ _ _ h => h, .inl ⟨by rfl, fun W hSw => ?_⟩, ?_⟩
                      rotate_left
                      · (try dsimp only at hSw); (go_simp) <;> with_reducible rfl
                      simp only [Act.put, List.setIfInBounds_toArray, List.set_cons_zero, List.set_cons_succ]
                      refine wpAnyH_op' (i := 36) (by kernel_rfl) (by kernel_rfl) (by kernel_rfl) (by rfl) (by assumption) (fun oi ho => ?_)
                      simp only [List.getElem?_toArray, List.getElem?_cons_succ, List.getElem?_cons_zero, Option.some.injEq] at ho
                      subst ho
                      refine ⟨?_, fun _ _ _ h => h, .inl ⟨by rfl, fun W hSw => ?_⟩, ?_⟩
                      rotate_left
                      · (try dsimp only at hSw); (go_simp) <;> with_reducible rfl
                      simp only [Act.put, List.setIfInBounds_toArray, List.set_cons_zero, List.set_cons_succ]
                      refine wpAnyH_op' (i := 37) (by kernel_rfl) (by kernel_rfl) (by kernel_rfl) (by rfl) (by assumption) (fun oi ho => ?_)
                      simp only [List.getElem?_toArray, List.getElem?_cons_succ, List.getElem?_cons_zero, Option.some.injEq] at ho
                      subst ho
                      refine ⟨?_, fun _ _ _ h => h, .inl ⟨by rfl, fun W hSw => ?_⟩, ?_⟩
                      rotate_left
                      · (try dsimp only at hSw); (go_simp) <;> with_reducible rfl
                      simp only [Act.put, List.setIfInBounds_toArray, List.set_cons_zero, List.set_cons_succ]
                      refine wpAnyH_one' (i := 38) (by kernel_rfl) (by rfl) (fun oi ho => ?_)
                      refine AllReadyH.cons ho (fun K hK => ?_) AllReadyH.nil
                      simp only [List.getElem?_toArray, List.getElem?_cons_succ, List.getElem?_cons_zero, Option.some.injEq] at ho
                      subst ho
                      go_simp
                      go_at_call 19
                      with_reducible refine (hk1.out _ (hBz.out.trans (z0.out.mono hsz))).mono ?_
                      rintro _ wy ⟨rfl, hb⟩
                      have z1 := Lib.hid (z0.out.trans (hb.mono z0.out.size))
                      clear hb hHeld
                      go_wp2_with fail
                      refine hK.out _ _ (HS.out _ z1.out) (fun hHeld => ?_)
                      clear hK K
                      refine wpAnyH_op' (i := 39) (by kernel_rfl) (by kernel_rfl) (by kernel_rfl) (by rfl) (by assumption) (fun oi ho => ?_)
                      simp only [List.getElem?_toArray, List.getElem?_cons_succ, List.getElem?_cons_zero, Option.some.injEq] at ho
                      subst ho
                      refine ⟨?_, fun _ _ _ h => h, .inl ⟨by rfl, fun W hSw => ?_⟩, ?_⟩
                      rotate_left
                      · (try dsimp only at hSw); (go_simp) <;> with_reducible rfl
                      simp only [Act.put, List.setIfInBounds_toArray, List.set_cons_zero, List.set_cons_succ]
                      refine wpAnyH_op' (i := 40) (by kernel_rfl) (by kernel_rfl) (by kernel_rfl) (by rfl) (by assumption) (fun oi ho => ?_)
                      simp only [List.getElem?_toArray, List.getElem?_cons_succ, List.getElem?_cons_zero, Option.some.injEq] at ho
                      subst ho
                      refine ⟨?_, fun _ _ _ h => h, .inl ⟨by rfl, fun W hSw => ?_⟩, ?_⟩
                      rotate_left
                      · (try dsimp only at hSw); (go_simp) <;> with_reducible rfl
                      simp only [Act.put, List.setIfInBounds_toArray, List.set_cons_zero, List.set_cons_succ]
                      refine wpAnyH_op' (i := 41) (by kernel_rfl) (by kernel_rfl) (by kernel_rfl) (by rfl) (by assumption) (fun oi ho => ?_)
                      simp only [List.getElem?_toArray, List.getElem?_cons_succ, List.getElem?_cons_zero, Option.some.injEq] at ho
                      subst ho
                      refine ⟨?_, fun _ _ _ h => h, .inl ⟨by rfl, fun W hSw => ?_⟩, ?_⟩
                      rotate_left
                      · (try dsimp only at hSw); (go_simp) <;> with_reducible rfl
                      simp only [Act.put, List.setIfInBounds_toArray, List.set_cons_zero, List.set_cons_succ]
                      refine wpAnyH_op' (i := 42) (by kernel_rfl) (by kernel_rfl) (by kernel_rfl) (by rfl) (by assumption) (fun oi ho => ?_)
                      simp only [List.getElem?_toArray, List.getElem?_cons_succ, List.getElem?_cons_zero, Option.some.injEq] at ho
                      subst ho
                      refine ⟨?_, fun _ _ _ h => h, .inl ⟨by rfl, fun W hSw => ?_⟩, ?_⟩
                      rotate_left
                      · (try dsimp only at hSw); (go_simp) <;> with_reducible rfl
                      simp only [Act.put, List.setIfInBounds_toArray, List.set_cons_zero, List.set_cons_succ]
                      refine wpAnyH_done (by kernel_rfl) ?_ _
                      have hZ2 := Lib.hid (hZ.out.trans (z1.out.mono hZ.out.size))
                      clear HS hHeld m1 m4 m5 m6 z0 z1
                      go_wp2
                      exact ⟨⟨j + 1, by have := hjn.out; omega, by go_num, hZ2⟩, by simp only [intOf]; have := hjn.out; omega⟩
                · obtain rfl : j = s.ps.length := by omega
                  go_wp2
                  go_ret
                  exact ⟨rfl, hBz.out⟩
            | false =>
              have hMo : Mo (toN F) p (acc ++ [p]) := Mi.last (by rw [hlen.out]; exact hM.out)
              replace hMo := Lib.hid hMo
              have hO7 := Lib.hid (own_below' hO.out ((Below.refl _ wr).alloc (Nat.le_refl _) (.cells #[.int .i64 (p : Int)] 3)))
              have hK7 := Lib.hid (hK.out.alloc (.cells #[.int .i64 (p : Int)] 3))
              have hbs7 : Hid (w4.heap.size ≤ (wr.alloc (.cells #[.int .i64 (p : Int)] 3)).heap.size) := hK7.out.size
              have had7 : Hid (∀ j u, [(Value.int .i64 (p : Int))][j]? = some u → (wr.alloc (.cells #[.int .i64 (p : Int)] 3)).cell? (Addr.add ⟨wr.heap.size, 0, none⟩ j) = some u) := head_new wr _ _
              have hrp7 : Hid (intsL acc ++ [.int .i64 (p : Int)] = intsL (acc ++ [p])) := (intsL_snoc _ _).symm
              have hrow7 : Hid (∀ b, (Value.slice A k c).ownBlock = some b → b ∈ ([] : List Nat) ∨ w4.heap.size ≤ b) := fun b e => .inr (hO.out.lt b e).1
              go_wp2_with (first | (at_builtin; refine wpList_append_new _ rfl _ _ 26 rfl w4.heap.size 3 i0 (.int .i64 0) 1 8 Tryz.underlying26 hi0.out hz0.out hz1.out hz2.out rfl (by decide) (.slice A k c) k _ rfl hO7.out ⟨wr.heap.size, 0, none⟩ 1 1 [.int .i64 (p : Int)] rfl rfl had7.out (one_cell1 _ rfl) (by decide) (by unfold maxLen; omega) (by omega) hbs7.out ?_; intro vb7 wb7 ho7 hg7 hn7; obtain ⟨A7, c7, rfl⟩ := own_form ho7; rw [hrp7.out] at ho7; have hk7 := Lib.hid (hK7.out.grown hg7 hrow7.out); replace ho7 := Lib.hid ho7; clear hg7 hn7; replace hMo := hMo.out; have hkR : k + 1 = (acc ++ [p]).length := (by rw [List.length_append, List.length_singleton, ← hk.out]); have hq : Hid (Below w4.heap.size w4 wb7) := hk7.out.to_below (Below.refl _ _) (fun x hx => by simp at hx); have hBW : Hid (Below w.heap.size w wb7) := hB4.out.trans (hq.out.mono hB4.out.size); obtain ⟨R, hRe⟩ : ∃ x, x = (acc ++ [p]) := ⟨_, rfl⟩; rw [← hRe] at hMo hkR ho7; clear hRe; have kr2 : Hid (Calls Tryz.prog 13 #[.agg #[.slice Ap s.ps.length cp, .slice Ac s.cap.length cc, .slice Av s.vot.length cv], .slice A7 (k + 1) c7] wb7 fun e w' => (∃ b, e = .returned (.tuple #[.slice (some ⟨b, 0, none⟩) s.ps.length s.ps.length, .int .i64 0]) ∧ RoI w' b s.ps.length (rk (edges s) R)) ∧ Below wb7.heap.size wb7 w') := (by have hI : InInt wb7 A7 (R.map fun (q : Nat) => (q : Int)) := (own_inInt (u := .slice A7 (k + 1) c7) (by rw [← hkR]; exact ho7.out)).2; have kq := Ranks_any s Ap Ac Av A7 cp cc cv c7 (R.map fun (q : Nat) => (q : Int)) wb7 (hE.out.below hBW.out) (hs.out.below hBW.out) hc3 hI (by have := hMo.2.2; have := hlen.out; rw [List.length_map]; omega); rw [List.length_map, ← hkR] at kq; exact kq.mono fun e w' h => ⟨by have h1 := h.1; rw [if_pos ⟨hsd.out, hmo.out _ hMo⟩, toN_map] at h1; obtain ⟨b, e1, _, e2⟩ := h1; exact ⟨b, e1, e2⟩, h.2⟩); have hz : rk (edges s) R p = 0 := rk_zero.2 ((hMo.2.1 p).2 (.inr rfl)); have hXW := Lib.hid (hX4.out.below hq.out); have u0 := hXW.out.cell (j := 0) rfl; have u1 := hXW.out.cell (j := 1) rfl; have u2 := hXW.out.cell (j := 2) rfl; have u9 := hXW.out.lt; replace hMo := Lib.hid hMo; replace hz := Lib.hid hz; replace hkR := Lib.hid hkR; clear ho7 hk7 hM) | (refine kr2.out.mono ?_; rintro e w9 ⟨⟨rb2, rfl, hR2⟩, hb⟩; have hq9 : Hid (Below w4.heap.size w4 w9) := hq.out.trans (hb.mono hq.out.size); have hX9 := Lib.hid (hX4.out.below hq9.out); have hR1 := Lib.hid (hR4.out.below hq9.out); have hB9 : Hid (Below w.heap.size w w9) := hB4.out.trans (hq9.out.mono hB4.out.size); replace hR2 := Lib.hid hR2; clear hb u0 u1 u2 u9 kr2 hXW hq; have u0 := hX9.out.cell (j := 0) rfl; have u9 := hX9.out.lt; have e3 := hR2.out.cell p hpn.out; have e4 := hR2.out.lt; rw [hz.out] at e3))
              clear u0 u9 e3 e4
              have hpos : Hid (∀ j, 0 ≤ rk (edges s) (toN F) j → 0 ≤ rk (edges s) R j ∧ rk (edges s) R j ≤ rk (edges s) (toN F) j) := fun j h => rk_mono (fun f hf => (hMo.out.2.1 f).2 (.inl hf)) h
              have hneg : Hid (∀ j, rk (edges s) (toN F) j < 0 → (0 ≤ rk (edges s) R j ↔ 0 ≤ rk (edges s) [p] j)) := fun j h => (rk_more hMo.out.2.1 h).trans rk_one.symm
              have hDi : Hid (∀ (j : Nat) W, j < s.ps.length → Below w.heap.size w W → Calls Tryz.prog 19 #[.agg #[.slice Ap s.ps.length cp, .slice Ac s.cap.length cc, .slice Av s.vot.length cv], .int .i64 (p : Int), .int .i64 (j : Int)] W fun e w' => e = .returned (.int .i64 (rk (edges s) [p] j)) ∧ Below W.heap.size W w') := fun j W hj hW => Dist_any s Ap Ac Av cp cc cv p j W (hs.out.below hW) hsd.out hpn.out hj
              go_loopw [16] (fun ix wr => ∃ (j : Nat), j ≤ s.ps.length ∧ ix = .int .i64 (j : Int) ∧ Hid (Below w9.heap.size w9 wr)) (fun ix _ => s.ps.length - (intOf ix).toNat)
              case atStart => exact ⟨0, Nat.zero_le _, rfl, Below.refl _ _⟩
              case round =>
                obtain ⟨j, hj, rfl, hZ⟩ := hrel
                have hBz : Hid (Below w.heap.size w wr) := hB9.out.trans (hZ.out.mono hB9.out.size)
                by_cases hjn : j < s.ps.length
                · have r1 := hR1.out.below hZ.out; have r2 := hR2.out.below hZ.out; have r3 := hX9.out.below hZ.out
                  have c1 := r1.cell j hjn; have c2 := r2.cell j hjn; have c3 := r1.lt; have c4 := r2.lt; have c9 := r3.lt
                  have v0 := r3.cell (j := 0) rfl; have v1 := r3.cell (j := 1) rfl; have v2 := r3.cell (j := 2) rfl
                  clear r1 r2 r3
                  have hp1 := hpos.out j; have hn1 := hneg.out j; have hk1 := fun W hW => hDi.out j W hjn hW
                  generalize rk (edges s) (toN F) j = d at hp1 hn1 c1
                  generalize rk (edges s) R j = e at hp1 hn1 c2
                  generalize rk (edges s) [p] j = z at hn1 hk1
                  replace hk1 := Lib.hid hk1
                  have j0 : (0 : Int) ≤ (j : Int) := by omega
                  have j1 : (j : Int) < (s.ps.length : Int) := by omega
                  replace hjn := Lib.hid hjn
                  by_cases hd : 0 ≤ d
                  · obtain ⟨q1, q2⟩ := hp1 hd
                    have m1 : decide (0 ≤ d) = true := decide_eq_true hd; have m2 : decide (e < 0) = false := decide_eq_false (by omega); have m3 : decide (d < e) = false := decide_eq_false (by omega); have m4 : decide (d < 0) = false := decide_eq_false (by omega)
                    clear hn1 hk1 hd q1 q2
                    go_wp2_with fail
                    go_quiet (fail)
                    have hZ2 := Lib.hid (bl_drewN hZ.out nq)
                    clear c1 c2 c3 c4 v0 v1 v2 m1 m2 m3 m4
                    go_wp2
                    exact ⟨⟨j + 1, by have := hjn.out; omega, by go_num, hZ2⟩, by simp only [intOf]; have := hjn.out; omega⟩
                  · have m1 : decide (0 ≤ d) = false := decide_eq_false hd
                    have m4 : decide (d < 0) = true := decide_eq_true (by omega)
                    have HS : Hid (∀ W, Below wr.heap.size wr W → (fun W => W.cell? ⟨rb, j, none⟩ = some (.int .i64 d) ∧ W.cell? ⟨rb2, j, none⟩ = some (.int .i64 e) ∧ W.cell? ⟨w.heap.size, 0, none⟩ = some (.slice Ap s.ps.length cp) ∧ W.cell? ⟨w.heap.size, 1, none⟩ = some (.slice Ac s.cap.length cc) ∧ W.cell? ⟨w.heap.size, 2, none⟩ = some (.slice Av s.vot.length cv)) W) := fun W hb => ⟨(hb.cell (p := ⟨rb, j, none⟩) c3).trans c1, (hb.cell (p := ⟨rb2, j, none⟩) c4).trans c2, (hb.cell (p := ⟨w.heap.size, 0, none⟩) c9).trans v0, (hb.cell (p := ⟨w.heap.size, 1, none⟩) c9).trans v1, (hb.cell (p := ⟨w.heap.size, 2, none⟩) c9).trans v2⟩
                    have hez := hn1 (by omega)
                    clear hp1 hn1 c1 c2 c3 c4 c9 v0 v1 v2 hd
                    have hsz := hBz.out.size
                    have z0 : Hid (Below wr.heap.size wr wr.drew) := (Below.refl _ wr).drew
                    have hcl : (0 ≤ e ∧ 0 ≤ z) ∨ (e < 0 ∧ z < 0) := by omega
                    rcases hcl with ⟨k1, k2⟩ | ⟨k1, k2⟩
                    · have m5 : decide (0 ≤ e) = true := decide_eq_true (by omega)
                      have m6 : decide (0 ≤ z) = true := decide_eq_true (by omega)
                      clear hez k1 k2
                      go_wp2_with fail
                      refine wp_region_held_drew (S := fun W => W.cell? ⟨rb, j, none⟩ = some (.int .i64 d) ∧ W.cell? ⟨rb2, j, none⟩ = some (.int .i64 e) ∧ W.cell? ⟨w.heap.size, 0, none⟩ = some (.slice Ap s.ps.length cp) ∧ W.cell? ⟨w.heap.size, 1, none⟩ = some (.slice Ac s.cap.length cc) ∧ W.cell? ⟨w.heap.size, 2, none⟩ = some (.slice Av s.vot.length cv)) (by kernel_rfl) (HS.out _ z0.out) (fun hHeld => ?_)
                      refine wpAnyH_op' (i := 0) (by kernel_rfl) (by kernel_rfl) (by kernel_rfl) (by rfl) (by assumption) (fun oi ho => ?_)
                      simp only [List.getElem?_toArray, List.getElem?_cons_zero, Option.some.injEq] at ho
                      subst ho
                      refine ⟨?_, fun _ _ _ h => h, .inl ⟨by rfl, fun W hSw => ?_⟩, ?_⟩
                      rotate_left
                      · (try dsimp only at hSw); (go_simp) <;> with_reducible rfl
                      simp only [Act.put, List.setIfInBounds_toArray, List.set_cons_zero, List.set_cons_succ]
                      refine wpAnyH_op' (i := 1) (by kernel_rfl) (by kernel_rfl) (by kernel_rfl) (by rfl) (by assumption) (fun oi ho => ?_)
                      simp only [List.getElem?_toArray, List.getElem?_cons_succ, List.getElem?_cons_zero, Option.some.injEq] at ho
                      subst ho
                      refine ⟨?_, fun _ _ _ h => h, .inl ⟨by rfl, fun W hSw => ?_⟩, ?_⟩
                      rotate_left
                      · (try dsimp only at hSw); (go_simp) <;> with_reducible rfl
                      simp only [Act.put, List.setIfInBounds_toArray, List.set_cons_zero, List.set_cons_succ]
                      refine wpAnyH_op' (i := 2) (by kernel_rfl) (by kernel_rfl) (by kernel_rfl) (by rfl) (by assumption) (fun oi ho => ?_)
                      simp only [List.getElem?_toArray, List.getElem?_cons_succ, List.getElem?_cons_zero, Option.some.injEq] at ho
                      subst ho
                      refine ⟨?_, fun _ _ _ h => h, .inl ⟨by rfl, fun W hSw => ?_⟩, ?_⟩
                      rotate_left
                      · (try dsimp only at hSw); (go_simp) <;> with_reducible rfl
                      simp only [Act.put, List.setIfInBounds_toArray, List.set_cons_zero, List.set_cons_succ]
                      refine wpAnyH_op' (i := 3) (by kernel_rfl) (by kernel_rfl) (by kernel_rfl) (by rfl) (by assumption) (fun oi ho => ?_)
                      simp only [List.getElem?_toArray, List.getElem?_cons_succ, List.getElem?_cons_zero, Option.some.injEq] at ho
                      subst ho
                      refine ⟨?_, fun _ _ _ h => h, .inl ⟨by rfl, fun W hSw => ?_⟩, ?_⟩
                      rotate_left
                      · (try dsimp only at hSw); (go_simp) <;> with_reducible rfl
                      simp only [Act.put, List.setIfInBounds_toArray, List.set_cons_zero, List.set_cons_succ]
                      refine wpAnyH_op' (i := 4) (by kernel_rfl) (by kernel_rfl) (by kernel_rfl) (by rfl) (by assumption) (fun oi ho => ?_)
                      simp only [List.getElem?_toArray, List.getElem?_cons_succ, List.getElem?_cons_zero, Option.some.injEq] at ho
                      subst ho
                      refine ⟨?_, fun _ _ _ h => h, .inl ⟨by rfl, fun W hSw => ?_⟩, ?_⟩
                      rotate_left
                      · (try dsimp only at hSw); (go_simp) <;> with_reducible rfl
                      simp only [Act.put, List.setIfInBounds_toArray, List.set_cons_zero, List.set_cons_succ]
                      refine wpAnyH_op' (i := 5) (by kernel_rfl) (by kernel_rfl) (by kernel_rfl) (by rfl) (by assumption) (fun oi ho => ?_)
                      simp only [List.getElem?_toArray, List.getElem?_cons_succ, List.getElem?_cons_zero, Option.some.injEq] at ho
                      subst ho
                      refine ⟨?_, fun _ _ _ h => h, .inl ⟨by rfl, fun W hSw => ?_⟩, ?_⟩
                      rotate_left
                      · (try dsimp only at hSw); (go_simp) <;> with_reducible rfl
                      simp only [Act.put, List.setIfInBounds_toArray, List.set_cons_zero, List.set_cons_succ]
                      refine wpAnyH_op' (i := 6) (by kernel_rfl) (by kernel_rfl) (by kernel_rfl) (by rfl) (by assumption) (fun oi ho => ?_)
                      simp only [List.getElem?_toArray, List.getElem?_cons_succ, List.getElem?_cons_zero, Option.some.injEq] at ho
                      subst ho
                      refine ⟨undef, fun _ _ _ h => h, .inr ⟨by rfl, rfl⟩, ?_⟩
                      simp only [Act.put, List.setIfInBounds_toArray, List.set_cons_zero, List.set_cons_succ]
                      refine wpAnyH_op' (i := 7) (by kernel_rfl) (by kernel_rfl) (by kernel_rfl) (by rfl) (by assumption) (fun oi ho => ?_)
                      simp only [List.getElem?_toArray, List.getElem?_cons_succ, List.getElem?_cons_zero, Option.some.injEq] at ho
                      subst ho
                      refine ⟨undef, fun _ _ _ h => h, .inr ⟨by rfl, rfl⟩, ?_⟩
                      simp only [Act.put, List.setIfInBounds_toArray, List.set_cons_zero, List.set_cons_succ]
                      refine wpAnyH_op' (i := 8) (by kernel_rfl) (by kernel_rfl) (by kernel_rfl) (by rfl) (by assumption) (fun oi ho => ?_)
                      simp only [List.getElem?_toArray, List.getElem?_cons_succ, List.getElem?_cons_zero, Option.some.injEq] at ho
                      subst ho
                      refine ⟨undef, fun _ _ _ h => h, .inr ⟨by rfl, rfl⟩, ?_⟩
                      simp only [Act.put, List.setIfInBounds_toArray, List.set_cons_zero, List.set_cons_succ]
                      refine wpAnyH_op' (i := 9) (by kernel_rfl) (by kernel_rfl) (by kernel_rfl) (by rfl) (by assumption) (fun oi ho => ?_)
                      simp only [List.getElem?_toArray, List.getElem?_cons_succ, List.getElem?_cons_zero, Option.some.injEq] at ho
                      subst ho
                      refine ⟨undef, fun _ _ _ h => h, .inr ⟨by rfl, rfl⟩, ?_⟩
                      simp only [Act.put, List.setIfInBounds_toArray, List.set_cons_zero, List.set_cons_succ]
                      refine wpAnyH_op' (i := 10) (by kernel_rfl) (by kernel_rfl) (by kernel_rfl) (by rfl) (by assumption) (fun oi ho => ?_)
                      simp only [List.getElem?_toArray, List.getElem?_cons_succ, List.getElem?_cons_zero, Option.some.injEq] at ho
                      subst ho
                      refine ⟨undef, fun _ _ _ h => h, .inr ⟨by rfl, rfl⟩, ?_⟩
                      simp only [Act.put, List.setIfInBounds_toArray, List.set_cons_zero, List.set_cons_succ]
                      refine wpAnyH_op' (i := 11) (by kernel_rfl) (by kernel_rfl) (by kernel_rfl) (by rfl) (by assumption) (fun oi ho => ?_)
                      simp only [List.getElem?_toArray, List.getElem?_cons_succ, List.getElem?_cons_zero, Option.some.injEq] at ho
                      subst ho
                      refine ⟨undef, fun _ _ _ h => h, .inr ⟨by rfl, rfl⟩, ?_⟩
                      simp only [Act.put, List.setIfInBounds_toArray, List.set_cons_zero, List.set_cons_succ]
                      refine wpAnyH_op' (i := 12) (by kernel_rfl) (by kernel_rfl) (by kernel_rfl) (by rfl) (by assumption) (fun oi ho => ?_)
                      simp only [List.getElem?_toArray, List.getElem?_cons_succ, List.getElem?_cons_zero, Option.some.injEq] at ho
                      subst ho
                      refine ⟨undef, fun _ _ _ h => h, .inr ⟨by rfl, rfl⟩, ?_⟩
                      simp only [Act.put, List.setIfInBounds_toArray, List.set_cons_zero, List.set_cons_succ]
                      refine wpAnyH_op' (i := 13) (by kernel_rfl) (by kernel_rfl) (by kernel_rfl) (by rfl) (by assumption) (fun oi ho => ?_)
                      simp only [List.getElem?_toArray, List.getElem?_cons_succ, List.getElem?_cons_zero, Option.some.injEq] at ho
                      subst ho
                      refine ⟨undef, fun _ _ _ h => h, .inr ⟨by rfl, rfl⟩, ?_⟩
                      simp only [Act.put, List.setIfInBounds_toArray, List.set_cons_zero, List.set_cons_succ]
                      refine wpAnyH_op' (i := 14) (by kernel_rfl) (by kernel_rfl) (by kernel_rfl) (by rfl) (by assumption) (fun oi ho => ?_)
                      simp only [List.getElem?_toArray, List.getElem?_cons_succ, List.getElem?_cons_zero, Option.some.injEq] at ho
                      subst ho
                      refine ⟨undef, fun _ _ _ h => h, .inr ⟨by rfl, rfl⟩, ?_⟩
                      simp only [Act.put, List.setIfInBounds_toArray, List.set_cons_zero, List.set_cons_succ]
                      refine wpAnyH_op' (i := 15) (by kernel_rfl) (by kernel_rfl) (by kernel_rfl) (by rfl) (by assumption) (fun oi ho => ?_)
                      simp only [List.getElem?_toArray, List.getElem?_cons_succ, List.getElem?_cons_zero, Option.some.injEq] at ho
                      subst ho
                      refine ⟨undef, fun _ _ _ h => h, .inr ⟨by rfl, rfl⟩, ?_⟩
                      simp only [Act.put, List.setIfInBounds_toArray, List.set_cons_zero, List.set_cons_succ]
                      refine wpAnyH_op' (i := 16) (by kernel_rfl) (by kernel_rfl) (by kernel_rfl) (by rfl) (by assumption) (fun oi ho => ?_)
                      simp only [List.getElem?_toArray, List.getElem?_cons_succ, List.getElem?_cons_zero, Option.some.injEq] at ho
                      subst ho
                      refine ⟨undef, fun _ _ _ h => h, .inr ⟨by rfl, rfl⟩, ?_⟩
                      simp only [Act.put, List.setIfInBounds_toArray, List.set_cons_zero, List.set_cons_succ]
                      refine wpAnyH_op' (i := 17) (by kernel_rfl) (by kernel_rfl) (by kernel_rfl) (by rfl) (by assumption) (fun oi ho => ?_)
                      simp only [List.getElem?_toArray, List.getElem?_cons_succ, List.getElem?_cons_zero, Option.some.injEq] at ho
                      subst ho
                      refine ⟨undef, fun _ _ _ h => h, .inr ⟨by rfl, rfl⟩, ?_⟩
                      simp only [Act.put, List.setIfInBounds_toArray, List.set_cons_zero, List.set_cons_succ]
                      refine wpAnyH_op' (i := 18) (by kernel_rfl) (by kernel_rfl) (by kernel_rfl) (by rfl) (by assumption) (fun oi ho => ?_)
                      simp only [List.getElem?_toArray, List.getElem?_cons_succ, List.getElem?_cons_zero, Option.some.injEq] at ho
                      subst ho
                      refine ⟨undef, fun _ _ _ h => h, .inr ⟨by rfl, rfl⟩, ?_⟩
                      simp only [Act.put, List.setIfInBounds_toArray, List.set_cons_zero, List.set_cons_succ]
                      refine wpAnyH_op' (i := 19) (by kernel_rfl) (by kernel_rfl) (by kernel_rfl) (by rfl) (by assumption) (fun oi ho => ?_)
                      simp only [List.getElem?_toArray, List.getElem?_cons_succ, List.getElem?_cons_zero, Option.some.injEq] at ho
                      subst ho
                      refine ⟨undef, fun _ _ _ h => h, .inr ⟨by rfl, rfl⟩, ?_⟩
                      simp only [Act.put, List.setIfInBounds_toArray, List.set_cons_zero, List.set_cons_succ]
                      refine wpAnyH_op' (i := 20) (by kernel_rfl) (by kernel_rfl) (by kernel_rfl) (by rfl) (by assumption) (fun oi ho => ?_)
                      simp only [List.getElem?_toArray, List.getElem?_cons_succ, List.getElem?_cons_zero, Option.some.injEq] at ho
                      subst ho
                      refine ⟨undef, fun _ _ _ h => h, .inr ⟨by rfl, rfl⟩, ?_⟩
                      simp only [Act.put, List.setIfInBounds_toArray, List.set_cons_zero, List.set_cons_succ]
                      refine wpAnyH_op' (i := 21) (by kernel_rfl) (by kernel_rfl) (by kernel_rfl) (by rfl) (by assumption) (fun oi ho => ?_)
                      simp only [List.getElem?_toArray, List.getElem?_cons_succ, List.getElem?_cons_zero, Option.some.injEq] at ho
                      subst ho
                      refine ⟨undef, fun _ _ _ h => h, .inr ⟨by rfl, rfl⟩, ?_⟩
                      simp only [Act.put, List.setIfInBounds_toArray, List.set_cons_zero, List.set_cons_succ]
                      refine wpAnyH_op' (i := 22) (by kernel_rfl) (by kernel_rfl) (by kernel_rfl) (by rfl) (by assumption) (fun oi ho => ?_)
                      simp only [List.getElem?_toArray, List.getElem?_cons_succ, List.getElem?_cons_zero, Option.some.injEq] at ho
                      subst ho
                      refine ⟨?_, fun _ _ _ h => h, .inl ⟨by rfl, fun W hSw => ?_⟩, ?_⟩
                      rotate_left
                      · (try dsimp only at hSw); (go_simp) <;> with_reducible rfl
                      simp only [Act.put, List.setIfInBounds_toArray, List.set_cons_zero, List.set_cons_succ]
                      refine wpAnyH_op' (i := 23) (by kernel_rfl) (by kernel_rfl) (by kernel_rfl) (by rfl) (by assumption) (fun oi ho => ?_)
                      simp only [List.getElem?_toArray, List.getElem?_cons_succ, List.getElem?_cons_zero, Option.some.injEq] at ho
                      subst ho
                      refine ⟨?_, fun _ _ _ h => h, .inl ⟨by rfl, fun W hSw => ?_⟩, ?_⟩
                      rotate_left
                      · (try dsimp only at hSw); (go_simp) <;> with_reducible rfl
                      simp only [Act.put, List.setIfInBounds_toArray, List.set_cons_zero, List.set_cons_succ]
                      refine wpAnyH_op' (i := 24) (by kernel_rfl) (by kernel_rfl) (by kernel_rfl) (by rfl) (by assumption) (fun oi ho => ?_)
                      simp only [List.getElem?_toArray, List.getElem?_cons_succ, List.getElem?_cons_zero, Option.some.injEq] at ho
                      subst ho
                      refine ⟨?_, fun _ _ _ h => h, .inl ⟨by rfl, fun W hSw => ?_⟩, ?_⟩
                      rotate_left
                      · (try dsimp only at hSw); (go_simp) <;> with_reducible rfl
                      simp only [Act.put, List.setIfInBounds_toArray, List.set_cons_zero, List.set_cons_succ]
                      refine wpAnyH_op' (i := 25) (by kernel_rfl) (by kernel_rfl) (by kernel_rfl) (by rfl) (by assumption) (fun oi ho => ?_)
                      simp only [List.getElem?_toArray, List.getElem?_cons_succ, List.getElem?_cons_zero, Option.some.injEq] at ho
                      subst ho
                      refine ⟨?_, fun _ _ _ h => h, .inl ⟨by rfl, fun W hSw => ?_⟩, ?_⟩
                      rotate_left
                      · (try dsimp only at hSw); (go_simp) <;> with_reducible rfl
                      simp only [Act.put, List.setIfInBounds_toArray, List.set_cons_zero, List.set_cons_succ]
                      refine wpAnyH_op' (i := 26) (by kernel_rfl) (by kernel_rfl) (by kernel_rfl) (by rfl) (by assumption) (fun oi ho => ?_)
                      simp only [List.getElem?_toArray, List.getElem?_cons_succ, List.getElem?_cons_zero, Option.some.injEq] at ho
                      subst ho
                      refine ⟨?_, fun _ _ _ h => h, .inl ⟨by rfl, fun W hSw => ?_⟩, ?_⟩
                      rotate_left
                      · (try dsimp only at hSw); (go_simp) <;> with_reducible rfl
                      simp only [Act.put, List.setIfInBounds_toArray, List.set_cons_zero, List.set_cons_succ]
                      refine wpAnyH_op' (i := 27) (by kernel_rfl) (by kernel_rfl) (by kernel_rfl) (by rfl) (by assumption) (fun oi ho => ?_)
                      simp only [List.getElem?_toArray, List.getElem?_cons_succ, List.getElem?_cons_zero, Option.some.injEq] at ho
                      subst ho
                      refine ⟨?_, fun _ _ _ h => h, .inl ⟨by rfl, fun W hSw => ?_⟩, ?_⟩
                      rotate_left
                      · (try dsimp only at hSw); (go_simp) <;> with_reducible rfl
                      simp only [Act.put, List.setIfInBounds_toArray, List.set_cons_zero, List.set_cons_succ]
                      refine wpAnyH_op' (i := 28) (by kernel_rfl) (by kernel_rfl) (by kernel_rfl) (by rfl) (by assumption) (fun oi ho => ?_)
                      simp only [List.getElem?_toArray, List.getElem?_cons_succ, List.getElem?_cons_zero, Option.some.injEq] at ho
                      subst ho
                      refine ⟨?_, fun _ _ _ h => h, .inl ⟨by rfl, fun W hSw => ?_⟩, ?_⟩
                      rotate_left
                      · (try dsimp only at hSw); (go_simp) <;> with_reducible rfl
                      simp only [Act.put, List.setIfInBounds_toArray, List.set_cons_zero, List.set_cons_succ]
                      refine wpAnyH_op' (i := 29) (by kernel_rfl) (by kernel_rfl) (by kernel_rfl) (by rfl) (by assumption) (fun oi ho => ?_)
                      simp only [List.getElem?_toArray, List.getElem?_cons_succ, List.getElem?_cons_zero, Option.some.injEq] at ho
                      subst ho
                      refine ⟨?_, fun _ _ _ h => h, .inl ⟨by rfl, fun W hSw => ?_⟩, ?_⟩
                      rotate_left
                      · (try dsimp only at hSw); (go_simp) <;> with_reducible rfl
                      simp only [Act.put, List.setIfInBounds_toArray, List.set_cons_zero, List.set_cons_succ]
                      refine wpAnyH_op' (i := 30) (by kernel_rfl) (by kernel_rfl) (by kernel_rfl) (by rfl) (by assumption) (fun oi ho => ?_)
                      simp only [List.getElem?_toArray, List.getElem?_cons_succ, List.getElem?_cons_zero, Option.some.injEq] at ho
                      subst ho
                      refine ⟨?_, fun _ _ _ h => h, .inl ⟨by rfl, fun W hSw => ?_⟩, ?_⟩
                      rotate_left
                      · (try dsimp only at hSw); (go_simp) <;> with_reducible rfl
                      simp only [Act.put, List.setIfInBounds_toArray, List.set_cons_zero, List.set_cons_succ]
                      refine wpAnyH_op' (i := 31) (by kernel_rfl) (by kernel_rfl) (by kernel_rfl) (by rfl) (by assumption) (fun oi ho => ?_)
                      simp only [List.getElem?_toArray, List.getElem?_cons_succ, List.getElem?_cons_zero, Option.some.injEq] at ho
                      subst ho
                      refine ⟨?_, fun _ _ _ h => h, .inl ⟨by rfl, fun W hSw => ?_⟩, ?_⟩
                      rotate_left
                      · (try dsimp only at hSw); (go_simp) <;> with_reducible rfl
                      simp only [Act.put, List.setIfInBounds_toArray, List.set_cons_zero, List.set_cons_succ]
                      refine wpAnyH_op' (i := 32) (by kernel_rfl) (by kernel_rfl) (by kernel_rfl) (by rfl) (by assumption) (fun oi ho => ?_)
                      simp only [List.getElem?_toArray, List.getElem?_cons_succ, List.getElem?_cons_zero, Option.some.injEq] at ho
                      subst ho
                      refine ⟨?_, fun _ _ _ h => h, .inl ⟨by rfl, fun W hSw => ?_⟩, ?_⟩
                      rotate_left
                      · (try dsimp only at hSw); (go_simp) <;> with_reducible rfl
                      simp only [Act.put, List.setIfInBounds_toArray, List.set_cons_zero, List.set_cons_succ]
                      refine wpAnyH_op' (i := 33) (by kernel_rfl) (by kernel_rfl) (by kernel_rfl) (by rfl) (by assumption) (fun oi ho => ?_)
                      simp only [List.getElem?_toArray, List.getElem?_cons_succ, List.getElem?_cons_zero, Option.some.injEq] at ho
                      subst ho
                      refine ⟨?_, fun _ _ _ h => h, .inl ⟨by rfl, fun W hSw => ?_⟩, ?_⟩
                      rotate_left
                      · (try dsimp only at hSw); (go_simp) <;> with_reducible rfl
                      simp only [Act.put, List.setIfInBounds_toArray, List.set_cons_zero, List.set_cons_succ]
                      refine wpAnyH_op' (i := 34) (by kernel_rfl) (by kernel_rfl) (by kernel_rfl) (by rfl) (by assumption) (fun oi ho => ?_)
                      simp only [List.getElem?_toArray, List.getElem?_cons_succ, List.getElem?_cons_zero, Option.some.injEq] at ho
                      subst ho
                      refine ⟨?_, fun _ _ _ h => h, .inl ⟨by rfl, fun W hSw => ?_⟩, ?_⟩
                      rotate_left
                      · (try dsimp only at hSw); (go_simp) <;> with_reducible rfl
                      simp only [Act.put, List.setIfInBounds_toArray, List.set_cons_zero, List.set_cons_succ]
                      refine wpAnyH_op' (i := 35) (by kernel_rfl) (by kernel_rfl) (by kernel_rfl) (by rfl) (by assumption) (fun oi ho => ?_)
                      simp only [List.getElem?_toArray, List.getElem?_cons_succ, List.getElem?_cons_zero, Option.some.injEq] at ho
                      subst ho
                      refine ⟨?_, fun _ _ _ h => h, .inl ⟨by rfl, fun W hSw => ?_⟩, ?_⟩
                      rotate_left
                      · (try dsimp only at hSw); (go_simp) <;> with_reducible rfl
                      simp only [Act.put, List.setIfInBounds_toArray, List.set_cons_zero, List.set_cons_succ]
                      refine wpAnyH_op' (i := 36) (by kernel_rfl) (by kernel_rfl) (by kernel_rfl) (by rfl) (by assumption) (fun oi ho => ?_)
                      simp only [List.getElem?_toArray, List.getElem?_cons_succ, List.getElem?_cons_zero, Option.some.injEq] at ho
                      subst ho
                      refine ⟨?_, fun _ _ _ h => h, .inl ⟨by rfl, fun W hSw => ?_⟩, ?_⟩
                      rotate_left
                      · (try dsimp only at hSw); (go_simp) <;> with_reducible rfl
                      simp only [Act.put, List.setIfInBounds_toArray, List.set_cons_zero, List.set_cons_succ]
                      refine wpAnyH_op' (i := 37) (by kernel_rfl) (by kernel_rfl) (by kernel_rfl) (by rfl) (by assumption) (fun oi ho => ?_)
                      simp only [List.getElem?_toArray, List.getElem?_cons_succ, List.getElem?_cons_zero, Option.some.injEq] at ho
                      subst ho
                      refine ⟨?_, fun _ _ _ h => h, .inl ⟨by rfl, fun W hSw => ?_⟩, ?_⟩
                      rotate_left
                      · (try dsimp only at hSw); (go_simp) <;> with_reducible rfl
                      simp only [Act.put, List.setIfInBounds_toArray, List.set_cons_zero, List.set_cons_succ]
                      refine wpAnyH_one' (i := 38) (by kernel_rfl) (by rfl) (fun oi ho => ?_)
                      refine AllReadyH.cons ho (fun K hK => ?_) AllReadyH.nil
                      simp only [List.getElem?_toArray, List.getElem?_cons_succ, List.getElem?_cons_zero, Option.some.injEq] at ho
                      subst ho
                      go_simp
                      go_at_call 19
                      with_reducible refine (hk1.out _ (hBz.out.trans (z0.out.mono hsz))).mono ?_
                      rintro _ wy ⟨rfl, hb⟩
                      have z1 := Lib.hid (z0.out.trans (hb.mono z0.out.size))
                      clear hb hHeld
                      go_wp2_with fail
                      refine hK.out _ _ (HS.out _ z1.out) (fun hHeld => ?_)
                      clear hK K
                      refine wpAnyH_op' (i := 39) (by kernel_rfl) (by kernel_rfl) (by kernel_rfl) (by rfl) (by assumption) (fun oi ho => ?_)
                      simp only [List.getElem?_toArray, List.getElem?_cons_succ, List.getElem?_cons_zero, Option.some.injEq] at ho
                      subst ho
                      refine ⟨?_, fun _ _ _ h => h, .inl ⟨by rfl, fun W hSw => ?_⟩, ?_⟩
                      rotate_left
                      · (try dsimp only at hSw); (go_simp) <;> with_reducible rfl
                      simp only [Act.put, List.setIfInBounds_toArray, List.set_cons_zero, List.set_cons_succ]
                      refine wpAnyH_op' (i := 40) (by kernel_rfl) (by kernel_rfl) (by kernel_rfl) (by rfl) (by assumption) (fun oi ho => ?_)
                      simp only [List.getElem?_toArray, List.getElem?_cons_succ, List.getElem?_cons_zero, Option.some.injEq] at ho
                      subst ho
                      refine ⟨?_, fun _ _ _ h => h, .inl ⟨by rfl, fun W hSw => ?_⟩, ?_⟩
                      rotate_left
                      · (try dsimp only at hSw); (go_simp) <;> with_reducible rfl
                      simp only [Act.put, List.setIfInBounds_toArray, List.set_cons_zero, List.set_cons_succ]
                      refine wpAnyH_op' (i := 41) (by kernel_rfl) (by kernel_rfl) (by kernel_rfl) (by rfl) (by assumption) (fun oi ho => ?_)
                      simp only [List.getElem?_toArray, List.getElem?_cons_succ, List.getElem?_cons_zero, Option.some.injEq] at ho
                      subst ho
                      refine ⟨?_, fun _ _ _ h => h, .inl ⟨by rfl, fun W hSw => ?_⟩, ?_⟩
                      rotate_left
                      · (try dsimp only at hSw); (go_simp) <;> with_reducible rfl
                      simp only [Act.put, List.setIfInBounds_toArray, List.set_cons_zero, List.set_cons_succ]
                      refine wpAnyH_op' (i := 42) (by kernel_rfl) (by kernel_rfl) (by kernel_rfl) (by rfl) (by assumption) (fun oi ho => ?_)
                      simp only [List.getElem?_toArray, List.getElem?_cons_succ, List.getElem?_cons_zero, Option.some.injEq] at ho
                      subst ho
                      refine ⟨?_, fun _ _ _ h => h, .inl ⟨by rfl, fun W hSw => ?_⟩, ?_⟩
                      rotate_left
                      · (try dsimp only at hSw); (go_simp) <;> with_reducible rfl
                      simp only [Act.put, List.setIfInBounds_toArray, List.set_cons_zero, List.set_cons_succ]
                      refine wpAnyH_done (by kernel_rfl) ?_ _
                      have hZ2 := Lib.hid (hZ.out.trans (z1.out.mono hZ.out.size))
                      clear HS hHeld m1 m4 m5 m6 z0 z1
                      go_wp2
                      exact ⟨⟨j + 1, by have := hjn.out; omega, by go_num, hZ2⟩, by simp only [intOf]; have := hjn.out; omega⟩
                    · have m5 : decide (0 ≤ e) = false := decide_eq_false (by omega)
                      have m6 : decide (0 ≤ z) = false := decide_eq_false (by omega)
                      clear hez k1 k2
                      go_wp2_with fail
                      refine wp_region_held_drew (S := fun W => W.cell? ⟨rb, j, none⟩ = some (.int .i64 d) ∧ W.cell? ⟨rb2, j, none⟩ = some (.int .i64 e) ∧ W.cell? ⟨w.heap.size, 0, none⟩ = some (.slice Ap s.ps.length cp) ∧ W.cell? ⟨w.heap.size, 1, none⟩ = some (.slice Ac s.cap.length cc) ∧ W.cell? ⟨w.heap.size, 2, none⟩ = some (.slice Av s.vot.length cv)) (by kernel_rfl) (HS.out _ z0.out) (fun hHeld => ?_)
                      refine wpAnyH_op' (i := 0) (by kernel_rfl) (by kernel_rfl) (by kernel_rfl) (by rfl) (by assumption) (fun oi ho => ?_)
                      simp only [List.getElem?_toArray, List.getElem?_cons_zero, Option.some.injEq] at ho
                      subst ho
                      refine ⟨?_, fun _ _ _ h => h, .inl ⟨by rfl, fun W hSw => ?_⟩, ?_⟩
                      rotate_left
                      · (try dsimp only at hSw); (go_simp) <;> with_reducible rfl
                      simp only [Act.put, List.setIfInBounds_toArray, List.set_cons_zero, List.set_cons_succ]
                      refine wpAnyH_op' (i := 1) (by kernel_rfl) (by kernel_rfl) (by kernel_rfl) (by rfl) (by assumption) (fun oi ho => ?_)
                      simp only [List.getElem?_toArray, List.getElem?_cons_succ, List.getElem?_cons_zero, Option.some.injEq] at ho
                      subst ho
                      refine ⟨?_, fun _ _ _ h => h, .inl ⟨by rfl, fun W hSw => ?_⟩, ?_⟩
                      rotate_left
                      · (try dsimp only at hSw); (go_simp) <;> with_reducible rfl
                      simp only [Act.put, List.setIfInBounds_toArray, List.set_cons_zero, List.set_cons_succ]
                      refine wpAnyH_op' (i := 2) (by kernel_rfl) (by kernel_rfl) (by kernel_rfl) (by rfl) (by assumption) (fun oi ho => ?_)
                      simp only [List.getElem?_toArray, List.getElem?_cons_succ, List.getElem?_cons_zero, Option.some.injEq] at ho
                      subst ho
                      refine ⟨?_, fun _ _ _ h => h, .inl ⟨by rfl, fun W hSw => ?_⟩, ?_⟩
                      rotate_left
                      · (try dsimp only at hSw); (go_simp) <;> with_reducible rfl
                      simp only [Act.put, List.setIfInBounds_toArray, List.set_cons_zero, List.set_cons_succ]
                      refine wpAnyH_op' (i := 3) (by kernel_rfl) (by kernel_rfl) (by kernel_rfl) (by rfl) (by assumption) (fun oi ho => ?_)
                      simp only [List.getElem?_toArray, List.getElem?_cons_succ, List.getElem?_cons_zero, Option.some.injEq] at ho
                      subst ho
                      refine ⟨?_, fun _ _ _ h => h, .inl ⟨by rfl, fun W hSw => ?_⟩, ?_⟩
                      rotate_left
                      · (try dsimp only at hSw); (go_simp) <;> with_reducible rfl
                      simp only [Act.put, List.setIfInBounds_toArray, List.set_cons_zero, List.set_cons_succ]
                      refine wpAnyH_op' (i := 4) (by kernel_rfl) (by kernel_rfl) (by kernel_rfl) (by rfl) (by assumption) (fun oi ho => ?_)
                      simp only [List.getElem?_toArray, List.getElem?_cons_succ, List.getElem?_cons_zero, Option.some.injEq] at ho
                      subst ho
                      refine ⟨?_, fun _ _ _ h => h, .inl ⟨by rfl, fun W hSw => ?_⟩, ?_⟩
                      rotate_left
                      · (try dsimp only at hSw); (go_simp) <;> with_reducible rfl
                      simp only [Act.put, List.setIfInBounds_toArray, List.set_cons_zero, List.set_cons_succ]
                      refine wpAnyH_op' (i := 5) (by kernel_rfl) (by kernel_rfl) (by kernel_rfl) (by rfl) (by assumption) (fun oi ho => ?_)
                      simp only [List.getElem?_toArray, List.getElem?_cons_succ, List.getElem?_cons_zero, Option.some.injEq] at ho
                      subst ho
                      refine ⟨?_, fun _ _ _ h => h, .inl ⟨by rfl, fun W hSw => ?_⟩, ?_⟩
                      rotate_left
                      · (try dsimp only at hSw); (go_simp) <;> with_reducible rfl
                      simp only [Act.put, List.setIfInBounds_toArray, List.set_cons_zero, List.set_cons_succ]
                      refine wpAnyH_op' (i := 6) (by kernel_rfl) (by kernel_rfl) (by kernel_rfl) (by rfl) (by assumption) (fun oi ho => ?_)
                      simp only [List.getElem?_toArray, List.getElem?_cons_succ, List.getElem?_cons_zero, Option.some.injEq] at ho
                      subst ho
                      refine ⟨undef, fun _ _ _ h => h, .inr ⟨by rfl, rfl⟩, ?_⟩
                      simp only [Act.put, List.setIfInBounds_toArray, List.set_cons_zero, List.set_cons_succ]
                      refine wpAnyH_op' (i := 7) (by kernel_rfl) (by kernel_rfl) (by kernel_rfl) (by rfl) (by assumption) (fun oi ho => ?_)
                      simp only [List.getElem?_toArray, List.getElem?_cons_succ, List.getElem?_cons_zero, Option.some.injEq] at ho
                      subst ho
                      refine ⟨undef, fun _ _ _ h => h, .inr ⟨by rfl, rfl⟩, ?_⟩
                      simp only [Act.put, List.setIfInBounds_toArray, List.set_cons_zero, List.set_cons_succ]
                      refine wpAnyH_op' (i := 8) (by kernel_rfl) (by kernel_rfl) (by kernel_rfl) (by rfl) (by assumption) (fun oi ho => ?_)
                      simp only [List.getElem?_toArray, List.getElem?_cons_succ, List.getElem?_cons_zero, Option.some.injEq] at ho
                      subst ho
                      refine ⟨undef, fun _ _ _ h => h, .inr ⟨by rfl, rfl⟩, ?_⟩
                      simp only [Act.put, List.setIfInBounds_toArray, List.set_cons_zero, List.set_cons_succ]
                      refine wpAnyH_op' (i := 9) (by kernel_rfl) (by kernel_rfl) (by kernel_rfl) (by rfl) (by assumption) (fun oi ho => ?_)
                      simp only [List.getElem?_toArray, List.getElem?_cons_succ, List.getElem?_cons_zero, Option.some.injEq] at ho
                      subst ho
                      refine ⟨undef, fun _ _ _ h => h, .inr ⟨by rfl, rfl⟩, ?_⟩
                      simp only [Act.put, List.setIfInBounds_toArray, List.set_cons_zero, List.set_cons_succ]
                      refine wpAnyH_op' (i := 10) (by kernel_rfl) (by kernel_rfl) (by kernel_rfl) (by rfl) (by assumption) (fun oi ho => ?_)
                      simp only [List.getElem?_toArray, List.getElem?_cons_succ, List.getElem?_cons_zero, Option.some.injEq] at ho
                      subst ho
                      refine ⟨undef, fun _ _ _ h => h, .inr ⟨by rfl, rfl⟩, ?_⟩
                      simp only [Act.put, List.setIfInBounds_toArray, List.set_cons_zero, List.set_cons_succ]
                      refine wpAnyH_op' (i := 11) (by kernel_rfl) (by kernel_rfl) (by kernel_rfl) (by rfl) (by assumption) (fun oi ho => ?_)
                      simp only [List.getElem?_toArray, List.getElem?_cons_succ, List.getElem?_cons_zero, Option.some.injEq] at ho
                      subst ho
                      refine ⟨undef, fun _ _ _ h => h, .inr ⟨by rfl, rfl⟩, ?_⟩
                      simp only [Act.put, List.setIfInBounds_toArray, List.set_cons_zero, List.set_cons_succ]
                      refine wpAnyH_op' (i := 12) (by kernel_rfl) (by kernel_rfl) (by kernel_rfl) (by rfl) (by assumption) (fun oi ho => ?_)
                      simp only [List.getElem?_toArray, List.getElem?_cons_succ, List.getElem?_cons_zero, Option.some.injEq] at ho
                      subst ho
                      refine ⟨undef, fun _ _ _ h => h, .inr ⟨by rfl, rfl⟩, ?_⟩
                      simp only [Act.put, List.setIfInBounds_toArray, List.set_cons_zero, List.set_cons_succ]
                      refine wpAnyH_op' (i := 13) (by kernel_rfl) (by kernel_rfl) (by kernel_rfl) (by rfl) (by assumption) (fun oi ho => ?_)
                      simp only [List.getElem?_toArray, List.getElem?_cons_succ, List.getElem?_cons_zero, Option.some.injEq] at ho
                      subst ho
                      refine ⟨undef, fun _ _ _ h => h, .inr ⟨by rfl, rfl⟩, ?_⟩
                      simp only [Act.put, List.setIfInBounds_toArray, List.set_cons_zero, List.set_cons_succ]
                      refine wpAnyH_op' (i := 14) (by kernel_rfl) (by kernel_rfl) (by kernel_rfl) (by rfl) (by assumption) (fun oi ho => ?_)
                      simp only [List.getElem?_toArray, List.getElem?_cons_succ, List.getElem?_cons_zero, Option.some.injEq] at ho
                      subst ho
                      refine ⟨undef, fun _ _ _ h => h, .inr ⟨by rfl, rfl⟩, ?_⟩
                      simp only [Act.put, List.setIfInBounds_toArray, List.set_cons_zero, List.set_cons_succ]
                      refine wpAnyH_op' (i := 15) (by kernel_rfl) (by kernel_rfl) (by kernel_rfl) (by rfl) (by assumption) (fun oi ho => ?_)
                      simp only [List.getElem?_toArray, List.getElem?_cons_succ, List.getElem?_cons_zero, Option.some.injEq] at ho
                      subst ho
                      refine ⟨undef, fun _ _ _ h => h, .inr ⟨by rfl, rfl⟩, ?_⟩
                      simp only [Act.put, List.setIfInBounds_toArray, List.set_cons_zero, List.set_cons_succ]
                      refine wpAnyH_op' (i := 16) (by kernel_rfl) (by kernel_rfl) (by kernel_rfl) (by rfl) (by assumption) (fun oi ho => ?_)
                      simp only [List.getElem?_toArray, List.getElem?_cons_succ, List.getElem?_cons_zero, Option.some.injEq] at ho
                      subst ho
                      refine ⟨undef, fun _ _ _ h => h, .inr ⟨by rfl, rfl⟩, ?_⟩
                      simp only [Act.put, List.setIfInBounds_toArray, List.set_cons_zero, List.set_cons_succ]
                      refine wpAnyH_op' (i := 17) (by kernel_rfl) (by kernel_rfl) (by kernel_rfl) (by rfl) (by assumption) (fun oi ho => ?_)
                      simp only [List.getElem?_toArray, List.getElem?_cons_succ, List.getElem?_cons_zero, Option.some.injEq] at ho
                      subst ho
                      refine ⟨undef, fun _ _ _ h => h, .inr ⟨by rfl, rfl⟩, ?_⟩
                      simp only [Act.put, List.setIfInBounds_toArray, List.set_cons_zero, List.set_cons_succ]
                      refine wpAnyH_op' (i := 18) (by kernel_rfl) (by kernel_rfl) (by kernel_rfl) (by rfl) (by assumption) (fun oi ho => ?_)
                      simp only [List.getElem?_toArray, List.getElem?_cons_succ, List.getElem?_cons_zero, Option.some.injEq] at ho
                      subst ho
                      refine ⟨undef, fun _ _ _ h => h, .inr ⟨by rfl, rfl⟩, ?_⟩
                      simp only [Act.put, List.setIfInBounds_toArray, List.set_cons_zero, List.set_cons_succ]
                      refine wpAnyH_op' (i := 19) (by kernel_rfl) (by kernel_rfl) (by kernel_rfl) (by rfl) (by assumption) (fun oi ho => ?_)
                      simp only [List.getElem?_toArray, List.getElem?_cons_succ, List.getElem?_cons_zero, Option.some.injEq] at ho
                      subst ho
                      refine ⟨undef, fun _ _ _ h => h, .inr ⟨by rfl, rfl⟩, ?_⟩
                      simp only [Act.put, List.setIfInBounds_toArray, List.set_cons_zero, List.set_cons_succ]
                      refine wpAnyH_op' (i := 20) (by kernel_rfl) (by kernel_rfl) (by kernel_rfl) (by rfl) (by assumption) (fun oi ho => ?_)
                      simp only [List.getElem?_toArray, List.getElem?_cons_succ, List.getElem?_cons_zero, Option.some.injEq] at ho
                      subst ho
                      refine ⟨undef, fun _ _ _ h => h, .inr ⟨by rfl, rfl⟩, ?_⟩
                      simp only [Act.put, List.setIfInBounds_toArray, List.set_cons_zero, List.set_cons_succ]
                      refine wpAnyH_op' (i := 21) (by kernel_rfl) (by kernel_rfl) (by kernel_rfl) (by rfl) (by assumption) (fun oi ho => ?_)
                      simp only [List.getElem?_toArray, List.getElem?_cons_succ, List.getElem?_cons_zero, Option.some.injEq] at ho
                      subst ho
                      refine ⟨undef, fun _ _ _ h => h, .inr ⟨by rfl, rfl⟩, ?_⟩
                      simp only [Act.put, List.setIfInBounds_toArray, List.set_cons_zero, List.set_cons_succ]
                      refine wpAnyH_op' (i := 22) (by kernel_rfl) (by kernel_rfl) (by kernel_rfl) (by rfl) (by assumption) (fun oi ho => ?_)
                      simp only [List.getElem?_toArray, List.getElem?_cons_succ, List.getElem?_cons_zero, Option.some.injEq] at ho
                      subst ho
                      refine ⟨?_, fun _ _ _ h => h, .inl ⟨by rfl, fun W hSw => ?_⟩, ?_⟩
                      rotate_left
                      · (try dsimp only at hSw); (go_simp) <;> with_reducible rfl
                      simp only [Act.put, List.setIfInBounds_toArray, List.set_cons_zero, List.set_cons_succ]
                      refine wpAnyH_op' (i := 23) (by kernel_rfl) (by kernel_rfl) (by kernel_rfl) (by rfl) (by assumption) (fun oi ho => ?_)
                      simp only [List.getElem?_toArray, List.getElem?_cons_succ, List.getElem?_cons_zero, Option.some.injEq] at ho
                      subst ho
                      refine ⟨?_, fun _ _ _ h => h, .inl ⟨by rfl, fun W hSw => ?_⟩, ?_⟩
                      rotate_left
                      · (try dsimp only at hSw); (go_simp) <;> with_reducible rfl
                      simp only [Act.put, List.setIfInBounds_toArray, List.set_cons_zero, List.set_cons_succ]
                      refine wpAnyH_op' (i := 24) (by kernel_rfl) (by kernel_rfl) (by kernel_rfl) (by rfl) (by assumption) (fun oi ho => ?_)
                      simp only [List.getElem?_toArray, List.getElem?_cons_succ, List.getElem?_cons_zero, Option.some.injEq] at ho
                      subst ho
                      refine ⟨?_, fun _ _ _ h => h, .inl ⟨by rfl, fun W hSw => ?_⟩, ?_⟩
                      rotate_left
                      · (try dsimp only at hSw); (go_simp) <;> with_reducible rfl
                      simp only [Act.put, List.setIfInBounds_toArray, List.set_cons_zero, List.set_cons_succ]
                      refine wpAnyH_op' (i := 25) (by kernel_rfl) (by kernel_rfl) (by kernel_rfl) (by rfl) (by assumption) (fun oi ho => ?_)
                      simp only [List.getElem?_toArray, List.getElem?_cons_succ, List.getElem?_cons_zero, Option.some.injEq] at ho
                      subst ho
                      refine ⟨?_, fun _ _ _ h => h, .inl ⟨by rfl, fun W hSw => ?_⟩, ?_⟩
                      rotate_left
                      · (try dsimp only at hSw); (go_simp) <;> with_reducible rfl
                      simp only [Act.put, List.setIfInBounds_toArray, List.set_cons_zero, List.set_cons_succ]
                      refine wpAnyH_op' (i := 26) (by kernel_rfl) (by kernel_rfl) (by kernel_rfl) (by rfl) (by assumption) (fun oi ho => ?_)
                      simp only [List.getElem?_toArray, List.getElem?_cons_succ, List.getElem?_cons_zero, Option.some.injEq] at ho
                      subst ho
                      refine ⟨?_, fun _ _ _ h => h, .inl ⟨by rfl, fun W hSw => ?_⟩, ?_⟩
                      rotate_left
                      · (try dsimp only at hSw); (go_simp) <;> with_reducible rfl
                      simp only [Act.put, List.setIfInBounds_toArray, List.set_cons_zero, List.set_cons_succ]
                      refine wpAnyH_op' (i := 27) (by kernel_rfl) (by kernel_rfl) (by kernel_rfl) (by rfl) (by assumption) (fun oi ho => ?_)
                      simp only [List.getElem?_toArray, List.getElem?_cons_succ, List.getElem?_cons_zero, Option.some.injEq] at ho
                      subst ho
                      refine ⟨?_, fun _ _ _ h => h, .inl ⟨by rfl, fun W hSw => ?_⟩, ?_⟩
                      rotate_left
                      · (try dsimp only at hSw); (go_simp) <;> with_reducible rfl
                      simp only [Act.put, List.setIfInBounds_toArray, List.set_cons_zero, List.set_cons_succ]
                      refine wpAnyH_op' (i := 28) (by kernel_rfl) (by kernel_rfl) (by kernel_rfl) (by rfl) (by assumption) (fun oi ho => ?_)
                      simp only [List.getElem?_toArray, List.getElem?_cons_succ, List.getElem?_cons_zero, Option.some.injEq] at ho
                      subst ho
                      refine ⟨?_, fun _ _ _ h => h, .inl ⟨by rfl, fun W hSw => ?_⟩, ?_⟩
                      rotate_left
                      · (try dsimp only at hSw); (go_simp) <;> with_reducible rfl
                      simp only [Act.put, List.setIfInBounds_toArray, List.set_cons_zero, List.set_cons_succ]
                      refine wpAnyH_op' (i := 29) (by kernel_rfl) (by kernel_rfl) (by kernel_rfl) (by rfl) (by assumption) (fun oi ho => ?_)
                      simp only [List.getElem?_toArray, List.getElem?_cons_succ, List.getElem?_cons_zero, Option.some.injEq] at ho
                      subst ho
                      refine ⟨?_, fun _ _ _ h => h, .inl ⟨by rfl, fun W hSw => ?_⟩, ?_⟩
                      rotate_left
                      · (try dsimp only at hSw); (go_simp) <;> with_reducible rfl
                      simp only [Act.put, List.setIfInBounds_toArray, List.set_cons_zero, List.set_cons_succ]
                      refine wpAnyH_op' (i := 30) (by kernel_rfl) (by kernel_rfl) (by kernel_rfl) (by rfl) (by assumption) (fun oi ho => ?_)
                      simp only [List.getElem?_toArray, List.getElem?_cons_succ, List.getElem?_cons_zero, Option.some.injEq] at ho
                      subst ho
                      refine ⟨?_, fun _ _ _ h => h, .inl ⟨by rfl, fun W hSw => ?_⟩, ?_⟩
                      rotate_left
                      · (try dsimp only at hSw); (go_simp) <;> with_reducible rfl
                      simp only [Act.put, List.setIfInBounds_toArray, List.set_cons_zero, List.set_cons_succ]
                      refine wpAnyH_op' (i := 31) (by kernel_rfl) (by kernel_rfl) (by kernel_rfl) (by rfl) (by assumption) (fun oi ho => ?_)
                      simp only [List.getElem?_toArray, List.getElem?_cons_succ, List.getElem?_cons_zero, Option.some.injEq] at ho
                      subst ho
                      refine ⟨?_, fun _ _ _ h => h, .inl ⟨by rfl, fun W hSw => ?_⟩, ?_⟩
                      rotate_left
                      · (try dsimp only at hSw); (go_simp) <;> with_reducible rfl
                      simp only [Act.put, List.setIfInBounds_toArray, List.set_cons_zero, List.set_cons_succ]
                      refine wpAnyH_op' (i := 32) (by kernel_rfl) (by kernel_rfl) (by kernel_rfl) (by rfl) (by assumption) (fun oi ho => ?_)
                      simp only [List.getElem?_toArray, List.getElem?_cons_succ, List.getElem?_cons_zero, Option.some.injEq] at ho
                      subst ho
                      refine ⟨?_, fun _ _ _ h => h, .inl ⟨by rfl, fun W hSw => ?_⟩, ?_⟩
                      rotate_left
                      · (try dsimp only at hSw); (go_simp) <;> with_reducible rfl
                      simp only [Act.put, List.setIfInBounds_toArray, List.set_cons_zero, List.set_cons_succ]
                      refine wpAnyH_op' (i := 33) (by kernel_rfl) (by kernel_rfl) (by kernel_rfl) (by rfl) (by assumption) (fun oi ho => ?_)
                      simp only [List.getElem?_toArray, List.getElem?_cons_succ, List.getElem?_cons_zero, Option.some.injEq] at ho
                      subst ho
                      refine ⟨?_, fun _ _ _ h => h, .inl ⟨by rfl, fun W hSw => ?_⟩, ?_⟩
                      rotate_left
                      · (try dsimp only at hSw); (go_simp) <;> with_reducible rfl
                      simp only [Act.put, List.setIfInBounds_toArray, List.set_cons_zero, List.set_cons_succ]
                      refine wpAnyH_op' (i := 34) (by kernel_rfl) (by kernel_rfl) (by kernel_rfl) (by rfl) (by assumption) (fun oi ho => ?_)
                      simp only [List.getElem?_toArray, List.getElem?_cons_succ, List.getElem?_cons_zero, Option.some.injEq] at ho
                      subst ho
                      refine ⟨?_, fun _ _ _ h => h, .inl ⟨by rfl, fun W hSw => ?_⟩, ?_⟩
                      rotate_left
                      · (try dsimp only at hSw); (go_simp) <;> with_reducible rfl
                      simp only [Act.put, List.setIfInBounds_toArray, List.set_cons_zero, List.set_cons_succ]
                      refine wpAnyH_op' (i := 35) (by kernel_rfl) (by kernel_rfl) (by kernel_rfl) (by rfl) (by assumption) (fun oi ho => ?_)
                      simp only [List.getElem?_toArray, List.getElem?_cons_succ, List.getElem?_cons_zero, Option.some.injEq] at ho
                      subst ho
                      refine ⟨?_, fun _ _ _ h => h, .inl ⟨by rfl, fun W hSw => ?_⟩, ?_⟩
                      rotate_left
                      · (try dsimp only at hSw); (go_simp) <;> with_reducible rfl
                      simp only [Act.put, List.setIfInBounds_toArray, List.set_cons_zero, List.set_cons_succ]
                      refine wpAnyH_op' (i := 36) (by kernel_rfl) (by kernel_rfl) (by kernel_rfl) (by rfl) (by assumption) (fun oi ho => ?_)
                      simp only [List.getElem?_toArray, List.getElem?_cons_succ, List.getElem?_cons_zero, Option.some.injEq] at ho
                      subst ho
                      refine ⟨?_, fun _ _ _ h => h, .inl ⟨by rfl, fun W hSw => ?_⟩, ?_⟩
                      rotate_left
                      · (try dsimp only at hSw); (go_simp) <;> with_reducible rfl
                      simp only [Act.put, List.setIfInBounds_toArray, List.set_cons_zero, List.set_cons_succ]
                      refine wpAnyH_op' (i := 37) (by kernel_rfl) (by kernel_rfl) (by kernel_rfl) (by rfl) (by assumption) (fun oi ho => ?_)
                      simp only [List.getElem?_toArray, List.getElem?_cons_succ, List.getElem?_cons_zero, Option.some.injEq] at ho
                      subst ho
                      refine ⟨?_, fun _ _ _ h => h, .inl ⟨by rfl, fun W hSw => ?_⟩, ?_⟩
                      rotate_left
                      · (try dsimp only at hSw); (go_simp) <;> with_reducible rfl
                      simp only [Act.put, List.setIfInBounds_toArray, List.set_cons_zero, List.set_cons_succ]
                      refine wpAnyH_one' (i := 38) (by kernel_rfl) (by rfl) (fun oi ho => ?_)
                      refine AllReadyH.cons ho (fun K hK => ?_) AllReadyH.nil
                      simp only [List.getElem?_toArray, List.getElem?_cons_succ, List.getElem?_cons_zero, Option.some.injEq] at ho
                      subst ho
                      go_simp
                      go_at_call 19
                      with_reducible refine (hk1.out _ (hBz.out.trans (z0.out.mono hsz))).mono ?_
                      rintro _ wy ⟨rfl, hb⟩
                      have z1 := Lib.hid (z0.out.trans (hb.mono z0.out.size))
                      clear hb hHeld
                      go_wp2_with fail
                      refine hK.out _ _ (HS.out _ z1.out) (fun hHeld => ?_)
                      clear hK K
                      refine wpAnyH_op' (i := 39) (by kernel_rfl) (by kernel_rfl) (by kernel_rfl) (by rfl) (by assumption) (fun oi ho => ?_)
                      simp only [List.getElem?_toArray, List.getElem?_cons_succ, List.getElem?_cons_zero, Option.some.injEq] at ho
                      subst ho
                      refine ⟨?_, fun _ _ _ h => h, .inl ⟨by rfl, fun W hSw => ?_⟩, ?_⟩
                      rotate_left
                      · (try dsimp only at hSw); (go_simp) <;> with_reducible rfl
                      simp only [Act.put, List.setIfInBounds_toArray, List.set_cons_zero, List.set_cons_succ]
                      refine wpAnyH_op' (i := 40) (by kernel_rfl) (by kernel_rfl) (by kernel_rfl) (by rfl) (by assumption) (fun oi ho => ?_)
                      simp only [List.getElem?_toArray, List.getElem?_cons_succ, List.getElem?_cons_zero, Option.some.injEq] at ho
                      subst ho
                      refine ⟨?_, fun _ _ _ h => h, .inl ⟨by rfl, fun W hSw => ?_⟩, ?_⟩
                      rotate_left
                      · (try dsimp only at hSw); (go_simp) <;> with_reducible rfl
                      simp only [Act.put, List.setIfInBounds_toArray, List.set_cons_zero, List.set_cons_succ]
                      refine wpAnyH_op' (i := 41) (by kernel_rfl) (by kernel_rfl) (by kernel_rfl) (by rfl) (by assumption) (fun oi ho => ?_)
                      simp only [List.getElem?_toArray, List.getElem?_cons_succ, List.getElem?_cons_zero, Option.some.injEq] at ho
                      subst ho
                      refine ⟨?_, fun _ _ _ h => h, .inl ⟨by rfl, fun W hSw => ?_⟩, ?_⟩
                      rotate_left
                      · (try dsimp only at hSw); (go_simp) <;> with_reducible rfl
                      simp only [Act.put, List.setIfInBounds_toArray, List.set_cons_zero, List.set_cons_succ]
                      refine wpAnyH_op' (i := 42) (by kernel_rfl) (by kernel_rfl) (by kernel_rfl) (by rfl) (by assumption) (fun oi ho => ?_)
                      simp only [List.getElem?_toArray, List.getElem?_cons_succ, List.getElem?_cons_zero, Option.some.injEq] at ho
                      subst ho
                      refine ⟨?_, fun _ _ _ h => h, .inl ⟨by rfl, fun W hSw => ?_⟩, ?_⟩
                      rotate_left
                      · (try dsimp only at hSw); (go_simp) <;> with_reducible rfl
                      simp only [Act.put, List.setIfInBounds_toArray, List.set_cons_zero, List.set_cons_succ]
                      refine wpAnyH_done (by kernel_rfl) ?_ _
                      have hZ2 := Lib.hid (hZ.out.trans (z1.out.mono hZ.out.size))
                      clear HS hHeld m1 m4 m5 m6 z0 z1
                      go_wp2
                      exact ⟨⟨j + 1, by have := hjn.out; omega, by go_num, hZ2⟩, by simp only [intOf]; have := hjn.out; omega⟩
                · obtain rfl : j = s.ps.length := by omega
                  go_wp2
                  go_ret
                  exact ⟨rfl, hBz.out⟩
      · have kr2 : Hid (Calls Tryz.prog 13 #[.agg #[.slice Ap s.ps.length cp, .slice Ac s.cap.length cc, .slice Av s.vot.length cv], .slice Af F.length cf] w3 fun e w' => e = .returned (.tuple #[.slice none 0 0, .int .i64 1]) ∧ Below w3.heap.size w3 w') := kr.mono fun e w' h => ⟨by have h1 := h.1; rwa [if_neg hgd] at h1, h.2⟩
        clear kr
        replace hgd := Lib.hid hgd
        go_wp2_with fail
        refine kr2.out.mono ?_
        rintro e w4 ⟨rfl, hb⟩
        have hX4 := Lib.hid (hX3.out.below hb)
        have hB4 := Lib.hid (hB3.out.trans (hb.mono hB3.out.size))
        clear hb hX3 hB3
        clear u0 u1 u2 u9
        clear kr2
        go_wp2
        go_ret
        exact ⟨rfl, hB4.out⟩
end Ci
end Go.Proofs.YthggedpgcchneaaGreatDoor

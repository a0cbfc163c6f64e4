/- circle.Ranks and circle.Components, walked whole. -/
import Derived.Test.YthggedpgcchneaaGreatDoorCirC
import Derived.Deep.LoopGhost
import Derived.Test.YthggedpgcchneaaGreatDoorCirA
import Derived.WalkMore
namespace Go.Proofs.YthggedpgcchneaaGreatDoor
open Go.RowKit Go.Shelf
namespace Ci
open Nt

def toN (F : List Int) : List Nat := F.map Int.toNat
/-- What Ranks gives. -/
def RkPost (s : SR) (F : List Int) (w : World) (e : Ending) (w' : World) : Prop :=
  (if soundB s = true ∧ listB s.ps.length F = true then ∃ b, e = .returned (.tuple #[.slice (some ⟨b, 0, none⟩) s.ps.length s.ps.length, .int .i64 0]) ∧ w.heap.size ≤ b ∧ RoI w' b s.ps.length (rk (edges s) (toN F))
    else e = .returned (.tuple #[.slice none 0 0, .int .i64 1])) ∧ Below w.heap.size w w'
theorem lst_at {n : Int} {l : List Int} (h : listB n l = true) {k : Nat} (hk : k < l.length) : LstAt n l k hk := of_decide_eq_true h k hk
theorem toN_at {n : Int} {F : List Int} (h : listB n F = true) {k : Nat} (hk : k < F.length) : ∃ p : Nat, F[k] = (p : Int) ∧ (p : Int) < n ∧ (toN F)[k]? = some p := by
  have h1 := (lst_at h hk).1
  refine ⟨F[k].toNat, by omega, by omega, by simp [toN, hk]⟩
theorem toN_in {n : Nat} {F : List Int} (h : listB n F = true) {p : Nat} (hp : p ∈ toN F) : p < n := by
  obtain ⟨x, hx, rfl⟩ := List.mem_map.1 hp
  obtain ⟨k, hk, rfl⟩ := List.getElem_of_mem hx
  have := (lst_at h hk).1
  omega
theorem toN_sorted {n : Nat} {F : List Int} (h : listB n F = true) : (toN F).Pairwise (· < ·) := by
  have hs : ∀ (i j : Nat) (hi : i < F.length) (hj : j < F.length), i < j → F[i] < F[j] := by
    intro i j hi hj hij
    induction j with
    | zero => omega
    | succ j ih =>
      have h1 := (lst_at h hj).2 (by omega)
      simp only [Nat.add_sub_cancel] at h1
      by_cases e : i = j
      · subst e; exact h1
      · have := ih (by omega) (by omega)
        omega
  unfold toN
  rw [List.pairwise_map]
  refine List.pairwise_iff_getElem.2 fun i j hi hj hij => ?_
  have := hs i j hi hj hij
  have := (lst_at h hi).1
  have := (lst_at h hj).1
  omega
theorem toN_nodup {n : Nat} {F : List Int} (h : listB n F = true) : (toN F).Nodup := (toN_sorted h).imp fun h => Nat.ne_of_lt h
theorem own_in {W : World} {base : Nat} {e : TypeId} {u : Value} {l : List Nat} (h : W.ownsRow base e 1 u l.length (intsL l)) :
    ∃ A cap, u = .slice A l.length cap ∧ ∀ j (hj : j < l.length), ∃ g, A = some ⟨g, 0, none⟩ ∧ g < W.heap.size ∧ W.cell? ⟨g, j, none⟩ = some (.int .i64 (l[j] : Int)) := by
  rcases own_ints h with ⟨rfl, rfl⟩ | ⟨g, cap, rfl, _, h1, _, h2⟩
  · exact ⟨none, 0, rfl, fun j hj => absurd hj (Nat.not_lt_zero _)⟩
  · exact ⟨_, cap, rfl, fun j hj => ⟨g, rfl, h1, h2 j hj⟩⟩
/-- slices.Clone of parties. -/
theorem Clone_any (A : Option Addr) (c : Nat) (F : List Int) (w : World) (hF : InInt w A F) (h0 : ∀ x, x ∈ F → 0 ≤ x) (hl : F.length ≤ 1000) :
    Calls Tryz.prog 28 #[.slice A F.length c] w fun e w' => (∃ v, e = .returned v ∧ QIn w' w.heap.size v (toN F)) ∧ Below w.heap.size w w' := by
  by_cases h : 0 < F.length
  · obtain ⟨b, o, rfl, hb, hc⟩ := hF h
    have hz : ∀ j, j < F.length → w.cell? ⟨b, o + j, none⟩ = some (.int .i64 (F.getD j 0)) := fun j hj => by
      rw [hc j hj]
      simp [hj]
    refine (Tryz.slices_Clone_int b o F.length c F w (Nat.le_refl _) (by omega) hz).mono ?_
    rintro e w' ⟨v, rfl, ho, _, hbw⟩
    refine ⟨⟨v, rfl, QIn.of_row (e := 3) ?_⟩, hbw⟩
    have e1 : (toN F).length = F.length := by simp [toN]
    have e2 : ((toN F).map fun (q : Nat) => Value.int .i64 (q : Int)) = F.map (Value.int .i64) := by
      unfold toN
      rw [List.map_map]
      refine List.map_congr_left fun x hx => ?_
      have := h0 x hx
      simp only [Function.comp_apply]
      congr 1
      omega
    rw [e1, e2]
    simpa using ho
  · have h1 : F = [] := List.length_eq_zero_iff.1 (by omega)
    subst h1
    cases A with
    | none =>
      refine (Tryz.slices_Clone_int_nil 0 c w).mono ?_
      rintro e w' ⟨rfl, rfl⟩
      exact ⟨⟨_, rfl, .inl ⟨none, rfl, rfl, fun b hb => by cases hb⟩⟩, Below.refl _ _⟩
    | some a =>
      refine (Tryz.slices_Clone_int_zero a c w).mono ?_
      rintro e w' ⟨v, rfl, ho, _, hb⟩
      exact ⟨⟨v, rfl, QIn.of_row (e := 3) (by simpa [toN] using ho)⟩, hb⟩

theorem head1 (w : World) (v : Value) (t : TypeId) : (w.alloc (.cells #[v] t)).cell? ⟨w.heap.size, 0, none⟩ = some v := by
  have := head_new w v t 0 v rfl
  rwa [Addr.add_zero'] at this
theorem negs_lt {n p : Nat} {o : Nat → Int} (hp : p < n) (h : 0 ≤ o p) : negs n o + 1 ≤ n := by
  have h1 := filter_lt (f := fun x => decide (o x < 0)) (g := fun _ => true) (l := List.range n) (fun _ _ _ => rfl) ⟨p, List.mem_range.2 hp, decide_eq_false (by omega), rfl⟩
  have h2 : (List.filter (fun _ => true) (List.range n)).length = n := by
    rw [List.filter_eq_self.2 fun _ _ => rfl, List.length_range]
  rw [h2] at h1
  exact h1
theorem negs_le (n : Nat) (o : Nat → Int) : negs n o ≤ n := by
  have := List.length_filter_le (fun x => decide (o x < 0)) (List.range n)
  rw [List.length_range] at this
  exact this
/-- No rank is as great as the number of those that have one. -/
def Bd (n : Nat) (o : Nat → Int) : Prop := ∀ x, x < n → o x + (negs n o : Int) < n
theorem Bd.start {n : Nat} {F : List Nat} {o : Nat → Int} (h : ∀ x, o x = if x ∈ F then 0 else -1) : Bd n o := fun x hx => by
  by_cases e : x ∈ F
  · have h1 : o x = 0 := by rw [h x, if_pos e]
    have := negs_lt hx (by omega : 0 ≤ o x)
    omega
  · have h1 : o x = -1 := by rw [h x, if_neg e]
    have := negs_le n o
    omega
theorem Bd.set {n p q : Nat} {o : Nat → Int} (h : Bd n o) (hp : p < n) (hq : q < n) (h0 : o q < 0) (hv : 0 ≤ o p) : Bd n (setI o q (o p + 1)) := fun x hx => by
  have h1 := negs_set hq h0 (v := o p + 1) (by omega)
  have h2 := h p hp
  have h3 := h x hx
  by_cases e : x = q
  · rw [e, setI_same]; omega
  · rw [setI_other e]; omega
def ini (F : List Nat) (k : Nat) (x : Nat) : Int := if x ∈ F.take k then 0 else -1
theorem ini_succ {F : List Nat} {k p : Nat} (h : F[k]? = some p) (x : Nat) : setI (ini F k) p 0 x = ini F (k + 1) x := by
  unfold setI ini
  obtain ⟨hk, rfl⟩ := List.getElem?_eq_some_iff.1 h
  have hm : x ∈ F.take (k + 1) ↔ x ∈ F.take k ∨ x = F[k] := by
    rw [List.take_succ_eq_append_getElem hk, List.mem_append, List.mem_singleton]
  by_cases e : x = F[k]
  · rw [if_pos e, if_pos (hm.2 (.inr e))]
  · rw [if_neg e]
    by_cases e2 : x ∈ F.take k
    · rw [if_pos e2, if_pos (hm.2 (.inl e2))]
    · rw [if_neg e2, if_neg fun c => (hm.1 c).elim e2 e]
theorem ini_all (F : List Nat) (x : Nat) : ini F F.length x = if x ∈ F then 0 else -1 := by unfold ini; rw [List.take_length]

set_option maxRecDepth 100000 in
set_option maxHeartbeats 16000000 in
theorem Ranks_any (s : SR) (Ap Ac Av Af : Option Addr) (cp cc cv cf : Nat) (F : List Int) (w : World) (hE : Env w) (hs : StIn w s Ap Ac Av) (hc3 : s.cap.length ≤ 300) (hF : InInt w Af F) (hFl : F.length ≤ 140737488355328) :
    Calls Tryz.prog 13 #[.agg #[.slice Ap s.ps.length cp, .slice Ac s.cap.length cc, .slice Av s.vot.length cv], .slice Af F.length cf] w (RkPost s F w) := by
  have hp47 := hs.np
  have hNB := Lib.hid (fun (k : Nat) (h : k < F.length) (hb : ¬ LstAt s.ps.length F k h) => list_bad h hb)
  have hNA := Lib.hid (list_all (n := (s.ps.length : Int)) (l := F))
  have hX0 : Hid (Bk (w.alloc (.cells #[.slice Ap s.ps.length cp, .slice Ac s.cap.length cc, .slice Av s.vot.length cv] 25)) w.heap.size 25 (SC s Ap Ac Av cp cc cv)) := Bk.new w _ _
  have hB0 : Hid (Below w.heap.size w (w.alloc (.cells #[.slice Ap s.ps.length cp, .slice Ac s.cap.length cc, .slice Av s.vot.length cv] 25))) := (Below.refl _ w).alloc (Nat.le_refl _) _
  have hBad : Hid (∀ e w', (¬ (soundB s = true ∧ listB s.ps.length F = true)) → e = .returned (.tuple #[.slice none 0 0, .int .i64 1]) → Below w.heap.size w w' → RkPost s F w e w') := fun e w' h1 h2 h3 => ⟨by rw [if_neg h1]; exact h2, h3⟩
  have u0 := hX0.out.cell (j := 0) rfl
  have u9 := hX0.out.lt
  replace hE := Lib.hid hE
  replace hs := Lib.hid hs
  replace hF := Lib.hid hF
  go_enter Tryz.func13, Tryz.ntmps13
  go_wp2
  obtain ⟨wa, hwa⟩ : ∃ x, x = w.alloc (.cells #[.slice Ap s.ps.length cp, .slice Ac s.cap.length cc, .slice Av s.vot.length cv] 25) := ⟨_, rfl⟩
  rw [← hwa] at hX0 hB0 ⊢
  clear u0 u9 hwa
  go_loop [22] (fun i => ∃ k : Nat, k ≤ F.length ∧ i = .int .i64 (k : Int) ∧ Hid (∀ j (h : j < F.length), j < k → LstAt s.ps.length F j h)) (fun i => F.length - (intOf i).toNat)
  case atStart => exact ⟨0, Nat.zero_le _, rfl, fun j _ h => absurd h (Nat.not_lt_zero _)⟩
  case round =>
    obtain ⟨k, hk, rfl, hI⟩ := hrel
    by_cases hlt : k < F.length
    · obtain ⟨b1, o1, rfl, hb1, hc1⟩ := (hF.out.below hB0.out) (by omega)
      have e1 := hc1 k hlt
      have e0 : Hid (0 < k → wa.cell? ⟨b1, o1 + (k - 1), none⟩ = some (.int .i64 (F[k - 1]'(by omega)))) := fun h => hc1 (k - 1) (by omega)
      have hNk := Lib.hid (hNB.out k hlt)
      have hIk : Hid (LstAt s.ps.length F k hlt → ∀ j (h : j < F.length), j < k + 1 → LstAt s.ps.length F j h) := fun h j h1 h3 => by
        by_cases e : j = k
        · subst e; exact h
        · exact hI.out j h1 (by omega)
      have hLA : Hid (LstAt s.ps.length F k hlt ↔ (0 ≤ F[k] ∧ F[k] < s.ps.length) ∧ (0 < k → F[k - 1]'(by omega) < F[k])) := Iff.rfl
      obtain ⟨x, hx⟩ : ∃ x, x = F[k] := ⟨_, rfl⟩
      rw [← hx] at e1 hLA
      have j0 : (0 : Int) ≤ (k : Int) := by omega
      have j1 : (k : Int) < (F.length : Int) := by omega
      clear hc1 hI hx
      have hcl : x < 0 ∨ (0 ≤ x ∧ (s.ps.length : Int) ≤ x) ∨ (0 ≤ x ∧ x < s.ps.length) := by omega
      rcases hcl with h1 | ⟨h1, h2⟩ | ⟨h1, h2⟩
      · have hG := Lib.hid (hNk.out fun h => by have := (hLA.out.1 h).1.1; omega)
        have m1 : decide (x < 0) = true := decide_eq_true h1
        go_wp2
        go_ret2
        exact hBad.out _ _ (fun h => by rw [hG.out] at h; cases h.2) rfl hB0.out
      · have hG := Lib.hid (hNk.out fun h => by have := (hLA.out.1 h).1.2; omega)
        have m1 : decide (x < 0) = false := decide_eq_false (by omega)
        have m2 : decide ((s.ps.length : Int) ≤ x) = true := decide_eq_true h2
        go_wp2
        go_ret2
        exact hBad.out _ _ (fun h => by rw [hG.out] at h; cases h.2) rfl hB0.out
      · have m1 : decide (x < 0) = false := decide_eq_false (by omega)
        have m2 : decide ((s.ps.length : Int) ≤ x) = false := decide_eq_false (by omega)
        by_cases hk0 : k = 0
        · have m3 : decide (0 < (k : Int)) = false := decide_eq_false (by omega)
          have m4 : decide (0 < k) = false := decide_eq_false (by omega)
          have hI2 := Lib.hid (hIk.out (hLA.out.2 ⟨⟨h1, h2⟩, fun h => by omega⟩))
          replace hk0 := Lib.hid hk0
          go_wp2
          go_round
          case rel => exact ⟨k + 1, by omega, by go_num, hI2⟩
          case measure => simp [intOf]; omega
        · have m3 : decide (0 < (k : Int)) = true := decide_eq_true (by omega)
          have m4 : decide (0 < k) = true := decide_eq_true (by omega)
          have e2 := e0.out (by omega)
          obtain ⟨y, hy⟩ : ∃ y, y = F[k - 1]'(by omega) := ⟨_, rfl⟩
          rw [← hy] at e2
          have j2 : (0 : Int) ≤ (k : Int) - 1 := by omega
          have j3 : (k : Int) - 1 < (F.length : Int) := by omega
          have j4 : IntKind.i64.wrap ((k : Int) - 1) = (k : Int) - 1 := IntWalk.i64_in _ (by omega)
          have j5 : ((k : Int) - 1).toNat = k - 1 := by omega
          by_cases hxy : y < x
          · have m5 : decide (x ≤ y) = false := decide_eq_false (by omega)
            have hI2 := Lib.hid (hIk.out (hLA.out.2 ⟨⟨h1, h2⟩, fun _ => by rw [← hy]; exact hxy⟩))
            replace hy := Lib.hid hy
            go_wp2
            go_round
            case rel => exact ⟨k + 1, by omega, by go_num, hI2⟩
            case measure => simp [intOf]; omega
          · have m5 : decide (x ≤ y) = true := decide_eq_true (by omega)
            have hG := Lib.hid (hNk.out fun h => by have h3 := (hLA.out.1 h).2 (by omega); rw [← hy] at h3; omega)
            replace hy := Lib.hid hy
            go_wp2
            go_ret2
            exact hBad.out _ _ (fun h => by rw [hG.out] at h; cases h.2) rfl hB0.out
    · obtain rfl : k = F.length := by omega
      have hL := Lib.hid (hNA.out fun j h => hI.out j h h)
      clear hNB hNA hI
      have u0 := hX0.out.cell (j := 0) rfl
      have u1 := hX0.out.cell (j := 1) rfl
      have u2 := hX0.out.cell (j := 2) rfl
      have u9 := hX0.out.lt
      have ks := Sound_any s Ap Ac Av cp cc cv wa (hE.out.below hB0.out) (hs.out.below hB0.out)
      cases hsd : soundB s with
      | false =>
        rw [hsd] at ks
        replace ks := Lib.hid ks
        replace hsd := Lib.hid hsd
        go_wp2_with fail
        refine ks.out.mono ?_
        rintro e w2 ⟨rfl, hb⟩
        have hB2 := Lib.hid (hB0.out.trans (hb.mono hB0.out.size))
        clear hb
        go_wp2
        go_ret2
        exact hBad.out _ _ (fun h => by rw [hsd.out] at h; cases h.1) rfl hB2.out
      | true =>
        rw [hsd] at ks
        replace ks := Lib.hid ks
        have hn60 : s.ps.length ≤ 60 := by
          unfold soundB at hsd
          simp only [Bool.and_eq_true, decide_eq_true_eq] at hsd
          exact hsd.2.1
        have hin : Hid (∀ x, x ∈ s.cap → (0 ≤ x.1 ∧ x.1 < s.ps.length) ∧ (0 ≤ x.2.1 ∧ x.2.1 < s.ps.length)) := fun x hx => by
          unfold soundB at hsd
          simp only [Bool.and_eq_true] at hsd
          obtain ⟨i, hi, rfl⟩ := List.getElem_of_mem hx
          exact ⟨(good_at hsd.2.2.1 hi).1.1, (good_at hsd.2.2.1 hi).1.2.1⟩
        have hin2 := Lib.hid (edges_in hsd)
        have hGood : Hid (∀ e w' b, e = .returned (.tuple #[.slice (some ⟨b, 0, none⟩) s.ps.length s.ps.length, .int .i64 0]) → w.heap.size ≤ b → RoI w' b s.ps.length (rk (edges s) (toN F)) → Below w.heap.size w w' → RkPost s F w e w') := fun e w' b h1 h2 h3 h4 => ⟨by rw [if_pos ⟨hsd, hL.out⟩]; exact ⟨b, h1, h2, h3⟩, h4⟩
        replace hsd := Lib.hid hsd
        clear hBad
        go_wp2_with fail
        refine ks.out.mono ?_
        rintro e w2 ⟨rfl, hb⟩
        have hB2 := Lib.hid (hB0.out.trans (hb.mono hB0.out.size))
        have hX2 := Lib.hid (hX0.out.below hb)
        clear hb ks u0 u1 u2 u9 hB0 hX0
        have kr := Lib.hid (Repeat_any s.ps.length w2.heap.size (w2.alloc (.cells #[.int .i64 (-1)] 3)) (by omega) (head1 w2 _ _) (by simp))
        have hB2a : Hid (Below w.heap.size w (w2.alloc (.cells #[.int .i64 (-1)] 3))) := hB2.out.alloc hB2.out.size _
        have hX2a := Lib.hid (hX2.out.alloc (.cells #[.int .i64 (-1)] 3))
        obtain ⟨b0, hb0⟩ : ∃ b, b = (w2.alloc (.cells #[.int .i64 (-1)] 3)).heap.size := ⟨_, rfl⟩
        rw [← hb0] at kr
        have hw0 : w.heap.size < b0 := by have := hX2a.out.lt; omega
        go_wp2_with fail
        refine kr.out.mono ?_
        rintro e w3 ⟨⟨rfl, hrow⟩, hb⟩
        have hB3 := Lib.hid (hB2a.out.trans (hb.mono (by have := hB2a.out.size; omega)))
        have hX3 := Lib.hid (hX2a.out.below (by rw [← hb0]; exact hb))
        have hR3 : Hid (RoI w3 b0 s.ps.length (ini (toN F) 0)) := (RoI.of_row hrow).congr fun x _ => by unfold ini; rw [List.take_zero, if_neg (by simp)]
        clear hb kr hb0 hrow hB2 hX2 hB2a hX2a
        go_wp2
        go_loopw [56] (fun i wr => ∃ (k : Nat) (o : Nat → Int), k ≤ F.length ∧ i = .int .i64 (k : Int) ∧ Hid (Kp [b0] w3 wr) ∧ Hid (RoI wr b0 s.ps.length o) ∧ Hid (∀ x, o x = ini (toN F) k x)) (fun i _ => F.length - (intOf i).toNat)
        case atStart => exact ⟨0, _, Nat.zero_le _, rfl, Kp.refl _ _, hR3, fun _ => rfl⟩
        case round =>
          obtain ⟨k, o, hk, rfl, hK, hR, ho⟩ := hrel
          clear hR3
          have hBk : Hid (Below w.heap.size w wr) := hK.out.to_below hB3.out fun x hx => by rw [List.mem_singleton.1 hx]; omega
          by_cases hlt : k < F.length
          · obtain ⟨p, hp1, hp2, hp3⟩ := toN_at hL.out hlt
            obtain ⟨b1, o1, rfl, hb1, hc1⟩ := (hF.out.below hBk.out) (by omega)
            have e1 := hc1 k hlt
            rw [hp1] at e1
            have hpn : p < s.ps.length := by omega
            have e2 := hR.out.cell p hpn
            have e3 := hR.out.fr p
            have hR2 := Lib.hid (hR.out.set hpn 0)
            have hK2 := Lib.hid (hK.out.set (a := ⟨b0, p, none⟩) (.int .i64 0) (.inl (List.mem_singleton.2 rfl)))
            have ho2 : Hid (∀ x, setI o p 0 x = ini (toN F) (k + 1) x) := fun x => by
              rw [← ini_succ hp3 x]
              unfold setI
              rw [ho.out x]
            have j0 : (0 : Int) ≤ (k : Int) := by omega
            have j1 : (k : Int) < (F.length : Int) := by omega
            have j2 : (0 : Int) ≤ (p : Int) := by omega
            clear hc1 hp1 hp3
            go_wp2
            exact ⟨⟨k + 1, _, by omega, by go_num, hK2, hR2, ho2⟩, by simp only [intOf]; omega⟩
          · obtain rfl : k = F.length := by omega
            have hX4 := Lib.hid (hX3.out.kp hK.out (by simp; omega))
            have ho3 : Hid (∀ x, o x = if x ∈ toN F then 0 else -1) := fun x => by
              rw [ho.out x, ← ini_all]
              have : (toN F).length = F.length := by simp [toN]
              rw [this]
            have u0 := hX4.out.cell (j := 0) rfl
            have u1 := hX4.out.cell (j := 1) rfl
            have u2 := hX4.out.cell (j := 2) rfl
            have u9 := hX4.out.lt
            have ko := Lib.hid (of_any s Ap Ac Av cp cc cv wr (hs.out.below hBk.out) (by omega) hc3 hin.out)
            have hF4 := Lib.hid (hF.out.below hBk.out)
            clear ho hK hX3 hB3 hF
            go_wp2_with fail
            refine ko.out.mono ?_
            rintro e w4 ⟨⟨R, v, rfl, hG⟩, hb⟩
            have hsz4 := hb.size
            have hB4 : Hid (Below w.heap.size w w4) := hBk.out.trans (hb.mono hBk.out.size)
            have hR4 := Lib.hid (hR.out.below hb)
            have hb0r : b0 < w4.heap.size := hR4.out.lt
            have hFn : F.length ≤ 1000 := by
              have h1 := nodup_len s.ps.length (toN F) (toN_nodup hL.out) fun x hx => toN_in hL.out hx
              have h2 : (toN F).length = F.length := by simp [toN]
              omega
            have hF5 := Lib.hid (hF4.out.below hb)
            have kc := Lib.hid (Clone_any Af cf F w4 hF5.out (fun x hx => by
              obtain ⟨i, hi, rfl⟩ := List.getElem_of_mem hx
              exact (lst_at hL.out hi).1.1) hFn)
            have hGb : Hid (b0 ≠ R ∧ ∀ i b, i < s.ps.length → (v i).ownBlock = some b → b ∉ [b0]) := by
              have h1 := hR.out.lt
              have h2 := hG.lowR
              refine ⟨by omega, fun i b hi e hm => ?_⟩
              have h3 := ((hG.rows i hi).lt b e).1
              rw [List.mem_singleton.1 hm] at h3
              omega
            have hlR := hG.lt
            replace hG := Lib.hid hG
            have hbf := Lib.hid (Bf.start (E := edges s) (toN_nodup hL.out) (fun f hf => toN_in hL.out hf) fun x _ => ho3.out x)
            have hbd := Lib.hid (Bd.start (n := s.ps.length) ho3.out)
            have hadj : Hid (∀ p q, q ∈ adjO (edges s) (edges s).length p ↔ (p, q) ∈ edges s) := fun _ _ => mem_adjO
            have hal : Hid (∀ p, (adjO (edges s) (edges s).length p).length ≤ 300) := fun p => by
              unfold adjO
              rw [List.length_map]
              have h1 := List.length_filter_le (fun x : Nat × Nat => decide (x.1 = p)) ((edges s).take (edges s).length)
              have h2 : ((edges s).take (edges s).length).length ≤ (edges s).length := List.length_take_le' _ _
              have h3 : (edges s).length = s.cap.length := by simp [edges]
              omega
            obtain ⟨adj, hadj0⟩ : ∃ a, a = adjO (edges s) (edges s).length := ⟨_, rfl⟩
            rw [← hadj0] at hG hadj hal
            have hEnd : Hid (∀ f, f ∈ toN F → f < s.ps.length) := fun f hf => toN_in hL.out hf
            obtain ⟨i0, hi0, hzz⟩ := Option.map_eq_some_iff.1 infoIr
            simp only [Prod.mk.injEq] at hzz
            obtain ⟨hz0, hz1, hz2⟩ := hzz
            replace hi0 := Lib.hid hi0
            replace hz0 := Lib.hid hz0
            replace hz1 := Lib.hid hz1
            replace hz2 := Lib.hid hz2
            clear hb ko hR hBk u0 u1 u2 u9 hX4 hadj0 ho3 hF4 hF5 hin
            go_wp2_with fail
            refine kc.out.mono ?_
            rintro e w5 ⟨⟨vq, rfl, hQ⟩, hb⟩
            have hK5 := Lib.hid ((Kp.refl [b0] w4).below hb)
            have hR5 := Lib.hid (hR4.out.below hb)
            replace hQ := Lib.hid hQ
            clear hb kc hR4
            go_wp2
            go_loopg [13] ((toN F).length + negs s.ps.length o) (fun m u wr => ∃ (o : Nat → Int) (queue : List Nat), m = queue.length + negs s.ps.length o ∧ Hid (QIn wr w4.heap.size u queue) ∧ Hid (Kp [b0] w4 wr) ∧ Hid (RoI wr b0 s.ps.length o) ∧ Hid (Bf s.ps.length (edges s) (toN F) (fun _ => False) o queue) ∧ Hid (Bd s.ps.length o))
            case atStart => exact ⟨_, _, rfl, hQ, hK5, hR5, hbf, hbd⟩
            case round =>
              clear hQ hK5 hR5 hbf hbd
              obtain ⟨o1, queue, hm, hQ, hK, hR, hbf, hbd⟩ := hrel
              cases queue with
              | nil =>
                obtain ⟨A, c, rfl⟩ := hQ.out.form
                have hRk : Hid (RoI wr b0 s.ps.length (rk (edges s) (toN F))) := hR.out.congr fun x hx => hbf.out.end hEnd.out hin2.out hx
                have hBr : Hid (Below w.heap.size w wr) := hK.out.to_below hB4.out fun x hx => by rw [List.mem_singleton.1 hx]; omega
                clear hQ hm
                go_wp2
                go_ret2
                exact hGood.out _ _ b0 rfl (by omega) hRk.out hBr.out
              | cons p queue =>
                obtain ⟨g, of, cap, rfl, _, _, hcap, hcell, _⟩ := hQ.out.head
                have hpn := (hbf.out.pos p (List.mem_cons_self ..)).1
                have hGw := hG.out.kp hK.out (by simp; exact fun e => hGb.out.1 e.symm) hGb.out.2
                have d1 := hGw.hd p hpn
                have hlRw := hGw.lt
                obtain ⟨A, cr, hvp, hrow⟩ := own_in (hG.out.rows p hpn)
                rw [hvp] at d1
                have hBq := Lib.hid (Bq.start hbf.out)
                have hm2 : Hid (queue.length + negs s.ps.length o1 < gk) := by rw [hm]; simp only [List.length_cons]; unfold Hid; omega
                have hall := Lib.hid (fun q (h : (p, q) ∈ edges s) => (hadj.out p q).2 h)
                have hins := Lib.hid (fun q (h : q ∈ adj p) => (hadj.out p q).1 h)
                have halp := hal.out p
                have hgr : Hid (∀ j (hj : j < (adj p).length), ∃ gg, A = some ⟨gg, 0, none⟩ ∧ gg < w4.heap.size ∧ gg ∉ [b0] ∧ w4.cell? ⟨gg, j, none⟩ = some (.int .i64 ((adj p)[j] : Int))) := fun j hj => by
                  obtain ⟨gg, hA, h1, h2⟩ := hrow j hj
                  exact ⟨gg, hA, h1, hGb.out.2 p gg hpn (by rw [hvp, hA]; rfl), h2⟩
                have p0 : (0 : Int) ≤ (p : Int) := by omega
                have p1 : (p : Int) < (s.ps.length : Int) := by omega
                have q0 : (0 : Int) < (queue.length : Int) + 1 := by omega
                clear hGw hvp hrow hm hbf
                go_wp2
                go_loopw [13, 81] (fun u ix wz => ∃ (j : Nat) (o2 : Nat → Int) (q2 : List Nat) (A2 : Option Addr) (c2 : Nat), j ≤ (adj p).length ∧ u = .slice A2 (q2.length + 1) c2 ∧ ix = .int .i64 (j : Int) ∧ Hid (QIn wz w4.heap.size (.slice A2 (q2.length + 1) c2) (p :: q2)) ∧ Hid (Kp [b0] w4 wz) ∧ Hid (RoI wz b0 s.ps.length o2) ∧ Hid (Bq s.ps.length (edges s) (toN F) p (o1 p) ((adj p).take j) o2 q2) ∧ Hid (Bd s.ps.length o2) ∧ Hid (q2.length + negs s.ps.length o2 ≤ queue.length + negs s.ps.length o1)) (fun _ ix _ => (adj p).length - (intOf ix).toNat)
                case atStart => exact ⟨0, o1, queue, _, _, Nat.zero_le _, rfl, rfl, hQ, hK, hR, hBq, hbd, Nat.le_refl _⟩
                case round =>
                  clear hQ hK hR hBq hbd
                  obtain ⟨j, o2, q2, A2, c2, hj, rfl, rfl, hQ, hK, hR, hBq, hbd, hme⟩ := hrel
                  by_cases hjl : j < (adj p).length
                  · obtain ⟨gg, rfl, hgl, hgx, hgc⟩ := hgr.out j hjl
                    have e1 := (World.cell?_of_block (a := ⟨gg, j, none⟩) (hK.out.block gg hgl hgx)).trans hgc
                    have hpq := hins.out _ (List.getElem_mem hjl)
                    have htk : (adj p).take (j + 1) = (adj p).take j ++ [(adj p)[j]] := List.take_succ_eq_append_getElem hjl
                    obtain ⟨q, hqe⟩ : ∃ x, x = (adj p)[j] := ⟨_, rfl⟩
                    rw [← hqe] at e1 hpq htk
                    have hqn : q < s.ps.length := (hin2.out _ hpq).2
                    have e2 := hR.out.cell q hqn
                    have j0 : (0 : Int) ≤ (j : Int) := by omega
                    have j1 : (j : Int) < ((adj p).length : Int) := by omega
                    have j2 : (0 : Int) ≤ (q : Int) := by omega
                    have j3 : (q : Int) < (s.ps.length : Int) := by omega
                    clear hqe hgc hgr
                    by_cases hneg : o2 q < 0
                    · have m1 : decide (o2 q < 0) = true := decide_eq_true hneg
                      have hpn2 := hBq.out.here
                      have hcur := hBq.out.cur
                      have hv0 := hBq.out.v0
                      have e3 := hR.out.cell p hpn2
                      have e4 := hR.out.fr q
                      have hbdp := hbd.out p hpn2
                      have jw : IntKind.i64.wrap (o2 p + 1) = o2 p + 1 := IntWalk.i64_in _ (by omega)
                      have hR2 := Lib.hid (hR.out.set hqn (o2 p + 1))
                      have hK2 := Lib.hid (hK.out.set (a := ⟨b0, q, none⟩) (.int .i64 (o2 p + 1)) (.inl (List.mem_singleton.2 rfl)))
                      have hqb : (Value.slice A2 (q2.length + 1) c2).ownBlock ≠ some b0 := fun e => by have := (hQ.out.block e).1; omega
                      have hQ2 := Lib.hid (hQ.out.set (a := ⟨b0, q, none⟩) hqb (.int .i64 (o2 p + 1)))
                      have hBq2 : Hid (Bq s.ps.length (edges s) (toN F) p (o1 p) ((adj p).take (j + 1)) (setI o2 q (o2 p + 1)) (q2 ++ [q])) := by
                        rw [hcur, htk]
                        exact hBq.out.set hqn hpq hneg
                      have hbd2 := Lib.hid (hbd.out.set hpn2 hqn hneg (by omega))
                      have hng := negs_set hqn hneg (v := o2 p + 1) (by omega)
                      have hme2 : Hid ((q2 ++ [q]).length + negs s.ps.length (setI o2 q (o2 p + 1)) ≤ queue.length + negs s.ps.length o1) := by
                        have h := hme.out
                        unfold Hid
                        rw [List.length_append, List.length_singleton]
                        omega
                      have hQ3 := Lib.hid (hQ2.out.alloc (.cells #[.int .i64 (q : Int)] 3))
                      have hR3 := Lib.hid (hR2.out.alloc (.cells #[.int .i64 (q : Int)] 3))
                      have hK3 := Lib.hid (hK2.out.alloc (.cells #[.int .i64 (q : Int)] 3))
                      have hsz1 : w4.heap.size ≤ ((wr.setCell ⟨b0, q, none⟩ (.int .i64 (o2 p + 1))).alloc (.cells #[.int .i64 (q : Int)] 3)).heap.size := hK3.out.size
                      have hlen : (p :: q2).length + 1 ≤ 400 := by
                        have h1 := nodup_len s.ps.length (p :: q2) (List.nodup_cons.2 ⟨hBq.out.off, hBq.out.inv.nodup⟩) fun x hx => by
                          rcases List.mem_cons.1 hx with rfl | hx
                          · exact hpn2
                          · exact (hBq.out.inv.pos x hx).1
                        omega
                      replace hlen := Lib.hid hlen
                      replace hsz1 := Lib.hid hsz1
                      have hbb : Hid (∀ b, (Value.slice A2 (q2.length + 1) c2).ownBlock = some b → b ∈ [b0] ∨ w4.heap.size ≤ b) := fun b e => .inr (hQ.out.block e).1
                      have hqb' := Lib.hid hqb
                      clear hR hK hQ hbdp hcur hv0 hng hqb hneg
                      have had : Hid (((wr.setCell ⟨b0, q, none⟩ (.int .i64 (o2 p + 1))).alloc (.cells #[.int .i64 (q : Int)] 3)).cell? ⟨wr.heap.size, 0, none⟩ = some (.int .i64 (q : Int))) := by
                        have h := head1 (wr.setCell ⟨b0, q, none⟩ (.int .i64 (o2 p + 1))) (.int .i64 (q : Int)) 3
                        rwa [World.size_setCell] at h
                      go_wp2_with (at_builtin; refine wpList_append_queue _ rfl _ _ 26 rfl w4.heap.size 3 i0 (.int .i64 0) 8 Tryz.underlying26 hi0.out hz0.out hz1.out hz2.out rfl (.slice A2 (q2.length + 1) c2) (p :: q2) q rfl hQ3.out hsz1.out ⟨wr.heap.size, 0, none⟩ 1 rfl had.out (by have := hlen.out; omega) (by have := hlen.out; unfold maxLen; omega) ?_; intro vb wb hqq hgb hnb; have hK9 := Lib.hid (hK3.out.grown hgb hbb.out); have hR9 := Lib.hid (hR3.out.grown hgb hqb'.out); obtain ⟨A9, c9, rfl⟩ := hqq.form; replace hqq := Lib.hid hqq; clear hgb hnb)
                      exact ⟨⟨j + 1, _, q2 ++ [q], A9, c9, by omega, by rw [List.length_append, List.length_singleton], by go_num, by have h := hqq.out; unfold Hid; simpa using h, hK9, hR9, hBq2, hbd2, hme2⟩, by simp only [intOf]; omega⟩
                    · have m1 : decide (o2 q < 0) = false := decide_eq_false hneg
                      have hBq2 := Lib.hid (hBq.out.skip hqn (by omega))
                      rw [← htk] at hBq2
                      clear htk hpq
                      go_wp2
                      exact ⟨⟨j + 1, o2, q2, _, _, by omega, rfl, by go_num, hQ, hK, hR, hBq2, hbd, hme⟩, by simp only [intOf]; omega⟩
                  · obtain rfl : j = (adj p).length := by omega
                    have hbf := Lib.hid (hBq.out.end fun q hq => by rw [List.take_length]; exact hall.out q hq)
                    obtain ⟨g9, o9, c9, he, _, _, hc9, _, hq9⟩ := hQ.out.head
                    injection he with he1 _ he3
                    subst he1 he3
                    have hm3 : q2.length + negs s.ps.length o2 < gk := Nat.lt_of_le_of_lt hme.out hm2.out
                    have z1 : (1 : Int) ≤ (q2.length : Int) + 1 := by omega
                    have z2 : (q2.length : Int) + 1 ≤ (c2 : Int) := by omega
                    replace hbd := Lib.hid hbd.out
                    clear hBq hQ hme hm2 hall hins hgr
                    by_cases hc1 : c2 = 1
                    · subst hc1
                      have h0 : q2 = [] := List.length_eq_zero_iff.1 (by omega)
                      subst h0
                      rw [if_pos rfl] at hq9
                      replace hq9 : Hid (QIn wr w4.heap.size (.slice (some ⟨g9, o9, none⟩) 0 0) []) := hq9
                      go_wp2
                      go_roundg (negs s.ps.length o2)
                      case measure => simpa using hm3
                      case rel => exact ⟨o2, [], by simp, hq9, hK, hR, hbf, hbd⟩
                    · rw [if_neg hc1] at hq9
                      replace hq9 := Lib.hid hq9
                      go_wp2
                      go_roundg (q2.length + negs s.ps.length o2)
                      case measure => exact hm3
                      case rel => exact ⟨o2, q2, rfl, hq9, hK, hR, hbf, hbd⟩
end Ci
end Go.Proofs.YthggedpgcchneaaGreatDoor

namespace Go.Proofs.YthggedpgcchneaaGreatDoor
open Go.RowKit Go.Shelf
namespace Ci
open Nt
open Classical

/-- While the components are gathered. -/
structure P1 (E : List (Nat × Nat)) (n : Nat) (w0 : World) (S p q : Nat) (v : Nat → Value) (F : Nat → Int) (wr : World) : Prop where
  kp : Kp [S, S + 1, S + 1 + 1] w0 wr
  lm : LM wr w0.heap.size S n (cQ E p q) v (lsQ E n p q)
  pl : ∃ c f, MapK Tryz.prog 3 κi wr (S + 1 + 1) c f ∧ c ≤ 1000 * p + q ∧ ∀ x : Nat, x < n → f (x : Int) = if PL E p q x then some (.bool true) else none
  ro : RoI wr (S + 1) n F
  fs : ∀ x, x < n → PL E p q x → F x = (fst E x : Int)
section
variable {E : List (Nat × Nat)} {n p q S : Nat} {w0 wr w' : World} {v : Nat → Value} {F : Nat → Int}
theorem LM.congr {w : World} {B mb c c' : Nat} {ls ls' : Nat → List Nat} (h : LM w B mb n c v ls) (e : ∀ x, ls x = ls' x) (ec : c = c') : LM w B mb n c' v ls' := by
  obtain rfl : ls = ls' := funext e
  subst ec
  exact h
theorem P1.below (h : P1 E n w0 S p q v F wr) (hb : Below wr.heap.size wr w') : P1 E n w0 S p q v F w' := by
  obtain ⟨c, f, h1, h2⟩ := h.pl
  exact ⟨h.kp.below hb, h.lm.below hb, ⟨c, f, h1.below hb, h2⟩, h.ro.below hb, h.fs⟩
theorem P1.had (h : P1 E n w0 S p 0 v F wr) (hp : fst E p ≠ p) : P1 E n w0 S (p + 1) 0 v F wr := by
  obtain ⟨c, f, h1, h2, h3⟩ := h.pl
  refine ⟨h.kp, h.lm.congr (fun x => ?_) ?_, ⟨c, f, h1, by omega, fun x hx => ?_⟩, h.ro, fun x hx hP => h.fs x hx ((PL_had hp).1 hP)⟩
  · rw [lsQ_zero, lsQ_zero, lsO_had hp]
  · rw [cQ_zero, cQ_zero, cO_succ, if_neg hp]
  · rw [h3 x hx]
    by_cases e : PL E p 0 x
    · rw [if_pos e, if_pos ((PL_had hp).2 e)]
    · rw [if_neg e, if_neg fun c => e ((PL_had hp).1 c)]
theorem P1.next (h : P1 E n w0 S p n v F wr) (hp : fst E p = p) (hpn : p < n) (hn : n ≤ 1000) : P1 E n w0 S (p + 1) 0 v F wr := by
  obtain ⟨c, f, h1, h2, h3⟩ := h.pl
  refine ⟨h.kp, h.lm.congr (fun x => ?_) ?_, ⟨c, f, h1, by omega, fun x hx => ?_⟩, h.ro, fun x hx hP => h.fs x hx ((PL_next hp hx).1 hP)⟩
  · rw [lsQ_zero, lsO_next hp]
  · rw [cQ_zero, cO_next hp hpn]
  · rw [h3 x hx]
    by_cases e : PL E p n x
    · rw [if_pos e, if_pos ((PL_next hp hx).2 e)]
    · rw [if_neg e, if_neg fun c => e ((PL_next hp hx).1 c)]
theorem P1.skip (h : P1 E n w0 S p q v F wr) (hm : ¬ Mut E p q) : P1 E n w0 S p (q + 1) v F wr := by
  obtain ⟨c, f, h1, h2, h3⟩ := h.pl
  refine ⟨h.kp, h.lm.congr (fun x => (lsQ_skip hm).symm) (cQ_skip hm).symm, ⟨c, f, h1, by omega, fun x hx => ?_⟩, h.ro, fun x hx hP => h.fs x hx ((PL_skip hm).1 hP)⟩
  rw [h3 x hx]
  by_cases e : PL E p q x
  · rw [if_pos e, if_pos ((PL_skip hm).2 e)]
  · rw [if_neg e, if_neg fun c => e ((PL_skip hm).1 c)]
/-- The test whether a party was placed. -/
theorem P1.look (h : P1 E n w0 S p 0 v F wr) (hpn : p < n) (hn : n ≤ 1000) : (Instr.lookup 53 (.map (some (S + 1 + 1))) (.int .i64 (p : Int)) false).run Tryz.prog wr = .ok (.bool (bV (fst E p ≠ p))) wr := by
  obtain ⟨c, f, h1, _, h3⟩ := h.pl
  have := h1.look keyI Tryz.underlying53 (zeroB wr) (key_i Tryz.underlying3 (a := (p : Int)) (by omega) (by omega))
  rw [this, h3 p hpn]
  by_cases e : fst E p ≠ p
  · rw [if_pos (PL_own.2 e), bV_true e]; rfl
  · rw [if_neg fun c => e (PL_own.1 c), bV_false e]; rfl
theorem ReachM.look {mb : Nat} {w : World} (h : ReachM w n mb E p) (hq : q < n) (hn : n ≤ 1000) : (Instr.lookup 53 (.map (some mb)) (.int .i64 (q : Int)) false).run Tryz.prog w = .ok (.bool (bV (Reach E p q))) w := by
  obtain ⟨c, f, h1, h3⟩ := h
  have := h1.look keyI Tryz.underlying53 (zeroB w) (key_i Tryz.underlying3 (a := (q : Int)) (by omega) (by omega))
  rw [this, h3 q hq]
  by_cases e : Reach E p q
  · rw [if_pos e, bV_true e]; rfl
  · rw [if_neg e, bV_false e]; rfl
theorem ReachM.below {mb : Nat} {w : World} (h : ReachM w n mb E p) (hb : Below w.heap.size w w') : ReachM w' n mb E p := by
  obtain ⟨c, f, h1, h3⟩ := h
  exact ⟨c, f, h1.below hb, h3⟩
theorem ReachM.kp {mb : Nat} {xs : List Nat} {w : World} (h : ReachM w n mb E p) (hk : Kp xs w w') (hm : mb ∉ xs) : ReachM w' n mb E p := by
  obtain ⟨c, f, h1, h3⟩ := h
  exact ⟨c, f, h1.kp hk hm, h3⟩
theorem P1.start (E : List (Nat × Nat)) (n : Nat) (wS : World) (t : TypeId) :
    P1 E n (((wS.alloc (.map #[] 0)).alloc (.cells (madeCells #[.int .i64 0] n) t)).alloc (.map #[] 0)) wS.heap.size 0 0 (fun _ => .slice none 0 0) (fun _ => 0) (((wS.alloc (.map #[] 0)).alloc (.cells (madeCells #[.int .i64 0] n) t)).alloc (.map #[] 0)) := by
  have s1 : (wS.alloc (.map #[] 0)).heap.size = wS.heap.size + 1 := by simp
  have s2 : ((wS.alloc (.map #[] 0)).alloc (.cells (madeCells #[.int .i64 0] n) t)).heap.size = wS.heap.size + 1 + 1 := by simp
  have hR := (RoI.made (wS.alloc (.map #[] 0)) n t).alloc (.map #[] 0)
  rw [s1] at hR
  have hM := MapK.made ((wS.alloc (.map #[] 0)).alloc (.cells (madeCells #[.int .i64 0] n) t)) Tryz.prog 3 κi
  rw [s2] at hM
  refine ⟨Kp.refl _ _, (((LM.made wS _ n).alloc _).alloc _).congr (fun x => ?_) ?_, ⟨0, _, hM, Nat.zero_le _, fun x _ => ?_⟩, hR, fun x _ hP => ?_⟩
  · rw [lsQ_zero]
    unfold lsO
    rw [if_neg (by omega)]
  · rw [cQ_zero]; rfl
  · rw [if_neg fun c => by have := PL_zero.1 c; omega]
  · have := PL_zero.1 hP; omega
/-- A party is placed. -/
theorem P1.step (h : P1 E n w0 S p q v F wr) (hw0 : w0.heap.size = S + 3) (hm : Mut E p q) (hpn : p < n) (hqn : q < n) (hn : n ≤ 1000) (hfp : fst E p = p) :
    ∃ W1, (Instr.mapUpdate 53 (.map (some (S + 1 + 1))) (.int .i64 (q : Int)) (.bool true)).run Tryz.prog wr = .ok () W1 ∧ W1.heap.size = W1.heap.size ∧ RoI W1 (S + 1) n F ∧
      (∀ W2, W2 = W1.setCell ⟨S + 1, q, none⟩ (.int .i64 (p : Int)) → (Instr.lookup 52 (.map (some S)) (.int .i64 (p : Int)) false).run Tryz.prog W2 = .ok (v p) W2 ∧ wr.heap.size ≤ W2.heap.size ∧
        ∀ W3, W3 = W2.alloc (.cells #[.int .i64 (q : Int)] 3) → W3.ownsRow w0.heap.size 3 1 (v p) (lsQ E n p q p).length (intsL (lsQ E n p q p)) ∧
          ∀ vb wb, wb.ownsRow w0.heap.size 3 1 vb ((lsQ E n p q p).length + 1) (intsL (lsQ E n p q p) ++ [.int .i64 (q : Int)]) → W3.grownBy wb (v p).ownBlock → (vb.ownBlock = (v p).ownBlock ∨ vb.ownBlock = some W3.heap.size) →
            ∃ W4, (Instr.mapUpdate 52 (.map (some S)) (.int .i64 (p : Int)) vb).run Tryz.prog wb = .ok () W4 ∧ P1 E n w0 S p (q + 1) (fun i => if i = p then vb else v i) (setI F q (p : Int)) W4 ∧
              (∀ w6, Kp [S, S + 1, S + 1 + 1] w6 wr → (∀ b, (v p).ownBlock = some b → w6.heap.size ≤ b) → Kp [S, S + 1, S + 1 + 1] w6 W4 ∧ ∀ b, vb.ownBlock = some b → w6.heap.size ≤ b)) := by
  obtain ⟨c, f, h1, h2, h3⟩ := h.pl
  obtain ⟨W1, hrun, hM1, hg1⟩ := h1.put κi_inj keyI Tryz.underlying53 (by unfold maxLen; omega) (key_i Tryz.underlying3 (a := (q : Int)) (by omega) (by omega)) (.bool true)
  have hrowlt : ∀ x b, x < n → (v x).ownBlock = some b → w0.heap.size ≤ b := fun x b hx e => ((h.lm.rows x hx).lt b e).1
  have hL1 : LM W1 w0.heap.size S n (cQ E p q) v (lsQ E n p q) := h.lm.grown hg1 (by simp; omega) fun x b hx e e2 => by
    have := hrowlt x b hx e
    cases e2; omega
  have hR1 : RoI W1 (S + 1) n F := h.ro.grown hg1 (by simp)
  refine ⟨W1, hrun, rfl, hR1, ?_⟩
  rintro W2 rfl
  have hL2 := hL1.set (a := ⟨S + 1, q, none⟩) (.int .i64 (p : Int)) (by simp) fun x hx e => by
    have := hrowlt x _ hx e
    simp only at this
    omega
  have hR2 := hR1.set hqn (p : Int)
  have hM2 := hM1.set (a := ⟨S + 1, q, none⟩) (by simp) (.int .i64 (p : Int))
  refine ⟨hL2.look hpn hn, by have := hg1.size; simpa using this, ?_⟩
  rintro W3 rfl
  have hL3 := hL2.alloc (.cells #[.int .i64 (q : Int)] 3)
  refine ⟨hL3.rows p hpn, fun vb wb ho hg hnb => ?_⟩
  have hc := cQ_le (E := E) (p := p) (q := q)
  obtain ⟨W4, hrun4, hL4, hg4⟩ := hL3.step hpn hn (by unfold maxLen; omega) hg ho hnb
  have hS : ∀ b, (v p).ownBlock = some b → S + 1 + 1 < b := fun b e => by have := hrowlt p b hpn e; omega
  refine ⟨W4, hrun4, ⟨?_, hL4.congr (fun x => ?_) ?_, ⟨if (f (q : Int)).isSome then c else c + 1, putF f (q : Int) (some (.bool true)), ?_, ?_, fun x hx => ?_⟩, ?_, fun x hx hP => ?_⟩, fun w6 hk hb6 => ⟨?_, fun b e => ?_⟩⟩
  · exact ((((h.kp.grown hg1 fun b e => by cases e; simp).set (a := ⟨S + 1, q, none⟩) _ (by simp)).alloc _).grown hg fun b e => .inr (hrowlt p b hpn e)).grown hg4 fun b e => by cases e; simp
  · rw [lsQ_step hm]
    rfl
  · rw [cQ_step (n := n) hm]
  · exact ((hM2.alloc _).kept hg fun e => by have := hS _ e.symm; omega).kept hg4 (by simp; omega)
  · split <;> omega
  · by_cases e : x = q
    · subst e
      rw [putF_same, if_pos ((PL_step hm).2 (.inr rfl))]
    · rw [putF_other (fun c => e (by omega)), h3 x hx]
      by_cases e2 : PL E p q x
      · rw [if_pos e2, if_pos ((PL_step hm).2 (.inl e2))]
      · rw [if_neg e2, if_neg fun c => ((PL_step hm).1 c).elim e2 e]
  · exact ((hR2.alloc _).grown hg fun e => by have := hS _ e; omega).grown hg4 (by simp)
  · by_cases e : x = q
    · subst e
      rw [setI_same, ← fst_eq hm, hfp]
    · rw [setI_other e]
      exact h.fs x hx (((PL_step hm).1 hP).elim id fun c => absurd c e)
  · exact ((((hk.grown hg1 fun b e => by cases e; simp).set (a := ⟨S + 1, q, none⟩) _ (by simp)).alloc _).grown hg fun b e => .inr (hb6 b e)).grown hg4 fun b e => by cases e; simp
  · rcases hnb with hnb | hnb
    · exact hb6 b (by rw [← hnb, e])
    · rw [e] at hnb
      have h1 := hk.size
      have h2 := hg1.size
      simp only [Option.some.injEq, World.size_alloc, World.size_setCell] at hnb
      omega
end
/-- While the components are put in order. -/
structure P2 (E : List (Nat × Nat)) (n : Nat) (w7 : World) (S : Nat) (v : Nat → Value) (pre left : List Nat) (vo : Value) (wr : World) : Prop where
  st : Stage n E pre left
  kp : Kp [S] w7 wr
  mp : ∃ f, MapK Tryz.prog 3 κi wr S left.length f ∧ ∀ x : Nat, x < n → f (x : Int) = if x ∈ left then some (v x) else none
  out : wr.ownsRow w7.heap.size 26 1 vo pre.length (pre.map v)
section
variable {E : List (Nat × Nat)} {n p q S : Nat} {w0 w7 wr w' : World} {v : Nat → Value} {F : Nat → Int} {pre left : List Nat} {vo : Value}
theorem P2.start (h : P1 E n w0 S n 0 v F w7) (hE : InN n E) : P2 E n w7 S v [] (leasts n E) (.slice none 0 0) w7 := by
  obtain ⟨f, h1, h2⟩ := h.lm.map
  rw [cQ_zero, cO_all] at h1
  refine ⟨Stage.start hE, Kp.refl _ _, ⟨f, h1, fun x hx => ?_⟩, World.ownsRow_nil _ _ _ _⟩
  rw [h2 x hx, lsQ_zero, lsO_all hx]
  by_cases e : x ∈ leasts n E
  · rw [if_pos e, if_pos e, if_neg (comp_ne hx)]
  · rw [if_neg e, if_neg e, if_pos rfl]
theorem P2.pre_nodup (h : P2 E n w7 S v pre left vo wr) (hE : InN n E) : pre.Nodup := by
  have h1 := ords_nodup hE
  rw [h.st.eq] at h1
  exact (List.nodup_append.1 h1).1
theorem P2.len (h : P2 E n w7 S v pre left vo wr) (ty : TypeId) : (Builtin.len_ #[52] ty #[.map (some S)]).run Tryz.prog wr = .ok (.int .i64 (left.length : Int)) wr := by
  obtain ⟨f, h1, _⟩ := h.mp
  exact h1.len Tryz.underlying52 ty
theorem P2.look (h : P2 E n w7 S v pre left vo wr) (hp : p < n) (hn : n ≤ 1000) : (Instr.lookup 52 (.map (some S)) (.int .i64 (p : Int)) true).run Tryz.prog wr = .ok (.tuple #[if p ∈ left then v p else .slice none 0 0, .bool (bV (p ∈ left))]) wr := by
  obtain ⟨f, h1, h2⟩ := h.mp
  have := h1.look_ok keyI Tryz.underlying52 (zeroSl wr) (key_i Tryz.underlying3 (a := (p : Int)) (by omega) (by omega))
  rw [this, h2 p hp]
  by_cases e : p ∈ left
  · rw [if_pos e, if_pos e, bV_true e]; rfl
  · rw [if_neg e, if_neg e, bV_false e]; rfl
theorem P2.step (h : P2 E n w7 S v pre left vo wr) (hp : pick E left = some p) (hpn : p < n) (hn : n ≤ 1000) (hS : S < w7.heap.size) :
    (wr.alloc (.cells #[v p] 26)).ownsRow w7.heap.size 26 1 vo pre.length (pre.map v) ∧ w7.heap.size ≤ (wr.alloc (.cells #[v p] 26)).heap.size ∧
    ∀ vb wb, wb.ownsRow w7.heap.size 26 1 vb (pre.length + 1) (pre.map v ++ [v p]) → (wr.alloc (.cells #[v p] 26)).grownBy wb vo.ownBlock →
      ∃ W4, (Builtin.delete_ #[52, 3] 0 #[.map (some S), .int .i64 (p : Int)]).run Tryz.prog wb = .ok (.tuple #[]) W4 ∧ P2 E n w7 S v (pre ++ [p]) (left.erase p) vb W4 := by
  have hs := h.kp.size
  obtain ⟨hpl, _, _⟩ := pick_says h.st.ok hp
  obtain ⟨f, h1, h2⟩ := h.mp
  have hvo : ∀ b, vo.ownBlock = some b → w7.heap.size ≤ b := fun b e => (h.out.lt b e).1
  refine ⟨own_below' h.out ((Below.refl _ wr).alloc (Nat.le_refl _) _), by simp; omega, fun vb wb ho hg => ?_⟩
  have hne : ∀ b, vo.ownBlock = some b → b ≠ S := fun b e c => by have := hvo b e; omega
  have hM := (h1.alloc (.cells #[v p] 26)).kept hg fun e => hne S e.symm rfl
  obtain ⟨W4, hrun, hM4, hg4⟩ := hM.del κi_inj keyI Tryz.underlying52 (key_i Tryz.underlying3 (a := (p : Int)) (by omega) (by omega)) 0
  have hc : (if (f (p : Int)).isSome then left.length - 1 else left.length) = (left.erase p).length := by
    rw [h2 p hpn, if_pos hpl, List.length_erase_of_mem hpl]; rfl
  rw [hc] at hM4
  refine ⟨W4, hrun, h.st.step hp, ?_, ⟨_, hM4, fun x hx => ?_⟩, ?_⟩
  · exact ((h.kp.alloc _).grown hg fun b e => .inr (hvo b e)).grown hg4 fun b e => by cases e; simp
  · by_cases e : x = p
    · subst e
      rw [putF_same, if_neg fun c => (h.st.ok.nodup.mem_erase_iff.1 c).1 rfl]
    · rw [putF_other (fun c => e (by omega)), h2 x hx]
      by_cases e2 : x ∈ left
      · rw [if_pos e2, if_pos ((List.mem_erase_of_ne e).2 e2)]
      · rw [if_neg e2, if_neg fun c => e2 ((List.mem_erase_of_ne e).1 c)]
  · rw [List.length_append, List.map_append]
    refine ho.kept hg4 ?_
    cases hu : vb.ownBlock with
    | none => exact .inl rfl
    | some b => exact .inr fun e => (by have := (ho.lt b hu).1; cases e; omega)
def slA : Value → Option Addr
  | .slice a _ _ => a
  | _ => none
def slC : Value → Nat
  | .slice _ _ c => c
  | _ => 0
/-- The components found, as they lie. -/
noncomputable def outL (E : List (Nat × Nat)) (n : Nat) (v : Nat → Value) (pre : List Nat) : List (Option Addr × Nat × List Int) := pre.map fun p => (slA (v p), slC (v p), (comp n E p).map fun (q : Nat) => (q : Int))
theorem bare_outL : bare (outL E n v pre) = pre.map fun p => (comp n E p).map fun (q : Nat) => (q : Int) := by
  unfold bare outL
  rw [List.map_map]; rfl
theorem own_inInt {W : World} {base : Nat} {e : TypeId} {u : Value} {l : List Nat} (h : W.ownsRow base e 1 u l.length (intsL l)) : u = .slice (slA u) l.length (slC u) ∧ InInt W (slA u) (l.map fun (q : Nat) => (q : Int)) := by
  rcases own_ints h with ⟨rfl, rfl⟩ | ⟨g, cap, rfl, _, h1, _, h2⟩
  · exact ⟨rfl, fun h => absurd h (by simp)⟩
  · refine ⟨rfl, fun _ => ⟨g, 0, rfl, h1, fun j hj => ?_⟩⟩
    have hj2 : j < l.length := by simpa using hj
    rw [Nat.zero_add, h2 j hj2]
    simp
theorem inLs_out {W : World} {base base2 c : Nat} {A : Option Addr} (hn : n ≤ 1000) (h : W.ownsRow base 26 1 (.slice A pre.length c) pre.length (pre.map v)) (hr : ∀ p, p ∈ pre → W.ownsRow base2 3 1 (v p) (comp n E p).length (intsL (comp n E p))) : InLs W A (outL E n v pre) := fun h0 => by
  have hl : (outL E n v pre).length = pre.length := by simp [outL]
  rw [hl] at h0
  rcases h.2 with ⟨_, h1⟩ | ⟨g, cap, cur, e, hb, hg, _⟩
  · omega
  · injection e with e1 _ _
    subst e1
    refine ⟨g, 0, rfl, (Array.getElem?_eq_some_iff.1 hg).1, fun j hj => ?_⟩
    have hj2 : j < pre.length := by omega
    have hc := h.cells (g := g) (by simp [Value.ownBlock]) j (v pre[j]) (by simp [hj2])
    rw [Addr.add_lit] at hc
    have hrj := own_inInt (hr pre[j] (List.getElem_mem hj2))
    have he : (outL E n v pre)[j] = (slA (v pre[j]), slC (v pre[j]), (comp n E pre[j]).map fun (q : Nat) => (q : Int)) := by simp [outL]
    rw [he]
    refine ⟨?_, hrj.2, ?_⟩
    · rw [hc]
      simp only [List.length_map]
      rw [← hrj.1]
    · simp only [List.length_map]
      unfold comp
      have h := List.length_filter_le (fun q => decide (Mut E pre[j] q)) (List.range n)
      rw [List.length_range] at h
      omega
end
end Ci
end Go.Proofs.YthggedpgcchneaaGreatDoor

namespace Go.Proofs.YthggedpgcchneaaGreatDoor
open Go.RowKit Go.Shelf
namespace Ci
open Nt
open Classical

/-- The components as lists of ints. -/
noncomputable def compsI (s : SR) : List (List Int) := (comps s.ps.length (edges s)).map fun l => l.map fun (q : Nat) => (q : Int)
/-- What Components gives. -/
def CmPost (s : SR) (w : World) (e : Ending) (w' : World) : Prop :=
  (if soundB s = true then ∃ A c l, e = .returned (.tuple #[.slice A l.length c, .int .i64 0]) ∧ InLs w' A l ∧ bare l = compsI s
    else e = .returned (.tuple #[.slice none 0 0, .int .i64 1])) ∧ Below w.heap.size w w'
set_option maxRecDepth 100000 in
set_option maxHeartbeats 32000000 in
theorem Components_any (s : SR) (Ap Ac Av : Option Addr) (cp cc cv : Nat) (w : World) (hE : Env w) (hs : StIn w s Ap Ac Av) (hc3 : s.cap.length ≤ 300) :
    Calls Tryz.prog 11 #[.agg #[.slice Ap s.ps.length cp, .slice Ac s.cap.length cc, .slice Av s.vot.length cv]] w (CmPost s w) := by
  have hX0 : Hid (Bk (w.alloc (.cells #[.slice Ap s.ps.length cp, .slice Ac s.cap.length cc, .slice Av s.vot.length cv] 25)) w.heap.size 25 (SC s Ap Ac Av cp cc cv)) := Bk.new w _ _
  have hB0 : Hid (Below w.heap.size w (w.alloc (.cells #[.slice Ap s.ps.length cp, .slice Ac s.cap.length cc, .slice Av s.vot.length cv] 25))) := (Below.refl _ w).alloc (Nat.le_refl _) _
  have hmm := @run_makeMap Tryz.prog
  have u0 := hX0.out.cell (j := 0) rfl
  have u1 := hX0.out.cell (j := 1) rfl
  have u2 := hX0.out.cell (j := 2) rfl
  have u9 := hX0.out.lt
  obtain ⟨wa, hwa⟩ : ∃ x, x = w.alloc (.cells #[.slice Ap s.ps.length cp, .slice Ac s.cap.length cc, .slice Av s.vot.length cv] 25) := ⟨_, rfl⟩
  have ks := Sound_any s Ap Ac Av cp cc cv (w.alloc (.cells #[.slice Ap s.ps.length cp, .slice Ac s.cap.length cc, .slice Av s.vot.length cv] 25)) (hE.below hB0.out) (hs.below hB0.out)
  have hsz0 : (w.alloc (.cells #[.slice Ap s.ps.length cp, .slice Ac s.cap.length cc, .slice Av s.vot.length cv] 25)).heap.size = w.heap.size + 1 := by simp
  rw [← hwa] at hX0 hB0 u0 u1 u2 u9 ks hsz0
  cases hsd : soundB s with
  | false =>
    have hBad : Hid (∀ e w', e = .returned (.tuple #[.slice none 0 0, .int .i64 1]) → Below w.heap.size w w' → CmPost s w e w') := fun e w' h2 h3 => ⟨by rw [if_neg (by rw [hsd]; simp)]; exact h2, h3⟩
    rw [hsd] at ks
    replace ks := Lib.hid ks
    replace hs := Lib.hid hs
    clear hmm
    subst hwa
    go_enter Tryz.func11, Tryz.ntmps11
    go_wp2_with fail
    refine ks.out.mono ?_
    rintro e w2 ⟨rfl, hb⟩
    have hB2 := Lib.hid (hB0.out.trans (hb.mono hB0.out.size))
    clear hb
    go_wp2
    go_ret2
    exact hBad.out _ _ rfl hB2.out
  | true =>
    have hn60 : s.ps.length ≤ 60 := by
      have h := hsd
      unfold soundB at h
      simp only [Bool.and_eq_true, decide_eq_true_eq] at h
      exact h.2.1
    have hin : Hid (∀ x, x ∈ s.cap → (0 ≤ x.1 ∧ x.1 < s.ps.length) ∧ (0 ≤ x.2.1 ∧ x.2.1 < s.ps.length)) := fun x hx => by
      have h := hsd
      unfold soundB at h
      simp only [Bool.and_eq_true] at h
      obtain ⟨i, hi, rfl⟩ := List.getElem_of_mem hx
      exact ⟨(good_at h.2.2.1 hi).1.1, (good_at h.2.2.1 hi).1.2.1⟩
    have hin2 := Lib.hid (edges_in hsd)
    have hGood : Hid (∀ e w' A c k l, e = .returned (.tuple #[.slice A k c, .int .i64 0]) → k = List.length l → InLs w' A l → bare l = compsI s → Below w.heap.size w w' → CmPost s w e w') := fun e w' A c k l h1 hk h2 h3 h4 => ⟨by rw [if_pos hsd]; exact ⟨A, c, l, by rw [← hk]; exact h1, h2, h3⟩, h4⟩
    rw [hsd] at ks
    replace ks := Lib.hid ks
    replace hs := Lib.hid hs
    replace hsd := Lib.hid hsd
    have hmk := run_make_row' (P := Tryz.prog) 26 3 (.int .i64 0) 8 Tryz.underlying26 infoIr rfl .i64 .i64 s.ps.length (by omega) (by omega)
    have ho2 := Lib.hid (fun w2 h => of_any s Ap Ac Av cp cc cv w2 h (by omega) hc3 hin.out)
    have hal : Hid (∀ p, (adjO (edges s) (edges s).length p).length ≤ 300) := fun p => by
      unfold adjO
      rw [List.length_map]
      have h1 := List.length_filter_le (fun x : Nat × Nat => decide (x.1 = p)) ((edges s).take (edges s).length)
      have h2 : ((edges s).take (edges s).length).length ≤ (edges s).length := List.length_take_le' _ _
      have h3 : (edges s).length = s.cap.length := by simp [edges]
      omega
    have hadj : Hid (∀ p q, q ∈ adjO (edges s) (edges s).length p ↔ (p, q) ∈ edges s) := fun _ _ => mem_adjO
    have hres : Hid (compsI s = (ords s.ps.length (edges s)).map fun p => (comp s.ps.length (edges s) p).map fun (q : Nat) => (q : Int)) := by
      unfold Hid compsI comps
      rw [List.map_map]; rfl
    obtain ⟨E, hE0⟩ : ∃ E, E = edges s := ⟨_, rfl⟩
    obtain ⟨adj, hadj0⟩ : ∃ a, a = adjO (edges s) (edges s).length := ⟨_, rfl⟩
    rw [← hadj0] at ho2 hal hadj
    rw [← hE0] at hin2 hadj hres
    clear hE0 hadj0
    obtain ⟨i0, hi0, hzz⟩ := Option.map_eq_some_iff.1 infoIr
    simp only [Prod.mk.injEq] at hzz
    obtain ⟨hz0, hz1, hz2⟩ := hzz
    replace hi0 := Lib.hid hi0
    replace hz0 := Lib.hid hz0
    replace hz1 := Lib.hid hz1
    replace hz2 := Lib.hid hz2
    subst hwa
    go_enter Tryz.func11, Tryz.ntmps11
    go_wp2_with fail
    refine ks.out.mono ?_
    rintro e w2 ⟨rfl, hb⟩
    have hB2 := Lib.hid (hB0.out.trans (hb.mono hB0.out.size))
    have hX2 := Lib.hid (hX0.out.below hb)
    have kg := Lib.hid (ho2.out w2 (hs.out.below hB2.out))
    clear hb ks hB0 hX0 u0 u1 u2 u9 ho2
    have u0 := hX2.out.cell (j := 0) rfl
    have u1 := hX2.out.cell (j := 1) rfl
    have u2 := hX2.out.cell (j := 2) rfl
    have u9 := hX2.out.lt
    go_wp2_with fail
    refine kg.out.mono ?_
    rintro e w3 ⟨⟨R, vg, rfl, hG⟩, hb⟩
    have hB3 := Lib.hid (hB2.out.trans (hb.mono hB2.out.size))
    clear hb kg hB2 hX2 u0 u1 u2 u9
    have kt := Lib.hid (turned_any R s.ps.length w2.heap.size vg adj w3 (by omega) (fun p _ => by have := hal.out p; omega) (fun p q _ h => (hin2.out _ ((hadj.out p q).1 h)).2) hG)
    replace hG := Lib.hid hG
    go_wp2_with fail
    refine kt.out.mono ?_
    rintro e w4 ⟨⟨R2, vb, T, rfl, hG2, hT⟩, hb⟩
    have hB4 := Lib.hid (hB3.out.trans (hb.mono hB3.out.size))
    have hG4 := Lib.hid (hG.out.below hb)
    have hTm : Hid (∀ p q, p < s.ps.length → (q ∈ T p ↔ (p, q) ∈ revE E)) := fun p q hp => by
      rw [hT.1 p q hp, mem_revE, ← hadj.out]
      constructor
      · rintro (⟨_, h⟩ | ⟨_, h⟩)
        · exact h
        · simp at h
      · intro h
        exact .inl ⟨(hin2.out _ ((hadj.out q p).1 h)).1, h⟩
    have hTl : Hid (∀ p, (T p).length ≤ 60000) := fun p => by have := hT.2 p; omega
    replace hG2 := Lib.hid hG2
    clear hb kt hB3 hG hT
    have hP0 := Lib.hid (P1.start E s.ps.length w4 3)
    have hBc : Hid (Below w.heap.size w (((w4.alloc (.map #[] 0)).alloc (.cells (madeCells #[.int .i64 0] s.ps.length) 3)).alloc (.map #[] 0))) := ((hB4.out.alloc hB4.out.size _).alloc (by have := hB4.out.size; simp; omega) _).alloc (by have := hB4.out.size; simp; omega) _
    have hBd : Hid (Below w4.heap.size w4 (((w4.alloc (.map #[] 0)).alloc (.cells (madeCells #[.int .i64 0] s.ps.length) 3)).alloc (.map #[] 0))) := (((Below.refl _ w4).alloc (Nat.le_refl _) _).alloc (by simp) _).alloc (by simp <;> omega) _
    have hszc : Hid ((((w4.alloc (.map #[] 0)).alloc (.cells (madeCells #[.int .i64 0] s.ps.length) 3)).alloc (.map #[] 0)).heap.size = w4.heap.size + 3) := by unfold Hid; simp
    have hGs : Hid (R < w4.heap.size ∧ R2 < w4.heap.size ∧ (∀ i b, i < s.ps.length → (vg i).ownBlock = some b → b < w4.heap.size) ∧ (∀ i b, i < s.ps.length → (vb i).ownBlock = some b → b < w4.heap.size)) :=
      ⟨hG4.out.lt, hG2.out.lt, fun i b hi e => ((hG4.out.rows i hi).lt b e).2, fun i b hi e => ((hG2.out.rows i hi).lt b e).2⟩
    have hGa := Lib.hid (hG4.out.below hBd.out)
    have hGb := Lib.hid (hG2.out.below hBd.out)
    have hSw : w.heap.size ≤ w4.heap.size := hB4.out.size
    go_wp2
    obtain ⟨w0, hw0⟩ : ∃ x, x = (((w4.alloc (.map #[] 0)).alloc (.cells (madeCells #[.int .i64 0] s.ps.length) 3)).alloc (.map #[] 0)) := ⟨_, rfl⟩
    rw [← hw0] at hP0 hBc hszc hGa hGb ⊢
    obtain ⟨S, hS⟩ : ∃ x, x = w4.heap.size := ⟨_, rfl⟩
    rw [← hS] at hP0 hszc hGs hSw ⊢
    clear hmk hmm hBd hG4 hG2 hw0 hS hB4
    go_loopw [37] (fun ix wr => ∃ (p : Nat) (v : Nat → Value) (F : Nat → Int), p ≤ s.ps.length ∧ ix = .int .i64 (p : Int) ∧ Hid (P1 E s.ps.length w0 S p 0 v F wr)) (fun ix _ => s.ps.length - (intOf ix).toNat)
    case atStart => exact ⟨0, _, _, Nat.zero_le _, rfl, hP0⟩
    case round =>
      obtain ⟨p, v, F, hp, rfl, hP⟩ := hrel
      clear hP0
      by_cases hpn : p < s.ps.length
      · have hlk := hP.out.look hpn (by omega)
        have p0 : (0 : Int) ≤ (p : Int) := by omega
        have p1 : (p : Int) < (s.ps.length : Int) := by omega
        by_cases hfp : fst E p = p
        · rw [bV_false (fun c => c hfp)] at hlk
          have hGw := hGa.out.kp hP.out.kp (by have := hGs.out.1; simp; omega) (fun i b hi e => by have := hGs.out.2.2.1 i b hi e; simp; omega)
          have k1 := Lib.hid (reached_any E R s.ps.length _ p vg adj wr (by omega) (fun x q _ => hadj.out x q) hin2.out (fun x _ => by have := hal.out x; omega) hpn hGw)
          replace hfp := Lib.hid hfp
          clear hGw
          go_wp2_with fail
          refine k1.out.mono ?_
          rintro e w5 ⟨⟨m1, rfl, hm1, hRe1⟩, hb⟩
          have hP5 := Lib.hid (hP.out.below hb)
          have hm1b : S + 3 ≤ m1 := by have := hP.out.kp.size; have := hszc.out; omega
          clear hb hm1 hP k1 hlk
          have hGw := hGb.out.kp hP5.out.kp (by have := hGs.out.2.1; simp; omega) (fun i b hi e => by have := hGs.out.2.2.2 i b hi e; simp; omega)
          have k2 := Lib.hid (reached_any (revE E) R2 s.ps.length _ p vb T w5 (by omega) (fun x q hx => hTm.out x q hx) (revE_in hin2.out) (fun x _ => by have := hTl.out x; omega) hpn hGw)
          replace hRe1 := Lib.hid hRe1
          clear hGw
          go_wp2_with fail
          refine k2.out.mono ?_
          rintro e w6 ⟨⟨m2, rfl, hm2, hRe2⟩, hb⟩
          have hP6 := Lib.hid (hP5.out.below hb)
          have hRe1' := Lib.hid (hRe1.out.below hb)
          have hm2b : S + 3 ≤ m2 := by have := hP5.out.kp.size; have := hszc.out; omega
          replace hRe2 := Lib.hid hRe2
          clear hb hm2 hP5 hRe1 k2
          have hv6 : Hid (∀ b, (v p).ownBlock = some b → w6.heap.size ≤ b) := fun b e => by
            rw [hP6.out.lm.nil p hpn (by unfold lsQ; rw [if_pos rfl, part_zero])] at e
            cases e
          have hK6 : Hid (Kp [S, S + 1, S + 1 + 1] w6 w6) := Kp.refl _ _
          go_wp2
          go_loopw [51] (fun ix wz => ∃ (q : Nat) (v2 : Nat → Value) (F2 : Nat → Int), q ≤ s.ps.length ∧ ix = .int .i64 (q : Int) ∧ Hid (P1 E s.ps.length w0 S p q v2 F2 wz) ∧ Hid (Kp [S, S + 1, S + 1 + 1] w6 wz) ∧ Hid (∀ b, (v2 p).ownBlock = some b → w6.heap.size ≤ b)) (fun ix _ => s.ps.length - (intOf ix).toNat)
          case atStart => exact ⟨0, v, F, Nat.zero_le _, rfl, hP6, hK6, hv6⟩
          case round =>
            obtain ⟨q, v2, F2, hq, rfl, hP, hK, hv⟩ := hrel
            clear hP6 hK6 hv6
            by_cases hqn : q < s.ps.length
            · have hl1 := (hRe1'.out.kp hK.out (by simp; omega)).look hqn (by omega)
              have hl2 := (hRe2.out.kp hK.out (by simp; omega)).look hqn (by omega)
              have q0 : (0 : Int) ≤ (q : Int) := by omega
              have q1 : (q : Int) < (s.ps.length : Int) := by omega
              by_cases hr1 : Reach E p q
              · rw [bV_true hr1] at hl1
                by_cases hr2 : Reach E q p
                · rw [bV_true (reach_rev.2 hr2)] at hl2
                  obtain ⟨W1, hrun1, _, hR1, hst⟩ := hP.out.step hszc.out ⟨hr1, hr2⟩ hpn hqn (by omega) hfp.out
                  obtain ⟨hlk2, hsz2, hst2⟩ := hst _ rfl
                  obtain ⟨hrow, hst3⟩ := hst2 _ rfl
                  have c1 := hR1.cell q hqn
                  have c2 := hR1.fr q
                  have c3 := hR1.lt
                  have had : Hid (∀ j u, [(Value.int .i64 (q : Int))][j]? = some u → ((W1.setCell ⟨S + 1, q, none⟩ (.int .i64 (p : Int))).alloc (.cells #[.int .i64 (q : Int)] 3)).cell? (Addr.add ⟨W1.heap.size, 0, none⟩ j) = some u) := by
                    have h := head_new (W1.setCell ⟨S + 1, q, none⟩ (.int .i64 (p : Int))) (.int .i64 (q : Int)) 3
                    rwa [World.size_setCell] at h
                  have hls : Hid ((lsQ E s.ps.length p q p).length ≤ 100) := by
                    unfold Hid lsQ
                    rw [if_pos rfl]
                    unfold part
                    have h := List.length_filter_le (fun y => decide (Mut E p y)) (List.range q)
                    rw [List.length_range] at h
                    omega
                  have hbs : Hid (w0.heap.size ≤ ((W1.setCell ⟨S + 1, q, none⟩ (.int .i64 (p : Int))).alloc (.cells #[.int .i64 (q : Int)] 3)).heap.size) := by
                    have h1 := hP.out.kp.size
                    unfold Hid
                    rw [World.size_alloc]
                    omega
                  obtain ⟨vp, hvp⟩ : ∃ x, x = v2 p := ⟨_, rfl⟩
                  rw [← hvp] at hlk2 hrow hst3
                  rw [← hvp] at hv
                  replace hvp := Lib.hid hvp
                  replace hrow := Lib.hid hrow
                  replace hst3 := Lib.hid hst3
                  clear hP hst hst2 hR1 hr1 hr2 hsz2
                  go_wp2_with (at_builtin; refine wpList_append_new _ rfl _ _ 26 rfl w0.heap.size 3 i0 (.int .i64 0) 1 8 Tryz.underlying26 hi0.out hz0.out hz1.out hz2.out rfl (by decide) vp _ _ rfl hrow.out ⟨W1.heap.size, 0, none⟩ 1 1 [.int .i64 (q : Int)] rfl rfl had.out (one_cell1 _ rfl) (by decide) (by have := hls.out; unfold maxLen; omega) (by have := hls.out; omega) hbs.out ?_; intro vb9 wb9 ho9 hg9 hn9; obtain ⟨W4, hrun4, hP4, hK4⟩ := hst3.out vb9 wb9 ho9 hg9 (by simpa using hn9); obtain ⟨hK5, hv5⟩ := hK4 w6 hK.out hv.out; replace hP4 := Lib.hid hP4; replace hK5 := Lib.hid hK5; replace hv5 := Lib.hid hv5; clear ho9 hg9 hn9 hK4)
                  exact ⟨⟨q + 1, _, _, by omega, by go_num, hP4, hK5, fun b e => hv5.out b (by simpa using e)⟩, by simp only [intOf]; omega⟩
                · rw [bV_false (fun c => hr2 (reach_rev.1 c))] at hl2
                  have hP2 := Lib.hid (hP.out.skip fun c => hr2 c.2)
                  clear hP hr1 hr2
                  go_wp2
                  exact ⟨⟨q + 1, v2, F2, by omega, by go_num, hP2, hK, hv⟩, by simp only [intOf]; omega⟩
              · rw [bV_false hr1] at hl1
                have hP2 := Lib.hid (hP.out.skip fun c => hr1 c.1)
                clear hP hr1 hl2
                go_wp2
                exact ⟨⟨q + 1, v2, F2, by omega, by go_num, hP2, hK, hv⟩, by simp only [intOf]; omega⟩
            · obtain rfl : q = s.ps.length := by omega
              have hP2 := Lib.hid (hP.out.next hfp.out hpn (by omega))
              clear hP
              go_wp2
              exact ⟨⟨p + 1, v2, F2, by omega, by go_num, hP2⟩, by simp only [intOf]; omega⟩
        · rw [bV_true hfp] at hlk
          have hP2 := Lib.hid (hP.out.had hfp)
          clear hfp hP
          go_wp2
          exact ⟨⟨p + 1, v, F, by omega, by go_num, hP2⟩, by simp only [intOf]; omega⟩
      · obtain rfl : p = s.ps.length := by omega
        obtain ⟨w7, hw7⟩ : ∃ x, x = wr := ⟨_, rfl⟩
        subst hw7
        have hQ0 := Lib.hid (P2.start hP.out hin2.out)
        have hF : Hid (∀ x, x < s.ps.length → F x = (fst E x : Int)) := fun x hx => hP.out.fs x hx (PL_all hx)
        have hro := Lib.hid hP.out.ro
        have hrows : Hid (∀ x, x ∈ leasts s.ps.length E → w7.ownsRow w0.heap.size 3 1 (v x) (comp s.ps.length E x).length (intsL (comp s.ps.length E x))) := fun x hx => by
          have hxn := (mem_leasts.1 hx).1
          have h := hP.out.lm.rows x hxn
          rwa [lsQ_zero, lsO_all hxn, if_pos hx] at h
        have hG7 := Lib.hid (hGb.out.kp hP.out.kp (by have := hGs.out.2.1; simp; omega) (fun i b hi e => by have := hGs.out.2.2.2 i b hi e; simp; omega))
        have hB7 : Hid (Below w.heap.size w w7) := hP.out.kp.to_below hBc.out fun x hx => by simp at hx; omega
        have hS7 : S < w7.heap.size := by have := hP.out.kp.size; have := hszc.out; omega
        have hR27 : Hid (R2 ∉ [S] ∧ (∀ i b, i < s.ps.length → (vb i).ownBlock = some b → b ∉ [S]) ∧ S + 1 ∉ [S] ∧ ∀ x b, x ∈ leasts s.ps.length E → (v x).ownBlock = some b → b ∉ [S]) := by
          refine ⟨by have := hGs.out.2.1; simp; omega, fun i b hi e => by have := hGs.out.2.2.2 i b hi e; simp; omega, by simp, fun x b hx e => ?_⟩
          have h1 := ((hrows.out x hx).lt b e).1
          have h2 := hszc.out
          simp; omega
        clear hP hGb hGa hGs hBc hszc
        go_wp2
        go_loopg [13] (leasts s.ps.length E).length (fun m u wz => ∃ (A : Option Addr) (c : Nat) (pre left : List Nat), m = left.length ∧ u = .slice A pre.length c ∧ Hid (P2 E s.ps.length w7 S v pre left (.slice A pre.length c) wz))
        case atStart => exact ⟨none, 0, [], _, rfl, rfl, hQ0⟩
        case round =>
          obtain ⟨A, c, pre, left, hm, rfl, hP⟩ := hrel
          clear hQ0
          have hlen := hP.out.len 3
          by_cases hl0 : left = []
          · subst hl0
            have hord : Hid (ords s.ps.length E = pre) := hP.out.st.end
            have hpl : Hid (∀ x, x ∈ pre → x ∈ leasts s.ps.length E) := fun x hx => by
              have := hP.out.st.had x hx
              exact mem_leasts.2 ⟨this.1, this.2.1⟩
            have hLs := Lib.hid (inLs_out (E := E) (n := s.ps.length) (by omega) hP.out.out fun p hp => own_kp (hrows.out p (hpl.out p hp)) hP.out.kp fun b e => hR27.out.2.2.2 p b (hpl.out p hp) e)
            have hBr : Hid (Below w.heap.size w wr) := hP.out.kp.to_below hB7.out fun x hx => by simp at hx; omega
            have hlo : Hid (pre.length = (outL E s.ps.length v pre).length) := by unfold Hid outL; simp
            clear hm hP
            go_wp2
            go_ret2
            exact hGood.out _ _ A c _ _ rfl hlo.out hLs.out (by rw [bare_outL, hres.out, hord.out]) hBr.out
          · have hl1 : 0 < (left.length : Int) := by have := List.length_pos_iff.2 hl0; omega
            have hno0 : Hid (∀ x, x < 0 → x ∈ left → ¬ Free E left x) := fun x hx => absurd hx (Nat.not_lt_zero _)
            have hleft : Hid (∀ x, x ∈ left → x < s.ps.length ∧ x ∈ leasts s.ps.length E) := fun x hx => by
              have := hP.out.st.ok.own x hx
              exact ⟨this.1, mem_leasts.2 this⟩
            go_wp2
            go_step3
            go_wp2
            go_step3
            go_wp2
            go_loopw [13, 83] (fun u ix wz => ∃ p : Nat, p ≤ s.ps.length ∧ u = .slice A pre.length c ∧ ix = .int .i64 (p : Int) ∧ wz = wr ∧ Hid (∀ x, x < p → x ∈ left → ¬ Free E left x)) (fun _ ix _ => s.ps.length - (intOf ix).toNat)
            case atStart => exact ⟨0, Nat.zero_le _, rfl, rfl, rfl, hno0⟩
            case round =>
              clear hno0 hlen
              obtain ⟨p, hp, rfl, rfl, hwz, hno⟩ := hrel
              subst hwz
              by_cases hpn : p < s.ps.length
              · have hlk := hP.out.look hpn (by omega)
                have p0 : (0 : Int) ≤ (p : Int) := by omega
                have p1 : (p : Int) < (s.ps.length : Int) := by omega
                by_cases hpl : p ∈ left
                · rw [if_pos hpl, bV_true hpl] at hlk
                  obtain ⟨hvp, hvc⟩ := own_inInt (own_kp (hrows.out p (hleft.out p hpl).2) hP.out.kp fun b e => hR27.out.2.2.2 p b (hleft.out p hpl).2 e)
                  rw [hvp] at hlk
                  have hpn2 := Lib.hid hpn
                  have hcn : Hid ((comp s.ps.length E p).length ≤ s.ps.length) := by
                    unfold Hid comp
                    have h := List.length_filter_le (fun q => decide (Mut E p q)) (List.range s.ps.length)
                    rwa [List.length_range] at h
                  have hcm : Hid (∀ q, q ∈ comp s.ps.length E p → q < s.ps.length ∧ Mut E p q) := fun q hq => mem_comp.1 hq
                  have hfr : Hid ((∀ q, q ∈ comp s.ps.length E p → ∀ h, (h, q) ∈ E → fst E h ∈ left → fst E h = p) → Free E left p) := fun h => (free_iff hin2.out).2 h
                  have hnf : Hid (∀ h q, q ∈ comp s.ps.length E p → (h, q) ∈ E → fst E h ∈ left → fst E h ≠ p → ¬ Free E left p) := fun h q hq he hl hne hF2 => hne ((free_iff hin2.out).1 hF2 q hq h he hl)
                  obtain ⟨cmp, hcmp⟩ : ∃ x, x = comp s.ps.length E p := ⟨_, rfl⟩
                  rw [← hcmp] at hlk hvp hvc hcn hcm hfr hnf
                  obtain ⟨Ap2, hAp2⟩ : ∃ x, x = slA (v p) := ⟨_, rfl⟩
                  obtain ⟨cp2, hcp2⟩ : ∃ x, x = slC (v p) := ⟨_, rfl⟩
                  rw [← hAp2, ← hcp2] at hlk hvp
                  rw [← hAp2] at hvc
                  have hc0 : Hid (∀ q, q ∈ cmp.take 0 → ∀ h, (h, q) ∈ E → fst E h ∈ left → fst E h = p) := fun q hq => by simp at hq
                  replace hvp := Lib.hid hvp
                  replace hvc := Lib.hid hvc
                  replace hcmp := Lib.hid hcmp
                  clear hAp2 hcp2
                  go_wp2
                  go_loopw [96] (fun ix wz => ∃ j : Nat, j ≤ cmp.length ∧ ix = .int .i64 (j : Int) ∧ wz = wr ∧ Hid (∀ q, q ∈ cmp.take j → ∀ h, (h, q) ∈ E → fst E h ∈ left → fst E h = p)) (fun ix _ => cmp.length - (intOf ix).toNat)
                  case atStart => exact ⟨0, Nat.zero_le _, rfl, rfl, hc0⟩
                  case round =>
                    clear hc0 hlk
                    obtain ⟨j, hj, rfl, hwz, hck⟩ := hrel
                    subst hwz
                    by_cases hjl : j < cmp.length
                    · obtain ⟨gp, op, rfl, hgl, hgc⟩ := hvc.out (by simpa using Nat.lt_of_le_of_lt (Nat.zero_le _) hjl)
                      have e1 := hgc j (by simpa using hjl)
                      simp only [List.getElem_map] at e1
                      have hqm := Lib.hid (List.getElem_mem hjl)
                      have htk : cmp.take (j + 1) = cmp.take j ++ [cmp[j]] := List.take_succ_eq_append_getElem hjl
                      obtain ⟨q, hqe⟩ : ∃ x, x = cmp[j] := ⟨_, rfl⟩
                      rw [← hqe] at e1 hqm htk
                      have hqn : q < s.ps.length := (hcm.out q hqm.out).1
                      have hGw := hG7.out.kp hP.out.kp hR27.out.1 hR27.out.2.1
                      have d1 := hGw.hd q hqn
                      have d2 := hGw.lt
                      obtain ⟨A3, c3, hvq, hrow⟩ := own_in (hG7.out.rows q hqn)
                      rw [hvq] at d1
                      have hgr : Hid (∀ i (hi : i < (T q).length), ∃ gg, A3 = some ⟨gg, 0, none⟩ ∧ wr.cell? ⟨gg, i, none⟩ = some (.int .i64 ((T q)[i] : Int)) ∧ gg < wr.heap.size) := fun i hi => by
                        obtain ⟨gg, hA, h1, h2⟩ := hrow i hi
                        exact ⟨gg, hA, (World.cell?_of_block (a := ⟨gg, i, none⟩) (hP.out.kp.block gg h1 (hR27.out.2.1 q gg hqn (by rw [hvq, hA]; rfl)))).trans h2, Nat.lt_of_lt_of_le h1 hP.out.kp.size⟩
                      have j0 : (0 : Int) ≤ (j : Int) := by omega
                      have j1 : (j : Int) < (cmp.length : Int) := by omega
                      have j2 : (0 : Int) ≤ (q : Int) := by omega
                      have j3 : (q : Int) < (s.ps.length : Int) := by omega
                      have hTq : Hid (∀ h, h ∈ T q ↔ (h, q) ∈ E) := fun h => by rw [hTm.out q h hqn, mem_revE]
                      have hTq2 := hTl.out q
                      have hz0 : Hid (∀ h, h ∈ (T q).take 0 → fst E h ∈ left → fst E h = p) := fun h hh => by simp at hh
                      replace htk := Lib.hid htk
                      clear hGw hrow hvq hqe hgc
                      go_wp2
                      go_loopw [105] (fun ix wz => ∃ i : Nat, i ≤ (T q).length ∧ ix = .int .i64 (i : Int) ∧ wz = wr ∧ Hid (∀ h, h ∈ (T q).take i → fst E h ∈ left → fst E h = p)) (fun ix _ => (T q).length - (intOf ix).toNat)
                      case atStart => exact ⟨0, Nat.zero_le _, rfl, rfl, hz0⟩
                      case round =>
                        clear hz0
                        obtain ⟨i, hi, rfl, hwz, hzk⟩ := hrel
                        subst hwz
                        by_cases hil : i < (T q).length
                        · obtain ⟨gg, rfl, hgc, hgl2⟩ := hgr.out i hil
                          have hhm := (hTq.out _).1 (List.getElem_mem hil)
                          have htk2 : (T q).take (i + 1) = (T q).take i ++ [(T q)[i]] := List.take_succ_eq_append_getElem hil
                          obtain ⟨h, hhe⟩ : ∃ x, x = (T q)[i] := ⟨_, rfl⟩
                          rw [← hhe] at hgc hhm htk2
                          have hhn : h < s.ps.length := (hin2.out _ hhm).1
                          have hrw := hP.out.kp
                          have f1 := (hro.out.of_block hrw.size (hrw.block (S + 1) hro.out.lt hR27.out.2.2.1)).cell h hhn
                          have f2 := (hro.out.of_block hrw.size (hrw.block (S + 1) hro.out.lt hR27.out.2.2.1)).lt
                          rw [hF.out h hhn] at f1
                          have hlk2 := hP.out.look (fst_lt (E := E) hhn) (by omega)
                          have hcl : fst E h ∈ left → fst E h = p ∨ ¬ Free E left p := fun hl => by
                            by_cases e : fst E h = p
                            · exact .inl e
                            · exact .inr (hnf.out h q hqm.out hhm hl e)
                          obtain ⟨fh, hfh⟩ : ∃ x, x = fst E h := ⟨_, rfl⟩
                          have hzn : Hid ((fh ∈ left → fh = p) → ∀ x, x ∈ (T q).take (i + 1) → fst E x ∈ left → fst E x = p) := fun hx x hm hl => by
                            rw [htk2] at hm
                            rcases List.mem_append.1 hm with hm | hm
                            · exact hzk.out x hm hl
                            · rw [List.mem_singleton.1 hm, ← hfh] at hl ⊢
                              exact hx hl
                          have hfn : fh < s.ps.length := by rw [hfh]; exact fst_lt hhn
                          rw [← hfh] at f1 hlk2 hcl
                          have i0' : (0 : Int) ≤ (i : Int) := by omega
                          have i1' : (i : Int) < ((T q).length : Int) := by omega
                          have i2' : (0 : Int) ≤ (h : Int) := by omega
                          have i3' : (h : Int) < (s.ps.length : Int) := by omega
                          clear hhe hfh htk2 hrw hgr
                          by_cases hfl : fh ∈ left
                          · rw [if_pos hfl, bV_true hfl] at hlk2
                            by_cases hfe : fh = p
                            · have m1 : ((fh : Int) != (p : Int)) = false := by rw [bne_eq_false_iff_eq]; omega
                              have hz2 := Lib.hid (hzn.out fun _ => hfe)
                              subst hfe
                              clear hcl hzn
                              go_wp2
                              exact ⟨⟨i + 1, by omega, by go_num, trivial, hz2⟩, by simp only [intOf]; omega⟩
                            · have m1 : ((fh : Int) != (p : Int)) = true := by rw [bne_iff_ne]; omega
                              have hno2 : Hid (∀ x, x < p + 1 → x ∈ left → ¬ Free E left x) := fun x hx hxl => by
                                by_cases e : x = p
                                · subst e; exact (hcl hfl).resolve_left hfe
                                · exact hno.out x (by omega) hxl
                              replace hfe := Lib.hid hfe
                              clear hcl hzn
                              go_wp2
                              exact ⟨⟨p + 1, by omega, rfl, by go_num, trivial, hno2⟩, by simp only [intOf]; omega⟩
                          · rw [if_neg hfl, bV_false hfl] at hlk2
                            have hz2 := Lib.hid (hzn.out fun c => absurd c hfl)
                            clear hcl hzn
                            go_wp2
                            exact ⟨⟨i + 1, by omega, by go_num, trivial, hz2⟩, by simp only [intOf]; omega⟩
                        · obtain rfl : i = (T q).length := by omega
                          have hck2 : Hid (∀ q, q ∈ cmp.take (j + 1) → ∀ h, (h, q) ∈ E → fst E h ∈ left → fst E h = p) := fun x hx h he hl => by
                            rw [htk.out] at hx
                            rcases List.mem_append.1 hx with hx | hx
                            · exact hck.out x hx h he hl
                            · rw [List.mem_singleton.1 hx] at he
                              exact hzk.out h (by rw [List.take_length]; exact (hTq.out h).2 he) hl
                          have hcn2 := hcn.out
                          clear hck hzk hgr
                          go_wp2
                          exact ⟨⟨j + 1, by omega, by go_num, trivial, hck2⟩, by simp only [intOf]; omega⟩
                    · obtain rfl : j = cmp.length := by omega
                      have hFree := hfr.out fun q hq => hck.out q (by rw [List.take_length]; exact hq)
                      have hpk : pick E left = some p := pick_of hP.out.st.ok hpl hFree fun x hx hf => by
                        by_cases c : p ≤ x
                        · exact c
                        · exact absurd hf (hno.out x (by omega) hx)
                      obtain ⟨hrow, hsz, hst⟩ := hP.out.step hpk hpn (by omega) hS7
                      have hvp' := hvp.out
                      rw [hvp'] at hrow hsz hst
                      have had : Hid (∀ j u, [(Value.slice Ap2 cmp.length cp2)][j]? = some u → (wr.alloc (.cells #[.slice Ap2 cmp.length cp2] 26)).cell? (Addr.add ⟨wr.heap.size, 0, none⟩ j) = some u) := head_new wr _ _
                      have hlp : Hid (pre.length ≤ 100) := by
                        have h1 := nodup_len s.ps.length pre (hP.out.pre_nodup hin2.out) fun x hx => (hP.out.st.had x hx).1
                        unfold Hid; omega
                      have hle : Hid ((left.erase p).length < gk) := by
                        rw [hm, List.length_erase_of_mem hpl]
                        have := List.length_pos_of_mem hpl
                        unfold Hid; omega
                      have hpl2 : Hid ((pre ++ [p]).length = pre.length + 1) := by unfold Hid; simp
                      obtain ⟨g0, hg0, hgz⟩ := Option.map_eq_some_iff.1 infoG
                      simp only [Prod.mk.injEq] at hgz
                      obtain ⟨gz0, gz1, gz2⟩ := hgz
                      replace hrow := Lib.hid hrow
                      replace hsz := Lib.hid hsz
                      replace hst := Lib.hid hst
                      replace hg0 := Lib.hid hg0
                      replace gz0 := Lib.hid gz0
                      replace gz1 := Lib.hid gz1
                      replace gz2 := Lib.hid gz2
                      clear hck hFree hpk hvp' hP
                      go_wp2_with (at_builtin; refine wpList_append_new _ rfl _ _ 29 rfl w7.heap.size 26 g0 (.slice none 0 0) 1 24 Tryz.underlying29 hg0.out gz0.out gz1.out gz2.out rfl (by decide) (.slice A pre.length c) pre.length _ rfl hrow.out ⟨wr.heap.size, 0, none⟩ 1 1 [.slice Ap2 cmp.length cp2] rfl rfl had.out (one_cell1 _ rfl) (by decide) (by have := hlp.out; unfold maxLen; omega) (by have := hlp.out; omega) hsz.out ?_; intro vb9 wb9 ho9 hg9 hn9; obtain ⟨W4, hrun4, hP4⟩ := hst.out vb9 wb9 ho9 hg9; obtain ⟨A9, c9, rfl⟩ := own_form ho9; replace hP4 := Lib.hid hP4; clear ho9 hg9 hn9)
                      rw [Exit.noGoto_normal]
                      go_wp2
                      go_roundg (left.erase p).length
                      case measure => exact hle.out
                      case rel => exact ⟨A9, c9, pre ++ [p], left.erase p, rfl, by rw [hpl2.out], by have h := hP4.out; rwa [← hpl2.out] at h⟩
                · rw [if_neg hpl, bV_false hpl] at hlk
                  have hno2 : Hid (∀ x, x < p + 1 → x ∈ left → ¬ Free E left x) := fun x hx hxl => by
                    by_cases e : x = p
                    · subst e; exact absurd hxl hpl
                    · exact hno.out x (by omega) hxl
                  clear hpl
                  go_wp2
                  exact ⟨⟨p + 1, by omega, rfl, by go_num, trivial, hno2⟩, by simp only [intOf]; omega⟩
              · exfalso
                obtain ⟨x, hx, hf⟩ := hP.out.st.ok.free hl0
                exact hno.out x (by have := (hleft.out x hx).1; omega) hx hf
end Ci
end Go.Proofs.YthggedpgcchneaaGreatDoor

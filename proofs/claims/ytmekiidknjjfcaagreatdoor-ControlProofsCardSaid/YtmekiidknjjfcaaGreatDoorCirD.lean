/- circle.Ranks and circle.Components, walked whole. -/
import Derived.Test.YtmekiidknjjfcaaGreatDoorCirC
import Derived.Deep.LoopGhost
import Derived.Test.YtmekiidknjjfcaaGreatDoorCirA
import Derived.WalkMore
namespace Go.Proofs.YtmekiidknjjfcaaGreatDoor
open Go.RowKit Go.Shelf
namespace Ci
open Nt

def toN (F : List Int) : List Nat := F.map Int.toNat
/-- What Ranks gives. -/
def RkPost (s : SR) (F : List Int) (w : World) (e : Ending) (w' : World) : Prop :=
  (if soundB s = true ∧ listB s.ps.length F = true then ∃ b, e = .returned (.tuple #[.slice (some ⟨b, 0, none⟩) s.ps.length s.ps.length, .int .i64 0]) ∧ w.heap.size ≤ b ∧ RoI w' b s.ps.length (rk (edges s) (toN F))
    else e = .returned (.tuple #[.slice none 0 0, .int .i64 1])) ∧ Below w.heap.size w w'
theorem lst_at {n : Int} {l : List Int} (h : listB n l = true) {k : Nat} (hk : k < l.length) : LstAt n l k hk := of_decide_eq_true h k hk
theorem toN_at {n : Int} {F : List Int} (h : listB n F = true) {k : Nat} (hk : k < F.length) : ∃ p : Nat, F[k] = (p : Int) ∧ (p : Int) < n ∧ (toN F)[k]? = some p := by
  have h1 := (lst_at h hk).1
  refine ⟨F[k].toNat, by omega, by omega, by simp [toN, hk]⟩
theorem toN_in {n : Nat} {F : List Int} (h : listB n F = true) {p : Nat} (hp : p ∈ toN F) : p < n := by
  obtain ⟨x, hx, rfl⟩ := List.mem_map.1 hp
  obtain ⟨k, hk, rfl⟩ := List.getElem_of_mem hx
  have := (lst_at h hk).1
  omega
theorem toN_sorted {n : Nat} {F : List Int} (h : listB n F = true) : (toN F).Pairwise (· < ·) := by
  have hs : ∀ (i j : Nat) (hi : i < F.length) (hj : j < F.length), i < j → F[i] < F[j] := by
    intro i j hi hj hij
    induction j with
    | zero => omega
    | succ j ih =>
      have h1 := (lst_at h hj).2 (by omega)
      simp only [Nat.add_sub_cancel] at h1
      by_cases e : i = j
      · subst e; exact h1
      · have := ih (by omega) (by omega)
        omega
  unfold toN
  rw [List.pairwise_map]
  refine List.pairwise_iff_getElem.2 fun i j hi hj hij => ?_
  have := hs i j hi hj hij
  have := (lst_at h hi).1
  have := (lst_at h hj).1
  omega
theorem toN_nodup {n : Nat} {F : List Int} (h : listB n F = true) : (toN F).Nodup := (toN_sorted h).imp fun h => Nat.ne_of_lt h
theorem own_in {W : World} {base : Nat} {e : TypeId} {u : Value} {l : List Nat} (h : W.ownsRow base e 1 u l.length (intsL l)) :
    ∃ A cap, u = .slice A l.length cap ∧ ∀ j (hj : j < l.length), ∃ g, A = some ⟨g, 0, none⟩ ∧ g < W.heap.size ∧ W.cell? ⟨g, j, none⟩ = some (.int .i64 (l[j] : Int)) := by
  rcases own_ints h with ⟨rfl, rfl⟩ | ⟨g, cap, rfl, _, h1, _, h2⟩
  · exact ⟨none, 0, rfl, fun j hj => absurd hj (Nat.not_lt_zero _)⟩
  · exact ⟨_, cap, rfl, fun j hj => ⟨g, rfl, h1, h2 j hj⟩⟩
/-- slices.Clone of parties. -/
theorem Clone_any (A : Option Addr) (c : Nat) (F : List Int) (w : World) (hF : InInt w A F) (h0 : ∀ x, x ∈ F → 0 ≤ x) (hl : F.length ≤ 1000) :
    Calls Tryz.prog 53 #[.slice A F.length c] w fun e w' => (∃ v, e = .returned v ∧ QIn w' w.heap.size v (toN F)) ∧ Below w.heap.size w w' := by
  by_cases h : 0 < F.length
  · obtain ⟨b, o, rfl, hb, hc⟩ := hF h
    have hz : ∀ j, j < F.length → w.cell? ⟨b, o + j, none⟩ = some (.int .i64 (F.getD j 0)) := fun j hj => by
      rw [hc j hj]
      simp [hj]
    refine (Tryz.slices_Clone_int b o F.length c F w (Nat.le_refl _) (by omega) hz).mono ?_
    rintro e w' ⟨v, rfl, ho, _, hbw⟩
    refine ⟨⟨v, rfl, QIn.of_row (e := 3) ?_⟩, hbw⟩
    have e1 : (toN F).length = F.length := by simp [toN]
    have e2 : ((toN F).map fun (q : Nat) => Value.int .i64 (q : Int)) = F.map (Value.int .i64) := by
      unfold toN
      rw [List.map_map]
      refine List.map_congr_left fun x hx => ?_
      have := h0 x hx
      simp only [Function.comp_apply]
      congr 1
      omega
    rw [e1, e2]
    simpa using ho
  · have h1 : F = [] := List.length_eq_zero_iff.1 (by omega)
    subst h1
    cases A with
    | none =>
      refine (Tryz.slices_Clone_int_nil 0 c w).mono ?_
      rintro e w' ⟨rfl, rfl⟩
      exact ⟨⟨_, rfl, .inl ⟨none, rfl, rfl, fun b hb => by cases hb⟩⟩, Below.refl _ _⟩
    | some a =>
      refine (Tryz.slices_Clone_int_zero a c w).mono ?_
      rintro e w' ⟨v, rfl, ho, _, hb⟩
      exact ⟨⟨v, rfl, QIn.of_row (e := 3) (by simpa [toN] using ho)⟩, hb⟩

theorem head1 (w : World) (v : Value) (t : TypeId) : (w.alloc (.cells #[v] t)).cell? ⟨w.heap.size, 0, none⟩ = some v := by
  have := head_new w v t 0 v rfl
  rwa [Addr.add_zero'] at this
theorem negs_lt {n p : Nat} {o : Nat → Int} (hp : p < n) (h : 0 ≤ o p) : negs n o + 1 ≤ n := by
  have h1 := filter_lt (f := fun x => decide (o x < 0)) (g := fun _ => true) (l := List.range n) (fun _ _ _ => rfl) ⟨p, List.mem_range.2 hp, decide_eq_false (by omega), rfl⟩
  have h2 : (List.filter (fun _ => true) (List.range n)).length = n := by
    rw [List.filter_eq_self.2 fun _ _ => rfl, List.length_range]
  rw [h2] at h1
  exact h1
theorem negs_le (n : Nat) (o : Nat → Int) : negs n o ≤ n := by
  have := List.length_filter_le (fun x => decide (o x < 0)) (List.range n)
  rw [List.length_range] at this
  exact this
/-- No rank is as great as the number of those that have one. -/
def Bd (n : Nat) (o : Nat → Int) : Prop := ∀ x, x < n → o x + (negs n o : Int) < n
theorem Bd.start {n : Nat} {F : List Nat} {o : Nat → Int} (h : ∀ x, o x = if x ∈ F then 0 else -1) : Bd n o := fun x hx => by
  by_cases e : x ∈ F
  · have h1 : o x = 0 := by rw [h x, if_pos e]
    have := negs_lt hx (by omega : 0 ≤ o x)
    omega
  · have h1 : o x = -1 := by rw [h x, if_neg e]
    have := negs_le n o
    omega
theorem Bd.set {n p q : Nat} {o : Nat → Int} (h : Bd n o) (hp : p < n) (hq : q < n) (h0 : o q < 0) (hv : 0 ≤ o p) : Bd n (setI o q (o p + 1)) := fun x hx => by
  have h1 := negs_set hq h0 (v := o p + 1) (by omega)
  have h2 := h p hp
  have h3 := h x hx
  by_cases e : x = q
  · rw [e, setI_same]; omega
  · rw [setI_other e]; omega
def ini (F : List Nat) (k : Nat) (x : Nat) : Int := if x ∈ F.take k then 0 else -1
theorem ini_succ {F : List Nat} {k p : Nat} (h : F[k]? = some p) (x : Nat) : setI (ini F k) p 0 x = ini F (k + 1) x := by
  unfold setI ini
  obtain ⟨hk, rfl⟩ := List.getElem?_eq_some_iff.1 h
  have hm : x ∈ F.take (k + 1) ↔ x ∈ F.take k ∨ x = F[k] := by
    rw [List.take_succ_eq_append_getElem hk, List.mem_append, List.mem_singleton]
  by_cases e : x = F[k]
  · rw [if_pos e, if_pos (hm.2 (.inr e))]
  · rw [if_neg e]
    by_cases e2 : x ∈ F.take k
    · rw [if_pos e2, if_pos (hm.2 (.inl e2))]
    · rw [if_neg e2, if_neg fun c => (hm.1 c).elim e2 e]
theorem ini_all (F : List Nat) (x : Nat) : ini F F.length x = if x ∈ F then 0 else -1 := by unfold ini; rw [List.take_length]

set_option maxRecDepth 100000 in
set_option maxHeartbeats 16000000 in
theorem Ranks_any (s : SR) (Ap Ac Av Af : Option Addr) (cp cc cv cf : Nat) (F : List Int) (w : World) (hE : Env w) (hs : StIn w s Ap Ac Av) (hc3 : s.cap.length ≤ 300) (hF : InInt w Af F) (hFl : F.length ≤ 140737488355328) :
    Calls Tryz.prog 35 #[.agg #[.slice Ap s.ps.length cp, .slice Ac s.cap.length cc, .slice Av s.vot.length cv], .slice Af F.length cf] w (RkPost s F w) := by
  have hp47 := hs.np
  have hNB := Lib.hid (fun (k : Nat) (h : k < F.length) (hb : ¬ LstAt s.ps.length F k h) => list_bad h hb)
  have hNA := Lib.hid (list_all (n := (s.ps.length : Int)) (l := F))
  have hX0 : Hid (Bk (w.alloc (.cells #[.slice Ap s.ps.length cp, .slice Ac s.cap.length cc, .slice Av s.vot.length cv] 25)) w.heap.size 25 (SC s Ap Ac Av cp cc cv)) := Bk.new w _ _
  have hB0 : Hid (Below w.heap.size w (w.alloc (.cells #[.slice Ap s.ps.length cp, .slice Ac s.cap.length cc, .slice Av s.vot.length cv] 25))) := (Below.refl _ w).alloc (Nat.le_refl _) _
  have hBad : Hid (∀ e w', (¬ (soundB s = true ∧ listB s.ps.length F = true)) → e = .returned (.tuple #[.slice none 0 0, .int .i64 1]) → Below w.heap.size w w' → RkPost s F w e w') := fun e w' h1 h2 h3 => ⟨by rw [if_neg h1]; exact h2, h3⟩
  have u0 := hX0.out.cell (j := 0) rfl
  have u9 := hX0.out.lt
  replace hE := Lib.hid hE
  replace hs := Lib.hid hs
  replace hF := Lib.hid hF
  go_enter Tryz.func35, Tryz.ntmps35
  go_wp2
  obtain ⟨wa, hwa⟩ : ∃ x, x = w.alloc (.cells #[.slice Ap s.ps.length cp, .slice Ac s.cap.length cc, .slice Av s.vot.length cv] 25) := ⟨_, rfl⟩
  rw [← hwa] at hX0 hB0 ⊢
  clear u0 u9 hwa
  go_loop [22] (fun i => ∃ k : Nat, k ≤ F.length ∧ i = .int .i64 (k : Int) ∧ Hid (∀ j (h : j < F.length), j < k → LstAt s.ps.length F j h)) (fun i => F.length - (intOf i).toNat)
  case atStart => exact ⟨0, Nat.zero_le _, rfl, fun j _ h => absurd h (Nat.not_lt_zero _)⟩
  case round =>
    obtain ⟨k, hk, rfl, hI⟩ := hrel
    by_cases hlt : k < F.length
    · obtain ⟨b1, o1, rfl, hb1, hc1⟩ := (hF.out.below hB0.out) (by omega)
      have e1 := hc1 k hlt
      have e0 : Hid (0 < k → wa.cell? ⟨b1, o1 + (k - 1), none⟩ = some (.int .i64 (F[k - 1]'(by omega)))) := fun h => hc1 (k - 1) (by omega)
      have hNk := Lib.hid (hNB.out k hlt)
      have hIk : Hid (LstAt s.ps.length F k hlt → ∀ j (h : j < F.length), j < k + 1 → LstAt s.ps.length F j h) := fun h j h1 h3 => by
        by_cases e : j = k
        · subst e; exact h
        · exact hI.out j h1 (by omega)
      have hLA : Hid (LstAt s.ps.length F k hlt ↔ (0 ≤ F[k] ∧ F[k] < s.ps.length) ∧ (0 < k → F[k - 1]'(by omega) < F[k])) := Iff.rfl
      obtain ⟨x, hx⟩ : ∃ x, x = F[k] := ⟨_, rfl⟩
      rw [← hx] at e1 hLA
      have j0 : (0 : Int) ≤ (k : Int) := by omega
      have j1 : (k : Int) < (F.length : Int) := by omega
      clear hc1 hI hx
      have hcl : x < 0 ∨ (0 ≤ x ∧ (s.ps.length : Int) ≤ x) ∨ (0 ≤ x ∧ x < s.ps.length) := by omega
      rcases hcl with h1 | ⟨h1, h2⟩ | ⟨h1, h2⟩
      · have hG := Lib.hid (hNk.out fun h => by have := (hLA.out.1 h).1.1; omega)
        have m1 : decide (x < 0) = true := decide_eq_true h1
        go_wp2
        go_ret2
        exact hBad.out _ _ (fun h => by rw [hG.out] at h; cases h.2) rfl hB0.out
      · have hG := Lib.hid (hNk.out fun h => by have := (hLA.out.1 h).1.2; omega)
        have m1 : decide (x < 0) = false := decide_eq_false (by omega)
        have m2 : decide ((s.ps.length : Int) ≤ x) = true := decide_eq_true h2
        go_wp2
        go_ret2
        exact hBad.out _ _ (fun h => by rw [hG.out] at h; cases h.2) rfl hB0.out
      · have m1 : decide (x < 0) = false := decide_eq_false (by omega)
        have m2 : decide ((s.ps.length : Int) ≤ x) = false := decide_eq_false (by omega)
        by_cases hk0 : k = 0
        · have m3 : decide (0 < (k : Int)) = false := decide_eq_false (by omega)
          have m4 : decide (0 < k) = false := decide_eq_false (by omega)
          have hI2 := Lib.hid (hIk.out (hLA.out.2 ⟨⟨h1, h2⟩, fun h => by omega⟩))
          replace hk0 := Lib.hid hk0
          go_wp2
          go_round
          case rel => exact ⟨k + 1, by omega, by go_num, hI2⟩
          case measure => simp [intOf]; omega
        · have m3 : decide (0 < (k : Int)) = true := decide_eq_true (by omega)
          have m4 : decide (0 < k) = true := decide_eq_true (by omega)
          have e2 := e0.out (by omega)
          obtain ⟨y, hy⟩ : ∃ y, y = F[k - 1]'(by omega) := ⟨_, rfl⟩
          rw [← hy] at e2
          have j2 : (0 : Int) ≤ (k : Int) - 1 := by omega
          have j3 : (k : Int) - 1 < (F.length : Int) := by omega
          have j4 : IntKind.i64.wrap ((k : Int) - 1) = (k : Int) - 1 := IntWalk.i64_in _ (by omega)
          have j5 : ((k : Int) - 1).toNat = k - 1 := by omega
          by_cases hxy : y < x
          · have m5 : decide (x ≤ y) = false := decide_eq_false (by omega)
            have hI2 := Lib.hid (hIk.out (hLA.out.2 ⟨⟨h1, h2⟩, fun _ => by rw [← hy]; exact hxy⟩))
            replace hy := Lib.hid hy
            go_wp2
            go_round
            case rel => exact ⟨k + 1, by omega, by go_num, hI2⟩
            case measure => simp [intOf]; omega
          · have m5 : decide (x ≤ y) = true := decide_eq_true (by omega)
            have hG := Lib.hid (hNk.out fun h => by have h3 := (hLA.out.1 h).2 (by omega); rw [← hy] at h3; omega)
            replace hy := Lib.hid hy
            go_wp2
            go_ret2
            exact hBad.out _ _ (fun h => by rw [hG.out] at h; cases h.2) rfl hB0.out
    · obtain rfl : k = F.length := by omega
      have hL := Lib.hid (hNA.out fun j h => hI.out j h h)
      clear hNB hNA hI
      have u0 := hX0.out.cell (j := 0) rfl
      have u1 := hX0.out.cell (j := 1) rfl
      have u2 := hX0.out.cell (j := 2) rfl
      have u9 := hX0.out.lt
      have ks := Sound_any s Ap Ac Av cp cc cv wa (hE.out.below hB0.out) (hs.out.below hB0.out)
      cases hsd : soundB s with
      | false =>
        rw [hsd] at ks
        replace ks := Lib.hid ks
        replace hsd := Lib.hid hsd
        go_wp2_with fail
        refine ks.out.mono ?_
        rintro e w2 ⟨rfl, hb⟩
        have hB2 := Lib.hid (hB0.out.trans (hb.mono hB0.out.size))
        clear hb
        go_wp2
        go_ret2
        exact hBad.out _ _ (fun h => by rw [hsd.out] at h; cases h.1) rfl hB2.out
      | true =>
        rw [hsd] at ks
        replace ks := Lib.hid ks
        have hn60 : s.ps.length ≤ 60 := by
          unfold soundB at hsd
          simp only [Bool.and_eq_true, decide_eq_true_eq] at hsd
          exact hsd.2.1
        have hin : Hid (∀ x, x ∈ s.cap → (0 ≤ x.1 ∧ x.1 < s.ps.length) ∧ (0 ≤ x.2.1 ∧ x.2.1 < s.ps.length)) := fun x hx => by
          unfold soundB at hsd
          simp only [Bool.and_eq_true] at hsd
          obtain ⟨i, hi, rfl⟩ := List.getElem_of_mem hx
          exact ⟨(good_at hsd.2.2.1 hi).1.1, (good_at hsd.2.2.1 hi).1.2.1⟩
        have hin2 := Lib.hid (edges_in hsd)
        have hGood : Hid (∀ e w' b, e = .returned (.tuple #[.slice (some ⟨b, 0, none⟩) s.ps.length s.ps.length, .int .i64 0]) → w.heap.size ≤ b → RoI w' b s.ps.length (rk (edges s) (toN F)) → Below w.heap.size w w' → RkPost s F w e w') := fun e w' b h1 h2 h3 h4 => ⟨by rw [if_pos ⟨hsd, hL.out⟩]; exact ⟨b, h1, h2, h3⟩, h4⟩
        replace hsd := Lib.hid hsd
        clear hBad
        go_wp2_with fail
        refine ks.out.mono ?_
        rintro e w2 ⟨rfl, hb⟩
        have hB2 := Lib.hid (hB0.out.trans (hb.mono hB0.out.size))
        have hX2 := Lib.hid (hX0.out.below hb)
        clear hb ks u0 u1 u2 u9 hB0 hX0
        have kr := Lib.hid (Repeat_any s.ps.length w2.heap.size (w2.alloc (.cells #[.int .i64 (-1)] 3)) (by omega) (head1 w2 _ _) (by simp))
        have hB2a : Hid (Below w.heap.size w (w2.alloc (.cells #[.int .i64 (-1)] 3))) := hB2.out.alloc hB2.out.size _
        have hX2a := Lib.hid (hX2.out.alloc (.cells #[.int .i64 (-1)] 3))
        obtain ⟨b0, hb0⟩ : ∃ b, b = (w2.alloc (.cells #[.int .i64 (-1)] 3)).heap.size := ⟨_, rfl⟩
        rw [← hb0] at kr
        have hw0 : w.heap.size < b0 := by have := hX2a.out.lt; omega
        go_wp2_with fail
        refine kr.out.mono ?_
        rintro e w3 ⟨⟨rfl, hrow⟩, hb⟩
        have hB3 := Lib.hid (hB2a.out.trans (hb.mono (by have := hB2a.out.size; omega)))
        have hX3 := Lib.hid (hX2a.out.below (by rw [← hb0]; exact hb))
        have hR3 : Hid (RoI w3 b0 s.ps.length (ini (toN F) 0)) := (RoI.of_row hrow).congr fun x _ => by unfold ini; rw [List.take_zero, if_neg (by simp)]
        clear hb kr hb0 hrow hB2 hX2 hB2a hX2a
        go_wp2
        go_loopw [56] (fun i wr => ∃ (k : Nat) (o : Nat → Int), k ≤ F.length ∧ i = .int .i64 (k : Int) ∧ Hid (Kp [b0] w3 wr) ∧ Hid (RoI wr b0 s.ps.length o) ∧ Hid (∀ x, o x = ini (toN F) k x)) (fun i _ => F.length - (intOf i).toNat)
        case atStart => exact ⟨0, _, Nat.zero_le _, rfl, Kp.refl _ _, hR3, fun _ => rfl⟩
        case round =>
          obtain ⟨k, o, hk, rfl, hK, hR, ho⟩ := hrel
          clear hR3
          have hBk : Hid (Below w.heap.size w wr) := hK.out.to_below hB3.out fun x hx => by rw [List.mem_singleton.1 hx]; omega
          by_cases hlt : k < F.length
          · obtain ⟨p, hp1, hp2, hp3⟩ := toN_at hL.out hlt
            obtain ⟨b1, o1, rfl, hb1, hc1⟩ := (hF.out.below hBk.out) (by omega)
            have e1 := hc1 k hlt
            rw [hp1] at e1
            have hpn : p < s.ps.length := by omega
            have e2 := hR.out.cell p hpn
            have e3 := hR.out.fr p
            have hR2 := Lib.hid (hR.out.set hpn 0)
            have hK2 := Lib.hid (hK.out.set (a := ⟨b0, p, none⟩) (.int .i64 0) (.inl (List.mem_singleton.2 rfl)))
            have ho2 : Hid (∀ x, setI o p 0 x = ini (toN F) (k + 1) x) := fun x => by
              rw [← ini_succ hp3 x]
              unfold setI
              rw [ho.out x]
            have j0 : (0 : Int) ≤ (k : Int) := by omega
            have j1 : (k : Int) < (F.length : Int) := by omega
            have j2 : (0 : Int) ≤ (p : Int) := by omega
            clear hc1 hp1 hp3
            go_wp2
            exact ⟨⟨k + 1, _, by omega, by go_num, hK2, hR2, ho2⟩, by simp only [intOf]; omega⟩
          · obtain rfl : k = F.length := by omega
            have hX4 := Lib.hid (hX3.out.kp hK.out (by simp; omega))
            have ho3 : Hid (∀ x, o x = if x ∈ toN F then 0 else -1) := fun x => by
              rw [ho.out x, ← ini_all]
              have : (toN F).length = F.length := by simp [toN]
              rw [this]
            have u0 := hX4.out.cell (j := 0) rfl
            have u1 := hX4.out.cell (j := 1) rfl
            have u2 := hX4.out.cell (j := 2) rfl
            have u9 := hX4.out.lt
            have ko := Lib.hid (of_any s Ap Ac Av cp cc cv wr (hs.out.below hBk.out) (by omega) hc3 hin.out)
            have hF4 := Lib.hid (hF.out.below hBk.out)
            clear ho hK hX3 hB3 hF
            go_wp2_with fail
            refine ko.out.mono ?_
            rintro e w4 ⟨⟨R, v, rfl, hG⟩, hb⟩
            have hsz4 := hb.size
            have hB4 : Hid (Below w.heap.size w w4) := hBk.out.trans (hb.mono hBk.out.size)
            have hR4 := Lib.hid (hR.out.below hb)
            have hb0r : b0 < w4.heap.size := hR4.out.lt
            have hFn : F.length ≤ 1000 := by
              have h1 := nodup_len s.ps.length (toN F) (toN_nodup hL.out) fun x hx => toN_in hL.out hx
              have h2 : (toN F).length = F.length := by simp [toN]
              omega
            have hF5 := Lib.hid (hF4.out.below hb)
            have kc := Lib.hid (Clone_any Af cf F w4 hF5.out (fun x hx => by
              obtain ⟨i, hi, rfl⟩ := List.getElem_of_mem hx
              exact (lst_at hL.out hi).1.1) hFn)
            have hGb : Hid (b0 ≠ R ∧ ∀ i b, i < s.ps.length → (v i).ownBlock = some b → b ∉ [b0]) := by
              have h1 := hR.out.lt
              have h2 := hG.lowR
              refine ⟨by omega, fun i b hi e hm => ?_⟩
              have h3 := ((hG.rows i hi).lt b e).1
              rw [List.mem_singleton.1 hm] at h3
              omega
            have hlR := hG.lt
            replace hG := Lib.hid hG
            have hbf := Lib.hid (Bf.start (E := edges s) (toN_nodup hL.out) (fun f hf => toN_in hL.out hf) fun x _ => ho3.out x)
            have hbd := Lib.hid (Bd.start (n := s.ps.length) ho3.out)
            have hadj : Hid (∀ p q, q ∈ adjO (edges s) (edges s).length p ↔ (p, q) ∈ edges s) := fun _ _ => mem_adjO
            have hal : Hid (∀ p, (adjO (edges s) (edges s).length p).length ≤ 300) := fun p => by
              unfold adjO
              rw [List.length_map]
              have h1 := List.length_filter_le (fun x : Nat × Nat => decide (x.1 = p)) ((edges s).take (edges s).length)
              have h2 : ((edges s).take (edges s).length).length ≤ (edges s).length := List.length_take_le' _ _
              have h3 : (edges s).length = s.cap.length := by simp [edges]
              omega
            obtain ⟨adj, hadj0⟩ : ∃ a, a = adjO (edges s) (edges s).length := ⟨_, rfl⟩
            rw [← hadj0] at hG hadj hal
            have hEnd : Hid (∀ f, f ∈ toN F → f < s.ps.length) := fun f hf => toN_in hL.out hf
            obtain ⟨i0, hi0, hzz⟩ := Option.map_eq_some_iff.1 infoIr
            simp only [Prod.mk.injEq] at hzz
            obtain ⟨hz0, hz1, hz2⟩ := hzz
            replace hi0 := Lib.hid hi0
            replace hz0 := Lib.hid hz0
            replace hz1 := Lib.hid hz1
            replace hz2 := Lib.hid hz2
            clear hb ko hR hBk u0 u1 u2 u9 hX4 hadj0 ho3 hF4 hF5 hin
            go_wp2_with fail
            refine kc.out.mono ?_
            rintro e w5 ⟨⟨vq, rfl, hQ⟩, hb⟩
            have hK5 := Lib.hid ((Kp.refl [b0] w4).below hb)
            have hR5 := Lib.hid (hR4.out.below hb)
            replace hQ := Lib.hid hQ
            clear hb kc hR4
            go_wp2
            go_loopg [13] ((toN F).length + negs s.ps.length o) (fun m u wr => ∃ (o : Nat → Int) (queue : List Nat), m = queue.length + negs s.ps.length o ∧ Hid (QIn wr w4.heap.size u queue) ∧ Hid (Kp [b0] w4 wr) ∧ Hid (RoI wr b0 s.ps.length o) ∧ Hid (Bf s.ps.length (edges s) (toN F) (fun _ => False) o queue) ∧ Hid (Bd s.ps.length o))
            case atStart => exact ⟨_, _, rfl, hQ, hK5, hR5, hbf, hbd⟩
            case round =>
              clear hQ hK5 hR5 hbf hbd
              obtain ⟨o1, queue, hm, hQ, hK, hR, hbf, hbd⟩ := hrel
              cases queue with
              | nil =>
                obtain ⟨A, c, rfl⟩ := hQ.out.form
                have hRk : Hid (RoI wr b0 s.ps.length (rk (edges s) (toN F))) := hR.out.congr fun x hx => hbf.out.end hEnd.out hin2.out hx
                have hBr : Hid (Below w.heap.size w wr) := hK.out.to_below hB4.out fun x hx => by rw [List.mem_singleton.1 hx]; omega
                clear hQ hm
                go_wp2
                go_ret2
                exact hGood.out _ _ b0 rfl (by omega) hRk.out hBr.out
              | cons p queue =>
                obtain ⟨g, of, cap, rfl, _, _, hcap, hcell, _⟩ := hQ.out.head
                have hpn := (hbf.out.pos p (List.mem_cons_self ..)).1
                have hGw := hG.out.kp hK.out (by simp; exact fun e => hGb.out.1 e.symm) hGb.out.2
                have d1 := hGw.hd p hpn
                have hlRw := hGw.lt
                obtain ⟨A, cr, hvp, hrow⟩ := own_in (hG.out.rows p hpn)
                rw [hvp] at d1
                have hBq := Lib.hid (Bq.start hbf.out)
                have hm2 : Hid (queue.length + negs s.ps.length o1 < gk) := by rw [hm]; simp only [List.length_cons]; unfold Hid; omega
                have hall := Lib.hid (fun q (h : (p, q) ∈ edges s) => (hadj.out p q).2 h)
                have hins := Lib.hid (fun q (h : q ∈ adj p) => (hadj.out p q).1 h)
                have halp := hal.out p
                have hgr : Hid (∀ j (hj : j < (adj p).length), ∃ gg, A = some ⟨gg, 0, none⟩ ∧ gg < w4.heap.size ∧ gg ∉ [b0] ∧ w4.cell? ⟨gg, j, none⟩ = some (.int .i64 ((adj p)[j] : Int))) := fun j hj => by
                  obtain ⟨gg, hA, h1, h2⟩ := hrow j hj
                  exact ⟨gg, hA, h1, hGb.out.2 p gg hpn (by rw [hvp, hA]; rfl), h2⟩
                have p0 : (0 : Int) ≤ (p : Int) := by omega
                have p1 : (p : Int) < (s.ps.length : Int) := by omega
                have q0 : (0 : Int) < (queue.length : Int) + 1 := by omega
                clear hGw hvp hrow hm hbf
                go_wp2
                go_loopw [13, 81] (fun u ix wz => ∃ (j : Nat) (o2 : Nat → Int) (q2 : List Nat) (A2 : Option Addr) (c2 : Nat), j ≤ (adj p).length ∧ u = .slice A2 (q2.length + 1) c2 ∧ ix = .int .i64 (j : Int) ∧ Hid (QIn wz w4.heap.size (.slice A2 (q2.length + 1) c2) (p :: q2)) ∧ Hid (Kp [b0] w4 wz) ∧ Hid (RoI wz b0 s.ps.length o2) ∧ Hid (Bq s.ps.length (edges s) (toN F) p (o1 p) ((adj p).take j) o2 q2) ∧ Hid (Bd s.ps.length o2) ∧ Hid (q2.length + negs s.ps.length o2 ≤ queue.length + negs s.ps.length o1)) (fun _ ix _ => (adj p).length - (intOf ix).toNat)
                case atStart => exact ⟨0, o1, queue, _, _, Nat.zero_le _, rfl, rfl, hQ, hK, hR, hBq, hbd, Nat.le_refl _⟩
                case round =>
                  clear hQ hK hR hBq hbd
                  obtain ⟨j, o2, q2, A2, c2, hj, rfl, rfl, hQ, hK, hR, hBq, hbd, hme⟩ := hrel
                  by_cases hjl : j < (adj p).length
                  · obtain ⟨gg, rfl, hgl, hgx, hgc⟩ := hgr.out j hjl
                    have e1 := (World.cell?_of_block (a := ⟨gg, j, none⟩) (hK.out.block gg hgl hgx)).trans hgc
                    have hpq := hins.out _ (List.getElem_mem hjl)
                    have htk : (adj p).take (j + 1) = (adj p).take j ++ [(adj p)[j]] := List.take_succ_eq_append_getElem hjl
                    obtain ⟨q, hqe⟩ : ∃ x, x = (adj p)[j] := ⟨_, rfl⟩
                    rw [← hqe] at e1 hpq htk
                    have hqn : q < s.ps.length := (hin2.out _ hpq).2
                    have e2 := hR.out.cell q hqn
                    have j0 : (0 : Int) ≤ (j : Int) := by omega
                    have j1 : (j : Int) < ((adj p).length : Int) := by omega
                    have j2 : (0 : Int) ≤ (q : Int) := by omega
                    have j3 : (q : Int) < (s.ps.length : Int) := by omega
                    clear hqe hgc hgr
                    by_cases hneg : o2 q < 0
                    · have m1 : decide (o2 q < 0) = true := decide_eq_true hneg
                      have hpn2 := hBq.out.here
                      have hcur := hBq.out.cur
                      have hv0 := hBq.out.v0
                      have e3 := hR.out.cell p hpn2
                      have e4 := hR.out.fr q
                      have hbdp := hbd.out p hpn2
                      have jw : IntKind.i64.wrap (o2 p + 1) = o2 p + 1 := IntWalk.i64_in _ (by omega)
                      have hR2 := Lib.hid (hR.out.set hqn (o2 p + 1))
                      have hK2 := Lib.hid (hK.out.set (a := ⟨b0, q, none⟩) (.int .i64 (o2 p + 1)) (.inl (List.mem_singleton.2 rfl)))
                      have hqb : (Value.slice A2 (q2.length + 1) c2).ownBlock ≠ some b0 := fun e => by have := (hQ.out.block e).1; omega
                      have hQ2 := Lib.hid (hQ.out.set (a := ⟨b0, q, none⟩) hqb (.int .i64 (o2 p + 1)))
                      have hBq2 : Hid (Bq s.ps.length (edges s) (toN F) p (o1 p) ((adj p).take (j + 1)) (setI o2 q (o2 p + 1)) (q2 ++ [q])) := by
                        rw [hcur, htk]
                        exact hBq.out.set hqn hpq hneg
                      have hbd2 := Lib.hid (hbd.out.set hpn2 hqn hneg (by omega))
                      have hng := negs_set hqn hneg (v := o2 p + 1) (by omega)
                      have hme2 : Hid ((q2 ++ [q]).length + negs s.ps.length (setI o2 q (o2 p + 1)) ≤ queue.length + negs s.ps.length o1) := by
                        have h := hme.out
                        unfold Hid
                        rw [List.length_append, List.length_singleton]
                        omega
                      have hQ3 := Lib.hid (hQ2.out.alloc (.cells #[.int .i64 (q : Int)] 3))
                      have hR3 := Lib.hid (hR2.out.alloc (.cells #[.int .i64 (q : Int)] 3))
                      have hK3 := Lib.hid (hK2.out.alloc (.cells #[.int .i64 (q : Int)] 3))
                      have hsz1 : w4.heap.size ≤ ((wr.setCell ⟨b0, q, none⟩ (.int .i64 (o2 p + 1))).alloc (.cells #[.int .i64 (q : Int)] 3)).heap.size := hK3.out.size
                      have hlen : (p :: q2).length + 1 ≤ 400 := by
                        have h1 := nodup_len s.ps.length (p :: q2) (List.nodup_cons.2 ⟨hBq.out.off, hBq.out.inv.nodup⟩) fun x hx => by
                          rcases List.mem_cons.1 hx with rfl | hx
                          · exact hpn2
                          · exact (hBq.out.inv.pos x hx).1
                        omega
                      replace hlen := Lib.hid hlen
                      replace hsz1 := Lib.hid hsz1
                      have hbb : Hid (∀ b, (Value.slice A2 (q2.length + 1) c2).ownBlock = some b → b ∈ [b0] ∨ w4.heap.size ≤ b) := fun b e => .inr (hQ.out.block e).1
                      have hqb' := Lib.hid hqb
                      clear hR hK hQ hbdp hcur hv0 hng hqb hneg
                      have had : Hid (((wr.setCell ⟨b0, q, none⟩ (.int .i64 (o2 p + 1))).alloc (.cells #[.int .i64 (q : Int)] 3)).cell? ⟨wr.heap.size, 0, none⟩ = some (.int .i64 (q : Int))) := by
                        have h := head1 (wr.setCell ⟨b0, q, none⟩ (.int .i64 (o2 p + 1))) (.int .i64 (q : Int)) 3
                        rwa [World.size_setCell] at h
                      go_wp2_with (at_builtin; refine wpList_append_queue _ rfl _ _ 26 rfl w4.heap.size 3 i0 (.int .i64 0) 8 Tryz.underlying26 hi0.out hz0.out hz1.out hz2.out rfl (.slice A2 (q2.length + 1) c2) (p :: q2) q rfl hQ3.out hsz1.out ⟨wr.heap.size, 0, none⟩ 1 rfl had.out (by have := hlen.out; omega) (by have := hlen.out; unfold maxLen; omega) ?_; intro vb wb hqq hgb hnb; have hK9 := Lib.hid (hK3.out.grown hgb hbb.out); have hR9 := Lib.hid (hR3.out.grown hgb hqb'.out); obtain ⟨A9, c9, rfl⟩ := hqq.form; replace hqq := Lib.hid hqq; clear hgb hnb)
                      exact ⟨⟨j + 1, _, q2 ++ [q], A9, c9, by omega, by rw [List.length_append, List.length_singleton], by go_num, by have h := hqq.out; unfold Hid; simpa using h, hK9, hR9, hBq2, hbd2, hme2⟩, by simp only [intOf]; omega⟩
                    · have m1 : decide (o2 q < 0) = false := decide_eq_false hneg
                      have hBq2 := Lib.hid (hBq.out.skip hqn (by omega))
                      rw [← htk] at hBq2
                      clear htk hpq
                      go_wp2
                      exact ⟨⟨j + 1, o2, q2, _, _, by omega, rfl, by go_num, hQ, hK, hR, hBq2, hbd, hme⟩, by simp only [intOf]; omega⟩
                  · obtain rfl : j = (adj p).length := by omega
                    have hbf := Lib.hid (hBq.out.end fun q hq => by rw [List.take_length]; exact hall.out q hq)
                    obtain ⟨g9, o9, c9, he, _, _, hc9, _, hq9⟩ := hQ.out.head
                    injection he with he1 _ he3
                    subst he1 he3
                    have hm3 : q2.length + negs s.ps.length o2 < gk := Nat.lt_of_le_of_lt hme.out hm2.out
                    have z1 : (1 : Int) ≤ (q2.length : Int) + 1 := by omega
                    have z2 : (q2.length : Int) + 1 ≤ (c2 : Int) := by omega
                    replace hbd := Lib.hid hbd.out
                    clear hBq hQ hme hm2 hall hins hgr
                    by_cases hc1 : c2 = 1
                    · subst hc1
                      have h0 : q2 = [] := List.length_eq_zero_iff.1 (by omega)
                      subst h0
                      rw [if_pos rfl] at hq9
                      replace hq9 : Hid (QIn wr w4.heap.size (.slice (some ⟨g9, o9, none⟩) 0 0) []) := hq9
                      go_wp2
                      go_roundg (negs s.ps.length o2)
                      case measure => simpa using hm3
                      case rel => exact ⟨o2, [], by simp, hq9, hK, hR, hbf, hbd⟩
                    · rw [if_neg hc1] at hq9
                      replace hq9 := Lib.hid hq9
                      go_wp2
                      go_roundg (q2.length + negs s.ps.length o2)
                      case measure => exact hm3
                      case rel => exact ⟨o2, q2, rfl, hq9, hK, hR, hbf, hbd⟩
end Ci
end Go.Proofs.YtmekiidknjjfcaaGreatDoor

namespace Go.Proofs.YtmekiidknjjfcaaGreatDoor
open Go.RowKit Go.Shelf
namespace Ci
open Nt
open Classical

/-- While the components are gathered. -/
structure P1 (E : List (Nat × Nat)) (n : Nat) (w0 : World) (S p q : Nat) (v : Nat → Value) (F : Nat → Int) (wr : World) : Prop where
  kp : Kp [S, S + 1, S + 1 + 1] w0 wr
  lm : LM wr w0.heap.size S n (cQ E p q) v (lsQ E n p q)
  pl : ∃ c f, MapK Tryz.prog 3 κi wr (S + 1 + 1) c f ∧ c ≤ 1000 * p + q ∧ ∀ x : Nat, x < n → f (x : Int) = if PL E p q x then some (.bool true) else none
  ro : RoI wr (S + 1) n F
  fs : ∀ x, x < n → PL E p q x → F x = (fst E x : Int)
section
variable {E : List (Nat × Nat)} {n p q S : Nat} {w0 wr w' : World} {v : Nat → Value} {F : Nat → Int}
theorem LM.congr {w : World} {B mb c c' : Nat} {ls ls' : Nat → List Nat} (h : LM w B mb n c v ls) (e : ∀ x, ls x = ls' x) (ec : c = c') : LM w B mb n c' v ls' := by
  obtain rfl : ls = ls' := funext e
  subst ec
  exact h
theorem P1.below (h : P1 E n w0 S p q v F wr) (hb : Below wr.heap.size wr w') : P1 E n w0 S p q v F w' := by
  obtain ⟨c, f, h1, h2⟩ := h.pl
  exact ⟨h.kp.below hb, h.lm.below hb, ⟨c, f, h1.below hb, h2⟩, h.ro.below hb, h.fs⟩
theorem P1.had (h : P1 E n w0 S p 0 v F wr) (hp : fst E p ≠ p) : P1 E n w0 S (p + 1) 0 v F wr := by
  obtain ⟨c, f, h1, h2, h3⟩ := h.pl
  refine ⟨h.kp, h.lm.congr (fun x => ?_) ?_, ⟨c, f, h1, by omega, fun x hx => ?_⟩, h.ro, fun x hx hP => h.fs x hx ((PL_had hp).1 hP)⟩
  · rw [lsQ_zero, lsQ_zero, lsO_had hp]
  · rw [cQ_zero, cQ_zero, cO_succ, if_neg hp]
  · rw [h3 x hx]
    by_cases e : PL E p 0 x
    · rw [if_pos e, if_pos ((PL_had hp).2 e)]
    · rw [if_neg e, if_neg fun c => e ((PL_had hp).1 c)]
theorem P1.next (h : P1 E n w0 S p n v F wr) (hp : fst E p = p) (hpn : p < n) (hn : n ≤ 1000) : P1 E n w0 S (p + 1) 0 v F wr := by
  obtain ⟨c, f, h1, h2, h3⟩ := h.pl
  refine ⟨h.kp, h.lm.congr (fun x => ?_) ?_, ⟨c, f, h1, by omega, fun x hx => ?_⟩, h.ro, fun x hx hP => h.fs x hx ((PL_next hp hx).1 hP)⟩
  · rw [lsQ_zero, lsO_next hp]
  · rw [cQ_zero, cO_next hp hpn]
  · rw [h3 x hx]
    by_cases e : PL E p n x
    · rw [if_pos e, if_pos ((PL_next hp hx).2 e)]
    · rw [if_neg e, if_neg fun c => e ((PL_next hp hx).1 c)]
theorem P1.skip (h : P1 E n w0 S p q v F wr) (hm : ¬ Mut E p q) : P1 E n w0 S p (q + 1) v F wr := by
  obtain ⟨c, f, h1, h2, h3⟩ := h.pl
  refine ⟨h.kp, h.lm.congr (fun x => (lsQ_skip hm).symm) (cQ_skip hm).symm, ⟨c, f, h1, by omega, fun x hx => ?_⟩, h.ro, fun x hx hP => h.fs x hx ((PL_skip hm).1 hP)⟩
  rw [h3 x hx]
  by_cases e : PL E p q x
  · rw [if_pos e, if_pos ((PL_skip hm).2 e)]
  · rw [if_neg e, if_neg fun c => e ((PL_skip hm).1 c)]
theorem ReachM.below {mb : Nat} {w : World} (h : ReachM w n mb E p) (hb : Below w.heap.size w w') : ReachM w' n mb E p := by
  obtain ⟨c, f, h1, h3⟩ := h
  exact ⟨c, f, h1.below hb, h3⟩
theorem ReachM.kp {mb : Nat} {xs : List Nat} {w : World} (h : ReachM w n mb E p) (hk : Kp xs w w') (hm : mb ∉ xs) : ReachM w' n mb E p := by
  obtain ⟨c, f, h1, h3⟩ := h
  exact ⟨c, f, h1.kp hk hm, h3⟩
theorem P1.start (E : List (Nat × Nat)) (n : Nat) (wS : World) (t : TypeId) :
    P1 E n (((wS.alloc (.map #[] 0)).alloc (.cells (madeCells #[.int .i64 0] n) t)).alloc (.map #[] 0)) wS.heap.size 0 0 (fun _ => .slice none 0 0) (fun _ => 0) (((wS.alloc (.map #[] 0)).alloc (.cells (madeCells #[.int .i64 0] n) t)).alloc (.map #[] 0)) := by
  have s1 : (wS.alloc (.map #[] 0)).heap.size = wS.heap.size + 1 := by simp
  have s2 : ((wS.alloc (.map #[] 0)).alloc (.cells (madeCells #[.int .i64 0] n) t)).heap.size = wS.heap.size + 1 + 1 := by simp
  have hR := (RoI.made (wS.alloc (.map #[] 0)) n t).alloc (.map #[] 0)
  rw [s1] at hR
  have hM := MapK.made ((wS.alloc (.map #[] 0)).alloc (.cells (madeCells #[.int .i64 0] n) t)) Tryz.prog 3 κi
  rw [s2] at hM
  refine ⟨Kp.refl _ _, (((LM.made wS _ n).alloc _).alloc _).congr (fun x => ?_) ?_, ⟨0, _, hM, Nat.zero_le _, fun x _ => ?_⟩, hR, fun x _ hP => ?_⟩
  · rw [lsQ_zero]
    unfold lsO
    rw [if_neg (by omega)]
  · rw [cQ_zero]; rfl
  · rw [if_neg fun c => by have := PL_zero.1 c; omega]
  · have := PL_zero.1 hP; omega
end
/-- While the components are put in order. -/
structure P2 (E : List (Nat × Nat)) (n : Nat) (w7 : World) (S : Nat) (v : Nat → Value) (pre left : List Nat) (vo : Value) (wr : World) : Prop where
  st : Stage n E pre left
  kp : Kp [S] w7 wr
  mp : ∃ f, MapK Tryz.prog 3 κi wr S left.length f ∧ ∀ x : Nat, x < n → f (x : Int) = if x ∈ left then some (v x) else none
  out : wr.ownsRow w7.heap.size 26 1 vo pre.length (pre.map v)
section
variable {E : List (Nat × Nat)} {n p q S : Nat} {w0 w7 wr w' : World} {v : Nat → Value} {F : Nat → Int} {pre left : List Nat} {vo : Value}
theorem P2.start (h : P1 E n w0 S n 0 v F w7) (hE : InN n E) : P2 E n w7 S v [] (leasts n E) (.slice none 0 0) w7 := by
  obtain ⟨f, h1, h2⟩ := h.lm.map
  rw [cQ_zero, cO_all] at h1
  refine ⟨Stage.start hE, Kp.refl _ _, ⟨f, h1, fun x hx => ?_⟩, World.ownsRow_nil _ _ _ _⟩
  rw [h2 x hx, lsQ_zero, lsO_all hx]
  by_cases e : x ∈ leasts n E
  · rw [if_pos e, if_pos e, if_neg (comp_ne hx)]
  · rw [if_neg e, if_neg e, if_pos rfl]
theorem P2.pre_nodup (h : P2 E n w7 S v pre left vo wr) (hE : InN n E) : pre.Nodup := by
  have h1 := ords_nodup hE
  rw [h.st.eq] at h1
  exact (List.nodup_append.1 h1).1
def slA : Value → Option Addr
  | .slice a _ _ => a
  | _ => none
def slC : Value → Nat
  | .slice _ _ c => c
  | _ => 0
/-- The components found, as they lie. -/
noncomputable def outL (E : List (Nat × Nat)) (n : Nat) (v : Nat → Value) (pre : List Nat) : List (Option Addr × Nat × List Int) := pre.map fun p => (slA (v p), slC (v p), (comp n E p).map fun (q : Nat) => (q : Int))
theorem bare_outL : bare (outL E n v pre) = pre.map fun p => (comp n E p).map fun (q : Nat) => (q : Int) := by
  unfold bare outL
  rw [List.map_map]; rfl
theorem own_inInt {W : World} {base : Nat} {e : TypeId} {u : Value} {l : List Nat} (h : W.ownsRow base e 1 u l.length (intsL l)) : u = .slice (slA u) l.length (slC u) ∧ InInt W (slA u) (l.map fun (q : Nat) => (q : Int)) := by
  rcases own_ints h with ⟨rfl, rfl⟩ | ⟨g, cap, rfl, _, h1, _, h2⟩
  · exact ⟨rfl, fun h => absurd h (by simp)⟩
  · refine ⟨rfl, fun _ => ⟨g, 0, rfl, h1, fun j hj => ?_⟩⟩
    have hj2 : j < l.length := by simpa using hj
    rw [Nat.zero_add, h2 j hj2]
    simp
theorem inLs_out {W : World} {base base2 c : Nat} {A : Option Addr} (hn : n ≤ 1000) (h : W.ownsRow base 26 1 (.slice A pre.length c) pre.length (pre.map v)) (hr : ∀ p, p ∈ pre → W.ownsRow base2 3 1 (v p) (comp n E p).length (intsL (comp n E p))) : InLs W A (outL E n v pre) := fun h0 => by
  have hl : (outL E n v pre).length = pre.length := by simp [outL]
  rw [hl] at h0
  rcases h.2 with ⟨_, h1⟩ | ⟨g, cap, cur, e, hb, hg, _⟩
  · omega
  · injection e with e1 _ _
    subst e1
    refine ⟨g, 0, rfl, (Array.getElem?_eq_some_iff.1 hg).1, fun j hj => ?_⟩
    have hj2 : j < pre.length := by omega
    have hc := h.cells (g := g) (by simp [Value.ownBlock]) j (v pre[j]) (by simp [hj2])
    rw [Addr.add_lit] at hc
    have hrj := own_inInt (hr pre[j] (List.getElem_mem hj2))
    have he : (outL E n v pre)[j] = (slA (v pre[j]), slC (v pre[j]), (comp n E pre[j]).map fun (q : Nat) => (q : Int)) := by simp [outL]
    rw [he]
    refine ⟨?_, hrj.2, ?_⟩
    · rw [hc]
      simp only [List.length_map]
      rw [← hrj.1]
    · simp only [List.length_map]
      unfold comp
      have h := List.length_filter_le (fun q => decide (Mut E pre[j] q)) (List.range n)
      rw [List.length_range] at h
      omega
end
end Ci
end Go.Proofs.YtmekiidknjjfcaaGreatDoor

namespace Go.Proofs.YtmekiidknjjfcaaGreatDoor
open Go.RowKit Go.Shelf
namespace Ci
open Nt
open Classical

/-- The components as lists of ints. -/
noncomputable def compsI (s : SR) : List (List Int) := (comps s.ps.length (edges s)).map fun l => l.map fun (q : Nat) => (q : Int)
/-- What Components gives. -/
def CmPost (s : SR) (w : World) (e : Ending) (w' : World) : Prop :=
  (if soundB s = true then ∃ A c l, e = .returned (.tuple #[.slice A l.length c, .int .i64 0]) ∧ InLs w' A l ∧ bare l = compsI s
    else e = .returned (.tuple #[.slice none 0 0, .int .i64 1])) ∧ Below w.heap.size w w'
end Ci
end Go.Proofs.YtmekiidknjjfcaaGreatDoor

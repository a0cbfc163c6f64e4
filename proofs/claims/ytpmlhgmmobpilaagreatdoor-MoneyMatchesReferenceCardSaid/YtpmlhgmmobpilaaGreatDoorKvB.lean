/- Texts that the proof needs: NatApi2, NatO, RatPlain, RatBox, CirB, CirC, CirD, NatWrap, RatSum, RatSums, RatProd, RatQ, RatRun, RatOps, RatOf, RatText, RatWrap, CirF, MonRateP, MonNames. -/
import Derived.LaidEql
import Derived.WalkLawsBesides
import Derived.WalkSpells
import Derived.Maps.OwnSet
import Derived.Maps.Views
import Derived.WalkKit
import Derived.IntWalk
import Derived.Deep.RegionHeld3
import Derived.Laws.AppendOwn
import Derived.Deep.OwnRows
import Derived.Maps.AppendAt
import Derived.Laws.EntriesVeiled
import Derived.ArgAppend
import Derived.Test.YtpmlhgmmobpilaaGreatDoorShelf
import Derived.Laws.CopyOwn
import Derived.Deep.RegionLaw
import Derived.Deep.QuietTactic
import Derived.BigQuiet
import Derived.Deep.LoopGhost
import Derived.WalkMore
import Derived.Test.YtpmlhgmmobpilaaGreatDoorCards
import Derived.Test.YtpmlhgmmobpilaaGreatDoorTie
import Derived.ProofKit
import Derived.OpenShut
import Derived.Deep.DeepHandedRow
import Derived.Deep.DeepWitnessRowRef
import Derived.Deep.DeepLaidRun
import Derived.Lib.LaidTab
import Derived.Stop.LaidErr
import Derived.LaidMore
import Derived.LaidSub
import Derived.StillTailTactics
import Derived.Laws.OwnMore
import Derived.Deep.DeepCutAuto
import Derived.Lib.IndexMore
import Derived.Shelf.Vars
import Derived.SizedLaws
import Derived.Lib.SmallJoins
import Derived.DataShut
import Derived.WideKeyArgs
import Derived.Deep.Slices
import Derived.Deep.Strs
import Derived.Test.YtpmlhgmmobpilaaGreatDoorKvA
namespace Go.Proofs.YtpmlhgmmobpilaaGreatDoor
open Go.RowKit Go.Shelf
namespace Nt
def divQ (s t : ByteArray) : ByteArray := if isN s = true ∧ isN t = true ∧ val t ≠ 0 then num (val s / val t) else ⟨#[]⟩
def divR (s t : ByteArray) : ByteArray := if isN s = true ∧ isN t = true ∧ val t ≠ 0 then num (val s % val t) else ⟨#[]⟩
def divE (s t : ByteArray) : Int := if isN s = true ∧ isN t = true then (if val t = 0 then 15 else 0) else 1
def DivPost (s t : ByteArray) (w : World) (e : Ending) (w' : World) : Prop := e = .returned (.tuple #[.string (divQ s t), .string (divR s t), .int .i64 (divE s t)]) ∧ Below w.heap.size w w'
theorem zero_iff {t : ByteArray} (h : isN t = true) : t.toList = [48] ↔ val t = 0 := by
  obtain ⟨n, _, rfl⟩ := num_of_isN h
  rw [val_num, Lib.toList_data]
  constructor
  · intro e
    have h := val_num n
    unfold val at h
    rw [e] at h
    rw [← h]
    rfl
  · intro e
    subst e
    show Lib.decDigits 0 = [48]
    rw [Lib.decDigits_one (by omega)]
    rfl
set_option maxHeartbeats 1000000 in
theorem Div_any (s t : ByteArray) (w : World) (hE : Env w) (hs : s.size ≤ 140737488355328) (ht : t.size ≤ 140737488355328) :
    Calls Tryz.prog 93 #[.string s, .string t] w (DivPost s t w) := by
  have c1 := is_any s w (by omega)
  replace hE := Lib.hid hE
  cases h1 : isN s with
  | false =>
    have HG : Hid (divQ s t = ⟨#[]⟩ ∧ divR s t = ⟨#[]⟩ ∧ divE s t = 1) := by unfold Hid divQ divR divE; simp [h1]
    rw [h1] at c1
    clear h1
    go_enter Tryz.func93, Tryz.ntmps93
    go_wp2_with (go_at_call 65; refine c1.mono ?_; rintro e w1 ⟨rfl, hb1⟩)
    go_ret3
    exact ⟨by rw [HG.out.1, HG.out.2.1, HG.out.2.2]; rfl, hb1⟩
  | true =>
    cases h2 : isN t with
    | false =>
      have HG : Hid (divQ s t = ⟨#[]⟩ ∧ divR s t = ⟨#[]⟩ ∧ divE s t = 1) := by unfold Hid divQ divR divE; simp [h2]
      rw [h1] at c1
      have H2 := Lib.hid h2
      clear h1 h2
      go_enter Tryz.func93, Tryz.ntmps93
      go_wp2_with fail
      refine c1.mono ?_
      rintro e w1 ⟨rfl, hb1⟩
      replace hb1 := Lib.hid hb1
      go_wp2_with fail
      have c2 := is_any t w1 (by omega)
      rw [H2.out] at c2
      refine c2.mono ?_
      rintro e w2 ⟨rfl, hb2⟩
      replace hb2 := Lib.hid hb2
      go_wp2
      go_ret3
      exact ⟨by rw [HG.out.1, HG.out.2.1, HG.out.2.2]; rfl, hb1.out.trans (hb2.out.mono hb1.out.size)⟩
    | true =>
      rw [h1] at c1
      have H1 := Lib.hid h1
      have H2 := Lib.hid h2
      by_cases hz : val t = 0
      · have HG : Hid (divQ s t = ⟨#[]⟩ ∧ divR s t = ⟨#[]⟩ ∧ divE s t = 15) := by unfold Hid divQ divR divE; simp [h1, h2, hz]
        have hb : (t.toList == [48]) = true := by rw [beq_iff_eq]; exact (zero_iff h2).2 hz
        clear h1 h2 hz
        go_enter Tryz.func93, Tryz.ntmps93
        go_wp2_with fail
        refine c1.mono ?_
        rintro e w1 ⟨rfl, hb1⟩
        replace hb1 := Lib.hid hb1
        go_wp2_with fail
        have c2 := is_any t w1 (by omega)
        rw [H2.out] at c2
        refine c2.mono ?_
        rintro e w2 ⟨rfl, hb2⟩
        replace hb2 := Lib.hid hb2
        go_wp2
        go_ret3
        exact ⟨by rw [HG.out.1, HG.out.2.1, HG.out.2.2]; rfl, hb1.out.trans (hb2.out.mono hb1.out.size)⟩
      · have hq : val s / val t < Lim := Nat.lt_of_le_of_lt (Nat.div_le_self _ _) (val_lt h1)
        have hr : val s % val t < Lim := Nat.lt_of_le_of_lt (Nat.mod_le _ _) (val_lt h1)
        have HG : Hid (divQ s t = num (val s / val t) ∧ divR s t = num (val s % val t) ∧ divE s t = 0) := by unfold Hid divQ divR divE; simp [h1, h2, hz]
        have HL : Hid (limited (Lib.decDigits (val s / val t)) = .tuple #[.string (num (val s / val t)), .int .i64 0] ∧ limited (Lib.decDigits (val s % val t)) = .tuple #[.string (num (val s % val t)), .int .i64 0]) := by
          unfold Hid
          rw [limited_eq, limited_eq]
          unfold strL errL
          rw [if_pos hq, if_pos hr, if_pos hq, if_pos hr]
          exact ⟨rfl, rfl⟩
        have hb : (t.toList == [48]) = false := by rw [beq_eq_false_iff_ne]; exact fun h => hz ((zero_iff h2).1 h)
        replace hz := Lib.hid hz
        replace hq := Lib.hid hq
        replace hr := Lib.hid hr
        clear h1 h2
        go_enter Tryz.func93, Tryz.ntmps93
        go_wp2_with fail
        refine c1.mono ?_
        rintro e w1 ⟨rfl, hb1⟩
        have hbA1 := Lib.hid hb1
        clear hb1
        go_wp2_with fail
        have c2 := is_any t w1 (by omega)
        rw [H2.out] at c2
        refine c2.mono ?_
        rintro e w2 ⟨rfl, hb2⟩
        have hbA2 := Lib.hid (hbA1.out.trans (hb2.mono hbA1.out.size))
        clear hb2 c1 c2 hbA1
        go_wp2_with fail
        refine (parse_num s w2 H1.out).mono ?_
        rintro e w3 ⟨v1, rfl, hn1, _, hb3⟩
        have hbA3 := Lib.hid (hbA2.out.trans (hb3.mono hbA2.out.size))
        replace hn1 := Lib.hid hn1
        clear hb3 hbA2
        go_wp2_with fail
        refine (parse_num t w3 H2.out).mono ?_
        rintro e w4 ⟨v2, rfl, hn2, _, hb2⟩
        have hbA2 := Lib.hid (hbA3.out.trans (hb2.mono hbA3.out.size))
        replace hb2 := Lib.hid hb2
        replace hn2 := Lib.hid hn2
        clear hbA3
        go_wp2_with fail
        refine (div_any w4 v1 v2 (val s) (val t) (hn1.out.below hb2.out) hn2.out (small_lim (val_lt H1.out)) (small_lim9 (val_lt H2.out)) (Nat.pos_of_ne_zero hz.out) (by have := hbA2.out.size; have := hE.out.pos; omega)).mono ?_
        rintro e w5 ⟨⟨q, r, rfl, hnq, hnr⟩, hb5⟩
        have hbA5 := Lib.hid (hbA2.out.trans (hb5.mono hbA2.out.size))
        replace hnq := Lib.hid hnq
        replace hnr := Lib.hid hnr
        clear hb5 hbA2 hb2 hn1 hn2
        go_wp2_with fail
        refine (text_any w5 q _ hnq.out (small_lim hq.out) (hE.out.below hbA5.out)).mono ?_
        rintro e w6 ⟨rfl, hb6⟩
        rw [HL.out.1]
        have hbA6 := Lib.hid (hbA5.out.trans (hb6.mono hbA5.out.size))
        replace hb6 := Lib.hid hb6
        clear hbA5
        go_wp2_with fail
        refine (text_any w6 r _ (hnr.out.below hb6.out) (small_lim hr.out) (hE.out.below hbA6.out)).mono ?_
        rintro e w7 ⟨rfl, hb7⟩
        rw [HL.out.2]
        have hbA7 := Lib.hid (hbA6.out.trans (hb7.mono hbA6.out.size))
        clear hb7 hb6 hbA6
        go_wp2
        go_ret3
        exact ⟨by rw [HG.out.1, HG.out.2.1, HG.out.2.2]; rfl, hbA7.out⟩
def ofS (n : Int) : ByteArray := if n < 0 then ⟨#[]⟩ else num n.toNat
theorem parse10 : ∀ (l : List UInt8) (a : Nat), (∀ c ∈ l, isDig c) → a < 18446744073709551616 → Lib.parseUint10 a l = if a * 10 ^ l.length + dval l < 18446744073709551616 then .ok (a * 10 ^ l.length + dval l) else .range := by
  intro l
  induction l with
  | nil =>
    intro a _ ha
    simp only [Lib.parseUint10, List.length_nil, Nat.pow_zero, Nat.mul_one, dval_nil, Nat.add_zero]
    rw [if_pos ha]
  | cons c l ih =>
    intro a h ha
    have h1 := h c (by simp)
    have hp : 1 ≤ 10 ^ l.length := Nat.pow_pos (by omega)
    have e : a * 10 ^ (c :: l).length + dval (c :: l) = (a * 10 + (c.toNat - 48)) * 10 ^ l.length + dval l := by
      rw [dval_cons, List.length_cons, Nat.pow_succ, Nat.add_mul, Nat.mul_assoc a 10, Nat.mul_comm 10]
      omega
    rw [e]
    have hge : a * 10 + (c.toNat - 48) ≤ (a * 10 + (c.toNat - 48)) * 10 ^ l.length := Nat.le_mul_of_pos_right _ hp
    rw [Lib.parseUint10, if_pos (show 48 ≤ c.toNat ∧ c.toNat ≤ 57 from h1)]
    by_cases c1 : 1844674407370955162 ≤ a
    · rw [if_pos c1, if_neg (by omega)]
    · rw [if_neg c1]
      by_cases c2 : 18446744073709551616 ≤ a * 10 + (c.toNat - 48)
      · rw [if_pos c2, if_neg (by omega)]
      · rw [if_neg c2]
        exact ih _ (fun d hd => h d (by simp [hd])) (by omega)
theorem atoi_num (n : Nat) : Lib.atoiAll (num n).data.toList = if n ≤ 9223372036854775807 then .ok (n : Int) else .range := by
  have hd := decDigits_dig n
  have hv := dval_decDigits n
  show Lib.atoiAll (Lib.decDigits n) = _
  cases hl : Lib.decDigits n with
  | nil => exact absurd hl (decDigits_ne n)
  | cons c r =>
    rw [hl] at hd hv
    have h1 := hd c (by simp)
    have h2 := h1.1
    have hp := parse10 (c :: r) 0 hd (by omega)
    rw [Nat.zero_mul, Nat.zero_add, hv] at hp
    unfold Lib.atoiAll
    simp only [Lib.parseMag]
    have hneg : ¬ c.toNat = 45 := by omega
    have hneg2 : ¬ (c.toNat = 43 ∨ c.toNat = 45) := by omega
    rw [if_neg hneg2, if_neg (by simp), hp]
    by_cases hle : n ≤ 9223372036854775807
    · rw [if_pos (by omega), if_pos hle]
      simp only [hneg]
      rw [if_neg (by omega), if_neg (by simp), if_neg (by simp)]
    · rw [if_neg hle]
      by_cases h64 : n < 18446744073709551616
      · rw [if_pos h64]
        simp only [hneg]
        rw [if_pos ⟨by simp, by omega⟩]
      · rw [if_neg h64]
def intV (s : ByteArray) : Int := if isN s = true ∧ val s ≤ 9223372036854775807 then (val s : Int) else 0
def intE (s : ByteArray) : Int := if isN s = true then (if val s ≤ 9223372036854775807 then 0 else 10) else 1
theorem num_lit (l : List UInt8) (n : Nat) (h : isNL l = true) (hv : dval l = n) : num n = ⟨l.toArray⟩ := by
  have := num_val (s := ⟨l.toArray⟩) h
  rw [← this]
  exact congrArg num hv.symm
end Nt
end Go.Proofs.YtpmlhgmmobpilaaGreatDoor

namespace Go.Proofs.YtpmlhgmmobpilaaGreatDoor
open Go.RowKit Go.Shelf
namespace Nt
/-- The text of a number, or the empty text. -/
def T : Option Nat → ByteArray | some n => num n | none => ⟨#[]⟩
def Ok (x : Option Nat) : Prop := ∀ n, x = some n → n < Lim
def limO (k : Nat) : Option Nat := if k < Lim then some k else none
def apO (f : Nat → Nat → Nat) : Option Nat → Option Nat → Option Nat | some a, some b => limO (f a b) | _, _ => none
def apE (f : Nat → Nat → Nat) : Option Nat → Option Nat → Int | some a, some b => if f a b < Lim then 0 else 2 | _, _ => 1
def sumO (x y : Option Nat) : Option Nat := apO (· + ·) x y
def sumE (x y : Option Nat) : Int := apE (· + ·) x y
def mulO (x y : Option Nat) : Option Nat := apO (· * ·) x y
def mulE (x y : Option Nat) : Int := apE (· * ·) x y
def gcdO (x y : Option Nat) : Option Nat := apO Nat.gcd x y
def gcdE (x y : Option Nat) : Int := apE Nat.gcd x y
def subO : Option Nat → Option Nat → Option Nat | some a, some b => if b ≤ a then some (a - b) else none | _, _ => none
def subX : Option Nat → Option Nat → Int | some a, some b => if b ≤ a then 0 else 10 | _, _ => 1
def quoO : Option Nat → Option Nat → Option Nat | some a, some b => if b = 0 then none else some (a / b) | _, _ => none
def remO : Option Nat → Option Nat → Option Nat | some a, some b => if b = 0 then none else some (a % b) | _, _ => none
def quoX : Option Nat → Option Nat → Int | some _, some b => if b = 0 then 15 else 0 | _, _ => 1
def cmpO : Option Nat → Option Nat → Int | some a, some b => cmpN a b | _, _ => 0
def cmpX : Option Nat → Option Nat → Int | some _, some _ => 0 | _, _ => 1
theorem ok_some {n : Nat} (h : n < Lim) : Ok (some n) := fun _ e => by cases e; exact h
theorem isN_T {x : Option Nat} (h : Ok x) : isN (T x) = x.isSome := by
  cases x with
  | none => rfl
  | some n => exact isN_num (h n rfl)
theorem size_T {x : Option Nat} (h : Ok x) : (T x).size ≤ 140737488355328 := by
  cases x with
  | none => exact Nat.zero_le _
  | some n =>
    have h1 : isN (T (some n)) = true := isN_T h
    have h2 := ((isNL_iff _).1 h1).2.1
    have h3 : (T (some n)).size = (T (some n)).data.toList.length := Lib.size_eq _
    omega
theorem isOk (x : Option Nat) (h : Ok x) (w : World) : Calls Tryz.prog 65 #[.string (T x)] w fun e w' => e = .returned (.bool x.isSome) ∧ Below w.heap.size w w' := by
  have := is_any (T x) w (by have := size_T h; omega)
  rwa [isN_T h] at this
theorem opS_T (f : Nat → Nat → Nat) {x y : Option Nat} (hx : Ok x) (hy : Ok y) : opS (f (val (T x)) (val (T y))) (T x) (T y) = T (apO f x y) ∧ opE (f (val (T x)) (val (T y))) (T x) (T y) = apE f x y := by
  cases x with
  | none => exact op_bad (.inl rfl)
  | some a =>
    cases y with
    | none => exact op_bad (.inr rfl)
    | some b =>
      have h := op_good (k := f (val (T (some a))) (val (T (some b)))) (isN_T hx) (isN_T hy)
      have ha : val (T (some a)) = a := val_num a
      have hb : val (T (some b)) = b := val_num b
      rw [ha, hb] at h ⊢
      rw [h.1, h.2]
      show strL (f a b) = T (limO (f a b)) ∧ errL (f a b) = if f a b < Lim then 0 else 2
      unfold limO strL errL
      by_cases hl : f a b < Lim
      · rw [if_pos hl, if_pos hl, if_pos hl]; exact ⟨rfl, rfl⟩
      · rw [if_neg hl, if_neg hl, if_neg hl]; exact ⟨rfl, rfl⟩
theorem addT (x y : Option Nat) (w : World) (hE : Env w) (hx : Ok x) (hy : Ok y) : Calls Tryz.prog 94 #[.string (T x), .string (T y)] w fun e w' => e = .returned (.tuple #[.string (T (sumO x y)), .int .i64 (sumE x y)]) ∧ Below w.heap.size w w' := by
  refine (Add_any (T x) (T y) w hE (size_T hx) (size_T hy)).mono ?_
  rintro e w' ⟨rfl, hb⟩
  have := opS_T (· + ·) hx hy
  exact ⟨by rw [this.1, this.2]; rfl, hb⟩
theorem mulT (x y : Option Nat) (w : World) (hE : Env w) (hx : Ok x) (hy : Ok y) : Calls Tryz.prog 145 #[.string (T x), .string (T y)] w fun e w' => e = .returned (.tuple #[.string (T (mulO x y)), .int .i64 (mulE x y)]) ∧ Below w.heap.size w w' := by
  refine (Mul_any (T x) (T y) w hE (size_T hx) (size_T hy)).mono ?_
  rintro e w' ⟨rfl, hb⟩
  have := opS_T (· * ·) hx hy
  exact ⟨by rw [this.1, this.2]; rfl, hb⟩
theorem gcdT (x y : Option Nat) (w : World) (hE : Env w) (hx : Ok x) (hy : Ok y) : Calls Tryz.prog 66 #[.string (T x), .string (T y)] w fun e w' => e = .returned (.tuple #[.string (T (gcdO x y)), .int .i64 (gcdE x y)]) ∧ Below w.heap.size w w' := by
  refine (Gcd_any (T x) (T y) w hE (size_T hx) (size_T hy)).mono ?_
  rintro e w' ⟨rfl, hb⟩
  have := opS_T Nat.gcd hx hy
  exact ⟨by rw [this.1, this.2]; rfl, hb⟩
theorem subT (x y : Option Nat) (w : World) (hE : Env w) (hx : Ok x) (hy : Ok y) : Calls Tryz.prog 111 #[.string (T x), .string (T y)] w fun e w' => e = .returned (.tuple #[.string (T (subO x y)), .int .i64 (subX x y)]) ∧ Below w.heap.size w w' := by
  refine (Sub_any (T x) (T y) w hE (size_T hx) (size_T hy)).mono ?_
  rintro e w' ⟨rfl, hb⟩
  refine ⟨?_, hb⟩
  have h1 := isN_T hx
  have h2 := isN_T hy
  cases x with
  | none => unfold subS subE; rw [h1]; rfl
  | some a =>
    cases y with
    | none => unfold subS subE; rw [h2]; simp; exact ⟨rfl, rfl⟩
    | some b =>
      have ha : val (T (some a)) = a := val_num a
      have hb : val (T (some b)) = b := val_num b
      unfold subS subE subO subX
      rw [h1, h2, ha, hb]
      by_cases h : b ≤ a
      · simp [h, T]
      · simp [h, T]
theorem divT (x y : Option Nat) (w : World) (hE : Env w) (hx : Ok x) (hy : Ok y) : Calls Tryz.prog 93 #[.string (T x), .string (T y)] w fun e w' => e = .returned (.tuple #[.string (T (quoO x y)), .string (T (remO x y)), .int .i64 (quoX x y)]) ∧ Below w.heap.size w w' := by
  refine (Div_any (T x) (T y) w hE (size_T hx) (size_T hy)).mono ?_
  rintro e w' ⟨rfl, hb⟩
  refine ⟨?_, hb⟩
  have h1 := isN_T hx
  have h2 := isN_T hy
  cases x with
  | none => unfold divQ divR divE; rw [h1]; rfl
  | some a =>
    cases y with
    | none => unfold divQ divR divE; rw [h2]; simp; exact ⟨rfl, rfl, rfl⟩
    | some b =>
      have ha : val (T (some a)) = a := val_num a
      have hb : val (T (some b)) = b := val_num b
      unfold divQ divR divE quoO remO quoX
      rw [h1, h2, ha, hb]
      by_cases h : b = 0
      · simp [h, T]
      · simp [h, T]
theorem cmpT (x y : Option Nat) (w : World) (hE : Env w) (hx : Ok x) (hy : Ok y) : Calls Tryz.prog 110 #[.string (T x), .string (T y)] w fun e w' => e = .returned (.tuple #[.int .i64 (cmpO x y), .int .i64 (cmpX x y)]) ∧ Below w.heap.size w w' := by
  refine (Compare_any (T x) (T y) w hE (size_T hx) (size_T hy)).mono ?_
  rintro e w' ⟨rfl, hb⟩
  refine ⟨?_, hb⟩
  have h1 := isN_T hx
  have h2 := isN_T hy
  cases x with
  | none => unfold cmpV cmpE; rw [h1]; rfl
  | some a =>
    cases y with
    | none => unfold cmpV cmpE; rw [h2]; simp; exact ⟨rfl, rfl⟩
    | some b =>
      have ha : val (T (some a)) = a := val_num a
      have hb : val (T (some b)) = b := val_num b
      unfold cmpV cmpE cmpO cmpX
      rw [h1, h2, ha, hb]
      simp
theorem T_zero : T (some 0) = ⟨#[48]⟩ := num_lit [48] 0 (by decide) (by decide)
theorem toL_zero : (T (some 0)).toList = [48] := by rw [T_zero, Lib.toList_data]
theorem one_lt_Lim : 1 < Lim := by
  have e : num 1 = ⟨#[49]⟩ := num_lit [49] 1 (by decide) (by decide)
  exact (isN_num_iff 1).1 (by rw [e]; decide)
theorem gcd_ltL {a b : Nat} (ha : a < Lim) (hb : b < Lim) : Nat.gcd a b < Lim := by
  rcases Nat.eq_zero_or_pos a with rfl | h
  · rwa [Nat.gcd_zero_left]
  · exact Nat.lt_of_le_of_lt (Nat.gcd_le_left b h) ha
theorem T_one : T (some 1) = ⟨#[49]⟩ := num_lit [49] 1 (by decide) (by decide)
end Nt
end Go.Proofs.YtpmlhgmmobpilaaGreatDoor

namespace Go.Proofs.YtpmlhgmmobpilaaGreatDoor
open Go.RowKit Go.Shelf
namespace Nt
/-- A number of a sign and a size. -/
def sg (g : Bool) (a : Nat) : Int := if g then -(a : Int) else a
theorem sg_natAbs (g : Bool) (a : Nat) : (sg g a).natAbs = a := by cases g <;> simp [sg]
theorem sg_neg (g : Bool) (a : Nat) : decide (sg g a < 0) = (g && !decide (a = 0)) := by
  rw [Bool.eq_iff_iff]
  cases g
  · simp [sg]
  · simp [sg]; omega
theorem sg_self (z : Int) : sg (decide (z < 0)) z.natAbs = z := by
  unfold sg
  by_cases h : z < 0
  · simp [h]; omega
  · simp [h]; omega
theorem sg_mul (g h : Bool) (a b : Nat) : sg g a * sg h b = sg (g != h) (a * b) := by
  cases g <;> cases h <;> simp [sg, Int.neg_mul, Int.mul_neg]
theorem mk_num (g : Bool) (a b : Nat) (hb : b ≠ 0) : (mkRat (sg g a) b).num = sg g (a / Nat.gcd a b) := by
  rw [Rat.num_mkRat, if_neg hb, sg_natAbs, Nat.gcd_comm]
  cases g
  · simp [sg]
  · simp only [sg, if_true]
    rw [Int.neg_ediv_of_dvd (Int.ofNat_dvd.2 (Nat.gcd_dvd_left a b)), Int.natCast_ediv]
theorem mk_den (g : Bool) (a b : Nat) (hb : b ≠ 0) : (mkRat (sg g a) b).den = b / Nat.gcd a b := by
  rw [Rat.den_mkRat, if_neg hb, sg_natAbs, Nat.gcd_comm]
/-- The value of a rational number. -/
def qv (q : Rat) : Value := .agg #[.bool (decide (q.num < 0)), .string (T (some q.num.natAbs)), .string (T (some q.den))]
def zv : Value := .agg #[.bool false, .string ⟨#[]⟩, .string ⟨#[]⟩]
def OkQ (q : Rat) : Prop := q.num.natAbs < Lim ∧ q.den < Lim
theorem qv_mk (g : Bool) (a b : Nat) (hb : b ≠ 0) : qv (mkRat (sg g a) b) = .agg #[.bool (g && !decide (a / Nat.gcd a b = 0)), .string (T (some (a / Nat.gcd a b))), .string (T (some (b / Nat.gcd a b)))] := by
  unfold qv
  rw [mk_num g a b hb, mk_den g a b hb, sg_neg, sg_natAbs]
/-- Whether three fields are a rational number in lowest terms. -/
def validB (g : Bool) (n d : ByteArray) : Bool :=
  isN n && (isN d && (!decide (val d = 0) && (if val n = 0 then !g && decide (val d = 1) else decide (Nat.gcd (val n) (val d) = 1))))
theorem valid_num (g : Bool) (a b : Nat) (ha : a < Lim) (hb : b < Lim) : validB g (num a) (num b) = (!decide (b = 0) && (if a = 0 then !g && decide (b = 1) else decide (Nat.gcd a b = 1))) := by
  unfold validB
  rw [isN_num ha, isN_num hb, val_num, val_num, Bool.true_and, Bool.true_and]
theorem valid_qv {q : Rat} (h : OkQ q) : validB (decide (q.num < 0)) (T (some q.num.natAbs)) (T (some q.den)) = true := by
  show validB _ (num _) (num _) = true
  rw [valid_num _ _ _ h.1 h.2]
  have hd := q.den_nz
  have hr : Nat.gcd q.num.natAbs q.den = 1 := q.reduced
  by_cases h0 : q.num.natAbs = 0
  · rw [h0, Nat.gcd_zero_left] at hr
    have : ¬ q.num < 0 := by omega
    simp [h0, hr, this]
  · simp [h0, hd, hr]
theorem of_valid {g : Bool} {n d : ByteArray} (h : validB g n d = true) : ∃ q : Rat, OkQ q ∧ g = decide (q.num < 0) ∧ n = T (some q.num.natAbs) ∧ d = T (some q.den) := by
  have h1 : isN n = true := by unfold validB at h; simp only [Bool.and_eq_true] at h; exact h.1
  have h2 : isN d = true := by unfold validB at h; simp only [Bool.and_eq_true] at h; exact h.2.1
  obtain ⟨a, ha, rfl⟩ := num_of_isN h1
  obtain ⟨b, hb, rfl⟩ := num_of_isN h2
  rw [valid_num g a b ha hb] at h
  simp only [Bool.and_eq_true, Bool.not_eq_true', decide_eq_false_iff_not] at h
  obtain ⟨hb0, h3⟩ := h
  have hcop : Nat.gcd a b = 1 := by
    by_cases h0 : a = 0
    · rw [if_pos h0] at h3
      simp at h3
      rw [h0, h3.2]; rfl
    · rw [if_neg h0] at h3
      simpa using h3
  have hg : g = decide (sg g a < 0) := by
    rw [sg_neg]
    by_cases h0 : a = 0
    · rw [if_pos h0] at h3
      simp at h3
      rw [h3.1]; rfl
    · simp [h0]
  refine ⟨⟨sg g a, b, hb0, by rw [sg_natAbs]; exact hcop⟩, ⟨by show (sg g a).natAbs < Lim; rw [sg_natAbs]; exact ha, hb⟩, hg, ?_, rfl⟩
  show num a = num (sg g a).natAbs
  rw [sg_natAbs]
/-- 10 to the 140. -/
@[irreducible] def mx1 : Nat := 140
theorem mx1_eq : mx1 = 140 := by unfold mx1; rfl
def L1 : Nat := 10 ^ mx1
theorem size_L1 (n : Nat) : (num n).size ≤ 140 ↔ n < L1 := by
  have := decDigits_len_iff n mx1 (by rw [mx1_eq]; omega)
  have e : (num n).size = (Lib.decDigits n).length := by simp [num, ByteArray.size]
  rw [e, ← mx1_eq]
  exact this
theorem L1_pos : 1 ≤ L1 := Nat.pow_pos (by omega)
theorem L1_sq : 2 * (L1 * L1) < Lim := by
  have e : L1 * L1 = 10 ^ (mx1 + mx1) := by unfold L1; rw [Nat.pow_add]
  have h : 10 ^ (mx1 + mx1 + 1) ≤ Lim := by
    unfold Lim
    exact Nat.pow_le_pow_right (by omega) (by rw [mx1_eq, mxd_eq]; omega)
  rw [Nat.pow_succ] at h
  rw [e]
  have h2 : 0 < 10 ^ (mx1 + mx1) := Nat.pow_pos (by omega)
  omega
theorem L1_mul {a b : Nat} (ha : a < L1) (hb : b < L1) : a * b < L1 * L1 := Nat.mul_lt_mul'' ha hb
theorem L1_lim {a : Nat} (h : a < L1) : a < Lim := by
  have h1 := L1_sq
  have h2 := L1_pos
  have h3 : L1 * 1 ≤ L1 * L1 := Nat.mul_le_mul_left _ h2
  omega
/-- A number that is not too long for an operation. -/
def ShortQ (q : Rat) : Prop := q.num.natAbs < L1 ∧ q.den < L1
instance (q : Rat) : Decidable (ShortQ q) := inferInstanceAs (Decidable (_ ∧ _))
theorem ShortQ.ok {q : Rat} (h : ShortQ q) : OkQ q := ⟨L1_lim h.1, L1_lim h.2⟩
/-- The sum of two numbers out of signs and sizes. -/
theorem add_mk (p q : Rat) : mkRat (p.num * q.den + q.num * p.den) (p.den * q.den) = p + q := (Rat.add_def' p q).symm
theorem sum_same {g : Bool} {x y : Nat} {p q : Rat} (hp : g = decide (p.num < 0)) (hq : g = decide (q.num < 0)) (hx : x = p.num.natAbs * q.den) (hy : y = q.num.natAbs * p.den) :
    sg g (x + y) = p.num * q.den + q.num * p.den := by
  rw [← sg_self p.num, ← sg_self q.num, ← hp, ← hq, hx, hy]
  cases g
  · simp [sg]
  · simp only [sg, if_true, Int.natCast_add, Int.natCast_mul, Int.neg_mul]
    omega
theorem sum_less {g h : Bool} {x y : Nat} {p q : Rat} (hp : g = decide (p.num < 0)) (hq : h = decide (q.num < 0)) (hx : x = p.num.natAbs * q.den) (hy : y = q.num.natAbs * p.den) (hne : g ≠ h) (hl : x < y) :
    sg h (y - x) = p.num * q.den + q.num * p.den := by
  rw [← sg_self p.num, ← sg_self q.num, ← hp, ← hq]
  have e1 : (x : Int) = (p.num.natAbs : Int) * (q.den : Int) := by rw [hx, Int.natCast_mul]
  have e2 : (y : Int) = (q.num.natAbs : Int) * (p.den : Int) := by rw [hy, Int.natCast_mul]
  cases g <;> cases h <;> simp only [sg, if_true, Bool.false_eq_true, if_false, Int.neg_mul, ne_eq, not_true_eq_false] at hne ⊢
  all_goals omega
theorem sum_more {g h : Bool} {x y : Nat} {p q : Rat} (hp : g = decide (p.num < 0)) (hq : h = decide (q.num < 0)) (hx : x = p.num.natAbs * q.den) (hy : y = q.num.natAbs * p.den) (hne : g ≠ h) (hl : y ≤ x) :
    sg g (x - y) = p.num * q.den + q.num * p.den := by
  rw [← sg_self p.num, ← sg_self q.num, ← hp, ← hq]
  have e1 : (x : Int) = (p.num.natAbs : Int) * (q.den : Int) := by rw [hx, Int.natCast_mul]
  have e2 : (y : Int) = (q.num.natAbs : Int) * (p.den : Int) := by rw [hy, Int.natCast_mul]
  cases g <;> cases h <;> simp only [sg, if_true, Bool.false_eq_true, if_false, Int.neg_mul, ne_eq, not_true_eq_false] at hne ⊢
  all_goals omega
theorem mul_mk (p q : Rat) : mkRat (sg (decide (p.num < 0) != decide (q.num < 0)) (p.num.natAbs * q.num.natAbs)) (p.den * q.den) = p * q := by
  rw [← sg_mul, sg_self, sg_self, Rat.mul_def']
end Nt
end Go.Proofs.YtpmlhgmmobpilaaGreatDoor

namespace Go.Proofs.YtpmlhgmmobpilaaGreatDoor
open Go.RowKit Go.Shelf
namespace Nt
/-- A block that holds a rational number. -/
def B3 (W : World) (b : Nat) (g : Bool) (n d : ByteArray) : Prop := W.heap[b]? = some (.cells #[.bool g, .string n, .string d] 23 (0, 0))
theorem B3.lt {W : World} {b : Nat} {g : Bool} {n d : ByteArray} (h : B3 W b g n d) : b < W.heap.size := (Array.getElem?_eq_some_iff.1 h).1
theorem B3.facts {W : World} {b : Nat} {g : Bool} {n d : ByteArray} (h : B3 W b g n d) :
    W.cell? ⟨b, 0, none⟩ = some (.bool g) ∧ W.cell? ⟨b, 1, none⟩ = some (.string n) ∧ W.cell? ⟨b, 2, none⟩ = some (.string d) ∧
    W.frozen? ⟨b, 0, none⟩ = false ∧ W.frozen? ⟨b, 1, none⟩ = false ∧ W.frozen? ⟨b, 2, none⟩ = false := by
  unfold B3 at h
  simp [World.cell?, World.frozen?, h]
theorem B3.new (w : World) (g : Bool) (n d : ByteArray) : B3 (w.alloc (.cells #[.bool g, .string n, .string d] 23)) w.heap.size g n d := heap_alloc_new _ _
theorem B3.alloc {W : World} {b : Nat} {g : Bool} {n d : ByteArray} (h : B3 W b g n d) (o : Obj) : B3 (W.alloc o) b g n d := (Below.heap_alloc W o b h.lt).trans h
theorem B3.below {W W' : World} {b : Nat} {g : Bool} {n d : ByteArray} (h : B3 W b g n d) (hb : Below W.heap.size W W') : B3 W' b g n d := (hb.block b h.lt).trans h
theorem B3.other {W : World} {b : Nat} {g : Bool} {n d : ByteArray} (h : B3 W b g n d) {p : Addr} (hp : b ≠ p.block) (v : Value) : B3 (W.setCell p v) b g n d := (Below.heap_setCell _ _ _ _ hp).trans h
theorem B3.set1 {W : World} {b : Nat} {g : Bool} {n d : ByteArray} (h : B3 W b g n d) (n' : ByteArray) : B3 (W.setCell ⟨b, 1, none⟩ (.string n')) b g n' d := by
  unfold B3 at h ⊢
  simp [World.setCell, Array.getElem?_modify, h]
theorem is_one (n : Nat) : ((num n).toList == [49]) = decide (n = 1) := by
  have e : (num 1).toList = [49] := by rw [show num 1 = ⟨#[49]⟩ from T_one, Lib.toList_data]
  rw [← e, Bool.eq_iff_iff, beq_iff_eq, decide_eq_true_iff, Lib.toList_data, Lib.toList_data]
  constructor
  · intro h
    have := congrArg dval h
    have e1 : dval (num n).data.toList = n := dval_decDigits n
    have e2 : dval (num 1).data.toList = 1 := dval_decDigits 1
    rwa [e1, e2] at this
  · intro h; rw [h]
theorem is_zero (n : Nat) : ((num n).toList == [48]) = decide (n = 0) := by
  have e : (num 0).toList = [48] := toL_zero
  rw [← e, Bool.eq_iff_iff, beq_iff_eq, decide_eq_true_iff, Lib.toList_data, Lib.toList_data]
  constructor
  · intro h
    have := congrArg dval h
    have e1 : dval (num n).data.toList = n := dval_decDigits n
    have e2 : dval (num 0).data.toList = 0 := dval_decDigits 0
    rwa [e1, e2] at this
  · intro h; rw [h]
set_option maxRecDepth 100000 in
theorem Valid_bad1 (g : Bool) (n d : ByteArray) (w : World) (hn : n.size ≤ 140737488355328) (h : isN n = false) :
    Calls Tryz.prog 23 #[.agg #[.bool g, .string n, .string d]] w fun e w' => e = .returned (.bool false) ∧ Below w.heap.size w w' := by
  go_enter Tryz.func23, Tryz.ntmps23
  go_wp2_with fail
  refine (is_any n _ (by omega)).mono ?_
  rintro e w1 ⟨rfl, hb1⟩
  rw [h]
  go_wp2
  go_ret
  exact ⟨rfl, ((Below.refl _ w).alloc (Nat.le_refl _) _).trans (hb1.mono (by simp))⟩
set_option maxRecDepth 100000 in
theorem Valid_bad2 (g : Bool) (n d : ByteArray) (w : World) (hn : n.size ≤ 140737488355328) (hd : d.size ≤ 140737488355328) (h : isN n = true) (h' : isN d = false) :
    Calls Tryz.prog 23 #[.agg #[.bool g, .string n, .string d]] w fun e w' => e = .returned (.bool false) ∧ Below w.heap.size w w' := by
  have H := Lib.hid h'
  clear h'
  go_enter Tryz.func23, Tryz.ntmps23
  go_wp2_with fail
  refine (is_any n _ (by omega)).mono ?_
  rintro e w1 ⟨rfl, hb1⟩
  rw [h]
  have q1 := (B3.new w g n d).below hb1
  obtain ⟨a1, a2, a3, a4, a5, a6⟩ := q1.facts
  have hB1 := Lib.hid (((Below.refl _ w).alloc (Nat.le_refl _) _).trans (hb1.mono (by simp)))
  replace q1 := Lib.hid q1
  clear hb1
  go_wp2_with fail
  refine (is_any d _ (by omega)).mono ?_
  rintro e w2 ⟨rfl, hb2⟩
  rw [H.out]
  have hB2 := Lib.hid (hB1.out.trans (hb2.mono hB1.out.size))
  clear hb2 hB1
  go_wp2
  go_ret
  exact ⟨rfl, hB2.out⟩
theorem T_is_one (n : Nat) : ((T (some n)).toList == [49]) = decide (n = 1) := is_one n
theorem T_is_zero (n : Nat) : ((T (some n)).toList == [48]) = decide (n = 0) := is_zero n
set_option maxRecDepth 100000 in
theorem Valid_zden (g : Bool) (a : Nat) (w : World) (ha : a < Lim) :
    Calls Tryz.prog 23 #[.agg #[.bool g, .string (T (some a)), .string (T (some 0))]] w fun e w' => e = .returned (.bool false) ∧ Below w.heap.size w w' := by
  have z := T_is_zero 0
  rw [decide_eq_true rfl] at z
  have h0 : 0 < Lim := by omega
  go_enter Tryz.func23, Tryz.ntmps23
  go_wp2_with fail
  refine (isOk (some a) (ok_some ha) _).mono ?_
  rintro e w1 ⟨rfl, hb1⟩
  rw [Option.isSome_some]
  have q1 := (B3.new w g (T (some a)) (T (some 0))).below hb1
  obtain ⟨a1, a2, a3, a4, a5, a6⟩ := q1.facts
  have hB1 := Lib.hid (((Below.refl _ w).alloc (Nat.le_refl _) _).trans (hb1.mono (by simp)))
  replace q1 := Lib.hid q1
  clear hb1
  go_wp2_with fail
  refine (isOk (some 0) (ok_some h0) _).mono ?_
  rintro e w2 ⟨rfl, hb2⟩
  rw [Option.isSome_some]
  obtain ⟨b1, b2, b3, b4, b5, b6⟩ := (q1.out.below hb2).facts
  have hB2 := Lib.hid (hB1.out.trans (hb2.mono hB1.out.size))
  clear hb2 hB1
  go_wp2
  go_ret
  exact ⟨rfl, hB2.out⟩
set_option maxRecDepth 100000 in
theorem Valid_znum (g : Bool) (b : Nat) (w : World) (hb : b < Lim) (hb0 : b ≠ 0) :
    Calls Tryz.prog 23 #[.agg #[.bool g, .string (T (some 0)), .string (T (some b))]] w fun e w' => e = .returned (.bool (!g && decide (b = 1))) ∧ Below w.heap.size w w' := by
  obtain ⟨r, hr⟩ : ∃ r, r = decide (b = 1) := ⟨_, rfl⟩
  rw [← hr]
  cases g <;> cases r
  all_goals
    have z := T_is_zero 0
    rw [decide_eq_true rfl] at z
    have z2 := T_is_zero b
    rw [decide_eq_false hb0] at z2
    have z3 := T_is_one b
    rw [← hr] at z3
    clear hr
    have h0 : 0 < Lim := by omega
    replace hb0 := Lib.hid hb0
    go_enter Tryz.func23, Tryz.ntmps23
    go_wp2_with fail
    refine (isOk (some 0) (ok_some h0) _).mono ?_
    rintro e w1 ⟨rfl, hb1⟩
    rw [Option.isSome_some]
    have q1 := (B3.new w _ (T (some 0)) (T (some b))).below hb1
    obtain ⟨a1, a2, a3, a4, a5, a6⟩ := q1.facts
    have hB1 := Lib.hid (((Below.refl _ w).alloc (Nat.le_refl _) _).trans (hb1.mono (by simp)))
    replace q1 := Lib.hid q1
    clear hb1
    go_wp2_with fail
    refine (isOk (some b) (ok_some hb) _).mono ?_
    rintro e w2 ⟨rfl, hb2⟩
    rw [Option.isSome_some]
    obtain ⟨b1, b2, b3, b4, b5, b6⟩ := (q1.out.below hb2).facts
    have hB2 := Lib.hid (hB1.out.trans (hb2.mono hB1.out.size))
    clear hb2 hB1
    go_wp2
    go_ret
    exact ⟨rfl, hB2.out⟩
set_option maxRecDepth 100000 in
theorem Valid_gcd (g : Bool) (a b : Nat) (w : World) (hE : Env w) (ha : a < Lim) (hb : b < Lim) (ha0 : a ≠ 0) (hb0 : b ≠ 0) :
    Calls Tryz.prog 23 #[.agg #[.bool g, .string (T (some a)), .string (T (some b))]] w fun e w' => e = .returned (.bool (decide (Nat.gcd a b = 1))) ∧ Below w.heap.size w w' := by
  have z := T_is_zero a
  rw [decide_eq_false ha0] at z
  have z2 := T_is_zero b
  rw [decide_eq_false hb0] at z2
  have z3 := T_is_one (Nat.gcd a b)
  have hG : Hid (gcdO (some a) (some b) = some (Nat.gcd a b) ∧ gcdE (some a) (some b) = 0) := by
    have := gcd_ltL ha hb
    exact ⟨by simp only [gcdO, apO, limO, if_pos this], by simp only [gcdE, apE, if_pos this]⟩
  replace ha0 := Lib.hid ha0
  replace hb0 := Lib.hid hb0
  replace hE := Lib.hid hE
  go_enter Tryz.func23, Tryz.ntmps23
  go_wp2_with fail
  refine (isOk (some a) (ok_some ha) _).mono ?_
  rintro e w1 ⟨rfl, hb1⟩
  rw [Option.isSome_some]
  have q1 := (B3.new w g (T (some a)) (T (some b))).below hb1
  obtain ⟨a1, a2, a3, a4, a5, a6⟩ := q1.facts
  have hB1 := Lib.hid (((Below.refl _ w).alloc (Nat.le_refl _) _).trans (hb1.mono (by simp)))
  replace q1 := Lib.hid q1
  clear hb1
  go_wp2_with fail
  refine (isOk (some b) (ok_some hb) _).mono ?_
  rintro e w2 ⟨rfl, hb2⟩
  rw [Option.isSome_some]
  obtain ⟨b1, b2, b3, b4, b5, b6⟩ := (q1.out.below hb2).facts
  have hB2 := Lib.hid (hB1.out.trans (hb2.mono hB1.out.size))
  clear hb2 hB1 q1
  go_wp2_with fail
  refine (gcdT (some a) (some b) _ (hE.out.below hB2.out) (ok_some ha) (ok_some hb)).mono ?_
  rintro e w3 ⟨rfl, hb3⟩
  rw [hG.out.1, hG.out.2]
  have hB3 := Lib.hid (hB2.out.trans (hb3.mono hB2.out.size))
  clear hb3 hB2
  go_wp2
  go_ret
  exact ⟨rfl, hB3.out⟩
theorem Valid_any (g : Bool) (n d : ByteArray) (w : World) (hE : Env w) (hn : n.size ≤ 140737488355328) (hd : d.size ≤ 140737488355328) :
    Calls Tryz.prog 23 #[.agg #[.bool g, .string n, .string d]] w fun e w' => e = .returned (.bool (validB g n d)) ∧ Below w.heap.size w w' := by
  cases h1 : isN n with
  | false =>
    have e : validB g n d = false := by unfold validB; rw [h1]; rfl
    rw [e]
    exact Valid_bad1 g n d w hn h1
  | true =>
    cases h2 : isN d with
    | false =>
      have e : validB g n d = false := by unfold validB; rw [h1, h2]; rfl
      rw [e]
      exact Valid_bad2 g n d w hn hd h1 h2
    | true =>
      obtain ⟨a, ha, rfl⟩ := num_of_isN h1
      obtain ⟨b, hb, rfl⟩ := num_of_isN h2
      rw [valid_num g a b ha hb]
      by_cases hb0 : b = 0
      · subst hb0
        simp only [decide_true, Bool.not_true, Bool.false_and]
        exact Valid_zden g a w ha
      · rw [decide_eq_false hb0, Bool.not_false, Bool.true_and]
        by_cases ha0 : a = 0
        · rw [if_pos ha0]
          subst ha0
          exact Valid_znum g b w hb hb0
        · rw [if_neg ha0]
          exact Valid_gcd g a b w hE ha hb ha0 hb0
set_option maxRecDepth 100000 in
set_option maxHeartbeats 1000000 in
theorem lowest_any (g : Bool) (a b : Nat) (w : World) (hE : Env w) (ha : a < Lim) (hb : b < Lim) (hb0 : b ≠ 0) :
    Calls Tryz.prog 97 #[.bool g, .string (T (some a)), .string (T (some b))] w fun e w' => e = .returned (.tuple #[qv (mkRat (sg g a) b), .int .i64 0]) ∧ Below w.heap.size w w' := by
  have HV := Lib.hid (qv_mk g a b hb0)
  obtain ⟨G, hGd⟩ : ∃ G, G = Nat.gcd a b := ⟨_, rfl⟩
  have hGl : G < Lim := by rw [hGd]; exact gcd_ltL ha hb
  have hG0 : G ≠ 0 := by rw [hGd]; exact Nat.ne_of_gt (Nat.gcd_pos_of_pos_right a (by omega))
  have hG : Hid (gcdO (some a) (some b) = some G ∧ gcdE (some a) (some b) = 0) := by
    have := gcd_ltL ha hb
    rw [hGd]
    exact ⟨by simp only [gcdO, apO, limO, if_pos this], by simp only [gcdE, apE, if_pos this]⟩
  have hD1 : Hid (quoO (some a) (some G) = some (a / G) ∧ quoX (some a) (some G) = 0) := ⟨if_neg hG0, if_neg hG0⟩
  have hD2 : Hid (quoO (some b) (some G) = some (b / G) ∧ quoX (some b) (some G) = 0) := ⟨if_neg hG0, if_neg hG0⟩
  rw [← hGd] at HV
  have z := T_is_zero (a / G)
  generalize hx : a / G = x at HV hD1 z
  generalize hy : b / G = y at HV hD2
  replace hE := Lib.hid hE
  clear hGd hG0 hx hy hb0
  have key : (g = false) ∨ (g = true ∧ x = 0) ∨ (g = true ∧ x ≠ 0) := by cases g <;> simp <;> omega
  rcases key with rfl | ⟨rfl, hx0⟩ | ⟨rfl, hx0⟩
  rotate_left
  · rw [decide_eq_true hx0] at HV z
    replace hx0 := Lib.hid hx0
    go_enter Tryz.func97, Tryz.ntmps97
    go_wp2_with fail
    refine (gcdT (some a) (some b) _ (hE.out.below ((Below.refl _ w).alloc (Nat.le_refl _) _)) (ok_some ha) (ok_some hb)).mono ?_
    rintro e w1 ⟨rfl, hb1⟩
    rw [hG.out.1, hG.out.2]
    have q1 := (B3.new w false ⟨#[]⟩ ⟨#[]⟩).below hb1
    have hB1 := Lib.hid (((Below.refl _ w).alloc (Nat.le_refl _) _).trans (hb1.mono (by simp)))
    have hl1 := q1.lt
    replace q1 := Lib.hid q1
    clear hb1
    go_wp2_with fail
    refine (divT (some a) (some G) _ (hE.out.below (hB1.out.alloc hB1.out.size _)) (ok_some ha) (ok_some hGl)).mono ?_
    rintro e w2 ⟨rfl, hb2⟩
    rw [hD1.out.1, hD1.out.2]
    have q2 := (q1.out.alloc _).below hb2
    have r2 := (B3.new w1 true ⟨#[]⟩ ⟨#[]⟩).below hb2
    have hB2 := Lib.hid ((hB1.out.alloc hB1.out.size _).trans (hb2.mono (by have := hB1.out.size; simp; omega)))
    obtain ⟨c1, c2, c3, c4, c5, c6⟩ := r2.facts
    have hl2 := r2.lt
    replace q2 := Lib.hid q2
    replace r2 := Lib.hid r2
    clear hb2 q1
    go_wp2_with fail
    refine (divT (some b) (some G) _ (hE.out.below (hB2.out.setCell (by have := hB1.out.size; simpa using this) _)) (ok_some hb) (ok_some hGl)).mono ?_
    rintro e w3 ⟨rfl, hb3⟩
    rw [hD2.out.1, hD2.out.2]
    have q3 := (q2.out.other (p := ⟨w1.heap.size, 1, none⟩) (by simp; omega) _).below hb3
    have r3 := (r2.out.set1 (T (some x))).below hb3
    have hB3 := Lib.hid ((hB2.out.setCell (p := ⟨w1.heap.size, 1, none⟩) (by have := hB1.out.size; simpa using this) _).trans (hb3.mono (by have := hB2.out.size; simpa using this)))
    have hsz1 := hB1.out.size
    obtain ⟨d1, d2, d3, d4, d5, d6⟩ := q3.facts
    obtain ⟨e1, e2, e3, e4, e5, e6⟩ := r3.facts
    have hl3 := r3.lt
    clear hb3 q2 r2 c1 c2 c3 c4 c5 c6
    replace q3 := Lib.hid q3
    replace r3 := Lib.hid r3
    go_wp2
    refine bodyPost_ret (v := .tuple #[.agg #[.bool false, .string (T (some x)), .string (T (some y))], .int .i64 0]) (by simp [results, Tryz.results97, go_sem, d1, d2, d3]) rfl ⟨by rw [HV.out]; rfl, ?_⟩
    repeat refine Below.setCell ?_ (by first | exact Nat.le_refl _ | exact hsz1) _
    exact hB3.out
  · rw [decide_eq_false hx0] at HV z
    replace hx0 := Lib.hid hx0
    go_enter Tryz.func97, Tryz.ntmps97
    go_wp2_with fail
    refine (gcdT (some a) (some b) _ (hE.out.below ((Below.refl _ w).alloc (Nat.le_refl _) _)) (ok_some ha) (ok_some hb)).mono ?_
    rintro e w1 ⟨rfl, hb1⟩
    rw [hG.out.1, hG.out.2]
    have q1 := (B3.new w false ⟨#[]⟩ ⟨#[]⟩).below hb1
    have hB1 := Lib.hid (((Below.refl _ w).alloc (Nat.le_refl _) _).trans (hb1.mono (by simp)))
    have hl1 := q1.lt
    replace q1 := Lib.hid q1
    clear hb1
    go_wp2_with fail
    refine (divT (some a) (some G) _ (hE.out.below (hB1.out.alloc hB1.out.size _)) (ok_some ha) (ok_some hGl)).mono ?_
    rintro e w2 ⟨rfl, hb2⟩
    rw [hD1.out.1, hD1.out.2]
    have q2 := (q1.out.alloc _).below hb2
    have r2 := (B3.new w1 true ⟨#[]⟩ ⟨#[]⟩).below hb2
    have hB2 := Lib.hid ((hB1.out.alloc hB1.out.size _).trans (hb2.mono (by have := hB1.out.size; simp; omega)))
    obtain ⟨c1, c2, c3, c4, c5, c6⟩ := r2.facts
    have hl2 := r2.lt
    replace q2 := Lib.hid q2
    replace r2 := Lib.hid r2
    clear hb2 q1
    go_wp2_with fail
    refine (divT (some b) (some G) _ (hE.out.below (hB2.out.setCell (by have := hB1.out.size; simpa using this) _)) (ok_some hb) (ok_some hGl)).mono ?_
    rintro e w3 ⟨rfl, hb3⟩
    rw [hD2.out.1, hD2.out.2]
    have q3 := (q2.out.other (p := ⟨w1.heap.size, 1, none⟩) (by simp; omega) _).below hb3
    have r3 := (r2.out.set1 (T (some x))).below hb3
    have hB3 := Lib.hid ((hB2.out.setCell (p := ⟨w1.heap.size, 1, none⟩) (by have := hB1.out.size; simpa using this) _).trans (hb3.mono (by have := hB2.out.size; simpa using this)))
    have hsz1 := hB1.out.size
    obtain ⟨d1, d2, d3, d4, d5, d6⟩ := q3.facts
    obtain ⟨e1, e2, e3, e4, e5, e6⟩ := r3.facts
    have hl3 := r3.lt
    clear hb3 q2 r2 c1 c2 c3 c4 c5 c6
    replace q3 := Lib.hid q3
    replace r3 := Lib.hid r3
    go_wp2
    refine bodyPost_ret (v := .tuple #[.agg #[.bool true, .string (T (some x)), .string (T (some y))], .int .i64 0]) (by simp [results, Tryz.results97, go_sem, d1, d2, d3]) rfl ⟨by rw [HV.out]; rfl, ?_⟩
    repeat refine Below.setCell ?_ (by first | exact Nat.le_refl _ | exact hsz1) _
    exact hB3.out
  · go_enter Tryz.func97, Tryz.ntmps97
    go_wp2_with fail
    refine (gcdT (some a) (some b) _ (hE.out.below ((Below.refl _ w).alloc (Nat.le_refl _) _)) (ok_some ha) (ok_some hb)).mono ?_
    rintro e w1 ⟨rfl, hb1⟩
    rw [hG.out.1, hG.out.2]
    have q1 := (B3.new w false ⟨#[]⟩ ⟨#[]⟩).below hb1
    have hB1 := Lib.hid (((Below.refl _ w).alloc (Nat.le_refl _) _).trans (hb1.mono (by simp)))
    have hl1 := q1.lt
    replace q1 := Lib.hid q1
    clear hb1
    go_wp2_with fail
    refine (divT (some a) (some G) _ (hE.out.below (hB1.out.alloc hB1.out.size _)) (ok_some ha) (ok_some hGl)).mono ?_
    rintro e w2 ⟨rfl, hb2⟩
    rw [hD1.out.1, hD1.out.2]
    have q2 := (q1.out.alloc _).below hb2
    have r2 := (B3.new w1 false ⟨#[]⟩ ⟨#[]⟩).below hb2
    have hB2 := Lib.hid ((hB1.out.alloc hB1.out.size _).trans (hb2.mono (by have := hB1.out.size; simp; omega)))
    obtain ⟨c1, c2, c3, c4, c5, c6⟩ := r2.facts
    have hl2 := r2.lt
    replace q2 := Lib.hid q2
    replace r2 := Lib.hid r2
    clear hb2 q1
    go_wp2_with fail
    refine (divT (some b) (some G) _ (hE.out.below (hB2.out.setCell (by have := hB1.out.size; simpa using this) _)) (ok_some hb) (ok_some hGl)).mono ?_
    rintro e w3 ⟨rfl, hb3⟩
    rw [hD2.out.1, hD2.out.2]
    have q3 := (q2.out.other (p := ⟨w1.heap.size, 1, none⟩) (by simp; omega) _).below hb3
    have r3 := (r2.out.set1 (T (some x))).below hb3
    have hB3 := Lib.hid ((hB2.out.setCell (p := ⟨w1.heap.size, 1, none⟩) (by have := hB1.out.size; simpa using this) _).trans (hb3.mono (by have := hB2.out.size; simpa using this)))
    have hsz1 := hB1.out.size
    obtain ⟨d1, d2, d3, d4, d5, d6⟩ := q3.facts
    obtain ⟨e1, e2, e3, e4, e5, e6⟩ := r3.facts
    have hl3 := r3.lt
    clear hb3 q2 r2 c1 c2 c3 c4 c5 c6
    replace q3 := Lib.hid q3
    replace r3 := Lib.hid r3
    go_wp2
    refine bodyPost_ret (v := .tuple #[.agg #[.bool false, .string (T (some x)), .string (T (some y))], .int .i64 0]) (by simp [results, Tryz.results97, go_sem, d1, d2, d3]) rfl ⟨by rw [HV.out]; rfl, ?_⟩
    repeat refine Below.setCell ?_ (by first | exact Nat.le_refl _ | exact hsz1) _
    exact hB3.out
end Nt
end Go.Proofs.YtpmlhgmmobpilaaGreatDoor

namespace Go.Proofs.YtpmlhgmmobpilaaGreatDoor
open Go.Maps (Keyed)
open Go.RowKit
namespace Ci
/-- An element reads as itself. -/
def tokR (v : Value) : Option (DataW Value × List MemPlace) := some (.held v, [])
/-- One value of a table of entries. -/
def putF {α : Type} [DecidableEq α] (f : α → Option Value) (x : α) (v : Option Value) : α → Option Value := fun y => if y = x then v else f y
theorem putF_same {α : Type} [DecidableEq α] (f : α → Option Value) (x : α) (v : Option Value) : putF f x v x = v := if_pos rfl
theorem putF_other {α : Type} [DecidableEq α] {f : α → Option Value} {x y : α} {v : Option Value} (h : y ≠ x) : putF f x v y = f y := if_neg h
/-- Block b is a map of c entries, which holds f x at the key that reads as κ x. -/
def MapK {α : Type} (P : Program) (k : TypeId) (κ : α → Lit) (w : World) (b c : Nat) (f : α → Option Value) : Prop :=
  ∃ D : DataW Value, w.ownsMap P k tokR b c D ∧ Maps.size D = c ∧ ∀ x, Maps.has D (κ x) = (f x).isSome ∧ ∀ z, D.atKey (κ x) z = match f x with | some v => .held v | none => z
section
variable {α : Type} {P : Program} {k t e : TypeId} {κ : α → Lit} {w w' : World} {b c : Nat} {f : α → Option Value}
theorem own_exact {R : Value → Option (DataW Value × List MemPlace)} {n : Nat} {D : DataW Value} (h : w.ownsMap P k R b n D) : w.ownsMap P k R b (Maps.size D) D := by
  obtain ⟨es, clock, hb, F, _, rfl⟩ := h
  refine ⟨es, clock, hb, F, ?_, rfl⟩
  simp [Maps.size, length_sorted]
theorem MapK.made (w : World) (P : Program) (k : TypeId) (κ : α → Lit) : MapK P k κ (w.alloc (.map #[] 0)) w.heap.size 0 fun _ => none :=
  ⟨.map [], World.ownsMap_made w P k tokR, rfl, fun _ => ⟨rfl, fun _ => rfl⟩⟩
theorem MapK.lt (h : MapK P k κ w b c f) : b < w.heap.size := by obtain ⟨D, h, _⟩ := h; exact h.lt
theorem MapK.kept {row : Option Nat} (h : MapK P k κ w b c f) (hg : w.grownBy w' row) (hne : some b ≠ row) : MapK P k κ w' b c f := by
  obtain ⟨D, h, r⟩ := h
  exact ⟨D, h.kept hg hne, r⟩
theorem MapK.block (h : MapK P k κ w b c f) (hb : w'.heap[b]? = w.heap[b]?) : MapK P k κ w' b c f := by
  obtain ⟨D, ⟨es, clock, h1, h2⟩, r⟩ := h
  exact ⟨D, ⟨es, clock, hb.trans h1, h2⟩, r⟩
theorem MapK.below (h : MapK P k κ w b c f) (hb : Below w.heap.size w w') : MapK P k κ w' b c f := h.block (hb.block b h.lt)
theorem MapK.alloc (h : MapK P k κ w b c f) (o : Obj) : MapK P k κ (w.alloc o) b c f := by
  obtain ⟨D, h, r⟩ := h
  exact ⟨D, h.alloc o, r⟩
theorem MapK.drew (h : MapK P k κ w b c f) : MapK P k κ w.drew b c f := h
theorem MapK.set (h : MapK P k κ w b c f) {a : Addr} (ha : b ≠ a.block) (u : Value) : MapK P k κ (w.setCell a u) b c f := by
  obtain ⟨D, h, r⟩ := h
  exact ⟨D, h.setCell ha u, r⟩
theorem MapK.congr {g : α → Option Value} (h : MapK P k κ w b c f) (e : ∀ x, f x = g x) : MapK P k κ w b c g := by rwa [← funext e]
theorem MapK.look (h : MapK P k κ w b c f) (K : Keyed P k) (ht : P.underlying t = some (.map k e)) {z : Value} (hz : (zeroValue e).run P w = .ok z w) {key : Value} {x : α} (hkey : keyOf P k key = some (κ x)) :
    (Instr.lookup t (.map (some b)) key false).run P w = .ok ((f x).getD z) w := by
  obtain ⟨D, h, _, hv⟩ := h
  obtain ⟨v, ps, hrun, hR⟩ := h.lookup K ht hz (zd := .held z) (zp := []) rfl hkey
  rw [hrun]
  rw [(hv x).2] at hR
  simp only [tokR, Option.some.injEq, Prod.mk.injEq] at hR
  cases hf : f x with
  | none => rw [hf] at hR; simp only [DataW.held.injEq] at hR; rw [hR.1]; rfl
  | some u => rw [hf] at hR; simp only [DataW.held.injEq] at hR; rw [hR.1]; rfl
theorem MapK.put [DecidableEq α] (h : MapK P k κ w b c f) (hκ : ∀ x y, κ x = κ y → x = y) (K : Keyed P k) (ht : P.underlying t = some (.map k e)) (hn : c < maxLen) {key : Value} {x : α} (hkey : keyOf P k key = some (κ x)) (v : Value) :
    ∃ w', (Instr.mapUpdate t (.map (some b)) key v).run P w = .ok () w' ∧ MapK P k κ w' b (if (f x).isSome then c else c + 1) (putF f x (some v)) ∧ w.grownBy w' (some b) := by
  obtain ⟨D, h, hs, hv⟩ := h
  obtain ⟨w', hrun, h2, hg⟩ := h.update K ht hn hkey (R := tokR) (val := v) rfl
  have hsz : Maps.size (D.put (κ x) (.held v)) = if (f x).isSome then c else c + 1 := by
    rw [Maps.size_put (h.tidy K), hs, (hv x).1]
  refine ⟨w', hrun, ⟨_, by have := own_exact h2; rwa [hsz] at this, hsz, fun y => ?_⟩, hg⟩
  by_cases hy : y = x
  · subst hy
    rw [putF_same]
    exact ⟨Maps.has_put_same h.isMap (K.key hkey) _, fun z => Maps.atKey_put_same h.isMap (K.key hkey) _ z⟩
  · have hne : κ y ≠ κ x := fun e => hy (hκ _ _ e)
    rw [putF_other hy, Maps.has_put_other hne]
    refine ⟨(hv y).1, fun z => ?_⟩
    rw [Maps.atKey_put_other hne]
    exact (hv y).2 z
theorem MapK.len (h : MapK P k κ w b c f) (ht : P.underlying t = some (.map k e)) (ty : TypeId) : (Builtin.len_ #[t] ty #[.map (some b)]).run P w = .ok (.int .i64 c) w := by
  obtain ⟨D, h, hs, _⟩ := h
  rw [h.len ht, hs]
end
/-- The keys of an int map. -/
def κi (a : Int) : Lit := .int .i64 a
end Ci
end Go.Proofs.YtpmlhgmmobpilaaGreatDoor
namespace Go.Proofs.YtpmlhgmmobpilaaGreatDoor
open Go.RowKit Go.Shelf
namespace Ci
open Nt
/-- A link: company, holder, part. -/
abbrev Lk := Int × Int × Bool × ByteArray × ByteArray
def lkL (x : Lk) : List Value := [.int .i64 x.1, .int .i64 x.2.1, .bool x.2.2.1, .string x.2.2.2.1, .string x.2.2.2.2]
def InLk (W : World) (A : Option Addr) (l : List Lk) : Prop :=
  0 < l.length → ∃ b off, A = some ⟨b, off, none⟩ ∧ b < W.heap.size ∧ ∀ j (h : j < l.length), W.cell? ⟨b, off + j * 5, none⟩ = some (.int .i64 l[j].1) ∧ W.cell? ⟨b, off + j * 5 + 1, none⟩ = some (.int .i64 l[j].2.1) ∧
    W.cell? ⟨b, off + j * 5 + 2, none⟩ = some (.bool l[j].2.2.1) ∧ W.cell? ⟨b, off + j * 5 + 3, none⟩ = some (.string l[j].2.2.2.1) ∧ W.cell? ⟨b, off + j * 5 + 4, none⟩ = some (.string l[j].2.2.2.2)
def InStr (W : World) (A : Option Addr) (l : List ByteArray) : Prop :=
  0 < l.length → ∃ b off, A = some ⟨b, off, none⟩ ∧ b < W.heap.size ∧ ∀ j (h : j < l.length), W.cell? ⟨b, off + j, none⟩ = some (.string l[j])
def InInt (W : World) (A : Option Addr) (l : List Int) : Prop :=
  0 < l.length → ∃ b off, A = some ⟨b, off, none⟩ ∧ b < W.heap.size ∧ ∀ j (h : j < l.length), W.cell? ⟨b, off + j, none⟩ = some (.int .i64 l[j])
theorem InLk.below {W W' : World} {A : Option Addr} {l : List Lk} (h : InLk W A l) (hb : Below W.heap.size W W') : InLk W' A l := fun h0 => by
  obtain ⟨b, off, e, hl, hc⟩ := h h0
  refine ⟨b, off, e, Nat.lt_of_lt_of_le hl hb.size, fun j hj => ?_⟩
  obtain ⟨c1, c2, c3, c4, c5⟩ := hc j hj
  exact ⟨(hb.cell (p := ⟨b, _, none⟩) hl).trans c1, (hb.cell (p := ⟨b, _, none⟩) hl).trans c2, (hb.cell (p := ⟨b, _, none⟩) hl).trans c3, (hb.cell (p := ⟨b, _, none⟩) hl).trans c4, (hb.cell (p := ⟨b, _, none⟩) hl).trans c5⟩
theorem InStr.below {W W' : World} {A : Option Addr} {l : List ByteArray} (h : InStr W A l) (hb : Below W.heap.size W W') : InStr W' A l := fun h0 => by
  obtain ⟨b, off, e, hl, hc⟩ := h h0
  exact ⟨b, off, e, Nat.lt_of_lt_of_le hl hb.size, fun j hj => (hb.cell (p := ⟨b, _, none⟩) hl).trans (hc j hj)⟩
theorem InInt.below {W W' : World} {A : Option Addr} {l : List Int} (h : InInt W A l) (hb : Below W.heap.size W W') : InInt W' A l := fun h0 => by
  obtain ⟨b, off, e, hl, hc⟩ := h h0
  exact ⟨b, off, e, Nat.lt_of_lt_of_le hl hb.size, fun j hj => (hb.cell (p := ⟨b, _, none⟩) hl).trans (hc j hj)⟩
def OkAt (i c : Nat) : Prop := (97 ≤ c ∧ c ≤ 122) ∨ (65 ≤ c ∧ c ≤ 90) ∨ (i ≠ 0 ∧ (c = 95 ∨ (48 ≤ c ∧ c ≤ 57)))
instance (i c : Nat) : Decidable (OkAt i c) := inferInstanceAs (Decidable (_ ∨ _))
def identB (s : ByteArray) : Bool := decide (∀ i (h : i < s.size), OkAt i s[i].toNat) && (decide (0 < s.size) && decide (s.size ≤ 24))
theorem ident_bad {s : ByteArray} {i : Nat} (h : i < s.size) (hb : ¬ OkAt i s[i].toNat) : identB s = false := by
  unfold identB
  rw [decide_eq_false fun hc => hb (hc i h)]
  rfl
theorem ident_all {s : ByteArray} (h : ∀ i (h : i < s.size), OkAt i s[i].toNat) : identB s = (decide (0 < s.size) && decide (s.size ≤ 24)) := by
  unfold identB
  rw [decide_eq_true h]
  rfl
abbrev Rw := Bool × ByteArray × ByteArray
/-- How many 6000ths a part is; 0 if it is not allowed. -/
def unitsN (x : Rw) : Nat :=
  if validB x.1 x.2.1 x.2.2 = false ∨ x.1 = true ∨ 4 < x.2.1.size ∨ 4 < x.2.2.size then 0
  else if val x.2.2 < val x.2.1 ∨ 6000 % val x.2.2 ≠ 0 then 0 else val x.2.1 * (6000 / val x.2.2)
def lkP (x : Lk) : Rw := (x.2.2.1, x.2.2.2.1, x.2.2.2.2)
def sumU (l : List Lk) (c : Int) : Nat := ((l.filter fun x => decide (x.1 = c)).map fun x => unitsN (lkP x)).sum
/-- Behind another one. -/
def Rise (a b : Lk) : Prop := a.1 < b.1 ∨ (a.1 = b.1 ∧ a.2.1 < b.2.1)
instance (a b : Lk) : Decidable (Rise a b) := inferInstanceAs (Decidable (_ ∨ _))
/-- A link by itself. -/
def Own (n : Nat) (x : Lk) : Prop := (0 ≤ x.1 ∧ x.1 < n) ∧ (0 ≤ x.2.1 ∧ x.2.1 < n) ∧ x.1 ≠ x.2.1 ∧ unitsN (lkP x) ≠ 0
instance (n : Nat) (x : Lk) : Decidable (Own n x) := inferInstanceAs (Decidable (_ ∧ _))
def LinkAt (n : Nat) (l : List Lk) (i : Nat) (h : i < l.length) : Prop := Own n l[i] ∧ (0 < i → Rise (l[i - 1]'(by omega)) l[i]) ∧ sumU (l.take (i + 1)) l[i].1 ≤ 6000
instance (n : Nat) (l : List Lk) (i : Nat) (h : i < l.length) : Decidable (LinkAt n l i h) := inferInstanceAs (Decidable (_ ∧ _))
/-- A structure by what it holds. -/
structure SR where
  ps : List ByteArray
  cap : List Lk
  vot : List Lk
/-- The links of capital, from holder to company. -/
def edges (s : SR) : List (Nat × Nat) := s.cap.map fun x => (x.2.1.toNat, x.1.toNat)
end Ci
end Go.Proofs.YtpmlhgmmobpilaaGreatDoor
namespace Go.Proofs.YtpmlhgmmobpilaaGreatDoor
open Go.RowKit Go.Shelf
namespace Ci
open Nt
set_option maxRecDepth 100000 in
set_option maxHeartbeats 4000000 in
theorem Ident_w (s : ByteArray) (w : World) (hs : s.size ≤ 9223372036854775807) :
    Calls Tryz.prog 85 #[.string s] w fun e w' => e = .returned (.bool (identB s)) ∧ w' = w := by
  have HB := Lib.hid (fun (k : Nat) (h : k < s.size) (hb : ¬ OkAt k s[k].toNat) => ident_bad (s := s) h hb)
  have HA := Lib.hid (ident_all (s := s))
  by_cases hsz : s.size < 1 ∨ 24 < s.size
  · have HR : Hid (identB s = false) := by
      unfold Hid identB
      rcases hsz with h | h
      · rw [decide_eq_false (by omega : ¬ 0 < s.size)]; simp
      · rw [decide_eq_false (by omega : ¬ s.size ≤ 24)]; simp
    rcases hsz with h | h
    · go_enter Tryz.func85, Tryz.ntmps85
      go_wp2
      go_ret
      exact ⟨ret_bool HR.out.symm, rfl⟩
    · have h1 : ¬ s.size < 1 := by omega
      have h2 : decide ((s.size : Int) < 1) = false := by rw [decide_eq_false_iff_not]; omega
      go_enter Tryz.func85, Tryz.ntmps85
      go_wp2
      go_ret
      exact ⟨ret_bool HR.out.symm, rfl⟩
  have h1 : 1 ≤ s.size := by omega
  have h2 : s.size ≤ 24 := by omega
  have h3 : decide ((s.size : Int) < 1) = false := by rw [decide_eq_false_iff_not]; omega
  have h4 : decide (24 < (s.size : Int)) = false := by rw [decide_eq_false_iff_not]; omega
  clear hsz
  go_enter Tryz.func85, Tryz.ntmps85
  go_wp2
  go_loop [3] (fun i => ∃ k : Nat, k ≤ s.size ∧ i = .int .i64 k ∧ Hid (∀ i (h : i < s.size), i < k → OkAt i s[i].toNat)) (fun i => s.size - (intOf i).toNat)
  case atStart => exact ⟨0, Nat.zero_le _, rfl, fun i _ h => absurd h (Nat.not_lt_zero _)⟩
  case round =>
    obtain ⟨k, hk, rfl, hI⟩ := hrel
    by_cases hlt : k < s.size
    · have hc : s[k].toNat ≤ 255 := by have := s[k].toNat_lt; omega
      have i0 : (0 : Int) ≤ (k : Int) := by omega
      have i1 : (k : Int) < (s.size : Int) := by omega
      have HN : Hid (OkAt k s[k].toNat → ∀ i (h : i < s.size), i < k + 1 → OkAt i s[i].toNat) := fun h i hi h2 => by
        by_cases e : i = k
        · subst e; exact h
        · exact hI.out i hi (by omega)
      have HB2 := Lib.hid (HB.out k hlt)
      clear hI
      by_cases e0 : k = 0
      · have b0 : ((k : Int) == 0) = true := by rw [beq_iff_eq]; omega
        have b0n : ((k : Int) != 0) = false := by rw [bne_eq_false_iff_eq]; omega
        have b3 : (k == 0) = true := by rw [beq_iff_eq]; omega
        replace e0 := Lib.hid e0
        have hcl : (s[k].toNat ≤ 47 ∧ 0 ≤ s[k].toNat) ∨ (48 ≤ s[k].toNat ∧ s[k].toNat ≤ 57) ∨ (58 ≤ s[k].toNat ∧ s[k].toNat ≤ 64) ∨ (65 ≤ s[k].toNat ∧ s[k].toNat ≤ 90) ∨ (91 ≤ s[k].toNat ∧ s[k].toNat ≤ 94) ∨ (95 ≤ s[k].toNat ∧ s[k].toNat ≤ 95) ∨ (96 ≤ s[k].toNat ∧ s[k].toNat ≤ 96) ∨ (97 ≤ s[k].toNat ∧ s[k].toNat ≤ 122) ∨ (123 ≤ s[k].toNat ∧ s[k].toNat ≤ 255) := by omega
        rcases hcl with ⟨g1, g2⟩ | ⟨g1, g2⟩ | ⟨g1, g2⟩ | ⟨g1, g2⟩ | ⟨g1, g2⟩ | ⟨g1, g2⟩ | ⟨g1, g2⟩ | ⟨g1, g2⟩ | ⟨g1, g2⟩
        · have b1 : ((s[k].toNat : Int) != 95) = true := by rw [bne_iff_ne]; omega
          have b2 : ((s[k].toNat : Int) == 95) = false := by rw [beq_eq_false_iff_ne]; omega
          have HR : Hid (identB s = false) := HB2.out (by have := e0.out; unfold OkAt; omega)
          clear HN HB2
          go_wp2
          go_ret
          exact ⟨ret_bool HR.out.symm, rfl⟩
        · have b1 : ((s[k].toNat : Int) != 95) = true := by rw [bne_iff_ne]; omega
          have b2 : ((s[k].toNat : Int) == 95) = false := by rw [beq_eq_false_iff_ne]; omega
          have HR : Hid (identB s = false) := HB2.out (by have := e0.out; unfold OkAt; omega)
          clear HN HB2
          go_wp2
          go_ret
          exact ⟨ret_bool HR.out.symm, rfl⟩
        · have b1 : ((s[k].toNat : Int) != 95) = true := by rw [bne_iff_ne]; omega
          have b2 : ((s[k].toNat : Int) == 95) = false := by rw [beq_eq_false_iff_ne]; omega
          have HR : Hid (identB s = false) := HB2.out (by have := e0.out; unfold OkAt; omega)
          clear HN HB2
          go_wp2
          go_ret
          exact ⟨ret_bool HR.out.symm, rfl⟩
        · have b1 : ((s[k].toNat : Int) != 95) = true := by rw [bne_iff_ne]; omega
          have b2 : ((s[k].toNat : Int) == 95) = false := by rw [beq_eq_false_iff_ne]; omega
          have HR := Lib.hid (HN.out (by have := e0.out; unfold OkAt; omega))
          clear HN HB2
          go_wp2
          go_round
          case rel => exact ⟨k + 1, by omega, by go_num, HR⟩
          case measure => simp [intOf]; omega
        · have b1 : ((s[k].toNat : Int) != 95) = true := by rw [bne_iff_ne]; omega
          have b2 : ((s[k].toNat : Int) == 95) = false := by rw [beq_eq_false_iff_ne]; omega
          have c1 : decide ((s[k].toNat : Int) ≤ 90) = false := by rw [decide_eq_false_iff_not]; omega
          have d1 : decide (s[k].toNat ≤ 90) = false := by rw [decide_eq_false_iff_not]; omega
          have n1 : ¬ ((s[k].toNat : Int) ≤ 90) := by omega
          have HR : Hid (identB s = false) := HB2.out (by have := e0.out; unfold OkAt; omega)
          clear HN HB2
          go_wp2
          go_ret
          exact ⟨ret_bool HR.out.symm, rfl⟩
        · have b1 : ((s[k].toNat : Int) != 95) = false := by rw [bne_eq_false_iff_eq]; omega
          have b2 : ((s[k].toNat : Int) == 95) = true := by rw [beq_iff_eq]; omega
          have c1 : decide ((s[k].toNat : Int) ≤ 90) = false := by rw [decide_eq_false_iff_not]; omega
          have d1 : decide (s[k].toNat ≤ 90) = false := by rw [decide_eq_false_iff_not]; omega
          have n1 : ¬ ((s[k].toNat : Int) ≤ 90) := by omega
          have HR : Hid (identB s = false) := HB2.out (by have := e0.out; unfold OkAt; omega)
          clear HN HB2
          go_wp2
          go_ret
          exact ⟨ret_bool HR.out.symm, rfl⟩
        · have b1 : ((s[k].toNat : Int) != 95) = true := by rw [bne_iff_ne]; omega
          have b2 : ((s[k].toNat : Int) == 95) = false := by rw [beq_eq_false_iff_ne]; omega
          have c1 : decide ((s[k].toNat : Int) ≤ 90) = false := by rw [decide_eq_false_iff_not]; omega
          have d1 : decide (s[k].toNat ≤ 90) = false := by rw [decide_eq_false_iff_not]; omega
          have n1 : ¬ ((s[k].toNat : Int) ≤ 90) := by omega
          have HR : Hid (identB s = false) := HB2.out (by have := e0.out; unfold OkAt; omega)
          clear HN HB2
          go_wp2
          go_ret
          exact ⟨ret_bool HR.out.symm, rfl⟩
        · have b1 : ((s[k].toNat : Int) != 95) = true := by rw [bne_iff_ne]; omega
          have b2 : ((s[k].toNat : Int) == 95) = false := by rw [beq_eq_false_iff_ne]; omega
          have c1 : decide ((s[k].toNat : Int) ≤ 90) = false := by rw [decide_eq_false_iff_not]; omega
          have d1 : decide (s[k].toNat ≤ 90) = false := by rw [decide_eq_false_iff_not]; omega
          have n1 : ¬ ((s[k].toNat : Int) ≤ 90) := by omega
          have HR := Lib.hid (HN.out (by have := e0.out; unfold OkAt; omega))
          clear HN HB2
          go_wp2
          go_round
          case rel => exact ⟨k + 1, by omega, by go_num, HR⟩
          case measure => simp [intOf]; omega
        · have b1 : ((s[k].toNat : Int) != 95) = true := by rw [bne_iff_ne]; omega
          have b2 : ((s[k].toNat : Int) == 95) = false := by rw [beq_eq_false_iff_ne]; omega
          have c0 : decide ((s[k].toNat : Int) ≤ 122) = false := by rw [decide_eq_false_iff_not]; omega
          have d0 : decide (s[k].toNat ≤ 122) = false := by rw [decide_eq_false_iff_not]; omega
          have n0 : ¬ ((s[k].toNat : Int) ≤ 122) := by omega
          have c1 : decide ((s[k].toNat : Int) ≤ 90) = false := by rw [decide_eq_false_iff_not]; omega
          have d1 : decide (s[k].toNat ≤ 90) = false := by rw [decide_eq_false_iff_not]; omega
          have n1 : ¬ ((s[k].toNat : Int) ≤ 90) := by omega
          have HR : Hid (identB s = false) := HB2.out (by have := e0.out; unfold OkAt; omega)
          clear HN HB2
          go_wp2
          go_ret
          exact ⟨ret_bool HR.out.symm, rfl⟩
      · have b0 : ((k : Int) == 0) = false := by rw [beq_eq_false_iff_ne]; omega
        have b0n : ((k : Int) != 0) = true := by rw [bne_iff_ne]; omega
        have b3 : (k == 0) = false := by rw [beq_eq_false_iff_ne]; omega
        have hcl : (s[k].toNat ≤ 47 ∧ 0 ≤ s[k].toNat) ∨ (48 ≤ s[k].toNat ∧ s[k].toNat ≤ 57) ∨ (58 ≤ s[k].toNat ∧ s[k].toNat ≤ 64) ∨ (65 ≤ s[k].toNat ∧ s[k].toNat ≤ 90) ∨ (91 ≤ s[k].toNat ∧ s[k].toNat ≤ 94) ∨ (95 ≤ s[k].toNat ∧ s[k].toNat ≤ 95) ∨ (96 ≤ s[k].toNat ∧ s[k].toNat ≤ 96) ∨ (97 ≤ s[k].toNat ∧ s[k].toNat ≤ 122) ∨ (123 ≤ s[k].toNat ∧ s[k].toNat ≤ 255) := by omega
        rcases hcl with ⟨g1, g2⟩ | ⟨g1, g2⟩ | ⟨g1, g2⟩ | ⟨g1, g2⟩ | ⟨g1, g2⟩ | ⟨g1, g2⟩ | ⟨g1, g2⟩ | ⟨g1, g2⟩ | ⟨g1, g2⟩
        · have b1 : ((s[k].toNat : Int) != 95) = true := by rw [bne_iff_ne]; omega
          have b2 : ((s[k].toNat : Int) == 95) = false := by rw [beq_eq_false_iff_ne]; omega
          have HR : Hid (identB s = false) := HB2.out (by unfold OkAt; omega)
          clear HN HB2
          go_wp2
          go_ret
          exact ⟨ret_bool HR.out.symm, rfl⟩
        · have b1 : ((s[k].toNat : Int) != 95) = true := by rw [bne_iff_ne]; omega
          have b2 : ((s[k].toNat : Int) == 95) = false := by rw [beq_eq_false_iff_ne]; omega
          have HR := Lib.hid (HN.out (by unfold OkAt; omega))
          clear HN HB2
          go_wp2
          go_round
          case rel => exact ⟨k + 1, by omega, by go_num, HR⟩
          case measure => simp [intOf]; omega
        · have b1 : ((s[k].toNat : Int) != 95) = true := by rw [bne_iff_ne]; omega
          have b2 : ((s[k].toNat : Int) == 95) = false := by rw [beq_eq_false_iff_ne]; omega
          have HR : Hid (identB s = false) := HB2.out (by unfold OkAt; omega)
          clear HN HB2
          go_wp2
          go_ret
          exact ⟨ret_bool HR.out.symm, rfl⟩
        · have b1 : ((s[k].toNat : Int) != 95) = true := by rw [bne_iff_ne]; omega
          have b2 : ((s[k].toNat : Int) == 95) = false := by rw [beq_eq_false_iff_ne]; omega
          have HR := Lib.hid (HN.out (by unfold OkAt; omega))
          clear HN HB2
          go_wp2
          go_round
          case rel => exact ⟨k + 1, by omega, by go_num, HR⟩
          case measure => simp [intOf]; omega
        · have b1 : ((s[k].toNat : Int) != 95) = true := by rw [bne_iff_ne]; omega
          have b2 : ((s[k].toNat : Int) == 95) = false := by rw [beq_eq_false_iff_ne]; omega
          have c1 : decide ((s[k].toNat : Int) ≤ 90) = false := by rw [decide_eq_false_iff_not]; omega
          have d1 : decide (s[k].toNat ≤ 90) = false := by rw [decide_eq_false_iff_not]; omega
          have n1 : ¬ ((s[k].toNat : Int) ≤ 90) := by omega
          have HR : Hid (identB s = false) := HB2.out (by unfold OkAt; omega)
          clear HN HB2
          go_wp2
          go_ret
          exact ⟨ret_bool HR.out.symm, rfl⟩
        · have b1 : ((s[k].toNat : Int) != 95) = false := by rw [bne_eq_false_iff_eq]; omega
          have b2 : ((s[k].toNat : Int) == 95) = true := by rw [beq_iff_eq]; omega
          have c1 : decide ((s[k].toNat : Int) ≤ 90) = false := by rw [decide_eq_false_iff_not]; omega
          have d1 : decide (s[k].toNat ≤ 90) = false := by rw [decide_eq_false_iff_not]; omega
          have n1 : ¬ ((s[k].toNat : Int) ≤ 90) := by omega
          have HR := Lib.hid (HN.out (by unfold OkAt; omega))
          clear HN HB2
          go_wp2
          go_round
          case rel => exact ⟨k + 1, by omega, by go_num, HR⟩
          case measure => simp [intOf]; omega
        · have b1 : ((s[k].toNat : Int) != 95) = true := by rw [bne_iff_ne]; omega
          have b2 : ((s[k].toNat : Int) == 95) = false := by rw [beq_eq_false_iff_ne]; omega
          have c1 : decide ((s[k].toNat : Int) ≤ 90) = false := by rw [decide_eq_false_iff_not]; omega
          have d1 : decide (s[k].toNat ≤ 90) = false := by rw [decide_eq_false_iff_not]; omega
          have n1 : ¬ ((s[k].toNat : Int) ≤ 90) := by omega
          have HR : Hid (identB s = false) := HB2.out (by unfold OkAt; omega)
          clear HN HB2
          go_wp2
          go_ret
          exact ⟨ret_bool HR.out.symm, rfl⟩
        · have b1 : ((s[k].toNat : Int) != 95) = true := by rw [bne_iff_ne]; omega
          have b2 : ((s[k].toNat : Int) == 95) = false := by rw [beq_eq_false_iff_ne]; omega
          have c1 : decide ((s[k].toNat : Int) ≤ 90) = false := by rw [decide_eq_false_iff_not]; omega
          have d1 : decide (s[k].toNat ≤ 90) = false := by rw [decide_eq_false_iff_not]; omega
          have n1 : ¬ ((s[k].toNat : Int) ≤ 90) := by omega
          have HR := Lib.hid (HN.out (by unfold OkAt; omega))
          clear HN HB2
          go_wp2
          go_round
          case rel => exact ⟨k + 1, by omega, by go_num, HR⟩
          case measure => simp [intOf]; omega
        · have b1 : ((s[k].toNat : Int) != 95) = true := by rw [bne_iff_ne]; omega
          have b2 : ((s[k].toNat : Int) == 95) = false := by rw [beq_eq_false_iff_ne]; omega
          have c0 : decide ((s[k].toNat : Int) ≤ 122) = false := by rw [decide_eq_false_iff_not]; omega
          have d0 : decide (s[k].toNat ≤ 122) = false := by rw [decide_eq_false_iff_not]; omega
          have n0 : ¬ ((s[k].toNat : Int) ≤ 122) := by omega
          have c1 : decide ((s[k].toNat : Int) ≤ 90) = false := by rw [decide_eq_false_iff_not]; omega
          have d1 : decide (s[k].toNat ≤ 90) = false := by rw [decide_eq_false_iff_not]; omega
          have n1 : ¬ ((s[k].toNat : Int) ≤ 90) := by omega
          have HR : Hid (identB s = false) := HB2.out (by unfold OkAt; omega)
          clear HN HB2
          go_wp2
          go_ret
          exact ⟨ret_bool HR.out.symm, rfl⟩
    · obtain rfl : k = s.size := by omega
      have HE : Hid (identB s = true) := by
        have h := HA.out fun i h => hI.out i h h
        rwa [decide_eq_true (by omega : 0 < s.size), decide_eq_true h2] at h
      clear hI
      go_wp2
      go_ret
      exact ⟨ret_bool HE.out.symm, rfl⟩
end Ci
end Go.Proofs.YtpmlhgmmobpilaaGreatDoor
namespace Go.Proofs.YtpmlhgmmobpilaaGreatDoor
open Go.RowKit Go.Shelf
namespace Ci
open Nt
theorem valid_parts {g : Bool} {n d : ByteArray} (h : validB g n d = true) : isN n = true ∧ isN d = true ∧ val d ≠ 0 := by
  unfold validB at h
  simp only [Bool.and_eq_true] at h
  obtain ⟨h1, h2, h3, _⟩ := h
  exact ⟨h1, h2, by simpa using h3⟩
end Ci
end Go.Proofs.YtpmlhgmmobpilaaGreatDoor
namespace Go.Proofs.YtpmlhgmmobpilaaGreatDoor
open Go.RowKit Go.Shelf
namespace Ci
open Nt
def regsOf : Code → List Code
  | .loop c => regsOf c
  | .seq a b => regsOf a ++ regsOf b
  | .block _ c => regsOf c
  | .scope c => regsOf c
  | .cond _ a b => regsOf a ++ regsOf b
  | .region a b c => [.region a b c]
  | _ => []
end Ci
end Go.Proofs.YtpmlhgmmobpilaaGreatDoor
namespace Go.Proofs.YtpmlhgmmobpilaaGreatDoor
open Go.RowKit Go.Shelf
namespace Ci
open Nt
/-- A block that is a row of cells, and nothing else. -/
def Bk (W : World) (b : Nat) (t : TypeId) (l : List Value) : Prop := W.heap[b]? = some (.cells l.toArray t (0, 0))
section
variable {W W' : World} {b : Nat} {t : TypeId} {l : List Value}
theorem Bk.lt (h : Bk W b t l) : b < W.heap.size := (Array.getElem?_eq_some_iff.1 h).1
theorem Bk.cell (h : Bk W b t l) {j : Nat} {v : Value} (hj : l[j]? = some v) : W.cell? ⟨b, j, none⟩ = some v := by
  unfold Bk at h
  simp [World.cell?, h, hj]
theorem Bk.frozen (h : Bk W b t l) (j : Nat) : W.frozen? ⟨b, j, none⟩ = false := by
  unfold Bk at h
  simp [World.frozen?, h]
theorem Bk.new (w : World) (t : TypeId) (l : List Value) : Bk (w.alloc (.cells l.toArray t)) w.heap.size t l := heap_alloc_new _ _
theorem Bk.below (h : Bk W b t l) (hb : Below W.heap.size W W') : Bk W' b t l := (hb.block b h.lt).trans h
theorem Bk.alloc (h : Bk W b t l) (o : Obj) : Bk (W.alloc o) b t l := (Below.heap_alloc W o b h.lt).trans h
theorem Bk.grown {row : Option Nat} (h : Bk W b t l) (hg : W.grownBy W' row) (hne : some b ≠ row) : Bk W' b t l := (hg.block b h.lt hne).trans h
theorem Bk.far (h : Bk W b t l) {p : Addr} (hp : b ≠ p.block) (v : Value) : Bk (W.setCell p v) b t l := (Below.heap_setCell _ _ _ _ hp).trans h
theorem Bk.set (h : Bk W b t l) (j : Nat) (v : Value) : Bk (W.setCell ⟨b, j, none⟩ v) b t (l.set j v) := by
  unfold Bk at h ⊢
  simp [World.setCell, Array.getElem?_modify, h]
end
end Ci
end Go.Proofs.YtpmlhgmmobpilaaGreatDoor
namespace Go.Proofs.YtpmlhgmmobpilaaGreatDoor
open Go.RowKit Go.Shelf
namespace Ci
open Nt
/-- A structure in memory. -/
structure StIn (w : World) (s : SR) (Ap Ac Av : Option Addr) : Prop where
  ps : InStr w Ap s.ps
  cap : InLk w Ac s.cap
  vot : InLk w Av s.vot
  np : s.ps.length ≤ 140737488355328
  nc : s.cap.length ≤ 140737488355328
  nv : s.vot.length ≤ 140737488355328
  zp : ∀ x, x ∈ s.ps → x.size ≤ 140737488355328
  zc : ∀ x, x ∈ s.cap → x.2.2.2.1.size ≤ 140737488355328 ∧ x.2.2.2.2.size ≤ 140737488355328
  zv : ∀ x, x ∈ s.vot → x.2.2.2.1.size ≤ 140737488355328 ∧ x.2.2.2.2.size ≤ 140737488355328
  ic : ∀ x, x ∈ s.cap → (-9223372036854775808 ≤ x.1 ∧ x.1 ≤ 9223372036854775807) ∧ (-9223372036854775808 ≤ x.2.1 ∧ x.2.1 ≤ 9223372036854775807)
  iv : ∀ x, x ∈ s.vot → (-9223372036854775808 ≤ x.1 ∧ x.1 ≤ 9223372036854775807) ∧ (-9223372036854775808 ≤ x.2.1 ∧ x.2.1 ≤ 9223372036854775807)
theorem StIn.below {w w' : World} {s : SR} {Ap Ac Av : Option Addr} (h : StIn w s Ap Ac Av) (hb : Below w.heap.size w w') : StIn w' s Ap Ac Av :=
  ⟨h.ps.below hb, h.cap.below hb, h.vot.below hb, h.np, h.nc, h.nv, h.zp, h.zc, h.zv, h.ic, h.iv⟩
abbrev SC (s : SR) (Ap Ac Av : Option Addr) (cp cc cv : Nat) : List Value := [.slice Ap s.ps.length cp, .slice Ac s.cap.length cc, .slice Av s.vot.length cv]
end Ci
end Go.Proofs.YtpmlhgmmobpilaaGreatDoor
namespace Go.Proofs.YtpmlhgmmobpilaaGreatDoor
open Go.RowKit Go.Shelf
namespace Ci
def intsL (l : List Nat) : List Value := l.map fun (q : Nat) => .int .i64 (q : Int)
theorem intsL_snoc (l : List Nat) (q : Nat) : intsL (l ++ [q]) = intsL l ++ [.int .i64 (q : Int)] := by simp [intsL]
def OffB (u v : Value) : Prop := ∀ b, u.ownBlock = some b → v.ownBlock ≠ some b
/-- Block R has the headers of n slices of ints. -/
structure Gr (W : World) (B R n : Nat) (v : Nat → Value) (adj : Nat → List Nat) : Prop where
  lt : R < W.heap.size
  hd : ∀ i, i < n → W.cell? ⟨R, i, none⟩ = some (v i)
  fr : ∀ i, W.frozen? ⟨R, i, none⟩ = false
  rows : ∀ i, i < n → W.ownsRow B 3 1 (v i) (adj i).length (intsL (adj i))
  apart : ∀ i j, i < n → j < n → i ≠ j → OffB (v i) (v j)
  ne : ∀ i, i < n → (v i).ownBlock ≠ some R
  lowR : B ≤ R
section
variable {W W' : World} {B R n i : Nat} {v : Nat → Value} {adj : Nat → List Nat}
theorem own_below' {base : Nat} {e : TypeId} {size m : Nat} {u : Value} {xs : List Value} (h : W.ownsRow base e size u m xs) (hb : Below W.heap.size W W') : W'.ownsRow base e size u m xs :=
  h.kept (row := none) ⟨hb.os, hb.tape, hb.output, hb.size, fun k hk _ => hb.block k hk⟩ (by
    cases hu : u.ownBlock with
    | none => exact .inl rfl
    | some b => exact .inr (by simp))
theorem Gr.below (h : Gr W B R n v adj) (hb : Below W.heap.size W W') : Gr W' B R n v adj :=
  ⟨Nat.lt_of_lt_of_le h.lt hb.size, fun i hi => (hb.cell (p := ⟨R, i, none⟩) h.lt).trans (h.hd i hi), fun i => (hb.frozen (p := ⟨R, i, none⟩) h.lt).trans (h.fr i), fun i hi => own_below' (h.rows i hi) hb, h.apart, h.ne, h.lowR⟩
theorem Gr.alloc (h : Gr W B R n v adj) (o : Obj) : Gr (W.alloc o) B R n v adj := h.below ((Below.refl _ W).alloc (Nat.le_refl _) o)
theorem Gr.drew (h : Gr W B R n v adj) : Gr W.drew B R n v adj := h.below (Below.refl _ W).drew
theorem Gr.mono {B' : Nat} (h : Gr W B R n v adj) (hb : B' ≤ B) : Gr W B' R n v adj :=
  ⟨h.lt, h.hd, h.fr, fun i hi => by
    obtain ⟨h1, h2⟩ := h.rows i hi
    refine ⟨h1, ?_⟩
    rcases h2 with h2 | ⟨g, cap, cur, hv, hg, hh⟩
    · exact .inl h2
    · exact .inr ⟨g, cap, cur, hv, Nat.le_trans hb hg, hh⟩, h.apart, h.ne, Nat.le_trans hb h.lowR⟩
theorem Gr.start (w : World) {B : Nat} (hB : B ≤ w.heap.size) (n : Nat) (t : TypeId) : Gr (w.alloc (.cells (madeCells #[.slice none 0 0] n) t)) B w.heap.size n (fun _ => .slice none 0 0) fun _ => [] := by
  have h := heap_alloc_new w (.cells (madeCells #[(.slice none 0 0 : Value)] n) t)
  refine ⟨by simp, fun x hx => ?_, fun x => by simp only [World.frozen?, h]; simp, fun _ _ => World.ownsRow_nil _ _ _ _, fun _ _ _ _ _ b hb => (by cases hb), fun _ _ hb => (by cases hb), hB⟩
  simp only [World.cell?, h]
  simp [madeCells, hx]
  rw [Nat.mod_one]
  rfl
def setL (adj : Nat → List Nat) (x q : Nat) : Nat → List Nat := fun i => if i = x then adj i ++ [q] else adj i
/-- A row has grown, and its header is stored anew. -/
theorem Gr.step (h : Gr W B R n v adj) {x q : Nat} (hx : x < n) {u : Value} (hg : W.grownBy W' (v x).ownBlock) (ho : W'.ownsRow B 3 1 u ((adj x).length + 1) (intsL (adj x) ++ [.int .i64 (q : Int)])) (hn : u.ownBlock = (v x).ownBlock ∨ u.ownBlock = some W.heap.size) :
    Gr (W'.setCell ⟨R, x, none⟩ u) B R n (fun i => if i = x then u else v i) (setL adj x q) := by
  have hRx : some R ≠ (v x).ownBlock := fun e => h.ne x hx e.symm
  have hbR : W'.heap[R]? = W.heap[R]? := hg.block R h.lt hRx
  have hcell : ∀ i, W'.cell? ⟨R, i, none⟩ = W.cell? ⟨R, i, none⟩ := fun i => World.cell?_of_block (a := ⟨R, i, none⟩) hbR
  have hfr : ∀ i, W'.frozen? ⟨R, i, none⟩ = W.frozen? ⟨R, i, none⟩ := fun i => World.frozen?_of_block (a := ⟨R, i, none⟩) hbR
  have huR : u.ownBlock ≠ some R := fun e => by
    rcases hn with hn | hn
    · exact h.ne x hx (by rw [← hn, e])
    · rw [e] at hn
      have := h.lt
      simp only [Option.some.injEq] at hn
      omega
  have hne : ∀ a b : Nat, a ≠ b → (⟨R, a, none⟩ : Addr) ≠ ⟨R, b, none⟩ := fun a b e1 e2 => by injection e2 with _ e3; exact e1 e3
  have far : ∀ {m : Nat} {z : Value} {xs : List Value}, W'.ownsRow B 3 1 z m xs → z.ownBlock ≠ some R → (W'.setCell ⟨R, x, none⟩ u).ownsRow B 3 1 z m xs := fun h hz =>
    h.kept (row := some R) ⟨rfl, rfl, rfl, by simp, fun k _ hk => Below.heap_setCell _ _ _ _ (fun e => hk (by rw [e]))⟩ (.inr hz)
  have hoff : ∀ i, i < n → i ≠ x → OffB (v i) u := fun i hi hix b hb e => by
    rcases hn with hn | hn
    · exact h.apart i x hi hx hix b hb (by rw [← hn, e])
    · have := ((h.rows i hi).lt b hb).2
      rw [e] at hn
      simp only [Option.some.injEq] at hn
      omega
  refine ⟨by have := hg.size; have := h.lt; simp; omega, fun i hi => ?_, fun i => by simpa [hfr] using h.fr i, fun i hi => ?_, fun i j hi hj e => ?_, fun i hi => ?_, h.lowR⟩
  · by_cases e : i = x
    · subst e
      rw [if_pos rfl]
      exact World.cell?_setCell_same _ _ _ ((hcell i).trans (h.hd i hi))
    · rw [if_neg e, World.cell?_setCell_other _ _ _ _ (by first | exact hne _ _ e | exact hne _ _ fun c => e c.symm), hcell]
      exact h.hd i hi
  · by_cases e : i = x
    · subst e
      rw [if_pos rfl]
      have : setL adj i q i = adj i ++ [q] := if_pos rfl
      rw [this, List.length_append, intsL_snoc]
      exact far ho huR
    · rw [if_neg e]
      have : setL adj x q i = adj i := if_neg e
      rw [this]
      refine far ((h.rows i hi).kept hg ?_) (h.ne i hi)
      cases hv : (v i).ownBlock with
      | none => exact .inl rfl
      | some b => exact .inr fun c => h.apart i x hi hx e b hv c.symm
  · by_cases e1 : i = x
    · have e2 : j ≠ x := fun c => e (by rw [e1, c])
      rw [if_pos e1, if_neg e2]
      exact fun b hb hc => hoff j hj e2 b hc hb
    · rw [if_neg e1]
      by_cases e2 : j = x
      · rw [if_pos e2]
        exact hoff i hi e1
      · rw [if_neg e2]
        exact h.apart i j hi hj e
  · by_cases e : i = x
    · rw [if_pos e]; exact huR
    · rw [if_neg e]; exact h.ne i hi
theorem Gr.congr {a' : Nat → List Nat} (h : Gr W B R n v adj) (e : ∀ i, i < n → adj i = a' i) : Gr W B R n v a' :=
  ⟨h.lt, h.hd, h.fr, fun i hi => by rw [← e i hi]; exact h.rows i hi, h.apart, h.ne, h.lowR⟩
end
end Ci
end Go.Proofs.YtpmlhgmmobpilaaGreatDoor
namespace Go.Proofs.YtpmlhgmmobpilaaGreatDoor
open Go.RowKit Go.Shelf
namespace Ci
section
variable {w w' : World} {base : Nat} {e : TypeId} {size : Nat} {u v v' : Value} {n : Nat} {xs : List Value}
theorem run_append_at {P : Program} (t ty e : TypeId) (i : TypeInfo) (z : Value) (size bytes : Nat) (ht : P.underlying t = some (.slice e)) (hi : P.info? e = some i) (hz : i.zero = some z)
    (hsize : i.size = size) (hby : i.bytes = bytes) (v : Value) (n : Nat) (xs : List Value) (hown : w.ownsRow base e size v n xs)
    (a : Addr) (m c : Nat) (news : List Value) (hl : news.length = m * size) (hnews : ∀ j u, news[j]? = some u → w.cell? (a.add j) = some u) (h1 : ∀ u ∈ news, u.oneCell' = true) (hm : 0 < m)
    (h63 : n + m ≤ maxLen) (hbytes : (n + m) * bytes ≤ 140737488355328) {v' : Value} {w' : World} (hr : (Builtin.append_ #[t, t] ty #[v, .slice (some a) m c]).run P w = .ok v' w') :
    v'.ownBlock = v.ownBlock ∨ v'.ownBlock = some w.heap.size := by
  subst hsize
  subst hby
  have hsmall : n + m ≤ 9223372036854775807 := by simp only [maxLen] at h63; omega
  rcases hown.2 with ⟨rfl, rfl⟩ | ⟨g, cap, cur, rfl, _, hg, _, hcm, hcs, _⟩
  · have hr2 := run_append_nil (P := P) w t ty e i z ht hi hz a m c news hl hnews (by omega) (by omega) (by have hb := hbytes; simp only [Nat.zero_add] at hb; omega)
    rw [hr2] at hr
    simp only [Result.ok.injEq] at hr
    rw [← hr.1]
    exact .inr rfl
  · by_cases hroom : n + m ≤ cap
    · have hfit : n * i.size + news.length ≤ cur.size := by rw [hl, hcs, ← Nat.add_mul]; exact Nat.mul_le_mul_right _ hroom
      have hr2 := run_append_room (P := P) w t ty e i ht hi g n cap cur hg a m c news hl hnews h1 hroom hfit
      rw [hr2] at hr
      simp only [Result.ok.injEq] at hr
      rw [← hr.1]
      exact .inl rfl
    · have holds : ∀ j u, xs[j]? = some u → w.cell? ((⟨g, 0, none⟩ : Addr).add j) = some u := hown.cells (g := g) rfl
      have hr2 := run_append_grow (P := P) w t ty e i z ht hi hz ⟨g, 0, none⟩ n cap xs hown.1 holds a m c news hl hnews (by omega) (by omega) (growslice_fits (by omega) hbytes)
      rw [hr2] at hr
      simp only [Result.ok.injEq] at hr
      rw [← hr.1]
      exact .inr rfl
end
theorem one_cell1 (v : Value) (h : v.oneCell' = true) : ∀ u ∈ [v], u.oneCell' = true := fun u hu => by rw [List.mem_singleton.1 hu]; exact h
theorem head_new (w : World) (v : Value) (t : TypeId) : ∀ j u, [v][j]? = some u → (w.alloc (.cells #[v] t)).cell? (Addr.add ⟨w.heap.size, 0, none⟩ j) = some u := by
  intro j u hj
  match j, hj with
  | 0, hj => simp at hj; subst hj; simp [Addr.add]
  | j + 1, hj => simp at hj
theorem wp_append_new {P : Program} (w : World) {o : Oper} {a : Act} {K : Act → World → Prop} {Q : Exit → Act → World → Prop} (s x : Operand) (t : TypeId)
    (ho : o.op = .call { callee := .builtin .append, args := #[s, x], argTypes := #[t, t] })
    (base : Nat) (e : TypeId) (i : TypeInfo) (z : Value) (size bytes : Nat) (ht : P.underlying t = some (.slice e)) (hi : P.info? e = some i) (hz : i.zero = some z)
    (hsize : i.size = size) (hby : i.bytes = bytes) (hzs : z.cells.size = size) (hsz : 0 < size)
    (v : Value) (n : Nat) (xs : List Value) (hs : a.eval s = v) (hown : w.ownsRow base e size v n xs)
    (ad : Addr) (m c : Nat) (news : List Value) (hx : a.eval x = .slice (some ad) m c) (hl : news.length = m * size) (hnews : ∀ j u, news[j]? = some u → w.cell? (ad.add j) = some u) (h1 : ∀ u ∈ news, u.oneCell' = true) (hm : 0 < m)
    (h63 : n + m ≤ maxLen) (hbytes : (n + m) * bytes ≤ 140737488355328) (hbase : base ≤ w.heap.size)
    (h : ∀ v' w', w'.ownsRow base e size v' (n + m) (xs ++ news) → w.grownBy w' v.ownBlock → (v'.ownBlock = v.ownBlock ∨ v'.ownBlock = some w.heap.size) → K (a.put o.dst v') w') : o.wp P a w K Q := by
  obtain ⟨v', w', hr, h2, h3, _⟩ := run_append_own (P := P) w base t o.type e i z size bytes ht hi hz hsize hby hzs hsz v n xs hown ad m c news hl hnews h1 h63 hbytes hbase
  have h5 := run_append_at (P := P) t o.type e i z size bytes ht hi hz hsize hby v n xs hown ad m c news hl hnews h1 hm h63 hbytes hr
  unfold Oper.wp execOp
  simp only [ho, resolve, invoke, builtin, Sem.run_bind, Sem.run_pure, Result.andThen_ok, List.map_toArray, List.map_cons, List.map_nil, hs, hx, hr]
  exact h v' w' h2 h3 h5
end Ci
end Go.Proofs.YtpmlhgmmobpilaaGreatDoor
namespace Go.Proofs.YtpmlhgmmobpilaaGreatDoor
open Go.RowKit Go.Shelf
namespace Ci
open Nt
theorem infoG : (Tryz.prog.info? 24).map (fun i => (i.zero, i.size, i.bytes)) = some (some (.slice none 0 0), 1, 24) := by kernel_rfl
theorem infoI : (Tryz.prog.info? 3).map (fun i => (i.zero, i.size, i.bytes)) = some (some (.int .i64 0), 1, 8) := by kernel_rfl
/-- Whom party p leads to, by the first k links. -/
def adjO (E : List (Nat × Nat)) (k p : Nat) : List Nat := ((E.take k).filter fun x => decide (x.1 = p)).map (·.2)
theorem adjO_succ {E : List (Nat × Nat)} {k : Nat} (h : k < E.length) (p : Nat) : adjO E (k + 1) p = setL (adjO E k) E[k].1 E[k].2 p := by
  unfold adjO setL
  rw [List.take_succ_eq_append_getElem h, List.filter_append, List.map_append]
  by_cases e : E[k].1 = p
  · rw [if_pos e.symm, List.filter_cons, if_pos (by simpa using e)]; rfl
  · rw [if_neg (fun c => e c.symm), List.filter_cons, if_neg (by simpa using e)]; simp
set_option maxRecDepth 100000 in
set_option maxHeartbeats 16000000 in
theorem of_any (s : SR) (Ap Ac Av : Option Addr) (cp cc cv : Nat) (w : World) (hs : StIn w s Ap Ac Av) (hn : s.ps.length ≤ 100) (hc3 : s.cap.length ≤ 300) (hin : ∀ x, x ∈ s.cap → (0 ≤ x.1 ∧ x.1 < s.ps.length) ∧ (0 ≤ x.2.1 ∧ x.2.1 < s.ps.length)) :
    Calls Tryz.prog 121 #[.agg #[.slice Ap s.ps.length cp, .slice Ac s.cap.length cc, .slice Av s.vot.length cv]] w fun e w' => (∃ R v, e = .returned (.slice (some ⟨R, 0, none⟩) s.ps.length s.ps.length) ∧ Gr w' w.heap.size R s.ps.length v (adjO (edges s) (edges s).length)) ∧ Below w.heap.size w w' := by
  have hmk := run_make_row' (P := Tryz.prog) 137 24 (.slice none 0 0) 24 Tryz.underlying137 infoG rfl .i64 .i64 s.ps.length (by omega) (by omega)
  have hX0 : Hid (Bk (w.alloc (.cells #[.slice Ap s.ps.length cp, .slice Ac s.cap.length cc, .slice Av s.vot.length cv] 54)) w.heap.size 54 (SC s Ap Ac Av cp cc cv)) := Bk.new w _ _
  have hB0 : Hid (Below w.heap.size w (w.alloc (.cells #[.slice Ap s.ps.length cp, .slice Ac s.cap.length cc, .slice Av s.vot.length cv] 54))) := (Below.refl _ w).alloc (Nat.le_refl _) _
  have u0 := hX0.out.cell (j := 0) rfl
  have u1 := hX0.out.cell (j := 1) rfl
  have u9 := hX0.out.lt
  have hG0 : Hid (Gr ((w.alloc (.cells #[.slice Ap s.ps.length cp, .slice Ac s.cap.length cc, .slice Av s.vot.length cv] 54)).alloc (.cells (madeCells #[(.slice none 0 0 : Value)] s.ps.length) 24)) w.heap.size (w.heap.size + 1) s.ps.length (fun _ => .slice none 0 0) (adjO (edges s) 0)) := by
    have h := Gr.start (w.alloc (.cells #[.slice Ap s.ps.length cp, .slice Ac s.cap.length cc, .slice Av s.vot.length cv] 54)) (B := w.heap.size) (by simp) s.ps.length 24
    rw [World.size_alloc] at h
    exact h.congr fun i _ => rfl
  have hB1 : Hid (Below w.heap.size w ((w.alloc (.cells #[.slice Ap s.ps.length cp, .slice Ac s.cap.length cc, .slice Av s.vot.length cv] 54)).alloc (.cells (madeCells #[(.slice none 0 0 : Value)] s.ps.length) 24))) := hB0.out.alloc hB0.out.size _
  have hX1 := Lib.hid (hX0.out.alloc (.cells (madeCells #[(.slice none 0 0 : Value)] s.ps.length) 24))
  have v1 := hX1.out.cell (j := 1) rfl
  have v9 := hX1.out.lt
  obtain ⟨i0, hi0, hzz⟩ := Option.map_eq_some_iff.1 infoI
  simp only [Prod.mk.injEq] at hzz
  obtain ⟨hz0, hz1, hz2⟩ := hzz
  replace hi0 := Lib.hid hi0
  replace hz0 := Lib.hid hz0
  replace hz1 := Lib.hid hz1
  replace hz2 := Lib.hid hz2
  have hel : Hid ((edges s).length = s.cap.length) := by unfold Hid edges; simp
  have hap : Hid (∀ k p, (adjO (edges s) k p).length ≤ 300) := fun k p => by
    unfold adjO
    rw [List.length_map]
    have h1 := List.length_filter_le (fun x : Nat × Nat => decide (x.1 = p)) ((edges s).take k)
    have h2 : ((edges s).take k).length ≤ (edges s).length := List.length_take_le' _ _
    have := hel.out
    omega
  replace hs := Lib.hid hs
  replace hin := Lib.hid hin
  go_enter Tryz.func121, Tryz.ntmps121
  go_wp2
  clear hmk u0 u1 u9 v1 v9
  go_loopw [13] (fun i wr => ∃ (k : Nat) (v : Nat → Value), k ≤ s.cap.length ∧ i = .int .i64 (k : Int) ∧ Hid (Below w.heap.size w wr) ∧ Hid (Gr wr w.heap.size (w.heap.size + 1) s.ps.length v (adjO (edges s) k))) (fun i _ => s.cap.length - (intOf i).toNat)
  case atStart => exact ⟨0, _, Nat.zero_le _, rfl, hB1, hG0⟩
  case round =>
    obtain ⟨k, v, hk, rfl, hB, hG⟩ := hrel
    clear hX0 hB0 hG0 hB1 hX1
    by_cases hlt : k < s.cap.length
    · obtain ⟨b, o, rfl, hbl, hcc⟩ := (hs.out.below hB.out).cap (by omega)
      obtain ⟨e1, e2, e3, e4, e5⟩ := hcc k hlt
      have hix := hin.out s.cap[k] (List.getElem_mem hlt)
      have hek : Hid (∀ p, adjO (edges s) (k + 1) p = setL (adjO (edges s) k) s.cap[k].2.1.toNat s.cap[k].1.toNat p) := fun p => by
        have h := adjO_succ (E := edges s) (k := k) (by rw [hel.out]; exact hlt) p
        have h2 : (edges s)[k]'(by rw [hel.out]; exact hlt) = (s.cap[k].2.1.toNat, s.cap[k].1.toNat) := by unfold edges; simp
        rw [h2] at h
        exact h
      obtain ⟨x, hx⟩ : ∃ x, x = s.cap[k] := ⟨_, rfl⟩
      rw [← hx] at e1 e2 e3 e4 e5 hix hek
      obtain ⟨coI, hoI, g, nn, dd⟩ := x
      obtain ⟨⟨i1, i2⟩, i3, i4⟩ := hix
      replace i1 : 0 ≤ coI := i1
      replace i2 : coI < s.ps.length := i2
      replace i3 : 0 ≤ hoI := i3
      replace i4 : hoI < s.ps.length := i4
      obtain ⟨co, rfl⟩ : ∃ c : Nat, coI = (c : Int) := ⟨coI.toNat, by omega⟩
      obtain ⟨ho, rfl⟩ : ∃ c : Nat, hoI = (c : Int) := ⟨hoI.toNat, by omega⟩
      replace e1 : wr.cell? ⟨b, o + k * 5, none⟩ = some (.int .i64 (co : Int)) := e1
      replace e2 : wr.cell? ⟨b, o + k * 5 + 1, none⟩ = some (.int .i64 (ho : Int)) := e2
      replace e3 : wr.cell? ⟨b, o + k * 5 + 2, none⟩ = some (.bool g) := e3
      replace e4 : wr.cell? ⟨b, o + k * 5 + 3, none⟩ = some (.string nn) := e4
      replace e5 : wr.cell? ⟨b, o + k * 5 + 4, none⟩ = some (.string dd) := e5
      replace hek : Hid (∀ p, adjO (edges s) (k + 1) p = setL (adjO (edges s) k) ho co p) := fun p => by have h := hek.out p; simpa using h
      replace hx := Lib.hid hx
      have j0 : (0 : Int) ≤ (k : Int) := by omega
      have j1 : (k : Int) < (s.cap.length : Int) := by omega
      have hho : ho < s.ps.length := by omega
      have hx1 : Hid (Bk (wr.alloc (.cells #[.int .i64 (co : Int), .int .i64 (ho : Int), .bool g, .string nn, .string dd] 94)) wr.heap.size 94 [.int .i64 (co : Int), .int .i64 (ho : Int), .bool g, .string nn, .string dd]) := Bk.new wr _ _
      have hBw := Lib.hid (hB.out.alloc hB.out.size (.cells #[.int .i64 (co : Int), .int .i64 (ho : Int), .bool g, .string nn, .string dd] 94))
      have hGw := Lib.hid (hG.out.alloc (.cells #[.int .i64 (co : Int), .int .i64 (ho : Int), .bool g, .string nn, .string dd] 94))
      have hxw : w.heap.size + 1 < wr.heap.size := hG.out.lt
      clear hcc
      go_wp2_with fail
      obtain ⟨W1, hW1⟩ : ∃ W, W = wr.alloc (.cells #[.int .i64 (co : Int), .int .i64 (ho : Int), .bool g, .string nn, .string dd] 94) := ⟨_, rfl⟩
      rw [← hW1] at hx1 hBw hGw ⊢
      obtain ⟨xb, hxb⟩ : ∃ b, b = wr.heap.size := ⟨_, rfl⟩
      rw [← hxb] at hx1 hxw ⊢
      obtain ⟨vh, hvh⟩ : ∃ x, x = v ho := ⟨_, rfl⟩
      have hhd := hGw.out.hd ho hho
      have hrow := Lib.hid (hGw.out.rows ho hho)
      rw [← hvh] at hhd hrow
      have hnx : Hid (vh.ownBlock ≠ some xb) := fun e => by
        have h1 := (hG.out.rows ho hho).lt xb (by rw [← hvh]; exact e)
        omega
      have hnR : Hid (vh.ownBlock ≠ some (w.heap.size + 1)) := by rw [hvh]; exact hG.out.ne ho hho
      replace hvh := Lib.hid hvh
      clear hxb
      clear hW1 hB hG e1 e2 e3 e4 e5 hbl
      have hlR := hGw.out.lt
      have hlx := hx1.out.lt
      have HO : Hid (∀ W, Below W1.heap.size W1 W → W.cell? ⟨xb, 0, none⟩ = some (.int .i64 (co : Int)) ∧ W.cell? ⟨xb, 1, none⟩ = some (.int .i64 (ho : Int))) := fun W h =>
        ⟨(hx1.out.below h).cell (j := 0) rfl, (hx1.out.below h).cell (j := 1) rfl⟩
      have hal := hap.out k ho
      have q0 : (0 : Int) ≤ (ho : Int) := by omega
      have q1 : (ho : Int) < (s.ps.length : Int) := by omega
      refine wp_region_noPanic ?_
      refine wp_region_held_drew (S := fun W => W.cell? ⟨xb, 0, none⟩ = some (.int .i64 (co : Int)) ∧ W.cell? ⟨xb, 1, none⟩ = some (.int .i64 (ho : Int))) (by kernel_rfl) (HO.out _ (Below.refl _ _).drew) (fun hS0 => ?_)
      replace hS0 := Lib.hid hS0
      refine wpAnyH_take (i := 0) (oi := _) (v := ?_) rfl (by kernel_rfl) (by kernel_rfl) (by kernel_rfl) (fun _ _ _ h => h) (Or.inl ⟨by rfl, ?_⟩) (hS0.out) ?_
      rotate_left
      · (intro w hSw; obtain ⟨q1, q2⟩ := hSw; go_simp <;> with_reducible rfl)
      try simp only [Act.put, List.setIfInBounds_toArray]
      refine wpAnyH_take (i := 1) (oi := _) (v := ?_) rfl (by kernel_rfl) (by kernel_rfl) (by kernel_rfl) (fun _ _ _ h => h) (Or.inl ⟨by rfl, ?_⟩) (hS0.out) ?_
      rotate_left
      · (intro w hSw; obtain ⟨q1, q2⟩ := hSw; go_simp <;> with_reducible rfl)
      try simp only [Act.put]
      refine wpAnyH_take (i := 2) (oi := _) (v := ?_) rfl (by kernel_rfl) (by kernel_rfl) (by kernel_rfl) (fun _ _ _ h => h) (Or.inl ⟨by rfl, ?_⟩) (hS0.out) ?_
      rotate_left
      · (intro w hSw; obtain ⟨q1, q2⟩ := hSw; go_simp <;> with_reducible rfl)
      try simp only [Act.put]
      refine wpAnyH_take (i := 3) (oi := _) (v := ?_) rfl (by kernel_rfl) (by kernel_rfl) (by kernel_rfl) (fun _ _ _ h => h) (Or.inl ⟨by rfl, ?_⟩) (hS0.out) ?_
      rotate_left
      · (intro w hSw; obtain ⟨q1, q2⟩ := hSw; go_simp <;> with_reducible rfl)
      try simp only [Act.put]
      refine wpAnyH_take (i := 4) (oi := _) (v := ?_) rfl (by kernel_rfl) (by kernel_rfl) (by kernel_rfl) (fun _ _ _ h => h) (Or.inl ⟨by rfl, ?_⟩) (hS0.out) ?_
      rotate_left
      · (intro w hSw; obtain ⟨q1, q2⟩ := hSw; go_simp <;> with_reducible rfl)
      try simp only [Act.put]
      refine wpAnyH_take (i := 5) (oi := _) (v := ?_) rfl (by kernel_rfl) (by kernel_rfl) (by kernel_rfl) (fun _ _ _ h => h) (Or.inl ⟨by rfl, ?_⟩) (hS0.out) ?_
      rotate_left
      · (intro w hSw; obtain ⟨q1, q2⟩ := hSw; go_simp <;> with_reducible rfl)
      try simp only [Act.put]
      refine wpAnyH_take (i := 6) (oi := _) (v := ?_) rfl (by kernel_rfl) (by kernel_rfl) (by kernel_rfl) (fun _ _ _ h => h) (Or.inl ⟨by rfl, ?_⟩) (hS0.out) ?_
      rotate_left
      · (intro w hSw; obtain ⟨q1, q2⟩ := hSw; go_simp <;> with_reducible rfl)
      try simp only [Act.put]
      refine wpAnyH_take (i := 8) (oi := _) (v := ?_) rfl (by kernel_rfl) (by kernel_rfl) (by kernel_rfl) (fun _ _ _ h => h) (Or.inl ⟨by rfl, ?_⟩) (hS0.out) ?_
      rotate_left
      · (intro w hSw; obtain ⟨q1, q2⟩ := hSw; go_simp <;> with_reducible rfl)
      try simp only [Act.put]
      refine wpAnyH_take (i := 9) (oi := _) (v := ?_) rfl (by kernel_rfl) (by kernel_rfl) (by kernel_rfl) (fun _ _ _ h => h) (Or.inl ⟨by rfl, ?_⟩) (hS0.out) ?_
      rotate_left
      · (intro w hSw; obtain ⟨q1, q2⟩ := hSw; go_simp <;> with_reducible rfl)
      try simp only [Act.put]
      have hBe : Hid (Below W1.heap.size W1 W1.drew) := (Below.refl _ W1).drew
      have hB3 : Hid (Below W1.heap.size W1 (W1.alloc (.cells #[.int .i64 (co : Int)] 3)).drew) := ((Below.refl _ W1).alloc (Nat.le_refl _) _).drew
      refine wpAnyH_ready (rs := [7, 10]) (by kernel_rfl) (by simp) ?_
      refine AllReadyH.cons (o := _) rfl (fun K hK => ?_) ?_
      · have hh := (hBe.out.cell (p := ⟨w.heap.size + 1, ho, none⟩) hlR).trans hhd
        go_simp
        clear hh
        refine hK.out _ _ (HO.out _ hBe.out) (fun _ => ?_)
        clear hK K
        try simp only [Act.put, List.setIfInBounds_toArray, List.set_cons_zero, List.set_cons_succ]
        refine wpAnyH_ready (rs := [10]) (by kernel_rfl) (by simp) ?_
        refine AllReadyH.cons (o := _) rfl (fun K hK => ?_) ?_
        · go_simp
          refine hK.out _ _ (HO.out _ hB3.out) (fun _ => ?_)
          clear hK K
          try simp only [Act.put, List.setIfInBounds_toArray, List.set_cons_zero, List.set_cons_succ]
          refine wpAnyH_ready (rs := [11]) (by kernel_rfl) (by simp) ?_
          refine AllReadyH.cons (o := _) rfl (fun K hK => ?_) ?_
          · rw [if_pos (by rfl)]
            refine wp_append_new _ _ _ 24 rfl w.heap.size 3 i0 (.int .i64 0) 1 8 Tryz.underlying24 hi0.out hz0.out hz1.out hz2.out rfl (by decide) vh (adjO (edges s) k ho).length (intsL (adjO (edges s) k ho)) rfl (own_below' hrow.out hB3.out) ⟨W1.heap.size, 0, none⟩ 1 1 [.int .i64 (co : Int)] rfl rfl (head_new W1 _ _) (one_cell1 _ rfl) (by omega) (by unfold maxLen; omega) (by omega) (hBw.out.trans (hB3.out.mono hBw.out.size)).size ?_
            intro vb wb hob hgb hnb
            have hx4 : Hid (Bk wb xb 94 [.int .i64 (co : Int), .int .i64 (ho : Int), .bool g, .string nn, .string dd]) := (hx1.out.below hB3.out).grown hgb (fun e => hnx.out e.symm)
            have hB2 := Lib.hid (hBw.out.trans (hB3.out.mono hBw.out.size))
            have hB4 : Hid (Below w.heap.size w wb) := hB2.out.grown hgb hB2.out.size (fun b e => (hrow.out.lt b e).1)
            have hG9 : Hid (Gr (wb.setCell ⟨w.heap.size + 1, ho, none⟩ vb) w.heap.size (w.heap.size + 1) s.ps.length (fun i => if i = ho then vb else v i) (adjO (edges s) (k + 1))) := by
              have h := ((hGw.out.alloc (.cells #[.int .i64 (co : Int)] 3)).drew).step (q := co) hho (u := vb) (W' := wb) (by rw [← hvh.out]; exact hgb) hob (by rw [← hvh.out]; exact hnb)
              exact h.congr fun i _ => (hek.out i).symm
            have hB9 : Hid (Below w.heap.size w (wb.setCell ⟨w.heap.size + 1, ho, none⟩ vb)) := hB4.out.setCell (p := ⟨w.heap.size + 1, ho, none⟩) (Nat.le_succ _) _
            have hbk := hgb.block (w.heap.size + 1) (Nat.lt_of_lt_of_le hlR hB3.out.size) (fun e => hnR.out e.symm)
            have y1 := (World.cell?_of_block (a := ⟨w.heap.size + 1, ho, none⟩) hbk).trans ((hB3.out.cell (p := ⟨w.heap.size + 1, ho, none⟩) hlR).trans hhd)
            have y2 := (World.frozen?_of_block (a := ⟨w.heap.size + 1, ho, none⟩) hbk).trans ((hB3.out.frozen (p := ⟨w.heap.size + 1, ho, none⟩) hlR).trans (hGw.out.fr ho))
            have y3 : w.heap.size + 1 < wb.heap.size := Nat.lt_of_lt_of_le (Nat.lt_of_lt_of_le hlR hB3.out.size) hgb.size
            rcases hob.2 with ⟨_, hnil⟩ | ⟨g9, cap9, cur9, rfl, _⟩
            · exact absurd hnil (by omega)
            clear hob hgb hnb hek hB3 hbk hB2
            refine hK.out _ _ ⟨hx4.out.cell (j := 0) rfl, hx4.out.cell (j := 1) rfl⟩ (fun _ => ?_)
            clear hK K
            try simp only [Act.put, List.setIfInBounds_toArray]
            refine wpAnyH_take (i := 12) (oi := _) (v := ?_) rfl (by kernel_rfl) (by kernel_rfl) (by kernel_rfl) (fun _ _ _ h => h) (Or.inl ⟨by rfl, ?_⟩) (⟨hx4.out.cell (j := 0) rfl, hx4.out.cell (j := 1) rfl⟩) ?_
            rotate_left
            · (intro w hSw; obtain ⟨q1, q2⟩ := hSw; go_simp <;> with_reducible rfl)
            try simp only [Act.put]
            refine wpAnyH_ready (rs := [13]) (by kernel_rfl) (by simp) ?_
            refine AllReadyH.cons (o := _) rfl (fun K hK => ?_) ?_
            · go_simp
              refine hK.out _ _ ⟨(hx4.out.far (p := ⟨w.heap.size + 1, ho, none⟩) (Nat.ne_of_gt hxw) _).cell (j := 0) rfl, (hx4.out.far (p := ⟨w.heap.size + 1, ho, none⟩) (Nat.ne_of_gt hxw) _).cell (j := 1) rfl⟩ (fun _ => ?_)
              clear hK K
              try simp only [Act.put, List.setIfInBounds_toArray, List.set_cons_zero, List.set_cons_succ]
              refine wpAnyH_done (by kernel_rfl) ?_ _
              refine NoPanic.normal ?_
              clear y1 y2 y3 HO hal
              go_wp2
              go_roundw
              case rel => exact ⟨k + 1, _, by omega, by go_num, hB9, hG9⟩
              case measure => simp [intOf]; omega
            exact AllReadyH.nil
          exact AllReadyH.nil
        exact AllReadyH.nil
      refine AllReadyH.cons (o := _) rfl (fun K hK => ?_) ?_
      · go_simp
        refine hK.out _ _ (HO.out _ hB3.out) (fun _ => ?_)
        clear hK K
        try simp only [Act.put, List.setIfInBounds_toArray, List.set_cons_zero, List.set_cons_succ]
        refine wpAnyH_ready (rs := [7]) (by kernel_rfl) (by simp) ?_
        refine AllReadyH.cons (o := _) rfl (fun K hK => ?_) ?_
        · have hh := (hB3.out.cell (p := ⟨w.heap.size + 1, ho, none⟩) hlR).trans hhd
          go_simp
          clear hh
          refine hK.out _ _ (HO.out _ hB3.out) (fun _ => ?_)
          clear hK K
          try simp only [Act.put, List.setIfInBounds_toArray, List.set_cons_zero, List.set_cons_succ]
          refine wpAnyH_ready (rs := [11]) (by kernel_rfl) (by simp) ?_
          refine AllReadyH.cons (o := _) rfl (fun K hK => ?_) ?_
          · rw [if_pos (by rfl)]
            refine wp_append_new _ _ _ 24 rfl w.heap.size 3 i0 (.int .i64 0) 1 8 Tryz.underlying24 hi0.out hz0.out hz1.out hz2.out rfl (by decide) vh (adjO (edges s) k ho).length (intsL (adjO (edges s) k ho)) rfl (own_below' hrow.out hB3.out) ⟨W1.heap.size, 0, none⟩ 1 1 [.int .i64 (co : Int)] rfl rfl (head_new W1 _ _) (one_cell1 _ rfl) (by omega) (by unfold maxLen; omega) (by omega) (hBw.out.trans (hB3.out.mono hBw.out.size)).size ?_
            intro vb wb hob hgb hnb
            have hx4 : Hid (Bk wb xb 94 [.int .i64 (co : Int), .int .i64 (ho : Int), .bool g, .string nn, .string dd]) := (hx1.out.below hB3.out).grown hgb (fun e => hnx.out e.symm)
            have hB2 := Lib.hid (hBw.out.trans (hB3.out.mono hBw.out.size))
            have hB4 : Hid (Below w.heap.size w wb) := hB2.out.grown hgb hB2.out.size (fun b e => (hrow.out.lt b e).1)
            have hG9 : Hid (Gr (wb.setCell ⟨w.heap.size + 1, ho, none⟩ vb) w.heap.size (w.heap.size + 1) s.ps.length (fun i => if i = ho then vb else v i) (adjO (edges s) (k + 1))) := by
              have h := ((hGw.out.alloc (.cells #[.int .i64 (co : Int)] 3)).drew).step (q := co) hho (u := vb) (W' := wb) (by rw [← hvh.out]; exact hgb) hob (by rw [← hvh.out]; exact hnb)
              exact h.congr fun i _ => (hek.out i).symm
            have hB9 : Hid (Below w.heap.size w (wb.setCell ⟨w.heap.size + 1, ho, none⟩ vb)) := hB4.out.setCell (p := ⟨w.heap.size + 1, ho, none⟩) (Nat.le_succ _) _
            have hbk := hgb.block (w.heap.size + 1) (Nat.lt_of_lt_of_le hlR hB3.out.size) (fun e => hnR.out e.symm)
            have y1 := (World.cell?_of_block (a := ⟨w.heap.size + 1, ho, none⟩) hbk).trans ((hB3.out.cell (p := ⟨w.heap.size + 1, ho, none⟩) hlR).trans hhd)
            have y2 := (World.frozen?_of_block (a := ⟨w.heap.size + 1, ho, none⟩) hbk).trans ((hB3.out.frozen (p := ⟨w.heap.size + 1, ho, none⟩) hlR).trans (hGw.out.fr ho))
            have y3 : w.heap.size + 1 < wb.heap.size := Nat.lt_of_lt_of_le (Nat.lt_of_lt_of_le hlR hB3.out.size) hgb.size
            rcases hob.2 with ⟨_, hnil⟩ | ⟨g9, cap9, cur9, rfl, _⟩
            · exact absurd hnil (by omega)
            clear hob hgb hnb hek hB3 hbk hB2
            refine hK.out _ _ ⟨hx4.out.cell (j := 0) rfl, hx4.out.cell (j := 1) rfl⟩ (fun _ => ?_)
            clear hK K
            try simp only [Act.put, List.setIfInBounds_toArray]
            refine wpAnyH_take (i := 12) (oi := _) (v := ?_) rfl (by kernel_rfl) (by kernel_rfl) (by kernel_rfl) (fun _ _ _ h => h) (Or.inl ⟨by rfl, ?_⟩) (⟨hx4.out.cell (j := 0) rfl, hx4.out.cell (j := 1) rfl⟩) ?_
            rotate_left
            · (intro w hSw; obtain ⟨q1, q2⟩ := hSw; go_simp <;> with_reducible rfl)
            try simp only [Act.put]
            refine wpAnyH_ready (rs := [13]) (by kernel_rfl) (by simp) ?_
            refine AllReadyH.cons (o := _) rfl (fun K hK => ?_) ?_
            · go_simp
              refine hK.out _ _ ⟨(hx4.out.far (p := ⟨w.heap.size + 1, ho, none⟩) (Nat.ne_of_gt hxw) _).cell (j := 0) rfl, (hx4.out.far (p := ⟨w.heap.size + 1, ho, none⟩) (Nat.ne_of_gt hxw) _).cell (j := 1) rfl⟩ (fun _ => ?_)
              clear hK K
              try simp only [Act.put, List.setIfInBounds_toArray, List.set_cons_zero, List.set_cons_succ]
              refine wpAnyH_done (by kernel_rfl) ?_ _
              refine NoPanic.normal ?_
              clear y1 y2 y3 HO hal
              go_wp2
              go_roundw
              case rel => exact ⟨k + 1, _, by omega, by go_num, hB9, hG9⟩
              case measure => simp [intOf]; omega
            exact AllReadyH.nil
          exact AllReadyH.nil
        exact AllReadyH.nil
      exact AllReadyH.nil
    · obtain rfl : k = s.cap.length := by omega
      have hG2 : Hid (Gr wr w.heap.size (w.heap.size + 1) s.ps.length v (adjO (edges s) (edges s).length)) := by rw [hel.out]; exact hG.out
      go_wp2
      go_ret
      exact ⟨⟨_, v, rfl, hG2.out⟩, hB.out⟩
end Ci
end Go.Proofs.YtpmlhgmmobpilaaGreatDoor

namespace Go.Proofs.YtpmlhgmmobpilaaGreatDoor
open Go.RowKit Go.Shelf
namespace Ci
open Nt
open Classical
theorem Gr.grown {W W' : World} {B R n mb : Nat} {v : Nat → Value} {adj : Nat → List Nat} (h : Gr W B R n v adj) (hg : W.grownBy W' (some mb)) (hR : R ≠ mb) (hv : ∀ i, i < n → (v i).ownBlock ≠ some mb) : Gr W' B R n v adj := by
  have hb : W'.heap[R]? = W.heap[R]? := hg.block R h.lt fun e => hR (Option.some.inj e)
  exact ⟨Nat.lt_of_lt_of_le h.lt hg.size, fun i hi => (World.cell?_of_block (a := ⟨R, i, none⟩) hb).trans (h.hd i hi), fun i => (World.frozen?_of_block (a := ⟨R, i, none⟩) hb).trans (h.fr i), fun i hi => (h.rows i hi).kept hg (by
    cases hu : (v i).ownBlock with
    | none => exact .inl rfl
    | some b => exact .inr fun e => hv i hi (hu.trans e)), h.apart, h.ne, h.lowR⟩
theorem zeroB (w : World) : (zeroValue 4).run Tryz.prog w = .ok (.bool false) w := by kernel_rfl
end Ci
end Go.Proofs.YtpmlhgmmobpilaaGreatDoor
namespace Go.Proofs.YtpmlhgmmobpilaaGreatDoor
open Go.RowKit Go.Shelf
namespace Ci
open Nt
open Classical
/-- A map of the call's own that reads as the parties reached. -/
def ReachM (w : World) (n mb : Nat) (E : List (Nat × Nat)) (p : Nat) : Prop := ∃ c f, MapK Tryz.prog 3 κi w mb c f ∧ ∀ x : Nat, x < n → f (x : Int) = if Reach E p x then some (.bool true) else none
end Ci
end Go.Proofs.YtpmlhgmmobpilaaGreatDoor
namespace Go.Proofs.YtpmlhgmmobpilaaGreatDoor
open Go.RowKit Go.Shelf
namespace Ci
open Nt
/-- What was turned ahead of link j of party i. -/
def TurnI (n i j : Nat) (adj T : Nat → List Nat) : Prop := (∀ q x, q < n → (x ∈ T q ↔ (x < i ∧ q ∈ adj x) ∨ (x = i ∧ q ∈ (adj i).take j))) ∧ ∀ q, (T q).length ≤ 1000 * i + j
theorem TurnI.next {n i : Nat} {adj T : Nat → List Nat} (h : TurnI n i (adj i).length adj T) (hl : (adj i).length ≤ 1000) : TurnI n (i + 1) 0 adj T := by
  refine ⟨fun q x hq => ?_, fun q => by have := h.2 q; omega⟩
  rw [h.1 q x hq, List.take_length]
  constructor
  · rintro (⟨a, b⟩ | ⟨rfl, b⟩)
    · exact .inl ⟨by omega, b⟩
    · exact .inl ⟨by omega, b⟩
  · rintro (⟨a, b⟩ | ⟨_, b⟩)
    · by_cases e : x = i
      · subst e; exact .inr ⟨rfl, b⟩
      · exact .inl ⟨by omega, b⟩
    · simp at b
theorem TurnI.step {n i j : Nat} {adj T : Nat → List Nat} (h : TurnI n i j adj T) (hj : j < (adj i).length) : TurnI n i (j + 1) adj (setL T (adj i)[j] i) := by
  refine ⟨fun q x hq => ?_, fun q => ?_⟩
  · unfold setL
    rw [List.take_succ_eq_append_getElem hj]
    by_cases e : q = (adj i)[j]
    · rw [if_pos e, List.mem_append, h.1 q x hq, List.mem_append, List.mem_singleton, List.mem_singleton]
      constructor
      · rintro ((a | ⟨a, b⟩) | a)
        · exact .inl a
        · exact .inr ⟨a, .inl b⟩
        · exact .inr ⟨a, .inr e⟩
      · rintro (a | ⟨a, b | _⟩)
        · exact .inl (.inl a)
        · exact .inl (.inr ⟨a, b⟩)
        · exact .inr a
    · rw [if_neg e, h.1 q x hq, List.mem_append, List.mem_singleton]
      constructor
      · rintro (a | ⟨a, b⟩)
        · exact .inl a
        · exact .inr ⟨a, .inl b⟩
      · rintro (a | ⟨a, b | b⟩)
        · exact .inl a
        · exact .inr ⟨a, b⟩
        · exact absurd b e
  · unfold setL
    have := h.2 q
    split
    · rw [List.length_append, List.length_singleton]; omega
    · omega
end Ci
end Go.Proofs.YtpmlhgmmobpilaaGreatDoor
namespace Go.Proofs.YtpmlhgmmobpilaaGreatDoor
open Go.RowKit Go.Shelf
namespace Ci
open Nt
/-- All blocks but some are as before. -/
structure Kp (xs : List Nat) (w w' : World) : Prop where
  os : w'.os = w.os
  tape : w'.tape = w.tape
  output : w'.output = w.output
  size : w.heap.size ≤ w'.heap.size
  block : ∀ k, k < w.heap.size → k ∉ xs → w'.heap[k]? = w.heap[k]?
section
variable {xs : List Nat} {w w' w'' : World} {B R n i b c mb : Nat} {v : Nat → Value} {adj ls : Nat → List Nat} {α : Type} {P : Program} {k : TypeId} {κ : α → Lit} {f : α → Option Value} {t : TypeId} {cs : List Value}
theorem Kp.refl (xs : List Nat) (w : World) : Kp xs w w := ⟨rfl, rfl, rfl, Nat.le_refl _, fun _ _ _ => rfl⟩
theorem Kp.below (h : Kp xs w w') (hb : Below w'.heap.size w' w'') : Kp xs w w'' :=
  ⟨hb.os.trans h.os, hb.tape.trans h.tape, hb.output.trans h.output, Nat.le_trans h.size hb.size, fun k hk hx => (hb.block k (Nat.lt_of_lt_of_le hk h.size)).trans (h.block k hk hx)⟩
theorem Kp.alloc (h : Kp xs w w') (o : Obj) : Kp xs w (w'.alloc o) := h.below ((Below.refl _ w').alloc (Nat.le_refl _) o)
theorem Kp.drew (h : Kp xs w w') : Kp xs w w'.drew := h.below (Below.refl _ w').drew
theorem Kp.grown {row : Option Nat} (h : Kp xs w w') (hg : w'.grownBy w'' row) (hr : ∀ b, row = some b → b ∈ xs ∨ w.heap.size ≤ b) : Kp xs w w'' :=
  ⟨hg.os.trans h.os, hg.tape.trans h.tape, hg.output.trans h.output, Nat.le_trans h.size hg.size, fun k hk hx => (hg.block k (Nat.lt_of_lt_of_le hk h.size) (fun e => by
    rcases hr k e.symm with h1 | h1
    · exact hx h1
    · omega)).trans (h.block k hk hx)⟩
theorem grown_set (w : World) (a : Addr) (u : Value) : w.grownBy (w.setCell a u) (some a.block) := ⟨rfl, rfl, rfl, by simp, fun k _ hk => Below.heap_setCell _ _ _ _ (fun e => hk (by rw [e]))⟩
theorem grown_alloc (w : World) (o : Obj) (row : Option Nat) : w.grownBy (w.alloc o) row := ⟨rfl, rfl, rfl, by simp, fun k hk _ => heap_alloc_old w o hk⟩
theorem Kp.set (h : Kp xs w w') {a : Addr} (u : Value) (ha : a.block ∈ xs ∨ w.heap.size ≤ a.block) : Kp xs w (w'.setCell a u) := h.grown (grown_set w' a u) fun b e => by cases e; exact ha
theorem Kp.to_below (h : Kp xs w w') {w0 : World} (h0 : Below w0.heap.size w0 w) (hx : ∀ x, x ∈ xs → w0.heap.size ≤ x) : Below w0.heap.size w0 w' :=
  h0.trans ⟨h.os, h.tape, h.output, h.size, fun k hk => h.block k (Nat.lt_of_lt_of_le hk h0.size) fun e => by have := hx k e; omega⟩
theorem Kp.heap (h : Kp xs w w') (hb : b < w.heap.size) (hx : b ∉ xs) : w'.heap[b]? = w.heap[b]? := h.block b hb hx
theorem Gr.of_block (h : Gr w B R n v adj) (hs : w.heap.size ≤ w'.heap.size) (hR : w'.heap[R]? = w.heap[R]?) (hv : ∀ i b, i < n → (v i).ownBlock = some b → w'.heap[b]? = w.heap[b]?) : Gr w' B R n v adj :=
  ⟨Nat.lt_of_lt_of_le h.lt hs, fun i hi => (World.cell?_of_block (a := ⟨R, i, none⟩) hR).trans (h.hd i hi), fun i => (World.frozen?_of_block (a := ⟨R, i, none⟩) hR).trans (h.fr i), fun i hi => by
    obtain ⟨h1, h2⟩ := h.rows i hi
    refine ⟨h1, ?_⟩
    rcases h2 with h2 | ⟨g, cap, cur, hv2, hg, hh, rest⟩
    · exact .inl h2
    · exact .inr ⟨g, cap, cur, hv2, hg, (hv i g hi (by rw [hv2]; rfl)).trans hh, rest⟩, h.apart, h.ne, h.lowR⟩
theorem Gr.kp (h : Gr w B R n v adj) (hk : Kp xs w w') (hR : R ∉ xs) (hv : ∀ i b, i < n → (v i).ownBlock = some b → b ∉ xs) : Gr w' B R n v adj :=
  h.of_block hk.size (hk.block R h.lt hR) fun i b hi e => hk.block b ((h.rows i hi).lt b e).2 (hv i b hi e)
theorem MapK.kp (h : MapK P k κ w b c f) (hk : Kp xs w w') (hb : b ∉ xs) : MapK P k κ w' b c f := h.block (hk.block b h.lt hb)
theorem Bk.kp (h : Bk w b t cs) (hk : Kp xs w w') (hb : b ∉ xs) : Bk w' b t cs := by
  have e := hk.block b h.lt hb
  exact (show w'.heap[b]? = _ from e.trans h)
structure LM (w : World) (B mb n c : Nat) (v : Nat → Value) (ls : Nat → List Nat) : Prop where
  map : ∃ f : Int → Option Value, MapK Tryz.prog 3 κi w mb c f ∧ ∀ x : Nat, x < n → f (x : Int) = if ls x = [] then none else some (v x)
  nil : ∀ x, x < n → ls x = [] → v x = .slice none 0 0
  rows : ∀ x, x < n → w.ownsRow B 3 1 (v x) (ls x).length (intsL (ls x))
  apart : ∀ i j, i < n → j < n → i ≠ j → OffB (v i) (v j)
  ne : ∀ x, x < n → (v x).ownBlock ≠ some mb
theorem LM.lt (h : LM w B mb n c v ls) : mb < w.heap.size := by obtain ⟨f, h, _⟩ := h.map; exact h.lt
theorem LM.grown {row : Option Nat} (h : LM w B mb n c v ls) (hg : w.grownBy w' row) (hm : row ≠ some mb) (hv : ∀ x b, x < n → (v x).ownBlock = some b → row ≠ some b) : LM w' B mb n c v ls := by
  obtain ⟨f, h1, h2⟩ := h.map
  refine ⟨⟨f, h1.kept hg fun e => hm e.symm, h2⟩, h.nil, fun x hx => (h.rows x hx).kept hg ?_, h.apart, h.ne⟩
  cases hu : (v x).ownBlock with
  | none => exact .inl rfl
  | some b => exact .inr fun e => hv x b hx hu e.symm
theorem LM.set (h : LM w B mb n c v ls) {a : Addr} (u : Value) (hm : a.block ≠ mb) (hv : ∀ x, x < n → (v x).ownBlock ≠ some a.block) : LM (w.setCell a u) B mb n c v ls :=
  h.grown (grown_set w a u) (fun e => hm (Option.some.inj e)) fun x b hx e e2 => hv x hx (by rw [e, e2])
theorem LM.alloc (h : LM w B mb n c v ls) (o : Obj) : LM (w.alloc o) B mb n c v ls := h.grown (grown_alloc w o none) (by simp) fun _ _ _ _ => by simp
theorem LM.drew (h : LM w B mb n c v ls) : LM w.drew B mb n c v ls := ⟨h.map, h.nil, h.rows, h.apart, h.ne⟩
theorem LM.below (h : LM w B mb n c v ls) (hb : Below w.heap.size w w') : LM w' B mb n c v ls :=
  h.grown (row := none) ⟨hb.os, hb.tape, hb.output, hb.size, fun k hk _ => hb.block k hk⟩ (by simp) fun _ _ _ _ => by simp
theorem LM.made (w : World) (B n : Nat) : LM (w.alloc (.map #[] 0)) B w.heap.size n 0 (fun _ => .slice none 0 0) fun _ => [] :=
  ⟨⟨_, MapK.made w _ _ _, fun _ _ => (if_pos rfl).symm⟩, fun _ _ _ => rfl, fun _ _ => World.ownsRow_nil _ _ _ _, fun _ _ _ _ _ _ hb => (by cases hb), fun _ _ h => (by cases h)⟩
/-- Block b has n numbers. -/
structure RoI (w : World) (b n : Nat) (o : Nat → Int) : Prop where
  lt : b < w.heap.size
  cell : ∀ x, x < n → w.cell? ⟨b, x, none⟩ = some (.int .i64 (o x))
  fr : ∀ x, w.frozen? ⟨b, x, none⟩ = false
theorem RoI.of_block {o : Nat → Int} (h : RoI w b n o) (hs : w.heap.size ≤ w'.heap.size) (hb : w'.heap[b]? = w.heap[b]?) : RoI w' b n o :=
  ⟨Nat.lt_of_lt_of_le h.lt hs, fun x hx => (World.cell?_of_block (a := ⟨b, x, none⟩) hb).trans (h.cell x hx), fun x => (World.frozen?_of_block (a := ⟨b, x, none⟩) hb).trans (h.fr x)⟩
theorem RoI.below {o : Nat → Int} (h : RoI w b n o) (hb : Below w.heap.size w w') : RoI w' b n o := h.of_block hb.size (hb.block b h.lt)
theorem RoI.grown {o : Nat → Int} {row : Option Nat} (h : RoI w b n o) (hg : w.grownBy w' row) (hr : row ≠ some b) : RoI w' b n o := h.of_block hg.size (hg.block b h.lt fun e => hr e.symm)
theorem RoI.alloc {o : Nat → Int} (h : RoI w b n o) (x : Obj) : RoI (w.alloc x) b n o := h.below ((Below.refl _ w).alloc (Nat.le_refl _) x)
theorem RoI.set {o : Nat → Int} (h : RoI w b n o) {x : Nat} (hx : x < n) (r : Int) : RoI (w.setCell ⟨b, x, none⟩ (.int .i64 r)) b n (setI o x r) := by
  refine ⟨by simpa using h.lt, fun y hy => ?_, fun y => by simpa using h.fr y⟩
  by_cases e : y = x
  · subst e
    rw [setI_same]
    exact World.cell?_setCell_same _ _ _ (h.cell y hy)
  · rw [setI_other e, World.cell?_setCell_other _ _ _ _ (fun c => by injection c with _ c2; first | exact e c2 | exact e c2.symm)]
    exact h.cell y hy
theorem RoI.made (w : World) (n : Nat) (t : TypeId) : RoI (w.alloc (.cells (madeCells #[.int .i64 0] n) t)) w.heap.size n fun _ => 0 := by
  have h := heap_alloc_new w (.cells (madeCells #[(.int .i64 0 : Value)] n) t)
  refine ⟨by simp, fun x hx => ?_, fun x => by simp only [World.frozen?, h]; simp⟩
  simp only [World.cell?, h]
  simp [madeCells, hx]
  rw [Nat.mod_one]
  rfl
theorem RoI.congr {o o' : Nat → Int} (h : RoI w b n o) (e : ∀ x, x < n → o x = o' x) : RoI w b n o' := ⟨h.lt, fun x hx => by rw [← e x hx]; exact h.cell x hx, h.fr⟩
theorem RoI.inInt {o : Nat → Int} (h : RoI w b n o) : InInt w (some ⟨b, 0, none⟩) ((List.range n).map o) := fun _ => ⟨b, 0, rfl, h.lt, fun j hj => by
  have hj2 : j < n := by simpa using hj
  rw [Nat.zero_add, h.cell j hj2]
  simp⟩
end
end Ci
end Go.Proofs.YtpmlhgmmobpilaaGreatDoor
namespace Go.Proofs.YtpmlhgmmobpilaaGreatDoor
open Go.RowKit Go.Shelf
namespace Ci
/-- The slice reads as l; what lies behind it up to its capacity is the call's own. -/
def QIn (w : World) (B : Nat) (v : Value) (l : List Nat) : Prop :=
  (∃ A, v = .slice A 0 0 ∧ l = [] ∧ ∀ b, v.ownBlock = some b → B ≤ b ∧ b < w.heap.size) ∨
  ∃ g o cap, v = .slice (some ⟨g, o, none⟩) l.length cap ∧ B ≤ g ∧ g < w.heap.size ∧ l.length ≤ cap ∧ (∀ j, j < cap → (w.cell? ⟨g, o + j, none⟩).isSome = true) ∧ (∀ j, w.frozen? ⟨g, j, none⟩ = false) ∧ ∀ j (h : j < l.length), w.cell? ⟨g, o + j, none⟩ = some (.int .i64 (l[j] : Int))
section
variable {w w' : World} {B : Nat} {v : Value} {l : List Nat} {q : Nat}
theorem QIn.block (h : QIn w B v l) {b : Nat} (hb : v.ownBlock = some b) : B ≤ b ∧ b < w.heap.size := by
  rcases h with ⟨A, rfl, _, h⟩ | ⟨g, o, cap, rfl, h1, h2, _⟩
  · exact h b hb
  · cases hb; exact ⟨h1, h2⟩
/-- Another block turns, and new ones come. -/
theorem QIn.grown {row : Option Nat} (h : QIn w B v l) (hg : w.grownBy w' row) (hne : v.ownBlock = none ∨ v.ownBlock ≠ row) : QIn w' B v l := by
  rcases h with ⟨A, rfl, h1, h2⟩ | ⟨g, o, cap, rfl, h1, h2, h3, h4, h5, h6⟩
  · exact .inl ⟨A, rfl, h1, fun b hb => ⟨(h2 b hb).1, Nat.lt_of_lt_of_le (h2 b hb).2 hg.size⟩⟩
  · have hb : w'.heap[g]? = w.heap[g]? := hg.block g h2 fun e => by
      rcases hne with hne | hne
      · cases hne
      · exact hne e
    refine .inr ⟨g, o, cap, rfl, h1, Nat.lt_of_lt_of_le h2 hg.size, h3, fun j hj => ?_, fun j => ?_, fun j hj => ?_⟩
    · rw [World.cell?_of_block (a := ⟨g, o + j, none⟩) hb]; exact h4 j hj
    · rw [World.frozen?_of_block (a := ⟨g, j, none⟩) hb]; exact h5 j
    · rw [World.cell?_of_block (a := ⟨g, o + j, none⟩) hb]; exact h6 j hj
theorem QIn.set (h : QIn w B v l) {a : Addr} (ha : v.ownBlock ≠ some a.block) (u : Value) : QIn (w.setCell a u) B v l :=
  h.grown (row := some a.block) ⟨rfl, rfl, rfl, by simp, fun k _ hk => Below.heap_setCell _ _ _ _ (fun e => hk (by rw [e]))⟩ (.inr ha)
theorem QIn.alloc (h : QIn w B v l) (o : Obj) : QIn (w.alloc o) B v l :=
  h.grown (row := none) ⟨rfl, rfl, rfl, by simp, fun k hk _ => heap_alloc_old w o hk⟩ (by cases hq : v.ownBlock <;> simp)
theorem QIn.drew (h : QIn w B v l) : QIn w.drew B v l := h
theorem QIn.mono {B' : Nat} (h : QIn w B v l) (hb : B' ≤ B) : QIn w B' v l := by
  rcases h with ⟨A, rfl, h1, h2⟩ | ⟨g, o, cap, rfl, h1, h2⟩
  · exact .inl ⟨A, rfl, h1, fun b e => ⟨Nat.le_trans hb (h2 b e).1, (h2 b e).2⟩⟩
  · exact .inr ⟨g, o, cap, rfl, Nat.le_trans hb h1, h2⟩
end
/-- The slice of a queue, written out. -/
theorem QIn.form {w : World} {B : Nat} {v : Value} {l : List Nat} (h : QIn w B v l) : ∃ A c, v = .slice A l.length c := by
  rcases h with ⟨A, rfl, rfl, _⟩ | ⟨g, o, cap, rfl, _⟩
  · exact ⟨A, 0, rfl⟩
  · exact ⟨_, _, rfl⟩
end Ci
end Go.Proofs.YtpmlhgmmobpilaaGreatDoor
namespace Go.Proofs.YtpmlhgmmobpilaaGreatDoor
open Go.RowKit Go.Shelf
namespace Ci
open Nt
end Ci
end Go.Proofs.YtpmlhgmmobpilaaGreatDoor
namespace Go.Proofs.YtpmlhgmmobpilaaGreatDoor
open Go.RowKit Go.Shelf
namespace Ci
open Nt
theorem ints_ne {a b : List Int} {k : Nat} (h1 : k < a.length) (h2 : k < b.length) (h : a[k] ≠ b[k]) : decide (a = b) = false := decide_eq_false fun e => h (by simp only [e])
theorem ints_eq {a b : List Int} (hl : a.length = b.length) (h : ∀ k (h1 : k < a.length) (h2 : k < b.length), a[k] = b[k]) : decide (a = b) = true := decide_eq_true (List.ext_getElem hl h)
end Ci
end Go.Proofs.YtpmlhgmmobpilaaGreatDoor
namespace Go.Proofs.YtpmlhgmmobpilaaGreatDoor
open Go.RowKit Go.Shelf
namespace Ci
open Nt
end Ci
end Go.Proofs.YtpmlhgmmobpilaaGreatDoor
namespace Go.Proofs.YtpmlhgmmobpilaaGreatDoor
open Go.RowKit Go.Shelf
namespace Ci
open Nt
/-- A list of lists in memory: where each lies, its capacity, and what it holds. -/
def InLs (W : World) (A : Option Addr) (l : List (Option Addr × Nat × List Int)) : Prop :=
  0 < l.length → ∃ b off, A = some ⟨b, off, none⟩ ∧ b < W.heap.size ∧ ∀ j (h : j < l.length), W.cell? ⟨b, off + j, none⟩ = some (.slice l[j].1 l[j].2.2.length l[j].2.1) ∧ InInt W l[j].1 l[j].2.2 ∧ l[j].2.2.length ≤ 140737488355328
def bare (l : List (Option Addr × Nat × List Int)) : List (List Int) := l.map fun x => x.2.2
end Ci
end Go.Proofs.YtpmlhgmmobpilaaGreatDoor
namespace Go.Proofs.YtpmlhgmmobpilaaGreatDoor
open Go.RowKit Go.Shelf
namespace Ci
open Nt
def LkSz (x : Lk) : Prop := x.2.2.2.1.size ≤ 400 ∧ x.2.2.2.2.size ≤ 400
instance (x : Lk) : Decidable (LkSz x) := inferInstanceAs (Decidable (_ ∧ _))
end Ci
end Go.Proofs.YtpmlhgmmobpilaaGreatDoor
namespace Go.Proofs.YtpmlhgmmobpilaaGreatDoor
open Go.RowKit Go.Shelf
namespace Ci
open Nt
def lksL (l : List Lk) : List Value := (l.map lkL).flatten
theorem lksL_snoc (l : List Lk) (x : Lk) : lksL (l ++ [x]) = lksL l ++ lkL x := by
  unfold lksL
  rw [List.map_append, List.flatten_append]
  simp
section
variable {W W' : World} {base n : Nat} {e : TypeId} {u : Value} {l : List Lk}
end
end Ci
end Go.Proofs.YtpmlhgmmobpilaaGreatDoor

namespace Go.Proofs.YtpmlhgmmobpilaaGreatDoor
open Go.RowKit Go.Shelf
namespace Ci
open Nt
theorem negs_lt {n p : Nat} {o : Nat → Int} (hp : p < n) (h : 0 ≤ o p) : negs n o + 1 ≤ n := by
  have h1 := filter_lt (f := fun x => decide (o x < 0)) (g := fun _ => true) (l := List.range n) (fun _ _ _ => rfl) ⟨p, List.mem_range.2 hp, decide_eq_false (by omega), rfl⟩
  have h2 : (List.filter (fun _ => true) (List.range n)).length = n := by
    rw [List.filter_eq_self.2 fun _ _ => rfl, List.length_range]
  rw [h2] at h1
  exact h1
theorem negs_le (n : Nat) (o : Nat → Int) : negs n o ≤ n := by
  have := List.length_filter_le (fun x => decide (o x < 0)) (List.range n)
  rw [List.length_range] at this
  exact this
/-- No rank is as great as the number of those that have one. -/
def Bd (n : Nat) (o : Nat → Int) : Prop := ∀ x, x < n → o x + (negs n o : Int) < n
theorem Bd.start {n : Nat} {F : List Nat} {o : Nat → Int} (h : ∀ x, o x = if x ∈ F then 0 else -1) : Bd n o := fun x hx => by
  by_cases e : x ∈ F
  · have h1 : o x = 0 := by rw [h x, if_pos e]
    have := negs_lt hx (by omega : 0 ≤ o x)
    omega
  · have h1 : o x = -1 := by rw [h x, if_neg e]
    have := negs_le n o
    omega
theorem Bd.set {n p q : Nat} {o : Nat → Int} (h : Bd n o) (hp : p < n) (hq : q < n) (h0 : o q < 0) (hv : 0 ≤ o p) : Bd n (setI o q (o p + 1)) := fun x hx => by
  have h1 := negs_set hq h0 (v := o p + 1) (by omega)
  have h2 := h p hp
  have h3 := h x hx
  by_cases e : x = q
  · rw [e, setI_same]; omega
  · rw [setI_other e]; omega
end Ci
end Go.Proofs.YtpmlhgmmobpilaaGreatDoor
namespace Go.Proofs.YtpmlhgmmobpilaaGreatDoor
open Go.RowKit Go.Shelf
namespace Ci
open Nt
open Classical
/-- While the components are gathered. -/
structure P1 (E : List (Nat × Nat)) (n : Nat) (w0 : World) (S p q : Nat) (v : Nat → Value) (F : Nat → Int) (wr : World) : Prop where
  kp : Kp [S, S + 1, S + 1 + 1] w0 wr
  lm : LM wr w0.heap.size S n (cQ E p q) v (lsQ E n p q)
  pl : ∃ c f, MapK Tryz.prog 3 κi wr (S + 1 + 1) c f ∧ c ≤ 1000 * p + q ∧ ∀ x : Nat, x < n → f (x : Int) = if PL E p q x then some (.bool true) else none
  ro : RoI wr (S + 1) n F
  fs : ∀ x, x < n → PL E p q x → F x = (fst E x : Int)
section
variable {E : List (Nat × Nat)} {n p q S : Nat} {w0 wr w' : World} {v : Nat → Value} {F : Nat → Int}
theorem LM.congr {w : World} {B mb c c' : Nat} {ls ls' : Nat → List Nat} (h : LM w B mb n c v ls) (e : ∀ x, ls x = ls' x) (ec : c = c') : LM w B mb n c' v ls' := by
  obtain rfl : ls = ls' := funext e
  subst ec
  exact h
theorem P1.below (h : P1 E n w0 S p q v F wr) (hb : Below wr.heap.size wr w') : P1 E n w0 S p q v F w' := by
  obtain ⟨c, f, h1, h2⟩ := h.pl
  exact ⟨h.kp.below hb, h.lm.below hb, ⟨c, f, h1.below hb, h2⟩, h.ro.below hb, h.fs⟩
theorem P1.had (h : P1 E n w0 S p 0 v F wr) (hp : fst E p ≠ p) : P1 E n w0 S (p + 1) 0 v F wr := by
  obtain ⟨c, f, h1, h2, h3⟩ := h.pl
  refine ⟨h.kp, h.lm.congr (fun x => ?_) ?_, ⟨c, f, h1, by omega, fun x hx => ?_⟩, h.ro, fun x hx hP => h.fs x hx ((PL_had hp).1 hP)⟩
  · rw [lsQ_zero, lsQ_zero, lsO_had hp]
  · rw [cQ_zero, cQ_zero, cO_succ, if_neg hp]
  · rw [h3 x hx]
    by_cases e : PL E p 0 x
    · rw [if_pos e, if_pos ((PL_had hp).2 e)]
    · rw [if_neg e, if_neg fun c => e ((PL_had hp).1 c)]
theorem P1.next (h : P1 E n w0 S p n v F wr) (hp : fst E p = p) (hpn : p < n) (hn : n ≤ 1000) : P1 E n w0 S (p + 1) 0 v F wr := by
  obtain ⟨c, f, h1, h2, h3⟩ := h.pl
  refine ⟨h.kp, h.lm.congr (fun x => ?_) ?_, ⟨c, f, h1, by omega, fun x hx => ?_⟩, h.ro, fun x hx hP => h.fs x hx ((PL_next hp hx).1 hP)⟩
  · rw [lsQ_zero, lsO_next hp]
  · rw [cQ_zero, cO_next hp hpn]
  · rw [h3 x hx]
    by_cases e : PL E p n x
    · rw [if_pos e, if_pos ((PL_next hp hx).2 e)]
    · rw [if_neg e, if_neg fun c => e ((PL_next hp hx).1 c)]
theorem P1.skip (h : P1 E n w0 S p q v F wr) (hm : ¬ Mut E p q) : P1 E n w0 S p (q + 1) v F wr := by
  obtain ⟨c, f, h1, h2, h3⟩ := h.pl
  refine ⟨h.kp, h.lm.congr (fun x => (lsQ_skip hm).symm) (cQ_skip hm).symm, ⟨c, f, h1, by omega, fun x hx => ?_⟩, h.ro, fun x hx hP => h.fs x hx ((PL_skip hm).1 hP)⟩
  rw [h3 x hx]
  by_cases e : PL E p q x
  · rw [if_pos e, if_pos ((PL_skip hm).2 e)]
  · rw [if_neg e, if_neg fun c => e ((PL_skip hm).1 c)]
theorem ReachM.below {mb : Nat} {w : World} (h : ReachM w n mb E p) (hb : Below w.heap.size w w') : ReachM w' n mb E p := by
  obtain ⟨c, f, h1, h3⟩ := h
  exact ⟨c, f, h1.below hb, h3⟩
theorem ReachM.kp {mb : Nat} {xs : List Nat} {w : World} (h : ReachM w n mb E p) (hk : Kp xs w w') (hm : mb ∉ xs) : ReachM w' n mb E p := by
  obtain ⟨c, f, h1, h3⟩ := h
  exact ⟨c, f, h1.kp hk hm, h3⟩
theorem P1.start (E : List (Nat × Nat)) (n : Nat) (wS : World) (t : TypeId) :
    P1 E n (((wS.alloc (.map #[] 0)).alloc (.cells (madeCells #[.int .i64 0] n) t)).alloc (.map #[] 0)) wS.heap.size 0 0 (fun _ => .slice none 0 0) (fun _ => 0) (((wS.alloc (.map #[] 0)).alloc (.cells (madeCells #[.int .i64 0] n) t)).alloc (.map #[] 0)) := by
  have s1 : (wS.alloc (.map #[] 0)).heap.size = wS.heap.size + 1 := by simp
  have s2 : ((wS.alloc (.map #[] 0)).alloc (.cells (madeCells #[.int .i64 0] n) t)).heap.size = wS.heap.size + 1 + 1 := by simp
  have hR := (RoI.made (wS.alloc (.map #[] 0)) n t).alloc (.map #[] 0)
  rw [s1] at hR
  have hM := MapK.made ((wS.alloc (.map #[] 0)).alloc (.cells (madeCells #[.int .i64 0] n) t)) Tryz.prog 3 κi
  rw [s2] at hM
  refine ⟨Kp.refl _ _, (((LM.made wS _ n).alloc _).alloc _).congr (fun x => ?_) ?_, ⟨0, _, hM, Nat.zero_le _, fun x _ => ?_⟩, hR, fun x _ hP => ?_⟩
  · rw [lsQ_zero]
    unfold lsO
    rw [if_neg (by omega)]
  · rw [cQ_zero]; rfl
  · rw [if_neg fun c => by have := PL_zero.1 c; omega]
  · have := PL_zero.1 hP; omega
end
/-- While the components are put in order. -/
structure P2 (E : List (Nat × Nat)) (n : Nat) (w7 : World) (S : Nat) (v : Nat → Value) (pre left : List Nat) (vo : Value) (wr : World) : Prop where
  st : Stage n E pre left
  kp : Kp [S] w7 wr
  mp : ∃ f, MapK Tryz.prog 3 κi wr S left.length f ∧ ∀ x : Nat, x < n → f (x : Int) = if x ∈ left then some (v x) else none
  out : wr.ownsRow w7.heap.size 24 1 vo pre.length (pre.map v)
section
variable {E : List (Nat × Nat)} {n p q S : Nat} {w0 w7 wr w' : World} {v : Nat → Value} {F : Nat → Int} {pre left : List Nat} {vo : Value}
theorem P2.start (h : P1 E n w0 S n 0 v F w7) (hE : InN n E) : P2 E n w7 S v [] (leasts n E) (.slice none 0 0) w7 := by
  obtain ⟨f, h1, h2⟩ := h.lm.map
  rw [cQ_zero, cO_all] at h1
  refine ⟨Stage.start hE, Kp.refl _ _, ⟨f, h1, fun x hx => ?_⟩, World.ownsRow_nil _ _ _ _⟩
  rw [h2 x hx, lsQ_zero, lsO_all hx]
  by_cases e : x ∈ leasts n E
  · rw [if_pos e, if_pos e, if_neg (comp_ne hx)]
  · rw [if_neg e, if_neg e, if_pos rfl]
end
end Ci
end Go.Proofs.YtpmlhgmmobpilaaGreatDoor
namespace Go.Proofs.YtpmlhgmmobpilaaGreatDoor
open Go.RowKit Go.Shelf
namespace Ci
open Nt
open Classical
end Ci
end Go.Proofs.YtpmlhgmmobpilaaGreatDoor

namespace Go.Proofs.YtpmlhgmmobpilaaGreatDoor
open Go.ChangeShapes Go.WideShapes Go.ChangeAt Go.RowKit Go.Shelf
namespace Nt
/-- The list that every row of this seat bears. -/
def laidL : List (String × DataW Unit) := Rows.moneyRoundsRow.laid
theorem gt_tab : (Tryz.prog.globals[3]?).map (·.type) = some 222 := by kernel_rfl
theorem gt_syn : (Tryz.prog.globals[1]?).map (·.type) = some 116 := by kernel_rfl
theorem gt_rng : (Tryz.prog.globals[2]?).map (·.type) = some 116 := by kernel_rfl
theorem cells_u64 : Tryz.prog.cellsOf 177 = 1 := by kernel_rfl
theorem cells_tab : Tryz.prog.cellsOf 222 = 20 := by kernel_rfl
theorem cells_str : Tryz.prog.cellsOf 9 = 1 := by kernel_rfl
theorem cells_es : Tryz.prog.cellsOf 229 = 1 := by kernel_rfl
theorem star : "*" ++ "errors.errorString" = "*errors.errorString" := by decide
theorem row_es (u : TypeId) (h : Tryz.prog.typeName? 3 u = some "*errors.errorString") : u = 227 :=
  typeName_ptr_named (nm := "errors.errorString") (by rw [star]; kernel_rfl) (by kernel_rfl) (by decide) u (by rw [star]; exact h)
theorem env_of {W : World} (h : laidMetH Tryz.prog laidL W) : Env W := by
  have h0 := (laidMetH_iff.1 h).1
  have hT : laidMet Tryz.prog [("internal/strconv.uint64pow10", Lib.tabData .u64 Lib.pow10Tab)] W := by
    have := h0.filter (fun x => x.1 == "internal/strconv.uint64pow10")
    rwa [show (laidL.filter fun x => x.2.handleName?.isNone).filter (fun x => x.1 == "internal/strconv.uint64pow10") = [("internal/strconv.uint64pow10", Lib.tabData .u64 Lib.pow10Tab)] by kernel_rfl] at this
  have hS : laidMet Tryz.prog [("strconv.ErrSyntax", .iface "*errors.errorString" (.ptr (.agg [.lit (.string [105, 110, 118, 97, 108, 105, 100, 32, 115, 121, 110, 116, 97, 120])])))] W := by
    have := h0.filter (fun x => x.1 == "strconv.ErrSyntax")
    rwa [show (laidL.filter fun x => x.2.handleName?.isNone).filter (fun x => x.1 == "strconv.ErrSyntax") = [("strconv.ErrSyntax", .iface "*errors.errorString" (.ptr (.agg [.lit (.string [105, 110, 118, 97, 108, 105, 100, 32, 115, 121, 110, 116, 97, 120])])))] by kernel_rfl] at this
  have hR : laidMet Tryz.prog [("strconv.ErrRange", .iface "*errors.errorString" (.ptr (.agg [.lit (.string [118, 97, 108, 117, 101, 32, 111, 117, 116, 32, 111, 102, 32, 114, 97, 110, 103, 101])])))] W := by
    have := h0.filter (fun x => x.1 == "strconv.ErrRange")
    rwa [show (laidL.filter fun x => x.2.handleName?.isNone).filter (fun x => x.1 == "strconv.ErrRange") = [("strconv.ErrRange", .iface "*errors.errorString" (.ptr (.agg [.lit (.string [118, 97, 108, 117, 101, 32, 111, 117, 116, 32, 111, 102, 32, 114, 97, 110, 103, 101])])))] by kernel_rfl] at this
  refine ⟨Lib.tabIs_of_head g_tab gt_tab Tryz.underlying222 Tryz.underlying177 cells_u64 cells_tab hT, ?_, ?_⟩
  · obtain ⟨a0, s0, hv0, -, -, -⟩ := laid_sentinel hS g_syn gt_syn Tryz.underlying116 row_es Tryz.underlying227 Tryz.underlying229 rfl rfl Tryz.underlying9 cells_es cells_str
    exact ⟨_, _, hv0⟩
  · obtain ⟨a0, s0, hv0, -, -, -⟩ := laid_sentinel hR g_rng gt_rng Tryz.underlying116 row_es Tryz.underlying227 Tryz.underlying229 rfl rfl Tryz.underlying9 cells_es cells_str
    exact ⟨_, _, hv0⟩
/-- A world for the witness: what the door's run leaves, and the pinned table. -/
noncomputable def laidWorld (os : Os) : World :=
  { World.doorLaid Tryz.prog 72 os with heap := (World.doorLaid Tryz.prog 72 os).heap.modify 4 fun
      | .cells _ t frozen => .cells (Go.Pinned.utf8FirstZ.map fun (z : Nat) => Value.int .u8 z).toArray t frozen
      | o => o }
theorem own : ownKnob Tryz.prog.godebug = none := by kernel_rfl
set_option maxRecDepth 100000 in
theorem laid_met (os : Os) (args : Array Value) : laidMetH Tryz.prog laidL ((laidWorld os).forCall (fun _ _ => 0) ⟨#[], args, []⟩).memory :=
  laidMet_of_run3 8 (by kernel_rfl) (by kernel_rfl) (by kernel_rfl)
theorem vars_ok (os : Os) (args : Array Value) : ((laidWorld os).forCall (fun _ _ => 0) ⟨#[], args, []⟩).variablesRefB Tryz.prog = true := by kernel_rfl
theorem rest_ok (os : Os) (args : Array Value) : (((laidWorld os).forCall (fun _ _ => 0) ⟨#[], args, []⟩).heap.toList.drop Tryz.prog.globals.size).take ((begin Tryz.prog (fun _ _ => 0) default).world.heap.size - Tryz.prog.globals.size) =
      (begin Tryz.prog (fun _ _ => 0) default).world.heap.toList.drop Tryz.prog.globals.size := by kernel_rfl
end Nt
end Go.Proofs.YtpmlhgmmobpilaaGreatDoor

namespace Go.Proofs.YtpmlhgmmobpilaaGreatDoor
open Go.RowKit Go.Shelf
namespace Nt
theorem infoS : (Tryz.prog.info? 9).map (fun i => (i.zero, i.size, i.bytes)) = some (some (.string ⟨#[]⟩), 1, 16) := by kernel_rfl
/-- The cells of texts of numbers. -/
def tvals (ks : List Nat) : List Value := ks.map fun k => Value.string (T (some k))
/-- A slice of texts of numbers. -/
def TextsAt (W : World) (v : Value) (ks : List Nat) : Prop := ∃ g cap, v = .slice (some ⟨g, 0, none⟩) ks.length cap ∧ g < W.heap.size ∧ ∀ i (h : i < ks.length), W.cell? ⟨g, i, none⟩ = some (.string (T (some ks[i])))
theorem tvals_snoc (ks : List Nat) (k : Nat) : tvals ks ++ [Value.string (T (some k))] = tvals (ks ++ [k]) := by simp [tvals]
theorem tvals_at {B : Nat} {W : World} {v : Value} {ks : List Nat} (h : W.ownsRow B 9 1 v ks.length (tvals ks)) (h0 : ks ≠ []) : TextsAt W v ks := by
  rcases id h.2 with ⟨rfl, hx⟩ | ⟨g, cap, cur, rfl, hg, hh, hn, hcm, hcs, ht⟩
  · exact absurd (List.length_eq_zero_iff.1 hx) h0
  · refine ⟨g, cap, rfl, (Array.getElem?_eq_some_iff.1 hh).1, fun i hi => ?_⟩
    rw [World.ownsRow.cellAt h i (by omega)]
    simp [tvals, hi]
/-- The pairs of an argument's memory. -/
def PairsAt (W : World) (b : Nat) (ps : List (Nat × Nat)) : Prop := ∀ i (h : i < ps.length), W.cell? ⟨b, i * 2, none⟩ = some (.string (T (some ps[i].1))) ∧ W.cell? ⟨b, i * 2 + 1, none⟩ = some (.string (T (some ps[i].2)))
def prods (ps : List (Nat × Nat)) : List Nat := ps.map fun p => p.1 * p.2
def PrRel (w : World) (ps : List (Nat × Nat)) (k : Nat) (v : Value) (wr : World) : Prop :=
  wr.ownsRow w.heap.size 9 1 v (prods (ps.take k)).length (tvals (prods (ps.take k))) ∧ Below w.heap.size w wr
theorem ownsRow_belowH {B : Nat} {e : TypeId} {size : Nat} {w w' : World} {v : Value} {n : Nat} {xs : List Value} (h : w.ownsRow B e size v n xs) (hb : Below w.heap.size w w') : w'.ownsRow B e size v n xs := by
  obtain ⟨h1, h2⟩ := h
  refine ⟨h1, ?_⟩
  rcases h2 with h2 | ⟨g, cap, cur, hv, hg, hh, r⟩
  · exact Or.inl h2
  · exact Or.inr ⟨g, cap, cur, hv, hg, by rw [hb.block g (Array.getElem?_eq_some_iff.1 hh).1]; exact hh, r⟩
theorem one_cell_s (s : ByteArray) : ∀ u ∈ [Value.string s], u.oneCell' = true := by
  intro u hu; simp at hu; subst hu; rfl
set_option maxRecDepth 100000 in
set_option maxHeartbeats 2000000 in
theorem products_any (w : World) (hE : Env w) (b cap : Nat) (ps : List (Nat × Nat)) (hb : b < w.heap.size) (hl : ps.length ≤ 100) (hp : PairsAt w b ps) (hs : ∀ p ∈ ps, p.1 < Lim ∧ p.2 < Lim ∧ p.1 * p.2 < Lim) :
    Calls Tryz.prog 109 #[.slice (some ⟨b, 0, none⟩) ps.length cap] w fun e w' => (∃ v, e = .returned v ∧ w'.ownsRow w.heap.size 9 1 v (prods ps).length (tvals (prods ps))) ∧ Below w.heap.size w w' := by
  obtain ⟨i0, hi, hz0, hz1, hz2⟩ := info_parts infoS
  have HP := Lib.hid hp
  have HS := Lib.hid hs
  replace hE := Lib.hid hE
  clear hp hs
  go_enter Tryz.func109, Tryz.ntmps109
  go_wp2
  go_loopw [3, 10] (fun v i wr => ∃ k : Nat, k ≤ ps.length ∧ i = .int .i64 (k : Int) ∧ PrRel w ps k v wr) (fun _ i _ => ps.length - (intOf i).toNat)
  case atStart => exact ⟨0, Nat.zero_le _, rfl, World.ownsRow_nil _ _ _ _, Below.refl _ _⟩
  case round =>
    obtain ⟨k, hk, rfl, z1, z2⟩ := hrel
    have hsz := z2.size
    by_cases hlt : k < ps.length
    · obtain ⟨x, hx⟩ : ∃ x, x = ps[k].1 := ⟨_, rfl⟩
      obtain ⟨y, hy⟩ : ∃ y, y = ps[k].2 := ⟨_, rfl⟩
      obtain ⟨hp1, hp2⟩ := HP.out k hlt
      obtain ⟨s1, s2, s3⟩ := HS.out _ (List.getElem_mem hlt)
      rw [← hx] at hp1 s1 s3
      rw [← hy] at hp2 s2 s3
      have c1 := (z2.cell (p := ⟨b, k * 2, none⟩) hb).trans hp1
      have c2 := (z2.cell (p := ⟨b, k * 2 + 1, none⟩) hb).trans hp2
      have hM : Hid (mulO (some x) (some y) = some (x * y) ∧ mulE (some x) (some y) = 0) := ⟨by simp only [mulO, apO, limO, if_pos s3], by simp only [mulE, apE, if_pos s3]⟩
      have hN : Hid (prods (ps.take (k + 1)) = prods (ps.take k) ++ [x * y]) := by
        unfold Hid prods
        rw [List.take_succ_eq_append_getElem hlt, List.map_append, hx, hy]
        rfl
      have hL : Hid ((prods (ps.take k)).length = k) := by unfold Hid prods; simp; omega
      replace z1 := Lib.hid z1
      replace z2 := Lib.hid z2
      clear hp1 hp2 hx hy
      go_wp2_with fail
      refine (mulT (some x) (some y) _ (hE.out.below (z2.out.alloc hsz _)) (ok_some s1) (ok_some s2)).mono ?_
      rintro e w1 ⟨rfl, hb1⟩
      rw [hM.out.1, hM.out.2]
      have hB1 := Lib.hid ((z2.out.alloc hsz _).trans (hb1.mono (by simp; omega)))
      have ho : Hid (w1.ownsRow w.heap.size 9 1 u3 (prods (ps.take k)).length (tvals (prods (ps.take k)))) := ownsRow_belowH (z1.out.alloc _) hb1
      have hsz1 := hB1.out.size
      clear hb1 z1 z2
      go_wp2_with (at_builtin; refine wpList_append_own _ rfl _ _ 51 rfl w.heap.size 9 i0 (.string ⟨#[]⟩) 1 16 Tryz.underlying51 hi hz0 hz1 hz2 rfl (by decide) u3 (prods (ps.take k)).length (tvals (prods (ps.take k))) rfl (ho.out.alloc _) ⟨w1.heap.size, 0, none⟩ 1 1 [.string (T (some (x * y)))] rfl rfl (one_new _ _ _) (one_cell_s _) (by have := hL.out; unfold maxLen; omega) (by have := hL.out; omega) (by simp; omega) ?_; intro v2 w2 hown2 hgr2 _)
      refine ⟨⟨k + 1, by omega, by go_num, ?_, (hB1.out.alloc (by omega) _).grown hgr2 (by simp; omega) (fun b e => (ho.out.lt b e).1)⟩, by simp only [intOf]; omega⟩
      rw [hN.out, ← tvals_snoc, List.length_append]
      exact hown2
    · obtain rfl : k = ps.length := by omega
      have e : ps.take ps.length = ps := List.take_of_length_le (Nat.le_refl _)
      rw [e] at z1
      replace z1 := Lib.hid z1
      replace z2 := Lib.hid z2
      clear e
      go_wp2
      go_ret
      exact ⟨⟨_, rfl, z1.out⟩, z2.out⟩
end Nt
end Go.Proofs.YtpmlhgmmobpilaaGreatDoor

namespace Go.Proofs.YtpmlhgmmobpilaaGreatDoor
open Go.RowKit Go.Shelf
namespace Nt
theorem blw_drewN {B : Nat} {a w : World} (h : Below B a w) (n : Nat) : Below B a (w.drewN n) := ⟨h.os, h.tape, h.output, h.size, h.block⟩
/-- The blocks that sum lays ahead of its products. -/
def SumBoxes (W : World) (B : Nat) (g1 g2 : Bool) (a b c d : Nat) : Prop :=
  B3 W B g1 (T (some a)) (T (some b)) ∧ B3 W (B + 1) g2 (T (some c)) (T (some d)) ∧ B3 W (B + 1 + 1) false ⟨#[]⟩ ⟨#[]⟩
abbrev sumW (w : World) (g1 g2 : Bool) (a b c d : Nat) : World :=
  ((w.alloc (.cells #[.bool g1, .string (T (some a)), .string (T (some b))] 23)).alloc (.cells #[.bool g2, .string (T (some c)), .string (T (some d))] 23)).alloc (.cells #[.bool false, .string ⟨#[]⟩, .string ⟨#[]⟩] 23)
theorem SumBoxes.new (w : World) (g1 g2 : Bool) (a b c d : Nat) : SumBoxes (sumW w g1 g2 a b c d) w.heap.size g1 g2 a b c d := by
  have e1 : (w.alloc (.cells #[.bool g1, .string (T (some a)), .string (T (some b))] 23)).heap.size = w.heap.size + 1 := by simp
  have e2 : ((w.alloc (.cells #[.bool g1, .string (T (some a)), .string (T (some b))] 23)).alloc (.cells #[.bool g2, .string (T (some c)), .string (T (some d))] 23)).heap.size = w.heap.size + 1 + 1 := by simp
  refine ⟨((B3.new w _ _ _).alloc _).alloc _, ?_, ?_⟩
  · have h := B3.new (w.alloc (.cells #[.bool g1, .string (T (some a)), .string (T (some b))] 23)) g2 (T (some c)) (T (some d))
    rw [e1] at h
    exact h.alloc _
  · have h := B3.new ((w.alloc (.cells #[.bool g1, .string (T (some a)), .string (T (some b))] 23)).alloc (.cells #[.bool g2, .string (T (some c)), .string (T (some d))] 23)) false ⟨#[]⟩ ⟨#[]⟩
    rw [e2] at h
    exact h
theorem sumW_below (w : World) (g1 g2 : Bool) (a b c d : Nat) : Below w.heap.size w (sumW w g1 g2 a b c d) :=
  (((Below.refl _ w).alloc (Nat.le_refl _) _).alloc (by simp) _).alloc (by simp; omega) _
theorem SumBoxes.alloc {W : World} {B : Nat} {g1 g2 : Bool} {a b c d : Nat} (h : SumBoxes W B g1 g2 a b c d) (o : Obj) : SumBoxes (W.alloc o) B g1 g2 a b c d := ⟨h.1.alloc o, h.2.1.alloc o, h.2.2.alloc o⟩
theorem SumBoxes.below {W W' : World} {B : Nat} {g1 g2 : Bool} {a b c d : Nat} (h : SumBoxes W B g1 g2 a b c d) (hb : Below W.heap.size W W') : SumBoxes W' B g1 g2 a b c d := ⟨h.1.below hb, h.2.1.below hb, h.2.2.below hb⟩
theorem texts3 {W : World} {v : Value} {x y z : Nat} (h : TextsAt W v [x, y, z]) : ∃ g cap, v = .slice (some ⟨g, 0, none⟩) 3 cap ∧ W.cell? ⟨g, 0, none⟩ = some (.string (T (some x))) ∧ W.cell? ⟨g, 1, none⟩ = some (.string (T (some y))) ∧ W.cell? ⟨g, 2, none⟩ = some (.string (T (some z))) := by
  obtain ⟨g, cap, rfl, hg, hc⟩ := h
  exact ⟨g, cap, rfl, hc 0 (by simp), hc 1 (by simp), hc 2 (by simp)⟩
theorem texts2 {W : World} {v : Value} {x y : Nat} (h : TextsAt W v [x, y]) : ∃ g cap, v = .slice (some ⟨g, 0, none⟩) 2 cap ∧ g < W.heap.size ∧ W.cell? ⟨g, 0, none⟩ = some (.string (T (some x))) ∧ W.cell? ⟨g, 1, none⟩ = some (.string (T (some y))) := by
  obtain ⟨g, cap, rfl, hg, hc⟩ := h
  exact ⟨g, cap, rfl, hg, hc 0 (by simp), hc 1 (by simp)⟩
/-- The memory of the pairs. -/
theorem pairs3 (W : World) (x1 y1 x2 y2 x3 y3 : Nat) :
    PairsAt (W.alloc (.cells #[.string (T (some x1)), .string (T (some y1)), .string (T (some x2)), .string (T (some y2)), .string (T (some x3)), .string (T (some y3))] 126)) W.heap.size [(x1, y1), (x2, y2), (x3, y3)] := by
  intro i hi
  have h := heap_alloc_new W (.cells #[.string (T (some x1)), .string (T (some y1)), .string (T (some x2)), .string (T (some y2)), .string (T (some x3)), .string (T (some y3))] 126)
  match i, hi with
  | 0, _ => simp only [World.cell?, h]; exact ⟨rfl, rfl⟩
  | 1, _ => simp only [World.cell?, h]; exact ⟨rfl, rfl⟩
  | 2, _ => simp only [World.cell?, h]; exact ⟨rfl, rfl⟩
  | n + 3, hi => simp at hi; omega
theorem pairs2 (W : World) (x1 y1 x2 y2 : Nat) :
    PairsAt (W.alloc (.cells #[.string (T (some x1)), .string (T (some y1)), .string (T (some x2)), .string (T (some y2))] 126)) W.heap.size [(x1, y1), (x2, y2)] := by
  intro i hi
  have h := heap_alloc_new W (.cells #[.string (T (some x1)), .string (T (some y1)), .string (T (some x2)), .string (T (some y2))] 126)
  match i, hi with
  | 0, _ => simp only [World.cell?, h]; exact ⟨rfl, rfl⟩
  | 1, _ => simp only [World.cell?, h]; exact ⟨rfl, rfl⟩
  | n + 2, hi => simp at hi; omega
set_option maxRecDepth 100000 in
set_option maxHeartbeats 2000000 in
theorem sumw_same (g1 : Bool) (a b c d : Nat) (w : World) (hE : Env w) (ha : a < L1) (hb : b < L1) (hc : c < L1) (hd : d < L1) (hb0 : b ≠ 0) (hd0 : d ≠ 0)  :
    Calls Tryz.prog 58 #[.agg #[.bool g1, .string (T (some a)), .string (T (some b))], .agg #[.bool g1, .string (T (some c)), .string (T (some d))]] w fun e w' => e = .returned (.tuple #[qv (mkRat (sg g1 (a * d + c * b)) (b * d)), .int .i64 0]) ∧ Below w.heap.size w w' := by
  have hbd : b * d ≠ 0 := Nat.mul_ne_zero hb0 hd0
  have HS := Lib.hid (And.intro (L1_mul ha hd) (And.intro (L1_mul hc hb) (And.intro (L1_mul hb hd) L1_sq)))
  have HP : Hid (∀ p ∈ [(a, d), (c, b), (b, d)], p.1 < Lim ∧ p.2 < Lim ∧ p.1 * p.2 < Lim) := by
    have := HS.out
    intro p hp
    simp only [List.mem_cons, List.not_mem_nil, or_false] at hp
    rcases hp with rfl | rfl | rfl
    · exact ⟨L1_lim ha, L1_lim hd, by show a * d < Lim; omega⟩
    · exact ⟨L1_lim hc, L1_lim hb, by show c * b < Lim; omega⟩
    · exact ⟨L1_lim hb, L1_lim hd, by show b * d < Lim; omega⟩
  have hPR : Hid (PairsAt ((sumW w g1 g1 a b c d).alloc (.cells #[.string (T (some a)), .string (T (some d)), .string (T (some c)), .string (T (some b)), .string (T (some b)), .string (T (some d))] 126)) (w.heap.size + 1 + 1 + 1) [(a, d), (c, b), (b, d)]) := by
    have := pairs3 (sumW w g1 g1 a b c d) a d c b b d
    rwa [show (sumW w g1 g1 a b c d).heap.size = w.heap.size + 1 + 1 + 1 by simp] at this
  have hBE : Hid (Below w.heap.size w ((sumW w g1 g1 a b c d).alloc (.cells #[.string (T (some a)), .string (T (some d)), .string (T (some c)), .string (T (some b)), .string (T (some b)), .string (T (some d))] 126))) := (sumW_below w g1 g1 a b c d).alloc (sumW_below w g1 g1 a b c d).size _
  have hQE : Hid (SumBoxes ((sumW w g1 g1 a b c d).alloc (.cells #[.string (T (some a)), .string (T (some d)), .string (T (some c)), .string (T (some b)), .string (T (some b)), .string (T (some d))] 126)) w.heap.size g1 g1 a b c d) := (SumBoxes.new w g1 g1 a b c d).alloc _
  replace hE := Lib.hid hE
  replace hbd := Lib.hid hbd
  clear ha hb hc hd hb0 hd0
  have hA : Hid (sumO (some (a * d)) (some (c * b)) = some (a * d + c * b) ∧ sumE (some (a * d)) (some (c * b)) = 0) := by
    have := HS.out
    have h : a * d + c * b < Lim := by omega
    exact ⟨by simp only [sumO, apO, limO, if_pos h], by simp only [sumE, apE, if_pos h]⟩
  go_enter Tryz.func58, Tryz.ntmps58
  go_wp2_with fail
  refine (products_any _ (hE.out.below hBE.out) (w.heap.size + 1 + 1 + 1) 3 [(a, d), (c, b), (b, d)] (by simp) (by simp) hPR.out HP.out).mono ?_
  rintro e w1 ⟨⟨v, rfl, ho⟩, hb1⟩
  have hat : TextsAt w1 v [a * d, c * b, b * d] := tvals_at ho (by simp)
  obtain ⟨lg, lcap, rfl, l0, l1, l2⟩ := texts3 hat
  have q1 := hQE.out.below hb1
  have hB1 := Lib.hid (hBE.out.trans (hb1.mono hBE.out.size))
  obtain ⟨a1, a2, a3, a4, a5, a6⟩ := q1.1.facts
  obtain ⟨b1, b2, b3, b4, b5, b6⟩ := q1.2.1.facts
  obtain ⟨c1, c2, c3, c4, c5, c6⟩ := q1.2.2.facts
  have hz1 := q1.2.2.lt
  replace q1 := Lib.hid q1
  clear hb1 hat ho
  go_wp2_with fail
  show Code.wp _ _ _ _ _
  go_quiet (fail)
  obtain ⟨W, hW⟩ : ∃ W, W = w1.drewN nq := ⟨_, rfl⟩
  have qW : Hid (SumBoxes W w.heap.size g1 g1 a b c d) := by rw [hW]; exact q1.out
  have hBW : Hid (Below w.heap.size w W) := by rw [hW]; exact blw_drewN hB1.out nq
  rw [← hW]
  clear a1 a2 a3 a4 a5 a6 b1 b2 b3 b4 b5 b6 c1 c2 c3 c4 c5 c6 hz1 l0 l1 l2 hW q1 hB1
  obtain ⟨a1, a2, a3, a4, a5, a6⟩ := qW.out.1.facts
  obtain ⟨b1, b2, b3, b4, b5, b6⟩ := qW.out.2.1.facts
  go_wp2_with fail
  refine (addT (some (a * d)) (some (c * b)) _ (hE.out.below hBW.out) (ok_some (by have := HS.out; omega)) (ok_some (by have := HS.out; omega))).mono ?_
  rintro e w2 ⟨rfl, hb2⟩
  rw [hA.out.1, hA.out.2]
  have q2 := qW.out.below hb2
  have hB2 := Lib.hid (hBW.out.trans (hb2.mono hBW.out.size))
  clear a1 a2 a3 a4 a5 a6 b1 b2 b3 b4 b5 b6 hb2
  obtain ⟨a1, a2, a3, a4, a5, a6⟩ := q2.1.facts
  obtain ⟨b1, b2, b3, b4, b5, b6⟩ := q2.2.1.facts
  replace q2 := Lib.hid q2
  go_wp2_with fail
  refine (lowest_any g1 (a * d + c * b) (b * d) _ (hE.out.below hB2.out) (by have := HS.out; omega) (by have := HS.out; omega) hbd.out).mono ?_
  rintro e w3 ⟨rfl, hb3⟩
  have q3 := q2.out.below hb3
  have hB3 := Lib.hid (hB2.out.trans (hb3.mono hB2.out.size))
  clear a1 a2 a3 a4 a5 a6 b1 b2 b3 b4 b5 b6 hb3
  obtain ⟨c1, c2, c3, c4, c5, c6⟩ := q3.2.2.facts
  replace q3 := Lib.hid q3
  unfold qv
  go_wp2
  refine bodyPost_ret (v := .tuple #[.agg #[.bool (decide ((mkRat (sg g1 (a * d + c * b)) (b * d)).num < 0)), .string (T (some (mkRat (sg g1 (a * d + c * b)) (b * d)).num.natAbs)), .string (T (some (mkRat (sg g1 (a * d + c * b)) (b * d)).den))], .int .i64 0]) (by simp [results, Tryz.results58, go_sem, c1, c2, c3]) rfl ⟨rfl, ?_⟩
  repeat refine Below.setCell ?_ (by simp only []; omega) _
  exact hB3.out
set_option maxRecDepth 100000 in
set_option maxHeartbeats 2000000 in
theorem sumw_less (g1 g2 : Bool) (a b c d : Nat) (w : World) (hE : Env w) (ha : a < L1) (hb : b < L1) (hc : c < L1) (hd : d < L1) (hb0 : b ≠ 0) (hd0 : d ≠ 0) (hg : (g1 == g2) = false) (hl : a * d < c * b) :
    Calls Tryz.prog 58 #[.agg #[.bool g1, .string (T (some a)), .string (T (some b))], .agg #[.bool g2, .string (T (some c)), .string (T (some d))]] w fun e w' => e = .returned (.tuple #[qv (mkRat (sg g2 (c * b - a * d)) (b * d)), .int .i64 0]) ∧ Below w.heap.size w w' := by
  have hbd : b * d ≠ 0 := Nat.mul_ne_zero hb0 hd0
  have HS := Lib.hid (And.intro (L1_mul ha hd) (And.intro (L1_mul hc hb) (And.intro (L1_mul hb hd) L1_sq)))
  have HP : Hid (∀ p ∈ [(a, d), (c, b), (b, d)], p.1 < Lim ∧ p.2 < Lim ∧ p.1 * p.2 < Lim) := by
    have := HS.out
    intro p hp
    simp only [List.mem_cons, List.not_mem_nil, or_false] at hp
    rcases hp with rfl | rfl | rfl
    · exact ⟨L1_lim ha, L1_lim hd, by show a * d < Lim; omega⟩
    · exact ⟨L1_lim hc, L1_lim hb, by show c * b < Lim; omega⟩
    · exact ⟨L1_lim hb, L1_lim hd, by show b * d < Lim; omega⟩
  have hPR : Hid (PairsAt ((sumW w g1 g2 a b c d).alloc (.cells #[.string (T (some a)), .string (T (some d)), .string (T (some c)), .string (T (some b)), .string (T (some b)), .string (T (some d))] 126)) (w.heap.size + 1 + 1 + 1) [(a, d), (c, b), (b, d)]) := by
    have := pairs3 (sumW w g1 g2 a b c d) a d c b b d
    rwa [show (sumW w g1 g2 a b c d).heap.size = w.heap.size + 1 + 1 + 1 by simp] at this
  have hBE : Hid (Below w.heap.size w ((sumW w g1 g2 a b c d).alloc (.cells #[.string (T (some a)), .string (T (some d)), .string (T (some c)), .string (T (some b)), .string (T (some b)), .string (T (some d))] 126))) := (sumW_below w g1 g2 a b c d).alloc (sumW_below w g1 g2 a b c d).size _
  have hQE : Hid (SumBoxes ((sumW w g1 g2 a b c d).alloc (.cells #[.string (T (some a)), .string (T (some d)), .string (T (some c)), .string (T (some b)), .string (T (some b)), .string (T (some d))] 126)) w.heap.size g1 g2 a b c d) := (SumBoxes.new w g1 g2 a b c d).alloc _
  replace hE := Lib.hid hE
  replace hbd := Lib.hid hbd
  clear ha hb hc hd hb0 hd0
  have hC0 : Hid (cmpX (some (a * d)) (some (c * b)) = 0) := rfl
  have hS2 : Hid (subO (some (c * b)) (some (a * d)) = some (c * b - a * d) ∧ subX (some (c * b)) (some (a * d)) = 0) := ⟨if_pos (by omega), if_pos (by omega)⟩
  have hC : Hid (cmpO (some (a * d)) (some (c * b)) = -1) := cmpN_lt hl
  replace hl := Lib.hid hl
  go_enter Tryz.func58, Tryz.ntmps58
  go_wp2_with fail
  refine (products_any _ (hE.out.below hBE.out) (w.heap.size + 1 + 1 + 1) 3 [(a, d), (c, b), (b, d)] (by simp) (by simp) hPR.out HP.out).mono ?_
  rintro e w1 ⟨⟨v, rfl, ho⟩, hb1⟩
  have hat : TextsAt w1 v [a * d, c * b, b * d] := tvals_at ho (by simp)
  obtain ⟨lg, lcap, rfl, l0, l1, l2⟩ := texts3 hat
  have q1 := hQE.out.below hb1
  have hB1 := Lib.hid (hBE.out.trans (hb1.mono hBE.out.size))
  obtain ⟨a1, a2, a3, a4, a5, a6⟩ := q1.1.facts
  obtain ⟨b1, b2, b3, b4, b5, b6⟩ := q1.2.1.facts
  obtain ⟨c1, c2, c3, c4, c5, c6⟩ := q1.2.2.facts
  have hz1 := q1.2.2.lt
  replace q1 := Lib.hid q1
  clear hb1 hat ho
  go_wp2_with fail
  show Code.wp _ _ _ _ _
  go_quiet (fail)
  obtain ⟨W, hW⟩ : ∃ W, W = w1.drewN nq := ⟨_, rfl⟩
  have qW : Hid (SumBoxes W w.heap.size g1 g2 a b c d) := by rw [hW]; exact q1.out
  have hBW : Hid (Below w.heap.size w W) := by rw [hW]; exact blw_drewN hB1.out nq
  rw [← hW]
  clear a1 a2 a3 a4 a5 a6 b1 b2 b3 b4 b5 b6 c1 c2 c3 c4 c5 c6 hz1 l0 l1 l2 hW q1 hB1
  obtain ⟨a1, a2, a3, a4, a5, a6⟩ := qW.out.1.facts
  obtain ⟨b1, b2, b3, b4, b5, b6⟩ := qW.out.2.1.facts
  go_wp2_with fail
  refine (cmpT (some (a * d)) (some (c * b)) _ (hE.out.below hBW.out) (ok_some (by have := HS.out; omega)) (ok_some (by have := HS.out; omega))).mono ?_
  rintro e w2 ⟨rfl, hb2⟩
  rw [hC.out, hC0.out]
  have q2 := qW.out.below hb2
  have hB2 := Lib.hid (hBW.out.trans (hb2.mono hBW.out.size))
  clear a1 a2 a3 a4 a5 a6 b1 b2 b3 b4 b5 b6 hb2
  obtain ⟨a1, a2, a3, a4, a5, a6⟩ := q2.1.facts
  obtain ⟨b1, b2, b3, b4, b5, b6⟩ := q2.2.1.facts
  replace q2 := Lib.hid q2
  go_wp2_with fail
  refine (subT (some (c * b)) (some (a * d)) _ (hE.out.below hB2.out) (ok_some (by have := HS.out; omega)) (ok_some (by have := HS.out; omega))).mono ?_
  rintro e w3 ⟨rfl, hb3⟩
  rw [hS2.out.1, hS2.out.2]
  have q3 := q2.out.below hb3
  have hB3 := Lib.hid (hB2.out.trans (hb3.mono hB2.out.size))
  clear a1 a2 a3 a4 a5 a6 b1 b2 b3 b4 b5 b6 hb3
  obtain ⟨a1, a2, a3, a4, a5, a6⟩ := q3.1.facts
  obtain ⟨b1, b2, b3, b4, b5, b6⟩ := q3.2.1.facts
  replace q3 := Lib.hid q3
  go_wp2_with fail
  refine (lowest_any g2 (c * b - a * d) (b * d) _ (hE.out.below hB3.out) (by have := HS.out; omega) (by have := HS.out; omega) hbd.out).mono ?_
  rintro e w4 ⟨rfl, hb4⟩
  have q4 := q3.out.below hb4
  have hB4 := Lib.hid (hB3.out.trans (hb4.mono hB3.out.size))
  clear a1 a2 a3 a4 a5 a6 b1 b2 b3 b4 b5 b6 hb4
  obtain ⟨c1, c2, c3, c4, c5, c6⟩ := q4.2.2.facts
  replace q4 := Lib.hid q4
  unfold qv
  go_wp2
  refine bodyPost_ret (v := .tuple #[.agg #[.bool (decide ((mkRat (sg g2 (c * b - a * d)) (b * d)).num < 0)), .string (T (some (mkRat (sg g2 (c * b - a * d)) (b * d)).num.natAbs)), .string (T (some (mkRat (sg g2 (c * b - a * d)) (b * d)).den))], .int .i64 0]) (by simp [results, Tryz.results58, go_sem, c1, c2, c3]) rfl ⟨rfl, ?_⟩
  repeat refine Below.setCell ?_ (by simp only []; omega) _
  exact hB4.out
set_option maxRecDepth 100000 in
set_option maxHeartbeats 2000000 in
theorem sumw_more (g1 g2 : Bool) (a b c d : Nat) (w : World) (hE : Env w) (ha : a < L1) (hb : b < L1) (hc : c < L1) (hd : d < L1) (hb0 : b ≠ 0) (hd0 : d ≠ 0) (hg : (g1 == g2) = false) (hl : c * b ≤ a * d) :
    Calls Tryz.prog 58 #[.agg #[.bool g1, .string (T (some a)), .string (T (some b))], .agg #[.bool g2, .string (T (some c)), .string (T (some d))]] w fun e w' => e = .returned (.tuple #[qv (mkRat (sg g1 (a * d - c * b)) (b * d)), .int .i64 0]) ∧ Below w.heap.size w w' := by
  have hbd : b * d ≠ 0 := Nat.mul_ne_zero hb0 hd0
  have HS := Lib.hid (And.intro (L1_mul ha hd) (And.intro (L1_mul hc hb) (And.intro (L1_mul hb hd) L1_sq)))
  have HP : Hid (∀ p ∈ [(a, d), (c, b), (b, d)], p.1 < Lim ∧ p.2 < Lim ∧ p.1 * p.2 < Lim) := by
    have := HS.out
    intro p hp
    simp only [List.mem_cons, List.not_mem_nil, or_false] at hp
    rcases hp with rfl | rfl | rfl
    · exact ⟨L1_lim ha, L1_lim hd, by show a * d < Lim; omega⟩
    · exact ⟨L1_lim hc, L1_lim hb, by show c * b < Lim; omega⟩
    · exact ⟨L1_lim hb, L1_lim hd, by show b * d < Lim; omega⟩
  have hPR : Hid (PairsAt ((sumW w g1 g2 a b c d).alloc (.cells #[.string (T (some a)), .string (T (some d)), .string (T (some c)), .string (T (some b)), .string (T (some b)), .string (T (some d))] 126)) (w.heap.size + 1 + 1 + 1) [(a, d), (c, b), (b, d)]) := by
    have := pairs3 (sumW w g1 g2 a b c d) a d c b b d
    rwa [show (sumW w g1 g2 a b c d).heap.size = w.heap.size + 1 + 1 + 1 by simp] at this
  have hBE : Hid (Below w.heap.size w ((sumW w g1 g2 a b c d).alloc (.cells #[.string (T (some a)), .string (T (some d)), .string (T (some c)), .string (T (some b)), .string (T (some b)), .string (T (some d))] 126))) := (sumW_below w g1 g2 a b c d).alloc (sumW_below w g1 g2 a b c d).size _
  have hQE : Hid (SumBoxes ((sumW w g1 g2 a b c d).alloc (.cells #[.string (T (some a)), .string (T (some d)), .string (T (some c)), .string (T (some b)), .string (T (some b)), .string (T (some d))] 126)) w.heap.size g1 g2 a b c d) := (SumBoxes.new w g1 g2 a b c d).alloc _
  replace hE := Lib.hid hE
  replace hbd := Lib.hid hbd
  clear ha hb hc hd hb0 hd0
  have hC0 : Hid (cmpX (some (a * d)) (some (c * b)) = 0) := rfl
  have hS2 : Hid (subO (some (a * d)) (some (c * b)) = some (a * d - c * b) ∧ subX (some (a * d)) (some (c * b)) = 0) := ⟨if_pos (by omega), if_pos (by omega)⟩
  obtain ⟨cv, hcv, hcv0⟩ : ∃ cv : Int, cv = cmpO (some (a * d)) (some (c * b)) ∧ 0 ≤ cv := ⟨_, rfl, by show 0 ≤ cmpN (a * d) (c * b); unfold cmpN; rw [if_neg (by omega)]; split <;> omega⟩
  have hC : Hid (cmpO (some (a * d)) (some (c * b)) = cv) := hcv.symm
  clear hcv
  replace hl := Lib.hid hl
  go_enter Tryz.func58, Tryz.ntmps58
  go_wp2_with fail
  refine (products_any _ (hE.out.below hBE.out) (w.heap.size + 1 + 1 + 1) 3 [(a, d), (c, b), (b, d)] (by simp) (by simp) hPR.out HP.out).mono ?_
  rintro e w1 ⟨⟨v, rfl, ho⟩, hb1⟩
  have hat : TextsAt w1 v [a * d, c * b, b * d] := tvals_at ho (by simp)
  obtain ⟨lg, lcap, rfl, l0, l1, l2⟩ := texts3 hat
  have q1 := hQE.out.below hb1
  have hB1 := Lib.hid (hBE.out.trans (hb1.mono hBE.out.size))
  obtain ⟨a1, a2, a3, a4, a5, a6⟩ := q1.1.facts
  obtain ⟨b1, b2, b3, b4, b5, b6⟩ := q1.2.1.facts
  obtain ⟨c1, c2, c3, c4, c5, c6⟩ := q1.2.2.facts
  have hz1 := q1.2.2.lt
  replace q1 := Lib.hid q1
  clear hb1 hat ho
  go_wp2_with fail
  show Code.wp _ _ _ _ _
  go_quiet (fail)
  obtain ⟨W, hW⟩ : ∃ W, W = w1.drewN nq := ⟨_, rfl⟩
  have qW : Hid (SumBoxes W w.heap.size g1 g2 a b c d) := by rw [hW]; exact q1.out
  have hBW : Hid (Below w.heap.size w W) := by rw [hW]; exact blw_drewN hB1.out nq
  rw [← hW]
  clear a1 a2 a3 a4 a5 a6 b1 b2 b3 b4 b5 b6 c1 c2 c3 c4 c5 c6 hz1 l0 l1 l2 hW q1 hB1
  obtain ⟨a1, a2, a3, a4, a5, a6⟩ := qW.out.1.facts
  obtain ⟨b1, b2, b3, b4, b5, b6⟩ := qW.out.2.1.facts
  go_wp2_with fail
  refine (cmpT (some (a * d)) (some (c * b)) _ (hE.out.below hBW.out) (ok_some (by have := HS.out; omega)) (ok_some (by have := HS.out; omega))).mono ?_
  rintro e w2 ⟨rfl, hb2⟩
  rw [hC.out, hC0.out]
  have q2 := qW.out.below hb2
  have hB2 := Lib.hid (hBW.out.trans (hb2.mono hBW.out.size))
  clear a1 a2 a3 a4 a5 a6 b1 b2 b3 b4 b5 b6 hb2
  obtain ⟨a1, a2, a3, a4, a5, a6⟩ := q2.1.facts
  obtain ⟨b1, b2, b3, b4, b5, b6⟩ := q2.2.1.facts
  replace q2 := Lib.hid q2
  go_wp2_with fail
  refine (subT (some (a * d)) (some (c * b)) _ (hE.out.below hB2.out) (ok_some (by have := HS.out; omega)) (ok_some (by have := HS.out; omega))).mono ?_
  rintro e w3 ⟨rfl, hb3⟩
  rw [hS2.out.1, hS2.out.2]
  have q3 := q2.out.below hb3
  have hB3 := Lib.hid (hB2.out.trans (hb3.mono hB2.out.size))
  clear a1 a2 a3 a4 a5 a6 b1 b2 b3 b4 b5 b6 hb3
  obtain ⟨a1, a2, a3, a4, a5, a6⟩ := q3.1.facts
  obtain ⟨b1, b2, b3, b4, b5, b6⟩ := q3.2.1.facts
  replace q3 := Lib.hid q3
  go_wp2_with fail
  refine (lowest_any g1 (a * d - c * b) (b * d) _ (hE.out.below hB3.out) (by have := HS.out; omega) (by have := HS.out; omega) hbd.out).mono ?_
  rintro e w4 ⟨rfl, hb4⟩
  have q4 := q3.out.below hb4
  have hB4 := Lib.hid (hB3.out.trans (hb4.mono hB3.out.size))
  clear a1 a2 a3 a4 a5 a6 b1 b2 b3 b4 b5 b6 hb4
  obtain ⟨c1, c2, c3, c4, c5, c6⟩ := q4.2.2.facts
  replace q4 := Lib.hid q4
  unfold qv
  go_wp2
  refine bodyPost_ret (v := .tuple #[.agg #[.bool (decide ((mkRat (sg g1 (a * d - c * b)) (b * d)).num < 0)), .string (T (some (mkRat (sg g1 (a * d - c * b)) (b * d)).num.natAbs)), .string (T (some (mkRat (sg g1 (a * d - c * b)) (b * d)).den))], .int .i64 0]) (by simp [results, Tryz.results58, go_sem, c1, c2, c3]) rfl ⟨rfl, ?_⟩
  repeat refine Below.setCell ?_ (by simp only []; omega) _
  exact hB4.out
end Nt
end Go.Proofs.YtpmlhgmmobpilaaGreatDoor

namespace Go.Proofs.YtpmlhgmmobpilaaGreatDoor
open Go.RowKit Go.Shelf
namespace Nt
theorem set3_other (W : World) (B b o : Nat) (x y z : Value) (h : b ≠ B) : (((W.setCell ⟨B, 0, none⟩ x).setCell ⟨B, 1, none⟩ y).setCell ⟨B, 2, none⟩ z).cell? ⟨b, o, none⟩ = W.cell? ⟨b, o, none⟩ :=
  World.cell?_of_block (w := W) (a := ⟨b, o, none⟩) (((Below.heap_setCell _ _ _ _ (by exact h)).trans (Below.heap_setCell _ _ _ _ (by exact h))).trans (Below.heap_setCell _ _ _ _ (by exact h)))
set_option maxRecDepth 100000 in
set_option maxHeartbeats 2000000 in
theorem product_any (g1 g2 : Bool) (a b c d : Nat) (w : World) (hE : Env w) (ha : a < Lim) (hb : b < Lim) (hc : c < Lim) (hd : d < Lim) (hac : a * c < Lim) (hbd : b * d < Lim) (h0 : b * d ≠ 0) :
    Calls Tryz.prog 56 #[.agg #[.bool g1, .string (T (some a)), .string (T (some b))], .agg #[.bool g2, .string (T (some c)), .string (T (some d))]] w fun e w' => e = .returned (.tuple #[qv (mkRat (sg (!(g1 == g2)) (a * c)) (b * d)), .int .i64 0]) ∧ Below w.heap.size w w' := by
  have HP : Hid (∀ p ∈ [(a, c), (b, d)], p.1 < Lim ∧ p.2 < Lim ∧ p.1 * p.2 < Lim) := by
    intro p hp
    simp only [List.mem_cons, List.not_mem_nil, or_false] at hp
    rcases hp with rfl | rfl
    · exact ⟨ha, hc, hac⟩
    · exact ⟨hb, hd, hbd⟩
  have hPR : Hid (PairsAt ((sumW w g1 g2 a b c d).alloc (.cells #[.string (T (some a)), .string (T (some c)), .string (T (some b)), .string (T (some d))] 126)) (w.heap.size + 1 + 1 + 1) [(a, c), (b, d)]) := by
    have := pairs2 (sumW w g1 g2 a b c d) a c b d
    rwa [show (sumW w g1 g2 a b c d).heap.size = w.heap.size + 1 + 1 + 1 by simp] at this
  have hBE : Hid (Below w.heap.size w ((sumW w g1 g2 a b c d).alloc (.cells #[.string (T (some a)), .string (T (some c)), .string (T (some b)), .string (T (some d))] 126))) := (sumW_below w g1 g2 a b c d).alloc (sumW_below w g1 g2 a b c d).size _
  have hQE : Hid (SumBoxes ((sumW w g1 g2 a b c d).alloc (.cells #[.string (T (some a)), .string (T (some c)), .string (T (some b)), .string (T (some d))] 126)) w.heap.size g1 g2 a b c d) := (SumBoxes.new w g1 g2 a b c d).alloc _
  replace hE := Lib.hid hE
  replace h0 := Lib.hid h0
  replace hac := Lib.hid hac
  replace hbd := Lib.hid hbd
  clear ha hb hc hd
  go_enter Tryz.func56, Tryz.ntmps56
  go_wp2_with fail
  refine (products_any _ (hE.out.below hBE.out) (w.heap.size + 1 + 1 + 1) 2 [(a, c), (b, d)] (by simp) (by simp) hPR.out HP.out).mono ?_
  rintro e w1 ⟨⟨v, rfl, ho⟩, hb1⟩
  have hat : TextsAt w1 v [a * c, b * d] := tvals_at ho (by simp)
  obtain ⟨lg, lcap, rfl, hlg, l0, l1⟩ := texts2 hat
  have hlb : w.heap.size + 1 + 1 + 1 < lg := by
    have h1 := (ho.lt lg rfl).1
    simp at h1
    omega
  have q1 := hQE.out.below hb1
  have hB1 := Lib.hid (hBE.out.trans (hb1.mono hBE.out.size))
  obtain ⟨a1, a2, a3, a4, a5, a6⟩ := q1.1.facts
  obtain ⟨b1, b2, b3, b4, b5, b6⟩ := q1.2.1.facts
  obtain ⟨c1, c2, c3, c4, c5, c6⟩ := q1.2.2.facts
  have hz1 := q1.2.2.lt
  replace q1 := Lib.hid q1
  clear hb1 hat ho
  go_wp2_with fail
  have hl := fun W (h : Below w1.heap.size w1 W) => lowest_any (!(g1 == g2)) (a * c) (b * d) W (hE.out.below (hB1.out.trans (h.mono hB1.out.size))) hac.out hbd.out h0.out
  simp only [qv] at hl
  have q1d : Hid (SumBoxes w1.drew w.heap.size g1 g2 a b c d) := q1.out
  go_region_held3 (fun w' => w'.cell? ⟨w.heap.size, 0, none⟩ = some (.bool g1) ∧ w'.cell? ⟨w.heap.size + 1, 0, none⟩ = some (.bool g2) ∧ w'.cell? ⟨lg, 0, none⟩ = some (.string (T (some (a * c)))) ∧ w'.cell? ⟨lg, 1, none⟩ = some (.string (T (some (b * d))))) (first | exact ⟨a1, b1, l0, l1⟩ | exact ⟨k1, k2, k3, k4⟩ | exact ⟨(set3_other _ _ _ _ _ _ _ (by omega)).trans k1, (set3_other _ _ _ _ _ _ _ (by omega)).trans k2, (set3_other _ _ _ _ _ _ _ (by omega)).trans k3, (set3_other _ _ _ _ _ _ _ (by omega)).trans k4⟩ | go_keep)
    (first | (go_at_call 97; refine (hl _ ?_).mono ?_; (exact (Below.refl _ _).drew); rintro e w2 ⟨rfl, hb2⟩; have q2 := q1d.out.below hb2; obtain ⟨c1', c2', c3', c4', c5', c6'⟩ := q2.2.2.facts; have k1 := q2.1.facts.1; have k2 := q2.2.1.facts.1; have k3 := (hb2.cell (p := ⟨lg, 0, none⟩) hlg).trans l0; have k4 := (hb2.cell (p := ⟨lg, 1, none⟩) hlg).trans l1))
  go_wp2
  refine bodyPost_ret (v := .tuple #[.agg #[.bool (decide ((mkRat (sg (!(g1 == g2)) (a * c)) (b * d)).num < 0)), .string (T (some (mkRat (sg (!(g1 == g2)) (a * c)) (b * d)).num.natAbs)), .string (T (some (mkRat (sg (!(g1 == g2)) (a * c)) (b * d)).den))], .int .i64 0]) (by simp [results, Tryz.results56, go_sem, c1', c2', c3']) rfl ⟨rfl, ?_⟩
  repeat refine Below.setCell ?_ (by simp only []; omega) _
  exact (hB1.out.drew).trans (hb2.mono hB1.out.size)
theorem opp_any (g : Bool) (n d : ByteArray) (w : World) :
    Calls Tryz.prog 68 #[.agg #[.bool g, .string n, .string d]] w fun e w' => e = .returned (.agg #[.bool (!g && !(n.toList == [48])), .string n, .string d]) ∧ Below w.heap.size w w' := by
  cases g with
  | true =>
    go_enter Tryz.func68, Tryz.ntmps68
    go_wp2
    refine bodyPost_ret (v := .agg #[.bool false, .string n, .string d]) (by simp [results, Tryz.results68, go_sem]) rfl ⟨rfl, ?_⟩
    repeat refine Below.setCell ?_ (by simp only []; omega) _
    exact ((Below.refl _ w).alloc (Nat.le_refl _) _).alloc (by simp) _
  | false =>
    cases hz : (n.toList == [48]) with
    | true =>
      go_enter Tryz.func68, Tryz.ntmps68
      go_wp2
      refine bodyPost_ret (v := .agg #[.bool false, .string n, .string d]) (by simp [results, Tryz.results68, go_sem]) rfl ⟨rfl, ?_⟩
      repeat refine Below.setCell ?_ (by simp only []; omega) _
      exact ((Below.refl _ w).alloc (Nat.le_refl _) _).alloc (by simp) _
    | false =>
      go_enter Tryz.func68, Tryz.ntmps68
      go_wp2
      refine bodyPost_ret (v := .agg #[.bool true, .string n, .string d]) (by simp [results, Tryz.results68, go_sem]) rfl ⟨rfl, ?_⟩
      repeat refine Below.setCell ?_ (by simp only []; omega) _
      exact ((Below.refl _ w).alloc (Nat.le_refl _) _).alloc (by simp) _
end Nt
end Go.Proofs.YtpmlhgmmobpilaaGreatDoor

namespace Go.Proofs.YtpmlhgmmobpilaaGreatDoor
open Go.RowKit Go.Shelf
namespace Nt
theorem sum_q (p q : Rat) (hp : ShortQ p) (hq : ShortQ q) (w : World) (hE : Env w) :
    Calls Tryz.prog 58 #[qv p, qv q] w fun e w' => e = .returned (.tuple #[qv (p + q), .int .i64 0]) ∧ Below w.heap.size w w' := by
  by_cases hg : decide (p.num < 0) = decide (q.num < 0)
  · have h := sumw_same (decide (p.num < 0)) p.num.natAbs p.den q.num.natAbs q.den w hE hp.1 hp.2 hq.1 hq.2 p.den_nz q.den_nz
    rw [sum_same rfl hg rfl rfl, add_mk] at h
    have e : qv q = .agg #[.bool (decide (p.num < 0)), .string (T (some q.num.natAbs)), .string (T (some q.den))] := by rw [hg]; rfl
    rw [e]
    exact h
  · have hne : (decide (p.num < 0) == decide (q.num < 0)) = false := by rw [beq_eq_false_iff_ne]; exact hg
    rcases Nat.lt_or_ge (p.num.natAbs * q.den) (q.num.natAbs * p.den) with hl | hl
    · have h := sumw_less (decide (p.num < 0)) (decide (q.num < 0)) p.num.natAbs p.den q.num.natAbs q.den w hE hp.1 hp.2 hq.1 hq.2 p.den_nz q.den_nz hne hl
      rw [sum_less rfl rfl rfl rfl hg hl, add_mk] at h
      exact h
    · have h := sumw_more (decide (p.num < 0)) (decide (q.num < 0)) p.num.natAbs p.den q.num.natAbs q.den w hE hp.1 hp.2 hq.1 hq.2 p.den_nz q.den_nz hne hl
      rw [sum_more rfl rfl rfl rfl hg hl, add_mk] at h
      exact h
theorem product_q (p q : Rat) (hp : ShortQ p) (hq : ShortQ q) (w : World) (hE : Env w) :
    Calls Tryz.prog 56 #[qv p, qv q] w fun e w' => e = .returned (.tuple #[qv (p * q), .int .i64 0]) ∧ Below w.heap.size w w' := by
  have h1 := L1_mul hp.1 hq.1
  have h2 := L1_mul hp.2 hq.2
  have h3 := L1_sq
  have h := product_any (decide (p.num < 0)) (decide (q.num < 0)) p.num.natAbs p.den q.num.natAbs q.den w hE (L1_lim hp.1) (L1_lim hp.2) (L1_lim hq.1) (L1_lim hq.2) (by omega) (by omega) (Nat.mul_ne_zero p.den_nz q.den_nz)
  have e := mul_mk p q
  rw [show (decide (p.num < 0) != decide (q.num < 0)) = !(decide (p.num < 0) == decide (q.num < 0)) from rfl] at e
  rw [e] at h
  exact h
theorem neg_qv (q : Rat) : (.agg #[.bool (!decide (q.num < 0) && !((T (some q.num.natAbs)).toList == [48])), .string (T (some q.num.natAbs)), .string (T (some q.den))] : Value) = qv (-q) := by
  unfold qv
  rw [T_is_zero]
  have e1 : (-q).num = -q.num := rfl
  have e2 : (-q).den = q.den := rfl
  rw [e1, e2, Int.natAbs_neg]
  have e3 : (!decide (q.num < 0) && !decide (q.num.natAbs = 0)) = decide (-q.num < 0) := by
    generalize q.num = z
    rw [Bool.eq_iff_iff]
    simp
    omega
  rw [e3]
theorem opp_q (q : Rat) (w : World) :
    Calls Tryz.prog 68 #[qv q] w fun e w' => e = .returned (qv (-q)) ∧ Below w.heap.size w w' := by
  refine (opp_any (decide (q.num < 0)) (T (some q.num.natAbs)) (T (some q.den)) w).mono ?_
  rintro e w' ⟨rfl, hb⟩
  exact ⟨by rw [neg_qv], hb⟩
theorem ShortQ.neg {q : Rat} (h : ShortQ q) : ShortQ (-q) := ⟨by show (-q.num).natAbs < L1; rw [Int.natAbs_neg]; exact h.1, h.2⟩
/-- The blocks of a function of two numbers. -/
abbrev twoW (w : World) (g1 g2 : Bool) (n1 d1 n2 d2 : ByteArray) : World :=
  ((w.alloc (.cells #[.bool g1, .string n1, .string d1] 23)).alloc (.cells #[.bool g2, .string n2, .string d2] 23)).alloc (.cells #[.bool false, .string ⟨#[]⟩, .string ⟨#[]⟩] 23)
def TwoBoxes (W : World) (B : Nat) (g1 g2 : Bool) (n1 d1 n2 d2 : ByteArray) : Prop := B3 W B g1 n1 d1 ∧ B3 W (B + 1) g2 n2 d2 ∧ B3 W (B + 1 + 1) false ⟨#[]⟩ ⟨#[]⟩
theorem TwoBoxes.new (w : World) (g1 g2 : Bool) (n1 d1 n2 d2 : ByteArray) : TwoBoxes (twoW w g1 g2 n1 d1 n2 d2) w.heap.size g1 g2 n1 d1 n2 d2 := by
  have e1 : (w.alloc (.cells #[.bool g1, .string n1, .string d1] 23)).heap.size = w.heap.size + 1 := by simp
  have e2 : ((w.alloc (.cells #[.bool g1, .string n1, .string d1] 23)).alloc (.cells #[.bool g2, .string n2, .string d2] 23)).heap.size = w.heap.size + 1 + 1 := by simp
  refine ⟨((B3.new w _ _ _).alloc _).alloc _, ?_, ?_⟩
  · have h := B3.new (w.alloc (.cells #[.bool g1, .string n1, .string d1] 23)) g2 n2 d2
    rw [e1] at h
    exact h.alloc _
  · have h := B3.new ((w.alloc (.cells #[.bool g1, .string n1, .string d1] 23)).alloc (.cells #[.bool g2, .string n2, .string d2] 23)) false ⟨#[]⟩ ⟨#[]⟩
    rw [e2] at h
    exact h
theorem twoW_below (w : World) (g1 g2 : Bool) (n1 d1 n2 d2 : ByteArray) : Below w.heap.size w (twoW w g1 g2 n1 d1 n2 d2) :=
  (((Below.refl _ w).alloc (Nat.le_refl _) _).alloc (by simp) _).alloc (by simp; omega) _
theorem TwoBoxes.below {W W' : World} {B : Nat} {g1 g2 : Bool} {n1 d1 n2 d2 : ByteArray} (h : TwoBoxes W B g1 g2 n1 d1 n2 d2) (hb : Below W.heap.size W W') : TwoBoxes W' B g1 g2 n1 d1 n2 d2 := ⟨h.1.below hb, h.2.1.below hb, h.2.2.below hb⟩
theorem TwoBoxes.six {W : World} {B : Nat} {g1 g2 : Bool} {n1 d1 n2 d2 : ByteArray} (h : TwoBoxes W B g1 g2 n1 d1 n2 d2) :
    W.cell? ⟨B, 0, none⟩ = some (.bool g1) ∧ W.cell? ⟨B, 1, none⟩ = some (.string n1) ∧ W.cell? ⟨B, 2, none⟩ = some (.string d1) ∧
    W.cell? ⟨B + 1, 0, none⟩ = some (.bool g2) ∧ W.cell? ⟨B + 1, 1, none⟩ = some (.string n2) ∧ W.cell? ⟨B + 1, 2, none⟩ = some (.string d2) :=
  ⟨h.1.facts.1, h.1.facts.2.1, h.1.facts.2.2.1, h.2.1.facts.1, h.2.1.facts.2.1, h.2.1.facts.2.2.1⟩
theorem TwoBoxes.six_set {W : World} {B : Nat} {g1 g2 : Bool} {n1 d1 n2 d2 : ByteArray} (h : TwoBoxes W B g1 g2 n1 d1 n2 d2) (x y z : Value) :
    (((W.setCell ⟨B + 1 + 1, 0, none⟩ x).setCell ⟨B + 1 + 1, 1, none⟩ y).setCell ⟨B + 1 + 1, 2, none⟩ z).cell? ⟨B, 0, none⟩ = some (.bool g1) ∧ (((W.setCell ⟨B + 1 + 1, 0, none⟩ x).setCell ⟨B + 1 + 1, 1, none⟩ y).setCell ⟨B + 1 + 1, 2, none⟩ z).cell? ⟨B, 1, none⟩ = some (.string n1) ∧ (((W.setCell ⟨B + 1 + 1, 0, none⟩ x).setCell ⟨B + 1 + 1, 1, none⟩ y).setCell ⟨B + 1 + 1, 2, none⟩ z).cell? ⟨B, 2, none⟩ = some (.string d1) ∧
    (((W.setCell ⟨B + 1 + 1, 0, none⟩ x).setCell ⟨B + 1 + 1, 1, none⟩ y).setCell ⟨B + 1 + 1, 2, none⟩ z).cell? ⟨B + 1, 0, none⟩ = some (.bool g2) ∧ (((W.setCell ⟨B + 1 + 1, 0, none⟩ x).setCell ⟨B + 1 + 1, 1, none⟩ y).setCell ⟨B + 1 + 1, 2, none⟩ z).cell? ⟨B + 1, 1, none⟩ = some (.string n2) ∧ (((W.setCell ⟨B + 1 + 1, 0, none⟩ x).setCell ⟨B + 1 + 1, 1, none⟩ y).setCell ⟨B + 1 + 1, 2, none⟩ z).cell? ⟨B + 1, 2, none⟩ = some (.string d2) := by
  obtain ⟨h1, h2, h3, h4, h5, h6⟩ := h.six
  exact ⟨(set3_other _ _ _ _ _ _ _ (by omega)).trans h1, (set3_other _ _ _ _ _ _ _ (by omega)).trans h2, (set3_other _ _ _ _ _ _ _ (by omega)).trans h3, (set3_other _ _ _ _ _ _ _ (by omega)).trans h4, (set3_other _ _ _ _ _ _ _ (by omega)).trans h5, (set3_other _ _ _ _ _ _ _ (by omega)).trans h6⟩
set_option maxRecDepth 100000 in
set_option maxHeartbeats 2000000 in
theorem subc_w (g1 g2 g3 : Bool) (n1 d1 n2 d2 : ByteArray) (r : Bool) (n d : ByteArray) (E : Int) (w : World) (hE : Env w)
    (ho : ∀ W, Calls Tryz.prog 68 #[.agg #[.bool g2, .string n2, .string d2]] W fun e w' => e = .returned (.agg #[.bool g3, .string n2, .string d2]) ∧ Below W.heap.size W w')
    (hc : ∀ W, Env W → Calls Tryz.prog 58 #[.agg #[.bool g1, .string n1, .string d1], .agg #[.bool g3, .string n2, .string d2]] W fun e w' => e = .returned (.tuple #[.agg #[.bool r, .string n, .string d], .int .i64 E]) ∧ Below W.heap.size W w') :
    Calls Tryz.prog 67 #[.agg #[.bool g1, .string n1, .string d1], .agg #[.bool g2, .string n2, .string d2]] w fun e w' => e = .returned (.tuple #[.agg #[.bool r, .string n, .string d], .int .i64 E]) ∧ Below w.heap.size w w' := by
  have hQE := Lib.hid (TwoBoxes.new w g1 g2 n1 d1 n2 d2)
  have hBE := Lib.hid (twoW_below w g1 g2 n1 d1 n2 d2)
  obtain ⟨W0, hW0⟩ : ∃ W0, W0 = twoW w g1 g2 n1 d1 n2 d2 := ⟨_, rfl⟩
  rw [← hW0] at hQE hBE
  simp only [twoW] at hW0
  have q0d : Hid (TwoBoxes W0.drew w.heap.size g1 g2 n1 d1 n2 d2) := hQE.out
  have hB0 : Hid (Below w.heap.size w W0.drew) := hBE.out.drew
  replace hE := Lib.hid hE
  replace hW0 := Lib.hid hW0
  replace ho := Lib.hid ho
  replace hc := Lib.hid hc
  go_enter Tryz.func67, Tryz.ntmps67
  go_wp2_with fail
  rw [← hW0.out]
  obtain ⟨a1, a2, a3, b1, b2, b3⟩ := hQE.out.six
  go_region_held3 (fun w' => w'.cell? ⟨w.heap.size, 0, none⟩ = some (.bool g1) ∧ w'.cell? ⟨w.heap.size, 1, none⟩ = some (.string n1) ∧ w'.cell? ⟨w.heap.size, 2, none⟩ = some (.string d1) ∧ w'.cell? ⟨w.heap.size + 1, 0, none⟩ = some (.bool g2) ∧ w'.cell? ⟨w.heap.size + 1, 1, none⟩ = some (.string n2) ∧ w'.cell? ⟨w.heap.size + 1, 2, none⟩ = some (.string d2)) (first | (with_reducible exact hQE.out.six) | (with_reducible exact q0d.out.six) | (with_reducible exact q2.out.six) | (with_reducible exact q3.out.six) | (with_reducible exact q3.out.six_set _ _ _) | go_keep)
    (first
      | (go_at_call 68; refine (ho.out _).mono ?_; rintro e w2 ⟨rfl, hb2⟩; have q2 := Lib.hid (q0d.out.below hb2); have hB2 := Lib.hid (hB0.out.trans (hb2.mono hB0.out.size)); clear hb2)
      | (go_at_call 58; refine (hc.out _ ?_).mono ?_; (exact hE.out.below hB2.out); rintro e w3 ⟨rfl, hb3⟩; have q3 := Lib.hid (q2.out.below hb3); obtain ⟨c1, c2, c3, c4, c5, c6⟩ := q3.out.2.2.facts; have hB3 := Lib.hid (hB2.out.trans (hb3.mono hB2.out.size)); clear hb3))
  go_wp2
  refine bodyPost_ret (v := .tuple #[.agg #[.bool r, .string n, .string d], .int .i64 E]) (by simp [results, Tryz.results67, go_sem, c1, c2, c3]) rfl ⟨rfl, ?_⟩
  repeat refine Below.setCell ?_ (by simp only []; omega) _
  exact hB3.out
theorem subc_q (p q : Rat) (hp : ShortQ p) (hq : ShortQ q) (w : World) (hE : Env w) :
    Calls Tryz.prog 67 #[qv p, qv q] w fun e w' => e = .returned (.tuple #[qv (p - q), .int .i64 0]) ∧ Below w.heap.size w w' := by
  have hc := fun W (h : Env W) => sum_q p (-q) hp hq.neg W h
  rw [← Rat.sub_eq_add_neg] at hc
  have ho := fun W => opp_q q W
  have e : qv (-q) = .agg #[.bool (decide ((-q).num < 0)), .string (T (some q.num.natAbs)), .string (T (some q.den))] := by
    unfold qv
    rw [show (-q).num.natAbs = q.num.natAbs from Int.natAbs_neg _]
    rfl
  rw [e] at hc ho
  exact subc_w _ _ _ _ _ _ _ _ _ _ _ w hE ho hc
end Nt
end Go.Proofs.YtpmlhgmmobpilaaGreatDoor

namespace Go.Proofs.YtpmlhgmmobpilaaGreatDoor
open Go.RowKit Go.Shelf
namespace Nt
/-- A block that holds an operation. -/
def B2 (W : World) (b : Nat) (z : Bool) (f : Nat) : Prop := W.heap[b]? = some (.cells #[.bool z, .func (.func f) #[] #[]] 81 (0, 0))
theorem B2.lt {W : World} {b : Nat} {z : Bool} {f : Nat} (h : B2 W b z f) : b < W.heap.size := (Array.getElem?_eq_some_iff.1 h).1
theorem B2.facts {W : World} {b : Nat} {z : Bool} {f : Nat} (h : B2 W b z f) : W.cell? ⟨b, 0, none⟩ = some (.bool z) ∧ W.cell? ⟨b, 1, none⟩ = some (.func (.func f) #[] #[]) := by
  unfold B2 at h
  simp [World.cell?, h]
theorem B2.below {W W' : World} {b : Nat} {z : Bool} {f : Nat} (h : B2 W b z f) (hb : Below W.heap.size W W') : B2 W' b z f := (hb.block b h.lt).trans h
/-- The four blocks that run lays. -/
def RunBoxes (W : World) (B : Nat) (z : Bool) (f : Nat) (g1 g2 : Bool) (n1 d1 n2 d2 : ByteArray) : Prop :=
  B2 W B z f ∧ B3 W (B + 1) g1 n1 d1 ∧ B3 W (B + 2) g2 n2 d2 ∧ B3 W (B + 3) false ⟨#[]⟩ ⟨#[]⟩
theorem RunBoxes.new (w : World) (z : Bool) (f : Nat) (g1 g2 : Bool) (n1 d1 n2 d2 : ByteArray) :
    RunBoxes ((((w.alloc (.cells #[.bool z, .func (.func f) #[] #[]] 81)).alloc (.cells #[.bool g1, .string n1, .string d1] 23)).alloc (.cells #[.bool g2, .string n2, .string d2] 23)).alloc (.cells #[.bool false, .string ⟨#[]⟩, .string ⟨#[]⟩] 23)) w.heap.size z f g1 g2 n1 d1 n2 d2 := by
  have e1 : (w.alloc (.cells #[.bool z, .func (.func f) #[] #[]] 81)).heap.size = w.heap.size + 1 := by simp
  have e2 : ((w.alloc (.cells #[.bool z, .func (.func f) #[] #[]] 81)).alloc (.cells #[.bool g1, .string n1, .string d1] 23)).heap.size = w.heap.size + 2 := by simp
  have e3 : (((w.alloc (.cells #[.bool z, .func (.func f) #[] #[]] 81)).alloc (.cells #[.bool g1, .string n1, .string d1] 23)).alloc (.cells #[.bool g2, .string n2, .string d2] 23)).heap.size = w.heap.size + 3 := by simp
  refine ⟨?_, ?_, ?_, ?_⟩
  · unfold B2
    rw [Below.heap_alloc _ _ _ (by rw [e3]; omega), Below.heap_alloc _ _ _ (by rw [e2]; omega), Below.heap_alloc _ _ _ (by rw [e1]; omega)]
    exact heap_alloc_new _ _
  · have h := B3.new (w.alloc (.cells #[.bool z, .func (.func f) #[] #[]] 81)) g1 n1 d1
    rw [e1] at h
    exact (h.alloc _).alloc _
  · have h := B3.new ((w.alloc (.cells #[.bool z, .func (.func f) #[] #[]] 81)).alloc (.cells #[.bool g1, .string n1, .string d1] 23)) g2 n2 d2
    rw [e2] at h
    exact h.alloc _
  · have h := B3.new (((w.alloc (.cells #[.bool z, .func (.func f) #[] #[]] 81)).alloc (.cells #[.bool g1, .string n1, .string d1] 23)).alloc (.cells #[.bool g2, .string n2, .string d2] 23)) false ⟨#[]⟩ ⟨#[]⟩
    rw [e3] at h
    exact h
theorem RunBoxes.below {W W' : World} {B : Nat} {z : Bool} {f : Nat} {g1 g2 : Bool} {n1 d1 n2 d2 : ByteArray} (h : RunBoxes W B z f g1 g2 n1 d1 n2 d2) (hb : Below W.heap.size W W') : RunBoxes W' B z f g1 g2 n1 d1 n2 d2 :=
  ⟨h.1.below hb, h.2.1.below hb, h.2.2.1.below hb, h.2.2.2.below hb⟩
theorem four_below (w : World) (o1 o2 o3 o4 : Obj) : Below w.heap.size w ((((w.alloc o1).alloc o2).alloc o3).alloc o4) :=
  ((((Below.refl _ w).alloc (Nat.le_refl _) _).alloc (by simp) _).alloc (by simp; omega) _).alloc (by simp; omega) _
set_option maxRecDepth 100000 in
set_option maxHeartbeats 2000000 in
theorem run_sum (g1 g2 : Bool) (n1 d1 n2 d2 : ByteArray) (w : World) (hE : Env w) (s1 : n1.size ≤ 140737488355328) (s2 : d1.size ≤ 140737488355328) (s3 : n2.size ≤ 140737488355328) (s4 : d2.size ≤ 140737488355328) (v1 : validB g1 n1 d1 = true) (v2 : validB g2 n2 d2 = true) (l1 : n1.size ≤ 140) (l2 : d1.size ≤ 140) (l3 : n2.size ≤ 140) (l4 : d2.size ≤ 140) (r : Bool) (n d : ByteArray) (E : Int)
    (hf : ∀ W, Env W → Calls Tryz.prog 58 #[.agg #[.bool g1, .string n1, .string d1], .agg #[.bool g2, .string n2, .string d2]] W fun e w' => e = .returned (.tuple #[.agg #[.bool r, .string n, .string d], .int .i64 E]) ∧ Below W.heap.size W w') :
    Calls Tryz.prog 57 #[.agg #[.bool false, .func (.func 58) #[] #[]], .agg #[.bool g1, .string n1, .string d1], .agg #[.bool g2, .string n2, .string d2]] w fun e w' => e = .returned (.tuple #[.agg #[.bool r, .string n, .string d], .int .i64 E]) ∧ Below w.heap.size w w' := by
  have V1 := Lib.hid v1
  clear v1
  have V2 := Lib.hid v2
  clear v2
  have HF := Lib.hid hf
  clear hf
  replace hE := Lib.hid hE
  go_enter Tryz.func57, Tryz.ntmps57
  go_wp2_with fail
  refine (Valid_any g1 n1 d1 _ (hE.out.below (four_below w _ _ _ _)) s1 s2).mono ?_
  rintro e w1 ⟨rfl, hb1⟩
  rw [V1.out]
  have q1 := (RunBoxes.new w _ _ g1 g2 n1 d1 n2 d2).below hb1
  have hB1 := Lib.hid ((four_below w _ _ _ _).trans (hb1.mono (four_below w _ _ _ _).size))
  obtain ⟨a1, a2⟩ := q1.1.facts
  obtain ⟨b1, b2, b3, b4, b5, b6⟩ := q1.2.1.facts
  obtain ⟨c1, c2, c3, c4, c5, c6⟩ := q1.2.2.1.facts
  obtain ⟨d1', d2', d3, d4, d5, d6⟩ := q1.2.2.2.facts
  have hz1 := q1.2.2.2.lt
  replace q1 := Lib.hid q1
  clear hb1
  go_wp2_with fail
  refine (Valid_any g2 n2 d2 _ (hE.out.below hB1.out) s3 s4).mono ?_
  rintro e w2 ⟨rfl, hb2⟩
  rw [V2.out]
  have q2 := q1.out.below hb2
  have hB2 := Lib.hid (hB1.out.trans (hb2.mono hB1.out.size))
  clear a1 a2 b1 b2 b3 b4 b5 b6 c1 c2 c3 c4 c5 c6 d1' d2' d3 d4 d5 d6 hb2 q1
  obtain ⟨a1, a2⟩ := q2.1.facts
  obtain ⟨b1, b2, b3, b4, b5, b6⟩ := q2.2.1.facts
  obtain ⟨c1, c2, c3, c4, c5, c6⟩ := q2.2.2.1.facts
  obtain ⟨d1', d2', d3, d4, d5, d6⟩ := q2.2.2.2.facts
  have hz2 := q2.2.2.2.lt
  replace q2 := Lib.hid q2
  go_wp2_with fail
  refine (HF.out _ (hE.out.below hB2.out)).mono ?_
  rintro e w3 ⟨rfl, hb3⟩
  have q3 := q2.out.below hb3
  have hB3 := Lib.hid (hB2.out.trans (hb3.mono hB2.out.size))
  clear a1 a2 b1 b2 b3 b4 b5 b6 c1 c2 c3 c4 c5 c6 d1' d2' d3 d4 d5 d6 hb3 q2
  obtain ⟨d1', d2', d3, d4, d5, d6⟩ := q3.2.2.2.facts
  have hz3 := q3.2.2.2.lt
  replace q3 := Lib.hid q3
  go_wp2
  refine bodyPost_ret (v := .tuple #[.agg #[.bool r, .string n, .string d], .int .i64 E]) (by simp [results, Tryz.results57, go_sem, d1', d2', d3]) rfl ⟨rfl, ?_⟩
  repeat refine Below.setCell ?_ (by simp only []; omega) _
  exact hB3.out
set_option maxRecDepth 100000 in
set_option maxHeartbeats 2000000 in
theorem run_sub (g1 g2 : Bool) (n1 d1 n2 d2 : ByteArray) (w : World) (hE : Env w) (s1 : n1.size ≤ 140737488355328) (s2 : d1.size ≤ 140737488355328) (s3 : n2.size ≤ 140737488355328) (s4 : d2.size ≤ 140737488355328) (v1 : validB g1 n1 d1 = true) (v2 : validB g2 n2 d2 = true) (l1 : n1.size ≤ 140) (l2 : d1.size ≤ 140) (l3 : n2.size ≤ 140) (l4 : d2.size ≤ 140) (r : Bool) (n d : ByteArray) (E : Int)
    (hf : ∀ W, Env W → Calls Tryz.prog 67 #[.agg #[.bool g1, .string n1, .string d1], .agg #[.bool g2, .string n2, .string d2]] W fun e w' => e = .returned (.tuple #[.agg #[.bool r, .string n, .string d], .int .i64 E]) ∧ Below W.heap.size W w') :
    Calls Tryz.prog 57 #[.agg #[.bool false, .func (.func 67) #[] #[]], .agg #[.bool g1, .string n1, .string d1], .agg #[.bool g2, .string n2, .string d2]] w fun e w' => e = .returned (.tuple #[.agg #[.bool r, .string n, .string d], .int .i64 E]) ∧ Below w.heap.size w w' := by
  have V1 := Lib.hid v1
  clear v1
  have V2 := Lib.hid v2
  clear v2
  have HF := Lib.hid hf
  clear hf
  replace hE := Lib.hid hE
  go_enter Tryz.func57, Tryz.ntmps57
  go_wp2_with fail
  refine (Valid_any g1 n1 d1 _ (hE.out.below (four_below w _ _ _ _)) s1 s2).mono ?_
  rintro e w1 ⟨rfl, hb1⟩
  rw [V1.out]
  have q1 := (RunBoxes.new w _ _ g1 g2 n1 d1 n2 d2).below hb1
  have hB1 := Lib.hid ((four_below w _ _ _ _).trans (hb1.mono (four_below w _ _ _ _).size))
  obtain ⟨a1, a2⟩ := q1.1.facts
  obtain ⟨b1, b2, b3, b4, b5, b6⟩ := q1.2.1.facts
  obtain ⟨c1, c2, c3, c4, c5, c6⟩ := q1.2.2.1.facts
  obtain ⟨d1', d2', d3, d4, d5, d6⟩ := q1.2.2.2.facts
  have hz1 := q1.2.2.2.lt
  replace q1 := Lib.hid q1
  clear hb1
  go_wp2_with fail
  refine (Valid_any g2 n2 d2 _ (hE.out.below hB1.out) s3 s4).mono ?_
  rintro e w2 ⟨rfl, hb2⟩
  rw [V2.out]
  have q2 := q1.out.below hb2
  have hB2 := Lib.hid (hB1.out.trans (hb2.mono hB1.out.size))
  clear a1 a2 b1 b2 b3 b4 b5 b6 c1 c2 c3 c4 c5 c6 d1' d2' d3 d4 d5 d6 hb2 q1
  obtain ⟨a1, a2⟩ := q2.1.facts
  obtain ⟨b1, b2, b3, b4, b5, b6⟩ := q2.2.1.facts
  obtain ⟨c1, c2, c3, c4, c5, c6⟩ := q2.2.2.1.facts
  obtain ⟨d1', d2', d3, d4, d5, d6⟩ := q2.2.2.2.facts
  have hz2 := q2.2.2.2.lt
  replace q2 := Lib.hid q2
  go_wp2_with fail
  refine (HF.out _ (hE.out.below hB2.out)).mono ?_
  rintro e w3 ⟨rfl, hb3⟩
  have q3 := q2.out.below hb3
  have hB3 := Lib.hid (hB2.out.trans (hb3.mono hB2.out.size))
  clear a1 a2 b1 b2 b3 b4 b5 b6 c1 c2 c3 c4 c5 c6 d1' d2' d3 d4 d5 d6 hb3 q2
  obtain ⟨d1', d2', d3, d4, d5, d6⟩ := q3.2.2.2.facts
  have hz3 := q3.2.2.2.lt
  replace q3 := Lib.hid q3
  go_wp2
  refine bodyPost_ret (v := .tuple #[.agg #[.bool r, .string n, .string d], .int .i64 E]) (by simp [results, Tryz.results57, go_sem, d1', d2', d3]) rfl ⟨rfl, ?_⟩
  repeat refine Below.setCell ?_ (by simp only []; omega) _
  exact hB3.out
set_option maxRecDepth 100000 in
set_option maxHeartbeats 2000000 in
theorem run_product (g1 g2 : Bool) (n1 d1 n2 d2 : ByteArray) (w : World) (hE : Env w) (s1 : n1.size ≤ 140737488355328) (s2 : d1.size ≤ 140737488355328) (s3 : n2.size ≤ 140737488355328) (s4 : d2.size ≤ 140737488355328) (v1 : validB g1 n1 d1 = true) (v2 : validB g2 n2 d2 = true) (l1 : n1.size ≤ 140) (l2 : d1.size ≤ 140) (l3 : n2.size ≤ 140) (l4 : d2.size ≤ 140) (r : Bool) (n d : ByteArray) (E : Int)
    (hf : ∀ W, Env W → Calls Tryz.prog 56 #[.agg #[.bool g1, .string n1, .string d1], .agg #[.bool g2, .string n2, .string d2]] W fun e w' => e = .returned (.tuple #[.agg #[.bool r, .string n, .string d], .int .i64 E]) ∧ Below W.heap.size W w') :
    Calls Tryz.prog 57 #[.agg #[.bool false, .func (.func 56) #[] #[]], .agg #[.bool g1, .string n1, .string d1], .agg #[.bool g2, .string n2, .string d2]] w fun e w' => e = .returned (.tuple #[.agg #[.bool r, .string n, .string d], .int .i64 E]) ∧ Below w.heap.size w w' := by
  have V1 := Lib.hid v1
  clear v1
  have V2 := Lib.hid v2
  clear v2
  have HF := Lib.hid hf
  clear hf
  replace hE := Lib.hid hE
  go_enter Tryz.func57, Tryz.ntmps57
  go_wp2_with fail
  refine (Valid_any g1 n1 d1 _ (hE.out.below (four_below w _ _ _ _)) s1 s2).mono ?_
  rintro e w1 ⟨rfl, hb1⟩
  rw [V1.out]
  have q1 := (RunBoxes.new w _ _ g1 g2 n1 d1 n2 d2).below hb1
  have hB1 := Lib.hid ((four_below w _ _ _ _).trans (hb1.mono (four_below w _ _ _ _).size))
  obtain ⟨a1, a2⟩ := q1.1.facts
  obtain ⟨b1, b2, b3, b4, b5, b6⟩ := q1.2.1.facts
  obtain ⟨c1, c2, c3, c4, c5, c6⟩ := q1.2.2.1.facts
  obtain ⟨d1', d2', d3, d4, d5, d6⟩ := q1.2.2.2.facts
  have hz1 := q1.2.2.2.lt
  replace q1 := Lib.hid q1
  clear hb1
  go_wp2_with fail
  refine (Valid_any g2 n2 d2 _ (hE.out.below hB1.out) s3 s4).mono ?_
  rintro e w2 ⟨rfl, hb2⟩
  rw [V2.out]
  have q2 := q1.out.below hb2
  have hB2 := Lib.hid (hB1.out.trans (hb2.mono hB1.out.size))
  clear a1 a2 b1 b2 b3 b4 b5 b6 c1 c2 c3 c4 c5 c6 d1' d2' d3 d4 d5 d6 hb2 q1
  obtain ⟨a1, a2⟩ := q2.1.facts
  obtain ⟨b1, b2, b3, b4, b5, b6⟩ := q2.2.1.facts
  obtain ⟨c1, c2, c3, c4, c5, c6⟩ := q2.2.2.1.facts
  obtain ⟨d1', d2', d3, d4, d5, d6⟩ := q2.2.2.2.facts
  have hz2 := q2.2.2.2.lt
  replace q2 := Lib.hid q2
  go_wp2_with fail
  refine (HF.out _ (hE.out.below hB2.out)).mono ?_
  rintro e w3 ⟨rfl, hb3⟩
  have q3 := q2.out.below hb3
  have hB3 := Lib.hid (hB2.out.trans (hb3.mono hB2.out.size))
  clear a1 a2 b1 b2 b3 b4 b5 b6 c1 c2 c3 c4 c5 c6 d1' d2' d3 d4 d5 d6 hb3 q2
  obtain ⟨d1', d2', d3, d4, d5, d6⟩ := q3.2.2.2.facts
  have hz3 := q3.2.2.2.lt
  replace q3 := Lib.hid q3
  go_wp2
  refine bodyPost_ret (v := .tuple #[.agg #[.bool r, .string n, .string d], .int .i64 E]) (by simp [results, Tryz.results57, go_sem, d1', d2', d3]) rfl ⟨rfl, ?_⟩
  repeat refine Below.setCell ?_ (by simp only []; omega) _
  exact hB3.out
end Nt
end Go.Proofs.YtpmlhgmmobpilaaGreatDoor

namespace Go.Proofs.YtpmlhgmmobpilaaGreatDoor
open Go.RowKit Go.Shelf
namespace Nt
theorem size_of_valid {g : Bool} {n d : ByteArray} (h : validB g n d = true) : n.size ≤ 300 ∧ d.size ≤ 300 := by
  unfold validB at h
  simp only [Bool.and_eq_true] at h
  exact ⟨size_of_isN h.1, size_of_isN h.2.1⟩
theorem short_sizes {q : Rat} (h : ShortQ q) : (T (some q.num.natAbs)).size ≤ 140 ∧ (T (some q.den)).size ≤ 140 := ⟨(size_L1 _).2 h.1, (size_L1 _).2 h.2⟩
theorem short_of_sizes {q : Rat} (h1 : (T (some q.num.natAbs)).size ≤ 140) (h2 : (T (some q.den)).size ≤ 140) : ShortQ q := ⟨(size_L1 _).1 h1, (size_L1 _).1 h2⟩
theorem num_ne_zero {q : Rat} (h : q ≠ 0) : q.num ≠ 0 := fun e => h (Rat.num_eq_zero.1 e)
set_option maxRecDepth 100000 in
set_option maxHeartbeats 1000000 in
theorem Add_w (g1 g2 : Bool) (n1 d1 n2 d2 : ByteArray) (r : Bool) (n d : ByteArray) (E : Int) (w : World) (hE : Env w)
    (hr : ∀ W, Env W → Calls Tryz.prog 57 #[.agg #[.bool false, .func (.func 58) #[] #[]], .agg #[.bool g1, .string n1, .string d1], .agg #[.bool g2, .string n2, .string d2]] W fun e w' => e = .returned (.tuple #[.agg #[.bool r, .string n, .string d], .int .i64 E]) ∧ Below W.heap.size W w') :
    Calls Tryz.prog 20 #[.agg #[.bool g1, .string n1, .string d1], .agg #[.bool g2, .string n2, .string d2]] w fun e w' => e = .returned (.tuple #[.agg #[.bool r, .string n, .string d], .int .i64 E]) ∧ Below w.heap.size w w' := by
  have hQE := Lib.hid (TwoBoxes.new w g1 g2 n1 d1 n2 d2)
  have hBE := Lib.hid (twoW_below w g1 g2 n1 d1 n2 d2)
  replace hE := Lib.hid hE
  replace hr := Lib.hid hr
  go_enter Tryz.func20, Tryz.ntmps20
  go_wp2_with fail
  refine (hr.out _ (hE.out.below hBE.out)).mono ?_
  rintro e w1 ⟨rfl, hb1⟩
  have q1 := hQE.out.below hb1
  have hB1 := Lib.hid (hBE.out.trans (hb1.mono hBE.out.size))
  obtain ⟨c1, c2, c3, c4, c5, c6⟩ := q1.2.2.facts
  have hz1 := q1.2.2.lt
  clear hb1
  replace q1 := Lib.hid q1
  go_wp2
  refine bodyPost_ret (v := .tuple #[.agg #[.bool r, .string n, .string d], .int .i64 E]) (by simp [results, Tryz.results20, go_sem, c1, c2, c3]) rfl ⟨rfl, ?_⟩
  repeat refine Below.setCell ?_ (by simp only []; omega) _
  exact hB1.out
theorem Add_short (p q : Rat) (hp : ShortQ p) (hq : ShortQ q) (w : World) (hE : Env w) :
    Calls Tryz.prog 20 #[qv p, qv q] w fun e w' => e = .returned (.tuple #[qv (p + q), .int .i64 0]) ∧ Below w.heap.size w w' := by
  have l1 := short_sizes hp
  have l2 := short_sizes hq
  refine Add_w _ _ _ _ _ _ _ _ _ _ w hE fun W hW => ?_
  exact run_sum _ _ _ _ _ _ W hW (by omega) (by omega) (by omega) (by omega) (valid_qv hp.ok) (valid_qv hq.ok) l1.1 l1.2 l2.1 l2.2 _ _ _ _ fun W2 h2 => sum_q p q hp hq W2 h2
set_option maxRecDepth 100000 in
set_option maxHeartbeats 1000000 in
theorem Sub_w (g1 g2 : Bool) (n1 d1 n2 d2 : ByteArray) (r : Bool) (n d : ByteArray) (E : Int) (w : World) (hE : Env w)
    (hr : ∀ W, Env W → Calls Tryz.prog 57 #[.agg #[.bool false, .func (.func 67) #[] #[]], .agg #[.bool g1, .string n1, .string d1], .agg #[.bool g2, .string n2, .string d2]] W fun e w' => e = .returned (.tuple #[.agg #[.bool r, .string n, .string d], .int .i64 E]) ∧ Below W.heap.size W w') :
    Calls Tryz.prog 24 #[.agg #[.bool g1, .string n1, .string d1], .agg #[.bool g2, .string n2, .string d2]] w fun e w' => e = .returned (.tuple #[.agg #[.bool r, .string n, .string d], .int .i64 E]) ∧ Below w.heap.size w w' := by
  have hQE := Lib.hid (TwoBoxes.new w g1 g2 n1 d1 n2 d2)
  have hBE := Lib.hid (twoW_below w g1 g2 n1 d1 n2 d2)
  replace hE := Lib.hid hE
  replace hr := Lib.hid hr
  go_enter Tryz.func24, Tryz.ntmps24
  go_wp2_with fail
  refine (hr.out _ (hE.out.below hBE.out)).mono ?_
  rintro e w1 ⟨rfl, hb1⟩
  have q1 := hQE.out.below hb1
  have hB1 := Lib.hid (hBE.out.trans (hb1.mono hBE.out.size))
  obtain ⟨c1, c2, c3, c4, c5, c6⟩ := q1.2.2.facts
  have hz1 := q1.2.2.lt
  clear hb1
  replace q1 := Lib.hid q1
  go_wp2
  refine bodyPost_ret (v := .tuple #[.agg #[.bool r, .string n, .string d], .int .i64 E]) (by simp [results, Tryz.results24, go_sem, c1, c2, c3]) rfl ⟨rfl, ?_⟩
  repeat refine Below.setCell ?_ (by simp only []; omega) _
  exact hB1.out
theorem Sub_short (p q : Rat) (hp : ShortQ p) (hq : ShortQ q) (w : World) (hE : Env w) :
    Calls Tryz.prog 24 #[qv p, qv q] w fun e w' => e = .returned (.tuple #[qv (p - q), .int .i64 0]) ∧ Below w.heap.size w w' := by
  have l1 := short_sizes hp
  have l2 := short_sizes hq
  refine Sub_w _ _ _ _ _ _ _ _ _ _ w hE fun W hW => ?_
  exact run_sub _ _ _ _ _ _ W hW (by omega) (by omega) (by omega) (by omega) (valid_qv hp.ok) (valid_qv hq.ok) l1.1 l1.2 l2.1 l2.2 _ _ _ _ fun W2 h2 => subc_q p q hp hq W2 h2
set_option maxRecDepth 100000 in
set_option maxHeartbeats 1000000 in
theorem Mul_w (g1 g2 : Bool) (n1 d1 n2 d2 : ByteArray) (r : Bool) (n d : ByteArray) (E : Int) (w : World) (hE : Env w)
    (hr : ∀ W, Env W → Calls Tryz.prog 57 #[.agg #[.bool false, .func (.func 56) #[] #[]], .agg #[.bool g1, .string n1, .string d1], .agg #[.bool g2, .string n2, .string d2]] W fun e w' => e = .returned (.tuple #[.agg #[.bool r, .string n, .string d], .int .i64 E]) ∧ Below W.heap.size W w') :
    Calls Tryz.prog 19 #[.agg #[.bool g1, .string n1, .string d1], .agg #[.bool g2, .string n2, .string d2]] w fun e w' => e = .returned (.tuple #[.agg #[.bool r, .string n, .string d], .int .i64 E]) ∧ Below w.heap.size w w' := by
  have hQE := Lib.hid (TwoBoxes.new w g1 g2 n1 d1 n2 d2)
  have hBE := Lib.hid (twoW_below w g1 g2 n1 d1 n2 d2)
  replace hE := Lib.hid hE
  replace hr := Lib.hid hr
  go_enter Tryz.func19, Tryz.ntmps19
  go_wp2_with fail
  refine (hr.out _ (hE.out.below hBE.out)).mono ?_
  rintro e w1 ⟨rfl, hb1⟩
  have q1 := hQE.out.below hb1
  have hB1 := Lib.hid (hBE.out.trans (hb1.mono hBE.out.size))
  obtain ⟨c1, c2, c3, c4, c5, c6⟩ := q1.2.2.facts
  have hz1 := q1.2.2.lt
  clear hb1
  replace q1 := Lib.hid q1
  go_wp2
  refine bodyPost_ret (v := .tuple #[.agg #[.bool r, .string n, .string d], .int .i64 E]) (by simp [results, Tryz.results19, go_sem, c1, c2, c3]) rfl ⟨rfl, ?_⟩
  repeat refine Below.setCell ?_ (by simp only []; omega) _
  exact hB1.out
theorem Mul_short (p q : Rat) (hp : ShortQ p) (hq : ShortQ q) (w : World) (hE : Env w) :
    Calls Tryz.prog 19 #[qv p, qv q] w fun e w' => e = .returned (.tuple #[qv (p * q), .int .i64 0]) ∧ Below w.heap.size w w' := by
  have l1 := short_sizes hp
  have l2 := short_sizes hq
  refine Mul_w _ _ _ _ _ _ _ _ _ _ w hE fun W hW => ?_
  exact run_product _ _ _ _ _ _ W hW (by omega) (by omega) (by omega) (by omega) (valid_qv hp.ok) (valid_qv hq.ok) l1.1 l1.2 l2.1 l2.2 _ _ _ _ fun W2 h2 => product_q p q hp hq W2 h2
def cmpQ (p q : Rat) : Int := if p < q then -1 else if p = q then 0 else 1
theorem neg_iff (q : Rat) : q.num < 0 ↔ q < 0 := by
  rw [Rat.lt_iff]
  show _ ↔ q.num * 1 < 0 * _
  omega
theorem sub_neg_iff (p q : Rat) : (p - q).num < 0 ↔ p < q := by
  rw [neg_iff, Rat.sub_lt_iff, Rat.zero_add]
theorem sub_zero_iff (p q : Rat) : p - q = 0 ↔ p = q := by
  constructor
  · intro h
    have e : p - q + q = 0 + q := congrArg (· + q) h
    rwa [Rat.sub_add_cancel, Rat.zero_add] at e
  · intro h; rw [h]; exact Rat.sub_self
set_option maxRecDepth 100000 in
set_option maxHeartbeats 1000000 in
theorem Compare_w (g1 g2 : Bool) (n1 d1 n2 d2 : ByteArray) (r : Bool) (n d : ByteArray) (E c f : Int) (w : World) (hE : Env w)
    (hs : ∀ W, Env W → Calls Tryz.prog 24 #[.agg #[.bool g1, .string n1, .string d1], .agg #[.bool g2, .string n2, .string d2]] W fun e w' => e = .returned (.tuple #[.agg #[.bool r, .string n, .string d], .int .i64 E]) ∧ Below W.heap.size W w')
    (hk : (E ≠ 0 ∧ c = 0 ∧ f = E) ∨ (E = 0 ∧ r = true ∧ c = -1 ∧ f = 0) ∨ (E = 0 ∧ r = false ∧ (n.toList == [48]) = true ∧ c = 0 ∧ f = 0) ∨ (E = 0 ∧ r = false ∧ (n.toList == [48]) = false ∧ c = 1 ∧ f = 0)) :
    Calls Tryz.prog 25 #[.agg #[.bool g1, .string n1, .string d1], .agg #[.bool g2, .string n2, .string d2]] w fun e w' => e = .returned (.tuple #[.int .i64 c, .int .i64 f]) ∧ Below w.heap.size w w' := by
  have hBE : Hid (Below w.heap.size w ((w.alloc (.cells #[.bool g1, .string n1, .string d1] 23)).alloc (.cells #[.bool g2, .string n2, .string d2] 23))) := ((Below.refl _ w).alloc (Nat.le_refl _) _).alloc (by simp) _
  replace hE := Lib.hid hE
  replace hs := Lib.hid hs
  rcases hk with ⟨h1, rfl, rfl⟩ | ⟨rfl, rfl, rfl, rfl⟩ | ⟨rfl, rfl, h1, rfl, rfl⟩ | ⟨rfl, rfl, h1, rfl, rfl⟩
  rotate_left
  all_goals
    go_enter Tryz.func25, Tryz.ntmps25
    go_wp2_with fail
    refine (hs.out _ (hE.out.below hBE.out)).mono ?_
    rintro e w1 ⟨rfl, hb1⟩
    have hB1 := Lib.hid (hBE.out.trans (hb1.mono hBE.out.size))
    clear hb1
    go_wp2
    go_ret2
    exact ⟨rfl, hB1.out.alloc hB1.out.size _⟩
theorem Compare_short (p q : Rat) (hp : ShortQ p) (hq : ShortQ q) (w : World) (hE : Env w) :
    Calls Tryz.prog 25 #[qv p, qv q] w fun e w' => e = .returned (.tuple #[.int .i64 (cmpQ p q), .int .i64 0]) ∧ Below w.heap.size w w' := by
  refine Compare_w _ _ _ _ _ _ _ _ _ 0 (cmpQ p q) 0 w hE (fun W hW => Sub_short p q hp hq W hW) ?_
  unfold cmpQ
  rw [T_is_zero]
  by_cases h1 : p < q
  · exact .inr (.inl ⟨rfl, decide_eq_true ((sub_neg_iff p q).2 h1), if_pos h1, rfl⟩)
  · have hn := (not_congr (sub_neg_iff p q)).2 h1
    rw [if_neg h1]
    by_cases h2 : p = q
    · refine .inr (.inr (.inl ⟨rfl, decide_eq_false hn, ?_, if_pos h2, rfl⟩))
      rw [(sub_zero_iff p q).2 h2]
      rfl
    · refine .inr (.inr (.inr ⟨rfl, decide_eq_false hn, ?_, if_neg h2, rfl⟩))
      have h3 := num_ne_zero (fun h => h2 ((sub_zero_iff p q).1 h))
      exact decide_eq_false (by omega)
end Nt
end Go.Proofs.YtpmlhgmmobpilaaGreatDoor

namespace Go.Proofs.YtpmlhgmmobpilaaGreatDoor
open Go.RowKit Go.Shelf
namespace Nt
theorem trim_minus (n : Int) : Lib.trimPrefix (Lib.itoa n) [45] = Lib.decDigits n.natAbs := by
  unfold Lib.itoa
  by_cases h : n < 0
  · rw [if_pos h]
    simp [Lib.trimPrefix, Lib.hasPrefix]
  · rw [if_neg h]
    have e : n.toNat = n.natAbs := by omega
    rw [e]
    unfold Lib.trimPrefix Lib.hasPrefix
    rw [if_neg]
    intro hp
    have hd := decDigits_dig n.natAbs
    cases hl : Lib.decDigits n.natAbs with
    | nil => exact decDigits_ne _ hl
    | cons c r =>
      rw [hl] at hp hd
      simp at hp
      have := (hd c (by simp)).1
      rw [← hp] at this
      revert this
      decide
/-- The size of an int as a text. -/
theorem size_any (n : Int) (h0 : -9223372036854775808 ≤ n) (h1 : n ≤ 9223372036854775807) (w : World) (hE : Env w) :
    Calls Tryz.prog 95 #[.int .i64 n] w fun e w' => e = .returned (.string (T (some n.natAbs))) ∧ Below w.heap.size w w' := by
  have hi := itoa_any n h0 h1 w hE.tab
  have ht := fun W => Tryz.strings_TrimPrefix ⟨(Lib.itoa n).toArray⟩ ⟨#[45]⟩ W
  have e : (⟨(Lib.trimPrefix (⟨(Lib.itoa n).toArray⟩ : ByteArray).data.toList (⟨#[45]⟩ : ByteArray).data.toList).toArray⟩ : ByteArray) = T (some n.natAbs) := by
    show (⟨(Lib.trimPrefix (Lib.itoa n) [45]).toArray⟩ : ByteArray) = _
    rw [trim_minus]
    rfl
  rw [e] at ht
  clear e
  go_enter Tryz.func95, Tryz.ntmps95
  go_wp2_with fail
  refine hi.mono ?_
  rintro e w1 ⟨rfl, hb1⟩
  replace hb1 := Lib.hid hb1
  go_wp2_with fail
  refine (ht _).mono ?_
  rintro e w2 ⟨rfl, hw2⟩
  subst hw2
  go_wp2
  go_ret
  exact ⟨rfl, hb1.out⟩
theorem one_below (w : World) (o : Obj) : Below w.heap.size w (w.alloc o) := (Below.refl _ w).alloc (Nat.le_refl _) _
theorem int_abs_lim {n : Int} (h0 : -9223372036854775808 ≤ n) (h1 : n ≤ 9223372036854775807) : n.natAbs < L1 := by
  have h : 10 ^ 20 ≤ L1 := Nat.pow_le_pow_right (by omega) (by rw [mx1_eq]; omega)
  omega
/-- The quotient of two ints, as a row of fields. -/
theorem Of_w (m n : Int) (hm0 : -9223372036854775808 ≤ m) (hm1 : m ≤ 9223372036854775807) (hn0 : -9223372036854775808 ≤ n) (hn1 : n ≤ 9223372036854775807) (h0 : n ≠ 0) (r : Bool) (x y : ByteArray) (w : World) (hE : Env w)
    (hl : ∀ W, Env W → Calls Tryz.prog 97 #[.bool (!(decide (m < 0) == decide (n < 0))), .string (T (some m.natAbs)), .string (T (some n.natAbs))] W fun e w' => e = .returned (.tuple #[.agg #[.bool r, .string x, .string y], .int .i64 0]) ∧ Below W.heap.size W w') :
    Calls Tryz.prog 46 #[.int .i64 m, .int .i64 n] w fun e w' => e = .returned (.tuple #[.agg #[.bool r, .string x, .string y], .int .i64 0]) ∧ Below w.heap.size w w' := by
  have hz : (n == 0) = false := by rw [beq_eq_false_iff_ne]; exact h0
  have c1 := fun W (h : Env W) => size_any m hm0 hm1 W h
  have c2 := fun W (h : Env W) => size_any n hn0 hn1 W h
  replace hE := Lib.hid hE
  replace hl := Lib.hid hl
  replace h0 := Lib.hid h0
  clear hm0 hm1 hn0 hn1
  go_enter Tryz.func46, Tryz.ntmps46
  go_wp2_with fail
  refine (c1 _ (hE.out.below (one_below _ _))).mono ?_
  rintro e w1 ⟨rfl, hb1⟩
  have q1 := (B3.new w false ⟨#[]⟩ ⟨#[]⟩).below hb1
  have hB1 := Lib.hid ((one_below w (.cells #[.bool false, .string ⟨#[]⟩, .string ⟨#[]⟩] 23)).trans (hb1.mono (by simp)))
  clear hb1
  replace q1 := Lib.hid q1
  go_wp2_with fail
  refine (c2 _ (hE.out.below hB1.out)).mono ?_
  rintro e w2 ⟨rfl, hb2⟩
  have q2 := q1.out.below hb2
  have hB2 := Lib.hid (hB1.out.trans (hb2.mono hB1.out.size))
  clear hb2
  replace q2 := Lib.hid q2
  go_wp2_with fail
  refine (hl.out _ (hE.out.below hB2.out)).mono ?_
  rintro e w3 ⟨rfl, hb3⟩
  have q3 := q2.out.below hb3
  have hB3 := Lib.hid (hB2.out.trans (hb3.mono hB2.out.size))
  obtain ⟨d1, d2, d3, d4, d5, d6⟩ := q3.facts
  have hz3 := q3.lt
  clear hb3
  replace q3 := Lib.hid q3
  go_wp2
  refine bodyPost_ret (v := .tuple #[.agg #[.bool r, .string x, .string y], .int .i64 0]) (by simp [results, Tryz.results46, go_sem, d1, d2, d3]) rfl ⟨rfl, ?_⟩
  repeat refine Below.setCell ?_ (by simp only []; omega) _
  exact hB3.out
/-- The rational number m / n. -/
def ofQ (m n : Int) : Rat := mkRat (sg (!(decide (m < 0) == decide (n < 0))) m.natAbs) n.natAbs
theorem RatOf_any (m n : Int) (hm0 : -9223372036854775808 ≤ m) (hm1 : m ≤ 9223372036854775807) (hn0 : -9223372036854775808 ≤ n) (hn1 : n ≤ 9223372036854775807) (h0 : n ≠ 0) (w : World) (hE : Env w) :
    Calls Tryz.prog 46 #[.int .i64 m, .int .i64 n] w fun e w' => e = .returned (.tuple #[qv (ofQ m n), .int .i64 0]) ∧ Below w.heap.size w w' :=
  Of_w m n hm0 hm1 hn0 hn1 h0 _ _ _ w hE fun W hW => lowest_any _ m.natAbs n.natAbs W hW (L1_lim (int_abs_lim hm0 hm1)) (L1_lim (int_abs_lim hn0 hn1)) (by omega)
end Nt
end Go.Proofs.YtpmlhgmmobpilaaGreatDoor

namespace Go.Proofs.YtpmlhgmmobpilaaGreatDoor
open Go.RowKit Go.Shelf
namespace Nt
/-- What the functions of this package ask of a world. -/
def REnv (w : World) : Prop := Env w ∧ ∃ m : Int, w.cell? ⟨0, 0, none⟩ = some (.int .i64 m)
theorem REnv.lt {w : World} (h : REnv w) : 0 < w.heap.size := by
  obtain ⟨_, m, hm⟩ := h
  exact World.block_lt_of_cell? w _ hm
theorem REnv.below {w w' : World} (h : REnv w) (hb : Below w.heap.size w w') : REnv w' := by
  have hl := h.lt
  obtain ⟨h1, m, hm⟩ := h
  exact ⟨h1.below hb, m, (hb.cell (p := ⟨0, 0, none⟩) hl).trans hm⟩
end Nt
end Go.Proofs.YtpmlhgmmobpilaaGreatDoor

namespace Go.Proofs.YtpmlhgmmobpilaaGreatDoor
open Go.ChangeShapes Go.WideShapes Go.ChangeAt Go.RowKit Go.Shelf Go.Joins
namespace Nt
theorem wf_inQ {k : IntKind} {n : Int} (h : (Lit.int k n).wf = true) : k.min ≤ n ∧ n ≤ k.max := by simpa [Lit.wf] using h
set_option maxRecDepth 100000 in
theorem renv_of {W : World} (h : laidMetH Tryz.prog laidL W) (hsh : W.ShapedOpen Tryz.prog) : REnv W :=
  ⟨env_of h, cell_of_shapedOpen_int (P := Tryz.prog) (g := 0) (t := 3) (zero := #[.int .i64 0]) hsh (of_decide_eq_true (by kernel_rfl)) (by kernel_rfl) rfl (by kernel_rfl) (by kernel_rfl) Tryz.underlying3⟩
section
variable {H : Type} {enc : TypeId × Value → H} {w : World} {base : Nat} {spare : Nat → Bool} {held : Bool}
set_option maxRecDepth 100000 in
theorem cells_q : Tryz.prog.cellsOf 23 = 3 := by kernel_rfl
set_option maxRecDepth 100000 in
theorem open_q {r : Reach} {b0 : Nat} {v : Value} {d : DataW H} {p : List MemPlace} (hv : Value.okWide Tryz.prog w r b0 23 v) (h : DataW.Trod enc Tryz.prog w base spare held 23 v d p) :
    ∃ (g : Bool) (n e : ByteArray), v = .agg #[.bool g, .string n, .string e] ∧ d = .agg [.lit (.bool g), .lit (.string n.data.toList), .lit (.string e.data.toList)] ∧ p = [] ∧ n.size ≤ maxLen ∧ e.size ≤ maxLen := by
  obtain ⟨c0, c1, c2, y0, y1, y2, m, rfl, rfl, rfl, hy0, hy1, hy2⟩ := open_agg3 Tryz.underlying23 (by kernel_rfl) cells_q hv h
  obtain ⟨g, e0, rfl⟩ := DataW.trod_bool Tryz.underlying4 hy0
  obtain ⟨n, e1, rfl, wn⟩ := DataW.trod_string Tryz.underlying9 hy1
  obtain ⟨d, e2, rfl, wd⟩ := DataW.trod_string Tryz.underlying9 hy2
  simp at e0 e1 e2
  subst e0 e1 e2
  exact ⟨g, n, d, rfl, rfl, rfl, wn, wd⟩
end
set_option maxRecDepth 100000 in
theorem size_q {H : Type} {ts : List TypeId} {ds : List (DataW H)} {j : Nat} {g : Bool} {n e : ByteArray} (hsz : (DataW.weightsEach Tryz.prog ts ds).all (· ≤ reachBytes) = true) (ht : ts[j]? = some 23)
    (hd : ds[j]? = some (.agg [.lit (.bool g), .lit (.string n.data.toList), .lit (.string e.data.toList)])) : n.size ≤ 140737488355328 ∧ e.size ≤ 140737488355328 := by
  have hm := DataW.weights_mem_each (P := Tryz.prog) ht hd
  have h1 : n.data.toList.length ≤ 140737488351232 := of_decide_eq_true (List.all_eq_true.1 hsz _ (hm _ (by simp [DataW.weights, DataW.weightsEach, Tryz.underlying23])))
  have h2 : e.data.toList.length ≤ 140737488351232 := of_decide_eq_true (List.all_eq_true.1 hsz _ (hm _ (by simp [DataW.weights, DataW.weightsEach, Tryz.underlying23])))
  have z1 : n.size = n.data.toList.length := Lib.size_eq _
  have z2 : e.size = e.data.toList.length := Lib.size_eq _
  omega
end Nt
end Go.Proofs.YtpmlhgmmobpilaaGreatDoor

namespace Go.Proofs.YtpmlhgmmobpilaaGreatDoor
open Go.RowKit Go.Shelf
namespace Ci
open Nt
def b1 : ByteArray := ⟨#[49]⟩
def b2 : ByteArray := ⟨#[50]⟩
end Ci
end Go.Proofs.YtpmlhgmmobpilaaGreatDoor
namespace Go.Proofs.YtpmlhgmmobpilaaGreatDoor
open Go.RowKit Go.Shelf
namespace Ci
open Nt
end Ci
end Go.Proofs.YtpmlhgmmobpilaaGreatDoor
namespace Go.Proofs.YtpmlhgmmobpilaaGreatDoor
open Go.RowKit Go.Shelf
namespace Ci
open Nt
theorem InLs.below {W W' : World} {A : Option Addr} {l : List (Option Addr × Nat × List Int)} (h : InLs W A l) (hb : Below W.heap.size W W') : InLs W' A l := fun h0 => by
  obtain ⟨b, off, e, hl, hc⟩ := h h0
  exact ⟨b, off, e, Nat.lt_of_lt_of_le hl hb.size, fun j hj => ⟨(hb.cell (p := ⟨b, _, none⟩) hl).trans (hc j hj).1, (hc j hj).2.1.below hb, (hc j hj).2.2⟩⟩
end Ci
end Go.Proofs.YtpmlhgmmobpilaaGreatDoor
namespace Go.Proofs.YtpmlhgmmobpilaaGreatDoor
open Go.ChangeShapes Go.WideShapes Go.ChangeAt Go.RowKit Go.Shelf Go.Joins Go.Deep
namespace Ci
open Nt
def in64 (x : Int) : Prop := -9223372036854775808 ≤ x ∧ x ≤ 9223372036854775807
def strD {H : Type} (x : ByteArray) : DataW H := .lit (.string x.data.toList)
def intD {H : Type} (x : Int) : DataW H := .lit (.int .i64 x)
/-- A slice's datum. -/
def isSl {H α : Type} (f : α → DataW H) (l : List α) (d : DataW H) : Prop := (d = .nil ∧ l = []) ∨ ∃ rest, d = .slice (l.map f) rest
section
variable {H : Type} {enc : TypeId × Value → H} {w : World} {base : Nat} {held : Bool}
theorem cadd {b o k : Nat} : (⟨b, o, none⟩ : Addr).add k = ⟨b, o + k, none⟩ := by unfold Addr.add; split <;> simp_all
theorem i64_in {x : Int} (h : (Lit.int .i64 x).wf = true) : in64 x := by
  have := wf_inQ h
  exact this
set_option maxRecDepth 100000 in
theorem open_ints' {fuel : Nat} {cs : List Value} {x : DataW H × List MemPlace} (h : DataW.trod enc Tryz.prog w base (fun _ => true) held fuel 24 cs = some x) :
    ∃ (A : Option Addr) (cap : Nat) (l : List Int), cs = [.slice A l.length cap] ∧ isSl intD l x.1 ∧ InInt w A l ∧ ∀ y, y ∈ l → in64 y := by
  rcases open_slice1 Tryz.underlying24 (by kernel_rfl) h with ⟨h1, h2⟩ | ⟨a, len, cap, m, n, V, D, Pl, hcs, hb, hl, hm, hmm, hx, hi⟩
  · exact ⟨none, 0, [], h1, .inl ⟨by rw [h2], rfl⟩, fun h => absurd h (by simp), fun y hy => by cases hy⟩
  · simp only [if_true] at hmm
    subst hmm
    have each : ∀ i, i < m → ∃ y : Int, V i = .int .i64 y ∧ D i = intD y ∧ in64 y := by
      intro i him
      obtain ⟨y, e1, e2, e3⟩ := DataW.trod_int Tryz.underlying3 (hi i him).2
      exact ⟨y, by simpa using e1, congrArg Prod.fst e2, i64_in e3⟩
    obtain ⟨Y, hY⟩ := choose_lt each
    refine ⟨some a, m, (List.range len).map Y, by simpa using hcs, .inr ⟨_, by rw [hx, List.map_map]; simp only []; congr 1; exact List.map_congr_left fun i hi2 => (hY i (by have := List.mem_range.1 hi2; omega)).2.1⟩, fun h0 => ?_, fun y hy => ?_⟩
    · simp only [List.length_map, List.length_range] at h0
      have h00 := (hi 0 (by omega)).1
      have hsp := World.cell?_spot h00
      obtain ⟨b, o, s⟩ := a
      have hs : s = none := by simpa [Addr.add] using hsp
      subst hs
      refine ⟨b, o, rfl, ?_, fun j hj => ?_⟩
      · have := World.block_lt_of_cell? w _ h00
        simpa [cadd] using this
      · have hj' : j < len := by simpa using hj
        have hc := (hi j (by omega)).1
        rw [cadd, (hY j (by omega)).1] at hc
        simp only [List.getElem_map, List.getElem_range]
        exact hc
    · obtain ⟨i, hi2, rfl⟩ := List.mem_map.1 hy
      exact (hY i (by have := List.mem_range.1 hi2; omega)).2.2
end
end Ci
end Go.Proofs.YtpmlhgmmobpilaaGreatDoor
namespace Go.Proofs.YtpmlhgmmobpilaaGreatDoor
open Go.ChangeShapes Go.WideShapes Go.ChangeAt Go.RowKit Go.Shelf Go.Joins Go.Deep
namespace Ci
open Nt
section
variable {H : Type}
theorem weightsAll_mem {P : Program} {e : TypeId} {d : DataW H} : ∀ {l : List (DataW H)}, d ∈ l → ∀ m ∈ d.weights P e, m ∈ DataW.weightsAll P e l := by
  intro l
  induction l with
  | nil => intro h; cases h
  | cons a l ih =>
    intro h m hm
    rw [DataW.weightsAll, List.mem_append]
    rcases List.mem_cons.1 h with rfl | h
    · exact .inl hm
    · exact .inr (ih h m hm)
theorem trodAll_stays {enc : TypeId × Value → H} {P : Program} {W W' : World} {base : Nat} {sp' : Nat → Bool} (hl : laidOutB P = true) : ∀ {ts : List TypeId} {vs : List Value} {ds : List (DataW H)} {ps : List MemPlace},
    (∀ t ∈ ts, P.readableRec t = true ∧ t < P.types.size) → DataW.TrodAll enc P W base (fun _ => true) true ts vs ds ps → (∀ p ∈ ps, W.sameAt W' p) → (∀ p ∈ ps, sp' p.block = true) → DataW.TrodAll enc P W' base sp' true ts vs ds ps
  | [], [], [], _, _, h, _, _ => h
  | _ :: _, _ :: _, _ :: _, _, hT, ⟨p, q, h1, h2, e⟩, hs, hb =>
    ⟨p, q, WideElems.Trod_stays hl (hT _ (List.mem_cons.2 (.inl rfl))).1 (hT _ (List.mem_cons.2 (.inl rfl))).2 h1 (fun x hx => hs x (by rw [e]; exact List.mem_append_left _ hx)) (fun x hx => hb x (by rw [e]; exact List.mem_append_left _ hx)),
      trodAll_stays hl (fun t ht => hT t (List.mem_cons.2 (.inr ht))) h2 (fun x hx => hs x (by rw [e]; exact List.mem_append_right _ hx)) (fun x hx => hb x (by rw [e]; exact List.mem_append_right _ hx)), e⟩
theorem sizes_at {ts : List TypeId} {ds : List (DataW H)} {j : Nat} {t : TypeId} {d : DataW H} (hsz : (DataW.weightsEach Tryz.prog ts ds).all (· ≤ reachBytes) = true) (ht : ts[j]? = some t) (hd : ds[j]? = some d) : ∀ m ∈ d.weights Tryz.prog t, m ≤ 140737488351232 := fun m hm =>
  of_decide_eq_true (List.all_eq_true.1 hsz _ (DataW.weights_mem_each (P := Tryz.prog) ht hd m hm))
theorem size_sl {α : Type} {f : α → DataW H} {l : List α} {d : DataW H} {t e : TypeId} (ht : Tryz.prog.underlying t = some (.slice e)) (hb : 0 < Tryz.prog.bytesOf e) (h : isSl f l d) (hw : ∀ m ∈ d.weights Tryz.prog t, m ≤ 140737488351232) :
    l.length ≤ 140737488355328 ∧ ∀ x ∈ l, ∀ m ∈ (f x).weights Tryz.prog e, m ≤ 140737488351232 := by
  rcases h with ⟨_, rfl⟩ | ⟨rest, rfl⟩
  · exact ⟨by simp, fun x h => absurd h (by simp)⟩
  · have e1 : (DataW.slice (l.map f) rest).weights Tryz.prog t = ((l.map f).length + rest.length) * Tryz.prog.bytesOf e :: (DataW.weightsAll Tryz.prog e (l.map f) ++ DataW.weightsAll Tryz.prog e rest) := by
      simp [DataW.weights, ht]
    rw [e1] at hw
    have h1 := hw _ (List.mem_cons_self ..)
    rw [List.length_map] at h1
    refine ⟨?_, fun x hx m hm => hw _ (List.mem_cons_of_mem _ (List.mem_append_left _ (weightsAll_mem (List.mem_map_of_mem (f := f) hx) m hm)))⟩
    have h2 : l.length ≤ (l.length + rest.length) * Tryz.prog.bytesOf e := Nat.le_trans (Nat.le_add_right _ _) (Nat.le_mul_of_pos_right _ hb)
    omega
theorem size_str {x : ByteArray} (h : ∀ m ∈ (strD (H := H) x).weights Tryz.prog 9, m ≤ 140737488351232) : x.size ≤ 140737488355328 := by
  have h1 := h x.data.toList.length (by simp [strD, DataW.weights])
  have z1 : x.size = x.data.toList.length := Lib.size_eq _
  omega
end
section
variable {H : Type} {enc : TypeId × Value → H} {w : World} {base : Nat} {held : Bool}
set_option maxRecDepth 100000 in
theorem open_intsV {r : Go.Reach} {b0 : Nat} {v : Value} {d : DataW H} {p : List MemPlace} (hv : Value.okWide Tryz.prog w r b0 24 v) (h : DataW.Trod enc Tryz.prog w base (fun _ => true) held 24 v d p) :
    ∃ (A : Option Addr) (cap : Nat) (l : List Int), v = .slice A l.length cap ∧ isSl intD l d ∧ InInt w A l ∧ ∀ y, y ∈ l → in64 y := by
  obtain ⟨a, len, c, rfl⟩ := okWide_slice Tryz.underlying24 hv
  obtain ⟨n, hn⟩ := h
  obtain ⟨A, cap, l, e, h1, h2, h3⟩ := open_ints' hn
  refine ⟨A, cap, l, ?_, h1, h2, h3⟩
  simpa [Value.cells] using e
end
end Ci
end Go.Proofs.YtpmlhgmmobpilaaGreatDoor

namespace Go.Proofs.YtpmlhgmmobpilaaGreatDoor
namespace Mo
open Nt Ci
/-- A rate: currency, day, numerator, denominator. -/
abbrev Rt := ByteArray × Int × Int × Int
def dayB (n : Int) : Bool := decide (0 ≤ n ∧ n ≤ 100000)
def posB (n : Int) : Bool := decide (1 ≤ n ∧ n ≤ 1000000)
def okR (base : ByteArray) (x : Rt) : Bool := identB x.1 && !decide (x.1 = base) && dayB x.2.1 && posB x.2.2.1 && posB x.2.2.2
/-- Two rates of one currency on one day. -/
def sameK (x y : Rt) : Bool := decide (x.1 = y.1) && decide (x.2.1 = y.2.1)
def validR (l : List Rt) (base : ByteArray) : Bool := identB base && decide (l.length ≤ 400) && l.all (okR base) && decide (l.Pairwise fun x y => sameK x y = false)
/-- What is asked of rate k. -/
def RtAt (base : ByteArray) (l : List Rt) (k : Nat) (h : k < l.length) : Prop := okR base l[k] = true ∧ ∀ j (hj : j < k), sameK (l[j]'(Nat.lt_trans hj h)) l[k] = false
section
variable {base cur : ByteArray} {day : Int} {l : List Rt} {x y : Rt} {k : Nat}
theorem valid_iff : validR l base = true ↔ identB base = true ∧ l.length ≤ 400 ∧ ∀ k (h : k < l.length), RtAt base l k h := by
  unfold validR
  rw [Bool.and_eq_true, Bool.and_eq_true, Bool.and_eq_true, decide_eq_true_iff, decide_eq_true_iff, List.all_eq_true, List.pairwise_iff_getElem]
  constructor
  · rintro ⟨⟨⟨h1, h2⟩, h3⟩, h4⟩
    exact ⟨h1, h2, fun k h => ⟨h3 _ (List.getElem_mem h), fun j hj => h4 j k (Nat.lt_trans hj h) h hj⟩⟩
  · rintro ⟨h1, h2, h3⟩
    refine ⟨⟨⟨h1, h2⟩, fun x hx => ?_⟩, fun i j hi hj hij => (h3 j hj).2 i hij⟩
    obtain ⟨k, hk, rfl⟩ := List.getElem_of_mem hx
    exact (h3 k hk).1
theorem valid_bad (h : k < l.length) (hb : ¬ RtAt base l k h) : validR l base = false := by
  cases c : validR l base
  · rfl
  · exact absurd ((valid_iff.1 c).2.2 k h) hb
/-- The rate is of the currency, and not of a later day. -/
def knownB (cur : ByteArray) (day : Int) (x : Rt) : Bool := decide (x.1 = cur) && decide (x.2.1 ≤ day)
def stepB (cur : ByteArray) (day : Int) (acc : Option Rt) (x : Rt) : Option Rt :=
  match acc with
  | none => if knownB cur day x = true then some x else none
  | some y => if knownB cur day x = true ∧ y.2.1 < x.2.1 then some x else some y
def bestR (l : List Rt) (cur : ByteArray) (day : Int) : Option Rt := l.foldl (stepB cur day) none
theorem best_take (h : k < l.length) : bestR (l.take (k + 1)) cur day = stepB cur day (bestR (l.take k) cur day) l[k] := by
  unfold bestR
  rw [List.take_succ_eq_append_getElem h, List.foldl_append]
  rfl
/-- What bestR finds. -/
def BestIs (l : List Rt) (cur : ByteArray) (day : Int) : Option Rt → Prop
  | none => ∀ y, y ∈ l → knownB cur day y = false
  | some x => x ∈ l ∧ knownB cur day x = true ∧ ∀ y, y ∈ l → knownB cur day y = true → y.2.1 ≤ x.2.1
theorem best_is : ∀ (m l0 : List Rt) (acc : Option Rt), BestIs l0 cur day acc → BestIs (l0 ++ m) cur day (m.foldl (stepB cur day) acc) := by
  intro m
  induction m with
  | nil => intro l0 acc h; rwa [List.append_nil]
  | cons a m ih =>
    intro l0 acc h
    have := ih (l0 ++ [a]) (stepB cur day acc a) ?_
    · rwa [List.append_assoc, List.singleton_append] at this
    cases acc with
    | none =>
      unfold stepB
      by_cases c : knownB cur day a = true
      · simp only [if_pos c]
        refine ⟨by simp, c, fun y hy hk => ?_⟩
        rcases List.mem_append.1 hy with hy | hy
        · rw [h y hy] at hk; cases hk
        · rw [List.mem_singleton.1 hy]; exact Int.le_refl _
      · simp only [if_neg c]
        intro y hy
        rcases List.mem_append.1 hy with hy | hy
        · exact h y hy
        · rw [List.mem_singleton.1 hy]; simpa using c
    | some b =>
      obtain ⟨h1, h2, h3⟩ := h
      unfold stepB
      by_cases c : knownB cur day a = true ∧ b.2.1 < a.2.1
      · simp only [if_pos c]
        refine ⟨by simp, c.1, fun y hy hk => ?_⟩
        rcases List.mem_append.1 hy with hy | hy
        · have := h3 y hy hk; omega
        · rw [List.mem_singleton.1 hy]; exact Int.le_refl _
      · simp only [if_neg c]
        refine ⟨List.mem_append.2 (.inl h1), h2, fun y hy hk => ?_⟩
        rcases List.mem_append.1 hy with hy | hy
        · exact h3 y hy hk
        · rw [List.mem_singleton.1 hy] at hk ⊢
          by_cases d : b.2.1 < a.2.1
          · exact absurd ⟨hk, d⟩ c
          · omega
theorem best_spec : BestIs l cur day (bestR l cur day) := by
  have := best_is (cur := cur) (day := day) l [] none (fun y hy => by cases hy)
  exact this
theorem valid_parts (h : validR l base = true) : identB base = true ∧ l.length ≤ 400 ∧ (∀ x, x ∈ l → okR base x = true) ∧ l.Pairwise fun x y => sameK x y = false := by
  unfold validR at h
  rw [Bool.and_eq_true, Bool.and_eq_true, Bool.and_eq_true, decide_eq_true_iff, decide_eq_true_iff, List.all_eq_true] at h
  exact ⟨h.1.1.1, h.1.1.2, h.1.2, h.2⟩
def noR : Rt := (⟨#[]⟩, 0, 0, 0)
/-- What Find returns. -/
def findR (l : List Rt) (base cur : ByteArray) (day : Int) : Rt × Int :=
  if validR l base = true ∧ identB cur = true ∧ dayB day = true then
    (if cur = base then ((base, 0, 1, 1), 0) else match bestR l cur day with
      | some x => (x, 0)
      | none => (noR, 11))
  else (noR, 1)
/-- What Find gives is a rate within the limits. -/
theorem find_ok {x : Rt} (h : findR l base cur day = (x, 0)) : (1 ≤ x.2.2.1 ∧ x.2.2.1 ≤ 1000000) ∧ (1 ≤ x.2.2.2 ∧ x.2.2.2 ≤ 1000000) ∧ validR l base = true ∧ identB cur = true ∧ dayB day = true := by
  unfold findR at h
  split at h
  · rename_i c
    split at h
    · simp only [Prod.mk.injEq, and_true] at h
      obtain rfl := h.symm
      exact ⟨⟨Int.le_refl _, by show (1 : Int) ≤ 1000000; decide⟩, ⟨Int.le_refl _, by show (1 : Int) ≤ 1000000; decide⟩, c⟩
    · split at h
      · rename_i y hy
        simp only [Prod.mk.injEq, and_true] at h
        obtain rfl := h.symm
        have hb := best_spec (l := l) (cur := cur) (day := day)
        rw [hy] at hb
        have h2 := (valid_parts c.1).2.2.1 _ hb.1
        unfold okR at h2
        simp only [Bool.and_eq_true] at h2
        exact ⟨of_decide_eq_true h2.1.2, of_decide_eq_true h2.2, c⟩
      · simp at h
  · simp at h
end
end Mo
end Go.Proofs.YtpmlhgmmobpilaaGreatDoor

namespace Go.Proofs.YtpmlhgmmobpilaaGreatDoor
open Go.RowKit Go.Shelf
namespace Mo
open Nt Ci
set_option maxRecDepth 100000 in
set_option maxHeartbeats 4000000 in
theorem isCurrency_w (s : ByteArray) (w : World) (hs : s.size ≤ 9223372036854775807) :
    Calls Tryz.prog 59 #[.string s] w fun e w' => e = .returned (.bool (identB s)) ∧ w' = w := by
  have HB := Lib.hid (fun (k : Nat) (h : k < s.size) (hb : ¬ OkAt k s[k].toNat) => ident_bad (s := s) h hb)
  have HA := Lib.hid (ident_all (s := s))
  go_enter Tryz.func59, Tryz.ntmps59
  go_wp2
  go_loop [8] (fun i => ∃ k : Nat, k ≤ s.size ∧ i = .int .i64 k ∧ Hid (∀ i (h : i < s.size), i < k → OkAt i s[i].toNat)) (fun i => s.size - (intOf i).toNat)
  case atStart => exact ⟨0, Nat.zero_le _, rfl, fun i _ h => absurd h (Nat.not_lt_zero _)⟩
  case round =>
    obtain ⟨k, hk, rfl, hI⟩ := hrel
    by_cases hlt : k < s.size
    · have hc : s[k].toNat ≤ 255 := by have := s[k].toNat_lt; omega
      have i0 : (0 : Int) ≤ (k : Int) := by omega
      have i1 : (k : Int) < (s.size : Int) := by omega
      have HN : Hid (OkAt k s[k].toNat → ∀ i (h : i < s.size), i < k + 1 → OkAt i s[i].toNat) := fun h i hi h2 => by
        by_cases e : i = k
        · subst e; exact h
        · exact hI.out i hi (by omega)
      have HB2 := Lib.hid (HB.out k hlt)
      clear hI
      by_cases e0 : k = 0
      · have b0 : ((k : Int) == 0) = true := by rw [beq_iff_eq]; omega
        have b0n : ((k : Int) != 0) = false := by rw [bne_eq_false_iff_eq]; omega
        have b3 : (k == 0) = true := by rw [beq_iff_eq]; omega
        replace e0 := Lib.hid e0
        have hcl : (s[k].toNat ≤ 47 ∧ 0 ≤ s[k].toNat) ∨ (48 ≤ s[k].toNat ∧ s[k].toNat ≤ 57) ∨ (58 ≤ s[k].toNat ∧ s[k].toNat ≤ 64) ∨ (65 ≤ s[k].toNat ∧ s[k].toNat ≤ 90) ∨ (91 ≤ s[k].toNat ∧ s[k].toNat ≤ 94) ∨ (95 ≤ s[k].toNat ∧ s[k].toNat ≤ 95) ∨ (96 ≤ s[k].toNat ∧ s[k].toNat ≤ 96) ∨ (97 ≤ s[k].toNat ∧ s[k].toNat ≤ 122) ∨ (123 ≤ s[k].toNat ∧ s[k].toNat ≤ 255) := by omega
        rcases hcl with ⟨g1, g2⟩ | ⟨g1, g2⟩ | ⟨g1, g2⟩ | ⟨g1, g2⟩ | ⟨g1, g2⟩ | ⟨g1, g2⟩ | ⟨g1, g2⟩ | ⟨g1, g2⟩ | ⟨g1, g2⟩
        · have b1 : ((s[k].toNat : Int) != 95) = true := by rw [bne_iff_ne]; omega
          have b2 : ((s[k].toNat : Int) == 95) = false := by rw [beq_eq_false_iff_ne]; omega
          have HR : Hid (identB s = false) := HB2.out (by have := e0.out; unfold OkAt; omega)
          clear HN HB2
          go_wp2
          go_ret
          exact ⟨ret_bool HR.out.symm, rfl⟩
        · have b1 : ((s[k].toNat : Int) != 95) = true := by rw [bne_iff_ne]; omega
          have b2 : ((s[k].toNat : Int) == 95) = false := by rw [beq_eq_false_iff_ne]; omega
          have HR : Hid (identB s = false) := HB2.out (by have := e0.out; unfold OkAt; omega)
          clear HN HB2
          go_wp2
          go_ret
          exact ⟨ret_bool HR.out.symm, rfl⟩
        · have b1 : ((s[k].toNat : Int) != 95) = true := by rw [bne_iff_ne]; omega
          have b2 : ((s[k].toNat : Int) == 95) = false := by rw [beq_eq_false_iff_ne]; omega
          have HR : Hid (identB s = false) := HB2.out (by have := e0.out; unfold OkAt; omega)
          clear HN HB2
          go_wp2
          go_ret
          exact ⟨ret_bool HR.out.symm, rfl⟩
        · have b1 : ((s[k].toNat : Int) != 95) = true := by rw [bne_iff_ne]; omega
          have b2 : ((s[k].toNat : Int) == 95) = false := by rw [beq_eq_false_iff_ne]; omega
          have HR := Lib.hid (HN.out (by have := e0.out; unfold OkAt; omega))
          clear HN HB2
          go_wp2
          go_round
          case rel => exact ⟨k + 1, by omega, by go_num, HR⟩
          case measure => simp [intOf]; omega
        · have b1 : ((s[k].toNat : Int) != 95) = true := by rw [bne_iff_ne]; omega
          have b2 : ((s[k].toNat : Int) == 95) = false := by rw [beq_eq_false_iff_ne]; omega
          have c1 : decide ((s[k].toNat : Int) ≤ 90) = false := by rw [decide_eq_false_iff_not]; omega
          have d1 : decide (s[k].toNat ≤ 90) = false := by rw [decide_eq_false_iff_not]; omega
          have n1 : ¬ ((s[k].toNat : Int) ≤ 90) := by omega
          have HR : Hid (identB s = false) := HB2.out (by have := e0.out; unfold OkAt; omega)
          clear HN HB2
          go_wp2
          go_ret
          exact ⟨ret_bool HR.out.symm, rfl⟩
        · have b1 : ((s[k].toNat : Int) != 95) = false := by rw [bne_eq_false_iff_eq]; omega
          have b2 : ((s[k].toNat : Int) == 95) = true := by rw [beq_iff_eq]; omega
          have c1 : decide ((s[k].toNat : Int) ≤ 90) = false := by rw [decide_eq_false_iff_not]; omega
          have d1 : decide (s[k].toNat ≤ 90) = false := by rw [decide_eq_false_iff_not]; omega
          have n1 : ¬ ((s[k].toNat : Int) ≤ 90) := by omega
          have HR : Hid (identB s = false) := HB2.out (by have := e0.out; unfold OkAt; omega)
          clear HN HB2
          go_wp2
          go_ret
          exact ⟨ret_bool HR.out.symm, rfl⟩
        · have b1 : ((s[k].toNat : Int) != 95) = true := by rw [bne_iff_ne]; omega
          have b2 : ((s[k].toNat : Int) == 95) = false := by rw [beq_eq_false_iff_ne]; omega
          have c1 : decide ((s[k].toNat : Int) ≤ 90) = false := by rw [decide_eq_false_iff_not]; omega
          have d1 : decide (s[k].toNat ≤ 90) = false := by rw [decide_eq_false_iff_not]; omega
          have n1 : ¬ ((s[k].toNat : Int) ≤ 90) := by omega
          have HR : Hid (identB s = false) := HB2.out (by have := e0.out; unfold OkAt; omega)
          clear HN HB2
          go_wp2
          go_ret
          exact ⟨ret_bool HR.out.symm, rfl⟩
        · have b1 : ((s[k].toNat : Int) != 95) = true := by rw [bne_iff_ne]; omega
          have b2 : ((s[k].toNat : Int) == 95) = false := by rw [beq_eq_false_iff_ne]; omega
          have c1 : decide ((s[k].toNat : Int) ≤ 90) = false := by rw [decide_eq_false_iff_not]; omega
          have d1 : decide (s[k].toNat ≤ 90) = false := by rw [decide_eq_false_iff_not]; omega
          have n1 : ¬ ((s[k].toNat : Int) ≤ 90) := by omega
          have HR := Lib.hid (HN.out (by have := e0.out; unfold OkAt; omega))
          clear HN HB2
          go_wp2
          go_round
          case rel => exact ⟨k + 1, by omega, by go_num, HR⟩
          case measure => simp [intOf]; omega
        · have b1 : ((s[k].toNat : Int) != 95) = true := by rw [bne_iff_ne]; omega
          have b2 : ((s[k].toNat : Int) == 95) = false := by rw [beq_eq_false_iff_ne]; omega
          have c0 : decide ((s[k].toNat : Int) ≤ 122) = false := by rw [decide_eq_false_iff_not]; omega
          have d0 : decide (s[k].toNat ≤ 122) = false := by rw [decide_eq_false_iff_not]; omega
          have n0 : ¬ ((s[k].toNat : Int) ≤ 122) := by omega
          have c1 : decide ((s[k].toNat : Int) ≤ 90) = false := by rw [decide_eq_false_iff_not]; omega
          have d1 : decide (s[k].toNat ≤ 90) = false := by rw [decide_eq_false_iff_not]; omega
          have n1 : ¬ ((s[k].toNat : Int) ≤ 90) := by omega
          have HR : Hid (identB s = false) := HB2.out (by have := e0.out; unfold OkAt; omega)
          clear HN HB2
          go_wp2
          go_ret
          exact ⟨ret_bool HR.out.symm, rfl⟩
      · have b0 : ((k : Int) == 0) = false := by rw [beq_eq_false_iff_ne]; omega
        have b0n : ((k : Int) != 0) = true := by rw [bne_iff_ne]; omega
        have b3 : (k == 0) = false := by rw [beq_eq_false_iff_ne]; omega
        have hcl : (s[k].toNat ≤ 47 ∧ 0 ≤ s[k].toNat) ∨ (48 ≤ s[k].toNat ∧ s[k].toNat ≤ 57) ∨ (58 ≤ s[k].toNat ∧ s[k].toNat ≤ 64) ∨ (65 ≤ s[k].toNat ∧ s[k].toNat ≤ 90) ∨ (91 ≤ s[k].toNat ∧ s[k].toNat ≤ 94) ∨ (95 ≤ s[k].toNat ∧ s[k].toNat ≤ 95) ∨ (96 ≤ s[k].toNat ∧ s[k].toNat ≤ 96) ∨ (97 ≤ s[k].toNat ∧ s[k].toNat ≤ 122) ∨ (123 ≤ s[k].toNat ∧ s[k].toNat ≤ 255) := by omega
        rcases hcl with ⟨g1, g2⟩ | ⟨g1, g2⟩ | ⟨g1, g2⟩ | ⟨g1, g2⟩ | ⟨g1, g2⟩ | ⟨g1, g2⟩ | ⟨g1, g2⟩ | ⟨g1, g2⟩ | ⟨g1, g2⟩
        · have b1 : ((s[k].toNat : Int) != 95) = true := by rw [bne_iff_ne]; omega
          have b2 : ((s[k].toNat : Int) == 95) = false := by rw [beq_eq_false_iff_ne]; omega
          have HR : Hid (identB s = false) := HB2.out (by unfold OkAt; omega)
          clear HN HB2
          go_wp2
          go_ret
          exact ⟨ret_bool HR.out.symm, rfl⟩
        · have b1 : ((s[k].toNat : Int) != 95) = true := by rw [bne_iff_ne]; omega
          have b2 : ((s[k].toNat : Int) == 95) = false := by rw [beq_eq_false_iff_ne]; omega
          have HR := Lib.hid (HN.out (by unfold OkAt; omega))
          clear HN HB2
          go_wp2
          go_round
          case rel => exact ⟨k + 1, by omega, by go_num, HR⟩
          case measure => simp [intOf]; omega
        · have b1 : ((s[k].toNat : Int) != 95) = true := by rw [bne_iff_ne]; omega
          have b2 : ((s[k].toNat : Int) == 95) = false := by rw [beq_eq_false_iff_ne]; omega
          have HR : Hid (identB s = false) := HB2.out (by unfold OkAt; omega)
          clear HN HB2
          go_wp2
          go_ret
          exact ⟨ret_bool HR.out.symm, rfl⟩
        · have b1 : ((s[k].toNat : Int) != 95) = true := by rw [bne_iff_ne]; omega
          have b2 : ((s[k].toNat : Int) == 95) = false := by rw [beq_eq_false_iff_ne]; omega
          have HR := Lib.hid (HN.out (by unfold OkAt; omega))
          clear HN HB2
          go_wp2
          go_round
          case rel => exact ⟨k + 1, by omega, by go_num, HR⟩
          case measure => simp [intOf]; omega
        · have b1 : ((s[k].toNat : Int) != 95) = true := by rw [bne_iff_ne]; omega
          have b2 : ((s[k].toNat : Int) == 95) = false := by rw [beq_eq_false_iff_ne]; omega
          have c1 : decide ((s[k].toNat : Int) ≤ 90) = false := by rw [decide_eq_false_iff_not]; omega
          have d1 : decide (s[k].toNat ≤ 90) = false := by rw [decide_eq_false_iff_not]; omega
          have n1 : ¬ ((s[k].toNat : Int) ≤ 90) := by omega
          have HR : Hid (identB s = false) := HB2.out (by unfold OkAt; omega)
          clear HN HB2
          go_wp2
          go_ret
          exact ⟨ret_bool HR.out.symm, rfl⟩
        · have b1 : ((s[k].toNat : Int) != 95) = false := by rw [bne_eq_false_iff_eq]; omega
          have b2 : ((s[k].toNat : Int) == 95) = true := by rw [beq_iff_eq]; omega
          have c1 : decide ((s[k].toNat : Int) ≤ 90) = false := by rw [decide_eq_false_iff_not]; omega
          have d1 : decide (s[k].toNat ≤ 90) = false := by rw [decide_eq_false_iff_not]; omega
          have n1 : ¬ ((s[k].toNat : Int) ≤ 90) := by omega
          have HR := Lib.hid (HN.out (by unfold OkAt; omega))
          clear HN HB2
          go_wp2
          go_round
          case rel => exact ⟨k + 1, by omega, by go_num, HR⟩
          case measure => simp [intOf]; omega
        · have b1 : ((s[k].toNat : Int) != 95) = true := by rw [bne_iff_ne]; omega
          have b2 : ((s[k].toNat : Int) == 95) = false := by rw [beq_eq_false_iff_ne]; omega
          have c1 : decide ((s[k].toNat : Int) ≤ 90) = false := by rw [decide_eq_false_iff_not]; omega
          have d1 : decide (s[k].toNat ≤ 90) = false := by rw [decide_eq_false_iff_not]; omega
          have n1 : ¬ ((s[k].toNat : Int) ≤ 90) := by omega
          have HR : Hid (identB s = false) := HB2.out (by unfold OkAt; omega)
          clear HN HB2
          go_wp2
          go_ret
          exact ⟨ret_bool HR.out.symm, rfl⟩
        · have b1 : ((s[k].toNat : Int) != 95) = true := by rw [bne_iff_ne]; omega
          have b2 : ((s[k].toNat : Int) == 95) = false := by rw [beq_eq_false_iff_ne]; omega
          have c1 : decide ((s[k].toNat : Int) ≤ 90) = false := by rw [decide_eq_false_iff_not]; omega
          have d1 : decide (s[k].toNat ≤ 90) = false := by rw [decide_eq_false_iff_not]; omega
          have n1 : ¬ ((s[k].toNat : Int) ≤ 90) := by omega
          have HR := Lib.hid (HN.out (by unfold OkAt; omega))
          clear HN HB2
          go_wp2
          go_round
          case rel => exact ⟨k + 1, by omega, by go_num, HR⟩
          case measure => simp [intOf]; omega
        · have b1 : ((s[k].toNat : Int) != 95) = true := by rw [bne_iff_ne]; omega
          have b2 : ((s[k].toNat : Int) == 95) = false := by rw [beq_eq_false_iff_ne]; omega
          have c0 : decide ((s[k].toNat : Int) ≤ 122) = false := by rw [decide_eq_false_iff_not]; omega
          have d0 : decide (s[k].toNat ≤ 122) = false := by rw [decide_eq_false_iff_not]; omega
          have n0 : ¬ ((s[k].toNat : Int) ≤ 122) := by omega
          have c1 : decide ((s[k].toNat : Int) ≤ 90) = false := by rw [decide_eq_false_iff_not]; omega
          have d1 : decide (s[k].toNat ≤ 90) = false := by rw [decide_eq_false_iff_not]; omega
          have n1 : ¬ ((s[k].toNat : Int) ≤ 90) := by omega
          have HR : Hid (identB s = false) := HB2.out (by unfold OkAt; omega)
          clear HN HB2
          go_wp2
          go_ret
          exact ⟨ret_bool HR.out.symm, rfl⟩
    · obtain rfl : k = s.size := by omega
      have HE : Hid (identB s = (decide (0 < s.size) && decide (s.size ≤ 24))) := HA.out fun i h => hI.out i h h
      have q0 : s.toList.isEmpty = decide (s.size = 0) := by
        rw [Lib.toList_data, Lib.size_eq]
        cases s.data.toList <;> simp
      clear hI
      by_cases h0 : s.size = 0
      · have q1 : s.toList = [] := by simpa [h0] using q0
        have q2 : (!s.toList.isEmpty) = false := by rw [q0, decide_eq_true h0]; rfl
        clear q0
        go_wp2
        go_ret
        exact ⟨ret_bool (by rw [HE.out, decide_eq_false (by omega)]; rfl), rfl⟩
      · have q2 : (!s.toList.isEmpty) = true := by rw [q0, decide_eq_false h0]; rfl
        have q1 : ¬ s.toList = [] := fun e => by rw [e] at q0; rw [decide_eq_false h0] at q0; cases q0
        clear q0
        by_cases h24 : s.size ≤ 24
        · go_wp2
          go_ret
          exact ⟨ret_bool (by rw [HE.out, decide_eq_true (by omega : 0 < s.size), decide_eq_true h24, decide_eq_true (by omega : (s.size : Int) ≤ 24)]; rfl), rfl⟩
        · go_wp2
          go_ret
          exact ⟨ret_bool (by rw [HE.out, decide_eq_true (by omega : 0 < s.size), decide_eq_false h24, decide_eq_false (by omega : ¬ (s.size : Int) ≤ 24)]; rfl), rfl⟩
set_option maxRecDepth 100000 in
theorem isDay_w (n : Int) (w : World) : Calls Tryz.prog 60 #[.int .i64 n] w fun e w' => e = .returned (.bool (dayB n)) ∧ w' = w := by
  have hd : dayB n = (decide (0 ≤ n) && decide (n ≤ 100000)) := Bool.decide_and _ _
  rw [hd]
  by_cases c1 : 0 ≤ n
  · have m1 : decide (0 ≤ n) = true := decide_eq_true c1
    by_cases c2 : n ≤ 100000
    · have m2 : decide (n ≤ 100000) = true := decide_eq_true c2
      rw [m1, m2]
      go_enter Tryz.func60, Tryz.ntmps60
      go_wp2
      go_ret
      exact ⟨rfl, rfl⟩
    · have m2 : decide (n ≤ 100000) = false := decide_eq_false c2
      rw [m1, m2]
      go_enter Tryz.func60, Tryz.ntmps60
      go_wp2
      go_ret
      exact ⟨rfl, rfl⟩
  · have m1 : decide (0 ≤ n) = false := decide_eq_false c1
    rw [m1, Bool.false_and]
    go_enter Tryz.func60, Tryz.ntmps60
    go_wp2
    go_ret
    exact ⟨rfl, rfl⟩
end Mo
end Go.Proofs.YtpmlhgmmobpilaaGreatDoor

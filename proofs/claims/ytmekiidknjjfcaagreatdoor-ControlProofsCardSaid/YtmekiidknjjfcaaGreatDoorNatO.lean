/- The exported functions once more, over texts of optional numbers. -/
import Derived.Test.YtmekiidknjjfcaaGreatDoorNatApi2
namespace Go.Proofs.YtmekiidknjjfcaaGreatDoor
open Go.RowKit Go.Shelf
namespace Nt

/-- The text of a number, or the empty text. -/
def T : Option Nat → ByteArray | some n => num n | none => ⟨#[]⟩
def Ok (x : Option Nat) : Prop := ∀ n, x = some n → n < Lim
def limO (k : Nat) : Option Nat := if k < Lim then some k else none
def apO (f : Nat → Nat → Nat) : Option Nat → Option Nat → Option Nat | some a, some b => limO (f a b) | _, _ => none
def apE (f : Nat → Nat → Nat) : Option Nat → Option Nat → Int | some a, some b => if f a b < Lim then 0 else 2 | _, _ => 1
def sumO (x y : Option Nat) : Option Nat := apO (· + ·) x y
def sumE (x y : Option Nat) : Int := apE (· + ·) x y
def mulO (x y : Option Nat) : Option Nat := apO (· * ·) x y
def mulE (x y : Option Nat) : Int := apE (· * ·) x y
def gcdO (x y : Option Nat) : Option Nat := apO Nat.gcd x y
def gcdE (x y : Option Nat) : Int := apE Nat.gcd x y
def subO : Option Nat → Option Nat → Option Nat | some a, some b => if b ≤ a then some (a - b) else none | _, _ => none
def subX : Option Nat → Option Nat → Int | some a, some b => if b ≤ a then 0 else 10 | _, _ => 1
def quoO : Option Nat → Option Nat → Option Nat | some a, some b => if b = 0 then none else some (a / b) | _, _ => none
def remO : Option Nat → Option Nat → Option Nat | some a, some b => if b = 0 then none else some (a % b) | _, _ => none
def quoX : Option Nat → Option Nat → Int | some _, some b => if b = 0 then 15 else 0 | _, _ => 1
def cmpO : Option Nat → Option Nat → Int | some a, some b => cmpN a b | _, _ => 0
def cmpX : Option Nat → Option Nat → Int | some _, some _ => 0 | _, _ => 1

theorem ok_some {n : Nat} (h : n < Lim) : Ok (some n) := fun _ e => by cases e; exact h
theorem ok_none : Ok none := fun _ e => by cases e
theorem ok_limO (k : Nat) : Ok (limO k) := by unfold limO; split; (· exact ok_some (by assumption)); (· exact ok_none)
theorem ok_ap (f : Nat → Nat → Nat) (x y : Option Nat) : Ok (apO f x y) := by
  unfold apO; split
  · exact ok_limO _
  · exact ok_none
theorem ok_sum (x y : Option Nat) : Ok (sumO x y) := ok_ap _ x y
theorem ok_mul (x y : Option Nat) : Ok (mulO x y) := ok_ap _ x y
theorem ok_gcd (x y : Option Nat) : Ok (gcdO x y) := ok_ap _ x y
theorem ok_sub {x y : Option Nat} (h : Ok x) : Ok (subO x y) := by
  unfold subO; split
  · split
    · rename_i a b _
      have := h a rfl
      exact ok_some (by omega)
    · exact ok_none
  · exact ok_none
theorem ok_quo {x y : Option Nat} (h : Ok x) : Ok (quoO x y) := by
  unfold quoO; split
  · split
    · exact ok_none
    · rename_i a b _
      have := h a rfl
      exact ok_some (Nat.lt_of_le_of_lt (Nat.div_le_self a b) this)
  · exact ok_none
theorem ok_rem {x y : Option Nat} (h : Ok x) : Ok (remO x y) := by
  unfold remO; split
  · split
    · exact ok_none
    · rename_i a b _
      have := h a rfl
      exact ok_some (Nat.lt_of_le_of_lt (Nat.mod_le a b) this)
  · exact ok_none

theorem isN_T {x : Option Nat} (h : Ok x) : isN (T x) = x.isSome := by
  cases x with
  | none => rfl
  | some n => exact isN_num (h n rfl)
theorem size_T {x : Option Nat} (h : Ok x) : (T x).size ≤ 140737488355328 := by
  cases x with
  | none => exact Nat.zero_le _
  | some n =>
    have h1 : isN (T (some n)) = true := isN_T h
    have h2 := ((isNL_iff _).1 h1).2.1
    have h3 : (T (some n)).size = (T (some n)).data.toList.length := Lib.size_eq _
    omega
theorem of_isN {s : ByteArray} (h : isN s = true) : ∃ n, n < Lim ∧ s = T (some n) := by
  obtain ⟨n, h1, h2⟩ := num_of_isN h
  exact ⟨n, h1, h2⟩
theorem T_inj {x y : Option Nat} (hx : Ok x) (hy : Ok y) (h : T x = T y) : x = y := by
  cases x with
  | none =>
    cases y with
    | none => rfl
    | some n => have := congrArg isN h; rw [isN_T hx, isN_T hy] at this; cases this
  | some m =>
    cases y with
    | none => have := congrArg isN h; rw [isN_T hx, isN_T hy] at this; cases this
    | some n => exact congrArg some (num_inj h)
theorem isOk (x : Option Nat) (h : Ok x) (w : World) : Calls Tryz.prog 68 #[.string (T x)] w fun e w' => e = .returned (.bool x.isSome) ∧ Below w.heap.size w w' := by
  have := is_any (T x) w (by have := size_T h; omega)
  rwa [isN_T h] at this

theorem opS_T (f : Nat → Nat → Nat) {x y : Option Nat} (hx : Ok x) (hy : Ok y) : opS (f (val (T x)) (val (T y))) (T x) (T y) = T (apO f x y) ∧ opE (f (val (T x)) (val (T y))) (T x) (T y) = apE f x y := by
  cases x with
  | none => exact op_bad (.inl rfl)
  | some a =>
    cases y with
    | none => exact op_bad (.inr rfl)
    | some b =>
      have h := op_good (k := f (val (T (some a))) (val (T (some b)))) (isN_T hx) (isN_T hy)
      have ha : val (T (some a)) = a := val_num a
      have hb : val (T (some b)) = b := val_num b
      rw [ha, hb] at h ⊢
      rw [h.1, h.2]
      show strL (f a b) = T (limO (f a b)) ∧ errL (f a b) = if f a b < Lim then 0 else 2
      unfold limO strL errL
      by_cases hl : f a b < Lim
      · rw [if_pos hl, if_pos hl, if_pos hl]; exact ⟨rfl, rfl⟩
      · rw [if_neg hl, if_neg hl, if_neg hl]; exact ⟨rfl, rfl⟩

theorem addT (x y : Option Nat) (w : World) (hE : Env w) (hx : Ok x) (hy : Ok y) : Calls Tryz.prog 73 #[.string (T x), .string (T y)] w fun e w' => e = .returned (.tuple #[.string (T (sumO x y)), .int .i64 (sumE x y)]) ∧ Below w.heap.size w w' := by
  refine (Add_any (T x) (T y) w hE (size_T hx) (size_T hy)).mono ?_
  rintro e w' ⟨rfl, hb⟩
  have := opS_T (· + ·) hx hy
  exact ⟨by rw [this.1, this.2]; rfl, hb⟩
theorem mulT (x y : Option Nat) (w : World) (hE : Env w) (hx : Ok x) (hy : Ok y) : Calls Tryz.prog 94 #[.string (T x), .string (T y)] w fun e w' => e = .returned (.tuple #[.string (T (mulO x y)), .int .i64 (mulE x y)]) ∧ Below w.heap.size w w' := by
  refine (Mul_any (T x) (T y) w hE (size_T hx) (size_T hy)).mono ?_
  rintro e w' ⟨rfl, hb⟩
  have := opS_T (· * ·) hx hy
  exact ⟨by rw [this.1, this.2]; rfl, hb⟩
theorem gcdT (x y : Option Nat) (w : World) (hE : Env w) (hx : Ok x) (hy : Ok y) : Calls Tryz.prog 69 #[.string (T x), .string (T y)] w fun e w' => e = .returned (.tuple #[.string (T (gcdO x y)), .int .i64 (gcdE x y)]) ∧ Below w.heap.size w w' := by
  refine (Gcd_any (T x) (T y) w hE (size_T hx) (size_T hy)).mono ?_
  rintro e w' ⟨rfl, hb⟩
  have := opS_T Nat.gcd hx hy
  exact ⟨by rw [this.1, this.2]; rfl, hb⟩
theorem subT (x y : Option Nat) (w : World) (hE : Env w) (hx : Ok x) (hy : Ok y) : Calls Tryz.prog 75 #[.string (T x), .string (T y)] w fun e w' => e = .returned (.tuple #[.string (T (subO x y)), .int .i64 (subX x y)]) ∧ Below w.heap.size w w' := by
  refine (Sub_any (T x) (T y) w hE (size_T hx) (size_T hy)).mono ?_
  rintro e w' ⟨rfl, hb⟩
  refine ⟨?_, hb⟩
  have h1 := isN_T hx
  have h2 := isN_T hy
  cases x with
  | none => unfold subS subE; rw [h1]; rfl
  | some a =>
    cases y with
    | none => unfold subS subE; rw [h2]; simp; exact ⟨rfl, rfl⟩
    | some b =>
      have ha : val (T (some a)) = a := val_num a
      have hb : val (T (some b)) = b := val_num b
      unfold subS subE subO subX
      rw [h1, h2, ha, hb]
      by_cases h : b ≤ a
      · simp [h, T]
      · simp [h, T]
theorem divT (x y : Option Nat) (w : World) (hE : Env w) (hx : Ok x) (hy : Ok y) : Calls Tryz.prog 80 #[.string (T x), .string (T y)] w fun e w' => e = .returned (.tuple #[.string (T (quoO x y)), .string (T (remO x y)), .int .i64 (quoX x y)]) ∧ Below w.heap.size w w' := by
  refine (Div_any (T x) (T y) w hE (size_T hx) (size_T hy)).mono ?_
  rintro e w' ⟨rfl, hb⟩
  refine ⟨?_, hb⟩
  have h1 := isN_T hx
  have h2 := isN_T hy
  cases x with
  | none => unfold divQ divR divE; rw [h1]; rfl
  | some a =>
    cases y with
    | none => unfold divQ divR divE; rw [h2]; simp; exact ⟨rfl, rfl, rfl⟩
    | some b =>
      have ha : val (T (some a)) = a := val_num a
      have hb : val (T (some b)) = b := val_num b
      unfold divQ divR divE quoO remO quoX
      rw [h1, h2, ha, hb]
      by_cases h : b = 0
      · simp [h, T]
      · simp [h, T]
theorem cmpT (x y : Option Nat) (w : World) (hE : Env w) (hx : Ok x) (hy : Ok y) : Calls Tryz.prog 74 #[.string (T x), .string (T y)] w fun e w' => e = .returned (.tuple #[.int .i64 (cmpO x y), .int .i64 (cmpX x y)]) ∧ Below w.heap.size w w' := by
  refine (Compare_any (T x) (T y) w hE (size_T hx) (size_T hy)).mono ?_
  rintro e w' ⟨rfl, hb⟩
  refine ⟨?_, hb⟩
  have h1 := isN_T hx
  have h2 := isN_T hy
  cases x with
  | none => unfold cmpV cmpE; rw [h1]; rfl
  | some a =>
    cases y with
    | none => unfold cmpV cmpE; rw [h2]; simp; exact ⟨rfl, rfl⟩
    | some b =>
      have ha : val (T (some a)) = a := val_num a
      have hb : val (T (some b)) = b := val_num b
      unfold cmpV cmpE cmpO cmpX
      rw [h1, h2, ha, hb]
      simp

theorem T_zero : T (some 0) = ⟨#[48]⟩ := num_lit [48] 0 (by decide) (by decide)
theorem toL_zero : (T (some 0)).toList = [48] := by rw [T_zero, Lib.toList_data]
theorem toL_zero_iff {n : Nat} (h : Ok (some n)) : (T (some n)).toList = [48] ↔ n = 0 := by
  have h1 := zero_iff (t := num n) (isN_num (h n rfl))
  rw [val_num] at h1
  exact h1
theorem one_lt_Lim : 1 < Lim := by
  have e : num 1 = ⟨#[49]⟩ := num_lit [49] 1 (by decide) (by decide)
  exact (isN_num_iff 1).1 (by rw [e]; decide)
theorem gcd_ltL {a b : Nat} (ha : a < Lim) (hb : b < Lim) : Nat.gcd a b < Lim := by
  rcases Nat.eq_zero_or_pos a with rfl | h
  · rwa [Nat.gcd_zero_left]
  · exact Nat.lt_of_le_of_lt (Nat.gcd_le_left b h) ha
theorem sum_of {a b : Nat} (h : sumE (some a) (some b) = 0) : sumO (some a) (some b) = some (a + b) := by
  by_cases hl : a + b < Lim
  · simp only [sumO, apO, limO, if_pos hl]
  · simp [sumE, apE, hl] at h
theorem mul_of {a b : Nat} (h : mulE (some a) (some b) = 0) : mulO (some a) (some b) = some (a * b) := by
  by_cases hl : a * b < Lim
  · simp only [mulO, apO, limO, if_pos hl]
  · simp [mulE, apE, hl] at h
theorem mul_is {a b : Nat} (h : (mulO (some a) (some b)).isSome = true) : mulO (some a) (some b) = some (a * b) := by
  by_cases hl : a * b < Lim
  · simp only [mulO, apO, limO, if_pos hl]
  · simp [mulO, apO, limO, hl] at h
theorem sum_left {u v : Option Nat} (h : sumE u v = 0) : u.isSome = true := by
  cases u with
  | none => cases h
  | some a => rfl
theorem mul_left {u v : Option Nat} (h : mulE u v = 0) : u.isSome = true := by
  cases u with
  | none => cases h
  | some a => rfl
theorem mul_right {u v : Option Nat} (h : mulE u v = 0) : v.isSome = true := by
  cases v with
  | none => cases u <;> cases h
  | some a => rfl
theorem T_one : T (some 1) = ⟨#[49]⟩ := num_lit [49] 1 (by decide) (by decide)

end Nt
end Go.Proofs.YtmekiidknjjfcaaGreatDoor

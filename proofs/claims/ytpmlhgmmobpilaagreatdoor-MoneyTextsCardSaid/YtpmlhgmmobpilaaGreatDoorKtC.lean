/- Texts that the proof needs: NatO, RatPlain, RatBox, RatSum, RatSums, RatProd, RatQ, RatRun, RatOps, RatOf, RatText, RatWrap, MonWrapA. -/
import Derived.WalkLawsBesides
import Derived.WalkSpells
import Derived.Deep.QuietTactic
import Derived.BigQuiet
import Derived.StillTailTactics
import Derived.Laws.OwnMore
import Derived.Deep.RegionHeld3
import Derived.Deep.DeepCutAuto
import Derived.Lib.IndexMore
import Derived.Shelf.Vars
import Derived.SizedLaws
import Derived.Lib.SmallJoins
import Derived.DataShut
import Derived.Test.YtpmlhgmmobpilaaGreatDoorKtA
import Derived.Test.YtpmlhgmmobpilaaGreatDoorKtB
namespace Go.Proofs.YtpmlhgmmobpilaaGreatDoor
open Go.RowKit Go.Shelf
namespace Nt
/-- The text of a number, or the empty text. -/
def T : Option Nat → ByteArray | some n => num n | none => ⟨#[]⟩
def Ok (x : Option Nat) : Prop := ∀ n, x = some n → n < Lim
def limO (k : Nat) : Option Nat := if k < Lim then some k else none
def apO (f : Nat → Nat → Nat) : Option Nat → Option Nat → Option Nat | some a, some b => limO (f a b) | _, _ => none
def apE (f : Nat → Nat → Nat) : Option Nat → Option Nat → Int | some a, some b => if f a b < Lim then 0 else 2 | _, _ => 1
def sumO (x y : Option Nat) : Option Nat := apO (· + ·) x y
def sumE (x y : Option Nat) : Int := apE (· + ·) x y
def mulO (x y : Option Nat) : Option Nat := apO (· * ·) x y
def mulE (x y : Option Nat) : Int := apE (· * ·) x y
def gcdO (x y : Option Nat) : Option Nat := apO Nat.gcd x y
def gcdE (x y : Option Nat) : Int := apE Nat.gcd x y
def subO : Option Nat → Option Nat → Option Nat | some a, some b => if b ≤ a then some (a - b) else none | _, _ => none
def subX : Option Nat → Option Nat → Int | some a, some b => if b ≤ a then 0 else 10 | _, _ => 1
def quoO : Option Nat → Option Nat → Option Nat | some a, some b => if b = 0 then none else some (a / b) | _, _ => none
def remO : Option Nat → Option Nat → Option Nat | some a, some b => if b = 0 then none else some (a % b) | _, _ => none
def quoX : Option Nat → Option Nat → Int | some _, some b => if b = 0 then 15 else 0 | _, _ => 1
def cmpO : Option Nat → Option Nat → Int | some a, some b => cmpN a b | _, _ => 0
def cmpX : Option Nat → Option Nat → Int | some _, some _ => 0 | _, _ => 1
theorem ok_some {n : Nat} (h : n < Lim) : Ok (some n) := fun _ e => by cases e; exact h
theorem isN_T {x : Option Nat} (h : Ok x) : isN (T x) = x.isSome := by
  cases x with
  | none => rfl
  | some n => exact isN_num (h n rfl)
theorem size_T {x : Option Nat} (h : Ok x) : (T x).size ≤ 140737488355328 := by
  cases x with
  | none => exact Nat.zero_le _
  | some n =>
    have h1 : isN (T (some n)) = true := isN_T h
    have h2 := ((isNL_iff _).1 h1).2.1
    have h3 : (T (some n)).size = (T (some n)).data.toList.length := Lib.size_eq _
    omega
theorem isOk (x : Option Nat) (h : Ok x) (w : World) : Calls Tryz.prog 65 #[.string (T x)] w fun e w' => e = .returned (.bool x.isSome) ∧ Below w.heap.size w w' := by
  have := is_any (T x) w (by have := size_T h; omega)
  rwa [isN_T h] at this
theorem opS_T (f : Nat → Nat → Nat) {x y : Option Nat} (hx : Ok x) (hy : Ok y) : opS (f (val (T x)) (val (T y))) (T x) (T y) = T (apO f x y) ∧ opE (f (val (T x)) (val (T y))) (T x) (T y) = apE f x y := by
  cases x with
  | none => exact op_bad (.inl rfl)
  | some a =>
    cases y with
    | none => exact op_bad (.inr rfl)
    | some b =>
      have h := op_good (k := f (val (T (some a))) (val (T (some b)))) (isN_T hx) (isN_T hy)
      have ha : val (T (some a)) = a := val_num a
      have hb : val (T (some b)) = b := val_num b
      rw [ha, hb] at h ⊢
      rw [h.1, h.2]
      show strL (f a b) = T (limO (f a b)) ∧ errL (f a b) = if f a b < Lim then 0 else 2
      unfold limO strL errL
      by_cases hl : f a b < Lim
      · rw [if_pos hl, if_pos hl, if_pos hl]; exact ⟨rfl, rfl⟩
      · rw [if_neg hl, if_neg hl, if_neg hl]; exact ⟨rfl, rfl⟩
theorem addT (x y : Option Nat) (w : World) (hE : Env w) (hx : Ok x) (hy : Ok y) : Calls Tryz.prog 94 #[.string (T x), .string (T y)] w fun e w' => e = .returned (.tuple #[.string (T (sumO x y)), .int .i64 (sumE x y)]) ∧ Below w.heap.size w w' := by
  refine (Add_any (T x) (T y) w hE (size_T hx) (size_T hy)).mono ?_
  rintro e w' ⟨rfl, hb⟩
  have := opS_T (· + ·) hx hy
  exact ⟨by rw [this.1, this.2]; rfl, hb⟩
theorem mulT (x y : Option Nat) (w : World) (hE : Env w) (hx : Ok x) (hy : Ok y) : Calls Tryz.prog 145 #[.string (T x), .string (T y)] w fun e w' => e = .returned (.tuple #[.string (T (mulO x y)), .int .i64 (mulE x y)]) ∧ Below w.heap.size w w' := by
  refine (Mul_any (T x) (T y) w hE (size_T hx) (size_T hy)).mono ?_
  rintro e w' ⟨rfl, hb⟩
  have := opS_T (· * ·) hx hy
  exact ⟨by rw [this.1, this.2]; rfl, hb⟩
theorem gcdT (x y : Option Nat) (w : World) (hE : Env w) (hx : Ok x) (hy : Ok y) : Calls Tryz.prog 66 #[.string (T x), .string (T y)] w fun e w' => e = .returned (.tuple #[.string (T (gcdO x y)), .int .i64 (gcdE x y)]) ∧ Below w.heap.size w w' := by
  refine (Gcd_any (T x) (T y) w hE (size_T hx) (size_T hy)).mono ?_
  rintro e w' ⟨rfl, hb⟩
  have := opS_T Nat.gcd hx hy
  exact ⟨by rw [this.1, this.2]; rfl, hb⟩
theorem subT (x y : Option Nat) (w : World) (hE : Env w) (hx : Ok x) (hy : Ok y) : Calls Tryz.prog 111 #[.string (T x), .string (T y)] w fun e w' => e = .returned (.tuple #[.string (T (subO x y)), .int .i64 (subX x y)]) ∧ Below w.heap.size w w' := by
  refine (Sub_any (T x) (T y) w hE (size_T hx) (size_T hy)).mono ?_
  rintro e w' ⟨rfl, hb⟩
  refine ⟨?_, hb⟩
  have h1 := isN_T hx
  have h2 := isN_T hy
  cases x with
  | none => unfold subS subE; rw [h1]; rfl
  | some a =>
    cases y with
    | none => unfold subS subE; rw [h2]; simp; exact ⟨rfl, rfl⟩
    | some b =>
      have ha : val (T (some a)) = a := val_num a
      have hb : val (T (some b)) = b := val_num b
      unfold subS subE subO subX
      rw [h1, h2, ha, hb]
      by_cases h : b ≤ a
      · simp [h, T]
      · simp [h, T]
theorem divT (x y : Option Nat) (w : World) (hE : Env w) (hx : Ok x) (hy : Ok y) : Calls Tryz.prog 93 #[.string (T x), .string (T y)] w fun e w' => e = .returned (.tuple #[.string (T (quoO x y)), .string (T (remO x y)), .int .i64 (quoX x y)]) ∧ Below w.heap.size w w' := by
  refine (Div_any (T x) (T y) w hE (size_T hx) (size_T hy)).mono ?_
  rintro e w' ⟨rfl, hb⟩
  refine ⟨?_, hb⟩
  have h1 := isN_T hx
  have h2 := isN_T hy
  cases x with
  | none => unfold divQ divR divE; rw [h1]; rfl
  | some a =>
    cases y with
    | none => unfold divQ divR divE; rw [h2]; simp; exact ⟨rfl, rfl, rfl⟩
    | some b =>
      have ha : val (T (some a)) = a := val_num a
      have hb : val (T (some b)) = b := val_num b
      unfold divQ divR divE quoO remO quoX
      rw [h1, h2, ha, hb]
      by_cases h : b = 0
      · simp [h, T]
      · simp [h, T]
theorem cmpT (x y : Option Nat) (w : World) (hE : Env w) (hx : Ok x) (hy : Ok y) : Calls Tryz.prog 110 #[.string (T x), .string (T y)] w fun e w' => e = .returned (.tuple #[.int .i64 (cmpO x y), .int .i64 (cmpX x y)]) ∧ Below w.heap.size w w' := by
  refine (Compare_any (T x) (T y) w hE (size_T hx) (size_T hy)).mono ?_
  rintro e w' ⟨rfl, hb⟩
  refine ⟨?_, hb⟩
  have h1 := isN_T hx
  have h2 := isN_T hy
  cases x with
  | none => unfold cmpV cmpE; rw [h1]; rfl
  | some a =>
    cases y with
    | none => unfold cmpV cmpE; rw [h2]; simp; exact ⟨rfl, rfl⟩
    | some b =>
      have ha : val (T (some a)) = a := val_num a
      have hb : val (T (some b)) = b := val_num b
      unfold cmpV cmpE cmpO cmpX
      rw [h1, h2, ha, hb]
      simp
theorem T_zero : T (some 0) = ⟨#[48]⟩ := num_lit [48] 0 (by decide) (by decide)
theorem toL_zero : (T (some 0)).toList = [48] := by rw [T_zero, Lib.toList_data]
theorem one_lt_Lim : 1 < Lim := by
  have e : num 1 = ⟨#[49]⟩ := num_lit [49] 1 (by decide) (by decide)
  exact (isN_num_iff 1).1 (by rw [e]; decide)
theorem gcd_ltL {a b : Nat} (ha : a < Lim) (hb : b < Lim) : Nat.gcd a b < Lim := by
  rcases Nat.eq_zero_or_pos a with rfl | h
  · rwa [Nat.gcd_zero_left]
  · exact Nat.lt_of_le_of_lt (Nat.gcd_le_left b h) ha
theorem T_one : T (some 1) = ⟨#[49]⟩ := num_lit [49] 1 (by decide) (by decide)
end Nt
end Go.Proofs.YtpmlhgmmobpilaaGreatDoor

namespace Go.Proofs.YtpmlhgmmobpilaaGreatDoor
open Go.RowKit Go.Shelf
namespace Nt
/-- A number of a sign and a size. -/
def sg (g : Bool) (a : Nat) : Int := if g then -(a : Int) else a
theorem sg_natAbs (g : Bool) (a : Nat) : (sg g a).natAbs = a := by cases g <;> simp [sg]
theorem sg_neg (g : Bool) (a : Nat) : decide (sg g a < 0) = (g && !decide (a = 0)) := by
  rw [Bool.eq_iff_iff]
  cases g
  · simp [sg]
  · simp [sg]; omega
theorem sg_self (z : Int) : sg (decide (z < 0)) z.natAbs = z := by
  unfold sg
  by_cases h : z < 0
  · simp [h]; omega
  · simp [h]; omega
theorem sg_mul (g h : Bool) (a b : Nat) : sg g a * sg h b = sg (g != h) (a * b) := by
  cases g <;> cases h <;> simp [sg, Int.neg_mul, Int.mul_neg]
theorem mk_num (g : Bool) (a b : Nat) (hb : b ≠ 0) : (mkRat (sg g a) b).num = sg g (a / Nat.gcd a b) := by
  rw [Rat.num_mkRat, if_neg hb, sg_natAbs, Nat.gcd_comm]
  cases g
  · simp [sg]
  · simp only [sg, if_true]
    rw [Int.neg_ediv_of_dvd (Int.ofNat_dvd.2 (Nat.gcd_dvd_left a b)), Int.natCast_ediv]
theorem mk_den (g : Bool) (a b : Nat) (hb : b ≠ 0) : (mkRat (sg g a) b).den = b / Nat.gcd a b := by
  rw [Rat.den_mkRat, if_neg hb, sg_natAbs, Nat.gcd_comm]
/-- The value of a rational number. -/
def qv (q : Rat) : Value := .agg #[.bool (decide (q.num < 0)), .string (T (some q.num.natAbs)), .string (T (some q.den))]
def zv : Value := .agg #[.bool false, .string ⟨#[]⟩, .string ⟨#[]⟩]
def OkQ (q : Rat) : Prop := q.num.natAbs < Lim ∧ q.den < Lim
theorem qv_mk (g : Bool) (a b : Nat) (hb : b ≠ 0) : qv (mkRat (sg g a) b) = .agg #[.bool (g && !decide (a / Nat.gcd a b = 0)), .string (T (some (a / Nat.gcd a b))), .string (T (some (b / Nat.gcd a b)))] := by
  unfold qv
  rw [mk_num g a b hb, mk_den g a b hb, sg_neg, sg_natAbs]
/-- Whether three fields are a rational number in lowest terms. -/
def validB (g : Bool) (n d : ByteArray) : Bool :=
  isN n && (isN d && (!decide (val d = 0) && (if val n = 0 then !g && decide (val d = 1) else decide (Nat.gcd (val n) (val d) = 1))))
theorem valid_num (g : Bool) (a b : Nat) (ha : a < Lim) (hb : b < Lim) : validB g (num a) (num b) = (!decide (b = 0) && (if a = 0 then !g && decide (b = 1) else decide (Nat.gcd a b = 1))) := by
  unfold validB
  rw [isN_num ha, isN_num hb, val_num, val_num, Bool.true_and, Bool.true_and]
theorem valid_qv {q : Rat} (h : OkQ q) : validB (decide (q.num < 0)) (T (some q.num.natAbs)) (T (some q.den)) = true := by
  show validB _ (num _) (num _) = true
  rw [valid_num _ _ _ h.1 h.2]
  have hd := q.den_nz
  have hr : Nat.gcd q.num.natAbs q.den = 1 := q.reduced
  by_cases h0 : q.num.natAbs = 0
  · rw [h0, Nat.gcd_zero_left] at hr
    have : ¬ q.num < 0 := by omega
    simp [h0, hr, this]
  · simp [h0, hd, hr]
/-- 10 to the 140. -/
@[irreducible] def mx1 : Nat := 140
theorem mx1_eq : mx1 = 140 := by unfold mx1; rfl
def L1 : Nat := 10 ^ mx1
theorem size_L1 (n : Nat) : (num n).size ≤ 140 ↔ n < L1 := by
  have := decDigits_len_iff n mx1 (by rw [mx1_eq]; omega)
  have e : (num n).size = (Lib.decDigits n).length := by simp [num, ByteArray.size]
  rw [e, ← mx1_eq]
  exact this
theorem L1_pos : 1 ≤ L1 := Nat.pow_pos (by omega)
theorem L1_sq : 2 * (L1 * L1) < Lim := by
  have e : L1 * L1 = 10 ^ (mx1 + mx1) := by unfold L1; rw [Nat.pow_add]
  have h : 10 ^ (mx1 + mx1 + 1) ≤ Lim := by
    unfold Lim
    exact Nat.pow_le_pow_right (by omega) (by rw [mx1_eq, mxd_eq]; omega)
  rw [Nat.pow_succ] at h
  rw [e]
  have h2 : 0 < 10 ^ (mx1 + mx1) := Nat.pow_pos (by omega)
  omega
theorem L1_mul {a b : Nat} (ha : a < L1) (hb : b < L1) : a * b < L1 * L1 := Nat.mul_lt_mul'' ha hb
theorem L1_lim {a : Nat} (h : a < L1) : a < Lim := by
  have h1 := L1_sq
  have h2 := L1_pos
  have h3 : L1 * 1 ≤ L1 * L1 := Nat.mul_le_mul_left _ h2
  omega
/-- A number that is not too long for an operation. -/
def ShortQ (q : Rat) : Prop := q.num.natAbs < L1 ∧ q.den < L1
instance (q : Rat) : Decidable (ShortQ q) := inferInstanceAs (Decidable (_ ∧ _))
theorem ShortQ.ok {q : Rat} (h : ShortQ q) : OkQ q := ⟨L1_lim h.1, L1_lim h.2⟩
/-- The sum of two numbers out of signs and sizes. -/
theorem add_mk (p q : Rat) : mkRat (p.num * q.den + q.num * p.den) (p.den * q.den) = p + q := (Rat.add_def' p q).symm
theorem sum_same {g : Bool} {x y : Nat} {p q : Rat} (hp : g = decide (p.num < 0)) (hq : g = decide (q.num < 0)) (hx : x = p.num.natAbs * q.den) (hy : y = q.num.natAbs * p.den) :
    sg g (x + y) = p.num * q.den + q.num * p.den := by
  rw [← sg_self p.num, ← sg_self q.num, ← hp, ← hq, hx, hy]
  cases g
  · simp [sg]
  · simp only [sg, if_true, Int.natCast_add, Int.natCast_mul, Int.neg_mul]
    omega
theorem sum_less {g h : Bool} {x y : Nat} {p q : Rat} (hp : g = decide (p.num < 0)) (hq : h = decide (q.num < 0)) (hx : x = p.num.natAbs * q.den) (hy : y = q.num.natAbs * p.den) (hne : g ≠ h) (hl : x < y) :
    sg h (y - x) = p.num * q.den + q.num * p.den := by
  rw [← sg_self p.num, ← sg_self q.num, ← hp, ← hq]
  have e1 : (x : Int) = (p.num.natAbs : Int) * (q.den : Int) := by rw [hx, Int.natCast_mul]
  have e2 : (y : Int) = (q.num.natAbs : Int) * (p.den : Int) := by rw [hy, Int.natCast_mul]
  cases g <;> cases h <;> simp only [sg, if_true, Bool.false_eq_true, if_false, Int.neg_mul, ne_eq, not_true_eq_false] at hne ⊢
  all_goals omega
theorem sum_more {g h : Bool} {x y : Nat} {p q : Rat} (hp : g = decide (p.num < 0)) (hq : h = decide (q.num < 0)) (hx : x = p.num.natAbs * q.den) (hy : y = q.num.natAbs * p.den) (hne : g ≠ h) (hl : y ≤ x) :
    sg g (x - y) = p.num * q.den + q.num * p.den := by
  rw [← sg_self p.num, ← sg_self q.num, ← hp, ← hq]
  have e1 : (x : Int) = (p.num.natAbs : Int) * (q.den : Int) := by rw [hx, Int.natCast_mul]
  have e2 : (y : Int) = (q.num.natAbs : Int) * (p.den : Int) := by rw [hy, Int.natCast_mul]
  cases g <;> cases h <;> simp only [sg, if_true, Bool.false_eq_true, if_false, Int.neg_mul, ne_eq, not_true_eq_false] at hne ⊢
  all_goals omega
theorem mul_mk (p q : Rat) : mkRat (sg (decide (p.num < 0) != decide (q.num < 0)) (p.num.natAbs * q.num.natAbs)) (p.den * q.den) = p * q := by
  rw [← sg_mul, sg_self, sg_self, Rat.mul_def']
end Nt
end Go.Proofs.YtpmlhgmmobpilaaGreatDoor

namespace Go.Proofs.YtpmlhgmmobpilaaGreatDoor
open Go.RowKit Go.Shelf
namespace Nt
/-- A block that holds a rational number. -/
def B3 (W : World) (b : Nat) (g : Bool) (n d : ByteArray) : Prop := W.heap[b]? = some (.cells #[.bool g, .string n, .string d] 23 (0, 0))
theorem B3.lt {W : World} {b : Nat} {g : Bool} {n d : ByteArray} (h : B3 W b g n d) : b < W.heap.size := (Array.getElem?_eq_some_iff.1 h).1
theorem B3.facts {W : World} {b : Nat} {g : Bool} {n d : ByteArray} (h : B3 W b g n d) :
    W.cell? ⟨b, 0, none⟩ = some (.bool g) ∧ W.cell? ⟨b, 1, none⟩ = some (.string n) ∧ W.cell? ⟨b, 2, none⟩ = some (.string d) ∧
    W.frozen? ⟨b, 0, none⟩ = false ∧ W.frozen? ⟨b, 1, none⟩ = false ∧ W.frozen? ⟨b, 2, none⟩ = false := by
  unfold B3 at h
  simp [World.cell?, World.frozen?, h]
theorem B3.new (w : World) (g : Bool) (n d : ByteArray) : B3 (w.alloc (.cells #[.bool g, .string n, .string d] 23)) w.heap.size g n d := heap_alloc_new _ _
theorem B3.alloc {W : World} {b : Nat} {g : Bool} {n d : ByteArray} (h : B3 W b g n d) (o : Obj) : B3 (W.alloc o) b g n d := (Below.heap_alloc W o b h.lt).trans h
theorem B3.below {W W' : World} {b : Nat} {g : Bool} {n d : ByteArray} (h : B3 W b g n d) (hb : Below W.heap.size W W') : B3 W' b g n d := (hb.block b h.lt).trans h
theorem B3.other {W : World} {b : Nat} {g : Bool} {n d : ByteArray} (h : B3 W b g n d) {p : Addr} (hp : b ≠ p.block) (v : Value) : B3 (W.setCell p v) b g n d := (Below.heap_setCell _ _ _ _ hp).trans h
theorem B3.set1 {W : World} {b : Nat} {g : Bool} {n d : ByteArray} (h : B3 W b g n d) (n' : ByteArray) : B3 (W.setCell ⟨b, 1, none⟩ (.string n')) b g n' d := by
  unfold B3 at h ⊢
  simp [World.setCell, Array.getElem?_modify, h]
theorem is_one (n : Nat) : ((num n).toList == [49]) = decide (n = 1) := by
  have e : (num 1).toList = [49] := by rw [show num 1 = ⟨#[49]⟩ from T_one, Lib.toList_data]
  rw [← e, Bool.eq_iff_iff, beq_iff_eq, decide_eq_true_iff, Lib.toList_data, Lib.toList_data]
  constructor
  · intro h
    have := congrArg dval h
    have e1 : dval (num n).data.toList = n := dval_decDigits n
    have e2 : dval (num 1).data.toList = 1 := dval_decDigits 1
    rwa [e1, e2] at this
  · intro h; rw [h]
theorem is_zero (n : Nat) : ((num n).toList == [48]) = decide (n = 0) := by
  have e : (num 0).toList = [48] := toL_zero
  rw [← e, Bool.eq_iff_iff, beq_iff_eq, decide_eq_true_iff, Lib.toList_data, Lib.toList_data]
  constructor
  · intro h
    have := congrArg dval h
    have e1 : dval (num n).data.toList = n := dval_decDigits n
    have e2 : dval (num 0).data.toList = 0 := dval_decDigits 0
    rwa [e1, e2] at this
  · intro h; rw [h]
set_option maxRecDepth 100000 in
theorem Valid_bad1 (g : Bool) (n d : ByteArray) (w : World) (hn : n.size ≤ 140737488355328) (h : isN n = false) :
    Calls Tryz.prog 23 #[.agg #[.bool g, .string n, .string d]] w fun e w' => e = .returned (.bool false) ∧ Below w.heap.size w w' := by
  go_enter Tryz.func23, Tryz.ntmps23
  go_wp2_with fail
  refine (is_any n _ (by omega)).mono ?_
  rintro e w1 ⟨rfl, hb1⟩
  rw [h]
  go_wp2
  go_ret
  exact ⟨rfl, ((Below.refl _ w).alloc (Nat.le_refl _) _).trans (hb1.mono (by simp))⟩
set_option maxRecDepth 100000 in
theorem Valid_bad2 (g : Bool) (n d : ByteArray) (w : World) (hn : n.size ≤ 140737488355328) (hd : d.size ≤ 140737488355328) (h : isN n = true) (h' : isN d = false) :
    Calls Tryz.prog 23 #[.agg #[.bool g, .string n, .string d]] w fun e w' => e = .returned (.bool false) ∧ Below w.heap.size w w' := by
  have H := Lib.hid h'
  clear h'
  go_enter Tryz.func23, Tryz.ntmps23
  go_wp2_with fail
  refine (is_any n _ (by omega)).mono ?_
  rintro e w1 ⟨rfl, hb1⟩
  rw [h]
  have q1 := (B3.new w g n d).below hb1
  obtain ⟨a1, a2, a3, a4, a5, a6⟩ := q1.facts
  have hB1 := Lib.hid (((Below.refl _ w).alloc (Nat.le_refl _) _).trans (hb1.mono (by simp)))
  replace q1 := Lib.hid q1
  clear hb1
  go_wp2_with fail
  refine (is_any d _ (by omega)).mono ?_
  rintro e w2 ⟨rfl, hb2⟩
  rw [H.out]
  have hB2 := Lib.hid (hB1.out.trans (hb2.mono hB1.out.size))
  clear hb2 hB1
  go_wp2
  go_ret
  exact ⟨rfl, hB2.out⟩
theorem T_is_one (n : Nat) : ((T (some n)).toList == [49]) = decide (n = 1) := is_one n
theorem T_is_zero (n : Nat) : ((T (some n)).toList == [48]) = decide (n = 0) := is_zero n
set_option maxRecDepth 100000 in
theorem Valid_zden (g : Bool) (a : Nat) (w : World) (ha : a < Lim) :
    Calls Tryz.prog 23 #[.agg #[.bool g, .string (T (some a)), .string (T (some 0))]] w fun e w' => e = .returned (.bool false) ∧ Below w.heap.size w w' := by
  have z := T_is_zero 0
  rw [decide_eq_true rfl] at z
  have h0 : 0 < Lim := by omega
  go_enter Tryz.func23, Tryz.ntmps23
  go_wp2_with fail
  refine (isOk (some a) (ok_some ha) _).mono ?_
  rintro e w1 ⟨rfl, hb1⟩
  rw [Option.isSome_some]
  have q1 := (B3.new w g (T (some a)) (T (some 0))).below hb1
  obtain ⟨a1, a2, a3, a4, a5, a6⟩ := q1.facts
  have hB1 := Lib.hid (((Below.refl _ w).alloc (Nat.le_refl _) _).trans (hb1.mono (by simp)))
  replace q1 := Lib.hid q1
  clear hb1
  go_wp2_with fail
  refine (isOk (some 0) (ok_some h0) _).mono ?_
  rintro e w2 ⟨rfl, hb2⟩
  rw [Option.isSome_some]
  obtain ⟨b1, b2, b3, b4, b5, b6⟩ := (q1.out.below hb2).facts
  have hB2 := Lib.hid (hB1.out.trans (hb2.mono hB1.out.size))
  clear hb2 hB1
  go_wp2
  go_ret
  exact ⟨rfl, hB2.out⟩
set_option maxRecDepth 100000 in
theorem Valid_znum (g : Bool) (b : Nat) (w : World) (hb : b < Lim) (hb0 : b ≠ 0) :
    Calls Tryz.prog 23 #[.agg #[.bool g, .string (T (some 0)), .string (T (some b))]] w fun e w' => e = .returned (.bool (!g && decide (b = 1))) ∧ Below w.heap.size w w' := by
  obtain ⟨r, hr⟩ : ∃ r, r = decide (b = 1) := ⟨_, rfl⟩
  rw [← hr]
  cases g <;> cases r
  all_goals
    have z := T_is_zero 0
    rw [decide_eq_true rfl] at z
    have z2 := T_is_zero b
    rw [decide_eq_false hb0] at z2
    have z3 := T_is_one b
    rw [← hr] at z3
    clear hr
    have h0 : 0 < Lim := by omega
    replace hb0 := Lib.hid hb0
    go_enter Tryz.func23, Tryz.ntmps23
    go_wp2_with fail
    refine (isOk (some 0) (ok_some h0) _).mono ?_
    rintro e w1 ⟨rfl, hb1⟩
    rw [Option.isSome_some]
    have q1 := (B3.new w _ (T (some 0)) (T (some b))).below hb1
    obtain ⟨a1, a2, a3, a4, a5, a6⟩ := q1.facts
    have hB1 := Lib.hid (((Below.refl _ w).alloc (Nat.le_refl _) _).trans (hb1.mono (by simp)))
    replace q1 := Lib.hid q1
    clear hb1
    go_wp2_with fail
    refine (isOk (some b) (ok_some hb) _).mono ?_
    rintro e w2 ⟨rfl, hb2⟩
    rw [Option.isSome_some]
    obtain ⟨b1, b2, b3, b4, b5, b6⟩ := (q1.out.below hb2).facts
    have hB2 := Lib.hid (hB1.out.trans (hb2.mono hB1.out.size))
    clear hb2 hB1
    go_wp2
    go_ret
    exact ⟨rfl, hB2.out⟩
set_option maxRecDepth 100000 in
theorem Valid_gcd (g : Bool) (a b : Nat) (w : World) (hE : Env w) (ha : a < Lim) (hb : b < Lim) (ha0 : a ≠ 0) (hb0 : b ≠ 0) :
    Calls Tryz.prog 23 #[.agg #[.bool g, .string (T (some a)), .string (T (some b))]] w fun e w' => e = .returned (.bool (decide (Nat.gcd a b = 1))) ∧ Below w.heap.size w w' := by
  have z := T_is_zero a
  rw [decide_eq_false ha0] at z
  have z2 := T_is_zero b
  rw [decide_eq_false hb0] at z2
  have z3 := T_is_one (Nat.gcd a b)
  have hG : Hid (gcdO (some a) (some b) = some (Nat.gcd a b) ∧ gcdE (some a) (some b) = 0) := by
    have := gcd_ltL ha hb
    exact ⟨by simp only [gcdO, apO, limO, if_pos this], by simp only [gcdE, apE, if_pos this]⟩
  replace ha0 := Lib.hid ha0
  replace hb0 := Lib.hid hb0
  replace hE := Lib.hid hE
  go_enter Tryz.func23, Tryz.ntmps23
  go_wp2_with fail
  refine (isOk (some a) (ok_some ha) _).mono ?_
  rintro e w1 ⟨rfl, hb1⟩
  rw [Option.isSome_some]
  have q1 := (B3.new w g (T (some a)) (T (some b))).below hb1
  obtain ⟨a1, a2, a3, a4, a5, a6⟩ := q1.facts
  have hB1 := Lib.hid (((Below.refl _ w).alloc (Nat.le_refl _) _).trans (hb1.mono (by simp)))
  replace q1 := Lib.hid q1
  clear hb1
  go_wp2_with fail
  refine (isOk (some b) (ok_some hb) _).mono ?_
  rintro e w2 ⟨rfl, hb2⟩
  rw [Option.isSome_some]
  obtain ⟨b1, b2, b3, b4, b5, b6⟩ := (q1.out.below hb2).facts
  have hB2 := Lib.hid (hB1.out.trans (hb2.mono hB1.out.size))
  clear hb2 hB1 q1
  go_wp2_with fail
  refine (gcdT (some a) (some b) _ (hE.out.below hB2.out) (ok_some ha) (ok_some hb)).mono ?_
  rintro e w3 ⟨rfl, hb3⟩
  rw [hG.out.1, hG.out.2]
  have hB3 := Lib.hid (hB2.out.trans (hb3.mono hB2.out.size))
  clear hb3 hB2
  go_wp2
  go_ret
  exact ⟨rfl, hB3.out⟩
theorem Valid_any (g : Bool) (n d : ByteArray) (w : World) (hE : Env w) (hn : n.size ≤ 140737488355328) (hd : d.size ≤ 140737488355328) :
    Calls Tryz.prog 23 #[.agg #[.bool g, .string n, .string d]] w fun e w' => e = .returned (.bool (validB g n d)) ∧ Below w.heap.size w w' := by
  cases h1 : isN n with
  | false =>
    have e : validB g n d = false := by unfold validB; rw [h1]; rfl
    rw [e]
    exact Valid_bad1 g n d w hn h1
  | true =>
    cases h2 : isN d with
    | false =>
      have e : validB g n d = false := by unfold validB; rw [h1, h2]; rfl
      rw [e]
      exact Valid_bad2 g n d w hn hd h1 h2
    | true =>
      obtain ⟨a, ha, rfl⟩ := num_of_isN h1
      obtain ⟨b, hb, rfl⟩ := num_of_isN h2
      rw [valid_num g a b ha hb]
      by_cases hb0 : b = 0
      · subst hb0
        simp only [decide_true, Bool.not_true, Bool.false_and]
        exact Valid_zden g a w ha
      · rw [decide_eq_false hb0, Bool.not_false, Bool.true_and]
        by_cases ha0 : a = 0
        · rw [if_pos ha0]
          subst ha0
          exact Valid_znum g b w hb hb0
        · rw [if_neg ha0]
          exact Valid_gcd g a b w hE ha hb ha0 hb0
set_option maxRecDepth 100000 in
set_option maxHeartbeats 1000000 in
theorem lowest_any (g : Bool) (a b : Nat) (w : World) (hE : Env w) (ha : a < Lim) (hb : b < Lim) (hb0 : b ≠ 0) :
    Calls Tryz.prog 97 #[.bool g, .string (T (some a)), .string (T (some b))] w fun e w' => e = .returned (.tuple #[qv (mkRat (sg g a) b), .int .i64 0]) ∧ Below w.heap.size w w' := by
  have HV := Lib.hid (qv_mk g a b hb0)
  obtain ⟨G, hGd⟩ : ∃ G, G = Nat.gcd a b := ⟨_, rfl⟩
  have hGl : G < Lim := by rw [hGd]; exact gcd_ltL ha hb
  have hG0 : G ≠ 0 := by rw [hGd]; exact Nat.ne_of_gt (Nat.gcd_pos_of_pos_right a (by omega))
  have hG : Hid (gcdO (some a) (some b) = some G ∧ gcdE (some a) (some b) = 0) := by
    have := gcd_ltL ha hb
    rw [hGd]
    exact ⟨by simp only [gcdO, apO, limO, if_pos this], by simp only [gcdE, apE, if_pos this]⟩
  have hD1 : Hid (quoO (some a) (some G) = some (a / G) ∧ quoX (some a) (some G) = 0) := ⟨if_neg hG0, if_neg hG0⟩
  have hD2 : Hid (quoO (some b) (some G) = some (b / G) ∧ quoX (some b) (some G) = 0) := ⟨if_neg hG0, if_neg hG0⟩
  rw [← hGd] at HV
  have z := T_is_zero (a / G)
  generalize hx : a / G = x at HV hD1 z
  generalize hy : b / G = y at HV hD2
  replace hE := Lib.hid hE
  clear hGd hG0 hx hy hb0
  have key : (g = false) ∨ (g = true ∧ x = 0) ∨ (g = true ∧ x ≠ 0) := by cases g <;> simp <;> omega
  rcases key with rfl | ⟨rfl, hx0⟩ | ⟨rfl, hx0⟩
  rotate_left
  · rw [decide_eq_true hx0] at HV z
    replace hx0 := Lib.hid hx0
    go_enter Tryz.func97, Tryz.ntmps97
    go_wp2_with fail
    refine (gcdT (some a) (some b) _ (hE.out.below ((Below.refl _ w).alloc (Nat.le_refl _) _)) (ok_some ha) (ok_some hb)).mono ?_
    rintro e w1 ⟨rfl, hb1⟩
    rw [hG.out.1, hG.out.2]
    have q1 := (B3.new w false ⟨#[]⟩ ⟨#[]⟩).below hb1
    have hB1 := Lib.hid (((Below.refl _ w).alloc (Nat.le_refl _) _).trans (hb1.mono (by simp)))
    have hl1 := q1.lt
    replace q1 := Lib.hid q1
    clear hb1
    go_wp2_with fail
    refine (divT (some a) (some G) _ (hE.out.below (hB1.out.alloc hB1.out.size _)) (ok_some ha) (ok_some hGl)).mono ?_
    rintro e w2 ⟨rfl, hb2⟩
    rw [hD1.out.1, hD1.out.2]
    have q2 := (q1.out.alloc _).below hb2
    have r2 := (B3.new w1 true ⟨#[]⟩ ⟨#[]⟩).below hb2
    have hB2 := Lib.hid ((hB1.out.alloc hB1.out.size _).trans (hb2.mono (by have := hB1.out.size; simp; omega)))
    obtain ⟨c1, c2, c3, c4, c5, c6⟩ := r2.facts
    have hl2 := r2.lt
    replace q2 := Lib.hid q2
    replace r2 := Lib.hid r2
    clear hb2 q1
    go_wp2_with fail
    refine (divT (some b) (some G) _ (hE.out.below (hB2.out.setCell (by have := hB1.out.size; simpa using this) _)) (ok_some hb) (ok_some hGl)).mono ?_
    rintro e w3 ⟨rfl, hb3⟩
    rw [hD2.out.1, hD2.out.2]
    have q3 := (q2.out.other (p := ⟨w1.heap.size, 1, none⟩) (by simp; omega) _).below hb3
    have r3 := (r2.out.set1 (T (some x))).below hb3
    have hB3 := Lib.hid ((hB2.out.setCell (p := ⟨w1.heap.size, 1, none⟩) (by have := hB1.out.size; simpa using this) _).trans (hb3.mono (by have := hB2.out.size; simpa using this)))
    have hsz1 := hB1.out.size
    obtain ⟨d1, d2, d3, d4, d5, d6⟩ := q3.facts
    obtain ⟨e1, e2, e3, e4, e5, e6⟩ := r3.facts
    have hl3 := r3.lt
    clear hb3 q2 r2 c1 c2 c3 c4 c5 c6
    replace q3 := Lib.hid q3
    replace r3 := Lib.hid r3
    go_wp2
    refine bodyPost_ret (v := .tuple #[.agg #[.bool false, .string (T (some x)), .string (T (some y))], .int .i64 0]) (by simp [results, Tryz.results97, go_sem, d1, d2, d3]) rfl ⟨by rw [HV.out]; rfl, ?_⟩
    repeat refine Below.setCell ?_ (by first | exact Nat.le_refl _ | exact hsz1) _
    exact hB3.out
  · rw [decide_eq_false hx0] at HV z
    replace hx0 := Lib.hid hx0
    go_enter Tryz.func97, Tryz.ntmps97
    go_wp2_with fail
    refine (gcdT (some a) (some b) _ (hE.out.below ((Below.refl _ w).alloc (Nat.le_refl _) _)) (ok_some ha) (ok_some hb)).mono ?_
    rintro e w1 ⟨rfl, hb1⟩
    rw [hG.out.1, hG.out.2]
    have q1 := (B3.new w false ⟨#[]⟩ ⟨#[]⟩).below hb1
    have hB1 := Lib.hid (((Below.refl _ w).alloc (Nat.le_refl _) _).trans (hb1.mono (by simp)))
    have hl1 := q1.lt
    replace q1 := Lib.hid q1
    clear hb1
    go_wp2_with fail
    refine (divT (some a) (some G) _ (hE.out.below (hB1.out.alloc hB1.out.size _)) (ok_some ha) (ok_some hGl)).mono ?_
    rintro e w2 ⟨rfl, hb2⟩
    rw [hD1.out.1, hD1.out.2]
    have q2 := (q1.out.alloc _).below hb2
    have r2 := (B3.new w1 true ⟨#[]⟩ ⟨#[]⟩).below hb2
    have hB2 := Lib.hid ((hB1.out.alloc hB1.out.size _).trans (hb2.mono (by have := hB1.out.size; simp; omega)))
    obtain ⟨c1, c2, c3, c4, c5, c6⟩ := r2.facts
    have hl2 := r2.lt
    replace q2 := Lib.hid q2
    replace r2 := Lib.hid r2
    clear hb2 q1
    go_wp2_with fail
    refine (divT (some b) (some G) _ (hE.out.below (hB2.out.setCell (by have := hB1.out.size; simpa using this) _)) (ok_some hb) (ok_some hGl)).mono ?_
    rintro e w3 ⟨rfl, hb3⟩
    rw [hD2.out.1, hD2.out.2]
    have q3 := (q2.out.other (p := ⟨w1.heap.size, 1, none⟩) (by simp; omega) _).below hb3
    have r3 := (r2.out.set1 (T (some x))).below hb3
    have hB3 := Lib.hid ((hB2.out.setCell (p := ⟨w1.heap.size, 1, none⟩) (by have := hB1.out.size; simpa using this) _).trans (hb3.mono (by have := hB2.out.size; simpa using this)))
    have hsz1 := hB1.out.size
    obtain ⟨d1, d2, d3, d4, d5, d6⟩ := q3.facts
    obtain ⟨e1, e2, e3, e4, e5, e6⟩ := r3.facts
    have hl3 := r3.lt
    clear hb3 q2 r2 c1 c2 c3 c4 c5 c6
    replace q3 := Lib.hid q3
    replace r3 := Lib.hid r3
    go_wp2
    refine bodyPost_ret (v := .tuple #[.agg #[.bool true, .string (T (some x)), .string (T (some y))], .int .i64 0]) (by simp [results, Tryz.results97, go_sem, d1, d2, d3]) rfl ⟨by rw [HV.out]; rfl, ?_⟩
    repeat refine Below.setCell ?_ (by first | exact Nat.le_refl _ | exact hsz1) _
    exact hB3.out
  · go_enter Tryz.func97, Tryz.ntmps97
    go_wp2_with fail
    refine (gcdT (some a) (some b) _ (hE.out.below ((Below.refl _ w).alloc (Nat.le_refl _) _)) (ok_some ha) (ok_some hb)).mono ?_
    rintro e w1 ⟨rfl, hb1⟩
    rw [hG.out.1, hG.out.2]
    have q1 := (B3.new w false ⟨#[]⟩ ⟨#[]⟩).below hb1
    have hB1 := Lib.hid (((Below.refl _ w).alloc (Nat.le_refl _) _).trans (hb1.mono (by simp)))
    have hl1 := q1.lt
    replace q1 := Lib.hid q1
    clear hb1
    go_wp2_with fail
    refine (divT (some a) (some G) _ (hE.out.below (hB1.out.alloc hB1.out.size _)) (ok_some ha) (ok_some hGl)).mono ?_
    rintro e w2 ⟨rfl, hb2⟩
    rw [hD1.out.1, hD1.out.2]
    have q2 := (q1.out.alloc _).below hb2
    have r2 := (B3.new w1 false ⟨#[]⟩ ⟨#[]⟩).below hb2
    have hB2 := Lib.hid ((hB1.out.alloc hB1.out.size _).trans (hb2.mono (by have := hB1.out.size; simp; omega)))
    obtain ⟨c1, c2, c3, c4, c5, c6⟩ := r2.facts
    have hl2 := r2.lt
    replace q2 := Lib.hid q2
    replace r2 := Lib.hid r2
    clear hb2 q1
    go_wp2_with fail
    refine (divT (some b) (some G) _ (hE.out.below (hB2.out.setCell (by have := hB1.out.size; simpa using this) _)) (ok_some hb) (ok_some hGl)).mono ?_
    rintro e w3 ⟨rfl, hb3⟩
    rw [hD2.out.1, hD2.out.2]
    have q3 := (q2.out.other (p := ⟨w1.heap.size, 1, none⟩) (by simp; omega) _).below hb3
    have r3 := (r2.out.set1 (T (some x))).below hb3
    have hB3 := Lib.hid ((hB2.out.setCell (p := ⟨w1.heap.size, 1, none⟩) (by have := hB1.out.size; simpa using this) _).trans (hb3.mono (by have := hB2.out.size; simpa using this)))
    have hsz1 := hB1.out.size
    obtain ⟨d1, d2, d3, d4, d5, d6⟩ := q3.facts
    obtain ⟨e1, e2, e3, e4, e5, e6⟩ := r3.facts
    have hl3 := r3.lt
    clear hb3 q2 r2 c1 c2 c3 c4 c5 c6
    replace q3 := Lib.hid q3
    replace r3 := Lib.hid r3
    go_wp2
    refine bodyPost_ret (v := .tuple #[.agg #[.bool false, .string (T (some x)), .string (T (some y))], .int .i64 0]) (by simp [results, Tryz.results97, go_sem, d1, d2, d3]) rfl ⟨by rw [HV.out]; rfl, ?_⟩
    repeat refine Below.setCell ?_ (by first | exact Nat.le_refl _ | exact hsz1) _
    exact hB3.out
end Nt
end Go.Proofs.YtpmlhgmmobpilaaGreatDoor

namespace Go.Proofs.YtpmlhgmmobpilaaGreatDoor
open Go.RowKit Go.Shelf
namespace Nt
theorem infoS : (Tryz.prog.info? 9).map (fun i => (i.zero, i.size, i.bytes)) = some (some (.string ⟨#[]⟩), 1, 16) := by kernel_rfl
/-- The cells of texts of numbers. -/
def tvals (ks : List Nat) : List Value := ks.map fun k => Value.string (T (some k))
/-- A slice of texts of numbers. -/
def TextsAt (W : World) (v : Value) (ks : List Nat) : Prop := ∃ g cap, v = .slice (some ⟨g, 0, none⟩) ks.length cap ∧ g < W.heap.size ∧ ∀ i (h : i < ks.length), W.cell? ⟨g, i, none⟩ = some (.string (T (some ks[i])))
theorem tvals_snoc (ks : List Nat) (k : Nat) : tvals ks ++ [Value.string (T (some k))] = tvals (ks ++ [k]) := by simp [tvals]
theorem tvals_at {B : Nat} {W : World} {v : Value} {ks : List Nat} (h : W.ownsRow B 9 1 v ks.length (tvals ks)) (h0 : ks ≠ []) : TextsAt W v ks := by
  rcases id h.2 with ⟨rfl, hx⟩ | ⟨g, cap, cur, rfl, hg, hh, hn, hcm, hcs, ht⟩
  · exact absurd (List.length_eq_zero_iff.1 hx) h0
  · refine ⟨g, cap, rfl, (Array.getElem?_eq_some_iff.1 hh).1, fun i hi => ?_⟩
    rw [World.ownsRow.cellAt h i (by omega)]
    simp [tvals, hi]
/-- The pairs of an argument's memory. -/
def PairsAt (W : World) (b : Nat) (ps : List (Nat × Nat)) : Prop := ∀ i (h : i < ps.length), W.cell? ⟨b, i * 2, none⟩ = some (.string (T (some ps[i].1))) ∧ W.cell? ⟨b, i * 2 + 1, none⟩ = some (.string (T (some ps[i].2)))
def prods (ps : List (Nat × Nat)) : List Nat := ps.map fun p => p.1 * p.2
def PrRel (w : World) (ps : List (Nat × Nat)) (k : Nat) (v : Value) (wr : World) : Prop :=
  wr.ownsRow w.heap.size 9 1 v (prods (ps.take k)).length (tvals (prods (ps.take k))) ∧ Below w.heap.size w wr
theorem ownsRow_belowH {B : Nat} {e : TypeId} {size : Nat} {w w' : World} {v : Value} {n : Nat} {xs : List Value} (h : w.ownsRow B e size v n xs) (hb : Below w.heap.size w w') : w'.ownsRow B e size v n xs := by
  obtain ⟨h1, h2⟩ := h
  refine ⟨h1, ?_⟩
  rcases h2 with h2 | ⟨g, cap, cur, hv, hg, hh, r⟩
  · exact Or.inl h2
  · exact Or.inr ⟨g, cap, cur, hv, hg, by rw [hb.block g (Array.getElem?_eq_some_iff.1 hh).1]; exact hh, r⟩
theorem one_cell_s (s : ByteArray) : ∀ u ∈ [Value.string s], u.oneCell' = true := by
  intro u hu; simp at hu; subst hu; rfl
set_option maxRecDepth 100000 in
set_option maxHeartbeats 2000000 in
theorem products_any (w : World) (hE : Env w) (b cap : Nat) (ps : List (Nat × Nat)) (hb : b < w.heap.size) (hl : ps.length ≤ 100) (hp : PairsAt w b ps) (hs : ∀ p ∈ ps, p.1 < Lim ∧ p.2 < Lim ∧ p.1 * p.2 < Lim) :
    Calls Tryz.prog 109 #[.slice (some ⟨b, 0, none⟩) ps.length cap] w fun e w' => (∃ v, e = .returned v ∧ w'.ownsRow w.heap.size 9 1 v (prods ps).length (tvals (prods ps))) ∧ Below w.heap.size w w' := by
  obtain ⟨i0, hi, hz0, hz1, hz2⟩ := info_parts infoS
  have HP := Lib.hid hp
  have HS := Lib.hid hs
  replace hE := Lib.hid hE
  clear hp hs
  go_enter Tryz.func109, Tryz.ntmps109
  go_wp2
  go_loopw [3, 10] (fun v i wr => ∃ k : Nat, k ≤ ps.length ∧ i = .int .i64 (k : Int) ∧ PrRel w ps k v wr) (fun _ i _ => ps.length - (intOf i).toNat)
  case atStart => exact ⟨0, Nat.zero_le _, rfl, World.ownsRow_nil _ _ _ _, Below.refl _ _⟩
  case round =>
    obtain ⟨k, hk, rfl, z1, z2⟩ := hrel
    have hsz := z2.size
    by_cases hlt : k < ps.length
    · obtain ⟨x, hx⟩ : ∃ x, x = ps[k].1 := ⟨_, rfl⟩
      obtain ⟨y, hy⟩ : ∃ y, y = ps[k].2 := ⟨_, rfl⟩
      obtain ⟨hp1, hp2⟩ := HP.out k hlt
      obtain ⟨s1, s2, s3⟩ := HS.out _ (List.getElem_mem hlt)
      rw [← hx] at hp1 s1 s3
      rw [← hy] at hp2 s2 s3
      have c1 := (z2.cell (p := ⟨b, k * 2, none⟩) hb).trans hp1
      have c2 := (z2.cell (p := ⟨b, k * 2 + 1, none⟩) hb).trans hp2
      have hM : Hid (mulO (some x) (some y) = some (x * y) ∧ mulE (some x) (some y) = 0) := ⟨by simp only [mulO, apO, limO, if_pos s3], by simp only [mulE, apE, if_pos s3]⟩
      have hN : Hid (prods (ps.take (k + 1)) = prods (ps.take k) ++ [x * y]) := by
        unfold Hid prods
        rw [List.take_succ_eq_append_getElem hlt, List.map_append, hx, hy]
        rfl
      have hL : Hid ((prods (ps.take k)).length = k) := by unfold Hid prods; simp; omega
      replace z1 := Lib.hid z1
      replace z2 := Lib.hid z2
      clear hp1 hp2 hx hy
      go_wp2_with fail
      refine (mulT (some x) (some y) _ (hE.out.below (z2.out.alloc hsz _)) (ok_some s1) (ok_some s2)).mono ?_
      rintro e w1 ⟨rfl, hb1⟩
      rw [hM.out.1, hM.out.2]
      have hB1 := Lib.hid ((z2.out.alloc hsz _).trans (hb1.mono (by simp; omega)))
      have ho : Hid (w1.ownsRow w.heap.size 9 1 u3 (prods (ps.take k)).length (tvals (prods (ps.take k)))) := ownsRow_belowH (z1.out.alloc _) hb1
      have hsz1 := hB1.out.size
      clear hb1 z1 z2
      go_wp2_with (at_builtin; refine wpList_append_own _ rfl _ _ 51 rfl w.heap.size 9 i0 (.string ⟨#[]⟩) 1 16 Tryz.underlying51 hi hz0 hz1 hz2 rfl (by decide) u3 (prods (ps.take k)).length (tvals (prods (ps.take k))) rfl (ho.out.alloc _) ⟨w1.heap.size, 0, none⟩ 1 1 [.string (T (some (x * y)))] rfl rfl (one_new _ _ _) (one_cell_s _) (by have := hL.out; unfold maxLen; omega) (by have := hL.out; omega) (by simp; omega) ?_; intro v2 w2 hown2 hgr2 _)
      refine ⟨⟨k + 1, by omega, by go_num, ?_, (hB1.out.alloc (by omega) _).grown hgr2 (by simp; omega) (fun b e => (ho.out.lt b e).1)⟩, by simp only [intOf]; omega⟩
      rw [hN.out, ← tvals_snoc, List.length_append]
      exact hown2
    · obtain rfl : k = ps.length := by omega
      have e : ps.take ps.length = ps := List.take_of_length_le (Nat.le_refl _)
      rw [e] at z1
      replace z1 := Lib.hid z1
      replace z2 := Lib.hid z2
      clear e
      go_wp2
      go_ret
      exact ⟨⟨_, rfl, z1.out⟩, z2.out⟩
end Nt
end Go.Proofs.YtpmlhgmmobpilaaGreatDoor

namespace Go.Proofs.YtpmlhgmmobpilaaGreatDoor
open Go.RowKit Go.Shelf
namespace Nt
theorem blw_drewN {B : Nat} {a w : World} (h : Below B a w) (n : Nat) : Below B a (w.drewN n) := ⟨h.os, h.tape, h.output, h.size, h.block⟩
/-- The blocks that sum lays ahead of its products. -/
def SumBoxes (W : World) (B : Nat) (g1 g2 : Bool) (a b c d : Nat) : Prop :=
  B3 W B g1 (T (some a)) (T (some b)) ∧ B3 W (B + 1) g2 (T (some c)) (T (some d)) ∧ B3 W (B + 1 + 1) false ⟨#[]⟩ ⟨#[]⟩
abbrev sumW (w : World) (g1 g2 : Bool) (a b c d : Nat) : World :=
  ((w.alloc (.cells #[.bool g1, .string (T (some a)), .string (T (some b))] 23)).alloc (.cells #[.bool g2, .string (T (some c)), .string (T (some d))] 23)).alloc (.cells #[.bool false, .string ⟨#[]⟩, .string ⟨#[]⟩] 23)
theorem SumBoxes.new (w : World) (g1 g2 : Bool) (a b c d : Nat) : SumBoxes (sumW w g1 g2 a b c d) w.heap.size g1 g2 a b c d := by
  have e1 : (w.alloc (.cells #[.bool g1, .string (T (some a)), .string (T (some b))] 23)).heap.size = w.heap.size + 1 := by simp
  have e2 : ((w.alloc (.cells #[.bool g1, .string (T (some a)), .string (T (some b))] 23)).alloc (.cells #[.bool g2, .string (T (some c)), .string (T (some d))] 23)).heap.size = w.heap.size + 1 + 1 := by simp
  refine ⟨((B3.new w _ _ _).alloc _).alloc _, ?_, ?_⟩
  · have h := B3.new (w.alloc (.cells #[.bool g1, .string (T (some a)), .string (T (some b))] 23)) g2 (T (some c)) (T (some d))
    rw [e1] at h
    exact h.alloc _
  · have h := B3.new ((w.alloc (.cells #[.bool g1, .string (T (some a)), .string (T (some b))] 23)).alloc (.cells #[.bool g2, .string (T (some c)), .string (T (some d))] 23)) false ⟨#[]⟩ ⟨#[]⟩
    rw [e2] at h
    exact h
theorem sumW_below (w : World) (g1 g2 : Bool) (a b c d : Nat) : Below w.heap.size w (sumW w g1 g2 a b c d) :=
  (((Below.refl _ w).alloc (Nat.le_refl _) _).alloc (by simp) _).alloc (by simp; omega) _
theorem SumBoxes.alloc {W : World} {B : Nat} {g1 g2 : Bool} {a b c d : Nat} (h : SumBoxes W B g1 g2 a b c d) (o : Obj) : SumBoxes (W.alloc o) B g1 g2 a b c d := ⟨h.1.alloc o, h.2.1.alloc o, h.2.2.alloc o⟩
theorem SumBoxes.below {W W' : World} {B : Nat} {g1 g2 : Bool} {a b c d : Nat} (h : SumBoxes W B g1 g2 a b c d) (hb : Below W.heap.size W W') : SumBoxes W' B g1 g2 a b c d := ⟨h.1.below hb, h.2.1.below hb, h.2.2.below hb⟩
theorem texts3 {W : World} {v : Value} {x y z : Nat} (h : TextsAt W v [x, y, z]) : ∃ g cap, v = .slice (some ⟨g, 0, none⟩) 3 cap ∧ W.cell? ⟨g, 0, none⟩ = some (.string (T (some x))) ∧ W.cell? ⟨g, 1, none⟩ = some (.string (T (some y))) ∧ W.cell? ⟨g, 2, none⟩ = some (.string (T (some z))) := by
  obtain ⟨g, cap, rfl, hg, hc⟩ := h
  exact ⟨g, cap, rfl, hc 0 (by simp), hc 1 (by simp), hc 2 (by simp)⟩
theorem texts2 {W : World} {v : Value} {x y : Nat} (h : TextsAt W v [x, y]) : ∃ g cap, v = .slice (some ⟨g, 0, none⟩) 2 cap ∧ g < W.heap.size ∧ W.cell? ⟨g, 0, none⟩ = some (.string (T (some x))) ∧ W.cell? ⟨g, 1, none⟩ = some (.string (T (some y))) := by
  obtain ⟨g, cap, rfl, hg, hc⟩ := h
  exact ⟨g, cap, rfl, hg, hc 0 (by simp), hc 1 (by simp)⟩
/-- The memory of the pairs. -/
theorem pairs3 (W : World) (x1 y1 x2 y2 x3 y3 : Nat) :
    PairsAt (W.alloc (.cells #[.string (T (some x1)), .string (T (some y1)), .string (T (some x2)), .string (T (some y2)), .string (T (some x3)), .string (T (some y3))] 126)) W.heap.size [(x1, y1), (x2, y2), (x3, y3)] := by
  intro i hi
  have h := heap_alloc_new W (.cells #[.string (T (some x1)), .string (T (some y1)), .string (T (some x2)), .string (T (some y2)), .string (T (some x3)), .string (T (some y3))] 126)
  match i, hi with
  | 0, _ => simp only [World.cell?, h]; exact ⟨rfl, rfl⟩
  | 1, _ => simp only [World.cell?, h]; exact ⟨rfl, rfl⟩
  | 2, _ => simp only [World.cell?, h]; exact ⟨rfl, rfl⟩
  | n + 3, hi => simp at hi; omega
theorem pairs2 (W : World) (x1 y1 x2 y2 : Nat) :
    PairsAt (W.alloc (.cells #[.string (T (some x1)), .string (T (some y1)), .string (T (some x2)), .string (T (some y2))] 126)) W.heap.size [(x1, y1), (x2, y2)] := by
  intro i hi
  have h := heap_alloc_new W (.cells #[.string (T (some x1)), .string (T (some y1)), .string (T (some x2)), .string (T (some y2))] 126)
  match i, hi with
  | 0, _ => simp only [World.cell?, h]; exact ⟨rfl, rfl⟩
  | 1, _ => simp only [World.cell?, h]; exact ⟨rfl, rfl⟩
  | n + 2, hi => simp at hi; omega
set_option maxRecDepth 100000 in
set_option maxHeartbeats 2000000 in
theorem sumw_same (g1 : Bool) (a b c d : Nat) (w : World) (hE : Env w) (ha : a < L1) (hb : b < L1) (hc : c < L1) (hd : d < L1) (hb0 : b ≠ 0) (hd0 : d ≠ 0)  :
    Calls Tryz.prog 58 #[.agg #[.bool g1, .string (T (some a)), .string (T (some b))], .agg #[.bool g1, .string (T (some c)), .string (T (some d))]] w fun e w' => e = .returned (.tuple #[qv (mkRat (sg g1 (a * d + c * b)) (b * d)), .int .i64 0]) ∧ Below w.heap.size w w' := by
  have hbd : b * d ≠ 0 := Nat.mul_ne_zero hb0 hd0
  have HS := Lib.hid (And.intro (L1_mul ha hd) (And.intro (L1_mul hc hb) (And.intro (L1_mul hb hd) L1_sq)))
  have HP : Hid (∀ p ∈ [(a, d), (c, b), (b, d)], p.1 < Lim ∧ p.2 < Lim ∧ p.1 * p.2 < Lim) := by
    have := HS.out
    intro p hp
    simp only [List.mem_cons, List.not_mem_nil, or_false] at hp
    rcases hp with rfl | rfl | rfl
    · exact ⟨L1_lim ha, L1_lim hd, by show a * d < Lim; omega⟩
    · exact ⟨L1_lim hc, L1_lim hb, by show c * b < Lim; omega⟩
    · exact ⟨L1_lim hb, L1_lim hd, by show b * d < Lim; omega⟩
  have hPR : Hid (PairsAt ((sumW w g1 g1 a b c d).alloc (.cells #[.string (T (some a)), .string (T (some d)), .string (T (some c)), .string (T (some b)), .string (T (some b)), .string (T (some d))] 126)) (w.heap.size + 1 + 1 + 1) [(a, d), (c, b), (b, d)]) := by
    have := pairs3 (sumW w g1 g1 a b c d) a d c b b d
    rwa [show (sumW w g1 g1 a b c d).heap.size = w.heap.size + 1 + 1 + 1 by simp] at this
  have hBE : Hid (Below w.heap.size w ((sumW w g1 g1 a b c d).alloc (.cells #[.string (T (some a)), .string (T (some d)), .string (T (some c)), .string (T (some b)), .string (T (some b)), .string (T (some d))] 126))) := (sumW_below w g1 g1 a b c d).alloc (sumW_below w g1 g1 a b c d).size _
  have hQE : Hid (SumBoxes ((sumW w g1 g1 a b c d).alloc (.cells #[.string (T (some a)), .string (T (some d)), .string (T (some c)), .string (T (some b)), .string (T (some b)), .string (T (some d))] 126)) w.heap.size g1 g1 a b c d) := (SumBoxes.new w g1 g1 a b c d).alloc _
  replace hE := Lib.hid hE
  replace hbd := Lib.hid hbd
  clear ha hb hc hd hb0 hd0
  have hA : Hid (sumO (some (a * d)) (some (c * b)) = some (a * d + c * b) ∧ sumE (some (a * d)) (some (c * b)) = 0) := by
    have := HS.out
    have h : a * d + c * b < Lim := by omega
    exact ⟨by simp only [sumO, apO, limO, if_pos h], by simp only [sumE, apE, if_pos h]⟩
  go_enter Tryz.func58, Tryz.ntmps58
  go_wp2_with fail
  refine (products_any _ (hE.out.below hBE.out) (w.heap.size + 1 + 1 + 1) 3 [(a, d), (c, b), (b, d)] (by simp) (by simp) hPR.out HP.out).mono ?_
  rintro e w1 ⟨⟨v, rfl, ho⟩, hb1⟩
  have hat : TextsAt w1 v [a * d, c * b, b * d] := tvals_at ho (by simp)
  obtain ⟨lg, lcap, rfl, l0, l1, l2⟩ := texts3 hat
  have q1 := hQE.out.below hb1
  have hB1 := Lib.hid (hBE.out.trans (hb1.mono hBE.out.size))
  obtain ⟨a1, a2, a3, a4, a5, a6⟩ := q1.1.facts
  obtain ⟨b1, b2, b3, b4, b5, b6⟩ := q1.2.1.facts
  obtain ⟨c1, c2, c3, c4, c5, c6⟩ := q1.2.2.facts
  have hz1 := q1.2.2.lt
  replace q1 := Lib.hid q1
  clear hb1 hat ho
  go_wp2_with fail
  show Code.wp _ _ _ _ _
  go_quiet (fail)
  obtain ⟨W, hW⟩ : ∃ W, W = w1.drewN nq := ⟨_, rfl⟩
  have qW : Hid (SumBoxes W w.heap.size g1 g1 a b c d) := by rw [hW]; exact q1.out
  have hBW : Hid (Below w.heap.size w W) := by rw [hW]; exact blw_drewN hB1.out nq
  rw [← hW]
  clear a1 a2 a3 a4 a5 a6 b1 b2 b3 b4 b5 b6 c1 c2 c3 c4 c5 c6 hz1 l0 l1 l2 hW q1 hB1
  obtain ⟨a1, a2, a3, a4, a5, a6⟩ := qW.out.1.facts
  obtain ⟨b1, b2, b3, b4, b5, b6⟩ := qW.out.2.1.facts
  go_wp2_with fail
  refine (addT (some (a * d)) (some (c * b)) _ (hE.out.below hBW.out) (ok_some (by have := HS.out; omega)) (ok_some (by have := HS.out; omega))).mono ?_
  rintro e w2 ⟨rfl, hb2⟩
  rw [hA.out.1, hA.out.2]
  have q2 := qW.out.below hb2
  have hB2 := Lib.hid (hBW.out.trans (hb2.mono hBW.out.size))
  clear a1 a2 a3 a4 a5 a6 b1 b2 b3 b4 b5 b6 hb2
  obtain ⟨a1, a2, a3, a4, a5, a6⟩ := q2.1.facts
  obtain ⟨b1, b2, b3, b4, b5, b6⟩ := q2.2.1.facts
  replace q2 := Lib.hid q2
  go_wp2_with fail
  refine (lowest_any g1 (a * d + c * b) (b * d) _ (hE.out.below hB2.out) (by have := HS.out; omega) (by have := HS.out; omega) hbd.out).mono ?_
  rintro e w3 ⟨rfl, hb3⟩
  have q3 := q2.out.below hb3
  have hB3 := Lib.hid (hB2.out.trans (hb3.mono hB2.out.size))
  clear a1 a2 a3 a4 a5 a6 b1 b2 b3 b4 b5 b6 hb3
  obtain ⟨c1, c2, c3, c4, c5, c6⟩ := q3.2.2.facts
  replace q3 := Lib.hid q3
  unfold qv
  go_wp2
  refine bodyPost_ret (v := .tuple #[.agg #[.bool (decide ((mkRat (sg g1 (a * d + c * b)) (b * d)).num < 0)), .string (T (some (mkRat (sg g1 (a * d + c * b)) (b * d)).num.natAbs)), .string (T (some (mkRat (sg g1 (a * d + c * b)) (b * d)).den))], .int .i64 0]) (by simp [results, Tryz.results58, go_sem, c1, c2, c3]) rfl ⟨rfl, ?_⟩
  repeat refine Below.setCell ?_ (by simp only []; omega) _
  exact hB3.out
set_option maxRecDepth 100000 in
set_option maxHeartbeats 2000000 in
theorem sumw_less (g1 g2 : Bool) (a b c d : Nat) (w : World) (hE : Env w) (ha : a < L1) (hb : b < L1) (hc : c < L1) (hd : d < L1) (hb0 : b ≠ 0) (hd0 : d ≠ 0) (hg : (g1 == g2) = false) (hl : a * d < c * b) :
    Calls Tryz.prog 58 #[.agg #[.bool g1, .string (T (some a)), .string (T (some b))], .agg #[.bool g2, .string (T (some c)), .string (T (some d))]] w fun e w' => e = .returned (.tuple #[qv (mkRat (sg g2 (c * b - a * d)) (b * d)), .int .i64 0]) ∧ Below w.heap.size w w' := by
  have hbd : b * d ≠ 0 := Nat.mul_ne_zero hb0 hd0
  have HS := Lib.hid (And.intro (L1_mul ha hd) (And.intro (L1_mul hc hb) (And.intro (L1_mul hb hd) L1_sq)))
  have HP : Hid (∀ p ∈ [(a, d), (c, b), (b, d)], p.1 < Lim ∧ p.2 < Lim ∧ p.1 * p.2 < Lim) := by
    have := HS.out
    intro p hp
    simp only [List.mem_cons, List.not_mem_nil, or_false] at hp
    rcases hp with rfl | rfl | rfl
    · exact ⟨L1_lim ha, L1_lim hd, by show a * d < Lim; omega⟩
    · exact ⟨L1_lim hc, L1_lim hb, by show c * b < Lim; omega⟩
    · exact ⟨L1_lim hb, L1_lim hd, by show b * d < Lim; omega⟩
  have hPR : Hid (PairsAt ((sumW w g1 g2 a b c d).alloc (.cells #[.string (T (some a)), .string (T (some d)), .string (T (some c)), .string (T (some b)), .string (T (some b)), .string (T (some d))] 126)) (w.heap.size + 1 + 1 + 1) [(a, d), (c, b), (b, d)]) := by
    have := pairs3 (sumW w g1 g2 a b c d) a d c b b d
    rwa [show (sumW w g1 g2 a b c d).heap.size = w.heap.size + 1 + 1 + 1 by simp] at this
  have hBE : Hid (Below w.heap.size w ((sumW w g1 g2 a b c d).alloc (.cells #[.string (T (some a)), .string (T (some d)), .string (T (some c)), .string (T (some b)), .string (T (some b)), .string (T (some d))] 126))) := (sumW_below w g1 g2 a b c d).alloc (sumW_below w g1 g2 a b c d).size _
  have hQE : Hid (SumBoxes ((sumW w g1 g2 a b c d).alloc (.cells #[.string (T (some a)), .string (T (some d)), .string (T (some c)), .string (T (some b)), .string (T (some b)), .string (T (some d))] 126)) w.heap.size g1 g2 a b c d) := (SumBoxes.new w g1 g2 a b c d).alloc _
  replace hE := Lib.hid hE
  replace hbd := Lib.hid hbd
  clear ha hb hc hd hb0 hd0
  have hC0 : Hid (cmpX (some (a * d)) (some (c * b)) = 0) := rfl
  have hS2 : Hid (subO (some (c * b)) (some (a * d)) = some (c * b - a * d) ∧ subX (some (c * b)) (some (a * d)) = 0) := ⟨if_pos (by omega), if_pos (by omega)⟩
  have hC : Hid (cmpO (some (a * d)) (some (c * b)) = -1) := cmpN_lt hl
  replace hl := Lib.hid hl
  go_enter Tryz.func58, Tryz.ntmps58
  go_wp2_with fail
  refine (products_any _ (hE.out.below hBE.out) (w.heap.size + 1 + 1 + 1) 3 [(a, d), (c, b), (b, d)] (by simp) (by simp) hPR.out HP.out).mono ?_
  rintro e w1 ⟨⟨v, rfl, ho⟩, hb1⟩
  have hat : TextsAt w1 v [a * d, c * b, b * d] := tvals_at ho (by simp)
  obtain ⟨lg, lcap, rfl, l0, l1, l2⟩ := texts3 hat
  have q1 := hQE.out.below hb1
  have hB1 := Lib.hid (hBE.out.trans (hb1.mono hBE.out.size))
  obtain ⟨a1, a2, a3, a4, a5, a6⟩ := q1.1.facts
  obtain ⟨b1, b2, b3, b4, b5, b6⟩ := q1.2.1.facts
  obtain ⟨c1, c2, c3, c4, c5, c6⟩ := q1.2.2.facts
  have hz1 := q1.2.2.lt
  replace q1 := Lib.hid q1
  clear hb1 hat ho
  go_wp2_with fail
  show Code.wp _ _ _ _ _
  go_quiet (fail)
  obtain ⟨W, hW⟩ : ∃ W, W = w1.drewN nq := ⟨_, rfl⟩
  have qW : Hid (SumBoxes W w.heap.size g1 g2 a b c d) := by rw [hW]; exact q1.out
  have hBW : Hid (Below w.heap.size w W) := by rw [hW]; exact blw_drewN hB1.out nq
  rw [← hW]
  clear a1 a2 a3 a4 a5 a6 b1 b2 b3 b4 b5 b6 c1 c2 c3 c4 c5 c6 hz1 l0 l1 l2 hW q1 hB1
  obtain ⟨a1, a2, a3, a4, a5, a6⟩ := qW.out.1.facts
  obtain ⟨b1, b2, b3, b4, b5, b6⟩ := qW.out.2.1.facts
  go_wp2_with fail
  refine (cmpT (some (a * d)) (some (c * b)) _ (hE.out.below hBW.out) (ok_some (by have := HS.out; omega)) (ok_some (by have := HS.out; omega))).mono ?_
  rintro e w2 ⟨rfl, hb2⟩
  rw [hC.out, hC0.out]
  have q2 := qW.out.below hb2
  have hB2 := Lib.hid (hBW.out.trans (hb2.mono hBW.out.size))
  clear a1 a2 a3 a4 a5 a6 b1 b2 b3 b4 b5 b6 hb2
  obtain ⟨a1, a2, a3, a4, a5, a6⟩ := q2.1.facts
  obtain ⟨b1, b2, b3, b4, b5, b6⟩ := q2.2.1.facts
  replace q2 := Lib.hid q2
  go_wp2_with fail
  refine (subT (some (c * b)) (some (a * d)) _ (hE.out.below hB2.out) (ok_some (by have := HS.out; omega)) (ok_some (by have := HS.out; omega))).mono ?_
  rintro e w3 ⟨rfl, hb3⟩
  rw [hS2.out.1, hS2.out.2]
  have q3 := q2.out.below hb3
  have hB3 := Lib.hid (hB2.out.trans (hb3.mono hB2.out.size))
  clear a1 a2 a3 a4 a5 a6 b1 b2 b3 b4 b5 b6 hb3
  obtain ⟨a1, a2, a3, a4, a5, a6⟩ := q3.1.facts
  obtain ⟨b1, b2, b3, b4, b5, b6⟩ := q3.2.1.facts
  replace q3 := Lib.hid q3
  go_wp2_with fail
  refine (lowest_any g2 (c * b - a * d) (b * d) _ (hE.out.below hB3.out) (by have := HS.out; omega) (by have := HS.out; omega) hbd.out).mono ?_
  rintro e w4 ⟨rfl, hb4⟩
  have q4 := q3.out.below hb4
  have hB4 := Lib.hid (hB3.out.trans (hb4.mono hB3.out.size))
  clear a1 a2 a3 a4 a5 a6 b1 b2 b3 b4 b5 b6 hb4
  obtain ⟨c1, c2, c3, c4, c5, c6⟩ := q4.2.2.facts
  replace q4 := Lib.hid q4
  unfold qv
  go_wp2
  refine bodyPost_ret (v := .tuple #[.agg #[.bool (decide ((mkRat (sg g2 (c * b - a * d)) (b * d)).num < 0)), .string (T (some (mkRat (sg g2 (c * b - a * d)) (b * d)).num.natAbs)), .string (T (some (mkRat (sg g2 (c * b - a * d)) (b * d)).den))], .int .i64 0]) (by simp [results, Tryz.results58, go_sem, c1, c2, c3]) rfl ⟨rfl, ?_⟩
  repeat refine Below.setCell ?_ (by simp only []; omega) _
  exact hB4.out
set_option maxRecDepth 100000 in
set_option maxHeartbeats 2000000 in
theorem sumw_more (g1 g2 : Bool) (a b c d : Nat) (w : World) (hE : Env w) (ha : a < L1) (hb : b < L1) (hc : c < L1) (hd : d < L1) (hb0 : b ≠ 0) (hd0 : d ≠ 0) (hg : (g1 == g2) = false) (hl : c * b ≤ a * d) :
    Calls Tryz.prog 58 #[.agg #[.bool g1, .string (T (some a)), .string (T (some b))], .agg #[.bool g2, .string (T (some c)), .string (T (some d))]] w fun e w' => e = .returned (.tuple #[qv (mkRat (sg g1 (a * d - c * b)) (b * d)), .int .i64 0]) ∧ Below w.heap.size w w' := by
  have hbd : b * d ≠ 0 := Nat.mul_ne_zero hb0 hd0
  have HS := Lib.hid (And.intro (L1_mul ha hd) (And.intro (L1_mul hc hb) (And.intro (L1_mul hb hd) L1_sq)))
  have HP : Hid (∀ p ∈ [(a, d), (c, b), (b, d)], p.1 < Lim ∧ p.2 < Lim ∧ p.1 * p.2 < Lim) := by
    have := HS.out
    intro p hp
    simp only [List.mem_cons, List.not_mem_nil, or_false] at hp
    rcases hp with rfl | rfl | rfl
    · exact ⟨L1_lim ha, L1_lim hd, by show a * d < Lim; omega⟩
    · exact ⟨L1_lim hc, L1_lim hb, by show c * b < Lim; omega⟩
    · exact ⟨L1_lim hb, L1_lim hd, by show b * d < Lim; omega⟩
  have hPR : Hid (PairsAt ((sumW w g1 g2 a b c d).alloc (.cells #[.string (T (some a)), .string (T (some d)), .string (T (some c)), .string (T (some b)), .string (T (some b)), .string (T (some d))] 126)) (w.heap.size + 1 + 1 + 1) [(a, d), (c, b), (b, d)]) := by
    have := pairs3 (sumW w g1 g2 a b c d) a d c b b d
    rwa [show (sumW w g1 g2 a b c d).heap.size = w.heap.size + 1 + 1 + 1 by simp] at this
  have hBE : Hid (Below w.heap.size w ((sumW w g1 g2 a b c d).alloc (.cells #[.string (T (some a)), .string (T (some d)), .string (T (some c)), .string (T (some b)), .string (T (some b)), .string (T (some d))] 126))) := (sumW_below w g1 g2 a b c d).alloc (sumW_below w g1 g2 a b c d).size _
  have hQE : Hid (SumBoxes ((sumW w g1 g2 a b c d).alloc (.cells #[.string (T (some a)), .string (T (some d)), .string (T (some c)), .string (T (some b)), .string (T (some b)), .string (T (some d))] 126)) w.heap.size g1 g2 a b c d) := (SumBoxes.new w g1 g2 a b c d).alloc _
  replace hE := Lib.hid hE
  replace hbd := Lib.hid hbd
  clear ha hb hc hd hb0 hd0
  have hC0 : Hid (cmpX (some (a * d)) (some (c * b)) = 0) := rfl
  have hS2 : Hid (subO (some (a * d)) (some (c * b)) = some (a * d - c * b) ∧ subX (some (a * d)) (some (c * b)) = 0) := ⟨if_pos (by omega), if_pos (by omega)⟩
  obtain ⟨cv, hcv, hcv0⟩ : ∃ cv : Int, cv = cmpO (some (a * d)) (some (c * b)) ∧ 0 ≤ cv := ⟨_, rfl, by show 0 ≤ cmpN (a * d) (c * b); unfold cmpN; rw [if_neg (by omega)]; split <;> omega⟩
  have hC : Hid (cmpO (some (a * d)) (some (c * b)) = cv) := hcv.symm
  clear hcv
  replace hl := Lib.hid hl
  go_enter Tryz.func58, Tryz.ntmps58
  go_wp2_with fail
  refine (products_any _ (hE.out.below hBE.out) (w.heap.size + 1 + 1 + 1) 3 [(a, d), (c, b), (b, d)] (by simp) (by simp) hPR.out HP.out).mono ?_
  rintro e w1 ⟨⟨v, rfl, ho⟩, hb1⟩
  have hat : TextsAt w1 v [a * d, c * b, b * d] := tvals_at ho (by simp)
  obtain ⟨lg, lcap, rfl, l0, l1, l2⟩ := texts3 hat
  have q1 := hQE.out.below hb1
  have hB1 := Lib.hid (hBE.out.trans (hb1.mono hBE.out.size))
  obtain ⟨a1, a2, a3, a4, a5, a6⟩ := q1.1.facts
  obtain ⟨b1, b2, b3, b4, b5, b6⟩ := q1.2.1.facts
  obtain ⟨c1, c2, c3, c4, c5, c6⟩ := q1.2.2.facts
  have hz1 := q1.2.2.lt
  replace q1 := Lib.hid q1
  clear hb1 hat ho
  go_wp2_with fail
  show Code.wp _ _ _ _ _
  go_quiet (fail)
  obtain ⟨W, hW⟩ : ∃ W, W = w1.drewN nq := ⟨_, rfl⟩
  have qW : Hid (SumBoxes W w.heap.size g1 g2 a b c d) := by rw [hW]; exact q1.out
  have hBW : Hid (Below w.heap.size w W) := by rw [hW]; exact blw_drewN hB1.out nq
  rw [← hW]
  clear a1 a2 a3 a4 a5 a6 b1 b2 b3 b4 b5 b6 c1 c2 c3 c4 c5 c6 hz1 l0 l1 l2 hW q1 hB1
  obtain ⟨a1, a2, a3, a4, a5, a6⟩ := qW.out.1.facts
  obtain ⟨b1, b2, b3, b4, b5, b6⟩ := qW.out.2.1.facts
  go_wp2_with fail
  refine (cmpT (some (a * d)) (some (c * b)) _ (hE.out.below hBW.out) (ok_some (by have := HS.out; omega)) (ok_some (by have := HS.out; omega))).mono ?_
  rintro e w2 ⟨rfl, hb2⟩
  rw [hC.out, hC0.out]
  have q2 := qW.out.below hb2
  have hB2 := Lib.hid (hBW.out.trans (hb2.mono hBW.out.size))
  clear a1 a2 a3 a4 a5 a6 b1 b2 b3 b4 b5 b6 hb2
  obtain ⟨a1, a2, a3, a4, a5, a6⟩ := q2.1.facts
  obtain ⟨b1, b2, b3, b4, b5, b6⟩ := q2.2.1.facts
  replace q2 := Lib.hid q2
  go_wp2_with fail
  refine (subT (some (a * d)) (some (c * b)) _ (hE.out.below hB2.out) (ok_some (by have := HS.out; omega)) (ok_some (by have := HS.out; omega))).mono ?_
  rintro e w3 ⟨rfl, hb3⟩
  rw [hS2.out.1, hS2.out.2]
  have q3 := q2.out.below hb3
  have hB3 := Lib.hid (hB2.out.trans (hb3.mono hB2.out.size))
  clear a1 a2 a3 a4 a5 a6 b1 b2 b3 b4 b5 b6 hb3
  obtain ⟨a1, a2, a3, a4, a5, a6⟩ := q3.1.facts
  obtain ⟨b1, b2, b3, b4, b5, b6⟩ := q3.2.1.facts
  replace q3 := Lib.hid q3
  go_wp2_with fail
  refine (lowest_any g1 (a * d - c * b) (b * d) _ (hE.out.below hB3.out) (by have := HS.out; omega) (by have := HS.out; omega) hbd.out).mono ?_
  rintro e w4 ⟨rfl, hb4⟩
  have q4 := q3.out.below hb4
  have hB4 := Lib.hid (hB3.out.trans (hb4.mono hB3.out.size))
  clear a1 a2 a3 a4 a5 a6 b1 b2 b3 b4 b5 b6 hb4
  obtain ⟨c1, c2, c3, c4, c5, c6⟩ := q4.2.2.facts
  replace q4 := Lib.hid q4
  unfold qv
  go_wp2
  refine bodyPost_ret (v := .tuple #[.agg #[.bool (decide ((mkRat (sg g1 (a * d - c * b)) (b * d)).num < 0)), .string (T (some (mkRat (sg g1 (a * d - c * b)) (b * d)).num.natAbs)), .string (T (some (mkRat (sg g1 (a * d - c * b)) (b * d)).den))], .int .i64 0]) (by simp [results, Tryz.results58, go_sem, c1, c2, c3]) rfl ⟨rfl, ?_⟩
  repeat refine Below.setCell ?_ (by simp only []; omega) _
  exact hB4.out
end Nt
end Go.Proofs.YtpmlhgmmobpilaaGreatDoor

namespace Go.Proofs.YtpmlhgmmobpilaaGreatDoor
open Go.RowKit Go.Shelf
namespace Nt
theorem set3_other (W : World) (B b o : Nat) (x y z : Value) (h : b ≠ B) : (((W.setCell ⟨B, 0, none⟩ x).setCell ⟨B, 1, none⟩ y).setCell ⟨B, 2, none⟩ z).cell? ⟨b, o, none⟩ = W.cell? ⟨b, o, none⟩ :=
  World.cell?_of_block (w := W) (a := ⟨b, o, none⟩) (((Below.heap_setCell _ _ _ _ (by exact h)).trans (Below.heap_setCell _ _ _ _ (by exact h))).trans (Below.heap_setCell _ _ _ _ (by exact h)))
set_option maxRecDepth 100000 in
set_option maxHeartbeats 2000000 in
theorem product_any (g1 g2 : Bool) (a b c d : Nat) (w : World) (hE : Env w) (ha : a < Lim) (hb : b < Lim) (hc : c < Lim) (hd : d < Lim) (hac : a * c < Lim) (hbd : b * d < Lim) (h0 : b * d ≠ 0) :
    Calls Tryz.prog 56 #[.agg #[.bool g1, .string (T (some a)), .string (T (some b))], .agg #[.bool g2, .string (T (some c)), .string (T (some d))]] w fun e w' => e = .returned (.tuple #[qv (mkRat (sg (!(g1 == g2)) (a * c)) (b * d)), .int .i64 0]) ∧ Below w.heap.size w w' := by
  have HP : Hid (∀ p ∈ [(a, c), (b, d)], p.1 < Lim ∧ p.2 < Lim ∧ p.1 * p.2 < Lim) := by
    intro p hp
    simp only [List.mem_cons, List.not_mem_nil, or_false] at hp
    rcases hp with rfl | rfl
    · exact ⟨ha, hc, hac⟩
    · exact ⟨hb, hd, hbd⟩
  have hPR : Hid (PairsAt ((sumW w g1 g2 a b c d).alloc (.cells #[.string (T (some a)), .string (T (some c)), .string (T (some b)), .string (T (some d))] 126)) (w.heap.size + 1 + 1 + 1) [(a, c), (b, d)]) := by
    have := pairs2 (sumW w g1 g2 a b c d) a c b d
    rwa [show (sumW w g1 g2 a b c d).heap.size = w.heap.size + 1 + 1 + 1 by simp] at this
  have hBE : Hid (Below w.heap.size w ((sumW w g1 g2 a b c d).alloc (.cells #[.string (T (some a)), .string (T (some c)), .string (T (some b)), .string (T (some d))] 126))) := (sumW_below w g1 g2 a b c d).alloc (sumW_below w g1 g2 a b c d).size _
  have hQE : Hid (SumBoxes ((sumW w g1 g2 a b c d).alloc (.cells #[.string (T (some a)), .string (T (some c)), .string (T (some b)), .string (T (some d))] 126)) w.heap.size g1 g2 a b c d) := (SumBoxes.new w g1 g2 a b c d).alloc _
  replace hE := Lib.hid hE
  replace h0 := Lib.hid h0
  replace hac := Lib.hid hac
  replace hbd := Lib.hid hbd
  clear ha hb hc hd
  go_enter Tryz.func56, Tryz.ntmps56
  go_wp2_with fail
  refine (products_any _ (hE.out.below hBE.out) (w.heap.size + 1 + 1 + 1) 2 [(a, c), (b, d)] (by simp) (by simp) hPR.out HP.out).mono ?_
  rintro e w1 ⟨⟨v, rfl, ho⟩, hb1⟩
  have hat : TextsAt w1 v [a * c, b * d] := tvals_at ho (by simp)
  obtain ⟨lg, lcap, rfl, hlg, l0, l1⟩ := texts2 hat
  have hlb : w.heap.size + 1 + 1 + 1 < lg := by
    have h1 := (ho.lt lg rfl).1
    simp at h1
    omega
  have q1 := hQE.out.below hb1
  have hB1 := Lib.hid (hBE.out.trans (hb1.mono hBE.out.size))
  obtain ⟨a1, a2, a3, a4, a5, a6⟩ := q1.1.facts
  obtain ⟨b1, b2, b3, b4, b5, b6⟩ := q1.2.1.facts
  obtain ⟨c1, c2, c3, c4, c5, c6⟩ := q1.2.2.facts
  have hz1 := q1.2.2.lt
  replace q1 := Lib.hid q1
  clear hb1 hat ho
  go_wp2_with fail
  have hl := fun W (h : Below w1.heap.size w1 W) => lowest_any (!(g1 == g2)) (a * c) (b * d) W (hE.out.below (hB1.out.trans (h.mono hB1.out.size))) hac.out hbd.out h0.out
  simp only [qv] at hl
  have q1d : Hid (SumBoxes w1.drew w.heap.size g1 g2 a b c d) := q1.out
  go_region_held3 (fun w' => w'.cell? ⟨w.heap.size, 0, none⟩ = some (.bool g1) ∧ w'.cell? ⟨w.heap.size + 1, 0, none⟩ = some (.bool g2) ∧ w'.cell? ⟨lg, 0, none⟩ = some (.string (T (some (a * c)))) ∧ w'.cell? ⟨lg, 1, none⟩ = some (.string (T (some (b * d))))) (first | exact ⟨a1, b1, l0, l1⟩ | exact ⟨k1, k2, k3, k4⟩ | exact ⟨(set3_other _ _ _ _ _ _ _ (by omega)).trans k1, (set3_other _ _ _ _ _ _ _ (by omega)).trans k2, (set3_other _ _ _ _ _ _ _ (by omega)).trans k3, (set3_other _ _ _ _ _ _ _ (by omega)).trans k4⟩ | go_keep)
    (first | (go_at_call 97; refine (hl _ ?_).mono ?_; (exact (Below.refl _ _).drew); rintro e w2 ⟨rfl, hb2⟩; have q2 := q1d.out.below hb2; obtain ⟨c1', c2', c3', c4', c5', c6'⟩ := q2.2.2.facts; have k1 := q2.1.facts.1; have k2 := q2.2.1.facts.1; have k3 := (hb2.cell (p := ⟨lg, 0, none⟩) hlg).trans l0; have k4 := (hb2.cell (p := ⟨lg, 1, none⟩) hlg).trans l1))
  go_wp2
  refine bodyPost_ret (v := .tuple #[.agg #[.bool (decide ((mkRat (sg (!(g1 == g2)) (a * c)) (b * d)).num < 0)), .string (T (some (mkRat (sg (!(g1 == g2)) (a * c)) (b * d)).num.natAbs)), .string (T (some (mkRat (sg (!(g1 == g2)) (a * c)) (b * d)).den))], .int .i64 0]) (by simp [results, Tryz.results56, go_sem, c1', c2', c3']) rfl ⟨rfl, ?_⟩
  repeat refine Below.setCell ?_ (by simp only []; omega) _
  exact (hB1.out.drew).trans (hb2.mono hB1.out.size)
theorem opp_any (g : Bool) (n d : ByteArray) (w : World) :
    Calls Tryz.prog 68 #[.agg #[.bool g, .string n, .string d]] w fun e w' => e = .returned (.agg #[.bool (!g && !(n.toList == [48])), .string n, .string d]) ∧ Below w.heap.size w w' := by
  cases g with
  | true =>
    go_enter Tryz.func68, Tryz.ntmps68
    go_wp2
    refine bodyPost_ret (v := .agg #[.bool false, .string n, .string d]) (by simp [results, Tryz.results68, go_sem]) rfl ⟨rfl, ?_⟩
    repeat refine Below.setCell ?_ (by simp only []; omega) _
    exact ((Below.refl _ w).alloc (Nat.le_refl _) _).alloc (by simp) _
  | false =>
    cases hz : (n.toList == [48]) with
    | true =>
      go_enter Tryz.func68, Tryz.ntmps68
      go_wp2
      refine bodyPost_ret (v := .agg #[.bool false, .string n, .string d]) (by simp [results, Tryz.results68, go_sem]) rfl ⟨rfl, ?_⟩
      repeat refine Below.setCell ?_ (by simp only []; omega) _
      exact ((Below.refl _ w).alloc (Nat.le_refl _) _).alloc (by simp) _
    | false =>
      go_enter Tryz.func68, Tryz.ntmps68
      go_wp2
      refine bodyPost_ret (v := .agg #[.bool true, .string n, .string d]) (by simp [results, Tryz.results68, go_sem]) rfl ⟨rfl, ?_⟩
      repeat refine Below.setCell ?_ (by simp only []; omega) _
      exact ((Below.refl _ w).alloc (Nat.le_refl _) _).alloc (by simp) _
end Nt
end Go.Proofs.YtpmlhgmmobpilaaGreatDoor

namespace Go.Proofs.YtpmlhgmmobpilaaGreatDoor
open Go.RowKit Go.Shelf
namespace Nt
theorem sum_q (p q : Rat) (hp : ShortQ p) (hq : ShortQ q) (w : World) (hE : Env w) :
    Calls Tryz.prog 58 #[qv p, qv q] w fun e w' => e = .returned (.tuple #[qv (p + q), .int .i64 0]) ∧ Below w.heap.size w w' := by
  by_cases hg : decide (p.num < 0) = decide (q.num < 0)
  · have h := sumw_same (decide (p.num < 0)) p.num.natAbs p.den q.num.natAbs q.den w hE hp.1 hp.2 hq.1 hq.2 p.den_nz q.den_nz
    rw [sum_same rfl hg rfl rfl, add_mk] at h
    have e : qv q = .agg #[.bool (decide (p.num < 0)), .string (T (some q.num.natAbs)), .string (T (some q.den))] := by rw [hg]; rfl
    rw [e]
    exact h
  · have hne : (decide (p.num < 0) == decide (q.num < 0)) = false := by rw [beq_eq_false_iff_ne]; exact hg
    rcases Nat.lt_or_ge (p.num.natAbs * q.den) (q.num.natAbs * p.den) with hl | hl
    · have h := sumw_less (decide (p.num < 0)) (decide (q.num < 0)) p.num.natAbs p.den q.num.natAbs q.den w hE hp.1 hp.2 hq.1 hq.2 p.den_nz q.den_nz hne hl
      rw [sum_less rfl rfl rfl rfl hg hl, add_mk] at h
      exact h
    · have h := sumw_more (decide (p.num < 0)) (decide (q.num < 0)) p.num.natAbs p.den q.num.natAbs q.den w hE hp.1 hp.2 hq.1 hq.2 p.den_nz q.den_nz hne hl
      rw [sum_more rfl rfl rfl rfl hg hl, add_mk] at h
      exact h
theorem product_q (p q : Rat) (hp : ShortQ p) (hq : ShortQ q) (w : World) (hE : Env w) :
    Calls Tryz.prog 56 #[qv p, qv q] w fun e w' => e = .returned (.tuple #[qv (p * q), .int .i64 0]) ∧ Below w.heap.size w w' := by
  have h1 := L1_mul hp.1 hq.1
  have h2 := L1_mul hp.2 hq.2
  have h3 := L1_sq
  have h := product_any (decide (p.num < 0)) (decide (q.num < 0)) p.num.natAbs p.den q.num.natAbs q.den w hE (L1_lim hp.1) (L1_lim hp.2) (L1_lim hq.1) (L1_lim hq.2) (by omega) (by omega) (Nat.mul_ne_zero p.den_nz q.den_nz)
  have e := mul_mk p q
  rw [show (decide (p.num < 0) != decide (q.num < 0)) = !(decide (p.num < 0) == decide (q.num < 0)) from rfl] at e
  rw [e] at h
  exact h
theorem neg_qv (q : Rat) : (.agg #[.bool (!decide (q.num < 0) && !((T (some q.num.natAbs)).toList == [48])), .string (T (some q.num.natAbs)), .string (T (some q.den))] : Value) = qv (-q) := by
  unfold qv
  rw [T_is_zero]
  have e1 : (-q).num = -q.num := rfl
  have e2 : (-q).den = q.den := rfl
  rw [e1, e2, Int.natAbs_neg]
  have e3 : (!decide (q.num < 0) && !decide (q.num.natAbs = 0)) = decide (-q.num < 0) := by
    generalize q.num = z
    rw [Bool.eq_iff_iff]
    simp
    omega
  rw [e3]
theorem opp_q (q : Rat) (w : World) :
    Calls Tryz.prog 68 #[qv q] w fun e w' => e = .returned (qv (-q)) ∧ Below w.heap.size w w' := by
  refine (opp_any (decide (q.num < 0)) (T (some q.num.natAbs)) (T (some q.den)) w).mono ?_
  rintro e w' ⟨rfl, hb⟩
  exact ⟨by rw [neg_qv], hb⟩
theorem ShortQ.neg {q : Rat} (h : ShortQ q) : ShortQ (-q) := ⟨by show (-q.num).natAbs < L1; rw [Int.natAbs_neg]; exact h.1, h.2⟩
/-- The blocks of a function of two numbers. -/
abbrev twoW (w : World) (g1 g2 : Bool) (n1 d1 n2 d2 : ByteArray) : World :=
  ((w.alloc (.cells #[.bool g1, .string n1, .string d1] 23)).alloc (.cells #[.bool g2, .string n2, .string d2] 23)).alloc (.cells #[.bool false, .string ⟨#[]⟩, .string ⟨#[]⟩] 23)
def TwoBoxes (W : World) (B : Nat) (g1 g2 : Bool) (n1 d1 n2 d2 : ByteArray) : Prop := B3 W B g1 n1 d1 ∧ B3 W (B + 1) g2 n2 d2 ∧ B3 W (B + 1 + 1) false ⟨#[]⟩ ⟨#[]⟩
theorem TwoBoxes.new (w : World) (g1 g2 : Bool) (n1 d1 n2 d2 : ByteArray) : TwoBoxes (twoW w g1 g2 n1 d1 n2 d2) w.heap.size g1 g2 n1 d1 n2 d2 := by
  have e1 : (w.alloc (.cells #[.bool g1, .string n1, .string d1] 23)).heap.size = w.heap.size + 1 := by simp
  have e2 : ((w.alloc (.cells #[.bool g1, .string n1, .string d1] 23)).alloc (.cells #[.bool g2, .string n2, .string d2] 23)).heap.size = w.heap.size + 1 + 1 := by simp
  refine ⟨((B3.new w _ _ _).alloc _).alloc _, ?_, ?_⟩
  · have h := B3.new (w.alloc (.cells #[.bool g1, .string n1, .string d1] 23)) g2 n2 d2
    rw [e1] at h
    exact h.alloc _
  · have h := B3.new ((w.alloc (.cells #[.bool g1, .string n1, .string d1] 23)).alloc (.cells #[.bool g2, .string n2, .string d2] 23)) false ⟨#[]⟩ ⟨#[]⟩
    rw [e2] at h
    exact h
theorem twoW_below (w : World) (g1 g2 : Bool) (n1 d1 n2 d2 : ByteArray) : Below w.heap.size w (twoW w g1 g2 n1 d1 n2 d2) :=
  (((Below.refl _ w).alloc (Nat.le_refl _) _).alloc (by simp) _).alloc (by simp; omega) _
theorem TwoBoxes.below {W W' : World} {B : Nat} {g1 g2 : Bool} {n1 d1 n2 d2 : ByteArray} (h : TwoBoxes W B g1 g2 n1 d1 n2 d2) (hb : Below W.heap.size W W') : TwoBoxes W' B g1 g2 n1 d1 n2 d2 := ⟨h.1.below hb, h.2.1.below hb, h.2.2.below hb⟩
theorem TwoBoxes.six {W : World} {B : Nat} {g1 g2 : Bool} {n1 d1 n2 d2 : ByteArray} (h : TwoBoxes W B g1 g2 n1 d1 n2 d2) :
    W.cell? ⟨B, 0, none⟩ = some (.bool g1) ∧ W.cell? ⟨B, 1, none⟩ = some (.string n1) ∧ W.cell? ⟨B, 2, none⟩ = some (.string d1) ∧
    W.cell? ⟨B + 1, 0, none⟩ = some (.bool g2) ∧ W.cell? ⟨B + 1, 1, none⟩ = some (.string n2) ∧ W.cell? ⟨B + 1, 2, none⟩ = some (.string d2) :=
  ⟨h.1.facts.1, h.1.facts.2.1, h.1.facts.2.2.1, h.2.1.facts.1, h.2.1.facts.2.1, h.2.1.facts.2.2.1⟩
theorem TwoBoxes.six_set {W : World} {B : Nat} {g1 g2 : Bool} {n1 d1 n2 d2 : ByteArray} (h : TwoBoxes W B g1 g2 n1 d1 n2 d2) (x y z : Value) :
    (((W.setCell ⟨B + 1 + 1, 0, none⟩ x).setCell ⟨B + 1 + 1, 1, none⟩ y).setCell ⟨B + 1 + 1, 2, none⟩ z).cell? ⟨B, 0, none⟩ = some (.bool g1) ∧ (((W.setCell ⟨B + 1 + 1, 0, none⟩ x).setCell ⟨B + 1 + 1, 1, none⟩ y).setCell ⟨B + 1 + 1, 2, none⟩ z).cell? ⟨B, 1, none⟩ = some (.string n1) ∧ (((W.setCell ⟨B + 1 + 1, 0, none⟩ x).setCell ⟨B + 1 + 1, 1, none⟩ y).setCell ⟨B + 1 + 1, 2, none⟩ z).cell? ⟨B, 2, none⟩ = some (.string d1) ∧
    (((W.setCell ⟨B + 1 + 1, 0, none⟩ x).setCell ⟨B + 1 + 1, 1, none⟩ y).setCell ⟨B + 1 + 1, 2, none⟩ z).cell? ⟨B + 1, 0, none⟩ = some (.bool g2) ∧ (((W.setCell ⟨B + 1 + 1, 0, none⟩ x).setCell ⟨B + 1 + 1, 1, none⟩ y).setCell ⟨B + 1 + 1, 2, none⟩ z).cell? ⟨B + 1, 1, none⟩ = some (.string n2) ∧ (((W.setCell ⟨B + 1 + 1, 0, none⟩ x).setCell ⟨B + 1 + 1, 1, none⟩ y).setCell ⟨B + 1 + 1, 2, none⟩ z).cell? ⟨B + 1, 2, none⟩ = some (.string d2) := by
  obtain ⟨h1, h2, h3, h4, h5, h6⟩ := h.six
  exact ⟨(set3_other _ _ _ _ _ _ _ (by omega)).trans h1, (set3_other _ _ _ _ _ _ _ (by omega)).trans h2, (set3_other _ _ _ _ _ _ _ (by omega)).trans h3, (set3_other _ _ _ _ _ _ _ (by omega)).trans h4, (set3_other _ _ _ _ _ _ _ (by omega)).trans h5, (set3_other _ _ _ _ _ _ _ (by omega)).trans h6⟩
set_option maxRecDepth 100000 in
set_option maxHeartbeats 2000000 in
theorem subc_w (g1 g2 g3 : Bool) (n1 d1 n2 d2 : ByteArray) (r : Bool) (n d : ByteArray) (E : Int) (w : World) (hE : Env w)
    (ho : ∀ W, Calls Tryz.prog 68 #[.agg #[.bool g2, .string n2, .string d2]] W fun e w' => e = .returned (.agg #[.bool g3, .string n2, .string d2]) ∧ Below W.heap.size W w')
    (hc : ∀ W, Env W → Calls Tryz.prog 58 #[.agg #[.bool g1, .string n1, .string d1], .agg #[.bool g3, .string n2, .string d2]] W fun e w' => e = .returned (.tuple #[.agg #[.bool r, .string n, .string d], .int .i64 E]) ∧ Below W.heap.size W w') :
    Calls Tryz.prog 67 #[.agg #[.bool g1, .string n1, .string d1], .agg #[.bool g2, .string n2, .string d2]] w fun e w' => e = .returned (.tuple #[.agg #[.bool r, .string n, .string d], .int .i64 E]) ∧ Below w.heap.size w w' := by
  have hQE := Lib.hid (TwoBoxes.new w g1 g2 n1 d1 n2 d2)
  have hBE := Lib.hid (twoW_below w g1 g2 n1 d1 n2 d2)
  obtain ⟨W0, hW0⟩ : ∃ W0, W0 = twoW w g1 g2 n1 d1 n2 d2 := ⟨_, rfl⟩
  rw [← hW0] at hQE hBE
  simp only [twoW] at hW0
  have q0d : Hid (TwoBoxes W0.drew w.heap.size g1 g2 n1 d1 n2 d2) := hQE.out
  have hB0 : Hid (Below w.heap.size w W0.drew) := hBE.out.drew
  replace hE := Lib.hid hE
  replace hW0 := Lib.hid hW0
  replace ho := Lib.hid ho
  replace hc := Lib.hid hc
  go_enter Tryz.func67, Tryz.ntmps67
  go_wp2_with fail
  rw [← hW0.out]
  obtain ⟨a1, a2, a3, b1, b2, b3⟩ := hQE.out.six
  go_region_held3 (fun w' => w'.cell? ⟨w.heap.size, 0, none⟩ = some (.bool g1) ∧ w'.cell? ⟨w.heap.size, 1, none⟩ = some (.string n1) ∧ w'.cell? ⟨w.heap.size, 2, none⟩ = some (.string d1) ∧ w'.cell? ⟨w.heap.size + 1, 0, none⟩ = some (.bool g2) ∧ w'.cell? ⟨w.heap.size + 1, 1, none⟩ = some (.string n2) ∧ w'.cell? ⟨w.heap.size + 1, 2, none⟩ = some (.string d2)) (first | (with_reducible exact hQE.out.six) | (with_reducible exact q0d.out.six) | (with_reducible exact q2.out.six) | (with_reducible exact q3.out.six) | (with_reducible exact q3.out.six_set _ _ _) | go_keep)
    (first
      | (go_at_call 68; refine (ho.out _).mono ?_; rintro e w2 ⟨rfl, hb2⟩; have q2 := Lib.hid (q0d.out.below hb2); have hB2 := Lib.hid (hB0.out.trans (hb2.mono hB0.out.size)); clear hb2)
      | (go_at_call 58; refine (hc.out _ ?_).mono ?_; (exact hE.out.below hB2.out); rintro e w3 ⟨rfl, hb3⟩; have q3 := Lib.hid (q2.out.below hb3); obtain ⟨c1, c2, c3, c4, c5, c6⟩ := q3.out.2.2.facts; have hB3 := Lib.hid (hB2.out.trans (hb3.mono hB2.out.size)); clear hb3))
  go_wp2
  refine bodyPost_ret (v := .tuple #[.agg #[.bool r, .string n, .string d], .int .i64 E]) (by simp [results, Tryz.results67, go_sem, c1, c2, c3]) rfl ⟨rfl, ?_⟩
  repeat refine Below.setCell ?_ (by simp only []; omega) _
  exact hB3.out
theorem subc_q (p q : Rat) (hp : ShortQ p) (hq : ShortQ q) (w : World) (hE : Env w) :
    Calls Tryz.prog 67 #[qv p, qv q] w fun e w' => e = .returned (.tuple #[qv (p - q), .int .i64 0]) ∧ Below w.heap.size w w' := by
  have hc := fun W (h : Env W) => sum_q p (-q) hp hq.neg W h
  rw [← Rat.sub_eq_add_neg] at hc
  have ho := fun W => opp_q q W
  have e : qv (-q) = .agg #[.bool (decide ((-q).num < 0)), .string (T (some q.num.natAbs)), .string (T (some q.den))] := by
    unfold qv
    rw [show (-q).num.natAbs = q.num.natAbs from Int.natAbs_neg _]
    rfl
  rw [e] at hc ho
  exact subc_w _ _ _ _ _ _ _ _ _ _ _ w hE ho hc
end Nt
end Go.Proofs.YtpmlhgmmobpilaaGreatDoor

namespace Go.Proofs.YtpmlhgmmobpilaaGreatDoor
open Go.RowKit Go.Shelf
namespace Nt
/-- A block that holds an operation. -/
def B2 (W : World) (b : Nat) (z : Bool) (f : Nat) : Prop := W.heap[b]? = some (.cells #[.bool z, .func (.func f) #[] #[]] 81 (0, 0))
theorem B2.lt {W : World} {b : Nat} {z : Bool} {f : Nat} (h : B2 W b z f) : b < W.heap.size := (Array.getElem?_eq_some_iff.1 h).1
theorem B2.facts {W : World} {b : Nat} {z : Bool} {f : Nat} (h : B2 W b z f) : W.cell? ⟨b, 0, none⟩ = some (.bool z) ∧ W.cell? ⟨b, 1, none⟩ = some (.func (.func f) #[] #[]) := by
  unfold B2 at h
  simp [World.cell?, h]
theorem B2.below {W W' : World} {b : Nat} {z : Bool} {f : Nat} (h : B2 W b z f) (hb : Below W.heap.size W W') : B2 W' b z f := (hb.block b h.lt).trans h
/-- The four blocks that run lays. -/
def RunBoxes (W : World) (B : Nat) (z : Bool) (f : Nat) (g1 g2 : Bool) (n1 d1 n2 d2 : ByteArray) : Prop :=
  B2 W B z f ∧ B3 W (B + 1) g1 n1 d1 ∧ B3 W (B + 2) g2 n2 d2 ∧ B3 W (B + 3) false ⟨#[]⟩ ⟨#[]⟩
theorem RunBoxes.new (w : World) (z : Bool) (f : Nat) (g1 g2 : Bool) (n1 d1 n2 d2 : ByteArray) :
    RunBoxes ((((w.alloc (.cells #[.bool z, .func (.func f) #[] #[]] 81)).alloc (.cells #[.bool g1, .string n1, .string d1] 23)).alloc (.cells #[.bool g2, .string n2, .string d2] 23)).alloc (.cells #[.bool false, .string ⟨#[]⟩, .string ⟨#[]⟩] 23)) w.heap.size z f g1 g2 n1 d1 n2 d2 := by
  have e1 : (w.alloc (.cells #[.bool z, .func (.func f) #[] #[]] 81)).heap.size = w.heap.size + 1 := by simp
  have e2 : ((w.alloc (.cells #[.bool z, .func (.func f) #[] #[]] 81)).alloc (.cells #[.bool g1, .string n1, .string d1] 23)).heap.size = w.heap.size + 2 := by simp
  have e3 : (((w.alloc (.cells #[.bool z, .func (.func f) #[] #[]] 81)).alloc (.cells #[.bool g1, .string n1, .string d1] 23)).alloc (.cells #[.bool g2, .string n2, .string d2] 23)).heap.size = w.heap.size + 3 := by simp
  refine ⟨?_, ?_, ?_, ?_⟩
  · unfold B2
    rw [Below.heap_alloc _ _ _ (by rw [e3]; omega), Below.heap_alloc _ _ _ (by rw [e2]; omega), Below.heap_alloc _ _ _ (by rw [e1]; omega)]
    exact heap_alloc_new _ _
  · have h := B3.new (w.alloc (.cells #[.bool z, .func (.func f) #[] #[]] 81)) g1 n1 d1
    rw [e1] at h
    exact (h.alloc _).alloc _
  · have h := B3.new ((w.alloc (.cells #[.bool z, .func (.func f) #[] #[]] 81)).alloc (.cells #[.bool g1, .string n1, .string d1] 23)) g2 n2 d2
    rw [e2] at h
    exact h.alloc _
  · have h := B3.new (((w.alloc (.cells #[.bool z, .func (.func f) #[] #[]] 81)).alloc (.cells #[.bool g1, .string n1, .string d1] 23)).alloc (.cells #[.bool g2, .string n2, .string d2] 23)) false ⟨#[]⟩ ⟨#[]⟩
    rw [e3] at h
    exact h
theorem RunBoxes.below {W W' : World} {B : Nat} {z : Bool} {f : Nat} {g1 g2 : Bool} {n1 d1 n2 d2 : ByteArray} (h : RunBoxes W B z f g1 g2 n1 d1 n2 d2) (hb : Below W.heap.size W W') : RunBoxes W' B z f g1 g2 n1 d1 n2 d2 :=
  ⟨h.1.below hb, h.2.1.below hb, h.2.2.1.below hb, h.2.2.2.below hb⟩
theorem four_below (w : World) (o1 o2 o3 o4 : Obj) : Below w.heap.size w ((((w.alloc o1).alloc o2).alloc o3).alloc o4) :=
  ((((Below.refl _ w).alloc (Nat.le_refl _) _).alloc (by simp) _).alloc (by simp; omega) _).alloc (by simp; omega) _
set_option maxRecDepth 100000 in
set_option maxHeartbeats 2000000 in
theorem run_sum (g1 g2 : Bool) (n1 d1 n2 d2 : ByteArray) (w : World) (hE : Env w) (s1 : n1.size ≤ 140737488355328) (s2 : d1.size ≤ 140737488355328) (s3 : n2.size ≤ 140737488355328) (s4 : d2.size ≤ 140737488355328) (v1 : validB g1 n1 d1 = true) (v2 : validB g2 n2 d2 = true) (l1 : n1.size ≤ 140) (l2 : d1.size ≤ 140) (l3 : n2.size ≤ 140) (l4 : d2.size ≤ 140) (r : Bool) (n d : ByteArray) (E : Int)
    (hf : ∀ W, Env W → Calls Tryz.prog 58 #[.agg #[.bool g1, .string n1, .string d1], .agg #[.bool g2, .string n2, .string d2]] W fun e w' => e = .returned (.tuple #[.agg #[.bool r, .string n, .string d], .int .i64 E]) ∧ Below W.heap.size W w') :
    Calls Tryz.prog 57 #[.agg #[.bool false, .func (.func 58) #[] #[]], .agg #[.bool g1, .string n1, .string d1], .agg #[.bool g2, .string n2, .string d2]] w fun e w' => e = .returned (.tuple #[.agg #[.bool r, .string n, .string d], .int .i64 E]) ∧ Below w.heap.size w w' := by
  have V1 := Lib.hid v1
  clear v1
  have V2 := Lib.hid v2
  clear v2
  have HF := Lib.hid hf
  clear hf
  replace hE := Lib.hid hE
  go_enter Tryz.func57, Tryz.ntmps57
  go_wp2_with fail
  refine (Valid_any g1 n1 d1 _ (hE.out.below (four_below w _ _ _ _)) s1 s2).mono ?_
  rintro e w1 ⟨rfl, hb1⟩
  rw [V1.out]
  have q1 := (RunBoxes.new w _ _ g1 g2 n1 d1 n2 d2).below hb1
  have hB1 := Lib.hid ((four_below w _ _ _ _).trans (hb1.mono (four_below w _ _ _ _).size))
  obtain ⟨a1, a2⟩ := q1.1.facts
  obtain ⟨b1, b2, b3, b4, b5, b6⟩ := q1.2.1.facts
  obtain ⟨c1, c2, c3, c4, c5, c6⟩ := q1.2.2.1.facts
  obtain ⟨d1', d2', d3, d4, d5, d6⟩ := q1.2.2.2.facts
  have hz1 := q1.2.2.2.lt
  replace q1 := Lib.hid q1
  clear hb1
  go_wp2_with fail
  refine (Valid_any g2 n2 d2 _ (hE.out.below hB1.out) s3 s4).mono ?_
  rintro e w2 ⟨rfl, hb2⟩
  rw [V2.out]
  have q2 := q1.out.below hb2
  have hB2 := Lib.hid (hB1.out.trans (hb2.mono hB1.out.size))
  clear a1 a2 b1 b2 b3 b4 b5 b6 c1 c2 c3 c4 c5 c6 d1' d2' d3 d4 d5 d6 hb2 q1
  obtain ⟨a1, a2⟩ := q2.1.facts
  obtain ⟨b1, b2, b3, b4, b5, b6⟩ := q2.2.1.facts
  obtain ⟨c1, c2, c3, c4, c5, c6⟩ := q2.2.2.1.facts
  obtain ⟨d1', d2', d3, d4, d5, d6⟩ := q2.2.2.2.facts
  have hz2 := q2.2.2.2.lt
  replace q2 := Lib.hid q2
  go_wp2_with fail
  refine (HF.out _ (hE.out.below hB2.out)).mono ?_
  rintro e w3 ⟨rfl, hb3⟩
  have q3 := q2.out.below hb3
  have hB3 := Lib.hid (hB2.out.trans (hb3.mono hB2.out.size))
  clear a1 a2 b1 b2 b3 b4 b5 b6 c1 c2 c3 c4 c5 c6 d1' d2' d3 d4 d5 d6 hb3 q2
  obtain ⟨d1', d2', d3, d4, d5, d6⟩ := q3.2.2.2.facts
  have hz3 := q3.2.2.2.lt
  replace q3 := Lib.hid q3
  go_wp2
  refine bodyPost_ret (v := .tuple #[.agg #[.bool r, .string n, .string d], .int .i64 E]) (by simp [results, Tryz.results57, go_sem, d1', d2', d3]) rfl ⟨rfl, ?_⟩
  repeat refine Below.setCell ?_ (by simp only []; omega) _
  exact hB3.out
set_option maxRecDepth 100000 in
set_option maxHeartbeats 2000000 in
theorem run_sub (g1 g2 : Bool) (n1 d1 n2 d2 : ByteArray) (w : World) (hE : Env w) (s1 : n1.size ≤ 140737488355328) (s2 : d1.size ≤ 140737488355328) (s3 : n2.size ≤ 140737488355328) (s4 : d2.size ≤ 140737488355328) (v1 : validB g1 n1 d1 = true) (v2 : validB g2 n2 d2 = true) (l1 : n1.size ≤ 140) (l2 : d1.size ≤ 140) (l3 : n2.size ≤ 140) (l4 : d2.size ≤ 140) (r : Bool) (n d : ByteArray) (E : Int)
    (hf : ∀ W, Env W → Calls Tryz.prog 67 #[.agg #[.bool g1, .string n1, .string d1], .agg #[.bool g2, .string n2, .string d2]] W fun e w' => e = .returned (.tuple #[.agg #[.bool r, .string n, .string d], .int .i64 E]) ∧ Below W.heap.size W w') :
    Calls Tryz.prog 57 #[.agg #[.bool false, .func (.func 67) #[] #[]], .agg #[.bool g1, .string n1, .string d1], .agg #[.bool g2, .string n2, .string d2]] w fun e w' => e = .returned (.tuple #[.agg #[.bool r, .string n, .string d], .int .i64 E]) ∧ Below w.heap.size w w' := by
  have V1 := Lib.hid v1
  clear v1
  have V2 := Lib.hid v2
  clear v2
  have HF := Lib.hid hf
  clear hf
  replace hE := Lib.hid hE
  go_enter Tryz.func57, Tryz.ntmps57
  go_wp2_with fail
  refine (Valid_any g1 n1 d1 _ (hE.out.below (four_below w _ _ _ _)) s1 s2).mono ?_
  rintro e w1 ⟨rfl, hb1⟩
  rw [V1.out]
  have q1 := (RunBoxes.new w _ _ g1 g2 n1 d1 n2 d2).below hb1
  have hB1 := Lib.hid ((four_below w _ _ _ _).trans (hb1.mono (four_below w _ _ _ _).size))
  obtain ⟨a1, a2⟩ := q1.1.facts
  obtain ⟨b1, b2, b3, b4, b5, b6⟩ := q1.2.1.facts
  obtain ⟨c1, c2, c3, c4, c5, c6⟩ := q1.2.2.1.facts
  obtain ⟨d1', d2', d3, d4, d5, d6⟩ := q1.2.2.2.facts
  have hz1 := q1.2.2.2.lt
  replace q1 := Lib.hid q1
  clear hb1
  go_wp2_with fail
  refine (Valid_any g2 n2 d2 _ (hE.out.below hB1.out) s3 s4).mono ?_
  rintro e w2 ⟨rfl, hb2⟩
  rw [V2.out]
  have q2 := q1.out.below hb2
  have hB2 := Lib.hid (hB1.out.trans (hb2.mono hB1.out.size))
  clear a1 a2 b1 b2 b3 b4 b5 b6 c1 c2 c3 c4 c5 c6 d1' d2' d3 d4 d5 d6 hb2 q1
  obtain ⟨a1, a2⟩ := q2.1.facts
  obtain ⟨b1, b2, b3, b4, b5, b6⟩ := q2.2.1.facts
  obtain ⟨c1, c2, c3, c4, c5, c6⟩ := q2.2.2.1.facts
  obtain ⟨d1', d2', d3, d4, d5, d6⟩ := q2.2.2.2.facts
  have hz2 := q2.2.2.2.lt
  replace q2 := Lib.hid q2
  go_wp2_with fail
  refine (HF.out _ (hE.out.below hB2.out)).mono ?_
  rintro e w3 ⟨rfl, hb3⟩
  have q3 := q2.out.below hb3
  have hB3 := Lib.hid (hB2.out.trans (hb3.mono hB2.out.size))
  clear a1 a2 b1 b2 b3 b4 b5 b6 c1 c2 c3 c4 c5 c6 d1' d2' d3 d4 d5 d6 hb3 q2
  obtain ⟨d1', d2', d3, d4, d5, d6⟩ := q3.2.2.2.facts
  have hz3 := q3.2.2.2.lt
  replace q3 := Lib.hid q3
  go_wp2
  refine bodyPost_ret (v := .tuple #[.agg #[.bool r, .string n, .string d], .int .i64 E]) (by simp [results, Tryz.results57, go_sem, d1', d2', d3]) rfl ⟨rfl, ?_⟩
  repeat refine Below.setCell ?_ (by simp only []; omega) _
  exact hB3.out
set_option maxRecDepth 100000 in
set_option maxHeartbeats 2000000 in
theorem run_product (g1 g2 : Bool) (n1 d1 n2 d2 : ByteArray) (w : World) (hE : Env w) (s1 : n1.size ≤ 140737488355328) (s2 : d1.size ≤ 140737488355328) (s3 : n2.size ≤ 140737488355328) (s4 : d2.size ≤ 140737488355328) (v1 : validB g1 n1 d1 = true) (v2 : validB g2 n2 d2 = true) (l1 : n1.size ≤ 140) (l2 : d1.size ≤ 140) (l3 : n2.size ≤ 140) (l4 : d2.size ≤ 140) (r : Bool) (n d : ByteArray) (E : Int)
    (hf : ∀ W, Env W → Calls Tryz.prog 56 #[.agg #[.bool g1, .string n1, .string d1], .agg #[.bool g2, .string n2, .string d2]] W fun e w' => e = .returned (.tuple #[.agg #[.bool r, .string n, .string d], .int .i64 E]) ∧ Below W.heap.size W w') :
    Calls Tryz.prog 57 #[.agg #[.bool false, .func (.func 56) #[] #[]], .agg #[.bool g1, .string n1, .string d1], .agg #[.bool g2, .string n2, .string d2]] w fun e w' => e = .returned (.tuple #[.agg #[.bool r, .string n, .string d], .int .i64 E]) ∧ Below w.heap.size w w' := by
  have V1 := Lib.hid v1
  clear v1
  have V2 := Lib.hid v2
  clear v2
  have HF := Lib.hid hf
  clear hf
  replace hE := Lib.hid hE
  go_enter Tryz.func57, Tryz.ntmps57
  go_wp2_with fail
  refine (Valid_any g1 n1 d1 _ (hE.out.below (four_below w _ _ _ _)) s1 s2).mono ?_
  rintro e w1 ⟨rfl, hb1⟩
  rw [V1.out]
  have q1 := (RunBoxes.new w _ _ g1 g2 n1 d1 n2 d2).below hb1
  have hB1 := Lib.hid ((four_below w _ _ _ _).trans (hb1.mono (four_below w _ _ _ _).size))
  obtain ⟨a1, a2⟩ := q1.1.facts
  obtain ⟨b1, b2, b3, b4, b5, b6⟩ := q1.2.1.facts
  obtain ⟨c1, c2, c3, c4, c5, c6⟩ := q1.2.2.1.facts
  obtain ⟨d1', d2', d3, d4, d5, d6⟩ := q1.2.2.2.facts
  have hz1 := q1.2.2.2.lt
  replace q1 := Lib.hid q1
  clear hb1
  go_wp2_with fail
  refine (Valid_any g2 n2 d2 _ (hE.out.below hB1.out) s3 s4).mono ?_
  rintro e w2 ⟨rfl, hb2⟩
  rw [V2.out]
  have q2 := q1.out.below hb2
  have hB2 := Lib.hid (hB1.out.trans (hb2.mono hB1.out.size))
  clear a1 a2 b1 b2 b3 b4 b5 b6 c1 c2 c3 c4 c5 c6 d1' d2' d3 d4 d5 d6 hb2 q1
  obtain ⟨a1, a2⟩ := q2.1.facts
  obtain ⟨b1, b2, b3, b4, b5, b6⟩ := q2.2.1.facts
  obtain ⟨c1, c2, c3, c4, c5, c6⟩ := q2.2.2.1.facts
  obtain ⟨d1', d2', d3, d4, d5, d6⟩ := q2.2.2.2.facts
  have hz2 := q2.2.2.2.lt
  replace q2 := Lib.hid q2
  go_wp2_with fail
  refine (HF.out _ (hE.out.below hB2.out)).mono ?_
  rintro e w3 ⟨rfl, hb3⟩
  have q3 := q2.out.below hb3
  have hB3 := Lib.hid (hB2.out.trans (hb3.mono hB2.out.size))
  clear a1 a2 b1 b2 b3 b4 b5 b6 c1 c2 c3 c4 c5 c6 d1' d2' d3 d4 d5 d6 hb3 q2
  obtain ⟨d1', d2', d3, d4, d5, d6⟩ := q3.2.2.2.facts
  have hz3 := q3.2.2.2.lt
  replace q3 := Lib.hid q3
  go_wp2
  refine bodyPost_ret (v := .tuple #[.agg #[.bool r, .string n, .string d], .int .i64 E]) (by simp [results, Tryz.results57, go_sem, d1', d2', d3]) rfl ⟨rfl, ?_⟩
  repeat refine Below.setCell ?_ (by simp only []; omega) _
  exact hB3.out
end Nt
end Go.Proofs.YtpmlhgmmobpilaaGreatDoor

namespace Go.Proofs.YtpmlhgmmobpilaaGreatDoor
open Go.RowKit Go.Shelf
namespace Nt
theorem short_sizes {q : Rat} (h : ShortQ q) : (T (some q.num.natAbs)).size ≤ 140 ∧ (T (some q.den)).size ≤ 140 := ⟨(size_L1 _).2 h.1, (size_L1 _).2 h.2⟩
theorem num_ne_zero {q : Rat} (h : q ≠ 0) : q.num ≠ 0 := fun e => h (Rat.num_eq_zero.1 e)
set_option maxRecDepth 100000 in
set_option maxHeartbeats 1000000 in
theorem Add_w (g1 g2 : Bool) (n1 d1 n2 d2 : ByteArray) (r : Bool) (n d : ByteArray) (E : Int) (w : World) (hE : Env w)
    (hr : ∀ W, Env W → Calls Tryz.prog 57 #[.agg #[.bool false, .func (.func 58) #[] #[]], .agg #[.bool g1, .string n1, .string d1], .agg #[.bool g2, .string n2, .string d2]] W fun e w' => e = .returned (.tuple #[.agg #[.bool r, .string n, .string d], .int .i64 E]) ∧ Below W.heap.size W w') :
    Calls Tryz.prog 20 #[.agg #[.bool g1, .string n1, .string d1], .agg #[.bool g2, .string n2, .string d2]] w fun e w' => e = .returned (.tuple #[.agg #[.bool r, .string n, .string d], .int .i64 E]) ∧ Below w.heap.size w w' := by
  have hQE := Lib.hid (TwoBoxes.new w g1 g2 n1 d1 n2 d2)
  have hBE := Lib.hid (twoW_below w g1 g2 n1 d1 n2 d2)
  replace hE := Lib.hid hE
  replace hr := Lib.hid hr
  go_enter Tryz.func20, Tryz.ntmps20
  go_wp2_with fail
  refine (hr.out _ (hE.out.below hBE.out)).mono ?_
  rintro e w1 ⟨rfl, hb1⟩
  have q1 := hQE.out.below hb1
  have hB1 := Lib.hid (hBE.out.trans (hb1.mono hBE.out.size))
  obtain ⟨c1, c2, c3, c4, c5, c6⟩ := q1.2.2.facts
  have hz1 := q1.2.2.lt
  clear hb1
  replace q1 := Lib.hid q1
  go_wp2
  refine bodyPost_ret (v := .tuple #[.agg #[.bool r, .string n, .string d], .int .i64 E]) (by simp [results, Tryz.results20, go_sem, c1, c2, c3]) rfl ⟨rfl, ?_⟩
  repeat refine Below.setCell ?_ (by simp only []; omega) _
  exact hB1.out
theorem Add_short (p q : Rat) (hp : ShortQ p) (hq : ShortQ q) (w : World) (hE : Env w) :
    Calls Tryz.prog 20 #[qv p, qv q] w fun e w' => e = .returned (.tuple #[qv (p + q), .int .i64 0]) ∧ Below w.heap.size w w' := by
  have l1 := short_sizes hp
  have l2 := short_sizes hq
  refine Add_w _ _ _ _ _ _ _ _ _ _ w hE fun W hW => ?_
  exact run_sum _ _ _ _ _ _ W hW (by omega) (by omega) (by omega) (by omega) (valid_qv hp.ok) (valid_qv hq.ok) l1.1 l1.2 l2.1 l2.2 _ _ _ _ fun W2 h2 => sum_q p q hp hq W2 h2
set_option maxRecDepth 100000 in
set_option maxHeartbeats 1000000 in
theorem Sub_w (g1 g2 : Bool) (n1 d1 n2 d2 : ByteArray) (r : Bool) (n d : ByteArray) (E : Int) (w : World) (hE : Env w)
    (hr : ∀ W, Env W → Calls Tryz.prog 57 #[.agg #[.bool false, .func (.func 67) #[] #[]], .agg #[.bool g1, .string n1, .string d1], .agg #[.bool g2, .string n2, .string d2]] W fun e w' => e = .returned (.tuple #[.agg #[.bool r, .string n, .string d], .int .i64 E]) ∧ Below W.heap.size W w') :
    Calls Tryz.prog 24 #[.agg #[.bool g1, .string n1, .string d1], .agg #[.bool g2, .string n2, .string d2]] w fun e w' => e = .returned (.tuple #[.agg #[.bool r, .string n, .string d], .int .i64 E]) ∧ Below w.heap.size w w' := by
  have hQE := Lib.hid (TwoBoxes.new w g1 g2 n1 d1 n2 d2)
  have hBE := Lib.hid (twoW_below w g1 g2 n1 d1 n2 d2)
  replace hE := Lib.hid hE
  replace hr := Lib.hid hr
  go_enter Tryz.func24, Tryz.ntmps24
  go_wp2_with fail
  refine (hr.out _ (hE.out.below hBE.out)).mono ?_
  rintro e w1 ⟨rfl, hb1⟩
  have q1 := hQE.out.below hb1
  have hB1 := Lib.hid (hBE.out.trans (hb1.mono hBE.out.size))
  obtain ⟨c1, c2, c3, c4, c5, c6⟩ := q1.2.2.facts
  have hz1 := q1.2.2.lt
  clear hb1
  replace q1 := Lib.hid q1
  go_wp2
  refine bodyPost_ret (v := .tuple #[.agg #[.bool r, .string n, .string d], .int .i64 E]) (by simp [results, Tryz.results24, go_sem, c1, c2, c3]) rfl ⟨rfl, ?_⟩
  repeat refine Below.setCell ?_ (by simp only []; omega) _
  exact hB1.out
theorem Sub_short (p q : Rat) (hp : ShortQ p) (hq : ShortQ q) (w : World) (hE : Env w) :
    Calls Tryz.prog 24 #[qv p, qv q] w fun e w' => e = .returned (.tuple #[qv (p - q), .int .i64 0]) ∧ Below w.heap.size w w' := by
  have l1 := short_sizes hp
  have l2 := short_sizes hq
  refine Sub_w _ _ _ _ _ _ _ _ _ _ w hE fun W hW => ?_
  exact run_sub _ _ _ _ _ _ W hW (by omega) (by omega) (by omega) (by omega) (valid_qv hp.ok) (valid_qv hq.ok) l1.1 l1.2 l2.1 l2.2 _ _ _ _ fun W2 h2 => subc_q p q hp hq W2 h2
set_option maxRecDepth 100000 in
set_option maxHeartbeats 1000000 in
theorem Mul_w (g1 g2 : Bool) (n1 d1 n2 d2 : ByteArray) (r : Bool) (n d : ByteArray) (E : Int) (w : World) (hE : Env w)
    (hr : ∀ W, Env W → Calls Tryz.prog 57 #[.agg #[.bool false, .func (.func 56) #[] #[]], .agg #[.bool g1, .string n1, .string d1], .agg #[.bool g2, .string n2, .string d2]] W fun e w' => e = .returned (.tuple #[.agg #[.bool r, .string n, .string d], .int .i64 E]) ∧ Below W.heap.size W w') :
    Calls Tryz.prog 19 #[.agg #[.bool g1, .string n1, .string d1], .agg #[.bool g2, .string n2, .string d2]] w fun e w' => e = .returned (.tuple #[.agg #[.bool r, .string n, .string d], .int .i64 E]) ∧ Below w.heap.size w w' := by
  have hQE := Lib.hid (TwoBoxes.new w g1 g2 n1 d1 n2 d2)
  have hBE := Lib.hid (twoW_below w g1 g2 n1 d1 n2 d2)
  replace hE := Lib.hid hE
  replace hr := Lib.hid hr
  go_enter Tryz.func19, Tryz.ntmps19
  go_wp2_with fail
  refine (hr.out _ (hE.out.below hBE.out)).mono ?_
  rintro e w1 ⟨rfl, hb1⟩
  have q1 := hQE.out.below hb1
  have hB1 := Lib.hid (hBE.out.trans (hb1.mono hBE.out.size))
  obtain ⟨c1, c2, c3, c4, c5, c6⟩ := q1.2.2.facts
  have hz1 := q1.2.2.lt
  clear hb1
  replace q1 := Lib.hid q1
  go_wp2
  refine bodyPost_ret (v := .tuple #[.agg #[.bool r, .string n, .string d], .int .i64 E]) (by simp [results, Tryz.results19, go_sem, c1, c2, c3]) rfl ⟨rfl, ?_⟩
  repeat refine Below.setCell ?_ (by simp only []; omega) _
  exact hB1.out
theorem Mul_short (p q : Rat) (hp : ShortQ p) (hq : ShortQ q) (w : World) (hE : Env w) :
    Calls Tryz.prog 19 #[qv p, qv q] w fun e w' => e = .returned (.tuple #[qv (p * q), .int .i64 0]) ∧ Below w.heap.size w w' := by
  have l1 := short_sizes hp
  have l2 := short_sizes hq
  refine Mul_w _ _ _ _ _ _ _ _ _ _ w hE fun W hW => ?_
  exact run_product _ _ _ _ _ _ W hW (by omega) (by omega) (by omega) (by omega) (valid_qv hp.ok) (valid_qv hq.ok) l1.1 l1.2 l2.1 l2.2 _ _ _ _ fun W2 h2 => product_q p q hp hq W2 h2
def cmpQ (p q : Rat) : Int := if p < q then -1 else if p = q then 0 else 1
theorem neg_iff (q : Rat) : q.num < 0 ↔ q < 0 := by
  rw [Rat.lt_iff]
  show _ ↔ q.num * 1 < 0 * _
  omega
theorem sub_neg_iff (p q : Rat) : (p - q).num < 0 ↔ p < q := by
  rw [neg_iff, Rat.sub_lt_iff, Rat.zero_add]
theorem sub_zero_iff (p q : Rat) : p - q = 0 ↔ p = q := by
  constructor
  · intro h
    have e : p - q + q = 0 + q := congrArg (· + q) h
    rwa [Rat.sub_add_cancel, Rat.zero_add] at e
  · intro h; rw [h]; exact Rat.sub_self
set_option maxRecDepth 100000 in
set_option maxHeartbeats 1000000 in
theorem Compare_w (g1 g2 : Bool) (n1 d1 n2 d2 : ByteArray) (r : Bool) (n d : ByteArray) (E c f : Int) (w : World) (hE : Env w)
    (hs : ∀ W, Env W → Calls Tryz.prog 24 #[.agg #[.bool g1, .string n1, .string d1], .agg #[.bool g2, .string n2, .string d2]] W fun e w' => e = .returned (.tuple #[.agg #[.bool r, .string n, .string d], .int .i64 E]) ∧ Below W.heap.size W w')
    (hk : (E ≠ 0 ∧ c = 0 ∧ f = E) ∨ (E = 0 ∧ r = true ∧ c = -1 ∧ f = 0) ∨ (E = 0 ∧ r = false ∧ (n.toList == [48]) = true ∧ c = 0 ∧ f = 0) ∨ (E = 0 ∧ r = false ∧ (n.toList == [48]) = false ∧ c = 1 ∧ f = 0)) :
    Calls Tryz.prog 25 #[.agg #[.bool g1, .string n1, .string d1], .agg #[.bool g2, .string n2, .string d2]] w fun e w' => e = .returned (.tuple #[.int .i64 c, .int .i64 f]) ∧ Below w.heap.size w w' := by
  have hBE : Hid (Below w.heap.size w ((w.alloc (.cells #[.bool g1, .string n1, .string d1] 23)).alloc (.cells #[.bool g2, .string n2, .string d2] 23))) := ((Below.refl _ w).alloc (Nat.le_refl _) _).alloc (by simp) _
  replace hE := Lib.hid hE
  replace hs := Lib.hid hs
  rcases hk with ⟨h1, rfl, rfl⟩ | ⟨rfl, rfl, rfl, rfl⟩ | ⟨rfl, rfl, h1, rfl, rfl⟩ | ⟨rfl, rfl, h1, rfl, rfl⟩
  rotate_left
  all_goals
    go_enter Tryz.func25, Tryz.ntmps25
    go_wp2_with fail
    refine (hs.out _ (hE.out.below hBE.out)).mono ?_
    rintro e w1 ⟨rfl, hb1⟩
    have hB1 := Lib.hid (hBE.out.trans (hb1.mono hBE.out.size))
    clear hb1
    go_wp2
    go_ret2
    exact ⟨rfl, hB1.out.alloc hB1.out.size _⟩
theorem Compare_short (p q : Rat) (hp : ShortQ p) (hq : ShortQ q) (w : World) (hE : Env w) :
    Calls Tryz.prog 25 #[qv p, qv q] w fun e w' => e = .returned (.tuple #[.int .i64 (cmpQ p q), .int .i64 0]) ∧ Below w.heap.size w w' := by
  refine Compare_w _ _ _ _ _ _ _ _ _ 0 (cmpQ p q) 0 w hE (fun W hW => Sub_short p q hp hq W hW) ?_
  unfold cmpQ
  rw [T_is_zero]
  by_cases h1 : p < q
  · exact .inr (.inl ⟨rfl, decide_eq_true ((sub_neg_iff p q).2 h1), if_pos h1, rfl⟩)
  · have hn := (not_congr (sub_neg_iff p q)).2 h1
    rw [if_neg h1]
    by_cases h2 : p = q
    · refine .inr (.inr (.inl ⟨rfl, decide_eq_false hn, ?_, if_pos h2, rfl⟩))
      rw [(sub_zero_iff p q).2 h2]
      rfl
    · refine .inr (.inr (.inr ⟨rfl, decide_eq_false hn, ?_, if_neg h2, rfl⟩))
      have h3 := num_ne_zero (fun h => h2 ((sub_zero_iff p q).1 h))
      exact decide_eq_false (by omega)
end Nt
end Go.Proofs.YtpmlhgmmobpilaaGreatDoor

namespace Go.Proofs.YtpmlhgmmobpilaaGreatDoor
open Go.RowKit Go.Shelf
namespace Nt
theorem trim_minus (n : Int) : Lib.trimPrefix (Lib.itoa n) [45] = Lib.decDigits n.natAbs := by
  unfold Lib.itoa
  by_cases h : n < 0
  · rw [if_pos h]
    simp [Lib.trimPrefix, Lib.hasPrefix]
  · rw [if_neg h]
    have e : n.toNat = n.natAbs := by omega
    rw [e]
    unfold Lib.trimPrefix Lib.hasPrefix
    rw [if_neg]
    intro hp
    have hd := decDigits_dig n.natAbs
    cases hl : Lib.decDigits n.natAbs with
    | nil => exact decDigits_ne _ hl
    | cons c r =>
      rw [hl] at hp hd
      simp at hp
      have := (hd c (by simp)).1
      rw [← hp] at this
      revert this
      decide
/-- The size of an int as a text. -/
theorem size_any (n : Int) (h0 : -9223372036854775808 ≤ n) (h1 : n ≤ 9223372036854775807) (w : World) (hE : Env w) :
    Calls Tryz.prog 95 #[.int .i64 n] w fun e w' => e = .returned (.string (T (some n.natAbs))) ∧ Below w.heap.size w w' := by
  have hi := itoa_any n h0 h1 w hE.tab
  have ht := fun W => Tryz.strings_TrimPrefix ⟨(Lib.itoa n).toArray⟩ ⟨#[45]⟩ W
  have e : (⟨(Lib.trimPrefix (⟨(Lib.itoa n).toArray⟩ : ByteArray).data.toList (⟨#[45]⟩ : ByteArray).data.toList).toArray⟩ : ByteArray) = T (some n.natAbs) := by
    show (⟨(Lib.trimPrefix (Lib.itoa n) [45]).toArray⟩ : ByteArray) = _
    rw [trim_minus]
    rfl
  rw [e] at ht
  clear e
  go_enter Tryz.func95, Tryz.ntmps95
  go_wp2_with fail
  refine hi.mono ?_
  rintro e w1 ⟨rfl, hb1⟩
  replace hb1 := Lib.hid hb1
  go_wp2_with fail
  refine (ht _).mono ?_
  rintro e w2 ⟨rfl, hw2⟩
  subst hw2
  go_wp2
  go_ret
  exact ⟨rfl, hb1.out⟩
theorem one_below (w : World) (o : Obj) : Below w.heap.size w (w.alloc o) := (Below.refl _ w).alloc (Nat.le_refl _) _
theorem int_abs_lim {n : Int} (h0 : -9223372036854775808 ≤ n) (h1 : n ≤ 9223372036854775807) : n.natAbs < L1 := by
  have h : 10 ^ 20 ≤ L1 := Nat.pow_le_pow_right (by omega) (by rw [mx1_eq]; omega)
  omega
/-- The quotient of two ints, as a row of fields. -/
theorem Of_w (m n : Int) (hm0 : -9223372036854775808 ≤ m) (hm1 : m ≤ 9223372036854775807) (hn0 : -9223372036854775808 ≤ n) (hn1 : n ≤ 9223372036854775807) (h0 : n ≠ 0) (r : Bool) (x y : ByteArray) (w : World) (hE : Env w)
    (hl : ∀ W, Env W → Calls Tryz.prog 97 #[.bool (!(decide (m < 0) == decide (n < 0))), .string (T (some m.natAbs)), .string (T (some n.natAbs))] W fun e w' => e = .returned (.tuple #[.agg #[.bool r, .string x, .string y], .int .i64 0]) ∧ Below W.heap.size W w') :
    Calls Tryz.prog 46 #[.int .i64 m, .int .i64 n] w fun e w' => e = .returned (.tuple #[.agg #[.bool r, .string x, .string y], .int .i64 0]) ∧ Below w.heap.size w w' := by
  have hz : (n == 0) = false := by rw [beq_eq_false_iff_ne]; exact h0
  have c1 := fun W (h : Env W) => size_any m hm0 hm1 W h
  have c2 := fun W (h : Env W) => size_any n hn0 hn1 W h
  replace hE := Lib.hid hE
  replace hl := Lib.hid hl
  replace h0 := Lib.hid h0
  clear hm0 hm1 hn0 hn1
  go_enter Tryz.func46, Tryz.ntmps46
  go_wp2_with fail
  refine (c1 _ (hE.out.below (one_below _ _))).mono ?_
  rintro e w1 ⟨rfl, hb1⟩
  have q1 := (B3.new w false ⟨#[]⟩ ⟨#[]⟩).below hb1
  have hB1 := Lib.hid ((one_below w (.cells #[.bool false, .string ⟨#[]⟩, .string ⟨#[]⟩] 23)).trans (hb1.mono (by simp)))
  clear hb1
  replace q1 := Lib.hid q1
  go_wp2_with fail
  refine (c2 _ (hE.out.below hB1.out)).mono ?_
  rintro e w2 ⟨rfl, hb2⟩
  have q2 := q1.out.below hb2
  have hB2 := Lib.hid (hB1.out.trans (hb2.mono hB1.out.size))
  clear hb2
  replace q2 := Lib.hid q2
  go_wp2_with fail
  refine (hl.out _ (hE.out.below hB2.out)).mono ?_
  rintro e w3 ⟨rfl, hb3⟩
  have q3 := q2.out.below hb3
  have hB3 := Lib.hid (hB2.out.trans (hb3.mono hB2.out.size))
  obtain ⟨d1, d2, d3, d4, d5, d6⟩ := q3.facts
  have hz3 := q3.lt
  clear hb3
  replace q3 := Lib.hid q3
  go_wp2
  refine bodyPost_ret (v := .tuple #[.agg #[.bool r, .string x, .string y], .int .i64 0]) (by simp [results, Tryz.results46, go_sem, d1, d2, d3]) rfl ⟨rfl, ?_⟩
  repeat refine Below.setCell ?_ (by simp only []; omega) _
  exact hB3.out
/-- The rational number m / n. -/
def ofQ (m n : Int) : Rat := mkRat (sg (!(decide (m < 0) == decide (n < 0))) m.natAbs) n.natAbs
theorem RatOf_any (m n : Int) (hm0 : -9223372036854775808 ≤ m) (hm1 : m ≤ 9223372036854775807) (hn0 : -9223372036854775808 ≤ n) (hn1 : n ≤ 9223372036854775807) (h0 : n ≠ 0) (w : World) (hE : Env w) :
    Calls Tryz.prog 46 #[.int .i64 m, .int .i64 n] w fun e w' => e = .returned (.tuple #[qv (ofQ m n), .int .i64 0]) ∧ Below w.heap.size w w' :=
  Of_w m n hm0 hm1 hn0 hn1 h0 _ _ _ w hE fun W hW => lowest_any _ m.natAbs n.natAbs W hW (L1_lim (int_abs_lim hm0 hm1)) (L1_lim (int_abs_lim hn0 hn1)) (by omega)
end Nt
end Go.Proofs.YtpmlhgmmobpilaaGreatDoor

namespace Go.Proofs.YtpmlhgmmobpilaaGreatDoor
open Go.RowKit Go.Shelf
namespace Nt
/-- What the functions of this package ask of a world. -/
def REnv (w : World) : Prop := Env w ∧ ∃ m : Int, w.cell? ⟨0, 0, none⟩ = some (.int .i64 m)
theorem REnv.lt {w : World} (h : REnv w) : 0 < w.heap.size := by
  obtain ⟨_, m, hm⟩ := h
  exact World.block_lt_of_cell? w _ hm
theorem REnv.below {w w' : World} (h : REnv w) (hb : Below w.heap.size w w') : REnv w' := by
  have hl := h.lt
  obtain ⟨h1, m, hm⟩ := h
  exact ⟨h1.below hb, m, (hb.cell (p := ⟨0, 0, none⟩) hl).trans hm⟩
end Nt
end Go.Proofs.YtpmlhgmmobpilaaGreatDoor

namespace Go.Proofs.YtpmlhgmmobpilaaGreatDoor
open Go.ChangeShapes Go.WideShapes Go.ChangeAt Go.RowKit Go.Shelf Go.Joins
namespace Nt
set_option maxRecDepth 100000 in
theorem renv_of {W : World} (h : laidMetH Tryz.prog laidL W) (hsh : W.ShapedOpen Tryz.prog) : REnv W :=
  ⟨env_of h, cell_of_shapedOpen_int (P := Tryz.prog) (g := 0) (t := 3) (zero := #[.int .i64 0]) hsh (of_decide_eq_true (by kernel_rfl)) (by kernel_rfl) rfl (by kernel_rfl) (by kernel_rfl) Tryz.underlying3⟩
section
variable {H : Type} {enc : TypeId × Value → H} {w : World} {base : Nat} {spare : Nat → Bool} {held : Bool}
end
end Nt
end Go.Proofs.YtpmlhgmmobpilaaGreatDoor

namespace Go.Proofs.YtpmlhgmmobpilaaGreatDoor
open Go.ChangeShapes Go.WideShapes Go.ChangeAt Go.RowKit Go.Shelf Go.Joins
namespace Mo
section
variable {H : Type} {enc : TypeId × Value → H} {w : World} {base : Nat} {spare : Nat → Bool} {held : Bool}
set_option maxRecDepth 100000 in
theorem cells_amt : Tryz.prog.cellsOf 35 = 2 := by kernel_rfl
set_option maxRecDepth 100000 in
theorem open_amt {r : Reach} {b0 : Nat} {v : Value} {d : DataW H} {p : List MemPlace} (hv : Value.okWide Tryz.prog w r b0 35 v) (h : DataW.Trod enc Tryz.prog w base spare held 35 v d p) :
    ∃ (c : ByteArray) (u : Int), v = .agg #[.string c, .int .i64 u] ∧ d = .agg [.lit (.string c.data.toList), .lit (.int .i64 u)] ∧ p = [] ∧ c.size ≤ maxLen ∧ (Lit.int .i64 u).wf = true := by
  obtain ⟨c0, c1, y0, y1, m, rfl, rfl, rfl, hy0, hy1⟩ := open_agg2 Tryz.underlying35 (by kernel_rfl) cells_amt hv h
  obtain ⟨c, e0, rfl, wn⟩ := DataW.trod_string Tryz.underlying9 hy0
  obtain ⟨u, e1, rfl, wu⟩ := DataW.trod_int Tryz.underlying3 hy1
  simp at e0 e1
  subst e0 e1
  exact ⟨c, u, rfl, rfl, rfl, wn, wu⟩
set_option maxRecDepth 100000 in
theorem shut_amt {c : ByteArray} {u : Int} (hc : c.size ≤ maxLen) (hu : (Lit.int .i64 u).wf = true) :
    DataW.Trod enc Tryz.prog w base spare held 35 (.agg #[.string c, .int .i64 u]) (.agg [.lit (.string c.data.toList), .lit (.int .i64 u)]) [] := by
  have h := shut_agg2 (enc := enc) (w := w) (base := base) (spare := spare) (held := held) (t := 35) Tryz.underlying35 (by kernel_rfl) cells_amt
    (field_of_Trod (Go.ChangeMaps.shut_string Tryz.underlying9 hc) rfl) (field_of_Trod (shut_int Tryz.underlying3 hu) rfl)
  simpa using h
end
set_option maxRecDepth 100000 in
theorem size_amt {H : Type} {ts : List TypeId} {ds : List (DataW H)} {j : Nat} {c : ByteArray} {u : Int} (hsz : (DataW.weightsEach Tryz.prog ts ds).all (· ≤ reachBytes) = true) (ht : ts[j]? = some 35)
    (hd : ds[j]? = some (.agg [.lit (.string c.data.toList), .lit (.int .i64 u)])) : c.size ≤ 140737488355328 := by
  have hm := DataW.weights_mem_each (P := Tryz.prog) ht hd
  have h1 : c.data.toList.length ≤ 140737488351232 := of_decide_eq_true (List.all_eq_true.1 hsz _ (hm _ (by simp [DataW.weights, DataW.weightsEach, Tryz.underlying35])))
  have z1 : c.size = c.data.toList.length := Lib.size_eq _
  omega
set_option maxRecDepth 100000 in
theorem size_str {H : Type} {ts : List TypeId} {ds : List (DataW H)} {j : Nat} {c : ByteArray} (hsz : (DataW.weightsEach Tryz.prog ts ds).all (· ≤ reachBytes) = true) (ht : ts[j]? = some 9)
    (hd : ds[j]? = some (.lit (.string c.data.toList))) : c.size ≤ 140737488355328 := by
  have hm := DataW.weights_mem_each (P := Tryz.prog) ht hd
  have h1 : c.data.toList.length ≤ 140737488351232 := of_decide_eq_true (List.all_eq_true.1 hsz _ (hm _ (by simp [DataW.weights])))
  have z1 : c.size = c.data.toList.length := Lib.size_eq _
  omega
end Mo
end Go.Proofs.YtpmlhgmmobpilaaGreatDoor

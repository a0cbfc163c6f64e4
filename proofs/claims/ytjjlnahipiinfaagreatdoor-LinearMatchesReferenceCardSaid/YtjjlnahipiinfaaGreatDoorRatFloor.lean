/- ratio's Floor. -/
import Derived.Test.YtjjlnahipiinfaaGreatDoorRatOf
import Derived.LaidEql
namespace Go.Proofs.YtjjlnahipiinfaaGreatDoor
open Go.RowKit Go.Shelf
namespace Nt

theorem atoi_neg (n : Nat) (hn : 0 < n) : Lib.atoiAll (45 :: Lib.decDigits n) = if n ≤ 9223372036854775808 then .ok (-(n : Int)) else .range := by
  have hd := decDigits_dig n
  have hv := dval_decDigits n
  have hne := decDigits_ne n
  have hp := parse10 (Lib.decDigits n) 0 hd (by omega)
  rw [Nat.zero_mul, Nat.zero_add, hv] at hp
  unfold Lib.atoiAll
  simp only [Lib.parseMag]
  have e45 : (if (45 : UInt8).toNat = 43 ∨ (45 : UInt8).toNat = 45 then Lib.decDigits n else 45 :: Lib.decDigits n) = Lib.decDigits n := if_pos (by decide)
  rw [e45, if_neg hne, hp]
  by_cases hle : n ≤ 9223372036854775808
  · rw [if_pos (by omega), if_pos hle]
    simp
    omega
  · rw [if_neg hle]
    by_cases h64 : n < 18446744073709551616
    · rw [if_pos h64]
      simp
      omega
    · rw [if_neg h64]

def InInt (z : Int) : Prop := -9223372036854775808 ≤ z ∧ z ≤ 9223372036854775807
instance (z : Int) : Decidable (InInt z) := inferInstanceAs (Decidable (_ ∧ _))
theorem T_size (n : Nat) (h : n < Lim) : (T (some n)).size ≤ 300 := by
  have h1 : isN (T (some n)) = true := isN_T (ok_some h)
  exact size_of_isN h1
theorem minus_list (n : Nat) : ((⟨#[45]⟩ : ByteArray) ++ T (some n)).data.toList = 45 :: Lib.decDigits n := by
  rw [ByteArray.toList_data_append]
  rfl
theorem minus_size (n : Nat) (h : n < Lim) : ((⟨#[45]⟩ : ByteArray) ++ T (some n)).size ≤ 301 := by
  have h1 := T_size n h
  have h2 : (T (some n)).size = (Lib.decDigits n).length := by rw [Lib.size_eq]; rfl
  rw [Lib.size_eq, minus_list, List.length_cons]
  omega

theorem addOneT (k : Nat) (w : World) (hE : Env w) (hk : k + 1 < Lim) : Calls Tryz.prog 63 #[.string (T (some k)), .string ⟨#[49]⟩] w fun e w' => e = .returned (.tuple #[.string (T (some (k + 1))), .int .i64 0]) ∧ Below w.heap.size w w' := by
  have := addT (some k) (some 1) w hE (ok_some (by omega)) (ok_some one_lt_Lim)
  rw [show sumO (some k) (some 1) = some (k + 1) by simp only [sumO, apO, limO, if_pos hk], show sumE (some k) (some 1) = 0 by simp only [sumE, apE, if_pos hk], T_one] at this
  exact this

theorem neg_ediv_up (a d : Nat) (hd : 0 < d) (hr : a % d ≠ 0) : (-(a : Int)) / (d : Int) = -((a / d + 1 : Nat) : Int) := by
  have h1 := Nat.div_add_mod a d
  have h2 := Nat.mod_lt a hd
  have key : (-(a : Int)) / (d : Int) = -((a / d + 1 : Nat) : Int) ∧ (-(a : Int)) % (d : Int) = ((d - a % d : Nat) : Int) := by
    refine (Int.ediv_emod_unique (by omega)).2 ⟨?_, by omega, by omega⟩
    generalize a / d = k at *
    generalize a % d = r at *
    have h3 : ((d * k : Nat) : Int) = (d : Int) * (k : Int) := Int.natCast_mul _ _
    have h4 : (d : Int) * (-((k + 1 : Nat) : Int)) = -((d : Int) * (k : Int)) - d := by
      rw [Int.mul_neg, Int.natCast_add, Int.mul_add]
      omega
    rw [h4, ← h3]
    omega
  exact key.1

/-- The floor of a number, where an int holds it. -/
def floorV (q : Rat) : Int := if InInt q.floor then q.floor else 0
def floorE (q : Rat) : Int := if InInt q.floor then 0 else 10

end Nt
end Go.Proofs.YtjjlnahipiinfaaGreatDoor


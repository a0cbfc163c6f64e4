/- ratio's Floor. -/
import Derived.Test.YthggedpgcchneaaGreatDoorRatOf
import Derived.LaidEql
namespace Go.Proofs.YthggedpgcchneaaGreatDoor
open Go.RowKit Go.Shelf
namespace Nt

theorem atoi_neg (n : Nat) (hn : 0 < n) : Lib.atoiAll (45 :: Lib.decDigits n) = if n ≤ 9223372036854775808 then .ok (-(n : Int)) else .range := by
  have hd := decDigits_dig n
  have hv := dval_decDigits n
  have hne := decDigits_ne n
  have hp := parse10 (Lib.decDigits n) 0 hd (by omega)
  rw [Nat.zero_mul, Nat.zero_add, hv] at hp
  unfold Lib.atoiAll
  simp only [Lib.parseMag]
  have e45 : (if (45 : UInt8).toNat = 43 ∨ (45 : UInt8).toNat = 45 then Lib.decDigits n else 45 :: Lib.decDigits n) = Lib.decDigits n := if_pos (by decide)
  rw [e45, if_neg hne, hp]
  by_cases hle : n ≤ 9223372036854775808
  · rw [if_pos (by omega), if_pos hle]
    simp
    omega
  · rw [if_neg hle]
    by_cases h64 : n < 18446744073709551616
    · rw [if_pos h64]
      simp
      omega
    · rw [if_neg h64]

/-- What Atoi does to a text: a number, or some error. -/
def AtoiOk (s : ByteArray) (z : Int) : Prop := ∀ W, Env W → Calls Tryz.prog 38 #[.string s] W fun e w' => e = .returned (.tuple #[.int .i64 z, .nilIface]) ∧ Below W.heap.size W w'
def AtoiBad (s : ByteArray) : Prop := ∀ W, Env W → Calls Tryz.prog 38 #[.string s] W fun e w' => ∃ (z : Int) (N : Nat), e = .returned (.tuple #[.int .i64 z, .iface 96 (.pointer (some ⟨N, 0, none⟩))]) ∧ Below W.heap.size W w'
theorem atoi_ok (s : ByteArray) (z : Int) (hs : s.size ≤ 1000000) (h : Lib.atoiAll s.data.toList = .ok z) : AtoiOk s z := fun W _ => by
  refine (Tryz.strconv_Atoi_ok s (by omega) _ h W).mono ?_
  rintro e w' ⟨rfl, rfl | ⟨t, rfl⟩⟩
  · exact ⟨rfl, Below.refl _ _⟩
  · exact ⟨rfl, Go.Joins.below_bytesWorld _ _ _ _ (Nat.le_refl _)⟩
theorem atoi_bad (s : ByteArray) (hs : s.size ≤ 1000000) (h : Lib.atoiAll s.data.toList = .range) : AtoiBad s := fun W hE => by
  obtain ⟨tp, p, hv⟩ := hE.rng
  refine (Tryz.strconv_Atoi_range_var s (by omega) h tp p W hv).mono ?_
  rintro e w' ⟨N, rfl, _, _, hb⟩
  exact ⟨_, N, rfl, hb⟩

def InInt (z : Int) : Prop := -9223372036854775808 ≤ z ∧ z ≤ 9223372036854775807
instance (z : Int) : Decidable (InInt z) := inferInstanceAs (Decidable (_ ∧ _))
theorem T_size (n : Nat) (h : n < Lim) : (T (some n)).size ≤ 300 := by
  have h1 : isN (T (some n)) = true := isN_T (ok_some h)
  exact size_of_isN h1
theorem minus_list (n : Nat) : ((⟨#[45]⟩ : ByteArray) ++ T (some n)).data.toList = 45 :: Lib.decDigits n := by
  rw [ByteArray.toList_data_append]
  rfl
theorem minus_size (n : Nat) (h : n < Lim) : ((⟨#[45]⟩ : ByteArray) ++ T (some n)).size ≤ 301 := by
  have h1 := T_size n h
  have h2 : (T (some n)).size = (Lib.decDigits n).length := by rw [Lib.size_eq]; rfl
  rw [Lib.size_eq, minus_list, List.length_cons]
  omega

theorem neg_ediv_up (a d : Nat) (hd : 0 < d) (hr : a % d ≠ 0) : (-(a : Int)) / (d : Int) = -((a / d + 1 : Nat) : Int) := by
  have h1 := Nat.div_add_mod a d
  have h2 := Nat.mod_lt a hd
  have key : (-(a : Int)) / (d : Int) = -((a / d + 1 : Nat) : Int) ∧ (-(a : Int)) % (d : Int) = ((d - a % d : Nat) : Int) := by
    refine (Int.ediv_emod_unique (by omega)).2 ⟨?_, by omega, by omega⟩
    generalize a / d = k at *
    generalize a % d = r at *
    have h3 : ((d * k : Nat) : Int) = (d : Int) * (k : Int) := Int.natCast_mul _ _
    have h4 : (d : Int) * (-((k + 1 : Nat) : Int)) = -((d : Int) * (k : Int)) - d := by
      rw [Int.mul_neg, Int.natCast_add, Int.mul_add]
      omega
    rw [h4, ← h3]
    omega
  exact key.1

/-- The floor of a number, where an int holds it. -/
def floorV (q : Rat) : Int := if InInt q.floor then q.floor else 0
def floorE (q : Rat) : Int := if InInt q.floor then 0 else 10

end Nt
end Go.Proofs.YthggedpgcchneaaGreatDoor


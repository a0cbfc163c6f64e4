/- Of and Int, over numbers that an int holds. -/
import Derived.Test.YtdojfnjgipeogaaGreatDoorNatO
namespace Go.Proofs.YtdojfnjgipeogaaGreatDoor
open Go.RowKit Go.Shelf
namespace Nt

theorem maxInt_lt : 9223372036854775807 < Lim := by
  have e : num 9223372036854775807 = ⟨#[57, 50, 50, 51, 51, 55, 50, 48, 51, 54, 56, 53, 52, 55, 55, 53, 56, 48, 55]⟩ := num_lit [57, 50, 50, 51, 51, 55, 50, 48, 51, 54, 56, 53, 52, 55, 55, 53, 56, 48, 55] _ (by decide) (by decide)
  exact (isN_num_iff _).1 (by rw [e]; decide)
theorem ok_int {n : Nat} (h : n ≤ 9223372036854775807) : Ok (some n) := ok_some (by have := maxInt_lt; omega)

theorem ofT (n : Nat) (w : World) (hE : Env w) (h : n ≤ 9223372036854775807) : Calls Tryz.prog 16 #[.int .i64 (n : Int)] w fun e w' => e = .returned (.string (T (some n))) ∧ Below w.heap.size w w' := by
  refine (Of_any n w hE (by omega) (by omega)).mono ?_
  rintro e w' ⟨rfl, hb⟩
  exact ⟨rfl, hb⟩
theorem ofI (z : Int) (n : Nat) (w : World) (hE : Env w) (hz : z = n) (h : n ≤ 9223372036854775807) : Calls Tryz.prog 16 #[.int .i64 z] w fun e w' => e = .returned (.string (T (some n))) ∧ Below w.heap.size w w' := by
  subst hz
  exact ofT n w hE h
theorem ofNeg (n : Int) (w : World) (hE : Env w) (hl : -9223372036854775808 ≤ n) (h : n < 0) : Calls Tryz.prog 16 #[.int .i64 n] w fun e w' => e = .returned (.string ⟨#[]⟩) ∧ Below w.heap.size w w' := by
  refine (Of_any n w hE hl (by omega)).mono ?_
  rintro e w' ⟨rfl, hb⟩
  exact ⟨by unfold ofS; rw [if_pos h], hb⟩
theorem intT (n : Nat) (w : World) (hE : Env w) (h : n ≤ 9223372036854775807) : Calls Tryz.prog 10 #[.string (T (some n))] w fun e w' => e = .returned (.tuple #[.int .i64 (n : Int), .int .i64 0]) ∧ Below w.heap.size w w' := by
  refine (Int_any (T (some n)) w hE (size_T (ok_int h))).mono ?_
  rintro e w' ⟨rfl, hb⟩
  have h1 := isN_T (ok_int h)
  have h2 : val (T (some n)) = n := val_num n
  refine ⟨?_, hb⟩
  unfold intV intE
  rw [h1, h2]
  simp [h]
theorem intEmpty (w : World) (hE : Env w) : Calls Tryz.prog 10 #[.string ⟨#[]⟩] w fun e w' => e = .returned (.tuple #[.int .i64 0, .int .i64 1]) ∧ Below w.heap.size w w' := Int_any ⟨#[]⟩ w hE (by decide)

theorem int_cases (a : ByteArray) : intE a ≠ 0 ∨ ∃ j : Nat, j ≤ 9223372036854775807 ∧ intV a = j ∧ intE a = 0 ∧ a = T (some j) := by
  unfold intE intV
  by_cases h : isN a = true
  · obtain ⟨j, hj, rfl⟩ := of_isN h
    have h2 : val (T (some j)) = j := val_num j
    rw [h2, if_pos h]
    by_cases hk : j ≤ 9223372036854775807
    · rw [if_pos hk, if_pos ⟨h, hk⟩]
      exact .inr ⟨j, hk, rfl, rfl, rfl⟩
    · rw [if_neg hk]
      exact .inl (by decide)
  · rw [if_neg h]
    exact .inl (by decide)

theorem cmp_facts (a b : ByteArray) : (isN a = true ∧ isN b = true ∧ cmpE a b = 0 ∧ (cmpV a b = 0 ↔ a.toList = b.toList)) ∨ (cmpE a b = 1 ∧ (isN a = false ∨ (isN a = true ∧ isN b = false))) := by
  unfold cmpE cmpV
  cases h1 : isN a with
  | false => exact .inr ⟨by simp, .inl rfl⟩
  | true =>
    cases h2 : isN b with
    | false => exact .inr ⟨by simp, .inr ⟨rfl, rfl⟩⟩
    | true =>
      obtain ⟨j, hj, rfl⟩ := of_isN h1
      obtain ⟨k, hk, rfl⟩ := of_isN h2
      have e1 : val (T (some j)) = j := val_num j
      have e2 : val (T (some k)) = k := val_num k
      rw [e1, e2]
      refine .inl ⟨rfl, rfl, by simp, ?_⟩
      simp only [and_self, if_true]
      constructor
      · intro h
        have : j = k := by
          unfold cmpN at h
          rcases Nat.lt_trichotomy j k with l | l | l
          · simp [l] at h
          · exact l
          · simp [l, Nat.lt_asymm l] at h
        rw [this]
      · intro h
        rw [Lib.toList_data, Lib.toList_data] at h
        have h3 : T (some j) = T (some k) := by
          have := Array.toList_inj.1 h
          exact congrArg ByteArray.mk this
        have h4 := T_inj (ok_some hj) (ok_some hk) h3
        cases h4
        simp [cmpN]
theorem cmpO_cases (a b : Nat) : (a < b ∧ cmpO (some a) (some b) = -1 ∧ cmpO (some b) (some a) = 1 ∧ subX (some a) (some b) = 10) ∨ (a = b ∧ cmpO (some a) (some b) = 0 ∧ cmpO (some b) (some a) = 0 ∧ subX (some a) (some b) = 0) ∨ (b < a ∧ cmpO (some a) (some b) = 1 ∧ cmpO (some b) (some a) = -1 ∧ subX (some a) (some b) = 0) := by
  rcases Nat.lt_trichotomy a b with h | h | h
  · exact .inl ⟨h, by simp [cmpO, cmpN, h], by simp [cmpO, cmpN, h, Nat.lt_asymm h], by simp [subX, Nat.not_le.2 h]⟩
  · subst h; exact .inr (.inl ⟨rfl, by simp [cmpO, cmpN], by simp [cmpO, cmpN], by simp [subX]⟩)
  · exact .inr (.inr ⟨h, by simp [cmpO, cmpN, h, Nat.lt_asymm h], by simp [cmpO, cmpN, h], by simp [subX, Nat.le_of_lt h]⟩)
theorem wf_in {k : IntKind} {n : Int} (h : (Lit.int k n).wf = true) : k.min ≤ n ∧ n ≤ k.max := by simpa [Lit.wf] using h
theorem cmp_beq {p : Int} {l m : List UInt8} (h : p = 0 ↔ l = m) : (p == 0) = (l == m) := by rw [Bool.eq_iff_iff]; simpa using h

end Nt
end Go.Proofs.YtdojfnjgipeogaaGreatDoor

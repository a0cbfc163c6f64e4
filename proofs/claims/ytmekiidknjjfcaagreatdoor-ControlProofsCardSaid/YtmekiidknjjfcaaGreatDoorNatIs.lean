/- natural's Is: the walk, and what it says. -/
import Derived.Test.YtmekiidknjjfcaaGreatDoorNatLib
import Derived.Test.YtmekiidknjjfcaaGreatDoorNatDigits
import Derived.Lib.SlTrimSet
import Derived.Outline
namespace Go.Proofs.YtmekiidknjjfcaaGreatDoor
open Go.RowKit Go.Shelf
namespace Nt

/-- Whether a row of bytes is a natural number. -/
def isNL (l : List UInt8) : Bool := !l.isEmpty && (decide (l.length ≤ 300) && (l.all (fun c => decide (48 ≤ c.toNat ∧ c.toNat ≤ 57)) && (decide (l.length = 1) || decide (l.head? ≠ some 48))))
def isN (s : ByteArray) : Bool := isNL s.data.toList
/-- The text of a number. -/
def num (n : Nat) : ByteArray := ⟨(Lib.decDigits n).toArray⟩
/-- 10 to the 300. -/
@[irreducible] def mxd : Nat := 300
theorem mxd_eq : mxd = 300 := by unfold mxd; rfl
def Lim : Nat := 10 ^ mxd

def digs : List UInt8 := [48, 49, 50, 51, 52, 53, 54, 55, 56, 57]

theorem isNL_iff (l : List UInt8) : isNL l = true ↔ l ≠ [] ∧ l.length ≤ 300 ∧ (∀ c ∈ l, isDig c) ∧ (l.length = 1 ∨ l.head? ≠ some 48) := by
  unfold isNL isDig
  simp

theorem isN_num {n : Nat} (h : n < Lim) : isN (num n) = true := by
  unfold isN num
  rw [isNL_iff]
  refine ⟨decDigits_ne n, by rw [← mxd_eq]; exact decDigits_len (k := mxd) h (by rw [mxd_eq]; omega), decDigits_dig n, ?_⟩
  rcases Nat.eq_zero_or_pos n with e | e
  · subst e; left; rw [Lib.decDigits_one (by omega)]; rfl
  · right; exact decDigits_head n e

theorem num_of_isN {s : ByteArray} (h : isN s = true) : ∃ n, n < Lim ∧ s = num n := by
  unfold isN at h
  rw [isNL_iff] at h
  obtain ⟨h1, h2, h3, h4⟩ := h
  refine ⟨dval s.data.toList, ?_, ?_⟩
  · exact Nat.lt_of_lt_of_le (dval_lt h3) (Nat.pow_le_pow_right (by omega) (by rw [mxd_eq]; exact h2))
  · unfold num
    rw [decDigits_dval _ _ rfl h1 h3 h4]

theorem num_inj {n m : Nat} (h : num n = num m) : n = m := by
  have := congrArg (fun s : ByteArray => dval s.data.toList) h
  simpa [num, dval_decDigits] using this

theorem isN_num_iff (n : Nat) : isN (num n) = true ↔ n < Lim := by
  constructor
  · intro h
    obtain ⟨m, hm, e⟩ := num_of_isN h
    rw [num_inj e]; exact hm
  · exact isN_num

theorem trim_all (l : List UInt8) : Lib.trimS l digs = [] ↔ ∀ c ∈ l, isDig c := by
  have hd : ∀ c : UInt8, digs.contains c = true ↔ isDig c := by
    intro c
    unfold digs isDig
    simp only [List.contains_eq_mem, List.mem_cons, List.not_mem_nil, or_false, decide_eq_true_eq, ← UInt8.toNat_inj]
    simp only [UInt8.reduceToNat]
    omega
  unfold Lib.trimS Lib.trimLeftS Lib.trimRightS
  constructor
  · intro h
    have key : ∀ m : List UInt8, m.dropWhile (digs.contains ·) = [] → ∀ c ∈ m, isDig c := by
      intro m
      induction m with
      | nil => intro _ c hc; exact absurd hc (by simp)
      | cons a m ih =>
        intro h c hc
        rw [List.dropWhile_cons] at h
        split at h
        · rename_i ha
          rcases List.mem_cons.1 hc with e | e
          · rw [e]; exact (hd a).1 ha
          · exact ih h c e
        · cases h
    by_cases hr : (l.reverse.dropWhile (digs.contains ·)) = []
    · intro c hc
      exact key _ hr c (by simpa using hc)
    · exfalso
      have hne : (l.reverse.dropWhile (digs.contains ·)).reverse ≠ [] := by simpa using hr
      have h1 := key _ h
      obtain ⟨a, m, e⟩ : ∃ a m, l.reverse.dropWhile (digs.contains ·) = a :: m := by
        cases hh : l.reverse.dropWhile (digs.contains ·) with
        | nil => exact absurd hh hr
        | cons a m => exact ⟨a, m, rfl⟩
      have h2 := h1 a (by rw [e]; simp)
      have h3 : digs.contains a = false := by
        have := List.head?_dropWhile_not (digs.contains ·) l.reverse
        rw [e] at this
        simpa using this
      rw [(hd a).2 h2] at h3
      cases h3
  · intro h
    have h1 : l.reverse.dropWhile (digs.contains ·) = [] := by
      have key : ∀ m : List UInt8, (∀ c ∈ m, isDig c) → m.dropWhile (digs.contains ·) = [] := by
        intro m
        induction m with
        | nil => intro _; rfl
        | cons a m ih =>
          intro h
          rw [List.dropWhile_cons, if_pos ((hd a).2 (h a (by simp)))]
          exact ih (fun c hc => h c (by simp [hc]))
      exact key _ (fun c hc => h c (by simpa using hc))
    rw [h1]; rfl

theorem isN_parts (s : ByteArray) : isN s = true ↔ s.toList.isEmpty = false ∧ s.size ≤ 300 ∧ Lib.trimS s.data.toList [48, 49, 50, 51, 52, 53, 54, 55, 56, 57] = [] ∧ (s.size = 1 ∨ ∀ h : 0 < s.size, s[0].toNat ≠ 48) := by
  unfold isN
  rw [isNL_iff, show ([48, 49, 50, 51, 52, 53, 54, 55, 56, 57] : List UInt8) = digs from rfl, trim_all, Lib.toList_data]
  have hl : s.data.toList.length = s.size := by simp
  rw [hl]
  constructor
  · rintro ⟨h1, h2, h3, h4⟩
    refine ⟨by simpa using h1, h2, h3, ?_⟩
    rcases h4 with h4 | h4
    · exact .inl h4
    · right
      intro h e
      apply h4
      rw [List.head?_eq_getElem?, List.getElem?_eq_getElem (by omega)]
      refine congrArg some (UInt8.toNat_inj.1 ?_)
      rw [Array.getElem_toList]
      exact e
  · rintro ⟨h1, h2, h3, h4⟩
    refine ⟨by simpa using h1, h2, h3, ?_⟩
    rcases h4 with h4 | h4
    · exact .inl h4
    · right
      intro e
      have h0 : 0 < s.data.toList.length := by
        rcases Nat.eq_zero_or_pos s.data.toList.length with h | h
        · rw [List.length_eq_zero_iff.1 h] at e; simp at e
        · exact h
      rw [List.head?_eq_getElem?, List.getElem?_eq_getElem h0] at e
      refine h4 (by omega) ?_
      have := congrArg UInt8.toNat (Option.some.inj e)
      rw [Array.getElem_toList] at this
      exact this

theorem ret_bool {a b : Bool} (h : a = b) : Ending.returned (.bool a) = .returned (.bool b) := by rw [h]

set_option maxHeartbeats 1000000 in
theorem is_any (s : ByteArray) (w : World) (hs : s.size ≤ 9223372036854775807) :
    Calls Tryz.prog 68 #[.string s] w fun e w' => e = .returned (.bool (isN s)) ∧ Below w.heap.size w w' := by
  have hcon := trim_digits s w hs
  have HP := Lib.hid (isN_parts s)
  have hfalse : ¬ (s.toList.isEmpty = false ∧ s.size ≤ 300 ∧ Lib.trimS s.data.toList [48, 49, 50, 51, 52, 53, 54, 55, 56, 57] = [] ∧ (s.size = 1 ∨ ∀ h : 0 < s.size, s[0].toNat ≠ 48)) → isN s = false := fun h => by
    cases hh : isN s with
    | false => rfl
    | true => exact absurd (HP.out.1 hh) h
  have HF := Lib.hid hfalse
  clear hfalse
  generalize isN s = r at HP HF ⊢
  cases h0 : s.toList.isEmpty with
  | true =>
    obtain rfl : r = false := HF.out (by rw [h0]; simp)
    go_enter Tryz.func68, Tryz.ntmps68
    go_wp2
    go_ret
    exact ⟨ret_bool (by simp), Below.refl _ _⟩
  | false =>
    have h0' : 0 < s.size := by
      rcases Nat.eq_zero_or_pos s.size with h | h
      · have : s.toList = [] := by rw [Lib.toList_data]; exact List.length_eq_zero_iff.1 (by simpa using h)
        rw [this] at h0; cases h0
      · exact h
    by_cases h1 : s.size ≤ 300
    · by_cases ht : Lib.trimS s.data.toList [48, 49, 50, 51, 52, 53, 54, 55, 56, 57] = []
      · by_cases h2 : s.size = 1
        · obtain rfl : r = true := HP.out.2 ⟨h0, h1, ht, .inl h2⟩
          rw [ht] at hcon
          have hb2 : ((s.size : Int) == 1) = true := by rw [beq_iff_eq]; omega
          clear ht h2
          go_enter Tryz.func68, Tryz.ntmps68
          go_wp2_with (go_at_call 86; refine hcon.mono ?_; rintro e w' ⟨rfl, hb⟩)
          go_ret
          exact ⟨ret_bool (by simp), hb⟩
        · have hb2 : ((s.size : Int) == 1) = false := by rw [beq_eq_false_iff_ne]; omega
          rw [ht] at hcon
          by_cases h3 : s[0].toNat = 48
          · obtain rfl : r = false := HF.out (fun h => by rcases h.2.2.2 with h | h; (· exact h2 h); (· exact h h0' h3))
            have hb3 : ((s[0].toNat : Int) != 48) = false := by rw [h3]; rfl
            clear ht h2 h3
            go_enter Tryz.func68, Tryz.ntmps68
            go_wp2_with (go_at_call 86; refine hcon.mono ?_; rintro e w' ⟨rfl, hb⟩)
            go_ret
            exact ⟨ret_bool (by simp), hb⟩
          · obtain rfl : r = true := HP.out.2 ⟨h0, h1, ht, .inr (fun _ => h3)⟩
            have hb3 : ((s[0].toNat : Int) != 48) = true := by rw [bne_iff_ne]; omega
            clear ht h2 h3
            go_enter Tryz.func68, Tryz.ntmps68
            go_wp2_with (go_at_call 86; refine hcon.mono ?_; rintro e w' ⟨rfl, hb⟩)
            go_ret
            exact ⟨ret_bool (by simp), hb⟩
      · obtain rfl : r = false := HF.out (fun h => ht h.2.2.1)
        have hte : (Lib.trimS s.data.toList [48, 49, 50, 51, 52, 53, 54, 55, 56, 57]).isEmpty = false := by simpa using ht
        clear ht
        generalize Lib.trimS s.data.toList [48, 49, 50, 51, 52, 53, 54, 55, 56, 57] = tl at hcon hte
        go_enter Tryz.func68, Tryz.ntmps68
        go_wp2_with (go_at_call 86; refine hcon.mono ?_; rintro e w' ⟨rfl, hb⟩)
        go_ret
        exact ⟨ret_bool (by simp), hb⟩
    · obtain rfl : r = false := HF.out (fun h => h1 h.2.1)
      go_enter Tryz.func68, Tryz.ntmps68
      go_wp2
      go_ret
      exact ⟨ret_bool (by simp), Below.refl _ _⟩

end Nt
end Go.Proofs.YtmekiidknjjfcaaGreatDoor

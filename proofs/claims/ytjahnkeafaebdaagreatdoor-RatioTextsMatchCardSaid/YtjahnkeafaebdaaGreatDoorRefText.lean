/- The reference's functions on texts of digits: Decimal, Is, Order, value, trim, digit. -/
import Derived.Test.YtjahnkeafaebdaaGreatDoorRefPlain
import Derived.Test.YtjahnkeafaebdaaGreatDoorNatApi2
import Derived.WalkLawsBesides
import Derived.WalkSpells
namespace Go.Proofs.YtjahnkeafaebdaaGreatDoor
open Go.RowKit Go.Shelf
namespace Nt

theorem ret_str {a b : ByteArray} (h : a = b) : Ending.returned (.string a) = .returned (.string b) := by rw [h]
theorem ret_i64 {a b : Int} (h : a = b) : Ending.returned (.int .i64 a) = .returned (.int .i64 b) := by rw [h]
theorem ret_b {a b : Bool} (h : a = b) : Ending.returned (.bool a) = .returned (.bool b) := by rw [h]
theorem bytes_ext {a b : ByteArray} (h : a.data.toList = b.data.toList) : a = b := by
  obtain ⟨a⟩ := a
  obtain ⟨b⟩ := b
  exact congrArg ByteArray.mk (Array.toList_inj.1 h)
theorem num_list (n : Nat) : (num n).data.toList = Lib.decDigits n := rfl
theorem num_size (n : Nat) : (num n).size = (Lib.decDigits n).length := by simp [num, ByteArray.size]

/-- The byte of a digit, kept folded. -/
@[irreducible] def dch (d : Nat) : UInt8 := UInt8.ofNat (48 + d)
theorem dch_eq (d : Nat) : dch d = UInt8.ofNat (48 + d) := by unfold dch; rfl
theorem one_digit (d : Nat) (h : d < 10) : (⟨#[48, 49, 50, 51, 52, 53, 54, 55, 56, 57]⟩ : ByteArray).extract d (d + 1) = ⟨#[UInt8.ofNat (48 + d)]⟩ := by
  apply bytes_ext
  rw [Lib.extract_data]
  match d, h with
  | 0, _ => rfl
  | 1, _ => rfl
  | 2, _ => rfl
  | 3, _ => rfl
  | 4, _ => rfl
  | 5, _ => rfl
  | 6, _ => rfl
  | 7, _ => rfl
  | 8, _ => rfl
  | 9, _ => rfl
  | n + 10, h => exact absurd h (by omega)

/-- The digits still to come, and those that are there. -/
def DgRel (N m : Nat) (t : ByteArray) : Prop := (if m = 0 then [] else Lib.decDigits m) ++ t.data.toList = Lib.decDigits N
theorem DgRel.start (N : Nat) : DgRel N (N / 10) ⟨#[UInt8.ofNat (48 + N % 10)]⟩ := by
  unfold DgRel
  conv => rhs; rw [Lib.decDigits]
  split
  · rename_i h
    rw [dif_pos (by omega)]
    simp
    congr 2; omega
  · rename_i h
    rw [dif_neg (by omega)]
theorem DgRel.step {N m : Nat} {t : ByteArray} (h : DgRel N m t) (hm : 0 < m) : DgRel N (m / 10) (⟨#[UInt8.ofNat (48 + m % 10)]⟩ ++ t) := by
  have h2 := DgRel.start m
  unfold DgRel at *
  rw [if_neg (by omega), ← h2] at h
  rw [← h]
  simp
theorem DgRel.done {N : Nat} {t : ByteArray} (h : DgRel N 0 t) : t = num N := bytes_ext (by unfold DgRel at h; simpa [num] using h)

theorem DgRel.size {N m : Nat} {t : ByteArray} (h : DgRel N m t) (hN : N < 18446744073709551616) : t.size ≤ 20 := by
  have h1 := decDigits_len (k := 20) (u := N) (by omega) (by omega)
  have h2 := congrArg List.length h
  have h3 : t.size = t.data.toList.length := Lib.size_eq _
  rw [List.length_append] at h2
  omega

/-- One digit cut out of the text of all digits. -/
theorem run_one_digit (d : Nat) (h : d < 10) (w : World) :
    (Instr.slice 9 (.string ⟨#[48, 49, 50, 51, 52, 53, 54, 55, 56, 57]⟩) (some (.int .u64 (d : Int))) (some (.int .u64 ((d : Int) + 1))) none).run Tryz.prog w = .ok (.string ⟨#[dch d]⟩) w := by
  rw [dch_eq]
  obtain rfl | rfl | rfl | rfl | rfl | rfl | rfl | rfl | rfl | rfl : d = 0 ∨ d = 1 ∨ d = 2 ∨ d = 3 ∨ d = 4 ∨ d = 5 ∨ d = 6 ∨ d = 7 ∨ d = 8 ∨ d = 9 := by omega
  all_goals kernel_rfl

set_option maxRecDepth 100000 in
theorem digits_any (n : Nat) (w : World) (hn : n < 18446744073709551616) :
    Calls Tryz.prog 143 #[.int .u64 (n : Int)] w fun e w' => e = .returned (.string (num n)) ∧ w = w' := by
  obtain ⟨d, hd⟩ : ∃ d, d = n % 10 := ⟨_, rfl⟩
  have hdl : d < 10 := by omega
  have hdi : (n : Int) % 10 = (d : Int) := by omega
  have hrun := run_one_digit d hdl
  have HD := Lib.hid hd
  clear hd
  go_enter Tryz.func143, Tryz.ntmps143
  go_wp2
  clear hdi hrun
  go_loop [0, 3] (fun m t => ∃ (k : Nat) (s : ByteArray), m = .int .u64 (k : Int) ∧ t = .string s ∧ k ≤ n ∧ DgRel n k s) (fun m _ => (intOf m).toNat)
  case atStart => exact ⟨n / 10, _, by first | rfl | (congr 1; omega), rfl, Nat.div_le_self _ _, by rw [dch_eq, HD.out]; exact DgRel.start n⟩
  case round =>
    obtain ⟨k, s, rfl, rfl, hk, hr⟩ := hrel
    by_cases h0 : k = 0
    · subst h0
      have hs := Lib.hid hr.done
      clear hr
      go_wp2
      go_ret
      exact ⟨ret_str hs.out, rfl⟩
    · obtain ⟨d, hd⟩ : ∃ d, d = k % 10 := ⟨_, rfl⟩
      have hdl : d < 10 := by omega
      have hdi : (k : Int) % 10 = (d : Int) := by omega
      have hrun := run_one_digit d hdl
      have HD := Lib.hid hd
      have hz := hr.size hn
      have hpos : (0 : Int) < (k : Int) := by omega
      replace hr := Lib.hid hr
      clear hd
      go_wp2
      go_round
      case rel => exact ⟨k / 10, _, by first | rfl | (congr 1; omega), rfl, by omega, by rw [dch_eq, HD.out]; exact hr.out.step (by omega)⟩
      case measure => simp [intOf]; omega

theorem Decimal_any (n : Nat) (w : World) (hn : n ≤ 9223372036854775807) :
    Calls Tryz.prog 117 #[.int .i64 (n : Int)] w fun e w' => e = .returned (.string (num n)) ∧ w = w' := by
  go_enter Tryz.func117, Tryz.ntmps117
  go_wp2_with (go_at_call 143; refine (digits_any n _ (by omega)).mono ?_; rintro e w' ⟨rfl, rfl⟩)
  go_ret
  exact ⟨rfl, rfl⟩

/-- Whether a row of bytes has the form of a number, of whatever length. -/
def numB (l : List UInt8) : Bool := l.all (fun c => decide (48 ≤ c.toNat ∧ c.toNat ≤ 57)) && (decide (l.length = 1) || (decide (1 < l.length) && decide (l.head? ≠ some 48)))
theorem isN_numB (s : ByteArray) : isN s = (decide (s.size ≤ 300) && numB s.data.toList) := by
  have hz : s.size = s.data.toList.length := Lib.size_eq _
  unfold isN isNL numB
  rw [hz]
  generalize s.data.toList = l
  cases l with
  | nil => rfl
  | cons a l =>
    cases l with
    | nil => simp
    | cons b l => simp
theorem numB_bad {l : List UInt8} {k : Nat} (h : k < l.length) (hb : ¬ isDig l[k]) : numB l = false := by
  unfold numB
  have : l.all (fun c => decide (48 ≤ c.toNat ∧ c.toNat ≤ 57)) = false := by
    rw [List.all_eq_false]
    exact ⟨l[k], List.getElem_mem h, by simpa [isDig] using hb⟩
  rw [this, Bool.false_and]
theorem numB_good {l : List UInt8} (h : ∀ c ∈ l, isDig c) : numB l = (decide (l.length = 1) || (decide (1 < l.length) && decide (l.head? ≠ some 48))) := by
  unfold numB
  have : l.all (fun c => decide (48 ≤ c.toNat ∧ c.toNat ≤ 57)) = true := by
    rw [List.all_eq_true]
    intro c hc
    simpa [isDig] using h c hc
  rw [this, Bool.true_and]

set_option maxRecDepth 100000 in
theorem number_any (s : ByteArray) (w : World) (hs : s.size ≤ 140737488355328) :
    Calls Tryz.prog 85 #[.string s] w fun e w' => e = .returned (.bool (numB s.data.toList)) ∧ w = w' := by
  have hz : s.data.toList.length = s.size := (Lib.size_eq _).symm
  have HZ := Lib.hid hz
  clear hz
  go_enter Tryz.func85, Tryz.ntmps85
  go_wp2
  go_loop [3] (fun i => ∃ k : Nat, k ≤ s.size ∧ i = .int .i64 (k : Int) ∧ Hid (∀ j (h : j < s.size), j < k → isDig (s[j]))) (fun i => s.size - (intOf i).toNat)
  case atStart => exact ⟨0, Nat.zero_le _, rfl, fun j _ h => absurd h (by omega)⟩
  case round =>
    obtain ⟨k, hk, rfl, hd⟩ := hrel
    by_cases hlt : k < s.size
    · have hb : Hid (¬ isDig s[k] → numB s.data.toList = false) := fun h => numB_bad (k := k) (by have := HZ.out; omega) h
      by_cases h1 : (s[k].toNat : Int) < 48
      · go_wp2
        go_ret
        exact ⟨ret_b (hb.out (fun h => by have := h.1; omega)).symm, rfl⟩
      · by_cases h2 : (57 : Int) < (s[k].toNat : Int)
        · go_wp2
          go_ret
          exact ⟨ret_b (hb.out (fun h => by have := h.2; omega)).symm, rfl⟩
        · go_wp2
          go_round
          case rel =>
            refine ⟨k + 1, by omega, by go_num, fun j h hj => ?_⟩
            by_cases e : j = k
            · subst e; exact ⟨by omega, by omega⟩
            · exact hd.out j h (by omega)
          case measure => simp [intOf]; omega
    · have hG := Lib.hid (numB_good (l := s.data.toList) (fun c hc => by
        obtain ⟨j, hj, rfl⟩ := List.getElem_of_mem hc
        exact hd.out j (by have := HZ.out; omega) (by have := HZ.out; omega)))
      have hl := HZ.out
      by_cases e1 : s.size = 1
      · have f1 : ((s.size : Int) == 1) = true := by simp [e1]
        have hv : numB s.data.toList = true := by rw [hG.out, hl, e1]; rfl
        have HV := Lib.hid hv
        clear hl hv e1
        go_wp2
        go_ret
        exact ⟨ret_b HV.out.symm, rfl⟩
      · have f1 : ((s.size : Int) == 1) = false := by rw [beq_eq_false_iff_ne]; omega
        by_cases e0 : s.size = 0
        · have hv : numB s.data.toList = false := by rw [hG.out, hl, e0]; rfl
          have HV := Lib.hid hv
          have f2 : decide ((1 : Int) < (s.size : Int)) = false := by simp; omega
          clear hl hv e1 e0
          go_wp2
          go_ret
          exact ⟨ret_b HV.out.symm, rfl⟩
        · have hp : 1 < s.size := by omega
          have hp0 : 0 < s.size := by omega
          have hv : numB s.data.toList = decide ((s[0].toNat : Int) ≠ 48) := by
            rw [hG.out, hl, decide_eq_false e1, decide_eq_true hp, Bool.false_or, Bool.true_and]
            have e : s.data.toList.head? = some s[0] := by
              rw [List.head?_eq_getElem?, List.getElem?_eq_getElem (by omega)]
              rfl
            rw [e]
            have key : (¬ some s[0] = some (48 : UInt8)) ↔ ¬ ((s[0].toNat : Int) = 48) := by
              rw [Option.some.injEq, ← UInt8.toNat_inj]
              have : (48 : UInt8).toNat = 48 := rfl
              omega
            exact decide_eq_decide.2 key
          have HV := Lib.hid hv
          by_cases h48 : (s[0].toNat : Int) = 48
          · have f3 : ((s[0].toNat : Int) == 48) = true := by rw [beq_iff_eq]; exact h48
            have f4 : ((s[0].toNat : Int) != 48) = false := by simp [h48]
            have HW : Hid (numB s.data.toList = false) := by unfold Hid; rw [HV.out]; simp [h48]
            clear hl hv e1 e0 h48
            go_wp2
            go_ret
            exact ⟨ret_b HW.out.symm, rfl⟩
          · have f3 : ((s[0].toNat : Int) == 48) = false := by rw [beq_eq_false_iff_ne]; exact h48
            have f4 : ((s[0].toNat : Int) != 48) = true := by simp [h48]
            have HW : Hid (numB s.data.toList = true) := by unfold Hid; rw [HV.out]; simp [h48]
            clear hl hv e1 e0 h48
            go_wp2
            go_ret
            exact ⟨ret_b HW.out.symm, rfl⟩

theorem RefIs_any (s : ByteArray) (w : World) (hs : s.size ≤ 140737488355328) :
    Calls Tryz.prog 54 #[.string s] w fun e w' => e = .returned (.bool (isN s)) ∧ w = w' := by
  have HN := Lib.hid (isN_numB s)
  by_cases h : s.size ≤ 300
  · rw [decide_eq_true h, Bool.true_and] at HN
    have h' : (s.size : Int) ≤ 300 := by omega
    go_enter Tryz.func54, Tryz.ntmps54
    go_wp2_with (go_at_call 85; refine (number_any s _ hs).mono ?_; rintro e w' ⟨rfl, rfl⟩)
    go_ret
    exact ⟨ret_b HN.out.symm, rfl⟩
  · rw [decide_eq_false h, Bool.false_and] at HN
    have h' : decide ((s.size : Int) ≤ 300) = false := by simp; omega
    go_enter Tryz.func54, Tryz.ntmps54
    go_wp2
    go_ret
    exact ⟨ret_b HN.out.symm, rfl⟩

theorem Order_any (a b : Nat) (w : World) (_ha : (num a).size ≤ 140737488355328) (_hb : (num b).size ≤ 140737488355328) :
    Calls Tryz.prog 83 #[.string (num a), .string (num b)] w fun e w' => e = .returned (.int .i64 (cmpN a b)) ∧ w = w' := by
  have ea := num_size a
  have eb := num_size b
  rcases Nat.lt_trichotomy (num a).size (num b).size with h | h | h
  · have hab : a < b := dec_len_lt (by omega)
    have HC := Lib.hid (cmpN_lt hab)
    clear ea eb hab
    go_enter Tryz.func83, Tryz.ntmps83
    go_wp2
    go_ret
    exact ⟨ret_i64 HC.out.symm, rfl⟩
  · have f1 : decide ((num a).size < (num b).size) = false := by simp; omega
    have f2 : (((num a).size : Int) == ((num b).size : Int)) = true := by simp [h]
    have hbl : Op.bytesLess (num a).toList (num b).toList = decide (a < b) := by
      rw [Lib.toList_data, Lib.toList_data, num_list, num_list, Bool.eq_iff_iff, dec_less (by omega)]
      simp
    have hq : ((num a).toList == (num b).toList) = decide (a = b) := by
      rw [Lib.toList_data, Lib.toList_data, num_list, num_list, Bool.eq_iff_iff, beq_iff_eq, decide_eq_true_iff]
      constructor
      · intro e
        have := congrArg dval e
        rwa [dval_decDigits, dval_decDigits] at this
      · intro e; rw [e]
    rcases Nat.lt_trichotomy a b with hab | hab | hab
    · rw [decide_eq_true hab] at hbl
      have HC := Lib.hid (cmpN_lt hab)
      clear ea eb h hab hq
      go_enter Tryz.func83, Tryz.ntmps83
      go_wp2
      go_ret
      exact ⟨ret_i64 HC.out.symm, rfl⟩
    · rw [decide_eq_false (by omega)] at hbl
      rw [decide_eq_true hab] at hq
      have HC : Hid (cmpN a b = 0) := by unfold Hid; rw [hab]; exact cmpN_eq b
      clear ea eb h hab
      go_enter Tryz.func83, Tryz.ntmps83
      go_wp2
      go_ret
      exact ⟨ret_i64 HC.out.symm, rfl⟩
    · rw [decide_eq_false (by omega)] at hbl
      rw [decide_eq_false (by omega)] at hq
      have HC : Hid (cmpN a b = 1) := by unfold Hid cmpN; simp [hab, Nat.lt_asymm hab]
      clear ea eb h hab
      go_enter Tryz.func83, Tryz.ntmps83
      go_wp2
      go_ret
      exact ⟨ret_i64 HC.out.symm, rfl⟩
  · have hab : b < a := dec_len_lt (by omega)
    have f1 : decide ((num a).size < (num b).size) = false := by simp; omega
    have f2 : (((num a).size : Int) == ((num b).size : Int)) = false := by rw [beq_eq_false_iff_ne]; omega
    have hq : ((num a).toList == (num b).toList) = false := by
      rw [beq_eq_false_iff_ne, Lib.toList_data, Lib.toList_data]
      intro e
      have := congrArg List.length e
      rw [num_list, num_list] at this
      omega
    have HC : Hid (cmpN a b = 1) := by unfold Hid cmpN; simp [hab, Nat.lt_asymm hab]
    clear ea eb hab
    go_enter Tryz.func83, Tryz.ntmps83
    go_wp2
    go_ret
    exact ⟨ret_i64 HC.out.symm, rfl⟩

theorem dval_take_lt {l : List UInt8} (h : ∀ c ∈ l, isDig c) (k : Nat) : dval (l.take k) < 10 ^ k := by
  have h1 := dval_lt (l := l.take k) (fun c hc => h c (List.mem_of_mem_take hc))
  exact Nat.lt_of_lt_of_le h1 (Nat.pow_le_pow_right (by omega) (by simp; omega))
theorem dval_take_succ (s : ByteArray) (k : Nat) (h : k < s.size) : dval (s.data.toList.take (k + 1)) = dval (s.data.toList.take k) * 10 + (s[k].toNat - 48) := by
  rw [List.take_succ_eq_append_getElem (by simpa using h), dval_append]
  simp [dval]
  rfl

set_option maxRecDepth 100000 in
theorem value_any (s : ByteArray) (w : World) (hs : s.size ≤ 18) (hd : ∀ c ∈ s.data.toList, isDig c) :
    Calls Tryz.prog 119 #[.string s] w fun e w' => e = .returned (.int .i64 (dval s.data.toList : Nat)) ∧ w = w' := by
  have HD := Lib.hid hd
  clear hd
  go_enter Tryz.func119, Tryz.ntmps119
  go_wp2
  go_loop [3, 4] (fun n i => ∃ k v : Nat, k ≤ s.size ∧ i = .int .i64 (k : Int) ∧ n = .int .i64 (v : Int) ∧ Hid (v = dval (s.data.toList.take k))) (fun _ i => s.size - (intOf i).toNat)
  case atStart => exact ⟨0, 0, Nat.zero_le _, rfl, rfl, rfl⟩
  case round =>
    obtain ⟨k, v, hk, rfl, rfl, hv⟩ := hrel
    by_cases hlt : k < s.size
    · have hb : v < 100000000000000000 := by
        have h1 := dval_take_lt HD.out k
        have h2 : 10 ^ k ≤ 10 ^ 17 := Nat.pow_le_pow_right (by omega) (by omega)
        have := hv.out
        omega
      have hdk : isDig s[k] := HD.out _ (by
        have : s[k] = s.data.toList[k]'(by simpa using hlt) := rfl
        rw [this]; exact List.getElem_mem _)
      have h48 : (48 : Int) ≤ (s[k].toNat : Int) := by have := hdk.1; omega
      have h57 : (s[k].toNat : Int) ≤ 57 := by have := hdk.2; omega
      have HS := Lib.hid (dval_take_succ s k hlt)
      clear hdk
      go_wp2
      go_round
      case rel => exact ⟨k + 1, v * 10 + (s[k].toNat - 48), by omega, by go_num, by go_num, by unfold Hid; rw [HS.out, ← hv.out]⟩
      case measure => simp [intOf]; omega
    · obtain rfl : k = s.size := by omega
      have e : s.data.toList.take s.size = s.data.toList := List.take_of_length_le (by simp)
      rw [e] at hv
      go_wp2
      go_ret
      exact ⟨ret_i64 (by rw [hv.out]), rfl⟩

theorem value_num (n : Nat) (w : World) (hs : (num n).size ≤ 18) :
    Calls Tryz.prog 119 #[.string (num n)] w fun e w' => e = .returned (.int .i64 (n : Nat)) ∧ w = w' := by
  have := value_any (num n) w hs (by rw [num_list]; exact decDigits_dig n)
  rwa [num_list, dval_decDigits] at this

set_option maxRecDepth 100000 in
theorem reftrim_any (s : ByteArray) (w : World) (hs : s.size ≤ 140737488355328) (h0 : 0 < s.size) (hd : ∀ c ∈ s.data.toList, isDig c) :
    Calls Tryz.prog 122 #[.string s] w fun e w' => e = .returned (.string (num (dval s.data.toList))) ∧ w = w' := by
  have HD := Lib.hid hd
  have HZ : Hid (s.data.toList.length = s.size) := (Lib.size_eq _).symm
  clear hd
  go_enter Tryz.func122, Tryz.ntmps122
  go_wp2
  go_loop [3] (fun i => ∃ k : Nat, k < s.size ∧ i = .int .i64 (k : Int) ∧ Hid (∀ j (h : j < s.data.toList.length), j < k → s.data.toList[j] = 48)) (fun i => s.size - (intOf i).toNat)
  case atStart => exact ⟨0, h0, rfl, fun j _ h => absurd h (by omega)⟩
  case round =>
    obtain ⟨k, hk, rfl, hz⟩ := hrel
    have hfin : Hid (k + 1 = s.size ∨ s[k] ≠ 48 → s.extract k s.size = num (dval s.data.toList)) := fun h => by
      apply bytes_ext
      rw [Lib.extract_to_end, num_list]
      have hz' := HZ.out
      refine trimmed HD.out (i := k) (by omega) (fun j hj => hz.out j (by omega) hj) ?_
      rcases h with h | h
      · left; omega
      · right; exact h
    by_cases he : k + 1 = s.size
    · have f1 : decide ((k : Int) < (s.size : Int) - 1) = false := by simp; omega
      have HE := Lib.hid he
      clear he
      go_wp2
      go_ret
      exact ⟨ret_str (hfin.out (.inl HE.out)), rfl⟩
    · have hl : (k : Int) < (s.size : Int) - 1 := by omega
      clear he
      by_cases h48 : s[k] = 48
      · have hc : (s[k].toNat : Int) = 48 := by rw [h48]; rfl
        have f2 : ((s[k].toNat : Int) == 48) = true := by rw [beq_iff_eq]; exact hc
        have H48 := Lib.hid h48
        clear hc h48
        go_wp2
        go_round
        case rel =>
          refine ⟨k + 1, by omega, by go_num, fun j h hj => ?_⟩
          by_cases e : j = k
          · subst e; exact H48.out
          · exact hz.out j h (by omega)
        case measure => simp [intOf]; omega
      · have f2 : ((s[k].toNat : Int) == 48) = false := by
          rw [beq_eq_false_iff_ne]
          intro e
          apply h48
          apply UInt8.toNat_inj.1
          have : (48 : UInt8).toNat = 48 := rfl
          omega
        have H48 := Lib.hid h48
        clear h48
        go_wp2
        go_ret
        exact ⟨ret_str (hfin.out (.inr H48.out)), rfl⟩

theorem digit_any (n i : Nat) (w : World) (hs : (num n).size ≤ 140737488355328) (hi : i ≤ 140737488355328) :
    Calls Tryz.prog 120 #[.string (num n), .int .i64 (i : Int)] w fun e w' => e = .returned (.int .i64 ((n / 10 ^ i % 10 : Nat) : Int)) ∧ w = w' := by
  have hd : Hid (n / 10 ^ i % 10 = dgt (Lib.decDigits n) i) := (dgt_dec n i).symm
  have hz : Hid ((num n).size = (Lib.decDigits n).length) := num_size n
  generalize hv : n / 10 ^ i % 10 = v at hd
  by_cases h : i < (num n).size
  · have hj : ((num n).size : Int) - 1 - (i : Int) = (((num n).size - 1 - i : Nat) : Int) := by omega
    have hjl : (num n).size - 1 - i < (num n).size := by omega
    have hdg : isDig ((num n)[(num n).size - 1 - i]) := decDigits_dig n _ (by
      have : (num n)[(num n).size - 1 - i] = (num n).data.toList[(num n).size - 1 - i]'(by simpa using hjl) := rfl
      rw [this]; exact List.getElem_mem _)
    have hval : Hid (v = (num n)[(num n).size - 1 - i].toNat - 48) := by
      unfold Hid
      rw [hd.out, dgt, dif_pos (by have := hz.out; omega)]
      congr 2
    have h48 : (48 : Int) ≤ ((num n)[(num n).size - 1 - i].toNat : Int) := by have := hdg.1; omega
    have h57 : ((num n)[(num n).size - 1 - i].toNat : Int) ≤ 57 := by have := hdg.2; omega
    clear hdg hv
    go_enter Tryz.func120, Tryz.ntmps120
    go_wp2
    go_ret
    exact ⟨ret_i64 (by rw [hval.out]; omega), rfl⟩
  · have hval : Hid (v = 0) := by
      unfold Hid
      rw [hd.out, dgt, dif_neg (by have := hz.out; omega)]
    clear hv
    go_enter Tryz.func120, Tryz.ntmps120
    go_wp2
    go_ret
    exact ⟨ret_i64 (by rw [hval.out]; rfl), rfl⟩

theorem reflimited_any (k : Nat) (w : World) (_hs : (num k).size ≤ 140737488355328) :
    Calls Tryz.prog 80 #[.string (num k)] w fun e w' => e = .returned (.tuple #[.string (strL k), .int .i64 (errL k)]) ∧ w = w' := by
  have hz := num_size k
  have h : 300 < (num k).size ↔ ¬ k < Lim := by
    have e : (Lib.decDigits k).length ≤ 300 ↔ k < Lim := by
      have := decDigits_len_iff k mxd (by rw [mxd_eq]; omega)
      rw [← mxd_eq]
      exact this
    omega
  have HG : Hid ((k < Lim → strL k = num k ∧ errL k = 0) ∧ (¬ k < Lim → strL k = ⟨#[]⟩ ∧ errL k = 2)) := by
    unfold Hid strL errL
    exact ⟨fun h => by rw [if_pos h, if_pos h]; exact ⟨rfl, rfl⟩, fun h => by rw [if_neg h, if_neg h]; exact ⟨rfl, rfl⟩⟩
  by_cases hk : k < Lim
  · have f : decide ((300 : Int) < ((num k).size : Int)) = false := by simp; have := (not_congr h).2 (by simpa using hk); omega
    have HK := HG.out.1 hk
    replace HK := Lib.hid HK
    clear hz h hk HG
    go_enter Tryz.func80, Tryz.ntmps80
    go_wp2
    go_ret2
    exact ⟨by rw [HK.out.1, HK.out.2]; rfl, rfl⟩
  · have f : (300 : Int) < ((num k).size : Int) := by have := h.2 hk; omega
    have HK := HG.out.2 hk
    replace HK := Lib.hid HK
    clear hz h hk HG
    go_enter Tryz.func80, Tryz.ntmps80
    go_wp2
    go_ret2
    exact ⟨by rw [HK.out.1, HK.out.2]; rfl, rfl⟩

end Nt
end Go.Proofs.YtjahnkeafaebdaaGreatDoor

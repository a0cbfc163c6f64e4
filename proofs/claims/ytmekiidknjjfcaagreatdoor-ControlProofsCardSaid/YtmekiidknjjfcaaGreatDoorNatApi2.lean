/- The walk of natural's Div; plain facts for Of and Int. -/
import Derived.Test.YtmekiidknjjfcaaGreatDoorNatApi
import Derived.LaidEql
namespace Go.Proofs.YtmekiidknjjfcaaGreatDoor
open Go.RowKit Go.Shelf
namespace Nt

def divQ (s t : ByteArray) : ByteArray := if isN s = true ∧ isN t = true ∧ val t ≠ 0 then num (val s / val t) else ⟨#[]⟩
def divR (s t : ByteArray) : ByteArray := if isN s = true ∧ isN t = true ∧ val t ≠ 0 then num (val s % val t) else ⟨#[]⟩
def divE (s t : ByteArray) : Int := if isN s = true ∧ isN t = true then (if val t = 0 then 15 else 0) else 1
def DivPost (s t : ByteArray) (w : World) (e : Ending) (w' : World) : Prop := e = .returned (.tuple #[.string (divQ s t), .string (divR s t), .int .i64 (divE s t)]) ∧ Below w.heap.size w w'

theorem zero_iff {t : ByteArray} (h : isN t = true) : t.toList = [48] ↔ val t = 0 := by
  obtain ⟨n, _, rfl⟩ := num_of_isN h
  rw [val_num, Lib.toList_data]
  constructor
  · intro e
    have h := val_num n
    unfold val at h
    rw [e] at h
    rw [← h]
    rfl
  · intro e
    subst e
    show Lib.decDigits 0 = [48]
    rw [Lib.decDigits_one (by omega)]
    rfl

set_option maxHeartbeats 1000000 in
theorem Div_any (s t : ByteArray) (w : World) (hE : Env w) (hs : s.size ≤ 140737488355328) (ht : t.size ≤ 140737488355328) :
    Calls Tryz.prog 80 #[.string s, .string t] w (DivPost s t w) := by
  have c1 := is_any s w (by omega)
  replace hE := Lib.hid hE
  cases h1 : isN s with
  | false =>
    have HG : Hid (divQ s t = ⟨#[]⟩ ∧ divR s t = ⟨#[]⟩ ∧ divE s t = 1) := by unfold Hid divQ divR divE; simp [h1]
    rw [h1] at c1
    clear h1
    go_enter Tryz.func80, Tryz.ntmps80
    go_wp2_with (go_at_call 68; refine c1.mono ?_; rintro e w1 ⟨rfl, hb1⟩)
    go_ret3
    exact ⟨by rw [HG.out.1, HG.out.2.1, HG.out.2.2]; rfl, hb1⟩
  | true =>
    cases h2 : isN t with
    | false =>
      have HG : Hid (divQ s t = ⟨#[]⟩ ∧ divR s t = ⟨#[]⟩ ∧ divE s t = 1) := by unfold Hid divQ divR divE; simp [h2]
      rw [h1] at c1
      have H2 := Lib.hid h2
      clear h1 h2
      go_enter Tryz.func80, Tryz.ntmps80
      go_wp2_with fail
      refine c1.mono ?_
      rintro e w1 ⟨rfl, hb1⟩
      replace hb1 := Lib.hid hb1
      go_wp2_with fail
      have c2 := is_any t w1 (by omega)
      rw [H2.out] at c2
      refine c2.mono ?_
      rintro e w2 ⟨rfl, hb2⟩
      replace hb2 := Lib.hid hb2
      go_wp2
      go_ret3
      exact ⟨by rw [HG.out.1, HG.out.2.1, HG.out.2.2]; rfl, hb1.out.trans (hb2.out.mono hb1.out.size)⟩
    | true =>
      rw [h1] at c1
      have H1 := Lib.hid h1
      have H2 := Lib.hid h2
      by_cases hz : val t = 0
      · have HG : Hid (divQ s t = ⟨#[]⟩ ∧ divR s t = ⟨#[]⟩ ∧ divE s t = 15) := by unfold Hid divQ divR divE; simp [h1, h2, hz]
        have hb : (t.toList == [48]) = true := by rw [beq_iff_eq]; exact (zero_iff h2).2 hz
        clear h1 h2 hz
        go_enter Tryz.func80, Tryz.ntmps80
        go_wp2_with fail
        refine c1.mono ?_
        rintro e w1 ⟨rfl, hb1⟩
        replace hb1 := Lib.hid hb1
        go_wp2_with fail
        have c2 := is_any t w1 (by omega)
        rw [H2.out] at c2
        refine c2.mono ?_
        rintro e w2 ⟨rfl, hb2⟩
        replace hb2 := Lib.hid hb2
        go_wp2
        go_ret3
        exact ⟨by rw [HG.out.1, HG.out.2.1, HG.out.2.2]; rfl, hb1.out.trans (hb2.out.mono hb1.out.size)⟩
      · have hq : val s / val t < Lim := Nat.lt_of_le_of_lt (Nat.div_le_self _ _) (val_lt h1)
        have hr : val s % val t < Lim := Nat.lt_of_le_of_lt (Nat.mod_le _ _) (val_lt h1)
        have HG : Hid (divQ s t = num (val s / val t) ∧ divR s t = num (val s % val t) ∧ divE s t = 0) := by unfold Hid divQ divR divE; simp [h1, h2, hz]
        have HL : Hid (limited (Lib.decDigits (val s / val t)) = .tuple #[.string (num (val s / val t)), .int .i64 0] ∧ limited (Lib.decDigits (val s % val t)) = .tuple #[.string (num (val s % val t)), .int .i64 0]) := by
          unfold Hid
          rw [limited_eq, limited_eq]
          unfold strL errL
          rw [if_pos hq, if_pos hr, if_pos hq, if_pos hr]
          exact ⟨rfl, rfl⟩
        have hb : (t.toList == [48]) = false := by rw [beq_eq_false_iff_ne]; exact fun h => hz ((zero_iff h2).1 h)
        replace hz := Lib.hid hz
        replace hq := Lib.hid hq
        replace hr := Lib.hid hr
        clear h1 h2
        go_enter Tryz.func80, Tryz.ntmps80
        go_wp2_with fail
        refine c1.mono ?_
        rintro e w1 ⟨rfl, hb1⟩
        have hbA1 := Lib.hid hb1
        clear hb1
        go_wp2_with fail
        have c2 := is_any t w1 (by omega)
        rw [H2.out] at c2
        refine c2.mono ?_
        rintro e w2 ⟨rfl, hb2⟩
        have hbA2 := Lib.hid (hbA1.out.trans (hb2.mono hbA1.out.size))
        clear hb2 c1 c2 hbA1
        go_wp2_with fail
        refine (parse_num s w2 H1.out).mono ?_
        rintro e w3 ⟨v1, rfl, hn1, _, hb3⟩
        have hbA3 := Lib.hid (hbA2.out.trans (hb3.mono hbA2.out.size))
        replace hn1 := Lib.hid hn1
        clear hb3 hbA2
        go_wp2_with fail
        refine (parse_num t w3 H2.out).mono ?_
        rintro e w4 ⟨v2, rfl, hn2, _, hb2⟩
        have hbA2 := Lib.hid (hbA3.out.trans (hb2.mono hbA3.out.size))
        replace hb2 := Lib.hid hb2
        replace hn2 := Lib.hid hn2
        clear hbA3
        go_wp2_with fail
        refine (div_any w4 v1 v2 (val s) (val t) (hn1.out.below hb2.out) hn2.out (small_lim (val_lt H1.out)) (small_lim9 (val_lt H2.out)) (Nat.pos_of_ne_zero hz.out) (by have := hbA2.out.size; have := hE.out.pos; omega)).mono ?_
        rintro e w5 ⟨⟨q, r, rfl, hnq, hnr⟩, hb5⟩
        have hbA5 := Lib.hid (hbA2.out.trans (hb5.mono hbA2.out.size))
        replace hnq := Lib.hid hnq
        replace hnr := Lib.hid hnr
        clear hb5 hbA2 hb2 hn1 hn2
        go_wp2_with fail
        refine (text_any w5 q _ hnq.out (small_lim hq.out) (hE.out.below hbA5.out)).mono ?_
        rintro e w6 ⟨rfl, hb6⟩
        rw [HL.out.1]
        have hbA6 := Lib.hid (hbA5.out.trans (hb6.mono hbA5.out.size))
        replace hb6 := Lib.hid hb6
        clear hbA5
        go_wp2_with fail
        refine (text_any w6 r _ (hnr.out.below hb6.out) (small_lim hr.out) (hE.out.below hbA6.out)).mono ?_
        rintro e w7 ⟨rfl, hb7⟩
        rw [HL.out.2]
        have hbA7 := Lib.hid (hbA6.out.trans (hb7.mono hbA6.out.size))
        clear hb7 hb6 hbA6
        go_wp2
        go_ret3
        exact ⟨by rw [HG.out.1, HG.out.2.1, HG.out.2.2]; rfl, hbA7.out⟩

def ofS (n : Int) : ByteArray := if n < 0 then ⟨#[]⟩ else num n.toNat

theorem parse10 : ∀ (l : List UInt8) (a : Nat), (∀ c ∈ l, isDig c) → a < 18446744073709551616 → Lib.parseUint10 a l = if a * 10 ^ l.length + dval l < 18446744073709551616 then .ok (a * 10 ^ l.length + dval l) else .range := by
  intro l
  induction l with
  | nil =>
    intro a _ ha
    simp only [Lib.parseUint10, List.length_nil, Nat.pow_zero, Nat.mul_one, dval_nil, Nat.add_zero]
    rw [if_pos ha]
  | cons c l ih =>
    intro a h ha
    have h1 := h c (by simp)
    have hp : 1 ≤ 10 ^ l.length := Nat.pow_pos (by omega)
    have e : a * 10 ^ (c :: l).length + dval (c :: l) = (a * 10 + (c.toNat - 48)) * 10 ^ l.length + dval l := by
      rw [dval_cons, List.length_cons, Nat.pow_succ, Nat.add_mul, Nat.mul_assoc a 10, Nat.mul_comm 10]
      omega
    rw [e]
    have hge : a * 10 + (c.toNat - 48) ≤ (a * 10 + (c.toNat - 48)) * 10 ^ l.length := Nat.le_mul_of_pos_right _ hp
    rw [Lib.parseUint10, if_pos (show 48 ≤ c.toNat ∧ c.toNat ≤ 57 from h1)]
    by_cases c1 : 1844674407370955162 ≤ a
    · rw [if_pos c1, if_neg (by omega)]
    · rw [if_neg c1]
      by_cases c2 : 18446744073709551616 ≤ a * 10 + (c.toNat - 48)
      · rw [if_pos c2, if_neg (by omega)]
      · rw [if_neg c2]
        exact ih _ (fun d hd => h d (by simp [hd])) (by omega)

theorem atoi_num (n : Nat) : Lib.atoiAll (num n).data.toList = if n ≤ 9223372036854775807 then .ok (n : Int) else .range := by
  have hd := decDigits_dig n
  have hv := dval_decDigits n
  show Lib.atoiAll (Lib.decDigits n) = _
  cases hl : Lib.decDigits n with
  | nil => exact absurd hl (decDigits_ne n)
  | cons c r =>
    rw [hl] at hd hv
    have h1 := hd c (by simp)
    have h2 := h1.1
    have hp := parse10 (c :: r) 0 hd (by omega)
    rw [Nat.zero_mul, Nat.zero_add, hv] at hp
    unfold Lib.atoiAll
    simp only [Lib.parseMag]
    have hneg : ¬ c.toNat = 45 := by omega
    have hneg2 : ¬ (c.toNat = 43 ∨ c.toNat = 45) := by omega
    rw [if_neg hneg2, if_neg (by simp), hp]
    by_cases hle : n ≤ 9223372036854775807
    · rw [if_pos (by omega), if_pos hle]
      simp only [hneg]
      rw [if_neg (by omega), if_neg (by simp), if_neg (by simp)]
    · rw [if_neg hle]
      by_cases h64 : n < 18446744073709551616
      · rw [if_pos h64]
        simp only [hneg]
        rw [if_pos ⟨by simp, by omega⟩]
      · rw [if_neg h64]

def intV (s : ByteArray) : Int := if isN s = true ∧ val s ≤ 9223372036854775807 then (val s : Int) else 0
def intE (s : ByteArray) : Int := if isN s = true then (if val s ≤ 9223372036854775807 then 0 else 10) else 1

theorem num_lit (l : List UInt8) (n : Nat) (h : isNL l = true) (hv : dval l = n) : num n = ⟨l.toArray⟩ := by
  have := num_val (s := ⟨l.toArray⟩) h
  rw [← this]
  exact congrArg num hv.symm
theorem strL_lit (l : List UInt8) (n : Nat) (h : isNL l = true) (hv : dval l = n) : strL n = ⟨l.toArray⟩ ∧ errL n = 0 := by
  have hlt : n < Lim := by
    have h2 := val_lt (s := ⟨l.toArray⟩) h
    rw [← hv]; exact h2
  unfold strL errL
  rw [if_pos hlt, if_pos hlt]
  exact ⟨num_lit l n h hv, rfl⟩

end Nt
end Go.Proofs.YtmekiidknjjfcaaGreatDoor

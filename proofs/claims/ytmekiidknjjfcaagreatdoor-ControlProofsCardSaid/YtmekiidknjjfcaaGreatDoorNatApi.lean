/- The walks of natural's exported functions: each a plain function of its arguments. -/
import Derived.Test.YtmekiidknjjfcaaGreatDoorNatPub
namespace Go.Proofs.YtmekiidknjjfcaaGreatDoor
open Go.RowKit Go.Shelf
namespace Nt

theorem apply_bad (f : Nat) (k : Nat) (s t : ByteArray) (w : World) (hs : s.size ≤ 140737488355328) (ht : t.size ≤ 140737488355328) (hb : isN s = false ∨ isN t = false) :
    Calls Tryz.prog 87 #[.string s, .string t, .func (.func f) #[] #[]] w (OpPost k s t w) := by
  have HG := Lib.hid (op_bad (k := k) hb)
  have c1 := is_any s w (by omega)
  cases h1 : isN s with
  | false =>
    rw [h1] at c1
    clear hb h1
    go_enter Tryz.func87, Tryz.ntmps87
    go_wp2_with (go_at_call 68; refine c1.mono ?_; rintro e w1 ⟨rfl, hb1⟩)
    go_ret2
    exact ⟨by rw [HG.out.1, HG.out.2]; rfl, hb1⟩
  | true =>
    have h2 : isN t = false := by rcases hb with h | h; (· rw [h1] at h; cases h); (· exact h)
    rw [h1] at c1
    have H2 := Lib.hid h2
    clear hb h1 h2
    go_enter Tryz.func87, Tryz.ntmps87
    go_wp2_with fail
    refine c1.mono ?_
    rintro e w1 ⟨rfl, hb1⟩
    replace hb1 := Lib.hid hb1
    go_wp2_with fail
    have c2 := is_any t w1 (by omega)
    rw [H2.out] at c2
    refine c2.mono ?_
    rintro e w2 ⟨rfl, hb2⟩
    replace hb2 := Lib.hid hb2
    go_wp2
    go_ret2
    exact ⟨by rw [HG.out.1, HG.out.2]; rfl, hb1.out.trans (hb2.out.mono hb1.out.size)⟩

theorem Add_any (s t : ByteArray) (w : World) (hE : Env w) (hs : s.size ≤ 140737488355328) (ht : t.size ≤ 140737488355328) :
    Calls Tryz.prog 73 #[.string s, .string t] w (OpPost (val s + val t) s t w) := by
  have hc : Calls Tryz.prog 87 #[.string s, .string t, .func (.func 95) #[] #[]] w (OpPost (val s + val t) s t w) := by
    cases h1 : isN s with
    | false => exact apply_bad _ _ s t w hs ht (.inl h1)
    | true =>
      cases h2 : isN t with
      | false => exact apply_bad _ _ s t w hs ht (.inr h2)
      | true => exact apply_add s t w hE h1 h2
  go_enter Tryz.func73, Tryz.ntmps73
  go_wp2_with (go_at_call 87; refine hc.mono ?_; rintro e w1 ⟨rfl, hb1⟩)
  go_ret2
  exact ⟨rfl, hb1⟩

theorem Mul_any (s t : ByteArray) (w : World) (hE : Env w) (hs : s.size ≤ 140737488355328) (ht : t.size ≤ 140737488355328) :
    Calls Tryz.prog 94 #[.string s, .string t] w (OpPost (val s * val t) s t w) := by
  have hc : Calls Tryz.prog 87 #[.string s, .string t, .func (.func 116) #[] #[]] w (OpPost (val s * val t) s t w) := by
    cases h1 : isN s with
    | false => exact apply_bad _ _ s t w hs ht (.inl h1)
    | true =>
      cases h2 : isN t with
      | false => exact apply_bad _ _ s t w hs ht (.inr h2)
      | true => exact apply_mul s t w hE h1 h2
  go_enter Tryz.func94, Tryz.ntmps94
  go_wp2_with (go_at_call 87; refine hc.mono ?_; rintro e w1 ⟨rfl, hb1⟩)
  go_ret2
  exact ⟨rfl, hb1⟩

theorem Gcd_any (s t : ByteArray) (w : World) (hE : Env w) (hs : s.size ≤ 140737488355328) (ht : t.size ≤ 140737488355328) :
    Calls Tryz.prog 69 #[.string s, .string t] w (OpPost (Nat.gcd (val s) (val t)) s t w) := by
  have hc : Calls Tryz.prog 87 #[.string s, .string t, .func (.func 88) #[] #[]] w (OpPost (Nat.gcd (val s) (val t)) s t w) := by
    cases h1 : isN s with
    | false => exact apply_bad _ _ s t w hs ht (.inl h1)
    | true =>
      cases h2 : isN t with
      | false => exact apply_bad _ _ s t w hs ht (.inr h2)
      | true => exact apply_gcd s t w hE h1 h2
  go_enter Tryz.func69, Tryz.ntmps69
  go_wp2_with (go_at_call 87; refine hc.mono ?_; rintro e w1 ⟨rfl, hb1⟩)
  go_ret2
  exact ⟨rfl, hb1⟩


def cmpV (s t : ByteArray) : Int := if isN s = true ∧ isN t = true then cmpN (val s) (val t) else 0
def cmpE (s t : ByteArray) : Int := if isN s = true ∧ isN t = true then 0 else 1

theorem Compare_any (s t : ByteArray) (w : World) (hE : Env w) (hs : s.size ≤ 140737488355328) (ht : t.size ≤ 140737488355328) :
    Calls Tryz.prog 74 #[.string s, .string t] w fun e w' => e = .returned (.tuple #[.int .i64 (cmpV s t), .int .i64 (cmpE s t)]) ∧ Below w.heap.size w w' := by
  have c1 := is_any s w (by omega)
  replace hE := Lib.hid hE
  cases h1 : isN s with
  | false =>
    have HG : Hid (cmpV s t = 0 ∧ cmpE s t = 1) := by unfold Hid cmpV cmpE; simp [h1]
    rw [h1] at c1
    clear h1
    go_enter Tryz.func74, Tryz.ntmps74
    go_wp2_with (go_at_call 68; refine c1.mono ?_; rintro e w1 ⟨rfl, hb1⟩)
    go_ret2
    exact ⟨by rw [HG.out.1, HG.out.2]; rfl, hb1⟩
  | true =>
    cases h2 : isN t with
    | false =>
      have HG : Hid (cmpV s t = 0 ∧ cmpE s t = 1) := by unfold Hid cmpV cmpE; simp [h2]
      rw [h1] at c1
      have H2 := Lib.hid h2
      clear h1 h2
      go_enter Tryz.func74, Tryz.ntmps74
      go_wp2_with fail
      refine c1.mono ?_
      rintro e w1 ⟨rfl, hb1⟩
      replace hb1 := Lib.hid hb1
      go_wp2_with fail
      have c2 := is_any t w1 (by omega)
      rw [H2.out] at c2
      refine c2.mono ?_
      rintro e w2 ⟨rfl, hb2⟩
      replace hb2 := Lib.hid hb2
      go_wp2
      go_ret2
      exact ⟨by rw [HG.out.1, HG.out.2]; rfl, hb1.out.trans (hb2.out.mono hb1.out.size)⟩
    | true =>
      have HG : Hid (cmpV s t = cmpN (val s) (val t) ∧ cmpE s t = 0) := by unfold Hid cmpV cmpE; simp [h1, h2]
      rw [h1] at c1
      have H1 := Lib.hid h1
      have H2 := Lib.hid h2
      clear h1 h2
      go_enter Tryz.func74, Tryz.ntmps74
      go_wp2_with fail
      refine c1.mono ?_
      rintro e w1 ⟨rfl, hb1⟩
      have hbA1 := Lib.hid hb1
      clear hb1
      go_wp2_with fail
      have c2 := is_any t w1 (by omega)
      rw [H2.out] at c2
      refine c2.mono ?_
      rintro e w2 ⟨rfl, hb2⟩
      have hbA2 := Lib.hid (hbA1.out.trans (hb2.mono hbA1.out.size))
      clear hb2 c1 c2 hbA1
      go_wp2_with fail
      refine (parse_num s w2 H1.out).mono ?_
      rintro e w3 ⟨v1, rfl, hn1, _, hb3⟩
      have hbA3 := Lib.hid (hbA2.out.trans (hb3.mono hbA2.out.size))
      replace hn1 := Lib.hid hn1
      clear hb3 hbA2
      go_wp2_with fail
      refine (parse_num t w3 H2.out).mono ?_
      rintro e w4 ⟨v2, rfl, hn2, _, hb2⟩
      have hbA2 := Lib.hid (hbA3.out.trans (hb2.mono hbA3.out.size))
      replace hb2 := Lib.hid hb2
      replace hn2 := Lib.hid hn2
      clear hbA3
      go_wp2_with fail
      refine (compare_any w4 v1 v2 (val s) (val t) (hn1.out.below hb2.out) hn2.out (small_lim (val_lt H1.out)) (by have := hbA2.out.size; have := hE.out.pos; omega)).mono ?_
      rintro e w5 ⟨rfl, hb5⟩
      have hbA5 := Lib.hid (hbA2.out.trans (hb5.mono hbA2.out.size))
      clear hb5 hbA2 hb2 hn1 hn2
      go_wp2
      go_ret2
      exact ⟨by rw [HG.out.1, HG.out.2]; rfl, hbA5.out⟩

def subS (s t : ByteArray) : ByteArray := if isN s = true ∧ isN t = true ∧ val t ≤ val s then num (val s - val t) else ⟨#[]⟩
def subE (s t : ByteArray) : Int := if isN s = true ∧ isN t = true then (if val t ≤ val s then 0 else 10) else 1

theorem Sub_any (s t : ByteArray) (w : World) (hE : Env w) (hs : s.size ≤ 140737488355328) (ht : t.size ≤ 140737488355328) :
    Calls Tryz.prog 75 #[.string s, .string t] w fun e w' => e = .returned (.tuple #[.string (subS s t), .int .i64 (subE s t)]) ∧ Below w.heap.size w w' := by
  have cc := Compare_any s t w hE hs ht
  by_cases hg : isN s = true ∧ isN t = true
  · have e1 : cmpV s t = cmpN (val s) (val t) := by unfold cmpV; rw [if_pos hg]
    have e2 : cmpE s t = 0 := by unfold cmpE; rw [if_pos hg]
    rw [e1, e2] at cc
    by_cases hle : val t ≤ val s
    · have HG : Hid (subS s t = strL (val s - val t) ∧ subE s t = errL (val s - val t)) := by
        have := val_lt hg.1
        unfold Hid subS subE strL errL
        rw [if_pos ⟨hg.1, hg.2, hle⟩, if_pos hg, if_pos hle, if_pos (by omega), if_pos (by omega)]
        exact ⟨rfl, rfl⟩
      have hc : ¬ cmpN (val s) (val t) < 0 := by unfold cmpN; rw [if_neg (by omega)]; split <;> omega
      have HO := Lib.hid (op_good (k := val s - val t) hg.1 hg.2)
      have ha : Hid (∀ w1, Env w1 → Calls Tryz.prog 87 #[.string s, .string t, .func (.func 98) #[] #[]] w1 (OpPost (val s - val t) s t w1)) := fun w1 h => apply_sub s t w1 h hg.1 hg.2 hle
      replace hE := Lib.hid hE
      generalize cmpN (val s) (val t) = c at cc hc
      clear e1 e2 hg hle
      go_enter Tryz.func75, Tryz.ntmps75
      go_wp2_with (first
        | (go_at_call 74; refine cc.mono ?_; rintro e w1 ⟨rfl, hb1⟩; replace hb1 := Lib.hid hb1)
        | (go_at_call 87; refine (ha.out _ (by exact hE.out.below hb1.out)).mono ?_; rintro e w2 ⟨rfl, hb2⟩; replace hb2 := Lib.hid hb2))
      go_ret2
      exact ⟨by rw [HG.out.1, HG.out.2]; exact congrArg Ending.returned (by simp [HO.out.1, HO.out.2]), hb1.out.trans (hb2.out.mono hb1.out.size)⟩
    · have HG : Hid (subS s t = ⟨#[]⟩ ∧ subE s t = 10) := by
        unfold Hid subS subE
        rw [if_neg (fun h => hle h.2.2), if_pos hg, if_neg hle]
        exact ⟨rfl, rfl⟩
      rw [cmpN_lt (by omega)] at cc
      replace hE := Lib.hid hE
      clear e1 e2 hg hle
      go_enter Tryz.func75, Tryz.ntmps75
      go_wp2_with (go_at_call 74; refine cc.mono ?_; rintro e w1 ⟨rfl, hb1⟩; replace hb1 := Lib.hid hb1)
      go_ret2
      exact ⟨by rw [HG.out.1, HG.out.2]; rfl, hb1.out⟩
  · have e1 : cmpV s t = 0 := by unfold cmpV; rw [if_neg hg]
    have e2 : cmpE s t = 1 := by unfold cmpE; rw [if_neg hg]
    rw [e1, e2] at cc
    have hbad : isN s = false ∨ isN t = false := by
      cases h1 : isN s with
      | false => exact .inl rfl
      | true => right; cases h2 : isN t with
        | false => rfl
        | true => exact absurd ⟨h1, h2⟩ hg
    have HG : Hid (subS s t = ⟨#[]⟩ ∧ subE s t = 1) := by
      unfold Hid subS subE
      rw [if_neg (fun h => hg ⟨h.1, h.2.1⟩), if_neg hg]
      exact ⟨rfl, rfl⟩
    have HO := Lib.hid (op_bad (k := 0) hbad)
    have ha : Hid (∀ w1, Calls Tryz.prog 87 #[.string s, .string t, .func (.func 98) #[] #[]] w1 (OpPost 0 s t w1)) := fun w1 => apply_bad _ _ s t w1 hs ht hbad
    replace hE := Lib.hid hE
    clear e1 e2 hg hbad
    go_enter Tryz.func75, Tryz.ntmps75
    go_wp2_with (first
      | (go_at_call 74; refine cc.mono ?_; rintro e w1 ⟨rfl, hb1⟩; replace hb1 := Lib.hid hb1)
      | (go_at_call 87; refine (ha.out _).mono ?_; rintro e w2 ⟨rfl, hb2⟩; replace hb2 := Lib.hid hb2))
    go_ret2
    exact ⟨by rw [HG.out.1, HG.out.2]; exact congrArg Ending.returned (by simp [HO.out.1, HO.out.2]), hb1.out.trans (hb2.out.mono hb1.out.size)⟩

end Nt
end Go.Proofs.YtmekiidknjjfcaaGreatDoor

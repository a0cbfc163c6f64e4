/- The walks of natural's exported functions: each a plain function of its arguments. -/
import Derived.Test.YthggedpgcchneaaGreatDoorNatPub
namespace Go.Proofs.YthggedpgcchneaaGreatDoor
open Go.RowKit Go.Shelf
namespace Nt

theorem apply_bad (f : Nat) (k : Nat) (s t : ByteArray) (w : World) (hs : s.size ≤ 140737488355328) (ht : t.size ≤ 140737488355328) (hb : isN s = false ∨ isN t = false) :
    Calls Tryz.prog 49 #[.string s, .string t, .func (.func f) #[] #[]] w (OpPost k s t w) := by
  have HG := Lib.hid (op_bad (k := k) hb)
  have c1 := is_any s w (by omega)
  cases h1 : isN s with
  | false =>
    rw [h1] at c1
    clear hb h1
    go_enter Tryz.func49, Tryz.ntmps49
    go_wp2_with (go_at_call 42; refine c1.mono ?_; rintro e w1 ⟨rfl, hb1⟩)
    go_ret2
    exact ⟨by rw [HG.out.1, HG.out.2]; rfl, hb1⟩
  | true =>
    have h2 : isN t = false := by rcases hb with h | h; (· rw [h1] at h; cases h); (· exact h)
    rw [h1] at c1
    have H2 := Lib.hid h2
    clear hb h1 h2
    go_enter Tryz.func49, Tryz.ntmps49
    go_wp2_with fail
    refine c1.mono ?_
    rintro e w1 ⟨rfl, hb1⟩
    replace hb1 := Lib.hid hb1
    go_wp2_with fail
    have c2 := is_any t w1 (by omega)
    rw [H2.out] at c2
    refine c2.mono ?_
    rintro e w2 ⟨rfl, hb2⟩
    replace hb2 := Lib.hid hb2
    go_wp2
    go_ret2
    exact ⟨by rw [HG.out.1, HG.out.2]; rfl, hb1.out.trans (hb2.out.mono hb1.out.size)⟩

theorem Gcd_any (s t : ByteArray) (w : World) (hE : Env w) (hs : s.size ≤ 140737488355328) (ht : t.size ≤ 140737488355328) :
    Calls Tryz.prog 43 #[.string s, .string t] w (OpPost (Nat.gcd (val s) (val t)) s t w) := by
  have hc : Calls Tryz.prog 49 #[.string s, .string t, .func (.func 50) #[] #[]] w (OpPost (Nat.gcd (val s) (val t)) s t w) := by
    cases h1 : isN s with
    | false => exact apply_bad _ _ s t w hs ht (.inl h1)
    | true =>
      cases h2 : isN t with
      | false => exact apply_bad _ _ s t w hs ht (.inr h2)
      | true => exact apply_gcd s t w hE h1 h2
  go_enter Tryz.func43, Tryz.ntmps43
  go_wp2_with (go_at_call 49; refine hc.mono ?_; rintro e w1 ⟨rfl, hb1⟩)
  go_ret2
  exact ⟨rfl, hb1⟩


def cmpV (s t : ByteArray) : Int := if isN s = true ∧ isN t = true then cmpN (val s) (val t) else 0
def cmpE (s t : ByteArray) : Int := if isN s = true ∧ isN t = true then 0 else 1

def subS (s t : ByteArray) : ByteArray := if isN s = true ∧ isN t = true ∧ val t ≤ val s then num (val s - val t) else ⟨#[]⟩
def subE (s t : ByteArray) : Int := if isN s = true ∧ isN t = true then (if val t ≤ val s then 0 else 10) else 1

end Nt
end Go.Proofs.YthggedpgcchneaaGreatDoor

/- LinearMatchesReference: Solve agrees with the reference implementation. -/
import Derived.Test.YtjjlnahipiinfaaGreatDoorLinF
namespace Go.Proofs.YtjjlnahipiinfaaGreatDoor
open Go.RowKit Go.Shelf
namespace Nt

set_option maxRecDepth 100000 in
set_option maxHeartbeats 2000000 in
theorem lmatch_any (kh : HeadC) (Aa Ab : Option Addr) (ca cb : Nat) (la : List RowH) (lb : List Raw) (w : World) (hE : Env w) (hs : SysIn w Aa Ab la lb) :
    Calls Tryz.prog 3 #[.slice Aa la.length ca, .slice Ab lb.length cb] w fun e w' => e = .returned (.bool true) ∧ Below w.heap.size w w' := by
  have kf := fun W (h : Below w.heap.size w W) => Few_any Aa Ab ca cb la lb W (hs.below h)
  have nb := hs.nb
  replace kh := Lib.hid kh
  cases h0 : fewB (rowsOf la) lb with
  | false =>
    rw [h0] at kf
    replace kf := Lib.hid kf
    replace hE := Lib.hid hE
    clear h0 hs
    go_enter Tryz.func3, Tryz.ntmps3
    go_wp2_with fail
    refine (kh.out _ hE.out).mono ?_
    rintro e w1 ⟨rfl, hb1⟩
    replace hb1 := Lib.hid hb1
    go_wp2_with fail
    refine (kf.out _ hb1.out).mono ?_
    rintro e w2 ⟨rfl, hb2⟩
    have hB2 := Lib.hid (hb1.out.trans (hb2.mono hb1.out.size))
    clear hb2
    go_wp2
    go_ret
    exact ⟨rfl, hB2.out⟩
  | true =>
    rw [h0] at kf
    obtain ⟨f1, f2, _, _⟩ := few_says h0
    rw [rowsOf_length] at f1
    replace kf := Lib.hid kf
    clear h0
    have ks := Lib.hid fun W (h : Below w.heap.size w W) (hW : Env W) => Solve_r Aa Ab ca cb la lb W hW (hs.below h)
    have kr := Lib.hid fun W (h : Below w.heap.size w W) => RSolve_r Aa Ab ca cb la lb W (hs.below h)
    obtain ⟨d1, d2, d3, _⟩ := solve_bd (A := rowsOf la) (b := lb)
    obtain ⟨er, her⟩ : ∃ x, x = erOf (solveB (rowsOf la) lb) := ⟨_, rfl⟩
    obtain ⟨xs, hxs⟩ : ∃ x, x = xsOf (solveB (rowsOf la) lb) := ⟨_, rfl⟩
    rw [← her, ← hxs] at ks kr
    rw [← her] at d1 d2
    rw [← hxs] at d3
    have d4 : xs.length ≤ 1000 := by omega
    clear her hxs hs
    replace hE := Lib.hid hE
    have q1 : (er == er) = true := by simp
    go_enter Tryz.func3, Tryz.ntmps3
    go_wp2_with fail
    refine (kh.out _ hE.out).mono ?_
    rintro e w1 ⟨rfl, hb1⟩
    replace hb1 := Lib.hid hb1
    go_wp2_with fail
    refine (kf.out _ hb1.out).mono ?_
    rintro e w2 ⟨rfl, hb2⟩
    have hB2 := Lib.hid (hb1.out.trans (hb2.mono hb1.out.size))
    clear hb2
    go_wp2_with fail
    refine (ks.out _ hB2.out (hE.out.below hB2.out)).mono ?_
    rintro e w3 ⟨⟨p, c, rfl, hp⟩, hb3⟩
    have hB3 := Lib.hid (hB2.out.trans (hb3.mono hB2.out.size))
    have hp3 := Lib.hid hp
    clear hb3 hp
    go_wp2_with fail
    refine (kr.out _ hB3.out).mono ?_
    rintro e w4 ⟨⟨p2, c2, rfl, hp⟩, hb4⟩
    have hB4 := Lib.hid (hB3.out.trans (hb4.mono hB3.out.size))
    have hp4 := Lib.hid hp
    have hp5 := Lib.hid (hp3.out.below hb4 (Nat.le_refl _))
    clear hb4 hp
    have kq := Lib.hid (Same_eq p p2 c c2 xs w4 hp5.out hp4.out d4)
    go_wp2_with fail
    refine kq.out.mono ?_
    rintro e w5 ⟨rfl, hb5⟩
    have hB5 := Lib.hid (hB4.out.trans (hb5.mono hB4.out.size))
    clear hb5
    go_wp2
    go_ret
    exact ⟨rfl, hB5.out⟩
end Nt
end Go.Proofs.YtjjlnahipiinfaaGreatDoor

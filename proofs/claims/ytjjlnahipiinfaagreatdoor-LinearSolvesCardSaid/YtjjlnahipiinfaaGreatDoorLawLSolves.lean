/- LinearSolves: what Solve returns is a solution. -/
import Derived.Test.YtjjlnahipiinfaaGreatDoorLinD
namespace Go.Proofs.YtjjlnahipiinfaaGreatDoor
open Go.RowKit Go.Shelf
namespace Nt

set_option maxRecDepth 100000 in
set_option maxHeartbeats 2000000 in
theorem lsolves_any (kh : HeadC) (Aa Ab : Option Addr) (ca cb : Nat) (la : List RowH) (lb : List Raw) (w : World) (hE : Env w) (hs : SysIn w Aa Ab la lb) :
    Calls Tryz.prog 6 #[.slice Aa la.length ca, .slice Ab lb.length cb] w fun e w' => e = .returned (.bool true) ∧ Below w.heap.size w w' := by
  have kf := fun W (h : Below w.heap.size w W) => Few_any Aa Ab ca cb la lb W (hs.below h)
  have nb := hs.nb
  replace kh := Lib.hid kh
  cases h0 : fewB (rowsOf la) lb with
  | false =>
    rw [h0] at kf
    replace kf := Lib.hid kf
    replace hE := Lib.hid hE
    clear h0 hs
    go_enter Tryz.func6, Tryz.ntmps6
    go_wp2_with fail
    refine (kh.out _ hE.out).mono ?_
    rintro e w1 ⟨rfl, hb1⟩
    replace hb1 := Lib.hid hb1
    go_wp2_with fail
    refine (kf.out _ hb1.out).mono ?_
    rintro e w2 ⟨rfl, hb2⟩
    have hB2 := Lib.hid (hb1.out.trans (hb2.mono hb1.out.size))
    clear hb2
    go_wp2
    go_ret
    exact ⟨rfl, hB2.out⟩
  | true =>
    rw [h0] at kf
    obtain ⟨f1, f2, _, _⟩ := few_says h0
    rw [rowsOf_length] at f1
    replace kf := Lib.hid kf
    clear h0
    cases h1 : solveB (rowsOf la) lb with
    | error er =>
      have ks := Lib.hid fun W (h : Below w.heap.size w W) (hW : Env W) => Solve_er Aa Ab ca cb la lb er W hW (hs.below h) h1
      have her := solveB_er h1
      replace hE := Lib.hid hE
      clear h1 hs
      rcases her with rfl | rfl | rfl
      all_goals (
        go_enter Tryz.func6, Tryz.ntmps6
        go_wp2_with fail
        refine (kh.out _ hE.out).mono ?_
        rintro e w1 ⟨rfl, hb1⟩
        replace hb1 := Lib.hid hb1
        go_wp2_with fail
        refine (kf.out _ hb1.out).mono ?_
        rintro e w2 ⟨rfl, hb2⟩
        have hB2 := Lib.hid (hb1.out.trans (hb2.mono hb1.out.size))
        clear hb2
        go_wp2_with fail
        refine (ks.out _ hB2.out (hE.out.below hB2.out)).mono ?_
        rintro e w3 ⟨rfl, hb3⟩
        have hB3 := Lib.hid (hB2.out.trans (hb3.mono hB2.out.size))
        clear hb3
        go_wp2
        go_ret
        exact ⟨rfl, hB3.out⟩)
    | ok xs =>
      have ks := Lib.hid fun W (h : Below w.heap.size w W) (hW : Env W) => Solve_ok Aa Ab ca cb la lb xs W hW (hs.below h) h1
      obtain ⟨hl, hz⟩ := solveB_sz h1
      have hmb := Lib.hid hs.mb
      have hsw := Lib.hid fun W p (h : Below w.heap.size w W) (hp : InRow W p xs) => hs.swap h hp (by omega) hz
      replace hE := Lib.hid hE
      clear hz hs
      rw [hl] at ks
      cases h2 : appliedB (rowsOf la) xs with
      | none =>
        have ka := Lib.hid fun W p c (h : Below w.heap.size w W) (hW : Env W) (hp : InRow W p xs) => Applied_no Aa p ca c la xs W hW (hsw.out W p h hp) (by omega) h2
        rw [hl] at ka
        clear h2 h1 hl
        go_enter Tryz.func6, Tryz.ntmps6
        go_wp2_with fail
        refine (kh.out _ hE.out).mono ?_
        rintro e w1 ⟨rfl, hb1⟩
        replace hb1 := Lib.hid hb1
        go_wp2_with fail
        refine (kf.out _ hb1.out).mono ?_
        rintro e w2 ⟨rfl, hb2⟩
        have hB2 := Lib.hid (hb1.out.trans (hb2.mono hb1.out.size))
        clear hb2
        go_wp2_with fail
        refine (ks.out _ hB2.out (hE.out.below hB2.out)).mono ?_
        rintro e w3 ⟨⟨p, c, rfl, hp⟩, hb3⟩
        have hB3 := Lib.hid (hB2.out.trans (hb3.mono hB2.out.size))
        replace hp := Lib.hid hp
        clear hb3
        go_wp2_with fail
        refine (ka.out _ p c hB3.out (hE.out.below hB3.out) hp.out).mono ?_
        rintro e w4 ⟨rfl, hb4⟩
        have hB4 := Lib.hid (hB3.out.trans (hb4.mono hB3.out.size))
        clear hb4
        go_wp2
        go_ret
        exact ⟨rfl, hB4.out⟩
      | some s =>
        have ka := Lib.hid fun W p c (h : Below w.heap.size w W) (hW : Env W) (hp : InRow W p xs) => Applied_ok Aa p ca c la xs s W hW (hsw.out W p h hp) (by omega) h2
        rw [hl, solves_law h1 h2] at ka
        have kq := Lib.hid fun W p c (h : Below w.heap.size w W) (hp : InRow W p lb) => Same_eq p Ab c cb lb W hp (hmb.out.below h (Nat.le_refl _)) (by omega)
        clear h2 h1 hl
        go_enter Tryz.func6, Tryz.ntmps6
        go_wp2_with fail
        refine (kh.out _ hE.out).mono ?_
        rintro e w1 ⟨rfl, hb1⟩
        replace hb1 := Lib.hid hb1
        go_wp2_with fail
        refine (kf.out _ hb1.out).mono ?_
        rintro e w2 ⟨rfl, hb2⟩
        have hB2 := Lib.hid (hb1.out.trans (hb2.mono hb1.out.size))
        clear hb2
        go_wp2_with fail
        refine (ks.out _ hB2.out (hE.out.below hB2.out)).mono ?_
        rintro e w3 ⟨⟨p, c, rfl, hp⟩, hb3⟩
        have hB3 := Lib.hid (hB2.out.trans (hb3.mono hB2.out.size))
        replace hp := Lib.hid hp
        clear hb3
        go_wp2_with fail
        refine (ka.out _ p c hB3.out (hE.out.below hB3.out) hp.out).mono ?_
        rintro e w4 ⟨⟨p2, c2, rfl, hp2⟩, hb4⟩
        have hB4 := Lib.hid (hB3.out.trans (hb4.mono hB3.out.size))
        replace hp2 := Lib.hid hp2
        clear hb4
        go_wp2_with fail
        refine (kq.out _ p2 c2 hB4.out hp2.out).mono ?_
        rintro e w5 ⟨rfl, hb5⟩
        have hB5 := Lib.hid (hB4.out.trans (hb5.mono hB4.out.size))
        clear hb5
        go_wp2
        go_ret
        exact ⟨rfl, hB5.out⟩
end Nt
end Go.Proofs.YtjjlnahipiinfaaGreatDoor

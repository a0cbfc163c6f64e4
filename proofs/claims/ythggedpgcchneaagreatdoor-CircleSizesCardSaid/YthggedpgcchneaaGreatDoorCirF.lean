/- The head of the laws; structures as parameters. -/
import Derived.Test.YthggedpgcchneaaGreatDoorCirC
import Derived.Test.YthggedpgcchneaaGreatDoorCirD
import Derived.Test.YthggedpgcchneaaGreatDoorCirB
import Derived.Test.YthggedpgcchneaaGreatDoorRatWrap
import Derived.WideKeyArgs
import Derived.Deep.Slices
import Derived.Deep.Strs
import Derived.Test.YthggedpgcchneaaGreatDoorNatWrap
import Derived.Lib.SmallJoins
namespace Go.Proofs.YthggedpgcchneaaGreatDoor
open Go.RowKit Go.Shelf
namespace Ci
open Nt

def b1 : ByteArray := ⟨#[49]⟩
def b2 : ByteArray := ⟨#[50]⟩
set_option maxRecDepth 100000 in
set_option maxHeartbeats 4000000 in
theorem half_any (h c : Int) (w : World) :
    Calls Tryz.prog 20 #[.int .i64 h, .int .i64 c] w fun e w' => e = .returned (.agg #[.int .i64 c, .int .i64 h, .bool false, .string b1, .string b2]) ∧ Below w.heap.size w w' := by
  have hB : Hid (Below w.heap.size w (w.alloc (.cells #[.int .i64 c, .int .i64 h, .bool false, .string b1, .string b2] 44))) := (Below.refl _ w).alloc (Nat.le_refl _) _
  have hX := heap_alloc_new w (.cells #[.int .i64 c, .int .i64 h, .bool false, .string b1, .string b2] 44)
  have hc : ∀ j v, [(Value.int .i64 c), .int .i64 h, .bool false, .string b1, .string b2][j]? = some v → (w.alloc (.cells #[.int .i64 c, .int .i64 h, .bool false, .string b1, .string b2] 44)).cell? ⟨w.heap.size, j, none⟩ = some v := fun j v hj => by
    simp only [World.cell?, hX]
    simpa using hj
  unfold b1 b2 at hc
  have c0 := hc 0 _ rfl
  have c1 := hc 1 _ rfl
  have c2 := hc 2 _ rfl
  have c3 := hc 3 _ rfl
  have c4 := hc 4 _ rfl
  clear hX hc
  go_enter Tryz.func20, Tryz.ntmps20
  go_wp2
  refine bodyPost_ret (v := .agg #[.int .i64 c, .int .i64 h, .bool false, .string b1, .string b2]) (by simp [results, Tryz.results20, go_sem, c0, c1, c2, c3, c4, b1, b2]) rfl ⟨rfl, hB.out⟩
/-- few: a small structure, and a list of at most 70 numbers. -/
def few18 (s : SR) (F : List Int) : Bool := fewS s && decide (F.length ≤ 70)
set_option maxRecDepth 100000 in
set_option maxHeartbeats 4000000 in
theorem few18_any (s : SR) (Ap Ac Av Af : Option Addr) (cp cc cv cf : Nat) (F : List Int) (w : World) (hs : StIn w s Ap Ac Av) (hF : F.length ≤ 140737488355328) :
    Calls Tryz.prog 10 #[.agg #[.slice Ap s.ps.length cp, .slice Ac s.cap.length cc, .slice Av s.vot.length cv], .slice Af F.length cf] w fun e w' => e = .returned (.bool (few18 s F)) ∧ Below w.heap.size w w' := by
  have hX0 : Hid (Bk (w.alloc (.cells #[.slice Ap s.ps.length cp, .slice Ac s.cap.length cc, .slice Av s.vot.length cv] 25)) w.heap.size 25 (SC s Ap Ac Av cp cc cv)) := Bk.new w _ _
  have hB0 : Hid (Below w.heap.size w (w.alloc (.cells #[.slice Ap s.ps.length cp, .slice Ac s.cap.length cc, .slice Av s.vot.length cv] 25))) := (Below.refl _ w).alloc (Nat.le_refl _) _
  have u0 := hX0.out.cell (j := 0) rfl
  have u1 := hX0.out.cell (j := 1) rfl
  have u2 := hX0.out.cell (j := 2) rfl
  have u9 := hX0.out.lt
  have kf := FewS_any s Ap Ac Av cp cc cv (w.alloc (.cells #[.slice Ap s.ps.length cp, .slice Ac s.cap.length cc, .slice Av s.vot.length cv] 25)) (hs.below hB0.out)
  clear hs
  cases hf : fewS s with
  | false =>
    have hG : Hid (few18 s F = false) := by unfold Hid few18; rw [hf]; rfl
    rw [hf] at kf
    replace kf := Lib.hid kf
    clear hf
    go_enter Tryz.func10, Tryz.ntmps10
    go_wp2_with fail
    refine kf.out.mono ?_
    rintro e w2 ⟨rfl, hb⟩
    have hB2 := Lib.hid (hB0.out.trans (hb.mono hB0.out.size))
    clear hb u0 u1 u2 u9
    go_wp2
    go_ret
    exact ⟨ret_bool hG.out.symm, hB2.out⟩
  | true =>
    have hG : Hid (few18 s F = decide (F.length ≤ 70)) := by unfold Hid few18; rw [hf]; rfl
    have hd : decide ((F.length : Int) ≤ 70) = decide (F.length ≤ 70) := by
      by_cases h : F.length ≤ 70
      · rw [decide_eq_true h, decide_eq_true (by omega)]
      · rw [decide_eq_false h, decide_eq_false (by omega)]
    rw [hf] at kf
    replace kf := Lib.hid kf
    clear hf
    cases hq : decide (F.length ≤ 70) with
    | true =>
      rw [hq] at hd hG
      clear hq
      go_enter Tryz.func10, Tryz.ntmps10
      go_wp2_with fail
      refine kf.out.mono ?_
      rintro e w2 ⟨rfl, hb⟩
      have hB2 := Lib.hid (hB0.out.trans (hb.mono hB0.out.size))
      clear hb u0 u1 u2 u9
      go_wp2
      go_ret
      exact ⟨ret_bool hG.out.symm, hB2.out⟩
    | false =>
      rw [hq] at hd hG
      clear hq
      go_enter Tryz.func10, Tryz.ntmps10
      go_wp2_with fail
      refine kf.out.mono ?_
      rintro e w2 ⟨rfl, hb⟩
      have hB2 := Lib.hid (hB0.out.trans (hb.mono hB0.out.size))
      clear hb u0 u1 u2 u9
      go_wp2
      go_ret
      exact ⟨ret_bool hG.out.symm, hB2.out⟩
end Ci
end Go.Proofs.YthggedpgcchneaaGreatDoor

namespace Go.Proofs.YthggedpgcchneaaGreatDoor
open Go.RowKit Go.Shelf
namespace Ci
open Nt

def nmA : ByteArray := ⟨#[97]⟩
def nmB : ByteArray := ⟨#[98]⟩
def nmC : ByteArray := ⟨#[99]⟩
def nmD : ByteArray := ⟨#[100]⟩
def lkH (h c : Int) : Lk := (c, h, false, b1, b2)
def sH : SR := ⟨[nmA, nmB, nmC, nmD], [lkH 1 0, lkH 0 1, lkH 1 2], []⟩
def sH2 : SR := ⟨[nmA, nmB, nmC, nmD], [lkH 1 0, lkH 3 0, lkH 0 1, lkH 1 2], []⟩
theorem units_half : unitsN (false, b1, b2) = 3000 := by kernel_rfl
theorem sound_H : soundB sH = true := by kernel_rfl
theorem sound_H2 : soundB sH2 = true := by kernel_rfl
theorem edges_H : edges sH = [(1, 0), (0, 1), (1, 2)] := by kernel_rfl
theorem edges_H2 : edges sH2 = [(1, 0), (3, 0), (0, 1), (1, 2)] := by kernel_rfl
def fH (x : Nat) : Nat := if x = 1 then 0 else x
def gH (x : Nat) : Nat := if x ≤ 1 then 0 else x
def gH2 (x : Nat) : Nat := if x = 3 then 0 else if x ≤ 1 then 1 else 2
theorem mut_01 {E : List (Nat × Nat)} (h1 : (1, 0) ∈ E) (h2 : (0, 1) ∈ E) : ∀ x, x < 4 → Mut E x (fH x) := fun x _ => by
  unfold fH
  by_cases e : x = 1
  · rw [if_pos e, e]; exact ⟨.one h1, .one h2⟩
  · rw [if_neg e]; exact .refl x
theorem fst_H : ∀ x, x < 4 → fst (edges sH) x = fH x := fun x hx => by
  have hE : InN 4 (edges sH) := edges_in sound_H
  rw [edges_H] at hE ⊢
  refine fst_of (g := gH) hE (mut_01 (by decide) (by decide)) (by decide) ?_ hx
  intro a ha b hb
  have : ∀ a, a < 4 → ∀ b, b < 4 → gH a = gH b → fH a ≤ b := by decide
  exact this a ha b hb
theorem fst_H2 : ∀ x, x < 4 → fst (edges sH2) x = fH x := fun x hx => by
  have hE : InN 4 (edges sH2) := edges_in sound_H2
  rw [edges_H2] at hE ⊢
  refine fst_of (g := gH2) hE (mut_01 (by decide) (by decide)) (by decide) ?_ hx
  intro a ha b hb
  have : ∀ a, a < 4 → ∀ b, b < 4 → gH2 a = gH2 b → fH a ≤ b := by decide
  exact this a ha b hb
theorem compsI_H : compsI sH = [[0, 1], [2], [3]] := by
  unfold compsI
  rw [show sH.ps.length = 4 from rfl, comps_of (f := fH) (show InN 4 (edges sH) from edges_in sound_H) fst_H, edges_H]
  decide
theorem compsI_H2 : compsI sH2 = [[3], [0, 1], [2]] := by
  unfold compsI
  rw [show sH2.ps.length = 4 from rfl, comps_of (f := fH) (show InN 4 (edges sH2) from edges_in sound_H2) fst_H2, edges_H2]
  decide
def oH (x : Nat) : Int := if x = 3 then -1 else x
theorem rk_H : (List.range 4).map (rk (edges sH) (toN [0])) = [0, 1, 2, -1] := by
  have hE : InN 4 (edges sH) := edges_in sound_H
  have h : ∀ x, x < 4 → rk (edges sH) (toN [0]) x = oH x := fun x hx => by
    rw [edges_H] at hE ⊢
    refine rk_of_local (n := 4) (fun f hf => ?_) hE (by decide) ?_ hx
    · have : f = 0 := by simpa [toN] using hf
      subst this
      decide
    · have : ∀ x, x < 4 → oH x = -1 ∨ (oH x = 0 ∧ x ∈ toN [0]) ∨ ∃ e, e ∈ [(1, 0), (0, 1), (1, 2)] ∧ e.2 = x ∧ 0 ≤ oH e.1 ∧ oH x = oH e.1 + 1 := by decide
      exact this
  rw [show [0, 1, 2, -1] = (List.range 4).map oH by decide]
  exact List.map_congr_left fun x hx => h x (List.mem_range.1 hx)
theorem list_0 : listB 4 [0] = true := by decide
theorem list_10 : listB 4 [1, 0] = false := by decide
end Ci
end Go.Proofs.YthggedpgcchneaaGreatDoor

namespace Go.Proofs.YthggedpgcchneaaGreatDoor
open Go.RowKit Go.Shelf
namespace Ci
open Nt

def HeadC : Prop := ∀ w : World, Env w → Calls Tryz.prog 9 #[] w fun e w' => e = .returned (.bool true) ∧ Below w.heap.size w w'
theorem inStr_bk {W : World} {b : Nat} {l : List ByteArray} (h : Bk W b 9 (l.map .string)) : InStr W (some ⟨b, 0, none⟩) l := fun _ => ⟨b, 0, rfl, h.lt, fun j hj => by
  rw [Nat.zero_add]
  exact h.cell (by simp [hj])⟩
theorem inInt_bk {W : World} {b : Nat} {l : List Int} (h : Bk W b 3 (l.map (.int .i64))) : InInt W (some ⟨b, 0, none⟩) l := fun _ => ⟨b, 0, rfl, h.lt, fun j hj => by
  rw [Nat.zero_add]
  exact h.cell (by simp [hj])⟩
theorem stIn_H {W : World} {nb lb : Nat} (h1 : Bk W nb 9 (sH.ps.map .string)) (h2 : Bk W lb 44 [.int .i64 0, .int .i64 1, .bool false, .string b1, .string b2, .int .i64 1, .int .i64 0, .bool false, .string b1, .string b2, .int .i64 2, .int .i64 1, .bool false, .string b1, .string b2]) : StIn W sH (some ⟨nb, 0, none⟩) (some ⟨lb, 0, none⟩) none := by
  refine ⟨inStr_bk h1, fun _ => ⟨lb, 0, rfl, h2.lt, fun j hj => ?_⟩, fun h => absurd h (by decide), by decide, by decide, by decide, by decide, by decide, by decide, by decide, by decide⟩
  match j, hj with
  | 0, _ => exact ⟨h2.cell (j := 0) rfl, h2.cell (j := 1) rfl, h2.cell (j := 2) rfl, h2.cell (j := 3) rfl, h2.cell (j := 4) rfl⟩
  | 1, _ => exact ⟨h2.cell (j := 5) rfl, h2.cell (j := 6) rfl, h2.cell (j := 7) rfl, h2.cell (j := 8) rfl, h2.cell (j := 9) rfl⟩
  | 2, _ => exact ⟨h2.cell (j := 10) rfl, h2.cell (j := 11) rfl, h2.cell (j := 12) rfl, h2.cell (j := 13) rfl, h2.cell (j := 14) rfl⟩
  | j + 3, hj => exact absurd hj (by simp [sH])
theorem stIn_H2 {W : World} {nb lb : Nat} (h1 : Bk W nb 9 (sH.ps.map .string)) (h2 : Bk W lb 44 [.int .i64 0, .int .i64 1, .bool false, .string b1, .string b2, .int .i64 0, .int .i64 3, .bool false, .string b1, .string b2, .int .i64 1, .int .i64 0, .bool false, .string b1, .string b2, .int .i64 2, .int .i64 1, .bool false, .string b1, .string b2]) : StIn W sH2 (some ⟨nb, 0, none⟩) (some ⟨lb, 0, none⟩) none := by
  refine ⟨inStr_bk h1, fun _ => ⟨lb, 0, rfl, h2.lt, fun j hj => ?_⟩, fun h => absurd h (by decide), by decide, by decide, by decide, by decide, by decide, by decide, by decide, by decide⟩
  match j, hj with
  | 0, _ => exact ⟨h2.cell (j := 0) rfl, h2.cell (j := 1) rfl, h2.cell (j := 2) rfl, h2.cell (j := 3) rfl, h2.cell (j := 4) rfl⟩
  | 1, _ => exact ⟨h2.cell (j := 5) rfl, h2.cell (j := 6) rfl, h2.cell (j := 7) rfl, h2.cell (j := 8) rfl, h2.cell (j := 9) rfl⟩
  | 2, _ => exact ⟨h2.cell (j := 10) rfl, h2.cell (j := 11) rfl, h2.cell (j := 12) rfl, h2.cell (j := 13) rfl, h2.cell (j := 14) rfl⟩
  | 3, _ => exact ⟨h2.cell (j := 15) rfl, h2.cell (j := 16) rfl, h2.cell (j := 17) rfl, h2.cell (j := 18) rfl, h2.cell (j := 19) rfl⟩
  | j + 4, hj => exact absurd hj (by simp [sH2])
theorem comp_H {W : World} {nb lb : Nat} (hE : Env W) (h1 : Bk W nb 9 (sH.ps.map .string)) (h2 : Bk W lb 44 [.int .i64 0, .int .i64 1, .bool false, .string b1, .string b2, .int .i64 1, .int .i64 0, .bool false, .string b1, .string b2, .int .i64 2, .int .i64 1, .bool false, .string b1, .string b2]) :
    Calls Tryz.prog 11 #[.agg #[.slice (some ⟨nb, 0, none⟩) 4 4, .slice (some ⟨lb, 0, none⟩) 3 3, .slice none 0 0]] W fun e w' => (∃ A c l, e = .returned (.tuple #[.slice A (List.length l) c, .int .i64 0]) ∧ InLs w' A l ∧ bare l = [[0, 1], [2], [3]]) ∧ Below W.heap.size W w' :=
  (Components_any sH _ _ none 4 3 0 W hE (stIn_H h1 h2) (by decide)).mono fun e w' h => by
    obtain ⟨h3, h4⟩ := h
    rw [if_pos sound_H] at h3
    obtain ⟨A, c, l, e1, e2, e3⟩ := h3
    exact ⟨⟨A, c, l, e1, e2, by rw [e3, compsI_H]⟩, h4⟩
theorem comp_H2 {W : World} {nb lb2 : Nat} (hE : Env W) (h1 : Bk W nb 9 (sH.ps.map .string)) (h2 : Bk W lb2 44 [.int .i64 0, .int .i64 1, .bool false, .string b1, .string b2, .int .i64 0, .int .i64 3, .bool false, .string b1, .string b2, .int .i64 1, .int .i64 0, .bool false, .string b1, .string b2, .int .i64 2, .int .i64 1, .bool false, .string b1, .string b2]) :
    Calls Tryz.prog 11 #[.agg #[.slice (some ⟨nb, 0, none⟩) 4 4, .slice (some ⟨lb2, 0, none⟩) 4 4, .slice none 0 0]] W fun e w' => (∃ A c l, e = .returned (.tuple #[.slice A (List.length l) c, .int .i64 0]) ∧ InLs w' A l ∧ bare l = [[3], [0, 1], [2]]) ∧ Below W.heap.size W w' :=
  (Components_any sH2 _ _ none 4 4 0 W hE (stIn_H2 h1 h2) (by decide)).mono fun e w' h => by
    obtain ⟨h3, h4⟩ := h
    rw [if_pos sound_H2] at h3
    obtain ⟨A, c, l, e1, e2, e3⟩ := h3
    exact ⟨⟨A, c, l, e1, e2, by rw [e3, compsI_H2]⟩, h4⟩
theorem rank_H {W : World} {nb lb fb : Nat} (hE : Env W) (h1 : Bk W nb 9 (sH.ps.map .string)) (h2 : Bk W lb 44 [.int .i64 0, .int .i64 1, .bool false, .string b1, .string b2, .int .i64 1, .int .i64 0, .bool false, .string b1, .string b2, .int .i64 2, .int .i64 1, .bool false, .string b1, .string b2]) (h3 : Bk W fb 3 [.int .i64 0]) :
    Calls Tryz.prog 13 #[.agg #[.slice (some ⟨nb, 0, none⟩) 4 4, .slice (some ⟨lb, 0, none⟩) 3 3, .slice none 0 0], .slice (some ⟨fb, 0, none⟩) 1 1] W fun e w' => (∃ b, e = .returned (.tuple #[.slice (some ⟨b, 0, none⟩) 4 4, .int .i64 0]) ∧ InInt w' (some ⟨b, 0, none⟩) [0, 1, 2, -1]) ∧ Below W.heap.size W w' :=
  (Ranks_any sH _ _ none (some ⟨fb, 0, none⟩) 4 3 0 1 [0] W hE (stIn_H h1 h2) (by decide) (inInt_bk h3) (by decide)).mono fun e w' h => by
    obtain ⟨h4, h5⟩ := h
    rw [if_pos ⟨sound_H, list_0⟩] at h4
    obtain ⟨b, e1, _, e2⟩ := h4
    refine ⟨⟨b, e1, ?_⟩, h5⟩
    rw [← rk_H]
    exact e2.inInt
theorem rank_H2 {W : World} {nb lb fb : Nat} (hE : Env W) (h1 : Bk W nb 9 (sH.ps.map .string)) (h2 : Bk W lb 44 [.int .i64 0, .int .i64 1, .bool false, .string b1, .string b2, .int .i64 1, .int .i64 0, .bool false, .string b1, .string b2, .int .i64 2, .int .i64 1, .bool false, .string b1, .string b2]) (h3 : Bk W fb 3 [.int .i64 1, .int .i64 0]) :
    Calls Tryz.prog 13 #[.agg #[.slice (some ⟨nb, 0, none⟩) 4 4, .slice (some ⟨lb, 0, none⟩) 3 3, .slice none 0 0], .slice (some ⟨fb, 0, none⟩) 2 2] W fun e w' => e = .returned (.tuple #[.slice none 0 0, .int .i64 1]) ∧ Below W.heap.size W w' :=
  (Ranks_any sH _ _ none (some ⟨fb, 0, none⟩) 4 3 0 2 [1, 0] W hE (stIn_H h1 h2) (by decide) (inInt_bk h3) (by decide)).mono fun e w' h => by
    obtain ⟨h4, h5⟩ := h
    rw [if_neg (fun h => by have h6 : listB 4 [1, 0] = true := h.2; rw [list_10] at h6; cases h6)] at h4
    exact ⟨h4, h5⟩
theorem inLs_lit {W : World} {g a b c : Nat} {x y z : List Int} (h0 : Bk W g 26 [.slice (some ⟨a, 0, none⟩) x.length x.length, .slice (some ⟨b, 0, none⟩) y.length y.length, .slice (some ⟨c, 0, none⟩) z.length z.length]) (h1 : InInt W (some ⟨a, 0, none⟩) x) (h2 : InInt W (some ⟨b, 0, none⟩) y) (h3 : InInt W (some ⟨c, 0, none⟩) z)
    (l1 : x.length ≤ 10) (l2 : y.length ≤ 10) (l3 : z.length ≤ 10) :
    InLs W (some ⟨g, 0, none⟩) [(some ⟨a, 0, none⟩, x.length, x), (some ⟨b, 0, none⟩, y.length, y), (some ⟨c, 0, none⟩, z.length, z)] := fun _ => ⟨g, 0, rfl, h0.lt, fun j hj => by
  match j, hj with
  | 0, _ => exact ⟨h0.cell (j := 0) rfl, h1, Nat.le_trans l1 (by decide)⟩
  | 1, _ => exact ⟨h0.cell (j := 1) rfl, h2, Nat.le_trans l2 (by decide)⟩
  | 2, _ => exact ⟨h0.cell (j := 2) rfl, h3, Nat.le_trans l3 (by decide)⟩
  | j + 3, hj => exact absurd hj (by simp)⟩
theorem InLs.below {W W' : World} {A : Option Addr} {l : List (Option Addr × Nat × List Int)} (h : InLs W A l) (hb : Below W.heap.size W W') : InLs W' A l := fun h0 => by
  obtain ⟨b, off, e, hl, hc⟩ := h h0
  exact ⟨b, off, e, Nat.lt_of_lt_of_le hl hb.size, fun j hj => ⟨(hb.cell (p := ⟨b, _, none⟩) hl).trans (hc j hj).1, (hc j hj).2.1.below hb, (hc j hj).2.2⟩⟩

theorem bl_drewN {B : Nat} {a w : World} (h : Below B a w) (n : Nat) : Below B a (w.drewN n) := ⟨h.os, h.tape, h.output, h.size, h.block⟩
theorem lists_lit {W : World} {A : Option Addr} {ca g a b c : Nat} {l : List (Option Addr × Nat × List Int)} {x y z : List Int} (hA : InLs W A l) (hb : bare l = [x, y, z]) (h0 : Bk W g 26 [.slice (some ⟨a, 0, none⟩) x.length x.length, .slice (some ⟨b, 0, none⟩) y.length y.length, .slice (some ⟨c, 0, none⟩) z.length z.length])
    (h1 : Bk W a 3 (x.map (.int .i64))) (h2 : Bk W b 3 (y.map (.int .i64))) (h3 : Bk W c 3 (z.map (.int .i64))) (l1 : x.length ≤ 10) (l2 : y.length ≤ 10) (l3 : z.length ≤ 10) :
    Calls Tryz.prog 15 #[.slice A l.length ca, .slice (some ⟨g, 0, none⟩) 3 3] W fun e w' => e = .returned (.bool true) ∧ Below W.heap.size W w' := by
  have hl : l.length = 3 := by have := congrArg List.length hb; simpa [bare] using this
  refine (Lists_any A (some ⟨g, 0, none⟩) ca 3 l [(some ⟨a, 0, none⟩, x.length, x), (some ⟨b, 0, none⟩, y.length, y), (some ⟨c, 0, none⟩, z.length, z)] W hA (inLs_lit h0 (inInt_bk h1) (inInt_bk h2) (inInt_bk h3) l1 l2 l3) (by omega)).mono ?_
  rintro e w' ⟨rfl, q, rfl⟩
  refine ⟨?_, bl_drewN (Below.refl _ W) q⟩
  rw [hb, decide_eq_true (by rfl)]
theorem ints_lit {W : World} {b c : Nat} {x : List Int} (h1 : InInt W (some ⟨b, 0, none⟩) x) (h2 : Bk W c 3 (x.map (.int .i64))) (l1 : x.length ≤ 10) :
    Calls Tryz.prog 16 #[.slice (some ⟨b, 0, none⟩) x.length x.length, .slice (some ⟨c, 0, none⟩) x.length x.length] W fun e w' => e = .returned (.bool true) ∧ Below W.heap.size W w' := by
  refine (Ints_any (some ⟨b, 0, none⟩) (some ⟨c, 0, none⟩) x.length x.length x x W h1 (inInt_bk h2) (Nat.le_trans l1 (by decide))).mono ?_
  rintro e w' ⟨rfl, q, rfl⟩
  refine ⟨?_, bl_drewN (Below.refl _ W) q⟩
  rw [decide_eq_true rfl]

set_option maxRecDepth 100000 in
set_option maxHeartbeats 16000000 in
theorem head_any : HeadC := fun w hE => by
  have kh := Lib.hid half_any
  have hB1 : Hid (Below w.heap.size w (w.alloc (.cells #[.string { data := #[97] }, .string { data := #[98] }, .string { data := #[99] }, .string { data := #[100] }] 9))) := (Below.refl _ w).alloc (Nat.le_refl _) _
  have hN1 : Hid (Bk (w.alloc (.cells #[.string { data := #[97] }, .string { data := #[98] }, .string { data := #[99] }, .string { data := #[100] }] 9)) w.heap.size 9 (sH.ps.map .string)) := Bk.new w _ _
  replace hE := Lib.hid hE
  go_enter Tryz.func9, Tryz.ntmps9
  go_wp2_with fail
  obtain ⟨w1, hw1⟩ : ∃ x, x = w.alloc (.cells #[.string { data := #[97] }, .string { data := #[98] }, .string { data := #[99] }, .string { data := #[100] }] 9) := ⟨_, rfl⟩
  rw [← hw1] at hB1 hN1 ⊢
  obtain ⟨nb, hnb⟩ : ∃ x, x = w.heap.size := ⟨_, rfl⟩
  rw [← hnb] at hN1 ⊢
  replace hnb := Lib.hid hnb
  clear hw1
  refine (kh.out _ _ _).mono ?_
  rintro e w2 ⟨rfl, hb⟩
  have hB2 := Lib.hid (hB1.out.trans (hb.mono hB1.out.size))
  have hN2 := Lib.hid (hN1.out.below hb)
  clear hb hB1 hN1
  go_wp2_with fail
  refine (kh.out _ _ _).mono ?_
  rintro e w3 ⟨rfl, hb⟩
  have hB3 := Lib.hid (hB2.out.trans (hb.mono hB2.out.size))
  have hN3 := Lib.hid (hN2.out.below hb)
  clear hb hB2 hN2
  go_wp2_with fail
  refine (kh.out _ _ _).mono ?_
  rintro e w4 ⟨rfl, hb⟩
  have hB4 := Lib.hid (hB3.out.trans (hb.mono hB3.out.size))
  have hN4 := Lib.hid (hN3.out.below hb)
  clear hb hB3 hN3
  have hsz4 : (w4.alloc (.cells #[.int .i64 0, .int .i64 1, .bool false, .string b1, .string b2, .int .i64 1, .int .i64 0, .bool false, .string b1, .string b2, .int .i64 2, .int .i64 1, .bool false, .string b1, .string b2] 44)).heap.size = w4.heap.size + 1 := by simp
  have hszb : ((w4.alloc (.cells #[.int .i64 0, .int .i64 1, .bool false, .string b1, .string b2, .int .i64 1, .int .i64 0, .bool false, .string b1, .string b2, .int .i64 2, .int .i64 1, .bool false, .string b1, .string b2] 44)).alloc (.cells #[.slice (some ⟨nb, 0, none⟩) 4 4, .slice (some ⟨w4.heap.size, 0, none⟩) 3 3, .slice none 0 0] 25)).heap.size = w4.heap.size + 1 + 1 := by simp
  have hN5 := Lib.hid (((hN4.out.alloc (.cells #[.int .i64 0, .int .i64 1, .bool false, .string b1, .string b2, .int .i64 1, .int .i64 0, .bool false, .string b1, .string b2, .int .i64 2, .int .i64 1, .bool false, .string b1, .string b2] 44)).alloc (.cells #[.slice (some ⟨nb, 0, none⟩) 4 4, .slice (some ⟨w4.heap.size, 0, none⟩) 3 3, .slice none 0 0] 25)).alloc (.cells #[.slice (some ⟨nb, 0, none⟩) 4 4, .slice (some ⟨w4.heap.size, 0, none⟩) 3 3, .slice none 0 0] 25))
  have hL5 := Lib.hid (((Bk.new w4 44 [.int .i64 0, .int .i64 1, .bool false, .string b1, .string b2, .int .i64 1, .int .i64 0, .bool false, .string b1, .string b2, .int .i64 2, .int .i64 1, .bool false, .string b1, .string b2]).alloc (.cells #[.slice (some ⟨nb, 0, none⟩) 4 4, .slice (some ⟨w4.heap.size, 0, none⟩) 3 3, .slice none 0 0] 25)).alloc (.cells #[.slice (some ⟨nb, 0, none⟩) 4 4, .slice (some ⟨w4.heap.size, 0, none⟩) 3 3, .slice none 0 0] 25))
  have hS5 := (Bk.new (w4.alloc (.cells #[.int .i64 0, .int .i64 1, .bool false, .string b1, .string b2, .int .i64 1, .int .i64 0, .bool false, .string b1, .string b2, .int .i64 2, .int .i64 1, .bool false, .string b1, .string b2] 44)) 25 [.slice (some ⟨nb, 0, none⟩) 4 4, .slice (some ⟨w4.heap.size, 0, none⟩) 3 3, .slice none 0 0]).alloc (.cells #[.slice (some ⟨nb, 0, none⟩) 4 4, .slice (some ⟨w4.heap.size, 0, none⟩) 3 3, .slice none 0 0] 25)
  have hT5 := Bk.new ((w4.alloc (.cells #[.int .i64 0, .int .i64 1, .bool false, .string b1, .string b2, .int .i64 1, .int .i64 0, .bool false, .string b1, .string b2, .int .i64 2, .int .i64 1, .bool false, .string b1, .string b2] 44)).alloc (.cells #[.slice (some ⟨nb, 0, none⟩) 4 4, .slice (some ⟨w4.heap.size, 0, none⟩) 3 3, .slice none 0 0] 25)) 25 [.slice (some ⟨nb, 0, none⟩) 4 4, .slice (some ⟨w4.heap.size, 0, none⟩) 3 3, .slice none 0 0]
  rw [hsz4] at hS5
  rw [hszb] at hT5
  replace hS5 := Lib.hid hS5
  replace hT5 := Lib.hid hT5
  have hB5 : Hid (Below w.heap.size w (((w4.alloc (.cells #[.int .i64 0, .int .i64 1, .bool false, .string b1, .string b2, .int .i64 1, .int .i64 0, .bool false, .string b1, .string b2, .int .i64 2, .int .i64 1, .bool false, .string b1, .string b2] 44)).alloc (.cells #[.slice (some ⟨nb, 0, none⟩) 4 4, .slice (some ⟨w4.heap.size, 0, none⟩) 3 3, .slice none 0 0] 25)).alloc (.cells #[.slice (some ⟨nb, 0, none⟩) 4 4, .slice (some ⟨w4.heap.size, 0, none⟩) 3 3, .slice none 0 0] 25))) := ((hB4.out.alloc hB4.out.size _).alloc (by rw [hsz4]; have := hB4.out.size; omega) _).alloc (by rw [hszb]; have := hB4.out.size; omega) _
  have hlw : nb < w4.heap.size := hN4.out.lt
  clear hsz4 hszb hN4 hB4
  go_wp2_with fail
  obtain ⟨w5, hw5⟩ : ∃ x, x = (((w4.alloc (.cells #[.int .i64 0, .int .i64 1, .bool false, .string b1, .string b2, .int .i64 1, .int .i64 0, .bool false, .string b1, .string b2, .int .i64 2, .int .i64 1, .bool false, .string b1, .string b2] 44)).alloc (.cells #[.slice (some ⟨nb, 0, none⟩) 4 4, .slice (some ⟨w4.heap.size, 0, none⟩) 3 3, .slice none 0 0] 25)).alloc (.cells #[.slice (some ⟨nb, 0, none⟩) 4 4, .slice (some ⟨w4.heap.size, 0, none⟩) 3 3, .slice none 0 0] 25)) := ⟨_, rfl⟩
  rw [← hw5] at hN5 hL5 hS5 hT5 hB5 ⊢
  obtain ⟨lb, hlb⟩ : ∃ x, x = w4.heap.size := ⟨_, rfl⟩
  rw [← hlb] at hL5 hS5 hT5 hlw ⊢
  obtain ⟨s1, hs1⟩ : ∃ x, x = lb + 1 := ⟨_, rfl⟩
  rw [← hs1] at hS5 hT5 ⊢
  obtain ⟨s2, hs2⟩ : ∃ x, x = s1 + 1 := ⟨_, rfl⟩
  rw [← hs2] at hT5 ⊢
  have hd1 : lb ≠ s2 := by omega
  have hd2 : s1 ≠ s2 := by omega
  have hd3 : nb ≠ s2 := by omega
  have hd4 : w.heap.size ≤ s2 := by have := hnb.out; omega
  clear hw5 hlb hs1 hs2 hlw
  refine (kh.out _ _ _).mono ?_
  rintro e w6 ⟨rfl, hb⟩
  have hB6 := Lib.hid (hB5.out.trans (hb.mono hB5.out.size))
  have hN6 := Lib.hid (hN5.out.below hb)
  have hL6 := Lib.hid (hL5.out.below hb)
  have hS6 := Lib.hid (hS5.out.below hb)
  have hT6 := Lib.hid (hT5.out.below hb)
  clear hb hB5 hN5 hL5 hS5 hT5
  go_wp2_with fail
  refine (kh.out _ _ _).mono ?_
  rintro e w7 ⟨rfl, hb⟩
  have hB7 := Lib.hid (hB6.out.trans (hb.mono hB6.out.size))
  have hN7 := Lib.hid (hN6.out.below hb)
  have hL7 := Lib.hid (hL6.out.below hb)
  have hS7 := Lib.hid (hS6.out.below hb)
  have hT7 := Lib.hid (hT6.out.below hb)
  clear hb hB6 hN6 hL6 hS6 hT6
  go_wp2_with fail
  refine (kh.out _ _ _).mono ?_
  rintro e w8 ⟨rfl, hb⟩
  have hB8 := Lib.hid (hB7.out.trans (hb.mono hB7.out.size))
  have hN8 := Lib.hid (hN7.out.below hb)
  have hL8 := Lib.hid (hL7.out.below hb)
  have hS8 := Lib.hid (hS7.out.below hb)
  have hT8 := Lib.hid (hT7.out.below hb)
  clear hb hB7 hN7 hL7 hS7 hT7
  go_wp2_with fail
  refine (kh.out _ _ _).mono ?_
  rintro e w9 ⟨rfl, hb⟩
  have hB9 := Lib.hid (hB8.out.trans (hb.mono hB8.out.size))
  have hN9 := Lib.hid (hN8.out.below hb)
  have hL9 := Lib.hid (hL8.out.below hb)
  have hS9 := Lib.hid (hS8.out.below hb)
  have hT9 := Lib.hid (hT8.out.below hb)
  clear hb hB8 hN8 hL8 hS8 hT8
  have hNx := Lib.hid ((hN9.out.far (p := ⟨s2, 1, none⟩) hd3 (.slice (some ⟨w9.heap.size, 0, none⟩) 4 4)).alloc (.cells #[.int .i64 0, .int .i64 1, .bool false, .string b1, .string b2, .int .i64 0, .int .i64 3, .bool false, .string b1, .string b2, .int .i64 1, .int .i64 0, .bool false, .string b1, .string b2, .int .i64 2, .int .i64 1, .bool false, .string b1, .string b2] 44))
  have hLx := Lib.hid ((hL9.out.far (p := ⟨s2, 1, none⟩) hd1 (.slice (some ⟨w9.heap.size, 0, none⟩) 4 4)).alloc (.cells #[.int .i64 0, .int .i64 1, .bool false, .string b1, .string b2, .int .i64 0, .int .i64 3, .bool false, .string b1, .string b2, .int .i64 1, .int .i64 0, .bool false, .string b1, .string b2, .int .i64 2, .int .i64 1, .bool false, .string b1, .string b2] 44))
  have hSx := Lib.hid ((hS9.out.far (p := ⟨s2, 1, none⟩) hd2 (.slice (some ⟨w9.heap.size, 0, none⟩) 4 4)).alloc (.cells #[.int .i64 0, .int .i64 1, .bool false, .string b1, .string b2, .int .i64 0, .int .i64 3, .bool false, .string b1, .string b2, .int .i64 1, .int .i64 0, .bool false, .string b1, .string b2, .int .i64 2, .int .i64 1, .bool false, .string b1, .string b2] 44))
  have hTx := Lib.hid ((hT9.out.set 1 (.slice (some ⟨w9.heap.size, 0, none⟩) 4 4)).alloc (.cells #[.int .i64 0, .int .i64 1, .bool false, .string b1, .string b2, .int .i64 0, .int .i64 3, .bool false, .string b1, .string b2, .int .i64 1, .int .i64 0, .bool false, .string b1, .string b2, .int .i64 2, .int .i64 1, .bool false, .string b1, .string b2] 44))
  have hKx := Bk.new (w9.setCell ⟨s2, 1, none⟩ (.slice (some ⟨w9.heap.size, 0, none⟩) 4 4)) 44 [.int .i64 0, .int .i64 1, .bool false, .string b1, .string b2, .int .i64 0, .int .i64 3, .bool false, .string b1, .string b2, .int .i64 1, .int .i64 0, .bool false, .string b1, .string b2, .int .i64 2, .int .i64 1, .bool false, .string b1, .string b2]
  rw [World.size_setCell] at hKx
  replace hKx := Lib.hid hKx
  have hBx : Hid (Below w.heap.size w ((w9.setCell ⟨s2, 1, none⟩ (.slice (some ⟨w9.heap.size, 0, none⟩) 4 4)).alloc (.cells #[.int .i64 0, .int .i64 1, .bool false, .string b1, .string b2, .int .i64 0, .int .i64 3, .bool false, .string b1, .string b2, .int .i64 1, .int .i64 0, .bool false, .string b1, .string b2, .int .i64 2, .int .i64 1, .bool false, .string b1, .string b2] 44))) := (hB9.out.setCell (p := ⟨s2, 1, none⟩) hd4 _).alloc (by rw [World.size_setCell]; have := hB9.out.size; omega) _
  have t1 := hT9.out.cell (j := 1) rfl
  have t2 := hT9.out.frozen 1
  have t3 := hT9.out.lt
  have q0 := hS9.out.cell (j := 0) rfl
  have q1 := hS9.out.cell (j := 1) rfl
  have q2 := hS9.out.cell (j := 2) rfl
  have q3 := hS9.out.lt
  have r0 := hSx.out.cell (j := 0) rfl
  have r1 := hSx.out.cell (j := 1) rfl
  have r2 := hSx.out.cell (j := 2) rfl
  have r3 := hSx.out.lt
  clear hN9 hL9 hS9 hT9 hB9
  go_wp2_with fail
  obtain ⟨w10, hw10⟩ : ∃ x, x = ((w9.setCell ⟨s2, 1, none⟩ (.slice (some ⟨w9.heap.size, 0, none⟩) 4 4)).alloc (.cells #[.int .i64 0, .int .i64 1, .bool false, .string b1, .string b2, .int .i64 0, .int .i64 3, .bool false, .string b1, .string b2, .int .i64 1, .int .i64 0, .bool false, .string b1, .string b2, .int .i64 2, .int .i64 1, .bool false, .string b1, .string b2] 44)) := ⟨_, rfl⟩
  rw [← hw10] at hNx hLx hSx hTx hKx hBx r0 r1 r2 r3 ⊢
  obtain ⟨lb2, hlb2⟩ : ∃ x, x = w9.heap.size := ⟨_, rfl⟩
  rw [← hlb2] at hTx hKx ⊢
  clear hw10 hlb2 t1 t2 t3 q0 q1 q2 q3 r0 r1 r2 r3 hd1 hd2 hd3 hd4 kh
  have hN10 := hNx
  clear hNx
  have hL10 := hLx
  clear hLx
  have hS10 := hSx
  clear hSx
  have hT10 := hTx
  clear hTx
  have hK10 := hKx
  clear hKx
  have hB10 := hBx
  clear hBx
  refine (comp_H (hE.out.below hB10.out) hN10.out hL10.out).mono ?_
  rintro e w11 ⟨⟨A1, cA, l1, rfl, iA, bA⟩, hb⟩
  have hB11 := Lib.hid (hB10.out.trans (hb.mono hB10.out.size))
  have hN11 := Lib.hid (hN10.out.below hb)
  have hL11 := Lib.hid (hL10.out.below hb)
  have hS11 := Lib.hid (hS10.out.below hb)
  have hT11 := Lib.hid (hT10.out.below hb)
  have hK11 := Lib.hid (hK10.out.below hb)
  clear hb hB10 hN10 hL10 hS10 hT10 hK10
  have iA11 := Lib.hid iA
  clear iA
  replace bA := Lib.hid bA
  have t0 := hT11.out.cell (j := 0) rfl
  have t1 := hT11.out.cell (j := 1) rfl
  have t2 := hT11.out.cell (j := 2) rfl
  have tl := hT11.out.lt
  go_wp2_with fail
  clear t0 t1 t2 tl
  refine (comp_H2 (hE.out.below hB11.out) hN11.out hK11.out).mono ?_
  rintro e w12 ⟨⟨A2, cB, l2, rfl, iB, bB⟩, hb⟩
  have hB12 := Lib.hid (hB11.out.trans (hb.mono hB11.out.size))
  have hN12 := Lib.hid (hN11.out.below hb)
  have hL12 := Lib.hid (hL11.out.below hb)
  have hS12 := Lib.hid (hS11.out.below hb)
  have hT12 := Lib.hid (hT11.out.below hb)
  have hK12 := Lib.hid (hK11.out.below hb)
  have iA12 := Lib.hid (iA11.out.below hb)
  clear hb hB11 hN11 hL11 hS11 hT11 hK11 iA11
  have iB12 := Lib.hid iB
  clear iB
  replace bB := Lib.hid bB
  have t0 := hS12.out.cell (j := 0) rfl
  have t1 := hS12.out.cell (j := 1) rfl
  have t2 := hS12.out.cell (j := 2) rfl
  have tl := hS12.out.lt
  go_wp2_with fail
  clear t0 t1 t2 tl
  have hAA13 : Hid (Below w12.heap.size w12 (w12.alloc (.cells #[.int .i64 0] 3))) := ((Below.refl _ w12).alloc (by first | exact Nat.le_refl _ | (simp; done) | (simp; omega)) (.cells #[.int .i64 0] 3))
  have hB13 := Lib.hid (hB12.out.trans (hAA13.out.mono hB12.out.size))
  have hN13 := Lib.hid (hN12.out.below hAA13.out)
  have hL13 := Lib.hid (hL12.out.below hAA13.out)
  have hS13 := Lib.hid (hS12.out.below hAA13.out)
  have hT13 := Lib.hid (hT12.out.below hAA13.out)
  have hK13 := Lib.hid (hK12.out.below hAA13.out)
  have iA13 := Lib.hid (iA12.out.below hAA13.out)
  have iB13 := Lib.hid (iB12.out.below hAA13.out)
  have hf13 := Bk.new w12 3 [.int .i64 0]
  replace hf13 := Lib.hid hf13
  obtain ⟨w13, hw13⟩ : ∃ x, x = (w12.alloc (.cells #[.int .i64 0] 3)) := ⟨_, rfl⟩
  rw [← hw13] at hB13 hN13 hL13 hS13 hT13 hK13 iA13 iB13 hf13 ⊢
  obtain ⟨hfb, hhfb⟩ : ∃ x, x = w12.heap.size := ⟨_, rfl⟩
  try rw [← hhfb] at hf13
  rw [← hhfb]
  clear hhfb hAA13 hN12 hL12 hS12 hT12 hK12 iA12 iB12 hB12 hw13 
  refine (rank_H (hE.out.below hB13.out) hN13.out hL13.out hf13.out).mono ?_
  rintro e w14 ⟨⟨rb, rfl, iR⟩, hb⟩
  have hB14 := Lib.hid (hB13.out.trans (hb.mono hB13.out.size))
  have hN14 := Lib.hid (hN13.out.below hb)
  have hL14 := Lib.hid (hL13.out.below hb)
  have hS14 := Lib.hid (hS13.out.below hb)
  have hT14 := Lib.hid (hT13.out.below hb)
  have hK14 := Lib.hid (hK13.out.below hb)
  have iA14 := Lib.hid (iA13.out.below hb)
  have iB14 := Lib.hid (iB13.out.below hb)
  have hf14 := Lib.hid (hf13.out.below hb)
  clear hb hB13 hN13 hL13 hS13 hT13 hK13 iA13 iB13 hf13
  have iR14 := Lib.hid iR
  clear iR
  have t0 := hS14.out.cell (j := 0) rfl
  have t1 := hS14.out.cell (j := 1) rfl
  have t2 := hS14.out.cell (j := 2) rfl
  have tl := hS14.out.lt
  go_wp2_with fail
  clear t0 t1 t2 tl
  have hAA15 : Hid (Below w14.heap.size w14 (w14.alloc (.cells #[.int .i64 1, .int .i64 0] 3))) := ((Below.refl _ w14).alloc (by first | exact Nat.le_refl _ | (simp; done) | (simp; omega)) (.cells #[.int .i64 1, .int .i64 0] 3))
  have hB15 := Lib.hid (hB14.out.trans (hAA15.out.mono hB14.out.size))
  have hN15 := Lib.hid (hN14.out.below hAA15.out)
  have hL15 := Lib.hid (hL14.out.below hAA15.out)
  have hS15 := Lib.hid (hS14.out.below hAA15.out)
  have hT15 := Lib.hid (hT14.out.below hAA15.out)
  have hK15 := Lib.hid (hK14.out.below hAA15.out)
  have iA15 := Lib.hid (iA14.out.below hAA15.out)
  have iB15 := Lib.hid (iB14.out.below hAA15.out)
  have hf15 := Lib.hid (hf14.out.below hAA15.out)
  have iR15 := Lib.hid (iR14.out.below hAA15.out)
  have hg15 := Bk.new w14 3 [.int .i64 1, .int .i64 0]
  replace hg15 := Lib.hid hg15
  obtain ⟨w15, hw15⟩ : ∃ x, x = (w14.alloc (.cells #[.int .i64 1, .int .i64 0] 3)) := ⟨_, rfl⟩
  rw [← hw15] at hB15 hN15 hL15 hS15 hT15 hK15 iA15 iB15 hf15 iR15 hg15 ⊢
  obtain ⟨hgb, hhgb⟩ : ∃ x, x = w14.heap.size := ⟨_, rfl⟩
  try rw [← hhgb] at hg15
  rw [← hhgb]
  clear hhgb hAA15 hN14 hL14 hS14 hT14 hK14 iA14 iB14 hf14 iR14 hB14 hw15 
  refine (rank_H2 (hE.out.below hB15.out) hN15.out hL15.out hg15.out).mono ?_
  rintro e w16 ⟨rfl, hb⟩
  have hB16 := Lib.hid (hB15.out.trans (hb.mono hB15.out.size))
  have hN16 := Lib.hid (hN15.out.below hb)
  have hL16 := Lib.hid (hL15.out.below hb)
  have hS16 := Lib.hid (hS15.out.below hb)
  have hT16 := Lib.hid (hT15.out.below hb)
  have hK16 := Lib.hid (hK15.out.below hb)
  have iA16 := Lib.hid (iA15.out.below hb)
  have iB16 := Lib.hid (iB15.out.below hb)
  have hf16 := Lib.hid (hf15.out.below hb)
  have iR16 := Lib.hid (iR15.out.below hb)
  have hg16 := Lib.hid (hg15.out.below hb)
  clear hb hB15 hN15 hL15 hS15 hT15 hK15 iA15 iB15 hf15 iR15 hg15
  go_wp2_with fail
  have hAA17 : Hid (Below w16.heap.size w16 ((((w16.alloc (.cells #[.int .i64 0, .int .i64 1] 3)).alloc (.cells #[.int .i64 2] 3)).alloc (.cells #[.int .i64 3] 3)).alloc (.cells #[.slice (some ⟨w16.heap.size, 0, none⟩) 2 2, .slice (some ⟨w16.heap.size + 1, 0, none⟩) 1 1, .slice (some ⟨w16.heap.size + 1 + 1, 0, none⟩) 1 1] 26))) := (((((Below.refl _ w16).alloc (by first | exact Nat.le_refl _ | (simp; done) | (simp; omega)) (.cells #[.int .i64 0, .int .i64 1] 3)).alloc (by first | exact Nat.le_refl _ | (simp; done) | (simp; omega)) (.cells #[.int .i64 2] 3)).alloc (by first | exact Nat.le_refl _ | (simp; done) | (simp; omega)) (.cells #[.int .i64 3] 3)).alloc (by first | exact Nat.le_refl _ | (simp; done) | (simp; omega)) (.cells #[.slice (some ⟨w16.heap.size, 0, none⟩) 2 2, .slice (some ⟨w16.heap.size + 1, 0, none⟩) 1 1, .slice (some ⟨w16.heap.size + 1 + 1, 0, none⟩) 1 1] 26))
  have hB17 := Lib.hid (hB16.out.trans (hAA17.out.mono hB16.out.size))
  have hN17 := Lib.hid (hN16.out.below hAA17.out)
  have hL17 := Lib.hid (hL16.out.below hAA17.out)
  have hS17 := Lib.hid (hS16.out.below hAA17.out)
  have hT17 := Lib.hid (hT16.out.below hAA17.out)
  have hK17 := Lib.hid (hK16.out.below hAA17.out)
  have iA17 := Lib.hid (iA16.out.below hAA17.out)
  have iB17 := Lib.hid (iB16.out.below hAA17.out)
  have hf17 := Lib.hid (hf16.out.below hAA17.out)
  have iR17 := Lib.hid (iR16.out.below hAA17.out)
  have hg17 := Lib.hid (hg16.out.below hAA17.out)
  have hp17 := Bk.new w16 3 [.int .i64 0, .int .i64 1]
  replace hp17 := hp17.alloc (.cells #[.int .i64 2] 3)
  replace hp17 := hp17.alloc (.cells #[.int .i64 3] 3)
  replace hp17 := hp17.alloc (.cells #[.slice (some ⟨w16.heap.size, 0, none⟩) 2 2, .slice (some ⟨w16.heap.size + 1, 0, none⟩) 1 1, .slice (some ⟨w16.heap.size + 1 + 1, 0, none⟩) 1 1] 26)
  replace hp17 := Lib.hid hp17
  have hq17 := Bk.new (w16.alloc (.cells #[.int .i64 0, .int .i64 1] 3)) 3 [.int .i64 2]
  replace hq17 := hq17.alloc (.cells #[.int .i64 3] 3)
  replace hq17 := hq17.alloc (.cells #[.slice (some ⟨w16.heap.size, 0, none⟩) 2 2, .slice (some ⟨w16.heap.size + 1, 0, none⟩) 1 1, .slice (some ⟨w16.heap.size + 1 + 1, 0, none⟩) 1 1] 26)
  have hz17_1 : (w16.alloc (.cells #[.int .i64 0, .int .i64 1] 3)).heap.size = w16.heap.size + 1 := by simp
  rw [hz17_1] at hq17
  replace hq17 := Lib.hid hq17
  have hr17 := Bk.new ((w16.alloc (.cells #[.int .i64 0, .int .i64 1] 3)).alloc (.cells #[.int .i64 2] 3)) 3 [.int .i64 3]
  replace hr17 := hr17.alloc (.cells #[.slice (some ⟨w16.heap.size, 0, none⟩) 2 2, .slice (some ⟨w16.heap.size + 1, 0, none⟩) 1 1, .slice (some ⟨w16.heap.size + 1 + 1, 0, none⟩) 1 1] 26)
  have hz17_2 : ((w16.alloc (.cells #[.int .i64 0, .int .i64 1] 3)).alloc (.cells #[.int .i64 2] 3)).heap.size = w16.heap.size + 1 + 1 := by simp
  rw [hz17_2] at hr17
  replace hr17 := Lib.hid hr17
  have ho17 := Bk.new (((w16.alloc (.cells #[.int .i64 0, .int .i64 1] 3)).alloc (.cells #[.int .i64 2] 3)).alloc (.cells #[.int .i64 3] 3)) 26 [.slice (some ⟨w16.heap.size, 0, none⟩) 2 2, .slice (some ⟨w16.heap.size + 1, 0, none⟩) 1 1, .slice (some ⟨w16.heap.size + 1 + 1, 0, none⟩) 1 1]
  have hz17_3 : (((w16.alloc (.cells #[.int .i64 0, .int .i64 1] 3)).alloc (.cells #[.int .i64 2] 3)).alloc (.cells #[.int .i64 3] 3)).heap.size = w16.heap.size + 1 + 1 + 1 := by simp
  rw [hz17_3] at ho17
  replace ho17 := Lib.hid ho17
  obtain ⟨w17, hw17⟩ : ∃ x, x = ((((w16.alloc (.cells #[.int .i64 0, .int .i64 1] 3)).alloc (.cells #[.int .i64 2] 3)).alloc (.cells #[.int .i64 3] 3)).alloc (.cells #[.slice (some ⟨w16.heap.size, 0, none⟩) 2 2, .slice (some ⟨w16.heap.size + 1, 0, none⟩) 1 1, .slice (some ⟨w16.heap.size + 1 + 1, 0, none⟩) 1 1] 26)) := ⟨_, rfl⟩
  rw [← hw17] at hB17 hN17 hL17 hS17 hT17 hK17 iA17 iB17 hf17 iR17 hg17 hp17 hq17 hr17 ho17 ⊢
  obtain ⟨hpb, hhpb⟩ : ∃ x, x = w16.heap.size := ⟨_, rfl⟩
  obtain ⟨hqb, hhqb⟩ : ∃ x, x = w16.heap.size + 1 := ⟨_, rfl⟩
  obtain ⟨hrb, hhrb⟩ : ∃ x, x = w16.heap.size + 1 + 1 := ⟨_, rfl⟩
  obtain ⟨hob, hhob⟩ : ∃ x, x = w16.heap.size + 1 + 1 + 1 := ⟨_, rfl⟩
  try rw [← hhob] at ho17
  rw [← hhob]
  try rw [← hhrb] at hr17
  try rw [← hhrb] at ho17
  rw [← hhrb]
  try rw [← hhqb] at hq17
  try rw [← hhqb] at hr17
  try rw [← hhqb] at ho17
  rw [← hhqb]
  try rw [← hhpb] at hp17
  try rw [← hhpb] at hq17
  try rw [← hhpb] at hr17
  try rw [← hhpb] at ho17
  rw [← hhpb]
  clear hhpb hhqb hhrb hhob hAA17 hN16 hL16 hS16 hT16 hK16 iA16 iB16 hf16 iR16 hg16 hB16 hw17 hz17_1 hz17_2 hz17_3
  refine (lists_lit iA17.out bA.out ho17.out hp17.out hq17.out hr17.out (by decide) (by decide) (by decide)).mono ?_
  rintro e w18 ⟨rfl, hb⟩
  have hB18 := Lib.hid (hB17.out.trans (hb.mono hB17.out.size))
  have hN18 := Lib.hid (hN17.out.below hb)
  have hL18 := Lib.hid (hL17.out.below hb)
  have hS18 := Lib.hid (hS17.out.below hb)
  have hT18 := Lib.hid (hT17.out.below hb)
  have hK18 := Lib.hid (hK17.out.below hb)
  have iA18 := Lib.hid (iA17.out.below hb)
  have iB18 := Lib.hid (iB17.out.below hb)
  have hf18 := Lib.hid (hf17.out.below hb)
  have iR18 := Lib.hid (iR17.out.below hb)
  have hg18 := Lib.hid (hg17.out.below hb)
  have hp18 := Lib.hid (hp17.out.below hb)
  have hq18 := Lib.hid (hq17.out.below hb)
  have hr18 := Lib.hid (hr17.out.below hb)
  have ho18 := Lib.hid (ho17.out.below hb)
  clear hb hB17 hN17 hL17 hS17 hT17 hK17 iA17 iB17 hf17 iR17 hg17 hp17 hq17 hr17 ho17
  go_wp2_with fail
  have hAA19 : Hid (Below w18.heap.size w18 ((((w18.alloc (.cells #[.int .i64 3] 3)).alloc (.cells #[.int .i64 0, .int .i64 1] 3)).alloc (.cells #[.int .i64 2] 3)).alloc (.cells #[.slice (some ⟨w18.heap.size, 0, none⟩) 1 1, .slice (some ⟨w18.heap.size + 1, 0, none⟩) 2 2, .slice (some ⟨w18.heap.size + 1 + 1, 0, none⟩) 1 1] 26))) := (((((Below.refl _ w18).alloc (by first | exact Nat.le_refl _ | (simp; done) | (simp; omega)) (.cells #[.int .i64 3] 3)).alloc (by first | exact Nat.le_refl _ | (simp; done) | (simp; omega)) (.cells #[.int .i64 0, .int .i64 1] 3)).alloc (by first | exact Nat.le_refl _ | (simp; done) | (simp; omega)) (.cells #[.int .i64 2] 3)).alloc (by first | exact Nat.le_refl _ | (simp; done) | (simp; omega)) (.cells #[.slice (some ⟨w18.heap.size, 0, none⟩) 1 1, .slice (some ⟨w18.heap.size + 1, 0, none⟩) 2 2, .slice (some ⟨w18.heap.size + 1 + 1, 0, none⟩) 1 1] 26))
  have hB19 := Lib.hid (hB18.out.trans (hAA19.out.mono hB18.out.size))
  have hN19 := Lib.hid (hN18.out.below hAA19.out)
  have hL19 := Lib.hid (hL18.out.below hAA19.out)
  have hS19 := Lib.hid (hS18.out.below hAA19.out)
  have hT19 := Lib.hid (hT18.out.below hAA19.out)
  have hK19 := Lib.hid (hK18.out.below hAA19.out)
  have iA19 := Lib.hid (iA18.out.below hAA19.out)
  have iB19 := Lib.hid (iB18.out.below hAA19.out)
  have hf19 := Lib.hid (hf18.out.below hAA19.out)
  have iR19 := Lib.hid (iR18.out.below hAA19.out)
  have hg19 := Lib.hid (hg18.out.below hAA19.out)
  have hp19 := Lib.hid (hp18.out.below hAA19.out)
  have hq19 := Lib.hid (hq18.out.below hAA19.out)
  have hr19 := Lib.hid (hr18.out.below hAA19.out)
  have ho19 := Lib.hid (ho18.out.below hAA19.out)
  have hu19 := Bk.new w18 3 [.int .i64 3]
  replace hu19 := hu19.alloc (.cells #[.int .i64 0, .int .i64 1] 3)
  replace hu19 := hu19.alloc (.cells #[.int .i64 2] 3)
  replace hu19 := hu19.alloc (.cells #[.slice (some ⟨w18.heap.size, 0, none⟩) 1 1, .slice (some ⟨w18.heap.size + 1, 0, none⟩) 2 2, .slice (some ⟨w18.heap.size + 1 + 1, 0, none⟩) 1 1] 26)
  replace hu19 := Lib.hid hu19
  have hv19 := Bk.new (w18.alloc (.cells #[.int .i64 3] 3)) 3 [.int .i64 0, .int .i64 1]
  replace hv19 := hv19.alloc (.cells #[.int .i64 2] 3)
  replace hv19 := hv19.alloc (.cells #[.slice (some ⟨w18.heap.size, 0, none⟩) 1 1, .slice (some ⟨w18.heap.size + 1, 0, none⟩) 2 2, .slice (some ⟨w18.heap.size + 1 + 1, 0, none⟩) 1 1] 26)
  have hz19_1 : (w18.alloc (.cells #[.int .i64 3] 3)).heap.size = w18.heap.size + 1 := by simp
  rw [hz19_1] at hv19
  replace hv19 := Lib.hid hv19
  have hm19 := Bk.new ((w18.alloc (.cells #[.int .i64 3] 3)).alloc (.cells #[.int .i64 0, .int .i64 1] 3)) 3 [.int .i64 2]
  replace hm19 := hm19.alloc (.cells #[.slice (some ⟨w18.heap.size, 0, none⟩) 1 1, .slice (some ⟨w18.heap.size + 1, 0, none⟩) 2 2, .slice (some ⟨w18.heap.size + 1 + 1, 0, none⟩) 1 1] 26)
  have hz19_2 : ((w18.alloc (.cells #[.int .i64 3] 3)).alloc (.cells #[.int .i64 0, .int .i64 1] 3)).heap.size = w18.heap.size + 1 + 1 := by simp
  rw [hz19_2] at hm19
  replace hm19 := Lib.hid hm19
  have hx19 := Bk.new (((w18.alloc (.cells #[.int .i64 3] 3)).alloc (.cells #[.int .i64 0, .int .i64 1] 3)).alloc (.cells #[.int .i64 2] 3)) 26 [.slice (some ⟨w18.heap.size, 0, none⟩) 1 1, .slice (some ⟨w18.heap.size + 1, 0, none⟩) 2 2, .slice (some ⟨w18.heap.size + 1 + 1, 0, none⟩) 1 1]
  have hz19_3 : (((w18.alloc (.cells #[.int .i64 3] 3)).alloc (.cells #[.int .i64 0, .int .i64 1] 3)).alloc (.cells #[.int .i64 2] 3)).heap.size = w18.heap.size + 1 + 1 + 1 := by simp
  rw [hz19_3] at hx19
  replace hx19 := Lib.hid hx19
  obtain ⟨w19, hw19⟩ : ∃ x, x = ((((w18.alloc (.cells #[.int .i64 3] 3)).alloc (.cells #[.int .i64 0, .int .i64 1] 3)).alloc (.cells #[.int .i64 2] 3)).alloc (.cells #[.slice (some ⟨w18.heap.size, 0, none⟩) 1 1, .slice (some ⟨w18.heap.size + 1, 0, none⟩) 2 2, .slice (some ⟨w18.heap.size + 1 + 1, 0, none⟩) 1 1] 26)) := ⟨_, rfl⟩
  rw [← hw19] at hB19 hN19 hL19 hS19 hT19 hK19 iA19 iB19 hf19 iR19 hg19 hp19 hq19 hr19 ho19 hu19 hv19 hm19 hx19 ⊢
  obtain ⟨hub, hhub⟩ : ∃ x, x = w18.heap.size := ⟨_, rfl⟩
  obtain ⟨hvb, hhvb⟩ : ∃ x, x = w18.heap.size + 1 := ⟨_, rfl⟩
  obtain ⟨hmb, hhmb⟩ : ∃ x, x = w18.heap.size + 1 + 1 := ⟨_, rfl⟩
  obtain ⟨hxb, hhxb⟩ : ∃ x, x = w18.heap.size + 1 + 1 + 1 := ⟨_, rfl⟩
  try rw [← hhxb] at hx19
  rw [← hhxb]
  try rw [← hhmb] at hm19
  try rw [← hhmb] at hx19
  rw [← hhmb]
  try rw [← hhvb] at hv19
  try rw [← hhvb] at hm19
  try rw [← hhvb] at hx19
  rw [← hhvb]
  try rw [← hhub] at hu19
  try rw [← hhub] at hv19
  try rw [← hhub] at hm19
  try rw [← hhub] at hx19
  rw [← hhub]
  clear hhub hhvb hhmb hhxb hAA19 hN18 hL18 hS18 hT18 hK18 iA18 iB18 hf18 iR18 hg18 hp18 hq18 hr18 ho18 hB18 hw19 hz19_1 hz19_2 hz19_3
  refine (lists_lit iB19.out bB.out hx19.out hu19.out hv19.out hm19.out (by decide) (by decide) (by decide)).mono ?_
  rintro e w20 ⟨rfl, hb⟩
  have hB20 := Lib.hid (hB19.out.trans (hb.mono hB19.out.size))
  have hN20 := Lib.hid (hN19.out.below hb)
  have hL20 := Lib.hid (hL19.out.below hb)
  have hS20 := Lib.hid (hS19.out.below hb)
  have hT20 := Lib.hid (hT19.out.below hb)
  have hK20 := Lib.hid (hK19.out.below hb)
  have iA20 := Lib.hid (iA19.out.below hb)
  have iB20 := Lib.hid (iB19.out.below hb)
  have hf20 := Lib.hid (hf19.out.below hb)
  have iR20 := Lib.hid (iR19.out.below hb)
  have hg20 := Lib.hid (hg19.out.below hb)
  have hp20 := Lib.hid (hp19.out.below hb)
  have hq20 := Lib.hid (hq19.out.below hb)
  have hr20 := Lib.hid (hr19.out.below hb)
  have ho20 := Lib.hid (ho19.out.below hb)
  have hu20 := Lib.hid (hu19.out.below hb)
  have hv20 := Lib.hid (hv19.out.below hb)
  have hm20 := Lib.hid (hm19.out.below hb)
  have hx20 := Lib.hid (hx19.out.below hb)
  clear hb hB19 hN19 hL19 hS19 hT19 hK19 iA19 iB19 hf19 iR19 hg19 hp19 hq19 hr19 ho19 hu19 hv19 hm19 hx19
  go_wp2_with fail
  have hAA21 : Hid (Below w20.heap.size w20 (w20.alloc (.cells #[.int .i64 0, .int .i64 1, .int .i64 2, .int .i64 (-1)] 3))) := ((Below.refl _ w20).alloc (by first | exact Nat.le_refl _ | (simp; done) | (simp; omega)) (.cells #[.int .i64 0, .int .i64 1, .int .i64 2, .int .i64 (-1)] 3))
  have hB21 := Lib.hid (hB20.out.trans (hAA21.out.mono hB20.out.size))
  have hN21 := Lib.hid (hN20.out.below hAA21.out)
  have hL21 := Lib.hid (hL20.out.below hAA21.out)
  have hS21 := Lib.hid (hS20.out.below hAA21.out)
  have hT21 := Lib.hid (hT20.out.below hAA21.out)
  have hK21 := Lib.hid (hK20.out.below hAA21.out)
  have iA21 := Lib.hid (iA20.out.below hAA21.out)
  have iB21 := Lib.hid (iB20.out.below hAA21.out)
  have hf21 := Lib.hid (hf20.out.below hAA21.out)
  have iR21 := Lib.hid (iR20.out.below hAA21.out)
  have hg21 := Lib.hid (hg20.out.below hAA21.out)
  have hp21 := Lib.hid (hp20.out.below hAA21.out)
  have hq21 := Lib.hid (hq20.out.below hAA21.out)
  have hr21 := Lib.hid (hr20.out.below hAA21.out)
  have ho21 := Lib.hid (ho20.out.below hAA21.out)
  have hu21 := Lib.hid (hu20.out.below hAA21.out)
  have hv21 := Lib.hid (hv20.out.below hAA21.out)
  have hm21 := Lib.hid (hm20.out.below hAA21.out)
  have hx21 := Lib.hid (hx20.out.below hAA21.out)
  have hy21 := Bk.new w20 3 [.int .i64 0, .int .i64 1, .int .i64 2, .int .i64 (-1)]
  replace hy21 := Lib.hid hy21
  obtain ⟨w21, hw21⟩ : ∃ x, x = (w20.alloc (.cells #[.int .i64 0, .int .i64 1, .int .i64 2, .int .i64 (-1)] 3)) := ⟨_, rfl⟩
  rw [← hw21] at hB21 hN21 hL21 hS21 hT21 hK21 iA21 iB21 hf21 iR21 hg21 hp21 hq21 hr21 ho21 hu21 hv21 hm21 hx21 hy21 ⊢
  obtain ⟨hyb, hhyb⟩ : ∃ x, x = w20.heap.size := ⟨_, rfl⟩
  try rw [← hhyb] at hy21
  rw [← hhyb]
  clear hhyb hAA21 hN20 hL20 hS20 hT20 hK20 iA20 iB20 hf20 iR20 hg20 hp20 hq20 hr20 ho20 hu20 hv20 hm20 hx20 hB20 hw21 
  refine (ints_lit iR21.out hy21.out (by decide)).mono ?_
  rintro e w22 ⟨rfl, hb⟩
  have hB22 := Lib.hid (hB21.out.trans (hb.mono hB21.out.size))
  have hN22 := Lib.hid (hN21.out.below hb)
  have hL22 := Lib.hid (hL21.out.below hb)
  have hS22 := Lib.hid (hS21.out.below hb)
  have hT22 := Lib.hid (hT21.out.below hb)
  have hK22 := Lib.hid (hK21.out.below hb)
  have iA22 := Lib.hid (iA21.out.below hb)
  have iB22 := Lib.hid (iB21.out.below hb)
  have hf22 := Lib.hid (hf21.out.below hb)
  have iR22 := Lib.hid (iR21.out.below hb)
  have hg22 := Lib.hid (hg21.out.below hb)
  have hp22 := Lib.hid (hp21.out.below hb)
  have hq22 := Lib.hid (hq21.out.below hb)
  have hr22 := Lib.hid (hr21.out.below hb)
  have ho22 := Lib.hid (ho21.out.below hb)
  have hu22 := Lib.hid (hu21.out.below hb)
  have hv22 := Lib.hid (hv21.out.below hb)
  have hm22 := Lib.hid (hm21.out.below hb)
  have hx22 := Lib.hid (hx21.out.below hb)
  have hy22 := Lib.hid (hy21.out.below hb)
  clear hb hB21 hN21 hL21 hS21 hT21 hK21 iA21 iB21 hf21 iR21 hg21 hp21 hq21 hr21 ho21 hu21 hv21 hm21 hx21 hy21
  go_wp2
  go_ret
  exact ⟨rfl, hB22.out⟩
end Ci
end Go.Proofs.YthggedpgcchneaaGreatDoor

namespace Go.Proofs.YthggedpgcchneaaGreatDoor
open Go.ChangeShapes Go.WideShapes Go.ChangeAt Go.RowKit Go.Shelf Go.Joins Go.Deep
namespace Ci
open Nt

def in64 (x : Int) : Prop := -9223372036854775808 ≤ x ∧ x ≤ 9223372036854775807
def lkD {H : Type} (x : Lk) : DataW H := .agg [.lit (.int .i64 x.1), .lit (.int .i64 x.2.1), .agg [.lit (.bool x.2.2.1), .lit (.string x.2.2.2.1.data.toList), .lit (.string x.2.2.2.2.data.toList)]]
def strD {H : Type} (x : ByteArray) : DataW H := .lit (.string x.data.toList)
def intD {H : Type} (x : Int) : DataW H := .lit (.int .i64 x)
/-- A slice's datum. -/
def isSl {H α : Type} (f : α → DataW H) (l : List α) (d : DataW H) : Prop := (d = .nil ∧ l = []) ∨ ∃ rest, d = .slice (l.map f) rest
section
variable {H : Type} {enc : TypeId × Value → H} {w : World} {base : Nat} {held : Bool}
theorem cadd {b o k : Nat} : (⟨b, o, none⟩ : Addr).add k = ⟨b, o + k, none⟩ := by unfold Addr.add; split <;> simp_all
theorem i64_in {x : Int} (h : (Lit.int .i64 x).wf = true) : in64 x := by
  have := wf_inQ h
  exact this
set_option maxRecDepth 100000 in
theorem open_ints' {fuel : Nat} {cs : List Value} {x : DataW H × List MemPlace} (h : DataW.trod enc Tryz.prog w base (fun _ => true) held fuel 26 cs = some x) :
    ∃ (A : Option Addr) (cap : Nat) (l : List Int), cs = [.slice A l.length cap] ∧ isSl intD l x.1 ∧ InInt w A l ∧ ∀ y, y ∈ l → in64 y := by
  rcases open_slice1 Tryz.underlying26 (by kernel_rfl) h with ⟨h1, h2⟩ | ⟨a, len, cap, m, n, V, D, Pl, hcs, hb, hl, hm, hmm, hx, hi⟩
  · exact ⟨none, 0, [], h1, .inl ⟨by rw [h2], rfl⟩, fun h => absurd h (by simp), fun y hy => by cases hy⟩
  · simp only [if_true] at hmm
    subst hmm
    have each : ∀ i, i < m → ∃ y : Int, V i = .int .i64 y ∧ D i = intD y ∧ in64 y := by
      intro i him
      obtain ⟨y, e1, e2, e3⟩ := DataW.trod_int Tryz.underlying3 (hi i him).2
      exact ⟨y, by simpa using e1, congrArg Prod.fst e2, i64_in e3⟩
    obtain ⟨Y, hY⟩ := choose_lt each
    refine ⟨some a, m, (List.range len).map Y, by simpa using hcs, .inr ⟨_, by rw [hx, List.map_map]; simp only []; congr 1; exact List.map_congr_left fun i hi2 => (hY i (by have := List.mem_range.1 hi2; omega)).2.1⟩, fun h0 => ?_, fun y hy => ?_⟩
    · simp only [List.length_map, List.length_range] at h0
      have h00 := (hi 0 (by omega)).1
      have hsp := World.cell?_spot h00
      obtain ⟨b, o, s⟩ := a
      have hs : s = none := by simpa [Addr.add] using hsp
      subst hs
      refine ⟨b, o, rfl, ?_, fun j hj => ?_⟩
      · have := World.block_lt_of_cell? w _ h00
        simpa [cadd] using this
      · have hj' : j < len := by simpa using hj
        have hc := (hi j (by omega)).1
        rw [cadd, (hY j (by omega)).1] at hc
        simp only [List.getElem_map, List.getElem_range]
        exact hc
    · obtain ⟨i, hi2, rfl⟩ := List.mem_map.1 hy
      exact (hY i (by have := List.mem_range.1 hi2; omega)).2.2
set_option maxRecDepth 100000 in
theorem open_strs' {fuel : Nat} {cs : List Value} {x : DataW H × List MemPlace} (h : DataW.trod enc Tryz.prog w base (fun _ => true) held fuel 22 cs = some x) :
    ∃ (A : Option Addr) (cap : Nat) (l : List ByteArray), cs = [.slice A l.length cap] ∧ isSl strD l x.1 ∧ InStr w A l := by
  rcases open_slice1 Tryz.underlying22 (by kernel_rfl) h with ⟨h1, h2⟩ | ⟨a, len, cap, m, n, V, D, Pl, hcs, hb, hl, hm, hmm, hx, hi⟩
  · exact ⟨none, 0, [], h1, .inl ⟨by rw [h2], rfl⟩, fun h => absurd h (by simp)⟩
  · simp only [if_true] at hmm
    subst hmm
    have each : ∀ i, i < m → ∃ y : ByteArray, V i = .string y ∧ D i = strD y := by
      intro i him
      obtain ⟨y, e1, e2, _⟩ := DataW.trod_string Tryz.underlying9 (hi i him).2
      exact ⟨y, by simpa using e1, congrArg Prod.fst e2⟩
    obtain ⟨Y, hY⟩ := choose_lt each
    refine ⟨some a, m, (List.range len).map Y, by simpa using hcs, .inr ⟨_, by rw [hx, List.map_map]; simp only []; congr 1; exact List.map_congr_left fun i hi2 => (hY i (by have := List.mem_range.1 hi2; omega)).2⟩, fun h0 => ?_⟩
    simp only [List.length_map, List.length_range] at h0
    have h00 := (hi 0 (by omega)).1
    have hsp := World.cell?_spot h00
    obtain ⟨b, o, s⟩ := a
    have hs : s = none := by simpa [Addr.add] using hsp
    subst hs
    refine ⟨b, o, rfl, ?_, fun j hj => ?_⟩
    · have := World.block_lt_of_cell? w _ h00
      simpa [cadd] using this
    · have hj' : j < len := by simpa using hj
      have hc := (hi j (by omega)).1
      rw [cadd, (hY j (by omega)).1] at hc
      simp only [List.getElem_map, List.getElem_range]
      exact hc
set_option maxRecDepth 100000 in
theorem cells_lk : Tryz.prog.cellsOf 44 = 5 := by kernel_rfl
set_option maxRecDepth 100000 in
theorem open_lks {fuel : Nat} {cs : List Value} {x : DataW H × List MemPlace} (h : DataW.trod enc Tryz.prog w base (fun _ => true) held fuel 23 cs = some x) :
    ∃ (A : Option Addr) (cap : Nat) (l : List Lk), cs = [.slice A l.length cap] ∧ isSl lkD l x.1 ∧ InLk w A l ∧ ∀ y, y ∈ l → in64 y.1 ∧ in64 y.2.1 := by
  rcases open_slice Tryz.underlying23 h with ⟨h1, h2⟩ | ⟨a, len, cap, m, n, D, Pl, hcs, hb, hl, hm, hmm, hx, hi⟩
  · exact ⟨none, 0, [], h1, .inl ⟨by rw [h2], rfl⟩, fun h => absurd h (by simp), fun y hy => by cases hy⟩
  · simp only [if_true] at hmm
    subst hmm
    have each : ∀ i, i < m → ∃ y : Lk, D i = lkD y ∧ (w.cell? (a.add (i * 5)) = some (.int .i64 y.1) ∧ w.cell? (a.add (i * 5 + 1)) = some (.int .i64 y.2.1) ∧ w.cell? (a.add (i * 5 + 2)) = some (.bool y.2.2.1) ∧ w.cell? (a.add (i * 5 + 3)) = some (.string y.2.2.2.1) ∧ w.cell? (a.add (i * 5 + 4)) = some (.string y.2.2.2.2)) ∧ in64 y.1 ∧ in64 y.2.1 := by
      intro i him
      obtain ⟨cs', hc, ht'⟩ := hi i him
      rw [cells_lk] at hc
      obtain ⟨y0, y1, y2, n', hy, _, t0, t1, t2⟩ := trod_struct3 Tryz.underlying44 ht'
      obtain ⟨z0, z1, z2, n'', hz, _, u0, u1, u2⟩ := trod_struct3 Tryz.underlying42 t2
      obtain ⟨_, hcl, hat⟩ := World.cells?_some hc
      match cs', hcl with
      | [c0, c1, c2, c3, c4], _ =>
        have g0 := hat 0 (by omega)
        have g1 := hat 1 (by omega)
        have g2 := hat 2 (by omega)
        have g3 := hat 3 (by omega)
        have g4 := hat 4 (by omega)
        rw [Go.Deep.add_add] at g0 g1 g2 g3 g4
        obtain ⟨a0, e0, k0, f0⟩ := DataW.trod_int Tryz.underlying3 t0
        obtain ⟨a1, e1, k1, f1⟩ := DataW.trod_int Tryz.underlying3 t1
        obtain ⟨a2, e2, k2⟩ := DataW.trod_bool Tryz.underlying4 u0
        obtain ⟨a3, e3, k3, _⟩ := DataW.trod_string Tryz.underlying9 u1
        obtain ⟨a4, e4, k4, _⟩ := DataW.trod_string Tryz.underlying9 u2
        simp only [Prod.mk.injEq] at hy hz
        have s1 : Tryz.prog.cellsOf 3 = 1 := by kernel_rfl
        have s2 : Tryz.prog.cellsOf 4 = 1 := by kernel_rfl
        have s3 : Tryz.prog.cellsOf 9 = 1 := by kernel_rfl
        have s4 : Tryz.prog.cellsOf 42 = 3 := by kernel_rfl
        have b0 : c0 = .int .i64 a0 := by simpa [s1, s2, s3, s4] using e0
        have b1 : c1 = .int .i64 a1 := by simpa [s1, s2, s3, s4] using e1
        have b2 : c2 = .bool a2 := by simpa [s1, s2, s3, s4] using e2
        have b3 : c3 = .string a3 := by simpa [s1, s2, s3, s4] using e3
        have b4 : c4 = .string a4 := by simpa [s1, s2, s3, s4] using e4
        subst b0 b1 b2 b3 b4
        refine ⟨(a0, a1, a2, a3, a4), ?_, ⟨by simpa using g0, by simpa using g1, by simpa using g2, by simpa using g3, by simpa using g4⟩, i64_in f0, i64_in f1⟩
        rw [hy.1, k0, k1, hz, k2, k3, k4]
        rfl
    obtain ⟨Y, hY⟩ := choose_lt each
    refine ⟨some a, m, (List.range len).map Y, by simpa using hcs, .inr ⟨_, by rw [hx, List.map_map]; simp only []; congr 1; exact List.map_congr_left fun i hi2 => (hY i (by have := List.mem_range.1 hi2; omega)).1⟩, fun h0 => ?_, fun y hy => ?_⟩
    · simp only [List.length_map, List.length_range] at h0
      have h00 := (hY 0 (by omega)).2.1.1
      have hsp := World.cell?_spot h00
      obtain ⟨b, o, s⟩ := a
      have hs : s = none := by simpa [Addr.add] using hsp
      subst hs
      refine ⟨b, o, rfl, ?_, fun j hj => ?_⟩
      · have := World.block_lt_of_cell? w _ h00
        simpa [cadd] using this
      · have hj' : j < len := by simpa using hj
        have hc := (hY j (by omega)).2.1
        simp only [cadd] at hc
        simp only [List.getElem_map, List.getElem_range]
        exact hc
    · obtain ⟨i, hi2, rfl⟩ := List.mem_map.1 hy
      exact (hY i (by have := List.mem_range.1 hi2; omega)).2.2
end
end Ci
end Go.Proofs.YthggedpgcchneaaGreatDoor

namespace Go.Proofs.YthggedpgcchneaaGreatDoor
open Go.ChangeShapes Go.WideShapes Go.ChangeAt Go.RowKit Go.Shelf Go.Joins Go.Deep
namespace Ci
open Nt
section
variable {H : Type}
theorem weightsAll_mem {P : Program} {e : TypeId} {d : DataW H} : ∀ {l : List (DataW H)}, d ∈ l → ∀ m ∈ d.weights P e, m ∈ DataW.weightsAll P e l := by
  intro l
  induction l with
  | nil => intro h; cases h
  | cons a l ih =>
    intro h m hm
    rw [DataW.weightsAll, List.mem_append]
    rcases List.mem_cons.1 h with rfl | h
    · exact .inl hm
    · exact .inr (ih h m hm)
theorem trodAll_stays {enc : TypeId × Value → H} {P : Program} {W W' : World} {base : Nat} {sp' : Nat → Bool} (hl : laidOutB P = true) : ∀ {ts : List TypeId} {vs : List Value} {ds : List (DataW H)} {ps : List MemPlace},
    (∀ t ∈ ts, P.readableRec t = true ∧ t < P.types.size) → DataW.TrodAll enc P W base (fun _ => true) true ts vs ds ps → (∀ p ∈ ps, W.sameAt W' p) → (∀ p ∈ ps, sp' p.block = true) → DataW.TrodAll enc P W' base sp' true ts vs ds ps
  | [], [], [], _, _, h, _, _ => h
  | _ :: _, _ :: _, _ :: _, _, hT, ⟨p, q, h1, h2, e⟩, hs, hb =>
    ⟨p, q, WideElems.Trod_stays hl (hT _ (List.mem_cons.2 (.inl rfl))).1 (hT _ (List.mem_cons.2 (.inl rfl))).2 h1 (fun x hx => hs x (by rw [e]; exact List.mem_append_left _ hx)) (fun x hx => hb x (by rw [e]; exact List.mem_append_left _ hx)),
      trodAll_stays hl (fun t ht => hT t (List.mem_cons.2 (.inr ht))) h2 (fun x hx => hs x (by rw [e]; exact List.mem_append_right _ hx)) (fun x hx => hb x (by rw [e]; exact List.mem_append_right _ hx)), e⟩
theorem sizes_at {ts : List TypeId} {ds : List (DataW H)} {j : Nat} {t : TypeId} {d : DataW H} (hsz : (DataW.weightsEach Tryz.prog ts ds).all (· ≤ reachBytes) = true) (ht : ts[j]? = some t) (hd : ds[j]? = some d) : ∀ m ∈ d.weights Tryz.prog t, m ≤ 140737488351232 := fun m hm =>
  of_decide_eq_true (List.all_eq_true.1 hsz _ (DataW.weights_mem_each (P := Tryz.prog) ht hd m hm))
theorem size_sl {α : Type} {f : α → DataW H} {l : List α} {d : DataW H} {t e : TypeId} (ht : Tryz.prog.underlying t = some (.slice e)) (hb : 0 < Tryz.prog.bytesOf e) (h : isSl f l d) (hw : ∀ m ∈ d.weights Tryz.prog t, m ≤ 140737488351232) :
    l.length ≤ 140737488355328 ∧ ∀ x ∈ l, ∀ m ∈ (f x).weights Tryz.prog e, m ≤ 140737488351232 := by
  rcases h with ⟨_, rfl⟩ | ⟨rest, rfl⟩
  · exact ⟨by simp, fun x h => absurd h (by simp)⟩
  · have e1 : (DataW.slice (l.map f) rest).weights Tryz.prog t = ((l.map f).length + rest.length) * Tryz.prog.bytesOf e :: (DataW.weightsAll Tryz.prog e (l.map f) ++ DataW.weightsAll Tryz.prog e rest) := by
      simp [DataW.weights, ht]
    rw [e1] at hw
    have h1 := hw _ (List.mem_cons_self ..)
    rw [List.length_map] at h1
    refine ⟨?_, fun x hx m hm => hw _ (List.mem_cons_of_mem _ (List.mem_append_left _ (weightsAll_mem (List.mem_map_of_mem (f := f) hx) m hm)))⟩
    have h2 : l.length ≤ (l.length + rest.length) * Tryz.prog.bytesOf e := Nat.le_trans (Nat.le_add_right _ _) (Nat.le_mul_of_pos_right _ hb)
    omega
theorem size_str {x : ByteArray} (h : ∀ m ∈ (strD (H := H) x).weights Tryz.prog 9, m ≤ 140737488351232) : x.size ≤ 140737488355328 := by
  have h1 := h x.data.toList.length (by simp [strD, DataW.weights])
  have z1 : x.size = x.data.toList.length := Lib.size_eq _
  omega
theorem size_lk {x : Lk} (h : ∀ m ∈ (lkD (H := H) x).weights Tryz.prog 44, m ≤ 140737488351232) : x.2.2.2.1.size ≤ 140737488355328 ∧ x.2.2.2.2.size ≤ 140737488355328 := by
  have h1 := h x.2.2.2.1.data.toList.length (by simp [lkD, DataW.weights, DataW.weightsEach, Tryz.underlying44, Tryz.underlying42])
  have h2 := h x.2.2.2.2.data.toList.length (by simp [lkD, DataW.weights, DataW.weightsEach, Tryz.underlying44, Tryz.underlying42])
  have z1 : x.2.2.2.1.size = x.2.2.2.1.data.toList.length := Lib.size_eq _
  have z2 : x.2.2.2.2.size = x.2.2.2.2.data.toList.length := Lib.size_eq _
  omega
end
section
variable {H : Type} {enc : TypeId × Value → H} {w : World} {base : Nat} {held : Bool}
/-- A structure's datum. -/
def isSt (s : SR) (d : DataW H) : Prop := ∃ dp dc dv, d = .agg [dp, dc, dv] ∧ isSl strD s.ps dp ∧ isSl lkD s.cap dc ∧ isSl lkD s.vot dv
theorem cells_st : Tryz.prog.cellsOf 25 = 3 := by kernel_rfl
set_option maxRecDepth 100000 in
theorem open_st {r : Go.Reach} {b0 : Nat} {v : Value} {d : DataW H} {p : List MemPlace} (hv : Value.okWide Tryz.prog w r b0 25 v) (h : DataW.Trod enc Tryz.prog w base (fun _ => true) held 25 v d p) :
    ∃ (Ap Ac Av : Option Addr) (cp cc cv : Nat) (s : SR), v = .agg #[.slice Ap s.ps.length cp, .slice Ac s.cap.length cc, .slice Av s.vot.length cv] ∧ isSt s d ∧ InStr w Ap s.ps ∧ InLk w Ac s.cap ∧ InLk w Av s.vot ∧ (∀ y, y ∈ s.cap → in64 y.1 ∧ in64 y.2.1) ∧ ∀ y, y ∈ s.vot → in64 y.1 ∧ in64 y.2.1 := by
  obtain ⟨c0, c1, c2, y0, y1, y2, m, rfl, rfl, _, hy0, hy1, hy2⟩ := open_agg3 Tryz.underlying25 (by kernel_rfl) cells_st hv h
  obtain ⟨Ap, cp, ps, e0, i0, m0⟩ := open_strs' hy0
  obtain ⟨Ac, cc, cap, e1, i1, m1, z1⟩ := open_lks hy1
  obtain ⟨Av, cv, vot, e2, i2, m2, z2⟩ := open_lks hy2
  simp only [List.cons.injEq, and_true] at e0 e1 e2
  subst e0 e1 e2
  exact ⟨Ap, Ac, Av, cp, cc, cv, ⟨ps, cap, vot⟩, rfl, ⟨_, _, _, rfl, i0, i1, i2⟩, m0, m1, m2, z1, z2⟩
set_option maxRecDepth 100000 in
theorem stIn_of {s : SR} {d : DataW H} {Ap Ac Av : Option Addr} (h : isSt s d) (hw : ∀ m ∈ d.weights Tryz.prog 25, m ≤ 140737488351232) (m0 : InStr w Ap s.ps) (m1 : InLk w Ac s.cap) (m2 : InLk w Av s.vot)
    (z1 : ∀ y, y ∈ s.cap → in64 y.1 ∧ in64 y.2.1) (z2 : ∀ y, y ∈ s.vot → in64 y.1 ∧ in64 y.2.1) : StIn w s Ap Ac Av := by
  obtain ⟨dp, dc, dv, rfl, i0, i1, i2⟩ := h
  have e : (DataW.agg [dp, dc, dv]).weights Tryz.prog 25 = dp.weights Tryz.prog 22 ++ (dc.weights Tryz.prog 23 ++ dv.weights Tryz.prog 23) := by
    simp [DataW.weights, DataW.weightsEach, Tryz.underlying25]
  rw [e] at hw
  obtain ⟨a1, a2⟩ := size_sl Tryz.underlying22 (Nat.lt_of_lt_of_eq (by decide : 0 < 16) (by kernel_rfl)) i0 fun m hm => hw m (List.mem_append_left _ hm)
  obtain ⟨b1, b2⟩ := size_sl Tryz.underlying23 (Nat.lt_of_lt_of_eq (by decide : 0 < 56) (by kernel_rfl)) i1 fun m hm => hw m (List.mem_append_right _ (List.mem_append_left _ hm))
  obtain ⟨c1, c2⟩ := size_sl Tryz.underlying23 (Nat.lt_of_lt_of_eq (by decide : 0 < 56) (by kernel_rfl)) i2 fun m hm => hw m (List.mem_append_right _ (List.mem_append_right _ hm))
  exact ⟨m0, m1, m2, a1, b1, c1, fun x hx => size_str (a2 x hx), fun x hx => size_lk (b2 x hx), fun x hx => size_lk (c2 x hx), z1, z2⟩
set_option maxRecDepth 100000 in
theorem open_intsV {r : Go.Reach} {b0 : Nat} {v : Value} {d : DataW H} {p : List MemPlace} (hv : Value.okWide Tryz.prog w r b0 26 v) (h : DataW.Trod enc Tryz.prog w base (fun _ => true) held 26 v d p) :
    ∃ (A : Option Addr) (cap : Nat) (l : List Int), v = .slice A l.length cap ∧ isSl intD l d ∧ InInt w A l ∧ ∀ y, y ∈ l → in64 y := by
  obtain ⟨a, len, c, rfl⟩ := okWide_slice Tryz.underlying26 hv
  obtain ⟨n, hn⟩ := h
  obtain ⟨A, cap, l, e, h1, h2, h3⟩ := open_ints' hn
  refine ⟨A, cap, l, ?_, h1, h2, h3⟩
  simpa [Value.cells] using e
end
end Ci
end Go.Proofs.YthggedpgcchneaaGreatDoor

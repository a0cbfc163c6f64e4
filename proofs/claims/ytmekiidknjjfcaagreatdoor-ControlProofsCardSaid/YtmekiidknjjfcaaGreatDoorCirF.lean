/- The head of the laws; structures as parameters. -/
import Derived.Test.YtmekiidknjjfcaaGreatDoorCirC
import Derived.Test.YtmekiidknjjfcaaGreatDoorCirD
import Derived.Test.YtmekiidknjjfcaaGreatDoorCirB
import Derived.Test.YtmekiidknjjfcaaGreatDoorRatWrap
import Derived.WideKeyArgs
import Derived.Deep.Slices
import Derived.Deep.Strs
import Derived.Test.YtmekiidknjjfcaaGreatDoorNatWrap
import Derived.Lib.SmallJoins
namespace Go.Proofs.YtmekiidknjjfcaaGreatDoor
open Go.RowKit Go.Shelf
namespace Ci
open Nt

def b1 : ByteArray := ⟨#[49]⟩
def b2 : ByteArray := ⟨#[50]⟩
/-- few: a small structure, and a list of at most 70 numbers. -/
def few18 (s : SR) (F : List Int) : Bool := fewS s && decide (F.length ≤ 70)
end Ci
end Go.Proofs.YtmekiidknjjfcaaGreatDoor

namespace Go.Proofs.YtmekiidknjjfcaaGreatDoor
open Go.RowKit Go.Shelf
namespace Ci
open Nt

def nmA : ByteArray := ⟨#[97]⟩
def nmB : ByteArray := ⟨#[98]⟩
def nmC : ByteArray := ⟨#[99]⟩
def nmD : ByteArray := ⟨#[100]⟩
def lkH (h c : Int) : Lk := (c, h, false, b1, b2)
def sH : SR := ⟨[nmA, nmB, nmC, nmD], [lkH 1 0, lkH 0 1, lkH 1 2], []⟩
def sH2 : SR := ⟨[nmA, nmB, nmC, nmD], [lkH 1 0, lkH 3 0, lkH 0 1, lkH 1 2], []⟩
theorem units_half : unitsN (false, b1, b2) = 3000 := by kernel_rfl
theorem sound_H : soundB sH = true := by kernel_rfl
theorem sound_H2 : soundB sH2 = true := by kernel_rfl
theorem edges_H : edges sH = [(1, 0), (0, 1), (1, 2)] := by kernel_rfl
theorem edges_H2 : edges sH2 = [(1, 0), (3, 0), (0, 1), (1, 2)] := by kernel_rfl
def fH (x : Nat) : Nat := if x = 1 then 0 else x
def gH (x : Nat) : Nat := if x ≤ 1 then 0 else x
def gH2 (x : Nat) : Nat := if x = 3 then 0 else if x ≤ 1 then 1 else 2
theorem mut_01 {E : List (Nat × Nat)} (h1 : (1, 0) ∈ E) (h2 : (0, 1) ∈ E) : ∀ x, x < 4 → Mut E x (fH x) := fun x _ => by
  unfold fH
  by_cases e : x = 1
  · rw [if_pos e, e]; exact ⟨.one h1, .one h2⟩
  · rw [if_neg e]; exact .refl x
theorem fst_H : ∀ x, x < 4 → fst (edges sH) x = fH x := fun x hx => by
  have hE : InN 4 (edges sH) := edges_in sound_H
  rw [edges_H] at hE ⊢
  refine fst_of (g := gH) hE (mut_01 (by decide) (by decide)) (by decide) ?_ hx
  intro a ha b hb
  have : ∀ a, a < 4 → ∀ b, b < 4 → gH a = gH b → fH a ≤ b := by decide
  exact this a ha b hb
theorem fst_H2 : ∀ x, x < 4 → fst (edges sH2) x = fH x := fun x hx => by
  have hE : InN 4 (edges sH2) := edges_in sound_H2
  rw [edges_H2] at hE ⊢
  refine fst_of (g := gH2) hE (mut_01 (by decide) (by decide)) (by decide) ?_ hx
  intro a ha b hb
  have : ∀ a, a < 4 → ∀ b, b < 4 → gH2 a = gH2 b → fH a ≤ b := by decide
  exact this a ha b hb
theorem compsI_H : compsI sH = [[0, 1], [2], [3]] := by
  unfold compsI
  rw [show sH.ps.length = 4 from rfl, comps_of (f := fH) (show InN 4 (edges sH) from edges_in sound_H) fst_H, edges_H]
  decide
theorem compsI_H2 : compsI sH2 = [[3], [0, 1], [2]] := by
  unfold compsI
  rw [show sH2.ps.length = 4 from rfl, comps_of (f := fH) (show InN 4 (edges sH2) from edges_in sound_H2) fst_H2, edges_H2]
  decide
def oH (x : Nat) : Int := if x = 3 then -1 else x
theorem rk_H : (List.range 4).map (rk (edges sH) (toN [0])) = [0, 1, 2, -1] := by
  have hE : InN 4 (edges sH) := edges_in sound_H
  have h : ∀ x, x < 4 → rk (edges sH) (toN [0]) x = oH x := fun x hx => by
    rw [edges_H] at hE ⊢
    refine rk_of_local (n := 4) (fun f hf => ?_) hE (by decide) ?_ hx
    · have : f = 0 := by simpa [toN] using hf
      subst this
      decide
    · have : ∀ x, x < 4 → oH x = -1 ∨ (oH x = 0 ∧ x ∈ toN [0]) ∨ ∃ e, e ∈ [(1, 0), (0, 1), (1, 2)] ∧ e.2 = x ∧ 0 ≤ oH e.1 ∧ oH x = oH e.1 + 1 := by decide
      exact this
  rw [show [0, 1, 2, -1] = (List.range 4).map oH by decide]
  exact List.map_congr_left fun x hx => h x (List.mem_range.1 hx)
theorem list_0 : listB 4 [0] = true := by decide
theorem list_10 : listB 4 [1, 0] = false := by decide
end Ci
end Go.Proofs.YtmekiidknjjfcaaGreatDoor

namespace Go.Proofs.YtmekiidknjjfcaaGreatDoor
open Go.RowKit Go.Shelf
namespace Ci
open Nt

theorem inStr_bk {W : World} {b : Nat} {l : List ByteArray} (h : Bk W b 9 (l.map .string)) : InStr W (some ⟨b, 0, none⟩) l := fun _ => ⟨b, 0, rfl, h.lt, fun j hj => by
  rw [Nat.zero_add]
  exact h.cell (by simp [hj])⟩
theorem inInt_bk {W : World} {b : Nat} {l : List Int} (h : Bk W b 3 (l.map (.int .i64))) : InInt W (some ⟨b, 0, none⟩) l := fun _ => ⟨b, 0, rfl, h.lt, fun j hj => by
  rw [Nat.zero_add]
  exact h.cell (by simp [hj])⟩
theorem stIn_H {W : World} {nb lb : Nat} (h1 : Bk W nb 9 (sH.ps.map .string)) (h2 : Bk W lb 51 [.int .i64 0, .int .i64 1, .bool false, .string b1, .string b2, .int .i64 1, .int .i64 0, .bool false, .string b1, .string b2, .int .i64 2, .int .i64 1, .bool false, .string b1, .string b2]) : StIn W sH (some ⟨nb, 0, none⟩) (some ⟨lb, 0, none⟩) none := by
  refine ⟨inStr_bk h1, fun _ => ⟨lb, 0, rfl, h2.lt, fun j hj => ?_⟩, fun h => absurd h (by decide), by decide, by decide, by decide, by decide, by decide, by decide, by decide, by decide⟩
  match j, hj with
  | 0, _ => exact ⟨h2.cell (j := 0) rfl, h2.cell (j := 1) rfl, h2.cell (j := 2) rfl, h2.cell (j := 3) rfl, h2.cell (j := 4) rfl⟩
  | 1, _ => exact ⟨h2.cell (j := 5) rfl, h2.cell (j := 6) rfl, h2.cell (j := 7) rfl, h2.cell (j := 8) rfl, h2.cell (j := 9) rfl⟩
  | 2, _ => exact ⟨h2.cell (j := 10) rfl, h2.cell (j := 11) rfl, h2.cell (j := 12) rfl, h2.cell (j := 13) rfl, h2.cell (j := 14) rfl⟩
  | j + 3, hj => exact absurd hj (by simp [sH])
theorem stIn_H2 {W : World} {nb lb : Nat} (h1 : Bk W nb 9 (sH.ps.map .string)) (h2 : Bk W lb 51 [.int .i64 0, .int .i64 1, .bool false, .string b1, .string b2, .int .i64 0, .int .i64 3, .bool false, .string b1, .string b2, .int .i64 1, .int .i64 0, .bool false, .string b1, .string b2, .int .i64 2, .int .i64 1, .bool false, .string b1, .string b2]) : StIn W sH2 (some ⟨nb, 0, none⟩) (some ⟨lb, 0, none⟩) none := by
  refine ⟨inStr_bk h1, fun _ => ⟨lb, 0, rfl, h2.lt, fun j hj => ?_⟩, fun h => absurd h (by decide), by decide, by decide, by decide, by decide, by decide, by decide, by decide, by decide⟩
  match j, hj with
  | 0, _ => exact ⟨h2.cell (j := 0) rfl, h2.cell (j := 1) rfl, h2.cell (j := 2) rfl, h2.cell (j := 3) rfl, h2.cell (j := 4) rfl⟩
  | 1, _ => exact ⟨h2.cell (j := 5) rfl, h2.cell (j := 6) rfl, h2.cell (j := 7) rfl, h2.cell (j := 8) rfl, h2.cell (j := 9) rfl⟩
  | 2, _ => exact ⟨h2.cell (j := 10) rfl, h2.cell (j := 11) rfl, h2.cell (j := 12) rfl, h2.cell (j := 13) rfl, h2.cell (j := 14) rfl⟩
  | 3, _ => exact ⟨h2.cell (j := 15) rfl, h2.cell (j := 16) rfl, h2.cell (j := 17) rfl, h2.cell (j := 18) rfl, h2.cell (j := 19) rfl⟩
  | j + 4, hj => exact absurd hj (by simp [sH2])
theorem rank_H {W : World} {nb lb fb : Nat} (hE : Env W) (h1 : Bk W nb 9 (sH.ps.map .string)) (h2 : Bk W lb 51 [.int .i64 0, .int .i64 1, .bool false, .string b1, .string b2, .int .i64 1, .int .i64 0, .bool false, .string b1, .string b2, .int .i64 2, .int .i64 1, .bool false, .string b1, .string b2]) (h3 : Bk W fb 3 [.int .i64 0]) :
    Calls Tryz.prog 35 #[.agg #[.slice (some ⟨nb, 0, none⟩) 4 4, .slice (some ⟨lb, 0, none⟩) 3 3, .slice none 0 0], .slice (some ⟨fb, 0, none⟩) 1 1] W fun e w' => (∃ b, e = .returned (.tuple #[.slice (some ⟨b, 0, none⟩) 4 4, .int .i64 0]) ∧ InInt w' (some ⟨b, 0, none⟩) [0, 1, 2, -1]) ∧ Below W.heap.size W w' :=
  (Ranks_any sH _ _ none (some ⟨fb, 0, none⟩) 4 3 0 1 [0] W hE (stIn_H h1 h2) (by decide) (inInt_bk h3) (by decide)).mono fun e w' h => by
    obtain ⟨h4, h5⟩ := h
    rw [if_pos ⟨sound_H, list_0⟩] at h4
    obtain ⟨b, e1, _, e2⟩ := h4
    refine ⟨⟨b, e1, ?_⟩, h5⟩
    rw [← rk_H]
    exact e2.inInt
theorem rank_H2 {W : World} {nb lb fb : Nat} (hE : Env W) (h1 : Bk W nb 9 (sH.ps.map .string)) (h2 : Bk W lb 51 [.int .i64 0, .int .i64 1, .bool false, .string b1, .string b2, .int .i64 1, .int .i64 0, .bool false, .string b1, .string b2, .int .i64 2, .int .i64 1, .bool false, .string b1, .string b2]) (h3 : Bk W fb 3 [.int .i64 1, .int .i64 0]) :
    Calls Tryz.prog 35 #[.agg #[.slice (some ⟨nb, 0, none⟩) 4 4, .slice (some ⟨lb, 0, none⟩) 3 3, .slice none 0 0], .slice (some ⟨fb, 0, none⟩) 2 2] W fun e w' => e = .returned (.tuple #[.slice none 0 0, .int .i64 1]) ∧ Below W.heap.size W w' :=
  (Ranks_any sH _ _ none (some ⟨fb, 0, none⟩) 4 3 0 2 [1, 0] W hE (stIn_H h1 h2) (by decide) (inInt_bk h3) (by decide)).mono fun e w' h => by
    obtain ⟨h4, h5⟩ := h
    rw [if_neg (fun h => by have h6 : listB 4 [1, 0] = true := h.2; rw [list_10] at h6; cases h6)] at h4
    exact ⟨h4, h5⟩
theorem inLs_lit {W : World} {g a b c : Nat} {x y z : List Int} (h0 : Bk W g 26 [.slice (some ⟨a, 0, none⟩) x.length x.length, .slice (some ⟨b, 0, none⟩) y.length y.length, .slice (some ⟨c, 0, none⟩) z.length z.length]) (h1 : InInt W (some ⟨a, 0, none⟩) x) (h2 : InInt W (some ⟨b, 0, none⟩) y) (h3 : InInt W (some ⟨c, 0, none⟩) z)
    (l1 : x.length ≤ 10) (l2 : y.length ≤ 10) (l3 : z.length ≤ 10) :
    InLs W (some ⟨g, 0, none⟩) [(some ⟨a, 0, none⟩, x.length, x), (some ⟨b, 0, none⟩, y.length, y), (some ⟨c, 0, none⟩, z.length, z)] := fun _ => ⟨g, 0, rfl, h0.lt, fun j hj => by
  match j, hj with
  | 0, _ => exact ⟨h0.cell (j := 0) rfl, h1, Nat.le_trans l1 (by decide)⟩
  | 1, _ => exact ⟨h0.cell (j := 1) rfl, h2, Nat.le_trans l2 (by decide)⟩
  | 2, _ => exact ⟨h0.cell (j := 2) rfl, h3, Nat.le_trans l3 (by decide)⟩
  | j + 3, hj => exact absurd hj (by simp)⟩
theorem InLs.below {W W' : World} {A : Option Addr} {l : List (Option Addr × Nat × List Int)} (h : InLs W A l) (hb : Below W.heap.size W W') : InLs W' A l := fun h0 => by
  obtain ⟨b, off, e, hl, hc⟩ := h h0
  exact ⟨b, off, e, Nat.lt_of_lt_of_le hl hb.size, fun j hj => ⟨(hb.cell (p := ⟨b, _, none⟩) hl).trans (hc j hj).1, (hc j hj).2.1.below hb, (hc j hj).2.2⟩⟩

theorem bl_drewN {B : Nat} {a w : World} (h : Below B a w) (n : Nat) : Below B a (w.drewN n) := ⟨h.os, h.tape, h.output, h.size, h.block⟩
theorem ints_lit {W : World} {b c : Nat} {x : List Int} (h1 : InInt W (some ⟨b, 0, none⟩) x) (h2 : Bk W c 3 (x.map (.int .i64))) (l1 : x.length ≤ 10) :
    Calls Tryz.prog 18 #[.slice (some ⟨b, 0, none⟩) x.length x.length, .slice (some ⟨c, 0, none⟩) x.length x.length] W fun e w' => e = .returned (.bool true) ∧ Below W.heap.size W w' := by
  refine (Ints_any (some ⟨b, 0, none⟩) (some ⟨c, 0, none⟩) x.length x.length x x W h1 (inInt_bk h2) (Nat.le_trans l1 (by decide))).mono ?_
  rintro e w' ⟨rfl, q, rfl⟩
  refine ⟨?_, bl_drewN (Below.refl _ W) q⟩
  rw [decide_eq_true rfl]

end Ci
end Go.Proofs.YtmekiidknjjfcaaGreatDoor

namespace Go.Proofs.YtmekiidknjjfcaaGreatDoor
open Go.ChangeShapes Go.WideShapes Go.ChangeAt Go.RowKit Go.Shelf Go.Joins Go.Deep
namespace Ci
open Nt

def in64 (x : Int) : Prop := -9223372036854775808 ≤ x ∧ x ≤ 9223372036854775807
def lkD {H : Type} (x : Lk) : DataW H := .agg [.lit (.int .i64 x.1), .lit (.int .i64 x.2.1), .agg [.lit (.bool x.2.2.1), .lit (.string x.2.2.2.1.data.toList), .lit (.string x.2.2.2.2.data.toList)]]
def strD {H : Type} (x : ByteArray) : DataW H := .lit (.string x.data.toList)
def intD {H : Type} (x : Int) : DataW H := .lit (.int .i64 x)
/-- A slice's datum. -/
def isSl {H α : Type} (f : α → DataW H) (l : List α) (d : DataW H) : Prop := (d = .nil ∧ l = []) ∨ ∃ rest, d = .slice (l.map f) rest
section
variable {H : Type} {enc : TypeId × Value → H} {w : World} {base : Nat} {held : Bool}
theorem cadd {b o k : Nat} : (⟨b, o, none⟩ : Addr).add k = ⟨b, o + k, none⟩ := by unfold Addr.add; split <;> simp_all
theorem i64_in {x : Int} (h : (Lit.int .i64 x).wf = true) : in64 x := by
  have := wf_inQ h
  exact this
set_option maxRecDepth 100000 in
theorem open_ints' {fuel : Nat} {cs : List Value} {x : DataW H × List MemPlace} (h : DataW.trod enc Tryz.prog w base (fun _ => true) held fuel 26 cs = some x) :
    ∃ (A : Option Addr) (cap : Nat) (l : List Int), cs = [.slice A l.length cap] ∧ isSl intD l x.1 ∧ InInt w A l ∧ ∀ y, y ∈ l → in64 y := by
  rcases open_slice1 Tryz.underlying26 (by kernel_rfl) h with ⟨h1, h2⟩ | ⟨a, len, cap, m, n, V, D, Pl, hcs, hb, hl, hm, hmm, hx, hi⟩
  · exact ⟨none, 0, [], h1, .inl ⟨by rw [h2], rfl⟩, fun h => absurd h (by simp), fun y hy => by cases hy⟩
  · simp only [if_true] at hmm
    subst hmm
    have each : ∀ i, i < m → ∃ y : Int, V i = .int .i64 y ∧ D i = intD y ∧ in64 y := by
      intro i him
      obtain ⟨y, e1, e2, e3⟩ := DataW.trod_int Tryz.underlying3 (hi i him).2
      exact ⟨y, by simpa using e1, congrArg Prod.fst e2, i64_in e3⟩
    obtain ⟨Y, hY⟩ := choose_lt each
    refine ⟨some a, m, (List.range len).map Y, by simpa using hcs, .inr ⟨_, by rw [hx, List.map_map]; simp only []; congr 1; exact List.map_congr_left fun i hi2 => (hY i (by have := List.mem_range.1 hi2; omega)).2.1⟩, fun h0 => ?_, fun y hy => ?_⟩
    · simp only [List.length_map, List.length_range] at h0
      have h00 := (hi 0 (by omega)).1
      have hsp := World.cell?_spot h00
      obtain ⟨b, o, s⟩ := a
      have hs : s = none := by simpa [Addr.add] using hsp
      subst hs
      refine ⟨b, o, rfl, ?_, fun j hj => ?_⟩
      · have := World.block_lt_of_cell? w _ h00
        simpa [cadd] using this
      · have hj' : j < len := by simpa using hj
        have hc := (hi j (by omega)).1
        rw [cadd, (hY j (by omega)).1] at hc
        simp only [List.getElem_map, List.getElem_range]
        exact hc
    · obtain ⟨i, hi2, rfl⟩ := List.mem_map.1 hy
      exact (hY i (by have := List.mem_range.1 hi2; omega)).2.2
set_option maxRecDepth 100000 in
theorem open_strs' {fuel : Nat} {cs : List Value} {x : DataW H × List MemPlace} (h : DataW.trod enc Tryz.prog w base (fun _ => true) held fuel 22 cs = some x) :
    ∃ (A : Option Addr) (cap : Nat) (l : List ByteArray), cs = [.slice A l.length cap] ∧ isSl strD l x.1 ∧ InStr w A l := by
  rcases open_slice1 Tryz.underlying22 (by kernel_rfl) h with ⟨h1, h2⟩ | ⟨a, len, cap, m, n, V, D, Pl, hcs, hb, hl, hm, hmm, hx, hi⟩
  · exact ⟨none, 0, [], h1, .inl ⟨by rw [h2], rfl⟩, fun h => absurd h (by simp)⟩
  · simp only [if_true] at hmm
    subst hmm
    have each : ∀ i, i < m → ∃ y : ByteArray, V i = .string y ∧ D i = strD y := by
      intro i him
      obtain ⟨y, e1, e2, _⟩ := DataW.trod_string Tryz.underlying9 (hi i him).2
      exact ⟨y, by simpa using e1, congrArg Prod.fst e2⟩
    obtain ⟨Y, hY⟩ := choose_lt each
    refine ⟨some a, m, (List.range len).map Y, by simpa using hcs, .inr ⟨_, by rw [hx, List.map_map]; simp only []; congr 1; exact List.map_congr_left fun i hi2 => (hY i (by have := List.mem_range.1 hi2; omega)).2⟩, fun h0 => ?_⟩
    simp only [List.length_map, List.length_range] at h0
    have h00 := (hi 0 (by omega)).1
    have hsp := World.cell?_spot h00
    obtain ⟨b, o, s⟩ := a
    have hs : s = none := by simpa [Addr.add] using hsp
    subst hs
    refine ⟨b, o, rfl, ?_, fun j hj => ?_⟩
    · have := World.block_lt_of_cell? w _ h00
      simpa [cadd] using this
    · have hj' : j < len := by simpa using hj
      have hc := (hi j (by omega)).1
      rw [cadd, (hY j (by omega)).1] at hc
      simp only [List.getElem_map, List.getElem_range]
      exact hc
set_option maxRecDepth 100000 in
theorem cells_lk : Tryz.prog.cellsOf 51 = 5 := by kernel_rfl
set_option maxRecDepth 100000 in
theorem open_lks {fuel : Nat} {cs : List Value} {x : DataW H × List MemPlace} (h : DataW.trod enc Tryz.prog w base (fun _ => true) held fuel 23 cs = some x) :
    ∃ (A : Option Addr) (cap : Nat) (l : List Lk), cs = [.slice A l.length cap] ∧ isSl lkD l x.1 ∧ InLk w A l ∧ ∀ y, y ∈ l → in64 y.1 ∧ in64 y.2.1 := by
  rcases open_slice Tryz.underlying23 h with ⟨h1, h2⟩ | ⟨a, len, cap, m, n, D, Pl, hcs, hb, hl, hm, hmm, hx, hi⟩
  · exact ⟨none, 0, [], h1, .inl ⟨by rw [h2], rfl⟩, fun h => absurd h (by simp), fun y hy => by cases hy⟩
  · simp only [if_true] at hmm
    subst hmm
    have each : ∀ i, i < m → ∃ y : Lk, D i = lkD y ∧ (w.cell? (a.add (i * 5)) = some (.int .i64 y.1) ∧ w.cell? (a.add (i * 5 + 1)) = some (.int .i64 y.2.1) ∧ w.cell? (a.add (i * 5 + 2)) = some (.bool y.2.2.1) ∧ w.cell? (a.add (i * 5 + 3)) = some (.string y.2.2.2.1) ∧ w.cell? (a.add (i * 5 + 4)) = some (.string y.2.2.2.2)) ∧ in64 y.1 ∧ in64 y.2.1 := by
      intro i him
      obtain ⟨cs', hc, ht'⟩ := hi i him
      rw [cells_lk] at hc
      obtain ⟨y0, y1, y2, n', hy, _, t0, t1, t2⟩ := trod_struct3 Tryz.underlying51 ht'
      obtain ⟨z0, z1, z2, n'', hz, _, u0, u1, u2⟩ := trod_struct3 Tryz.underlying49 t2
      obtain ⟨_, hcl, hat⟩ := World.cells?_some hc
      match cs', hcl with
      | [c0, c1, c2, c3, c4], _ =>
        have g0 := hat 0 (by omega)
        have g1 := hat 1 (by omega)
        have g2 := hat 2 (by omega)
        have g3 := hat 3 (by omega)
        have g4 := hat 4 (by omega)
        rw [Go.Deep.add_add] at g0 g1 g2 g3 g4
        obtain ⟨a0, e0, k0, f0⟩ := DataW.trod_int Tryz.underlying3 t0
        obtain ⟨a1, e1, k1, f1⟩ := DataW.trod_int Tryz.underlying3 t1
        obtain ⟨a2, e2, k2⟩ := DataW.trod_bool Tryz.underlying4 u0
        obtain ⟨a3, e3, k3, _⟩ := DataW.trod_string Tryz.underlying9 u1
        obtain ⟨a4, e4, k4, _⟩ := DataW.trod_string Tryz.underlying9 u2
        simp only [Prod.mk.injEq] at hy hz
        have s1 : Tryz.prog.cellsOf 3 = 1 := by kernel_rfl
        have s2 : Tryz.prog.cellsOf 4 = 1 := by kernel_rfl
        have s3 : Tryz.prog.cellsOf 9 = 1 := by kernel_rfl
        have s4 : Tryz.prog.cellsOf 49 = 3 := by kernel_rfl
        have b0 : c0 = .int .i64 a0 := by simpa [s1, s2, s3, s4] using e0
        have b1 : c1 = .int .i64 a1 := by simpa [s1, s2, s3, s4] using e1
        have b2 : c2 = .bool a2 := by simpa [s1, s2, s3, s4] using e2
        have b3 : c3 = .string a3 := by simpa [s1, s2, s3, s4] using e3
        have b4 : c4 = .string a4 := by simpa [s1, s2, s3, s4] using e4
        subst b0 b1 b2 b3 b4
        refine ⟨(a0, a1, a2, a3, a4), ?_, ⟨by simpa using g0, by simpa using g1, by simpa using g2, by simpa using g3, by simpa using g4⟩, i64_in f0, i64_in f1⟩
        rw [hy.1, k0, k1, hz, k2, k3, k4]
        rfl
    obtain ⟨Y, hY⟩ := choose_lt each
    refine ⟨some a, m, (List.range len).map Y, by simpa using hcs, .inr ⟨_, by rw [hx, List.map_map]; simp only []; congr 1; exact List.map_congr_left fun i hi2 => (hY i (by have := List.mem_range.1 hi2; omega)).1⟩, fun h0 => ?_, fun y hy => ?_⟩
    · simp only [List.length_map, List.length_range] at h0
      have h00 := (hY 0 (by omega)).2.1.1
      have hsp := World.cell?_spot h00
      obtain ⟨b, o, s⟩ := a
      have hs : s = none := by simpa [Addr.add] using hsp
      subst hs
      refine ⟨b, o, rfl, ?_, fun j hj => ?_⟩
      · have := World.block_lt_of_cell? w _ h00
        simpa [cadd] using this
      · have hj' : j < len := by simpa using hj
        have hc := (hY j (by omega)).2.1
        simp only [cadd] at hc
        simp only [List.getElem_map, List.getElem_range]
        exact hc
    · obtain ⟨i, hi2, rfl⟩ := List.mem_map.1 hy
      exact (hY i (by have := List.mem_range.1 hi2; omega)).2.2
end
end Ci
end Go.Proofs.YtmekiidknjjfcaaGreatDoor

namespace Go.Proofs.YtmekiidknjjfcaaGreatDoor
open Go.ChangeShapes Go.WideShapes Go.ChangeAt Go.RowKit Go.Shelf Go.Joins Go.Deep
namespace Ci
open Nt
section
variable {H : Type}
theorem weightsAll_mem {P : Program} {e : TypeId} {d : DataW H} : ∀ {l : List (DataW H)}, d ∈ l → ∀ m ∈ d.weights P e, m ∈ DataW.weightsAll P e l := by
  intro l
  induction l with
  | nil => intro h; cases h
  | cons a l ih =>
    intro h m hm
    rw [DataW.weightsAll, List.mem_append]
    rcases List.mem_cons.1 h with rfl | h
    · exact .inl hm
    · exact .inr (ih h m hm)
theorem trodAll_stays {enc : TypeId × Value → H} {P : Program} {W W' : World} {base : Nat} {sp' : Nat → Bool} (hl : laidOutB P = true) : ∀ {ts : List TypeId} {vs : List Value} {ds : List (DataW H)} {ps : List MemPlace},
    (∀ t ∈ ts, P.readableRec t = true ∧ t < P.types.size) → DataW.TrodAll enc P W base (fun _ => true) true ts vs ds ps → (∀ p ∈ ps, W.sameAt W' p) → (∀ p ∈ ps, sp' p.block = true) → DataW.TrodAll enc P W' base sp' true ts vs ds ps
  | [], [], [], _, _, h, _, _ => h
  | _ :: _, _ :: _, _ :: _, _, hT, ⟨p, q, h1, h2, e⟩, hs, hb =>
    ⟨p, q, WideElems.Trod_stays hl (hT _ (List.mem_cons.2 (.inl rfl))).1 (hT _ (List.mem_cons.2 (.inl rfl))).2 h1 (fun x hx => hs x (by rw [e]; exact List.mem_append_left _ hx)) (fun x hx => hb x (by rw [e]; exact List.mem_append_left _ hx)),
      trodAll_stays hl (fun t ht => hT t (List.mem_cons.2 (.inr ht))) h2 (fun x hx => hs x (by rw [e]; exact List.mem_append_right _ hx)) (fun x hx => hb x (by rw [e]; exact List.mem_append_right _ hx)), e⟩
theorem sizes_at {ts : List TypeId} {ds : List (DataW H)} {j : Nat} {t : TypeId} {d : DataW H} (hsz : (DataW.weightsEach Tryz.prog ts ds).all (· ≤ reachBytes) = true) (ht : ts[j]? = some t) (hd : ds[j]? = some d) : ∀ m ∈ d.weights Tryz.prog t, m ≤ 140737488351232 := fun m hm =>
  of_decide_eq_true (List.all_eq_true.1 hsz _ (DataW.weights_mem_each (P := Tryz.prog) ht hd m hm))
theorem size_sl {α : Type} {f : α → DataW H} {l : List α} {d : DataW H} {t e : TypeId} (ht : Tryz.prog.underlying t = some (.slice e)) (hb : 0 < Tryz.prog.bytesOf e) (h : isSl f l d) (hw : ∀ m ∈ d.weights Tryz.prog t, m ≤ 140737488351232) :
    l.length ≤ 140737488355328 ∧ ∀ x ∈ l, ∀ m ∈ (f x).weights Tryz.prog e, m ≤ 140737488351232 := by
  rcases h with ⟨_, rfl⟩ | ⟨rest, rfl⟩
  · exact ⟨by simp, fun x h => absurd h (by simp)⟩
  · have e1 : (DataW.slice (l.map f) rest).weights Tryz.prog t = ((l.map f).length + rest.length) * Tryz.prog.bytesOf e :: (DataW.weightsAll Tryz.prog e (l.map f) ++ DataW.weightsAll Tryz.prog e rest) := by
      simp [DataW.weights, ht]
    rw [e1] at hw
    have h1 := hw _ (List.mem_cons_self ..)
    rw [List.length_map] at h1
    refine ⟨?_, fun x hx m hm => hw _ (List.mem_cons_of_mem _ (List.mem_append_left _ (weightsAll_mem (List.mem_map_of_mem (f := f) hx) m hm)))⟩
    have h2 : l.length ≤ (l.length + rest.length) * Tryz.prog.bytesOf e := Nat.le_trans (Nat.le_add_right _ _) (Nat.le_mul_of_pos_right _ hb)
    omega
theorem size_str {x : ByteArray} (h : ∀ m ∈ (strD (H := H) x).weights Tryz.prog 9, m ≤ 140737488351232) : x.size ≤ 140737488355328 := by
  have h1 := h x.data.toList.length (by simp [strD, DataW.weights])
  have z1 : x.size = x.data.toList.length := Lib.size_eq _
  omega
theorem size_lk {x : Lk} (h : ∀ m ∈ (lkD (H := H) x).weights Tryz.prog 51, m ≤ 140737488351232) : x.2.2.2.1.size ≤ 140737488355328 ∧ x.2.2.2.2.size ≤ 140737488355328 := by
  have h1 := h x.2.2.2.1.data.toList.length (by simp [lkD, DataW.weights, DataW.weightsEach, Tryz.underlying51, Tryz.underlying49])
  have h2 := h x.2.2.2.2.data.toList.length (by simp [lkD, DataW.weights, DataW.weightsEach, Tryz.underlying51, Tryz.underlying49])
  have z1 : x.2.2.2.1.size = x.2.2.2.1.data.toList.length := Lib.size_eq _
  have z2 : x.2.2.2.2.size = x.2.2.2.2.data.toList.length := Lib.size_eq _
  omega
end
section
variable {H : Type} {enc : TypeId × Value → H} {w : World} {base : Nat} {held : Bool}
/-- A structure's datum. -/
def isSt (s : SR) (d : DataW H) : Prop := ∃ dp dc dv, d = .agg [dp, dc, dv] ∧ isSl strD s.ps dp ∧ isSl lkD s.cap dc ∧ isSl lkD s.vot dv
theorem cells_st : Tryz.prog.cellsOf 25 = 3 := by kernel_rfl
set_option maxRecDepth 100000 in
theorem open_st {r : Go.Reach} {b0 : Nat} {v : Value} {d : DataW H} {p : List MemPlace} (hv : Value.okWide Tryz.prog w r b0 25 v) (h : DataW.Trod enc Tryz.prog w base (fun _ => true) held 25 v d p) :
    ∃ (Ap Ac Av : Option Addr) (cp cc cv : Nat) (s : SR), v = .agg #[.slice Ap s.ps.length cp, .slice Ac s.cap.length cc, .slice Av s.vot.length cv] ∧ isSt s d ∧ InStr w Ap s.ps ∧ InLk w Ac s.cap ∧ InLk w Av s.vot ∧ (∀ y, y ∈ s.cap → in64 y.1 ∧ in64 y.2.1) ∧ ∀ y, y ∈ s.vot → in64 y.1 ∧ in64 y.2.1 := by
  obtain ⟨c0, c1, c2, y0, y1, y2, m, rfl, rfl, _, hy0, hy1, hy2⟩ := open_agg3 Tryz.underlying25 (by kernel_rfl) cells_st hv h
  obtain ⟨Ap, cp, ps, e0, i0, m0⟩ := open_strs' hy0
  obtain ⟨Ac, cc, cap, e1, i1, m1, z1⟩ := open_lks hy1
  obtain ⟨Av, cv, vot, e2, i2, m2, z2⟩ := open_lks hy2
  simp only [List.cons.injEq, and_true] at e0 e1 e2
  subst e0 e1 e2
  exact ⟨Ap, Ac, Av, cp, cc, cv, ⟨ps, cap, vot⟩, rfl, ⟨_, _, _, rfl, i0, i1, i2⟩, m0, m1, m2, z1, z2⟩
set_option maxRecDepth 100000 in
theorem stIn_of {s : SR} {d : DataW H} {Ap Ac Av : Option Addr} (h : isSt s d) (hw : ∀ m ∈ d.weights Tryz.prog 25, m ≤ 140737488351232) (m0 : InStr w Ap s.ps) (m1 : InLk w Ac s.cap) (m2 : InLk w Av s.vot)
    (z1 : ∀ y, y ∈ s.cap → in64 y.1 ∧ in64 y.2.1) (z2 : ∀ y, y ∈ s.vot → in64 y.1 ∧ in64 y.2.1) : StIn w s Ap Ac Av := by
  obtain ⟨dp, dc, dv, rfl, i0, i1, i2⟩ := h
  have e : (DataW.agg [dp, dc, dv]).weights Tryz.prog 25 = dp.weights Tryz.prog 22 ++ (dc.weights Tryz.prog 23 ++ dv.weights Tryz.prog 23) := by
    simp [DataW.weights, DataW.weightsEach, Tryz.underlying25]
  rw [e] at hw
  obtain ⟨a1, a2⟩ := size_sl Tryz.underlying22 (Nat.lt_of_lt_of_eq (by decide : 0 < 16) (by kernel_rfl)) i0 fun m hm => hw m (List.mem_append_left _ hm)
  obtain ⟨b1, b2⟩ := size_sl Tryz.underlying23 (Nat.lt_of_lt_of_eq (by decide : 0 < 56) (by kernel_rfl)) i1 fun m hm => hw m (List.mem_append_right _ (List.mem_append_left _ hm))
  obtain ⟨c1, c2⟩ := size_sl Tryz.underlying23 (Nat.lt_of_lt_of_eq (by decide : 0 < 56) (by kernel_rfl)) i2 fun m hm => hw m (List.mem_append_right _ (List.mem_append_right _ hm))
  exact ⟨m0, m1, m2, a1, b1, c1, fun x hx => size_str (a2 x hx), fun x hx => size_lk (b2 x hx), fun x hx => size_lk (c2 x hx), z1, z2⟩
set_option maxRecDepth 100000 in
theorem open_intsV {r : Go.Reach} {b0 : Nat} {v : Value} {d : DataW H} {p : List MemPlace} (hv : Value.okWide Tryz.prog w r b0 26 v) (h : DataW.Trod enc Tryz.prog w base (fun _ => true) held 26 v d p) :
    ∃ (A : Option Addr) (cap : Nat) (l : List Int), v = .slice A l.length cap ∧ isSl intD l d ∧ InInt w A l ∧ ∀ y, y ∈ l → in64 y := by
  obtain ⟨a, len, c, rfl⟩ := okWide_slice Tryz.underlying26 hv
  obtain ⟨n, hn⟩ := h
  obtain ⟨A, cap, l, e, h1, h2, h3⟩ := open_ints' hn
  refine ⟨A, cap, l, ?_, h1, h2, h3⟩
  simpa [Value.cells] using e
end
end Ci
end Go.Proofs.YtmekiidknjjfcaaGreatDoor

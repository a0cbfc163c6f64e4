/- What Solve gives, and its plain laws; comparing, sizes, squares. -/
import Derived.Test.YtjjlnahipiinfaaGreatDoorLinB
namespace Go.Proofs.YtjjlnahipiinfaaGreatDoor
open Go.RowKit Go.Shelf
namespace Nt

set_option maxRecDepth 100000 in
set_option maxHeartbeats 4000000 in
theorem same_len (A B : Option Addr) (n m ca cb : Nat) (h : n ≠ m) (w : World) :
    Calls Tryz.prog 14 #[.slice A n ca, .slice B m cb] w fun e w' => e = .returned (.bool false) ∧ Below w.heap.size w w' := by
  have h1 : ((n : Int) == (m : Int)) = false := by rw [beq_eq_false_iff_ne]; omega
  have h2 : ¬ ((n : Int) = (m : Int)) := by omega
  replace h2 := Lib.hid h2
  go_enter Tryz.func14, Tryz.ntmps14
  go_wp2
  go_ret
  exact ⟨rfl, Below.refl _ _⟩
theorem ba_ext2 {a b : ByteArray} (h : a.toList = b.toList) : a = b := by
  rw [Lib.toList_data, Lib.toList_data] at h
  cases a; cases b; exact congrArg ByteArray.mk (Array.toList_inj.1 h)
set_option maxRecDepth 100000 in
set_option maxHeartbeats 4000000 in
theorem same_any (A B : Option Addr) (ca cb : Nat) (l m : List Raw) (hlm : l.length = m.length) (w : World) (hl : InRow w A l) (hm : InRow w B m) (h63 : l.length < 9223372036854775807) :
    Calls Tryz.prog 14 #[.slice A l.length ca, .slice B m.length cb] w fun e w' => e = .returned (.bool (decide (l = m))) ∧ Below w.heap.size w w' := by
  rw [← hlm]
  go_enter Tryz.func14, Tryz.ntmps14
  go_wp2
  replace hl := Lib.hid hl
  replace hm := Lib.hid hm
  go_loopw [5] (fun i wr => ∃ y q : Nat, y ≤ l.length ∧ i = .int .i64 (y : Int) ∧ wr = w.drewN q ∧ Hid (l.take y = m.take y)) (fun i _ => l.length - (intOf i).toNat)
  case atStart => exact ⟨0, 0, Nat.zero_le _, rfl, rfl, rfl⟩
  case round =>
    obtain ⟨y, q, hy, rfl, rfl, hI⟩ := hrel
    by_cases hlt : y < l.length
    · obtain ⟨b, o, rfl, hb, hc⟩ := hl.out (by omega)
      obtain ⟨b2, o2, rfl, hb2, hc2⟩ := hm.out (by omega)
      obtain ⟨e1, e2, e3⟩ := hc y hlt
      obtain ⟨f1, f2, f3⟩ := hc2 y (by omega)
      have hxe : ∃ x, x = l[y] := ⟨_, rfl⟩
      have hze : ∃ z, z = m[y]'(by omega) := ⟨_, rfl⟩
      obtain ⟨⟨g1, n1, d1⟩, hx⟩ := hxe
      obtain ⟨⟨g2, n2, d2⟩, hz⟩ := hze
      rw [← hx] at e1 e2 e3
      rw [← hz] at f1 f2 f3
      replace e1 : (w.drewN q).cell? ⟨b, o + y * 3, none⟩ = some (.bool g1) := e1
      replace e2 : (w.drewN q).cell? ⟨b, o + y * 3 + 1, none⟩ = some (.string n1) := e2
      replace e3 : (w.drewN q).cell? ⟨b, o + y * 3 + 2, none⟩ = some (.string d1) := e3
      replace f1 : (w.drewN q).cell? ⟨b2, o2 + y * 3, none⟩ = some (.bool g2) := f1
      replace f2 : (w.drewN q).cell? ⟨b2, o2 + y * 3 + 1, none⟩ = some (.string n2) := f2
      replace f3 : (w.drewN q).cell? ⟨b2, o2 + y * 3 + 2, none⟩ = some (.string d2) := f3
      have s1 : (0 : Int) ≤ (y : Int) := by omega
      have s2 : (y : Int) < (l.length : Int) := by omega
      replace hx := Lib.hid hx
      replace hz := Lib.hid hz
      clear hc hc2
      generalize hwq : w.drewN q = wq at *
      by_cases q1 : g1 = g2 <;> by_cases q2 : n1.toList = n2.toList <;> by_cases q3 : d1.toList = d2.toList
      all_goals (
        go_wp2_with fail
        go_quiet (fail)
        go_wp2)
      · obtain rfl := q1
        obtain rfl : n1 = n2 := ba_ext2 q2
        obtain rfl : d1 = d2 := ba_ext2 q3
        refine ⟨⟨y + 1, q + nq, by omega, by go_num, by rw [← hwq, World.drewN_drewN], ?_⟩, by simp only [intOf]; omega⟩
        show l.take (y + 1) = m.take (y + 1)
        rw [List.take_succ_eq_append_getElem hlt, List.take_succ_eq_append_getElem (by omega), hI.out, ← hx.out, ← hz.out]
      all_goals (
        have hne : Hid (l ≠ m) := fun e => by
          have e3 : (g1, n1, d1) = (g2, n2, d2) := by rw [hx.out, hz.out]; exact List.getElem_of_eq e _
          simp only [Prod.mk.injEq] at e3
          obtain ⟨rfl, rfl, rfl⟩ := e3
          simp at q1 q2 q3
        go_ret
        exact ⟨by rw [decide_eq_false hne.out]; rfl, by rw [← hwq]; exact blw_drewN (blw_drewN (Below.refl _ w) q) nq⟩)
    · obtain rfl : y = l.length := by omega
      have hd : Hid (l = m) := by
        have := hI.out
        rwa [List.take_of_length_le (Nat.le_refl _), List.take_of_length_le (by omega)] at this
      go_wp2
      go_ret
      exact ⟨by rw [decide_eq_true hd.out]; rfl, blw_drewN (Below.refl _ w) q⟩
end Nt
end Go.Proofs.YtjjlnahipiinfaaGreatDoor

namespace Go.Proofs.YtjjlnahipiinfaaGreatDoor
open Go.RowKit Go.Shelf
namespace Nt

set_option maxRecDepth 100000 in
theorem number_w (m : Int) (r : Bool) (x y : ByteArray) (w : World) (hE : Env w)
    (hc : ∀ W, Env W → Calls Tryz.prog 38 #[.int .i64 m, .int .i64 1] W fun e w' => e = .returned (.tuple #[.agg #[.bool r, .string x, .string y], .int .i64 0]) ∧ Below W.heap.size W w') :
    Calls Tryz.prog 17 #[.int .i64 m] w fun e w' => e = .returned (.agg #[.bool r, .string x, .string y]) ∧ Below w.heap.size w w' := by
  replace hE := Lib.hid hE
  replace hc := Lib.hid hc
  go_enter Tryz.func17, Tryz.ntmps17
  go_wp2_with fail
  refine (hc.out _ (hE.out.below ((Below.refl w.heap.size w).alloc (Nat.le_refl _) _))).mono ?_
  rintro e w1 ⟨rfl, hb1⟩
  have q1 := (B3.new w false ⟨#[]⟩ ⟨#[]⟩).below hb1
  have hB1 := Lib.hid (((Below.refl w.heap.size w).alloc (Nat.le_refl _) (.cells #[.bool false, .string ⟨#[]⟩, .string ⟨#[]⟩] 31)).trans (hb1.mono (by simp)))
  obtain ⟨a1, a2, a3, a4, a5, a6⟩ := q1.facts
  have hz := q1.lt
  clear hb1
  replace q1 := Lib.hid q1
  go_wp2
  refine bodyPost_ret (v := .agg #[.bool r, .string x, .string y]) (by simp [results, Tryz.results17, go_sem, hz, a1, a2, a3]) rfl ⟨rfl, ?_⟩
  refine Below.alloc ?_ (by simpa using hB1.out.size) _
  repeat refine Below.setCell ?_ (by simp only []; omega) _
  exact hB1.out
theorem ofQ_one (m : Int) : ofQ m 1 = (m : Rat) := by
  unfold ofQ
  simp
  have h : sg (decide (m < 0)) m.natAbs = m := by
    unfold sg
    by_cases e : m < 0
    · simp [e]; omega
    · simp [e]; omega
  rw [h, Rat.mkRat_one]
/-- number: a whole number. -/
theorem number_any (m : Int) (hm0 : -9223372036854775808 ≤ m) (hm1 : m ≤ 9223372036854775807) (w : World) (hE : Env w) :
    Calls Tryz.prog 17 #[.int .i64 m] w fun e w' => e = .returned (qv (m : Rat)) ∧ Below w.heap.size w w' := by
  have h := number_w m _ _ _ w hE fun W hW => RatOf_any m 1 hm0 hm1 (by omega) (by omega) (by omega) W hW
  rw [ofQ_one] at h
  exact h
end Nt
end Go.Proofs.YtjjlnahipiinfaaGreatDoor

namespace Go.Proofs.YtjjlnahipiinfaaGreatDoor
open Go.RowKit Go.Shelf
namespace Nt

/-- A system given by its rows, the right side last. -/
def mx (l : List (List Rat)) : Mx := fun i j => (l.getD i []).getD j 0
/-- Whether elimination ends with this last column. -/
def ends (n : Nat) (l : List (List Rat)) (x : List Rat) : Bool :=
  match solveTo SQ n n (mx l) with
  | .ok M => (List.range n).map (fun i => M i n) == x
  | .error _ => false
def fails (n : Nat) (l : List (List Rat)) (e : Int) : Bool :=
  match solveTo SQ n n (mx l) with
  | .ok _ => false
  | .error f => f == e
theorem ends_ok {n : Nat} {l : List (List Rat)} {x : List Rat} (h : ends n l x = true) : ∃ M, solveTo SQ n n (mx l) = .ok M ∧ (List.range n).map (fun i => M i n) = x := by
  unfold ends at h
  cases e : solveTo SQ n n (mx l) with
  | ok M => rw [e] at h; exact ⟨M, rfl, eq_of_beq h⟩
  | error f => rw [e] at h; exact absurd h (by simp)
theorem fails_er {n : Nat} {l : List (List Rat)} {e : Int} (h : fails n l e = true) : solveTo SQ n n (mx l) = .error e := by
  unfold fails at h
  cases e2 : solveTo SQ n n (mx l) with
  | ok M => rw [e2] at h; exact absurd h (by simp)
  | error f => rw [e2] at h; rw [eq_of_beq h]
theorem head1 : ends 1 [[2, 1]] [1/2] = true := by decide +kernel
theorem head2 : ends 2 [[1, 1, 3], [1, -1, 1]] [2, 1] = true := by decide +kernel
theorem head3 : ends 2 [[0, 1, 5], [1, 0, 1/3]] [1/3, 5] = true := by decide +kernel
theorem head4 : fails 2 [[1, 1, 3], [2, 2, 6]] 12 = true := by decide +kernel
end Nt
end Go.Proofs.YtjjlnahipiinfaaGreatDoor

namespace Go.Proofs.YtjjlnahipiinfaaGreatDoor
open Go.RowKit Go.Shelf
namespace Nt

/-- The value of a raw number. -/
def vq (x : Raw) : Rat := mkRat (sg x.1 (val x.2.1)) (val x.2.2)
theorem vq_rq (q : Rat) : vq (rq q) = q := by
  show mkRat (sg (decide (q.num < 0)) (val (T (some q.num.natAbs)))) (val (T (some q.den))) = q
  have h : ∀ n, val (T (some n)) = n := fun n => val_num n
  rw [h, h, sg_self]
  exact Rat.mkRat_self q
theorem raw_of {x : Raw} (h : vraw x = true) : rq (vq x) = x ∧ OkQ (vq x) := by
  obtain ⟨q, hq, h1, h2, h3⟩ := of_valid h
  have e : x = rq q := by
    obtain ⟨a, b, c⟩ := x
    simp only [rq]
    simp only at h1 h2 h3
    rw [h1, h2, h3]
  rw [e, vq_rq]
  exact ⟨rfl, hq⟩
theorem vraw_rq {q : Rat} (h : OkQ q) : vraw (rq q) = true := valid_qv h
theorem rq_inj {p q : Rat} (h : rq p = rq q) : p = q := by rw [← vq_rq p, h, vq_rq]

def sysM (A : List (List Raw)) (b : List Raw) : Mx := fun i j => if j = b.length then vq (b.getD i zraw) else vq ((A.getD i []).getD j zraw)
def rowsOf (la : List RowH) : List (List Raw) := la.map (·.2.2)
theorem rowsOf_length (la : List RowH) : (rowsOf la).length = la.length := by simp [rowsOf]
theorem rowsOf_get (la : List RowH) (i : Nat) (h : i < la.length) : (rowsOf la)[i]'(by simpa [rowsOf] using h) = la[i].2.2 := by simp [rowsOf]
def matB (n : Nat) (A : List (List Raw)) : Bool := A.all fun r => rowOk n r
theorem matB_rows (n : Nat) (la : List RowH) : matB n (rowsOf la) = matOk n la := by
  unfold matB rowsOf matOk
  rw [List.all_map]
  rfl
theorem rowOk_iff {n : Nat} {l : List Raw} : rowOk n l = true ↔ l.length = n ∧ allV l = true := by
  unfold rowOk
  rw [Bool.and_eq_true, decide_eq_true_eq]
theorem matB_iff {n : Nat} {A : List (List Raw)} : matB n A = true ↔ ∀ i (h : i < A.length), A[i].length = n ∧ allV A[i] = true := by
  unfold matB
  rw [List.all_eq_true]
  constructor
  · intro h i hi
    exact rowOk_iff.1 (h _ (List.getElem_mem hi))
  · intro h x hx
    obtain ⟨i, hi, rfl⟩ := List.getElem_of_mem hx
    exact rowOk_iff.2 (h i hi)
theorem allV_iff {l : List Raw} : allV l = true ↔ ∀ i (h : i < l.length), vraw l[i] = true := by
  unfold allV
  rw [List.all_eq_true]
  constructor
  · intro h i hi
    exact h _ (List.getElem_mem hi)
  · intro h x hx
    obtain ⟨i, hi, rfl⟩ := List.getElem_of_mem hx
    exact h i hi
def outL (n : Nat) (f : Nat → Rat) : List Raw := (List.range n).map fun i => rq (f i)
theorem outL_length (n : Nat) (f : Nat → Rat) : (outL n f).length = n := by simp [outL]
theorem outL_get (n : Nat) (f : Nat → Rat) (i : Nat) (h : i < (outL n f).length) : (outL n f)[i] = rq (f i) := by simp [outL]
theorem outL_congr {n : Nat} {f g : Nat → Rat} (h : ∀ i, i < n → f i = g i) : outL n f = outL n g := by
  unfold outL
  exact List.map_congr_left fun i hi => by rw [h i (List.mem_range.1 hi)]
/-- What Solve gives. -/
def solveB (A : List (List Raw)) (b : List Raw) : Except Int (List Raw) :=
  if A.length = b.length ∧ allV b = true ∧ matB b.length A = true then
    (if b.length ≤ 8 then (match solveTo SQ b.length b.length (sysM A b) with | .ok M => .ok (outL b.length fun i => M i b.length) | .error e => .error e) else .error 2)
  else .error 1

theorem inRow_of_own {w : World} {base : Nat} {v : Value} {n : Nat} {r : Nat → Raw} (h : w.ownsRow base 31 3 v n (rowL n r)) :
    ∃ A c, v = .slice A n c ∧ InRow w A ((List.range n).map r) := by
  rcases h.2 with ⟨rfl, rfl⟩ | ⟨g, cap, cur, rfl, hb, hg, h4, h5, h6, h7⟩
  · exact ⟨none, 0, rfl, fun h0 => absurd h0 (by simp)⟩
  · refine ⟨some ⟨g, 0, none⟩, cap, rfl, fun h0 => ⟨g, 0, rfl, (Array.getElem?_eq_some_iff.1 hg).1, fun j hj => ?_⟩⟩
    have hj' : j < n := by simpa using hj
    have hc := h.cells (g := g) (by simp [Value.ownBlock])
    have hadd : ∀ o, (⟨g, 0, none⟩ : Addr).add o = ⟨g, o, none⟩ := fun o => by unfold Addr.add; split <;> simp_all
    have h0 := rowL_get r hj' 0 (by omega)
    have h1 := rowL_get r hj' 1 (by omega)
    have h2 := rowL_get r hj' 2 (by omega)
    have c0 := hc (j * 3 + 0) _ h0
    have c1 := hc (j * 3 + 1) _ h1
    have c2 := hc (j * 3 + 2) _ h2
    rw [hadd] at c0 c1 c2
    simp only [List.getElem_map, List.getElem_range, Nat.zero_add]
    exact ⟨c0, c1, c2⟩

theorem getD_at {α : Type} {l : List α} {d : α} {i : Nat} (h : i < l.length) : l.getD i d = l[i] := by
  rw [List.getD_eq_getElem?_getD, List.getElem?_eq_getElem h, Option.getD_some]
theorem Solve_key (Aa Ab : Option Addr) (ca cb : Nat) (la : List RowH) (lb : List Raw) (w : World) (hE : Env w) (hs : SysIn w Aa Ab la lb) (h1 : la.length = lb.length) (h2 : allV lb = true) (h3 : matOk lb.length la = true) (h8 : lb.length ≤ 8) :
    Calls Tryz.prog 12 #[.slice Aa lb.length ca, .slice Ab lb.length cb] w (SolvePost lb.length (sysM (rowsOf la) lb) w) := by
  have hb := allV_iff.1 h2
  have ha' : ∀ i (hi : i < la.length), la[i].2.2.length = lb.length ∧ allV la[i].2.2 = true := fun i hi => by
    have hi2 : i < (rowsOf la).length := by rw [rowsOf_length]; exact hi
    have := matB_iff.1 ((matB_rows lb.length la).trans h3) i hi2
    rwa [rowsOf_get la i hi] at this
  have hg : ∀ i (hi : i < la.length), (rowsOf la).getD i [] = la[i].2.2 := fun i hi => by
    rw [getD_at (by rw [rowsOf_length]; exact hi), rowsOf_get la i hi]
  refine Solve_any Aa Ab lb.length ca cb la lb (sysM (rowsOf la) lb) w hE h1 rfl hs h2 h3 h8 (fun i hi => ⟨(ha' i hi).1, fun j hj => ?_⟩) (fun i hi => ?_) (fun i j hi hj => ?_)
  · have hj2 : j ≠ lb.length := by have := (ha' i hi).1; omega
    unfold sysM
    rw [if_neg hj2, hg i hi, getD_at hj]
    exact (raw_of (allV_iff.1 (ha' i hi).2 j hj)).1.symm
  · unfold sysM
    rw [if_pos rfl, getD_at hi]
    exact (raw_of (hb i hi)).1.symm
  · unfold sysM
    by_cases e : j = lb.length
    · rw [if_pos e, getD_at hi]
      exact (raw_of (hb i hi)).2
    · have hi2 : i < la.length := by omega
      have hj2 : j < la[i].2.2.length := by have := (ha' i hi2).1; omega
      rw [if_neg e, hg i hi2, getD_at hj2]
      exact (raw_of (allV_iff.1 (ha' i hi2).2 j hj2)).2
theorem Solve_ok (Aa Ab : Option Addr) (ca cb : Nat) (la : List RowH) (lb xs : List Raw) (w : World) (hE : Env w) (hs : SysIn w Aa Ab la lb) (h : solveB (rowsOf la) lb = .ok xs) :
    Calls Tryz.prog 12 #[.slice Aa la.length ca, .slice Ab lb.length cb] w fun e w' => (∃ p c, e = .returned (.tuple #[.slice p xs.length c, .int .i64 0]) ∧ InRow w' p xs) ∧ Below w.heap.size w w' := by
  unfold solveB at h
  rw [rowsOf_length, matB_rows] at h
  split at h
  · rename_i hc
    obtain ⟨h1, h2, h3⟩ := hc
    split at h
    · rename_i h8
      have key := Solve_key Aa Ab ca cb la lb w hE hs h1 h2 h3 h8
      rw [h1]
      refine key.mono fun e w' ⟨hB, hr⟩ => ⟨?_, hB⟩
      rcases hr with ⟨M, v, hM, he, hown⟩ | ⟨er, hM, he⟩
      · rw [hM] at h
        simp only [Except.ok.injEq] at h
        obtain ⟨p, c, rfl, hin⟩ := inRow_of_own hown
        refine ⟨p, c, ?_, by rw [← h]; exact hin⟩
        rw [he, ← h, outL_length]
      · rw [hM] at h
        cases h
    · cases h
  · cases h

theorem Solve_er (Aa Ab : Option Addr) (ca cb : Nat) (la : List RowH) (lb : List Raw) (er : Int) (w : World) (hE : Env w) (hs : SysIn w Aa Ab la lb) (h : solveB (rowsOf la) lb = .error er) :
    Calls Tryz.prog 12 #[.slice Aa la.length ca, .slice Ab lb.length cb] w fun e w' => e = .returned (.tuple #[.slice none 0 0, .int .i64 er]) ∧ Below w.heap.size w w' := by
  unfold solveB at h
  rw [rowsOf_length, matB_rows] at h
  split at h
  · rename_i hc
    obtain ⟨h1, h2, h3⟩ := hc
    split at h
    · rename_i h8
      have key := Solve_key Aa Ab ca cb la lb w hE hs h1 h2 h3 h8
      rw [h1]
      refine key.mono fun e w' ⟨hB, hr⟩ => ⟨?_, hB⟩
      rcases hr with ⟨M, v, hM, he, hown⟩ | ⟨er2, hM, he⟩
      · rw [hM] at h
        cases h
      · rw [hM] at h
        simp only [Except.error.injEq] at h
        rw [he, h]
    · rename_i h8
      simp only [Except.error.injEq] at h
      rw [← h]
      exact Solve_big Aa Ab ca cb la lb w hE h1 hs h2 h3 (by omega)
  · rename_i hc
    simp only [Except.error.injEq] at h
    rw [← h]
    by_cases h1 : la.length = lb.length
    · cases h2 : allV lb
      · exact Solve_vb Aa Ab ca cb la lb w hE h1 hs h2
      · cases h3 : matOk lb.length la
        · exact Solve_va Aa Ab ca cb la lb w hE h1 hs h2 h3
        · exact absurd ⟨h1, h2, h3⟩ hc
    · exact Solve_len Aa Ab ca cb la lb w h1 hs
theorem solveB_er {A : List (List Raw)} {b : List Raw} {e : Int} (h : solveB A b = .error e) : e = 1 ∨ e = 2 ∨ e = 12 := by
  unfold solveB at h
  split at h
  · split at h
    · rcases sol_cases SQ b.length (sysM A b) with ⟨M, hM⟩ | hM | hM
      · rw [hM] at h; cases h
      · rw [hM] at h; simp only [Except.error.injEq] at h; exact .inr (.inr h.symm)
      · rw [hM] at h; simp only [Except.error.injEq] at h; exact .inr (.inl h.symm)
    · simp only [Except.error.injEq] at h; exact .inr (.inl h.symm)
  · simp only [Except.error.injEq] at h; exact .inl h.symm
end Nt
end Go.Proofs.YtjjlnahipiinfaaGreatDoor

namespace Go.Proofs.YtjjlnahipiinfaaGreatDoor
open Go.RowKit Go.Shelf
namespace Nt

/-- Two systems with the same numbers. -/
def InM (n : Nat) (M N : Mx) : Prop := ∀ i, i < n → ∀ j, j ≤ n → M i j = N i j
section
variable {n : Nat} {M N : Mx}
theorem InM.sol (h : InM n M N) (y r : Nat → Rat) : Sol n M y r ↔ Sol n N y r := by
  have e : ∀ i, i < n → sumTo n (fun j => M i j * y j) = sumTo n (fun j => N i j * y j) := fun i hi => sumTo_congr fun j hj => by rw [h i hi j (by omega)]
  exact ⟨fun k i hi => (e i hi).symm.trans (k i hi), fun k i hi => (e i hi).trans (k i hi)⟩
theorem InM.triv (h : InM n M N) : Triv n M ↔ Triv n N := by unfold Triv; simp only [h.sol]
theorem InM.surj (h : InM n M N) : Surj n M ↔ Surj n N := by unfold Surj; simp only [h.sol]
theorem InM.rhs (h : InM n M N) {y : Nat → Rat} : Sol n M y (fun i => M i n) ↔ Sol n N y (fun i => N i n) :=
  ⟨fun k => ((h.sol y _).1 k).congr fun i hi => h i hi n (Nat.le_refl n), fun k => ((h.sol y _).2 k).congr fun i hi => (h i hi n (Nat.le_refl n)).symm⟩
theorem sol_self {S : Rat → Bool} {M' : Mx} (h : solveTo S n n M = .ok M') : Sol n M (fun i => M' i n) (fun i => M i n) := ((sol_ok h).1 _).2 fun _ _ => rfl
theorem sol_uniq {S : Rat → Bool} {M' : Mx} (h : solveTo S n n M = .ok M') {y : Nat → Rat} (hy : Sol n M y (fun i => M i n)) : ∀ i, i < n → y i = M' i n := ((sol_ok h).1 y).1 hy
end

def SqB (n : Nat) (A : List (List Raw)) (b : List Raw) : Prop := A.length = n ∧ b.length = n ∧ n ≤ 8 ∧ allV b = true ∧ matB n A = true
def ent (A : List (List Raw)) (i j : Nat) : Rat := vq ((A.getD i []).getD j zraw)
def rhs (b : List Raw) (i : Nat) : Rat := vq (b.getD i zraw)
theorem sysM_lt {A : List (List Raw)} {b : List Raw} {i j : Nat} (h : j < b.length) : sysM A b i j = ent A i j := by unfold sysM; rw [if_neg (by omega)]; rfl
theorem sysM_eq {A : List (List Raw)} {b : List Raw} {i n : Nat} (h : b.length = n) : sysM A b i n = rhs b i := by unfold sysM; rw [if_pos h.symm]; rfl
theorem solveB_sq {n : Nat} {A : List (List Raw)} {b : List Raw} (h : SqB n A b) : solveB A b = match solveTo SQ n n (sysM A b) with | .ok M => .ok (outL n fun i => M i n) | .error e => .error e := by
  obtain ⟨h1, rfl, h3, h4, h5⟩ := h
  unfold solveB
  rw [if_pos ⟨h1, h4, h5⟩, if_pos h3]
  all_goals (cases solveTo SQ b.length b.length (sysM A b) <;> rfl)
theorem solveB_ok {A : List (List Raw)} {b xs : List Raw} (h : solveB A b = .ok xs) : SqB b.length A b ∧ ∃ M, solveTo SQ b.length b.length (sysM A b) = .ok M ∧ xs = outL b.length fun i => M i b.length := by
  unfold solveB at h
  split at h
  · rename_i hc
    split at h
    · rename_i h8
      refine ⟨⟨hc.1, rfl, h8, hc.2.1, hc.2.2⟩, ?_⟩
      cases hs : solveTo SQ b.length b.length (sysM A b) with
      | ok M => rw [hs] at h; simp only [Except.ok.injEq] at h; exact ⟨M, rfl, h.symm⟩
      | error e => rw [hs] at h; cases h
    · cases h
  · cases h

theorem same4 {n : Nat} {A C : List (List Raw)} {b d : List Raw} (h1 : SqB n A b) (h2 : SqB n C d) (ht : Triv n (sysM A b) ↔ Triv n (sysM C d)) (g : Nat → Nat)
    (hs : ∀ y, Sol n (sysM A b) y (fun i => sysM A b i n) → Sol n (sysM C d) (fun i => y (g i)) (fun i => sysM C d i n)) :
    solveB A b = .error 2 ∨ solveB C d = .error 2 ∨ (solveB A b = .error 12 ∧ solveB C d = .error 12) ∨ ∃ f, solveB A b = .ok (outL n f) ∧ solveB C d = .ok (outL n fun i => f (g i)) := by
  rw [solveB_sq h1, solveB_sq h2]
  rcases same_out (S := SQ) ht with h | h | ⟨ha, hb⟩ | ⟨M', N', ha, hb⟩
  · rw [h]; exact .inl rfl
  · rw [h]; exact .inr (.inl rfl)
  · rw [ha, hb]; exact .inr (.inr (.inl ⟨rfl, rfl⟩))
  · rw [ha, hb]
    refine .inr (.inr (.inr ⟨fun i => M' i n, rfl, ?_⟩))
    have := sol_uniq hb (hs _ (sol_self ha))
    show Except.ok _ = Except.ok _
    rw [outL_congr fun i hi => (this i hi).symm]

/-! ### sums of products -/
def mulR (x y : Raw) : Option Rat := if vraw x = true ∧ vraw y = true ∧ ShortQ (vq x) ∧ ShortQ (vq y) then some (vq x * vq y) else none
def addQ (p q : Rat) : Option Rat := if ShortQ p ∧ ShortQ q then some (p + q) else none
def dotTo (r x : List Raw) : Nat → Option Rat
  | 0 => some 0
  | k + 1 => (dotTo r x k).bind fun s => (mulR (r.getD k zraw) (x.getD k zraw)).bind fun p => addQ s p
def rowAp (x r : List Raw) : Option Rat := if r.length = x.length then dotTo r x x.length else none
def apTo (A : List (List Raw)) (x : List Raw) : Nat → Option (List Rat)
  | 0 => some []
  | k + 1 => (apTo A x k).bind fun l => (rowAp x (A.getD k [])).map fun q => l ++ [q]
def appliedB (A : List (List Raw)) (x : List Raw) : Option (List Rat) := apTo A x A.length
theorem ok_short (q : Rat) (h : ShortQ q) : OkQ q := h.ok
theorem ok_zero : OkQ 0 := by
  have h0 := L1_lim (a := 0) (by have := L1_pos; omega)
  have h1 : 1 < Lim := by have := L1_sq; have h2 := L1_pos; have h3 : L1 * 1 ≤ L1 * L1 := Nat.mul_le_mul_left _ h2; omega
  exact ⟨h0, h1⟩
theorem dotTo_some {r x : List Raw} : ∀ {k : Nat} {s : Rat}, dotTo r x k = some s → s = sumTo k (fun j => vq (r.getD j zraw) * vq (x.getD j zraw)) ∧ ∀ j, j < k → vraw (r.getD j zraw) = true ∧ vraw (x.getD j zraw) = true := by
  intro k
  induction k with
  | zero => intro s h; simp only [dotTo, Option.some.injEq] at h; exact ⟨h.symm, fun j hj => absurd hj (by omega)⟩
  | succ k ih =>
    intro s h
    simp only [dotTo, Option.bind_eq_some_iff] at h
    obtain ⟨t, h1, p, h2, h3⟩ := h
    obtain ⟨e1, e2⟩ := ih h1
    unfold mulR at h2
    split at h2
    · rename_i hc
      simp only [Option.some.injEq] at h2
      unfold addQ at h3
      split at h3
      · simp only [Option.some.injEq] at h3
        refine ⟨by rw [← h3, ← h2, e1]; rfl, fun j hj => ?_⟩
        by_cases e : j = k
        · rw [e]; exact ⟨hc.1, hc.2.1⟩
        · exact e2 j (by omega)
      · cases h3
    · cases h2
theorem apTo_some {A : List (List Raw)} {x : List Raw} : ∀ {k : Nat} {l : List Rat}, apTo A x k = some l → l.length = k ∧ ∀ i, i < k → (A.getD i []).length = x.length ∧ dotTo (A.getD i []) x x.length = some (l.getD i 0) := by
  intro k
  induction k with
  | zero => intro l h; simp only [apTo, Option.some.injEq] at h; subst h; exact ⟨rfl, fun i hi => absurd hi (by omega)⟩
  | succ k ih =>
    intro l h
    simp only [apTo, Option.bind_eq_some_iff, Option.map_eq_some_iff] at h
    obtain ⟨l1, h1, q, h2, rfl⟩ := h
    obtain ⟨e1, e2⟩ := ih h1
    refine ⟨by simp [e1], fun i hi => ?_⟩
    unfold rowAp at h2
    split at h2
    · rename_i hl
      by_cases e : i = k
      · subst e
        refine ⟨hl, ?_⟩
        rw [h2, List.getD_eq_getElem?_getD, List.getElem?_append_right (by omega), e1, Nat.sub_self]
        rfl
      · obtain ⟨a1, a2⟩ := e2 i (by omega)
        refine ⟨a1, ?_⟩
        rw [a2, List.getD_eq_getElem?_getD, List.getD_eq_getElem?_getD, List.getElem?_append_left (by omega)]
    · cases h2
theorem dotTo_ok {r x : List Raw} {k : Nat} {s : Rat} (h : dotTo r x k = some s) : s = 0 ∨ ∃ p q, ShortQ p ∧ ShortQ q ∧ s = p + q := by
  cases k with
  | zero => simp only [dotTo, Option.some.injEq] at h; exact .inl h.symm
  | succ k =>
    simp only [dotTo, Option.bind_eq_some_iff] at h
    obtain ⟨t, h1, p, h2, h3⟩ := h
    unfold addQ at h3
    split at h3
    · rename_i hc
      simp only [Option.some.injEq] at h3
      exact .inr ⟨t, p, hc.1, hc.2, h3.symm⟩
    · cases h3
/-- What Solve returns is a solution. -/
theorem solves_law {A : List (List Raw)} {b xs : List Raw} {s : List Rat} (h : solveB A b = .ok xs) (hs : appliedB A xs = some s) : s.map rq = b := by
  obtain ⟨⟨h1, _, _, h4, _⟩, M, hM, rfl⟩ := solveB_ok h
  obtain ⟨e1, e2⟩ := apTo_some hs
  apply List.ext_getElem
  · rw [List.length_map, e1, h1]
  · intro i hi1 hi2
    obtain ⟨a1, a2⟩ := e2 i (by omega)
    obtain ⟨a3, _⟩ := dotTo_some a2
    have hsol := sol_self hM i hi2
    dsimp only at hsol
    rw [sysM_eq rfl] at hsol
    rw [outL_length] at a3
    have hb := (raw_of (allV_iff.1 h4 i hi2)).1
    have e3 : s.getD i 0 = rhs b i := by
      rw [a3, ← hsol]
      apply sumTo_congr
      intro j hj
      rw [sysM_lt hj]
      congr 1
      rw [List.getD_eq_getElem?_getD, List.getElem?_eq_getElem (by rw [outL_length]; exact hj), Option.getD_some, outL_get, vq_rq]
    have hi3 : i < s.length := by simpa using hi1
    have e4 : s.getD i 0 = s[i] := by rw [List.getD_eq_getElem?_getD, List.getElem?_eq_getElem hi3, Option.getD_some]
    have e5 : rhs b i = vq b[i] := by unfold rhs; rw [List.getD_eq_getElem?_getD, List.getElem?_eq_getElem hi2, Option.getD_some]
    rw [List.getElem_map, ← e4, e3, e5, hb]
/-- Solve finds the numbers again. -/
theorem only_law {A : List (List Raw)} {x : List Raw} {s : List Rat} (hOk : ∀ p q, ShortQ p → ShortQ q → OkQ (p + q)) (hl : A.length = x.length) (hx : allV x = true) (hs : appliedB A x = some s) :
    solveB A (s.map rq) = .error 12 ∨ solveB A (s.map rq) = .error 2 ∨ solveB A (s.map rq) = .ok x := by
  obtain ⟨e1, e2⟩ := apTo_some hs
  have hlen : (s.map rq).length = x.length := by rw [List.length_map, e1, hl]
  have hsv : allV (s.map rq) = true := allV_iff.2 fun i hi => by
    rw [List.getElem_map]
    apply vraw_rq
    have hi2 : i < s.length := by simpa using hi
    have a2 := (e2 i (by omega)).2
    have e4 : s.getD i 0 = s[i] := by rw [List.getD_eq_getElem?_getD, List.getElem?_eq_getElem hi2, Option.getD_some]
    rw [e4] at a2
    rcases dotTo_ok a2 with h | ⟨p, q, h1, h2, h⟩
    · rw [h]; exact ok_zero
    · rw [h]; exact hOk p q h1 h2
  have hmat : matB x.length A = true := matB_iff.2 fun i hi => by
    obtain ⟨a1, a2⟩ := e2 i hi
    obtain ⟨_, a3⟩ := dotTo_some a2
    have eA : A.getD i [] = A[i] := by rw [List.getD_eq_getElem?_getD, List.getElem?_eq_getElem hi, Option.getD_some]
    rw [eA] at a1 a3
    refine ⟨a1, allV_iff.2 fun j hj => ?_⟩
    have := (a3 j (by omega)).1
    rwa [List.getD_eq_getElem?_getD, List.getElem?_eq_getElem hj, Option.getD_some] at this
  by_cases h8 : x.length ≤ 8
  · have hq : SqB x.length A (s.map rq) := ⟨hl, hlen, h8, hsv, hmat⟩
    rw [solveB_sq hq]
    rcases sol_cases SQ x.length (sysM A (s.map rq)) with ⟨M, hM⟩ | hM | hM
    · rw [hM]
      refine .inr (.inr ?_)
      show Except.ok _ = Except.ok _
      have hsol : Sol x.length (sysM A (s.map rq)) (fun i => rhs x i) (fun i => sysM A (s.map rq) i x.length) := by
        intro i hi
        have hi2 : i < s.length := by omega
        show _ = sysM A (s.map rq) i x.length
        rw [sysM_eq hlen]
        have e5 : rhs (s.map rq) i = s.getD i 0 := by
          unfold rhs
          rw [List.getD_eq_getElem?_getD, List.getElem?_eq_getElem (by simpa using hi2), Option.getD_some, List.getElem_map, vq_rq, List.getD_eq_getElem?_getD, List.getElem?_eq_getElem hi2, Option.getD_some]
        rw [e5]
        obtain ⟨a3, _⟩ := dotTo_some (e2 i (by omega)).2
        rw [a3]
        apply sumTo_congr
        intro j hj
        rw [sysM_lt (by omega)]
        rfl
      have hu := sol_uniq hM hsol
      congr 1
      apply List.ext_getElem
      · rw [outL_length]
      · intro i hi1 hi2
        rw [outL_get, ← hu i hi2]
        unfold rhs
        rw [List.getD_eq_getElem?_getD, List.getElem?_eq_getElem hi2, Option.getD_some]
        exact (raw_of (allV_iff.1 hx i hi2)).1
    · rw [hM]; exact .inl rfl
    · rw [hM]; exact .inr (.inl rfl)
  · refine .inr (.inl ?_)
    unfold solveB
    rw [hlen, if_pos ⟨hl, hsv, hmat⟩, if_neg h8]

/-! ### the opposite order -/
theorem getD_rev {α : Type} (l : List α) (d : α) {i : Nat} (h : i < l.length) : l.reverse.getD i d = l.getD (l.length - 1 - i) d := by
  rw [List.getD_eq_getElem?_getD, List.getD_eq_getElem?_getD, List.getElem?_reverse h]
theorem back_sq {n : Nat} {A : List (List Raw)} {b : List Raw} (h : SqB n A b) : SqB n A.reverse b.reverse := by
  obtain ⟨h1, h2, h3, h4, h5⟩ := h
  refine ⟨by simpa using h1, by simpa using h2, h3, ?_, ?_⟩
  · unfold allV at h4 ⊢; rw [List.all_reverse]; exact h4
  · unfold matB at h5 ⊢; rw [List.all_reverse]; exact h5
theorem back_in {n : Nat} {A : List (List Raw)} {b : List Raw} (h : SqB n A b) : InM n (sysM A.reverse b.reverse) (backM n (sysM A b)) := by
  obtain ⟨h1, h2, _⟩ := h
  intro i hi j hj
  unfold backM
  by_cases e : j = n
  · subst e
    rw [sysM_eq (by simpa using h2), sysM_eq h2]
    unfold rhs
    rw [getD_rev _ _ (by omega), h2]
  · rw [sysM_lt (by simp; omega), sysM_lt (by omega)]
    unfold ent
    rw [getD_rev _ _ (by omega), h1]
theorem back_law {n : Nat} {A : List (List Raw)} {b : List Raw} (h : SqB n A b) :
    solveB A b = .error 2 ∨ solveB A.reverse b.reverse = .error 2 ∨ (solveB A b = .error 12 ∧ solveB A.reverse b.reverse = .error 12) ∨ ∃ f, solveB A b = .ok (outL n f) ∧ solveB A.reverse b.reverse = .ok (outL n f) := by
  have hin := back_in h
  refine same4 h (back_sq h) (back_triv.symm.trans hin.triv.symm) (fun i => i) fun y hy => ?_
  refine hin.rhs.2 ((back_sol y _).2 (hy.congr fun i hi => ?_))
  unfold backM
  rw [show n - 1 - (n - 1 - i) = i by omega]
theorem turn_sq {n : Nat} {A : List (List Raw)} {b : List Raw} (h : SqB n A b) : SqB n (A.map List.reverse) b := by
  obtain ⟨h1, h2, h3, h4, h5⟩ := h
  refine ⟨by simpa using h1, h2, h3, h4, matB_iff.2 fun i hi => ?_⟩
  rw [List.getElem_map]
  obtain ⟨a1, a2⟩ := matB_iff.1 h5 i (by simpa using hi)
  refine ⟨by simpa using a1, ?_⟩
  unfold allV at a2 ⊢
  rw [List.all_reverse]
  exact a2
theorem turn_in {n : Nat} {A : List (List Raw)} {b : List Raw} (h : SqB n A b) : InM n (sysM (A.map List.reverse) b) (turnM n (sysM A b)) := by
  obtain ⟨h1, h2, _, _, h5⟩ := h
  intro i hi j hj
  unfold turnM
  by_cases e : j = n
  · subst e
    rw [sysM_eq h2, if_neg (by omega), sysM_eq h2]
  · rw [sysM_lt (by omega), if_pos (by omega), sysM_lt (by omega)]
    unfold ent
    obtain ⟨a1, _⟩ := matB_iff.1 h5 i (by omega)
    have e1 : (A.map List.reverse).getD i [] = A[i].reverse := by rw [List.getD_eq_getElem?_getD, List.getElem?_eq_getElem (by simpa using by omega), Option.getD_some, List.getElem_map]
    have e2 : A.getD i [] = A[i] := by rw [List.getD_eq_getElem?_getD, List.getElem?_eq_getElem (by omega), Option.getD_some]
    rw [e1, e2, getD_rev _ _ (by omega), a1]
theorem outL_rev (n : Nat) (f : Nat → Rat) : (outL n fun i => f (n - 1 - i)).reverse = outL n f := by
  apply List.ext_getElem
  · simp [outL_length]
  · intro i h1 h2
    rw [outL_length] at h2
    rw [List.getElem_reverse, outL_get, outL_get, outL_length, show n - 1 - (n - 1 - i) = i by omega]
theorem turn_law {n : Nat} {A : List (List Raw)} {b : List Raw} (h : SqB n A b) :
    solveB A b = .error 2 ∨ solveB (A.map List.reverse) b = .error 2 ∨ (solveB A b = .error 12 ∧ solveB (A.map List.reverse) b = .error 12) ∨ ∃ f, solveB A b = .ok (outL n f) ∧ solveB (A.map List.reverse) b = .ok (outL n fun i => f (n - 1 - i)) := by
  have hin := turn_in h
  refine same4 h (turn_sq h) (turn_triv.symm.trans hin.triv.symm) (fun i => n - 1 - i) fun y hy => ?_
  refine hin.rhs.2 ((turn_sol _ _).2 ?_)
  have e : Sol n (sysM A b) (fun j => (fun i => y (n - 1 - i)) (n - 1 - j)) (fun i => sysM A b i n) := by
    intro i hi
    rw [← hy i hi]
    apply sumTo_congr
    intro j hj
    dsimp only
    rw [show n - 1 - (n - 1 - j) = j by omega]
  exact e.congr fun i hi => by unfold turnM; rw [if_neg (by omega)]

/-! ### a multiple of an equation, and another one added -/
theorem getD_set {α : Type} (l : List α) (d x : α) {i j : Nat} (h : i < l.length) : (l.set i x).getD j d = if j = i then x else l.getD j d := by
  rw [List.getD_eq_getElem?_getD, List.getElem?_set, List.getD_eq_getElem?_getD]
  by_cases e : i = j
  · subst e; rw [if_pos rfl, if_pos h, if_pos rfl]; rfl
  · rw [if_neg e, if_neg fun e2 => e e2.symm]
theorem allV_set {l : List Raw} {i : Nat} {x : Raw} (h : allV l = true) (hx : vraw x = true) : allV (l.set i x) = true := by
  unfold allV at h ⊢
  rw [List.all_eq_true] at h ⊢
  intro y hy
  rcases List.mem_or_eq_of_mem_set hy with h1 | h1
  · exact h y h1
  · rw [h1]; exact hx
theorem matB_set {n : Nat} {A : List (List Raw)} {i : Nat} {r : List Raw} (h : matB n A = true) (h1 : r.length = n) (h2 : allV r = true) : matB n (A.set i r) = true := by
  unfold matB at h ⊢
  rw [List.all_eq_true] at h ⊢
  intro y hy
  rcases List.mem_or_eq_of_mem_set hy with h3 | h3
  · exact h y h3
  · rw [h3]; exact rowOk_iff.2 ⟨h1, h2⟩
theorem outL_getD (n : Nat) (f : Nat → Rat) {j : Nat} (h : j < n) : (outL n f).getD j zraw = rq (f j) := by
  rw [List.getD_eq_getElem?_getD, List.getElem?_eq_getElem (by rw [outL_length]; exact h), Option.getD_some, outL_get]
theorem allV_outL {n : Nat} {f : Nat → Rat} (h : ∀ j, j < n → OkQ (f j)) : allV (outL n f) = true := allV_iff.2 fun i hi => by
  rw [outL_get]
  exact vraw_rq (h i (by simpa [outL_length] using hi))
theorem mult_law {n i0 k : Nat} {c : Rat} {A : List (List Raw)} {b : List Raw} (h : SqB n A b) (hi0 : i0 < n) (hk : k < n) (hne : i0 ≠ k) (hc : c ≠ 0)
    (hv : ∀ j, j < n → OkQ (ent A i0 j * c + ent A k j)) (hw : OkQ (rhs b i0 * c + rhs b k)) :
    solveB A b = .error 2 ∨ solveB (A.set i0 (outL n fun j => ent A i0 j * c + ent A k j)) (b.set i0 (rq (rhs b i0 * c + rhs b k))) = .error 2 ∨
    (solveB A b = .error 12 ∧ solveB (A.set i0 (outL n fun j => ent A i0 j * c + ent A k j)) (b.set i0 (rq (rhs b i0 * c + rhs b k))) = .error 12) ∨
    ∃ f, solveB A b = .ok (outL n f) ∧ solveB (A.set i0 (outL n fun j => ent A i0 j * c + ent A k j)) (b.set i0 (rq (rhs b i0 * c + rhs b k))) = .ok (outL n f) := by
  have h' := h
  obtain ⟨h1, h2, h3, h4, h5⟩ := h'
  have hsq : SqB n (A.set i0 (outL n fun j => ent A i0 j * c + ent A k j)) (b.set i0 (rq (rhs b i0 * c + rhs b k))) :=
    ⟨by simpa using h1, by simpa using h2, h3, allV_set h4 (vraw_rq hw), matB_set h5 (outL_length _ _) (allV_outL hv)⟩
  have hin : InM n (sysM (A.set i0 (outL n fun j => ent A i0 j * c + ent A k j)) (b.set i0 (rq (rhs b i0 * c + rhs b k)))) (multM i0 k c (sysM A b)) := by
    intro i hi j hj
    unfold multM
    by_cases e : j = n
    · subst e
      rw [sysM_eq (by simpa using h2), sysM_eq h2, sysM_eq h2, sysM_eq h2]
      unfold rhs
      rw [getD_set _ _ _ (by omega)]
      by_cases e2 : i = i0
      · rw [if_pos e2, if_pos e2, vq_rq]
      · rw [if_neg e2, if_neg e2]
    · rw [sysM_lt (by simp; omega), sysM_lt (by omega), sysM_lt (by omega), sysM_lt (by omega)]
      unfold ent
      rw [getD_set _ _ _ (by omega)]
      by_cases e2 : i = i0
      · rw [if_pos e2, if_pos e2, outL_getD _ _ (by omega), vq_rq]
      · rw [if_neg e2, if_neg e2]
  refine same4 h hsq ((mult_triv hi0 hk hne hc).symm.trans hin.triv.symm) (fun i => i) fun y hy => ?_
  exact hin.rhs.2 (((mult_sol hi0 hk hne hc _ _).2 hy).congr fun i _ => by unfold multM; rfl)

/-! ### dependent rows -/
theorem dep_eq {n i k : Nat} {A : List (List Raw)} {b : List Raw} (h : SqB n A b) (hi : i < n) (hk : k < n) (hne : i ≠ k) :
    solveB (A.set i (A.getD k [])) b = .error 12 ∨ solveB (A.set i (A.getD k [])) b = .error 2 := by
  obtain ⟨h1, h2, h3, h4, h5⟩ := h
  have ek : A.getD k [] = A[k] := by rw [List.getD_eq_getElem?_getD, List.getElem?_eq_getElem (by omega), Option.getD_some]
  obtain ⟨a1, a2⟩ := matB_iff.1 h5 k (by omega)
  have hsq : SqB n (A.set i (A.getD k [])) b := ⟨by simpa using h1, h2, h3, h4, matB_set h5 (by rw [ek]; exact a1) (by rw [ek]; exact a2)⟩
  rw [solveB_sq hsq]
  have hno : ¬ Surj n (sysM (A.set i (A.getD k [])) b) := not_surj_eq hi hk hne fun j hj => by
    rw [sysM_lt (by omega), sysM_lt (by omega)]
    unfold ent
    rw [getD_set _ _ _ (by omega), getD_set _ _ _ (by omega), if_pos rfl, if_neg (fun e => hne e.symm)]
  rcases not_ok (S := SQ) hno with h | h <;> rw [h]
  · exact .inl rfl
  · exact .inr rfl
theorem dep_zero {n i : Nat} {A : List (List Raw)} {b : List Raw} (h : SqB n A b) (hi : i < n) :
    solveB (A.set i (outL n fun _ => 0)) b = .error 12 ∨ solveB (A.set i (outL n fun _ => 0)) b = .error 2 := by
  obtain ⟨h1, h2, h3, h4, h5⟩ := h
  have hsq : SqB n (A.set i (outL n fun _ => 0)) b := ⟨by simpa using h1, h2, h3, h4, matB_set h5 (outL_length _ _) (allV_outL fun _ _ => ok_zero)⟩
  rw [solveB_sq hsq]
  have hno : ¬ Surj n (sysM (A.set i (outL n fun _ => 0)) b) := not_surj_zero hi fun j hj => by
    rw [sysM_lt (by omega)]
    unfold ent
    rw [getD_set _ _ _ (by omega), if_pos rfl, outL_getD _ _ hj, vq_rq]
  rcases not_ok (S := SQ) hno with h | h <;> rw [h]
  · exact .inl rfl
  · exact .inr rfl

/-! ### sums of right sides -/
theorem sums_law {n : Nat} {A : List (List Raw)} {b c : List Raw} (hb : SqB n A b) (hc : SqB n A c) (hv : ∀ i, i < n → OkQ (rhs b i + rhs c i)) :
    solveB A b = .error 2 ∨ solveB A c = .error 2 ∨ solveB A (outL n fun i => rhs b i + rhs c i) = .error 2 ∨
    (solveB A b = .error 12 ∧ solveB A c = .error 12 ∧ solveB A (outL n fun i => rhs b i + rhs c i) = .error 12) ∨
    ∃ f g, solveB A b = .ok (outL n f) ∧ solveB A c = .ok (outL n g) ∧ solveB A (outL n fun i => rhs b i + rhs c i) = .ok (outL n fun i => f i + g i) := by
  have hd : SqB n A (outL n fun i => rhs b i + rhs c i) := ⟨hb.1, outL_length _ _, hb.2.2.1, allV_outL hv, hb.2.2.2.2⟩
  have e : ∀ r : List Raw, r.length = n → InM n (sysM A r) (rightM n (sysM A b) fun i => rhs r i) := fun r hr i hi j hj => by
    unfold rightM
    by_cases e : j = n
    · rw [if_pos e, e, sysM_eq hr]
    · rw [if_neg e, sysM_lt (by omega), sysM_lt (by have := hb.2.1; omega)]
  have eb := e b hb.2.1
  have ec := e c hc.2.1
  have ed := e _ hd.2.1
  have t1 : Triv n (sysM A b) ↔ Triv n (sysM A c) := (eb.triv.trans (right_triv _)).trans (ec.triv.trans (right_triv _)).symm
  have t2 : Triv n (sysM A b) ↔ Triv n (sysM A (outL n fun i => rhs b i + rhs c i)) := (eb.triv.trans (right_triv _)).trans (ed.triv.trans (right_triv _)).symm
  rw [solveB_sq hb, solveB_sq hc, solveB_sq hd]
  rcases same_out (S := SQ) t1 with h | h | ⟨ha, hb'⟩ | ⟨M', N', ha, hb'⟩
  · rw [h]; exact .inl rfl
  · rw [h]; exact .inr (.inl rfl)
  · rcases same_out (S := SQ) t2 with h | h | ⟨_, hd'⟩ | ⟨M', N', hc', _⟩
    · rw [h]; exact .inl rfl
    · rw [h]; exact .inr (.inr (.inl rfl))
    · rw [ha, hb', hd']; exact .inr (.inr (.inr (.inl ⟨rfl, rfl, rfl⟩)))
    · rw [ha] at hc'; cases hc'
  · rcases same_out (S := SQ) t2 with h | h | ⟨hc', _⟩ | ⟨M2, D', _, hd'⟩
    · rw [h]; exact .inl rfl
    · rw [h]; exact .inr (.inr (.inl rfl))
    · rw [ha] at hc'; cases hc'
    · rw [ha, hb', hd']
      refine .inr (.inr (.inr (.inr ⟨fun i => M' i n, fun i => N' i n, rfl, rfl, ?_⟩)))
      have k1 := (right_sol _ _ _).1 ((eb.sol _ _).1 (sol_self ha))
      have k2 := (right_sol _ _ _).1 ((ec.sol _ _).1 (sol_self hb'))
      have k3 : Sol n (sysM A b) (fun i => M' i n + N' i n) (fun i => rhs b i + rhs c i) := by
        intro i hi
        have e : sumTo n (fun j => sysM A b i j * (M' j n + N' j n)) = sumTo n (fun j => sysM A b i j * M' j n) + sumTo n (fun j => sysM A b i j * N' j n) := by
          rw [← sumTo_add]
          apply sumTo_congr
          intro j _
          grind
        have a1 := k1 i hi
        have a2 := k2 i hi
        dsimp only at a1 a2 ⊢
        rw [sysM_eq hb.2.1] at a1
        rw [sysM_eq hc.2.1] at a2
        rw [e, a1, a2]
      have k4 := sol_uniq hd' ((ed.sol _ _).2 (((right_sol _ _ _).2 k3).congr fun i hi => by
        rw [sysM_eq hd.2.1]
        unfold rhs
        rw [outL_getD _ _ hi, vq_rq]))
      show Except.ok _ = Except.ok _
      rw [outL_congr fun i hi => (k4 i hi).symm]

/-! ### what a comparison of two results says -/
def xsOf : Except Int (List Raw) → List Raw
  | .ok l => l
  | .error _ => []
def erOf : Except Int (List Raw) → Int
  | .ok _ => 0
  | .error e => e
def sameB (e : Int) (x : List Raw) (f : Int) (y : List Raw) : Bool := decide (e = 2) || (decide (f = 2) || (decide (e = f) && decide (x = y)))
theorem same_of4 {a b : Except Int (List Raw)} {l m : List Raw} (h : a = .error 2 ∨ b = .error 2 ∨ (a = .error 12 ∧ b = .error 12) ∨ ∃ x y, a = .ok x ∧ b = .ok y ∧ l = m) (hl0 : ∀ e, a = .error e → l = []) (hm0 : ∀ e, b = .error e → m = []) : sameB (erOf a) l (erOf b) m = true := by
  unfold sameB
  rcases h with h | h | ⟨h1, h2⟩ | ⟨x, y, h1, h2, h3⟩
  · rw [h]; rfl
  · rw [h]; simp [erOf]
  · have e1 := hl0 _ h1
    have e2 := hm0 _ h2
    rw [h1, h2, e1, e2]; rfl
  · rw [h1, h2, h3]; simp [erOf]
end Nt
end Go.Proofs.YtjjlnahipiinfaaGreatDoor

namespace Go.Proofs.YtjjlnahipiinfaaGreatDoor
open Go.RowKit Go.Shelf
namespace Nt

def mx3 (d : Nat) (x : Raw) : Nat := max (max d x.2.1.size) x.2.2.size
def widL (l : List Raw) (d : Nat) : Nat := l.foldl mx3 d
def widM (A : List (List Raw)) (d : Nat) : Nat := A.foldl (fun d r => widL r d) d
def fewB (A : List (List Raw)) (b : List Raw) : Bool := A.all (fun r => decide (r.length ≤ 12)) && (decide (A.length ≤ 12) && (decide (b.length ≤ 12) && decide (max (max A.length b.length) 1 * widL b (widM A 1) ≤ 48)))
theorem mx3_le {d : Nat} {x : Raw} : d ≤ mx3 d x ∧ x.2.1.size ≤ mx3 d x ∧ x.2.2.size ≤ mx3 d x := by unfold mx3; omega
theorem widL_succ {l : List Raw} {k d : Nat} (h : k < l.length) : widL (l.take (k + 1)) d = mx3 (widL (l.take k) d) l[k] := by
  unfold widL
  rw [List.take_succ_eq_append_getElem h, List.foldl_append]
  rfl
theorem widM_succ {A : List (List Raw)} {k d : Nat} (h : k < A.length) : widM (A.take (k + 1)) d = widL A[k] (widM (A.take k) d) := by
  unfold widM
  rw [List.take_succ_eq_append_getElem h, List.foldl_append]
  rfl
theorem widL_ge {l : List Raw} : ∀ {d : Nat}, d ≤ widL l d ∧ ∀ x ∈ l, x.2.1.size ≤ widL l d ∧ x.2.2.size ≤ widL l d := by
  induction l with
  | nil => intro d; exact ⟨Nat.le_refl _, fun x h => absurd h (by simp)⟩
  | cons y l ih =>
    intro d
    have h := ih (d := mx3 d y)
    have e : widL (y :: l) d = widL l (mx3 d y) := rfl
    rw [e]
    obtain ⟨a, b, c⟩ := mx3_le (d := d) (x := y)
    refine ⟨by omega, fun x hx => ?_⟩
    rcases List.mem_cons.1 hx with rfl | hx
    · omega
    · exact h.2 x hx
theorem widM_ge {A : List (List Raw)} : ∀ {d : Nat}, d ≤ widM A d ∧ ∀ r ∈ A, ∀ x ∈ r, x.2.1.size ≤ widM A d ∧ x.2.2.size ≤ widM A d := by
  induction A with
  | nil => intro d; exact ⟨Nat.le_refl _, fun x h => absurd h (by simp)⟩
  | cons y l ih =>
    intro d
    have h := ih (d := widL y d)
    have e : widM (y :: l) d = widM l (widL y d) := rfl
    rw [e]
    have h2 := widL_ge (l := y) (d := d)
    refine ⟨by omega, fun x hx z hz => ?_⟩
    rcases List.mem_cons.1 hx with rfl | hx
    · have := h2.2 z hz; omega
    · exact h.2 x hx z hz
theorem widL_bd {l : List Raw} {B : Nat} (hz : ∀ x ∈ l, x.2.1.size ≤ B ∧ x.2.2.size ≤ B) : ∀ {d : Nat}, d ≤ B → widL l d ≤ B := by
  induction l with
  | nil => intro d h; exact h
  | cons y l ih =>
    intro d h
    have e : widL (y :: l) d = widL l (mx3 d y) := rfl
    rw [e]
    have := hz y (by simp)
    refine ih (fun x hx => hz x (by simp [hx])) ?_
    unfold mx3
    omega
theorem few_says {A : List (List Raw)} {b : List Raw} (h : fewB A b = true) : A.length ≤ 12 ∧ b.length ≤ 12 ∧ (∀ r ∈ A, r.length ≤ 12 ∧ ∀ x ∈ r, x.2.1.size ≤ 48 ∧ x.2.2.size ≤ 48) ∧ (∀ x ∈ b, x.2.1.size ≤ 48 ∧ x.2.2.size ≤ 48) := by
  unfold fewB at h
  simp only [Bool.and_eq_true, List.all_eq_true, decide_eq_true_eq] at h
  obtain ⟨h1, h2, h3, h4⟩ := h
  have h5 : 1 * widL b (widM A 1) ≤ max (max A.length b.length) 1 * widL b (widM A 1) := Nat.mul_le_mul_right _ (by omega)
  have h6 := widL_ge (l := b) (d := widM A 1)
  have h7 := widM_ge (A := A) (d := 1)
  refine ⟨h2, h3, fun r hr => ⟨h1 r hr, fun x hx => ?_⟩, fun x hx => ?_⟩
  · have := h7.2 r hr x hx; omega
  · have := h6.2 x hx; omega

theorem max3_eq (m a b : Nat) : (Value.int .i64 (if (if m < a then (a : Int) else (m : Int)) < (b : Int) then (b : Int) else if m < a then (a : Int) else (m : Int))) = .int .i64 ((max (max m a) b : Nat) : Int) := by
  congr 1
  split <;> split at * <;> omega
set_option maxRecDepth 100000 in
set_option maxHeartbeats 4000000 in
theorem Few_any (Aa Ab : Option Addr) (ca cb : Nat) (la : List RowH) (lb : List Raw) (w : World) (hs : SysIn w Aa Ab la lb) :
    Calls Tryz.prog 11 #[.slice Aa la.length ca, .slice Ab lb.length cb] w fun e w' => e = .returned (.bool (fewB (rowsOf la) lb)) ∧ Below w.heap.size w w' := by
  obtain ⟨hA, hb, na, nb, za, zb⟩ := hs
  replace hA := Lib.hid hA
  replace hb := Lib.hid hb
  replace za := Lib.hid za
  replace zb := Lib.hid zb
  go_enter Tryz.func11, Tryz.ntmps11
  go_wp2
  go_loopw [5, 6] (fun d i wr => ∃ (y q m : Nat), y ≤ la.length ∧ i = .int .i64 (y : Int) ∧ d = .int .i64 (m : Int) ∧ wr = w.drewN q ∧ m ≤ 140737488355328 ∧ Hid (m = widM ((rowsOf la).take y) 1 ∧ ∀ r ∈ (rowsOf la).take y, r.length ≤ 12)) (fun _ i _ => la.length - (intOf i).toNat)
  case atStart => exact ⟨0, 0, 1, Nat.zero_le _, rfl, rfl, rfl, by omega, rfl, fun r h => absurd h (by simp)⟩
  case round =>
    obtain ⟨y, q, m, hy, rfl, rfl, rfl, hm, hI⟩ := hrel
    by_cases hlt : y < la.length
    · obtain ⟨b, o, rfl, hbl, hc⟩ := hA.out (by omega)
      obtain ⟨c1, hr⟩ := hc y hlt
      have hzr := za.out la[y] (List.getElem_mem hlt)
      have hmem : Hid ((rowsOf la).take (y + 1) = (rowsOf la).take y ++ [la[y].2.2] ∧ widM ((rowsOf la).take (y + 1)) 1 = widL la[y].2.2 (widM ((rowsOf la).take y) 1) ∧ la[y].2.2 ∈ rowsOf la) := by
        have hl2 : y < (rowsOf la).length := by rw [rowsOf_length]; exact hlt
        have e : (rowsOf la)[y] = la[y].2.2 := rowsOf_get la y hlt
        exact ⟨by rw [List.take_succ_eq_append_getElem hl2, e], by rw [widM_succ hl2, e], by rw [← e]; exact List.getElem_mem hl2⟩
      obtain ⟨rx, hrx⟩ : ∃ x, x = la[y] := ⟨_, rfl⟩
      rw [← hrx] at c1 hr hzr hmem
      obtain ⟨ra, rc, rl⟩ := rx
      replace c1 : (w.drewN q).cell? ⟨b, o + y, none⟩ = some (.slice ra rl.length rc) := c1
      replace hr : InRow w ra rl := hr
      replace hr := Lib.hid hr
      obtain ⟨hl47, hsz⟩ := hzr
      replace hl47 : rl.length ≤ 140737488355328 := hl47
      replace hsz : Hid (∀ x ∈ rl, rawSz x) := hsz
      have i0 : (0 : Int) ≤ (y : Int) := by omega
      have i1 : (y : Int) < (la.length : Int) := by omega
      clear hc hrx
      generalize hwq : w.drewN q = wq at *
      replace hwq := Lib.hid hwq
      by_cases h12 : rl.length ≤ 12
      · go_wp2
        go_loopw [5, 7] (fun d j wz => ∃ (z p m2 : Nat), z ≤ rl.length ∧ j = .int .i64 (z : Int) ∧ d = .int .i64 (m2 : Int) ∧ wz = wq.drewN p ∧ m2 ≤ 140737488355328 ∧ Hid (m2 = widL (rl.take z) m)) (fun _ j _ => rl.length - (intOf j).toNat)
        case atStart => exact ⟨0, 0, m, Nat.zero_le _, rfl, rfl, rfl, hm, rfl⟩
        case round =>
          obtain ⟨z, p, m2, hz, rfl, rfl, rfl, hm2, hI2⟩ := hrel
          by_cases hlz : z < rl.length
          · obtain ⟨b2, o2, rfl, hbl2, hc2⟩ := hr.out (by omega)
            obtain ⟨e1, e2, e3⟩ := hc2 z hlz
            have hsx := hsz.out rl[z] (List.getElem_mem hlz)
            have hds : Hid (widL (rl.take (z + 1)) m = mx3 (widL (rl.take z) m) rl[z]) := widL_succ hlz
            obtain ⟨rx, hrx⟩ : ∃ x, x = rl[z] := ⟨_, rfl⟩
            rw [← hrx] at e1 e2 e3 hsx hds
            obtain ⟨g1, n1, d1⟩ := rx
            obtain ⟨s1, s2⟩ := hsx
            replace s1 : n1.size ≤ 140737488355328 := s1
            replace s2 : d1.size ≤ 140737488355328 := s2
            replace e2 : (wq.drewN p).cell? ⟨b2, o2 + z * 3 + 1, none⟩ = some (.string n1) := by rw [← hwq.out]; exact e2
            replace e3 : (wq.drewN p).cell? ⟨b2, o2 + z * 3 + 2, none⟩ = some (.string d1) := by rw [← hwq.out]; exact e3
            have c3 : (wq.drewN p).cell? ⟨b, o + y, none⟩ = some (.slice (some ⟨b2, o2, none⟩) rl.length rc) := c1
            have j0 : (0 : Int) ≤ (z : Int) := by omega
            have j1 : (z : Int) < (rl.length : Int) := by omega
            clear hc2 hrx e1 c1
            generalize hwp : wq.drewN p = wp at *
            replace hwp := Lib.hid hwp
            go_wp2_with fail
            go_quiet (fail)
            go_wp2
            have hmx : mx3 m2 (g1, n1, d1) ≤ 140737488355328 := by unfold mx3; dsimp only; omega
            refine ⟨⟨z + 1, p + nq, mx3 m2 (g1, n1, d1), by omega, by go_num, max3_eq _ _ _, by rw [← hwp.out, World.drewN_drewN], hmx, ?_⟩, by simp only [intOf]; omega⟩
            show _ = _
            rw [hds.out, ← hI2.out]
          · obtain rfl : z = rl.length := by omega
            have hI3 : Hid (m2 = widM ((rowsOf la).take (y + 1)) 1 ∧ ∀ r ∈ (rowsOf la).take (y + 1), r.length ≤ 12) := by
              obtain ⟨a1, a2⟩ := hI.out
              obtain ⟨b1, b2, _⟩ := hmem.out
              refine ⟨?_, fun r hr => ?_⟩
              · rw [b2, ← a1, hI2.out, List.take_length]
              · rw [b1, List.mem_append] at hr
                rcases hr with hr | hr
                · exact a2 r hr
                · rw [List.mem_singleton.1 hr]; exact h12
            go_wp2
            exact ⟨⟨y + 1, q + p, m2, by omega, by go_num, rfl, by rw [← hwq.out, World.drewN_drewN], hm2, hI3⟩, by simp only [intOf]; omega⟩
      · have hf : Hid (fewB (rowsOf la) lb = false) := by
          unfold fewB
          have : (rowsOf la).all (fun r => decide (r.length ≤ 12)) = false := by
            rw [List.all_eq_false]
            exact ⟨rl, hmem.out.2.2, by simpa using h12⟩
          show _ = false
          rw [this, Bool.false_and]
        go_wp2
        go_ret
        exact ⟨by rw [hf.out]; rfl, by rw [← hwq.out]; exact blw_drewN (Below.refl _ w) q⟩
    · obtain rfl : y = la.length := by omega
      generalize hwq : w.drewN q = wq at *
      replace hwq := Lib.hid hwq
      go_wp2
      go_loopw [5, 8] (fun d j wz => ∃ (z p m2 : Nat), z ≤ lb.length ∧ j = .int .i64 (z : Int) ∧ d = .int .i64 (m2 : Int) ∧ wz = wq.drewN p ∧ m2 ≤ 140737488355328 ∧ Hid (m2 = widL (lb.take z) m)) (fun _ j _ => lb.length - (intOf j).toNat)
      case atStart => exact ⟨0, 0, m, Nat.zero_le _, rfl, rfl, rfl, hm, rfl⟩
      case round =>
        obtain ⟨z, p, m2, hz, rfl, rfl, rfl, hm2, hI2⟩ := hrel
        by_cases hlz : z < lb.length
        · obtain ⟨b2, o2, rfl, hbl2, hc2⟩ := hb.out (by omega)
          obtain ⟨e1, e2, e3⟩ := hc2 z hlz
          have hsx := zb.out lb[z] (List.getElem_mem hlz)
          have hds : Hid (widL (lb.take (z + 1)) m = mx3 (widL (lb.take z) m) lb[z]) := widL_succ hlz
          obtain ⟨rx, hrx⟩ : ∃ x, x = lb[z] := ⟨_, rfl⟩
          rw [← hrx] at e1 e2 e3 hsx hds
          obtain ⟨g1, n1, d1⟩ := rx
          obtain ⟨s1, s2⟩ := hsx
          replace s1 : n1.size ≤ 140737488355328 := s1
          replace s2 : d1.size ≤ 140737488355328 := s2
          replace e2 : (wq.drewN p).cell? ⟨b2, o2 + z * 3 + 1, none⟩ = some (.string n1) := by rw [← hwq.out]; exact e2
          replace e3 : (wq.drewN p).cell? ⟨b2, o2 + z * 3 + 2, none⟩ = some (.string d1) := by rw [← hwq.out]; exact e3
          have j0 : (0 : Int) ≤ (z : Int) := by omega
          have j1 : (z : Int) < (lb.length : Int) := by omega
          clear hc2 hrx e1
          generalize hwp : wq.drewN p = wp at *
          replace hwp := Lib.hid hwp
          go_wp2_with fail
          go_quiet (fail)
          go_wp2
          have hmx : mx3 m2 (g1, n1, d1) ≤ 140737488355328 := by unfold mx3; dsimp only; omega
          refine ⟨⟨z + 1, p + nq, mx3 m2 (g1, n1, d1), by omega, by go_num, max3_eq _ _ _, by rw [← hwp.out, World.drewN_drewN], hmx, ?_⟩, by simp only [intOf]; omega⟩
          show _ = _
          rw [hds.out, ← hI2.out]
        · obtain rfl : z = lb.length := by omega
          have hrows : (rowsOf la).all (fun r => decide (r.length ≤ 12)) = true := by
            rw [List.all_eq_true]
            intro r hr
            have := hI.out.2 r (by rw [← rowsOf_length la, List.take_length]; exact hr)
            simpa using this
          have hm2e : m2 = widL lb (widM (rowsOf la) 1) := by
            have h1 := hI2.out
            have h2 := hI.out.1
            rw [List.take_length] at h1
            rw [← rowsOf_length la, List.take_length] at h2
            rw [h1, h2]
          have hfe : Hid (fewB (rowsOf la) lb = (decide (la.length ≤ 12) && (decide (lb.length ≤ 12) && decide (max (max la.length lb.length) 1 * m2 ≤ 48)))) := by
            unfold Hid fewB
            rw [hrows, Bool.true_and, rowsOf_length, ← hm2e]
          have hBB : Hid (Below w.heap.size w (wq.drewN p)) := by rw [← hwq.out]; exact blw_drewN (blw_drewN (Below.refl _ w) q) p
          clear hrows hm2e hI hI2 hA hb za zb hwq
          by_cases h1 : la.length ≤ 12
          · by_cases h2 : lb.length ≤ 12
            · obtain ⟨k, hk⟩ : ∃ k, k = max (max la.length lb.length) 1 := ⟨_, rfl⟩
              have hk12 : k ≤ 12 := by omega
              have hkI : (if (if la.length < lb.length then (lb.length : Int) else (la.length : Int)) < 1 then (1 : Int) else (if la.length < lb.length then (lb.length : Int) else (la.length : Int))) = (k : Int) := by
                rw [hk]; split <;> split at * <;> omega
              have hpr : (0 : Int) ≤ (k : Int) * (m2 : Int) := by rw [← Int.natCast_mul]; exact Int.natCast_nonneg _
              have hpr2 : (k : Int) * (m2 : Int) ≤ 1688849860263936 := by
                have : k * m2 ≤ 12 * 140737488355328 := Nat.mul_le_mul hk12 hm2
                rw [← Int.natCast_mul]; omega
              have hfe2 : Hid (fewB (rowsOf la) lb = decide ((k : Int) * (m2 : Int) ≤ 48)) := by
                show _ = _
                rw [hfe.out, decide_eq_true h1, decide_eq_true h2, ← hk, Bool.true_and, Bool.true_and]
                have e : ((k : Int) * (m2 : Int) ≤ 48) ↔ (k * m2 ≤ 48) := by rw [← Int.natCast_mul]; omega
                simp only [e]
              clear hfe
              replace hk := Lib.hid hk
              go_wp2
              go_ret
              exact ⟨by rw [hfe2.out]; rfl, hBB.out⟩
            · have hf : Hid (fewB (rowsOf la) lb = false) := by show _ = _; rw [hfe.out, decide_eq_false h2]; simp
              clear hfe
              go_wp2
              go_ret
              exact ⟨by rw [hf.out]; rfl, hBB.out⟩
          · have hf : Hid (fewB (rowsOf la) lb = false) := by show _ = _; rw [hfe.out, decide_eq_false h1]; rfl
            clear hfe
            go_wp2
            go_ret
            exact ⟨by rw [hf.out]; rfl, hBB.out⟩
end Nt
end Go.Proofs.YtjjlnahipiinfaaGreatDoor

namespace Go.Proofs.YtjjlnahipiinfaaGreatDoor
open Go.RowKit Go.Shelf
namespace Nt

set_option maxRecDepth 100000 in
set_option maxHeartbeats 4000000 in
theorem lsame_any (A B : Option Addr) (ca cb : Nat) (x y : List Raw) (e f : Int) (he : 0 ≤ e ∧ e ≤ 100) (hf : 0 ≤ f ∧ f ≤ 100) (w : World) (hx : InRow w A x) (hy : InRow w B y) (h1 : x.length ≤ 100) :
    Calls Tryz.prog 16 #[.slice A x.length ca, .int .i64 e, .slice B y.length cb, .int .i64 f] w fun en w' => en = .returned (.bool (sameB e x f y)) ∧ Below w.heap.size w w' := by
  by_cases h3 : e = 2
  · subst h3
    go_enter Tryz.func16, Tryz.ntmps16
    go_wp2
    go_ret
    exact ⟨by simp [sameB], Below.refl _ _⟩
  · have q1 : ((e : Int) == 2) = false := by rw [beq_eq_false_iff_ne]; exact h3
    have e1 : decide (e = 2) = false := decide_eq_false h3
    by_cases h4 : f = 2
    · subst h4
      have hh : Hid (sameB e x 2 y = true) := by unfold Hid sameB; simp
      clear e1
      go_enter Tryz.func16, Tryz.ntmps16
      go_wp2
      go_ret
      exact ⟨by rw [hh.out]; rfl, Below.refl _ _⟩
    · have q2 : ((f : Int) == 2) = false := by rw [beq_eq_false_iff_ne]; exact h4
      have e2 : decide (f = 2) = false := decide_eq_false h4
      by_cases h5 : e = f
      · subst h5
        have hk : ∀ W, W = w → Calls Tryz.prog 14 #[.slice A x.length ca, .slice B y.length cb] W fun en w' => en = .returned (.bool (sameB e x e y)) ∧ Below W.heap.size W w' := by
          rintro W rfl
          have hs : sameB e x e y = decide (x = y) := by unfold sameB; simp [e1]
          rw [hs]
          by_cases hl : x.length = y.length
          · exact same_any A B ca cb x y hl W hx hy (by omega)
          · have : decide (x = y) = false := decide_eq_false fun h => hl (by rw [h])
            rw [this]
            exact same_len A B x.length y.length ca cb hl W
        replace hk := Lib.hid hk
        generalize sameB e x e y = res at *
        clear e1 e2 hx hy
        go_enter Tryz.func16, Tryz.ntmps16
        go_wp2_with fail
        refine (hk.out _ rfl).mono ?_
        rintro en w1 ⟨rfl, hb⟩
        replace hb := Lib.hid hb
        go_wp2
        go_ret
        exact ⟨rfl, hb.out⟩
      · have q3 : ((e : Int) == f) = false := by rw [beq_eq_false_iff_ne]; exact h5
        have hh : Hid (sameB e x f y = false) := by unfold Hid sameB; simp [e1, e2, h5]
        clear e1 e2
        go_enter Tryz.func16, Tryz.ntmps16
        go_wp2
        go_ret
        exact ⟨by rw [hh.out]; rfl, Below.refl _ _⟩

def squareB (A : List (List Raw)) (b : List Raw) : Bool := fewB A b && (decide (A.length = b.length) && (decide (b.length ≤ 8) && (matB b.length A && allV b)))
theorem square_sq {A : List (List Raw)} {b : List Raw} (h : squareB A b = true) : fewB A b = true ∧ SqB b.length A b := by
  unfold squareB at h
  simp only [Bool.and_eq_true, decide_eq_true_eq] at h
  exact ⟨h.1, h.2.1, rfl, h.2.2.1, h.2.2.2.2, h.2.2.2.1⟩
theorem squareB_bad {A : List (List Raw)} {b : List Raw} {i : Nat} (h1 : i < A.length) (h2 : i < b.length) (h : rowOk b.length A[i] = false ∨ vraw b[i] = false) : squareB A b = false := by
  unfold squareB
  have : (matB b.length A && allV b) = false := by
    rw [Bool.and_eq_false_iff]
    rcases h with h | h
    · left
      unfold matB
      rw [List.all_eq_false]
      exact ⟨A[i], List.getElem_mem h1, by rw [h]; simp⟩
    · right
      unfold allV
      rw [List.all_eq_false]
      exact ⟨b[i], List.getElem_mem h2, by rw [h]; simp⟩
  rw [this]
  simp
theorem squareB_good {A : List (List Raw)} {b : List Raw} (h0 : fewB A b = true) (h1 : A.length = b.length) (h2 : b.length ≤ 8) (h : ∀ i (hi : i < A.length) (hj : i < b.length), rowOk b.length A[i] = true ∧ vraw b[i] = true) : squareB A b = true := by
  unfold squareB
  rw [h0, decide_eq_true h1, decide_eq_true h2]
  have a : matB b.length A = true := by
    unfold matB
    rw [List.all_eq_true]
    intro x hx
    obtain ⟨i, hi, rfl⟩ := List.getElem_of_mem hx
    exact (h i hi (by omega)).1
  have c : allV b = true := allV_iff.2 fun i hi => (h i (by omega) hi).2
  rw [a, c]
  rfl

abbrev rawV (x : Raw) : Value := .agg #[.bool x.1, .string x.2.1, .string x.2.2]
theorem validr_any (x : Raw) (hz : rawSz x) (w : World) (hE : Env w) : Calls Tryz.prog 19 #[rawV x] w fun e w' => e = .returned (.bool (vraw x)) ∧ Below w.heap.size w w' :=
  Valid_any x.1 x.2.1 x.2.2 w hE hz.1 hz.2
theorem InRow.at {W : World} {A : Option Addr} {l : List Raw} (h : InRow W A l) {j : Nat} (hj : j < l.length) : ∃ b o, A = some ⟨b, o, none⟩ ∧ b < W.heap.size ∧ W.cell? ⟨b, o + j * 3, none⟩ = some (.bool l[j].1) ∧ W.cell? ⟨b, o + j * 3 + 1, none⟩ = some (.string l[j].2.1) ∧ W.cell? ⟨b, o + j * 3 + 2, none⟩ = some (.string l[j].2.2) := by
  obtain ⟨b, o, e, hl, hc⟩ := h (by omega)
  exact ⟨b, o, e, hl, hc j hj⟩

set_option maxRecDepth 100000 in
set_option maxHeartbeats 8000000 in
theorem square_any (Aa Ab : Option Addr) (ca cb : Nat) (la : List RowH) (lb : List Raw) (w : World) (hE : Env w) (hs : SysIn w Aa Ab la lb) :
    Calls Tryz.prog 15 #[.slice Aa la.length ca, .slice Ab lb.length cb] w fun e w' => e = .returned (.bool (squareB (rowsOf la) lb)) ∧ Below w.heap.size w w' := by
  have kf := Few_any Aa Ab ca cb la lb w hs
  have nb := hs.nb
  have na := hs.na
  cases h0 : fewB (rowsOf la) lb with
  | false =>
    rw [h0] at kf
    have hr : Hid (squareB (rowsOf la) lb = false) := by unfold Hid squareB; rw [h0]; rfl
    clear h0 hs hE
    replace kf := Lib.hid kf
    go_enter Tryz.func15, Tryz.ntmps15
    go_wp2_with fail
    refine kf.out.mono ?_
    rintro e w1 ⟨rfl, hb⟩
    replace hb := Lib.hid hb
    go_wp2
    go_ret
    exact ⟨by rw [hr.out]; rfl, hb.out⟩
  | true =>
    rw [h0] at kf
    by_cases hl : la.length = lb.length
    · by_cases h8 : lb.length ≤ 8
      · obtain ⟨n, hn⟩ : ∃ n, n = lb.length := ⟨_, rfl⟩
        have HG : Hid ((∀ i (hi : i < la.length) (hj : i < lb.length), rowOk n la[i].2.2 = true ∧ vraw lb[i] = true) → squareB (rowsOf la) lb = true) := fun h => squareB_good h0 (by rw [rowsOf_length]; exact hl) h8 fun i hi hj => by
          rw [rowsOf_length] at hi
          rw [rowsOf_get la i hi, ← hn]
          exact h i hi hj
        have HB : Hid (∀ i (hi : i < la.length) (hj : i < lb.length), (rowOk n la[i].2.2 = false ∨ vraw lb[i] = false) → squareB (rowsOf la) lb = false) := fun i hi hj h => squareB_bad (i := i) (by rw [rowsOf_length]; exact hi) hj (by rw [rowsOf_get la i hi, ← hn]; exact h)
        have hA := Lib.hid hs.ma
        have hB := Lib.hid hs.mb
        have hza := Lib.hid hs.za
        have hzb := Lib.hid hs.zb
        generalize squareB (rowsOf la) lb = res at *
        clear h0 hs na
        replace kf := Lib.hid kf
        replace hE := Lib.hid hE
        rw [hl, ← hn]
        rw [← hn] at nb h8
        have hla : Hid (la.length = n) := by show la.length = n; omega
        have hlb : Hid (lb.length = n) := hn.symm
        rw [hl, ← hn] at kf
        clear hl hn
        go_enter Tryz.func15, Tryz.ntmps15
        go_wp2_with fail
        refine kf.out.mono ?_
        rintro e w1 ⟨rfl, hb⟩
        replace hb := Lib.hid hb
        clear kf
        go_wp2
        go_loopw [5] (fun i wr => ∃ y : Nat, y ≤ n ∧ i = .int .i64 (y : Int) ∧ Hid (Below w.heap.size w wr) ∧ Hid (∀ i (hi : i < la.length) (hj : i < lb.length), i < y → rowOk n la[i].2.2 = true ∧ vraw lb[i] = true)) (fun i _ => n - (intOf i).toNat)
        case atStart => exact ⟨0, Nat.zero_le _, rfl, hb, fun i _ _ h => absurd h (by omega)⟩
        case round =>
          obtain ⟨y, hy, rfl, hBr, hI⟩ := hrel
          by_cases hlt : y < n
          · have hy1 : y < la.length := by rw [hla.out]; exact hlt
            have hy2 : y < lb.length := by rw [hlb.out]; exact hlt
            obtain ⟨ba, oa, rfl, hba, hca⟩ := hA.out (by omega)
            obtain ⟨c1, hr⟩ := hca y hy1
            obtain ⟨bb, ob, rfl, hbb, f1, f2, f3⟩ := hB.out.at hy2
            have hzr := hza.out la[y] (List.getElem_mem hy1)
            have kv := validr_any lb[y] (hzb.out _ (List.getElem_mem hy2))
            have HBy := HB.out y hy1 hy2
            have HIy : Hid (rowOk n la[y].2.2 = true → vraw lb[y] = true → ∀ i (hi : i < la.length) (hj : i < lb.length), i < y + 1 → rowOk n la[i].2.2 = true ∧ vraw lb[i] = true) := fun h1 h2 i hi hj h3 => by
              by_cases e : i = y
              · subst e; exact ⟨h1, h2⟩
              · exact hI.out i hi hj (by omega)
            obtain ⟨ra, hra⟩ : ∃ x, x = la[y] := ⟨_, rfl⟩
            obtain ⟨rb, hrb⟩ : ∃ x, x = lb[y] := ⟨_, rfl⟩
            rw [← hra] at c1 hr hzr HBy HIy
            rw [← hrb] at f1 f2 f3 kv HBy HIy
            obtain ⟨ra, rc, rl⟩ := ra
            obtain ⟨g, nn, dd⟩ := rb
            replace c1 : wr.cell? ⟨ba, oa + y, none⟩ = some (.slice ra rl.length rc) := (hBr.out.cell (p := ⟨ba, oa + y, none⟩) hba).trans c1
            replace f1 : wr.cell? ⟨bb, ob + y * 3, none⟩ = some (.bool g) := (hBr.out.cell (p := ⟨bb, _, none⟩) hbb).trans f1
            replace f2 : wr.cell? ⟨bb, ob + y * 3 + 1, none⟩ = some (.string nn) := (hBr.out.cell (p := ⟨bb, _, none⟩) hbb).trans f2
            replace f3 : wr.cell? ⟨bb, ob + y * 3 + 2, none⟩ = some (.string dd) := (hBr.out.cell (p := ⟨bb, _, none⟩) hbb).trans f3
            replace HBy : Hid ((rowOk n rl = false ∨ vraw (g, nn, dd) = false) → res = false) := HBy
            replace kv : Hid (∀ W, Env W → Calls Tryz.prog 19 #[.agg #[.bool g, .string nn, .string dd]] W fun e w' => e = .returned (.bool (vraw (g, nn, dd))) ∧ Below W.heap.size W w') := kv
            replace hr : Hid (InRow w ra rl) := hr
            have hl47 : rl.length ≤ 140737488355328 := hzr.1
            have hsz : Hid (∀ x ∈ rl, rawSz x) := hzr.2
            have i0 : (0 : Int) ≤ (y : Int) := by omega
            have i1 : (y : Int) < (n : Int) := by omega
            clear hra hrb hca hzr hI HB HG
            by_cases hrl : rl.length = n
            · rw [hrl] at c1
              generalize hvv : vraw (g, nn, dd) = vv at *
              replace hvv := Lib.hid hvv
              cases vv
              · have hres := Lib.hid (HBy.out (.inr rfl))
                go_wp2_with fail
                refine (kv.out _ (hE.out.below hBr.out)).mono ?_
                rintro e w2 ⟨rfl, hb2⟩
                have hB2 := Lib.hid (hBr.out.trans (hb2.mono hBr.out.size))
                clear hb2
                go_wp2
                go_ret
                exact ⟨by rw [hres.out]; rfl, hB2.out⟩
              · go_wp2_with fail
                refine (kv.out _ (hE.out.below hBr.out)).mono ?_
                rintro e w2 ⟨rfl, hb2⟩
                have hB2 := Lib.hid (hBr.out.trans (hb2.mono hBr.out.size))
                have c2 := (hb2.cell (p := ⟨ba, oa + y, none⟩) (Nat.lt_of_lt_of_le hba hBr.out.size)).trans c1
                clear hb2 c1 f1 f2 f3
                go_wp2
                go_loopw [6] (fun j wz => ∃ z : Nat, z ≤ n ∧ j = .int .i64 (z : Int) ∧ Hid (Below w2.heap.size w2 wz) ∧ Hid (∀ j (hj : j < rl.length), j < z → vraw rl[j] = true)) (fun j _ => n - (intOf j).toNat)
                case atStart => exact ⟨0, Nat.zero_le _, rfl, Below.refl _ _, fun j _ h => absurd h (by omega)⟩
                case round =>
                  obtain ⟨z, hz, rfl, hBz, hJ⟩ := hrel
                  have c3 := (hBz.out.cell (p := ⟨ba, oa + y, none⟩) (Nat.lt_of_lt_of_le hba hB2.out.size)).trans c2
                  by_cases hlz : z < n
                  · have hz1 : z < rl.length := by omega
                    obtain ⟨bx, ox, rfl, hbx, f1, f2, f3⟩ := hr.out.at hz1
                    have kw := validr_any rl[z] (hsz.out _ (List.getElem_mem hz1))
                    have hbad : Hid (vraw rl[z] = false → rowOk n rl = false) := fun h => by
                      unfold rowOk
                      have : allV rl = false := by unfold allV; rw [List.all_eq_false]; exact ⟨rl[z], List.getElem_mem hz1, by rw [h]; simp⟩
                      rw [this]; simp
                    have hJ2 : Hid (vraw rl[z] = true → ∀ j (hj : j < rl.length), j < z + 1 → vraw rl[j] = true) := fun h j hj h3 => by
                      by_cases e : j = z
                      · subst e; exact h
                      · exact hJ.out j hj (by omega)
                    obtain ⟨rb, hrb⟩ : ∃ x, x = rl[z] := ⟨_, rfl⟩
                    rw [← hrb] at f1 f2 f3 kw hbad hJ2
                    obtain ⟨g2, nn2, dd2⟩ := rb
                    have q : ∀ o, wr.cell? ⟨bx, o, none⟩ = w.cell? ⟨bx, o, none⟩ := fun o => (hBz.out.cell (p := ⟨bx, o, none⟩) (Nat.lt_of_lt_of_le hbx hB2.out.size)).trans (hB2.out.cell (p := ⟨bx, o, none⟩) hbx)
                    replace f1 : wr.cell? ⟨bx, ox + z * 3, none⟩ = some (.bool g2) := (q _).trans f1
                    replace f2 : wr.cell? ⟨bx, ox + z * 3 + 1, none⟩ = some (.string nn2) := (q _).trans f2
                    replace f3 : wr.cell? ⟨bx, ox + z * 3 + 2, none⟩ = some (.string dd2) := (q _).trans f3
                    replace kw : Hid (∀ W, Env W → Calls Tryz.prog 19 #[.agg #[.bool g2, .string nn2, .string dd2]] W fun e w' => e = .returned (.bool (vraw (g2, nn2, dd2))) ∧ Below W.heap.size W w') := kw
                    have j0 : (0 : Int) ≤ (z : Int) := by omega
                    have j1 : (z : Int) < (n : Int) := by omega
                    clear hrb q hJ c2
                    have hBw := Lib.hid (hB2.out.trans (hBz.out.mono hB2.out.size))
                    generalize vraw (g2, nn2, dd2) = v2 at *
                    cases v2
                    · have hres := Lib.hid (HBy.out (.inl (hbad.out rfl)))
                      go_wp2_with fail
                      refine (kw.out _ (hE.out.below hBw.out)).mono ?_
                      rintro e w3 ⟨rfl, hb3⟩
                      have hB3 := Lib.hid (hBw.out.trans (hb3.mono hBw.out.size))
                      clear hb3
                      go_wp2
                      go_ret
                      exact ⟨by rw [hres.out]; rfl, hB3.out⟩
                    · have hJ3 := Lib.hid (hJ2.out rfl)
                      go_wp2_with fail
                      refine (kw.out _ (hE.out.below hBw.out)).mono ?_
                      rintro e w3 ⟨rfl, hb3⟩
                      have hB3 := Lib.hid (hBz.out.trans (hb3.mono hBz.out.size))
                      clear hb3
                      go_wp2
                      go_roundw
                      case rel => exact ⟨z + 1, by omega, by go_num, hB3, hJ3⟩
                      case measure => simp [intOf]; omega
                  · obtain rfl : z = n := by omega
                    have hI2 := Lib.hid (HIy.out (rowOk_iff.2 ⟨hrl, allV_iff.2 fun j hj => hJ.out j hj (by omega)⟩) (by trivial))
                    have hBw := Lib.hid (hB2.out.trans (hBz.out.mono hB2.out.size))
                    clear c2 hJ
                    go_wp2
                    go_roundw
                    case rel => exact ⟨y + 1, by omega, by go_num, hBw, hI2⟩
                    case measure => simp [intOf]; omega
            · have t1 : ((rl.length : Int) == (n : Int)) = false := by rw [beq_eq_false_iff_ne]; omega
              have t2 : ((rl.length : Int) != (n : Int)) = true := by rw [bne_iff_ne]; omega
              have t3 : (rl.length == n) = false := by rw [beq_eq_false_iff_ne]; exact hrl
              have hres := Lib.hid (HBy.out (.inl (by unfold rowOk; simp [hrl])))
              go_wp2
              go_ret
              exact ⟨by rw [hres.out]; rfl, hBr.out⟩
          · obtain rfl : y = n := by omega
            have hres := Lib.hid (HG.out fun i hi hj => hI.out i hi hj (by rw [← hlb.out]; exact hj))
            go_wp2
            go_ret
            exact ⟨by rw [hres.out]; rfl, hBr.out⟩
      · have hr : Hid (squareB (rowsOf la) lb = false) := by unfold Hid squareB; rw [decide_eq_false h8]; simp
        clear h0 hs hE
        rw [hl] at kf ⊢
        clear hl na
        replace kf := Lib.hid kf
        go_enter Tryz.func15, Tryz.ntmps15
        go_wp2_with fail
        refine kf.out.mono ?_
        rintro e w1 ⟨rfl, hb⟩
        replace hb := Lib.hid hb
        go_wp2
        go_ret
        exact ⟨by rw [hr.out]; rfl, hb.out⟩
    · have hr : Hid (squareB (rowsOf la) lb = false) := by unfold Hid squareB; rw [rowsOf_length, decide_eq_false hl]; simp
      have t1 : ((la.length : Int) == (lb.length : Int)) = false := by rw [beq_eq_false_iff_ne]; omega
      have t2 : ((la.length : Int) != (lb.length : Int)) = true := by rw [bne_iff_ne]; omega
      have t3 : (la.length == lb.length) = false := by rw [beq_eq_false_iff_ne]; exact hl
      have t4 : ¬ la.length = lb.length := hl
      clear h0 hs hE hl
      replace kf := Lib.hid kf
      go_enter Tryz.func15, Tryz.ntmps15
      go_wp2_with fail
      refine kf.out.mono ?_
      rintro e w1 ⟨rfl, hb⟩
      replace hb := Lib.hid hb
      go_wp2
      go_ret
      exact ⟨by rw [hr.out]; rfl, hb.out⟩
end Nt
end Go.Proofs.YtjjlnahipiinfaaGreatDoor

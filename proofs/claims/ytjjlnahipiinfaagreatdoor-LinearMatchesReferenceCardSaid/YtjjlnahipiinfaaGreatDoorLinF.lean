/- The reference of Solve, walked whole. -/
import Derived.Test.YtjjlnahipiinfaaGreatDoorLinC
import Derived.Test.YtjjlnahipiinfaaGreatDoorRRef2
import Derived.Test.YtjjlnahipiinfaaGreatDoorLinD
namespace Go.Proofs.YtjjlnahipiinfaaGreatDoor
open Go.RowKit Go.Shelf
namespace Nt

def refvB (A : List (List Raw)) (b : List Raw) : Bool := decide (A.length = b.length) && (matB b.length A && allV b)
theorem refvB_bad {A : List (List Raw)} {b : List Raw} {i : Nat} (h1 : i < A.length) (h2 : i < b.length) (h : rowOk b.length A[i] = false ∨ vraw b[i] = false) : refvB A b = false := by
  unfold refvB
  have : (matB b.length A && allV b) = false := by
    rw [Bool.and_eq_false_iff]
    rcases h with h | h
    · left
      unfold matB
      rw [List.all_eq_false]
      exact ⟨A[i], List.getElem_mem h1, by rw [h]; simp⟩
    · right
      unfold allV
      rw [List.all_eq_false]
      exact ⟨b[i], List.getElem_mem h2, by rw [h]; simp⟩
  rw [this]
  simp
theorem refvB_good {A : List (List Raw)} {b : List Raw} (h1 : A.length = b.length) (h : ∀ i (hi : i < A.length) (hj : i < b.length), rowOk b.length A[i] = true ∧ vraw b[i] = true) : refvB A b = true := by
  unfold refvB
  rw [decide_eq_true h1]
  have a : matB b.length A = true := by
    unfold matB
    rw [List.all_eq_true]
    intro x hx
    obtain ⟨i, hi, rfl⟩ := List.getElem_of_mem hx
    exact (h i hi (by omega)).1
  have c : allV b = true := allV_iff.2 fun i hi => (h i (by omega) hi).2
  rw [a, c]
  rfl
theorem validv_any (x : Raw) (hz : rawSz x) (w : World) : Calls Tryz.prog 49 #[rawV x] w fun e w' => e = .returned (.bool (vraw x)) ∧ Below w.heap.size w w' :=
  RRValid_any x.1 x.2.1 x.2.2 w hz.1 hz.2

set_option maxRecDepth 100000 in
set_option maxHeartbeats 1000000 in
theorem refzero_any (g : Bool) (n d : ByteArray) (w : World) :
    Calls Tryz.prog 20 #[.agg #[.bool g, .string n, .string d]] w fun e w' => e = .returned (.bool (n.toList == [48])) ∧ Below w.heap.size w w' := by
  go_enter Tryz.func20, Tryz.ntmps20
  go_wp2
  go_ret
  exact ⟨rfl, one_below _ _⟩
theorem refzero_q (q : Rat) (w : World) :
    Calls Tryz.prog 20 #[qv q] w fun e w' => e = .returned (.bool (decide (q = 0))) ∧ Below w.heap.size w w' := by
  have h := refzero_any (rq q).1 (rq q).2.1 (rq q).2.2 w
  by_cases e : q = 0
  · subst e
    rw [decide_eq_true rfl]
    have e1 : ((rq 0).2.1.toList == [48]) = true := T_is_zero 0
    rw [e1] at h
    exact h
  · rw [decide_eq_false e]
    rw [rq_num e] at h
    exact h

set_option maxRecDepth 100000 in
set_option maxHeartbeats 8000000 in
theorem refvalid_any (Aa Ab : Option Addr) (ca cb : Nat) (la : List RowH) (lb : List Raw) (w : World) (hs : SysIn w Aa Ab la lb) :
    Calls Tryz.prog 34 #[.slice Aa la.length ca, .slice Ab lb.length cb] w fun e w' => e = .returned (.bool (refvB (rowsOf la) lb)) ∧ Below w.heap.size w w' := by
  have nb := hs.nb
  have na := hs.na
  by_cases hl : la.length = lb.length
  · obtain ⟨n, hn⟩ : ∃ n, n = lb.length := ⟨_, rfl⟩
    have HG : Hid ((∀ i (hi : i < la.length) (hj : i < lb.length), rowOk n la[i].2.2 = true ∧ vraw lb[i] = true) → refvB (rowsOf la) lb = true) := fun h => refvB_good (by rw [rowsOf_length]; exact hl) fun i hi hj => by
      rw [rowsOf_length] at hi
      rw [rowsOf_get la i hi, ← hn]
      exact h i hi hj
    have HB : Hid (∀ i (hi : i < la.length) (hj : i < lb.length), (rowOk n la[i].2.2 = false ∨ vraw lb[i] = false) → refvB (rowsOf la) lb = false) := fun i hi hj h => refvB_bad (i := i) (by rw [rowsOf_length]; exact hi) hj (by rw [rowsOf_get la i hi, ← hn]; exact h)
    have hA := Lib.hid hs.ma
    have hB := Lib.hid hs.mb
    have hza := Lib.hid hs.za
    have hzb := Lib.hid hs.zb
    generalize refvB (rowsOf la) lb = res at *
    clear hs na
    rw [hl, ← hn]
    rw [← hn] at nb
    have hla : Hid (la.length = n) := by show la.length = n; omega
    have hlb : Hid (lb.length = n) := hn.symm
    clear hl hn
    go_enter Tryz.func34, Tryz.ntmps34
    have hb := Lib.hid (Below.refl w.heap.size w)
    go_wp2
    go_loopw [5] (fun i wr => ∃ y : Nat, y ≤ n ∧ i = .int .i64 (y : Int) ∧ Hid (Below w.heap.size w wr) ∧ Hid (∀ i (hi : i < la.length) (hj : i < lb.length), i < y → rowOk n la[i].2.2 = true ∧ vraw lb[i] = true)) (fun i _ => n - (intOf i).toNat)
    case atStart => exact ⟨0, Nat.zero_le _, rfl, hb, fun i _ _ h => absurd h (by omega)⟩
    case round =>
      obtain ⟨y, hy, rfl, hBr, hI⟩ := hrel
      by_cases hlt : y < n
      · have hy1 : y < la.length := by rw [hla.out]; exact hlt
        have hy2 : y < lb.length := by rw [hlb.out]; exact hlt
        obtain ⟨ba, oa, rfl, hba, hca⟩ := hA.out (by omega)
        obtain ⟨c1, hr⟩ := hca y hy1
        obtain ⟨bb, ob, rfl, hbb, f1, f2, f3⟩ := hB.out.at hy2
        have hzr := hza.out la[y] (List.getElem_mem hy1)
        have kv := validv_any lb[y] (hzb.out _ (List.getElem_mem hy2))
        have HBy := HB.out y hy1 hy2
        have HIy : Hid (rowOk n la[y].2.2 = true → vraw lb[y] = true → ∀ i (hi : i < la.length) (hj : i < lb.length), i < y + 1 → rowOk n la[i].2.2 = true ∧ vraw lb[i] = true) := fun h1 h2 i hi hj h3 => by
          by_cases e : i = y
          · subst e; exact ⟨h1, h2⟩
          · exact hI.out i hi hj (by omega)
        obtain ⟨ra, hra⟩ : ∃ x, x = la[y] := ⟨_, rfl⟩
        obtain ⟨rb, hrb⟩ : ∃ x, x = lb[y] := ⟨_, rfl⟩
        rw [← hra] at c1 hr hzr HBy HIy
        rw [← hrb] at f1 f2 f3 kv HBy HIy
        obtain ⟨ra, rc, rl⟩ := ra
        obtain ⟨g, nn, dd⟩ := rb
        replace c1 : wr.cell? ⟨ba, oa + y, none⟩ = some (.slice ra rl.length rc) := (hBr.out.cell (p := ⟨ba, oa + y, none⟩) hba).trans c1
        replace f1 : wr.cell? ⟨bb, ob + y * 3, none⟩ = some (.bool g) := (hBr.out.cell (p := ⟨bb, _, none⟩) hbb).trans f1
        replace f2 : wr.cell? ⟨bb, ob + y * 3 + 1, none⟩ = some (.string nn) := (hBr.out.cell (p := ⟨bb, _, none⟩) hbb).trans f2
        replace f3 : wr.cell? ⟨bb, ob + y * 3 + 2, none⟩ = some (.string dd) := (hBr.out.cell (p := ⟨bb, _, none⟩) hbb).trans f3
        replace HBy : Hid ((rowOk n rl = false ∨ vraw (g, nn, dd) = false) → res = false) := HBy
        replace kv : Hid (∀ W, Calls Tryz.prog 49 #[.agg #[.bool g, .string nn, .string dd]] W fun e w' => e = .returned (.bool (vraw (g, nn, dd))) ∧ Below W.heap.size W w') := kv
        replace hr : Hid (InRow w ra rl) := hr
        have hl47 : rl.length ≤ 140737488355328 := hzr.1
        have hsz : Hid (∀ x ∈ rl, rawSz x) := hzr.2
        have i0 : (0 : Int) ≤ (y : Int) := by omega
        have i1 : (y : Int) < (n : Int) := by omega
        clear hra hrb hca hzr hI HB HG
        by_cases hrl : rl.length = n
        · rw [hrl] at c1
          generalize hvv : vraw (g, nn, dd) = vv at *
          replace hvv := Lib.hid hvv
          cases vv
          · have hres := Lib.hid (HBy.out (.inr rfl))
            go_wp2_with fail
            refine (kv.out _).mono ?_
            rintro e w2 ⟨rfl, hb2⟩
            have hB2 := Lib.hid (hBr.out.trans (hb2.mono hBr.out.size))
            clear hb2
            go_wp2
            go_ret
            exact ⟨by rw [hres.out]; rfl, hB2.out⟩
          · go_wp2_with fail
            refine (kv.out _).mono ?_
            rintro e w2 ⟨rfl, hb2⟩
            have hB2 := Lib.hid (hBr.out.trans (hb2.mono hBr.out.size))
            have c2 := (hb2.cell (p := ⟨ba, oa + y, none⟩) (Nat.lt_of_lt_of_le hba hBr.out.size)).trans c1
            clear hb2 c1 f1 f2 f3
            go_wp2
            go_loopw [6] (fun j wz => ∃ z : Nat, z ≤ n ∧ j = .int .i64 (z : Int) ∧ Hid (Below w2.heap.size w2 wz) ∧ Hid (∀ j (hj : j < rl.length), j < z → vraw rl[j] = true)) (fun j _ => n - (intOf j).toNat)
            case atStart => exact ⟨0, Nat.zero_le _, rfl, Below.refl _ _, fun j _ h => absurd h (by omega)⟩
            case round =>
              obtain ⟨z, hz, rfl, hBz, hJ⟩ := hrel
              have c3 := (hBz.out.cell (p := ⟨ba, oa + y, none⟩) (Nat.lt_of_lt_of_le hba hB2.out.size)).trans c2
              by_cases hlz : z < n
              · have hz1 : z < rl.length := by omega
                obtain ⟨bx, ox, rfl, hbx, f1, f2, f3⟩ := hr.out.at hz1
                have kw := validv_any rl[z] (hsz.out _ (List.getElem_mem hz1))
                have hbad : Hid (vraw rl[z] = false → rowOk n rl = false) := fun h => by
                  unfold rowOk
                  have : allV rl = false := by unfold allV; rw [List.all_eq_false]; exact ⟨rl[z], List.getElem_mem hz1, by rw [h]; simp⟩
                  rw [this]; simp
                have hJ2 : Hid (vraw rl[z] = true → ∀ j (hj : j < rl.length), j < z + 1 → vraw rl[j] = true) := fun h j hj h3 => by
                  by_cases e : j = z
                  · subst e; exact h
                  · exact hJ.out j hj (by omega)
                obtain ⟨rb, hrb⟩ : ∃ x, x = rl[z] := ⟨_, rfl⟩
                rw [← hrb] at f1 f2 f3 kw hbad hJ2
                obtain ⟨g2, nn2, dd2⟩ := rb
                have q : ∀ o, wr.cell? ⟨bx, o, none⟩ = w.cell? ⟨bx, o, none⟩ := fun o => (hBz.out.cell (p := ⟨bx, o, none⟩) (Nat.lt_of_lt_of_le hbx hB2.out.size)).trans (hB2.out.cell (p := ⟨bx, o, none⟩) hbx)
                replace f1 : wr.cell? ⟨bx, ox + z * 3, none⟩ = some (.bool g2) := (q _).trans f1
                replace f2 : wr.cell? ⟨bx, ox + z * 3 + 1, none⟩ = some (.string nn2) := (q _).trans f2
                replace f3 : wr.cell? ⟨bx, ox + z * 3 + 2, none⟩ = some (.string dd2) := (q _).trans f3
                replace kw : Hid (∀ W, Calls Tryz.prog 49 #[.agg #[.bool g2, .string nn2, .string dd2]] W fun e w' => e = .returned (.bool (vraw (g2, nn2, dd2))) ∧ Below W.heap.size W w') := kw
                have j0 : (0 : Int) ≤ (z : Int) := by omega
                have j1 : (z : Int) < (n : Int) := by omega
                clear hrb q hJ c2
                have hBw := Lib.hid (hB2.out.trans (hBz.out.mono hB2.out.size))
                generalize vraw (g2, nn2, dd2) = v2 at *
                cases v2
                · have hres := Lib.hid (HBy.out (.inl (hbad.out rfl)))
                  go_wp2_with fail
                  refine (kw.out _).mono ?_
                  rintro e w3 ⟨rfl, hb3⟩
                  have hB3 := Lib.hid (hBw.out.trans (hb3.mono hBw.out.size))
                  clear hb3
                  go_wp2
                  go_ret
                  exact ⟨by rw [hres.out]; rfl, hB3.out⟩
                · have hJ3 := Lib.hid (hJ2.out rfl)
                  go_wp2_with fail
                  refine (kw.out _).mono ?_
                  rintro e w3 ⟨rfl, hb3⟩
                  have hB3 := Lib.hid (hBz.out.trans (hb3.mono hBz.out.size))
                  clear hb3
                  go_wp2
                  go_roundw
                  case rel => exact ⟨z + 1, by omega, by go_num, hB3, hJ3⟩
                  case measure => simp [intOf]; omega
              · obtain rfl : z = n := by omega
                have hI2 := Lib.hid (HIy.out (rowOk_iff.2 ⟨hrl, allV_iff.2 fun j hj => hJ.out j hj (by omega)⟩) (by trivial))
                have hBw := Lib.hid (hB2.out.trans (hBz.out.mono hB2.out.size))
                clear c2 hJ
                go_wp2
                go_roundw
                case rel => exact ⟨y + 1, by omega, by go_num, hBw, hI2⟩
                case measure => simp [intOf]; omega
        · have t1 : ((rl.length : Int) == (n : Int)) = false := by rw [beq_eq_false_iff_ne]; omega
          have t2 : ((rl.length : Int) != (n : Int)) = true := by rw [bne_iff_ne]; omega
          have t3 : (rl.length == n) = false := by rw [beq_eq_false_iff_ne]; exact hrl
          have hres := Lib.hid (HBy.out (.inl (by unfold rowOk; simp [hrl])))
          go_wp2
          go_ret
          exact ⟨by rw [hres.out]; rfl, hBr.out⟩
      · obtain rfl : y = n := by omega
        have hres := Lib.hid (HG.out fun i hi hj => hI.out i hi hj (by rw [← hlb.out]; exact hj))
        go_wp2
        go_ret
        exact ⟨by rw [hres.out]; rfl, hBr.out⟩
  · have hr : Hid (refvB (rowsOf la) lb = false) := by unfold Hid refvB; rw [rowsOf_length, decide_eq_false hl]; simp
    have t1 : ((la.length : Int) == (lb.length : Int)) = false := by rw [beq_eq_false_iff_ne]; omega
    have t2 : ((la.length : Int) != (lb.length : Int)) = true := by rw [bne_iff_ne]; omega
    have t3 : (la.length == lb.length) = false := by rw [beq_eq_false_iff_ne]; exact hl
    have t4 : ¬ la.length = lb.length := hl
    clear hs hl
    go_enter Tryz.func34, Tryz.ntmps34
    go_wp2
    go_ret
    exact ⟨by rw [hr.out]; rfl, Below.refl _ _⟩
end Nt
end Go.Proofs.YtjjlnahipiinfaaGreatDoor

namespace Go.Proofs.YtjjlnahipiinfaaGreatDoor
open Go.RowKit Go.Shelf
namespace Nt

/-- The first m rows of the matrix are laid; each is a slice of the call's own. -/
structure MatV (W : World) (B R n m : Nat) (v : Nat → Value) (M : Mx) : Prop where
  lt : R < W.heap.size
  ex : ∀ i, i < n → ∃ u, W.cell? ⟨R, i, none⟩ = some u
  hd : ∀ i, i < m → W.cell? ⟨R, i, none⟩ = some (v i)
  fr : ∀ i, W.frozen? ⟨R, i, none⟩ = false
  rows : ∀ i, i < m → W.ownsRow B 31 3 (v i) (n + 1) (rowL (n + 1) fun j => rq (M i j))
  apart : ∀ i j, i < m → j < m → i ≠ j → Apart (v i) (v j)
  ne : ∀ i, i < m → (v i).ownBlock ≠ some R
  lowR : B ≤ R
/-- One entry turned. -/
def setM (i j : Nat) (q : Rat) (M : Mx) : Mx := fun a b => if a = i ∧ b = j then q else M a b
def swapV (k p : Nat) (v : Nat → Value) : Nat → Value := fun i => if i = k then v p else if i = p then v k else v i
section
variable {W W' : World} {B R n m : Nat} {v : Nat → Value} {M : Mx}
theorem MatV.below (h : MatV W B R n m v M) (hb : Below W.heap.size W W') : MatV W' B R n m v M :=
  ⟨Nat.lt_of_lt_of_le h.lt hb.size, fun i hi => by obtain ⟨u, hu⟩ := h.ex i hi; exact ⟨u, (hb.cell (p := ⟨R, i, none⟩) h.lt).trans hu⟩, fun i hi => (hb.cell (p := ⟨R, i, none⟩) h.lt).trans (h.hd i hi), fun i => (hb.frozen (p := ⟨R, i, none⟩) h.lt).trans (h.fr i),
   fun i hi => own_below (h.rows i hi) hb, h.apart, h.ne, h.lowR⟩
theorem MatV.alloc (h : MatV W B R n m v M) (o : Obj) : MatV (W.alloc o) B R n m v M := h.below ((Below.refl _ W).alloc (Nat.le_refl _) o)
theorem MatV.drew (h : MatV W B R n m v M) : MatV W.drew B R n m v M := h.below (Below.refl _ W).drew
theorem MatV.drewN (h : MatV W B R n m v M) (q : Nat) : MatV (W.drewN q) B R n m v M := h.below (blw_drewN (Below.refl _ W) q)
theorem MatV.congr (h : MatV W B R n m v M) {M' : Mx} (e : ∀ i j, i < m → j ≤ n → M i j = M' i j) : MatV W B R n m v M' :=
  ⟨h.lt, h.ex, h.hd, h.fr, fun i hi => by
    have := h.rows i hi
    rwa [rowL_congr (s := fun j => rq (M' i j)) fun j hj => by rw [e i j hi (by omega)]] at this, h.apart, h.ne, h.lowR⟩
/-- A store into a block of another. -/
theorem MatV.far (h : MatV W B R n m v M) {g o : Nat} (hR : g ≠ R) (hg : ∀ i, i < m → (v i).ownBlock ≠ some g) (u : Value) : MatV (W.setCell ⟨g, o, none⟩ u) B R n m v M := by
  have hc : ∀ i, (W.setCell ⟨g, o, none⟩ u).cell? ⟨R, i, none⟩ = W.cell? ⟨R, i, none⟩ := fun i => World.cell?_setCell_other _ _ _ _ (by intro e; injection e with e1; first | exact hR e1 | exact hR e1.symm)
  exact ⟨by simpa using h.lt, fun i hi => by rw [hc]; exact h.ex i hi, fun i hi => by rw [hc]; exact h.hd i hi, fun i => by simpa using h.fr i, fun i hi => own_far (h.rows i hi) (hg i hi), h.apart, h.ne, h.lowR⟩
theorem MatV.form (h : MatV W B R n m v M) {i : Nat} (hi : i < m) : ∃ g cap, v i = .slice (some ⟨g, 0, none⟩) (n + 1) cap ∧ B ≤ g ∧ g < W.heap.size ∧ g ≠ R ∧ (∀ j, W.frozen? ⟨g, j, none⟩ = false) ∧
    ∀ j, j ≤ n → W.cell? ⟨g, j * 3, none⟩ = some (.bool (rq (M i j)).1) ∧ W.cell? ⟨g, j * 3 + 1, none⟩ = some (.string (rq (M i j)).2.1) ∧ W.cell? ⟨g, j * 3 + 2, none⟩ = some (.string (rq (M i j)).2.2) := by
  obtain ⟨g, cap, e, h1, h2, h3, h4⟩ := own_form (h.rows i hi) (by omega)
  refine ⟨g, cap, e, h1, h2, fun eR => h.ne i hi (by rw [e, eR]; rfl), h3, fun j hj => ⟨h4 _ _ ?_, h4 _ _ ?_, h4 _ _ ?_⟩⟩
  · exact rowL_get _ (by omega) 0 (by omega)
  · exact rowL_get _ (by omega) 1 (by omega)
  · exact rowL_get _ (by omega) 2 (by omega)
/-- A number is stored. -/
theorem MatV.store (h : MatV W B R n m v M) {i j g cap : Nat} (hi : i < m) (hj : j ≤ n) (e : v i = .slice (some ⟨g, 0, none⟩) (n + 1) cap) (q : Rat) :
    MatV (((W.setCell ⟨g, j * 3, none⟩ (.bool (rq q).1)).setCell ⟨g, j * 3 + 1, none⟩ (.string (rq q).2.1)).setCell ⟨g, j * 3 + 2, none⟩ (.string (rq q).2.2)) B R n m v (setM i j q M) := by
  have hR : g ≠ R := fun eR => h.ne i hi (by rw [e, eR]; rfl)
  have hc : ∀ V o u a, (World.setCell V ⟨g, o, none⟩ u).cell? ⟨R, a, none⟩ = V.cell? ⟨R, a, none⟩ := fun V o u a => World.cell?_setCell_other _ _ _ _ (by intro e; injection e with e1; first | exact hR e1 | exact hR e1.symm)
  refine ⟨by simpa using h.lt, fun a ha => by rw [hc, hc, hc]; exact h.ex a ha, fun a ha => by rw [hc, hc, hc]; exact h.hd a ha, fun a => by simpa using h.fr a, fun a ha => ?_, h.apart, h.ne, h.lowR⟩
  by_cases ea : a = i
  · subst ea
    have k := h.rows a ha
    rw [e] at k ⊢
    have k2 := own_set (i := j * 3 + 2) (v := .string (rq q).2.2) (own_set (i := j * 3 + 1) (v := .string (rq q).2.1) (own_set (i := j * 3) (v := .bool (rq q).1) k))
    rw [rowL_set _ (by omega) (rq q)] at k2
    rwa [rowL_congr (s := fun b => rq (setM a j q M a b)) fun b hb => by
      show _ = rq (setM a j q M a b)
      unfold setM
      by_cases eb : b = j
      · rw [if_pos eb, if_pos ⟨rfl, eb⟩]
      · rw [if_neg eb, if_neg fun h => eb h.2]] at k2
  · have hg : (v a).ownBlock ≠ some g := fun e2 => h.apart i a hi ha (fun e3 => ea e3.symm) g (by rw [e]; rfl) e2
    have k2 := own_far (i := j * 3 + 2) (v := .string (rq q).2.2) (own_far (i := j * 3 + 1) (v := .string (rq q).2.1) (own_far (i := j * 3) (v := .bool (rq q).1) (h.rows a ha) hg) hg) hg
    have em : (fun b => rq (setM i j q M a b)) = fun b => rq (M a b) := by
      funext b
      unfold setM
      rw [if_neg fun h => ea h.1]
    rw [em]
    exact k2
theorem MatV.swap (h : MatV W B R n m v M) {k p : Nat} (hk : k < m) (hp : p < m) :
    MatV ((W.setCell ⟨R, p, none⟩ (v k)).setCell ⟨R, k, none⟩ (v p)) B R n m (swapV k p v) (swapR k p M) := by
  have hne : ∀ x y : Nat, x ≠ y → (⟨R, x, none⟩ : Addr) ≠ ⟨R, y, none⟩ := fun x y e1 e2 => by injection e2 with _ e3; exact e1 e3
  have c1 : ∀ i, i < m → (W.setCell ⟨R, p, none⟩ (v k)).cell? ⟨R, i, none⟩ = some (if i = p then v k else v i) := fun i hi => by
    by_cases e : i = p
    · subst e; rw [if_pos rfl]; exact World.cell?_setCell_same W _ _ (h.hd i hi)
    · rw [if_neg e, World.cell?_setCell_other _ _ _ _ (by first | exact hne _ _ e | exact hne _ _ fun x => e x.symm)]; exact h.hd i hi
  have c2 : ∀ i, i < m → ((W.setCell ⟨R, p, none⟩ (v k)).setCell ⟨R, k, none⟩ (v p)).cell? ⟨R, i, none⟩ = some (swapV k p v i) := fun i hi => by
    unfold swapV
    by_cases e : i = k
    · subst e; rw [if_pos rfl]; exact World.cell?_setCell_same _ _ _ (c1 i hi)
    · rw [if_neg e, World.cell?_setCell_other _ _ _ _ (by first | exact hne _ _ e | exact hne _ _ fun x => e x.symm)]; exact c1 i hi
  have so : ∀ (V : World) (x : Nat) (u : Value), (∀ i, i < n → ∃ u, V.cell? ⟨R, i, none⟩ = some u) → ∀ i, i < n → ∃ u', (V.setCell ⟨R, x, none⟩ u).cell? ⟨R, i, none⟩ = some u' := fun V x u hV i hi => by
    obtain ⟨y, hy⟩ := hV i hi
    by_cases e : i = x
    · subst e; exact ⟨u, World.cell?_setCell_same _ _ _ hy⟩
    · exact ⟨y, by rw [World.cell?_setCell_other _ _ _ _ (by first | exact hne _ _ e | exact hne _ _ fun x => e x.symm)]; exact hy⟩
  have sw : ∀ i, i < m → swapV k p v i = v (if i = k then p else if i = p then k else i) ∧ swapR k p M i = M (if i = k then p else if i = p then k else i) ∧ (if i = k then p else if i = p then k else i) < m := fun i hi => by
    unfold swapV swapR
    split
    · exact ⟨rfl, rfl, hp⟩
    · split
      · exact ⟨rfl, rfl, hk⟩
      · exact ⟨rfl, rfl, hi⟩
  refine ⟨by simpa using h.lt, so _ _ _ (so _ _ _ h.ex), c2, fun i => by simpa using h.fr i, fun i hi => ?_, fun i j hi hj e => ?_, fun i hi => ?_, h.lowR⟩
  · obtain ⟨e1, e2, e3⟩ := sw i hi
    rw [e1]
    simp only [e2]
    exact own_far (own_far (h.rows _ e3) (h.ne _ e3)) (h.ne _ e3)
  · rw [(sw i hi).1, (sw j hj).1]
    refine h.apart _ _ (sw i hi).2.2 (sw j hj).2.2 fun e2 => ?_
    revert e2
    split <;> split <;> (try split) <;> (try split) <;> omega
  · rw [(sw i hi).1]
    exact h.ne _ (sw i hi).2.2
theorem MatV.start (w : World) {B : Nat} (hB : B ≤ w.heap.size) (n : Nat) (v : Nat → Value) (M : Mx) : MatV (w.alloc (.cells (madeCells #[.slice none 0 0] n) 23)) B w.heap.size n 0 v M := by
  have h := heap_alloc_new w (.cells (madeCells #[(.slice none 0 0 : Value)] n) 23)
  refine ⟨by simp, fun x hx => ⟨.slice none 0 0, ?_⟩, fun x h => absurd h (by omega), fun x => by simp only [World.frozen?, h]; simp, fun x h => absurd h (by omega), fun x _ h => absurd h (by omega), fun x h => absurd h (by omega), hB⟩
  simp only [World.cell?, h]
  simp [madeCells, hx]
  rw [Nat.mod_one]
  rfl
/-- One more row. -/
theorem MatV.step (h : MatV W B R n m v M) (hm : m < n) (hb : Below W.heap.size W W') (hB : B ≤ W.heap.size) {x : Value} (hx : W'.ownsRow W.heap.size 31 3 x (n + 1) (rowL (n + 1) fun j => rq (M m j))) :
    MatV (W'.setCell ⟨R, m, none⟩ x) B R n (m + 1) (fun i => if i = m then x else v i) M := by
  have h2 := h.below hb
  have hxl : ∀ b, x.ownBlock = some b → W.heap.size ≤ b := fun b e => (hx.lt b e).1
  have hxR : x.ownBlock ≠ some R := fun e => by have := hxl R e; have := h.lt; omega
  have hvl : ∀ i, i < m → ∀ b, (v i).ownBlock = some b → b < W.heap.size := fun i hi b e => ((h.rows i hi).lt b e).2
  have hne : ∀ x y : Nat, x ≠ y → (⟨R, x, none⟩ : Addr) ≠ ⟨R, y, none⟩ := fun x y e1 e2 => by injection e2 with _ e3; exact e1 e3
  refine ⟨by simpa using h2.lt, fun i hi => ?_, fun i hi => ?_, fun i => by simpa using h2.fr i, fun i hi => ?_, fun i j hi hj e => ?_, fun i hi => ?_, h.lowR⟩
  · obtain ⟨y, hy⟩ := h2.ex i hi
    by_cases e : i = m
    · subst e; exact ⟨x, World.cell?_setCell_same _ _ _ hy⟩
    · exact ⟨y, by rw [World.cell?_setCell_other _ _ _ _ (by first | exact hne _ _ e | exact hne _ _ fun x => e x.symm)]; exact hy⟩
  · by_cases e : i = m
    · subst e
      rw [if_pos rfl]
      obtain ⟨y, hy⟩ := h2.ex i hm
      exact World.cell?_setCell_same _ _ _ hy
    · rw [if_neg e, World.cell?_setCell_other _ _ _ _ (by first | exact hne _ _ e | exact hne _ _ fun x => e x.symm)]; exact h2.hd i (by omega)
  · by_cases e : i = m
    · subst e
      rw [if_pos rfl]
      exact own_far (own_mono hB hx) hxR
    · rw [if_neg e]
      exact own_far (h2.rows i (by omega)) (h2.ne i (by omega))
  · by_cases e1 : i = m
    · have e2 : j ≠ m := fun e2 => e (by omega)
      rw [if_pos e1, if_neg e2]
      intro b hb1 hb2
      have := hxl b hb1
      have := hvl j (by omega) b hb2
      omega
    · rw [if_neg e1]
      by_cases e2 : j = m
      · rw [if_pos e2]
        intro b hb1 hb2
        have := hxl b hb2
        have := hvl i (by omega) b hb1
        omega
      · rw [if_neg e2]
        exact h.apart i j (by omega) (by omega) e
  · by_cases e : i = m
    · rw [if_pos e]; exact hxR
    · rw [if_neg e]; exact h.ne i (by omega)
end
/-- A row less a multiple of another, up to a column; a row divided, up to a column. -/
def subP (k i z : Nat) (M : Mx) : Mx := fun a b => if a = i ∧ k ≤ b ∧ b < z then M i b - M i k * M k b else M a b
def divP (k z : Nat) (M : Mx) : Mx := fun a b => if a = k ∧ k ≤ b ∧ b < z then M k b / M k k else M a b
theorem subP_start (k i : Nat) (M : Mx) : subP k i k M = M := by
  funext a b
  unfold subP
  rw [if_neg fun h => by omega]
theorem divP_start (k : Nat) (M : Mx) : divP k k M = M := by
  funext a b
  unfold divP
  rw [if_neg fun h => by omega]
theorem subP_step {k i z : Nat} (M : Mx) (hk : k ≤ z) : setM i z (M i z - M i k * M k z) (subP k i z M) = subP k i (z + 1) M := by
  funext a b
  unfold setM subP
  by_cases h1 : a = i
  · by_cases h2 : b = z
    · rw [if_pos ⟨h1, h2⟩, if_pos ⟨h1, by omega, by omega⟩, h2]
    · rw [if_neg fun h => h2 h.2]
      by_cases h3 : k ≤ b ∧ b < z
      · rw [if_pos ⟨h1, h3⟩, if_pos ⟨h1, h3.1, by omega⟩]
      · rw [if_neg fun h => h3 h.2, if_neg fun h => h3 ⟨h.2.1, by omega⟩]
  · rw [if_neg fun h => h1 h.1, if_neg fun h => h1 h.1, if_neg fun h => h1 h.1]
theorem divP_step {k z : Nat} (M : Mx) (hk : k ≤ z) : setM k z (M k z / M k k) (divP k z M) = divP k (z + 1) M := by
  funext a b
  unfold setM divP
  by_cases h1 : a = k
  · by_cases h2 : b = z
    · rw [if_pos ⟨h1, h2⟩, if_pos ⟨h1, by omega, by omega⟩, h2]
    · rw [if_neg fun h => h2 h.2]
      by_cases h3 : k ≤ b ∧ b < z
      · rw [if_pos ⟨h1, h3⟩, if_pos ⟨h1, h3.1, by omega⟩]
      · rw [if_neg fun h => h3 h.2, if_neg fun h => h3 ⟨h.2.1, by omega⟩]
  · rw [if_neg fun h => h1 h.1, if_neg fun h => h1 h.1, if_neg fun h => h1 h.1]
theorem subP_at {k i z b : Nat} (M : Mx) (h : z ≤ b) (a : Nat) : subP k i z M a b = M a b := by unfold subP; rw [if_neg fun h => by omega]
theorem subP_other {k i z a : Nat} (M : Mx) (h : a ≠ i) (b : Nat) : subP k i z M a b = M a b := by unfold subP; rw [if_neg fun h2 => h h2.1]
theorem divP_at {k z b : Nat} (M : Mx) (h : z ≤ b) (a : Nat) : divP k z M a b = M a b := by unfold divP; rw [if_neg fun h => by omega]
theorem subP_end {k i n : Nat} (M : Mx) (a b : Nat) (h : b ≤ n) : subP k i (n + 1) M a b = subR k i M a b := by
  unfold subP subR
  by_cases h1 : a = i ∧ k ≤ b
  · rw [if_pos ⟨h1.1, h1.2, by omega⟩, if_pos h1]
  · rw [if_neg fun h2 => h1 ⟨h2.1, h2.2.1⟩, if_neg h1]
theorem divP_end {k n : Nat} (M : Mx) (a b : Nat) (h : b ≤ n) : divP k (n + 1) M a b = divMx k M a b := by
  unfold divP divMx
  by_cases h1 : a = k ∧ k ≤ b
  · rw [if_pos ⟨h1.1, h1.2, by omega⟩, if_pos h1]
  · rw [if_neg fun h2 => h1 ⟨h2.1, h2.2.1⟩, if_neg h1]
end Nt
end Go.Proofs.YtjjlnahipiinfaaGreatDoor

namespace Go.Proofs.YtjjlnahipiinfaaGreatDoor
open Go.RowKit Go.Shelf
namespace Nt

/-- The loop j of the reference's Solve: 0 the laying, 1 the columns, 2 the search, 3 the quotients, 4 the rows, 5 the differences, 6 the result. -/
noncomputable def rbody (j : Nat) : Code := ((Tryz.f13.body.map loopsOf).bind fun l => l[j]?).getD .skip
theorem refstep (f p a : Rat) (hf : OkQ f) (hp : OkQ p) (ha : OkQ a) : ∃ (r1 r2 : Raw) (E1 E2 : Int),
    (∀ w, Calls Tryz.prog 36 #[rawV (rq f), rawV (rq p)] w fun e w' => e = .returned (.tuple #[rawV r1, .int .i64 E1]) ∧ Below w.heap.size w w') ∧
    (∀ w, Calls Tryz.prog 37 #[rawV (rq a), rawV r1] w fun e w' => e = .returned (.tuple #[rawV r2, .int .i64 E2]) ∧ Below w.heap.size w w') ∧
    ((E1 = 0 ∧ E2 = 0 ∧ r2 = rq (a - f * p) ∧ ShortQ f ∧ ShortQ p ∧ ShortQ a ∧ ShortQ (f * p)) ∨ ((E1 = 2 ∨ (E1 = 0 ∧ E2 = 2)) ∧ ¬ (ShortQ f ∧ ShortQ p ∧ ShortQ a ∧ ShortQ (f * p)))) := by
  by_cases h1 : ShortQ f ∧ ShortQ p
  · by_cases h2 : ShortQ a ∧ ShortQ (f * p)
    · exact ⟨rq (f * p), rq (a - f * p), 0, 0, fun w => RRMul_short f p h1.1 h1.2 w, fun w => RRSub_short a (f * p) h2.1 h2.2 w, .inl ⟨rfl, rfl, rfl, h1.1, h1.2, h2⟩⟩
    · exact ⟨rq (f * p), zraw, 0, 2, fun w => RRMul_short f p h1.1 h1.2 w, fun w => RRSub_long a (f * p) ha (okQ_mul h1.1 h1.2) h2 w, .inr ⟨.inr ⟨rfl, rfl⟩, fun h => h2 h.2.2⟩⟩
  · exact ⟨zraw, zraw, 2, 1, fun w => RRMul_long f p hf hp h1 w, fun w => RRSub_bad (rq a).1 false (rq a).2.1 (rq a).2.2 ⟨#[]⟩ ⟨#[]⟩ w (rawSz_rq ha).1 (rawSz_rq ha).2 (by decide) (by decide) (.inr (by unfold validB; rw [show isN ⟨#[]⟩ = false from rfl]; rfl)), .inr ⟨.inl rfl, fun h => h1 ⟨h.1, h.2.1⟩⟩⟩
theorem okSub_not {n k i t : Nat} {M : Mx} (h1 : k ≤ t) (h2 : t ≤ n) (h : ¬ (ShortQ (M i k) ∧ ShortQ (M k t) ∧ ShortQ (M i t) ∧ ShortQ (M i k * M k t))) : okSub SQ n k i M = false := by
  cases hc : okSub SQ n k i M with
  | false => rfl
  | true =>
    obtain ⟨a, b, c, d⟩ := (okSub_iff SQ).1 hc t h1 h2
    exact absurd ⟨of_decide_eq_true a, of_decide_eq_true b, of_decide_eq_true c, of_decide_eq_true d⟩ h
theorem far3 {W : World} {g a b c : Nat} {u1 u2 u3 : Value} {p : Addr} (h : p.block ≠ g) : (((W.setCell ⟨g, a, none⟩ u1).setCell ⟨g, b, none⟩ u2).setCell ⟨g, c, none⟩ u3).cell? p = W.cell? p := by
  have hc : ∀ V o u, (World.setCell V ⟨g, o, none⟩ u).cell? p = V.cell? p := fun V o u => World.cell?_setCell_other _ _ _ _ (by intro e; first | exact h (by rw [e]) | exact h (by rw [← e]))
  rw [hc, hc, hc]
/-- What holds ahead of column z of the row i. -/
def RSubRel (w : World) (R n k i fb : Nat) (v : Nat → Value) (M : Mx) (z : Nat) (wq : World) : Prop :=
  Hid (MatV wq w.heap.size R n n v (subP k i z M)) ∧ Hid (B3 wq fb (rq (M i k)).1 (rq (M i k)).2.1 (rq (M i k)).2.2) ∧ Hid (Below w.heap.size w wq) ∧ Hid (∀ b, k ≤ b → b < z → ShortQ (M i k) ∧ ShortQ (M k b) ∧ ShortQ (M i b) ∧ ShortQ (M i k * M k b))

set_option maxRecDepth 1000000 in
set_option maxHeartbeats 16000000 in
theorem sub_loop {c0 c1 c2 c3 c8 c10 c11 c12 c13 c14 c20 c21 c22 c23 c24 c25 c26 c27 c28 c29 c30 c31 c32 c33 c34 c35 c36 c37 c38 c39 c40 c41 c42 c43 c44 c45 c46 c47 c48 c49 c50 c51 c52 c53 c54 c55 c56 c57 c58 c59 c60 c61 c62 c63 c64 c65 c66 c67 c68 c69 c70 c71 c72 c73 c74 c75 c76 c77 c78 c79 c80 c81 c82 c83 c84 c85 c86 c87 c88 c89 c90 c91 c92 c93 c94 c95 c96 c97 c98 c99 c100 c101 c102 c103 c104 c105 c106 c107 c108 c109 c110 c111 c112 c113 c114 c115 c116 c117 c118 c119 c120 c121 c122 c123 c124 c125 c126 c127 c128 c129 c130 c131 c132 c133 c134 c135 c136 c137 c138 c139 c140 c141 c142 c143 c144 c187 c188 c189 c190 c191 c192 c193 c194 c195 c196 c197 c198 c199 c200 c201 c202 a4 a5 a18 a19 a145 a146 a147 a148 a149 a150 a151 a152 a153 a154 a155 a156 a157 a158 a159 a160 a161 a162 a163 a164 a165 a166 a167 a168 a169 a170 a171 a172 a173 a174 a175 a176 a177 a178 a179 a180 a181 a182 a183 a184 a185 a186 : Value} {Q : Exit → Act → World → Prop} (R n k i fb : Nat) (v : Nat → Value) (M : Mx) (w w0 : World) (hn8 : n ≤ 8) (hk : k < n) (hi : i < n) (hik : i ≠ k) (hO : ∀ a b, a < n → b ≤ n → OkQ (M a b)) (hfb : ∀ a, a < n → (v a).ownBlock ≠ some fb) (hst : RSubRel w R n k i fb v M k w0)
    (hx : ∀ (u4 u5 u18 u19 u145 u146 u147 u148 u149 u150 u151 u152 u153 u154 u155 u156 u157 u158 u159 u160 u161 u162 u163 u164 u165 u166 u167 u168 u169 u170 u171 u172 u173 u174 u175 u176 u177 u178 u179 u180 u181 u182 u183 u184 u185 u186 : Value) (wq : World), RSubRel w R n k i fb v M (n + 1) wq → Q (.exit 10) ⟨#[c0, c1, c2, c3, u4, u5, .int .i64 (n : Int), .slice (some ⟨R, 0, none⟩) n n, c8, .int .i64 (k : Int), c10, c11, c12, c13, c14, .int .i64 (i : Int), .pointer (some ⟨fb, 0, none⟩), .int .i64 ((n + 1 : Nat) : Int), u18, u19, c20, c21, c22, c23, c24, c25, c26, c27, c28, c29, c30, c31, c32, c33, c34, c35, c36, c37, c38, c39, c40, c41, c42, c43, c44, c45, c46, c47, c48, c49, c50, c51, c52, c53, c54, c55, c56, c57, c58, c59, c60, c61, c62, c63, c64, c65, c66, c67, c68, c69, c70, c71, c72, c73, c74, c75, c76, c77, c78, c79, c80, c81, c82, c83, c84, c85, c86, c87, c88, c89, c90, c91, c92, c93, c94, c95, c96, c97, c98, c99, c100, c101, c102, c103, c104, c105, c106, c107, c108, c109, c110, c111, c112, c113, c114, c115, c116, c117, c118, c119, c120, c121, c122, c123, c124, c125, c126, c127, c128, c129, c130, c131, c132, c133, c134, c135, c136, c137, c138, c139, c140, c141, c142, c143, c144, u145, u146, u147, u148, u149, u150, u151, u152, u153, u154, u155, u156, u157, u158, u159, u160, u161, u162, u163, u164, u165, u166, u167, u168, u169, u170, u171, u172, u173, u174, u175, u176, u177, u178, u179, u180, u181, u182, u183, u184, u185, u186, c187, c188, c189, c190, c191, c192, c193, c194, c195, c196, c197, c198, c199, c200, c201, c202], []⟩ wq)
    (hr : ∀ (u17 u18 u19 u145 u146 u147 u148 u149 u150 u151 u152 u153 u154 u155 u156 u157 u158 u159 u160 u161 u162 u163 u164 u165 u166 u167 u168 u169 u170 u171 u172 u173 u174 u175 u176 u177 u178 u179 u180 u181 u182 u183 u184 u185 u186 : Value) (wq : World), Below w.heap.size w wq → okSub SQ n k i M = false → Q .ret ⟨#[c0, c1, c2, c3, .slice none 0 0, .int .i64 2, .int .i64 (n : Int), .slice (some ⟨R, 0, none⟩) n n, c8, .int .i64 (k : Int), c10, c11, c12, c13, c14, .int .i64 (i : Int), .pointer (some ⟨fb, 0, none⟩), u17, u18, u19, c20, c21, c22, c23, c24, c25, c26, c27, c28, c29, c30, c31, c32, c33, c34, c35, c36, c37, c38, c39, c40, c41, c42, c43, c44, c45, c46, c47, c48, c49, c50, c51, c52, c53, c54, c55, c56, c57, c58, c59, c60, c61, c62, c63, c64, c65, c66, c67, c68, c69, c70, c71, c72, c73, c74, c75, c76, c77, c78, c79, c80, c81, c82, c83, c84, c85, c86, c87, c88, c89, c90, c91, c92, c93, c94, c95, c96, c97, c98, c99, c100, c101, c102, c103, c104, c105, c106, c107, c108, c109, c110, c111, c112, c113, c114, c115, c116, c117, c118, c119, c120, c121, c122, c123, c124, c125, c126, c127, c128, c129, c130, c131, c132, c133, c134, c135, c136, c137, c138, c139, c140, c141, c142, c143, c144, u145, u146, u147, u148, u149, u150, u151, u152, u153, u154, u155, u156, u157, u158, u159, u160, u161, u162, u163, u164, u165, u166, u167, u168, u169, u170, u171, u172, u173, u174, u175, u176, u177, u178, u179, u180, u181, u182, u183, u184, u185, u186, c187, c188, c189, c190, c191, c192, c193, c194, c195, c196, c197, c198, c199, c200, c201, c202], []⟩ wq) :
    Code.wp Tryz.prog (Code.loop (rbody 5)) Q ⟨#[c0, c1, c2, c3, a4, a5, .int .i64 (n : Int), .slice (some ⟨R, 0, none⟩) n n, c8, .int .i64 (k : Int), c10, c11, c12, c13, c14, .int .i64 (i : Int), .pointer (some ⟨fb, 0, none⟩), .int .i64 (k : Int), a18, a19, c20, c21, c22, c23, c24, c25, c26, c27, c28, c29, c30, c31, c32, c33, c34, c35, c36, c37, c38, c39, c40, c41, c42, c43, c44, c45, c46, c47, c48, c49, c50, c51, c52, c53, c54, c55, c56, c57, c58, c59, c60, c61, c62, c63, c64, c65, c66, c67, c68, c69, c70, c71, c72, c73, c74, c75, c76, c77, c78, c79, c80, c81, c82, c83, c84, c85, c86, c87, c88, c89, c90, c91, c92, c93, c94, c95, c96, c97, c98, c99, c100, c101, c102, c103, c104, c105, c106, c107, c108, c109, c110, c111, c112, c113, c114, c115, c116, c117, c118, c119, c120, c121, c122, c123, c124, c125, c126, c127, c128, c129, c130, c131, c132, c133, c134, c135, c136, c137, c138, c139, c140, c141, c142, c143, c144, a145, a146, a147, a148, a149, a150, a151, a152, a153, a154, a155, a156, a157, a158, a159, a160, a161, a162, a163, a164, a165, a166, a167, a168, a169, a170, a171, a172, a173, a174, a175, a176, a177, a178, a179, a180, a181, a182, a183, a184, a185, a186, c187, c188, c189, c190, c191, c192, c193, c194, c195, c196, c197, c198, c199, c200, c201, c202], []⟩ w0 := by
  conv => arg 2; arg 1; whnf
  conv => arg 4; zeta
  have hkn : k ≤ 8 := by omega
  replace hst := Lib.hid hst
  replace hx := Lib.hid hx
  replace hr := Lib.hid hr
  replace hO := Lib.hid hO
  replace hfb := Lib.hid hfb
  replace hik := Lib.hid hik
  go_loopw [17] (fun j wq => ∃ z : Nat, k ≤ z ∧ z ≤ n + 1 ∧ j = .int .i64 (z : Int) ∧ Hid (RSubRel w R n k i fb v M z wq)) (fun j _ => n + 1 - (intOf j).toNat)
  case atStart => exact ⟨k, Nat.le_refl _, by omega, rfl, hst.out⟩
  case round =>
    obtain ⟨z, hkz, hz, rfl, hI⟩ := hrel
    by_cases hlt : z ≤ n
    · obtain ⟨hM, hF, hBw0, hSh⟩ := hI.out
      clear hI
      obtain ⟨gk, ck, ek, bk1, bk2, bk3, bk4, bk5⟩ := hM.out.form hk
      obtain ⟨gi, ci, ei, bi1, bi2, bi3, bi4, bi5⟩ := hM.out.form hi
      obtain ⟨k1, k2, k3⟩ := bk5 z hlt
      obtain ⟨i1, i2, i3⟩ := bi5 z hlt
      rw [subP_other M (Ne.symm hik.out) z] at k1 k2 k3
      rw [subP_at M (Nat.le_refl z) i] at i1 i2 i3
      obtain ⟨r1, r2, E1, E2, km, ks, hcase⟩ := refstep (M i k) (M k z) (M i z) (hO.out i k hi (by omega)) (hO.out k z hk hlt) (hO.out i z hi hlt)
      obtain ⟨fg, fn, fd, hfq⟩ := raw_ex (M i k)
      obtain ⟨pg, pn, pd, hpq⟩ := raw_ex (M k z)
      obtain ⟨ag, an, ad, haq⟩ := raw_ex (M i z)
      have hF' := hF.out
      rw [hfq] at hF' km
      rw [hpq] at k1 k2 k3 km
      rw [haq] at i1 i2 i3 ks
      have f0 := hF'.facts
      have f7 := hF'.lt
      have hdk := (hM.out.hd k hk).trans (congrArg some ek)
      have hdi := (hM.out.hd i hi).trans (congrArg some ei)
      have hRl := hM.out.lt
      have HO : Hid (∀ W, Below wr.heap.size wr W → W.cell? ⟨R, k, none⟩ = some (.slice (some ⟨gk, 0, none⟩) (n + 1) ck) ∧ W.cell? ⟨R, i, none⟩ = some (.slice (some ⟨gi, 0, none⟩) (n + 1) ci) ∧ W.cell? ⟨gk, z * 3, none⟩ = some (.bool pg) ∧ W.cell? ⟨gk, z * 3 + 1, none⟩ = some (.string pn) ∧ W.cell? ⟨gk, z * 3 + 2, none⟩ = some (.string pd) ∧ W.cell? ⟨gi, z * 3, none⟩ = some (.bool ag) ∧ W.cell? ⟨gi, z * 3 + 1, none⟩ = some (.string an) ∧ W.cell? ⟨gi, z * 3 + 2, none⟩ = some (.string ad) ∧ W.cell? ⟨fb, 0, none⟩ = some (.bool fg) ∧ W.cell? ⟨fb, 1, none⟩ = some (.string fn) ∧ W.cell? ⟨fb, 2, none⟩ = some (.string fd)) := fun W h =>
        ⟨(h.cell (p := ⟨R, _, none⟩) hRl).trans hdk, (h.cell (p := ⟨R, _, none⟩) hRl).trans hdi, (h.cell (p := ⟨gk, _, none⟩) bk2).trans k1, (h.cell (p := ⟨gk, _, none⟩) bk2).trans k2, (h.cell (p := ⟨gk, _, none⟩) bk2).trans k3, (h.cell (p := ⟨gi, _, none⟩) bi2).trans i1, (h.cell (p := ⟨gi, _, none⟩) bi2).trans i2, (h.cell (p := ⟨gi, _, none⟩) bi2).trans i3, (h.cell (p := ⟨fb, _, none⟩) f7).trans f0.1, (h.cell (p := ⟨fb, _, none⟩) f7).trans f0.2.1, (h.cell (p := ⟨fb, _, none⟩) f7).trans f0.2.2.1⟩
      have hgf : Hid (fb ≠ gi) := fun e => hfb.out i hi (by rw [ei, e]; rfl)
      have hfr := Lib.hid bi4
      have hal := Lib.hid (show R < wr.heap.size ∧ gi < wr.heap.size ∧ fb < wr.heap.size ∧ w.heap.size ≤ gi ∧ gi ≠ R from ⟨hRl, bi2, f7, bi1, bi3⟩)
      have hvl : Hid (∀ a, a < n → ∀ b, (v a).ownBlock = some b → b < wr.heap.size) := fun a ha b hb => ((hM.out.rows a ha).lt b hb).2
      have j0 : (0 : Int) ≤ (z : Int) := by omega
      have j1 : (z : Int) < (n : Int) + 1 := by omega
      have j2 : (z : Int) ≤ (n : Int) := by omega
      have j3 : (0 : Int) ≤ (k : Int) := by omega
      have j4 : (k : Int) < (n : Int) := by omega
      have j5 : (0 : Int) ≤ (i : Int) := by omega
      have j6 : (i : Int) < (n : Int) := by omega
      obtain ⟨r1g, r1n, r1d⟩ := r1
      replace km : Hid (∀ w, Calls Tryz.prog 36 #[.agg #[.bool fg, .string fn, .string fd], .agg #[.bool pg, .string pn, .string pd]] w fun e w' => e = .returned (.tuple #[.agg #[.bool r1g, .string r1n, .string r1d], .int .i64 E1]) ∧ Below w.heap.size w w') := km
      replace ks : Hid (∀ w, Calls Tryz.prog 37 #[.agg #[.bool ag, .string an, .string ad], .agg #[.bool r1g, .string r1n, .string r1d]] w fun e w' => e = .returned (.tuple #[rawV r2, .int .i64 E2]) ∧ Below w.heap.size w w') := ks
      have hbw : Hid (Below wr.heap.size wr wr) := Below.refl _ _
      have hBw := hbw
      have hBa : Hid (Below wr.heap.size wr (wr.alloc (.cells #[.bool false, .string ⟨#[]⟩, .string ⟨#[]⟩] 31))) := (Below.refl _ _).alloc (Nat.le_refl _) _
      have hBd : Hid (Below wr.heap.size wr (wr.alloc (.cells #[.bool false, .string ⟨#[]⟩, .string ⟨#[]⟩] 31)).drew) := hBa.out.drew
      have hBe : Hid (Below wr.heap.size wr wr.drew) := hBw.out.drew
      have hxd : Hid (B3 (wr.alloc (.cells #[.bool false, .string ⟨#[]⟩, .string ⟨#[]⟩] 31)).drew wr.heap.size false ⟨#[]⟩ ⟨#[]⟩) := B3.new wr _ _ _
      clear hbw f0 f7 hF' k1 k2 k3 i1 i2 i3 bk1 bk2 bk3 bk4 bk5 bi1 bi2 bi3 bi4 bi5 hdk hdi hRl
      obtain ⟨p1, p2, p3, p4, p5, p6, p7, p8, p9, p10, p11⟩ := HO.out _ hBw.out
      rcases hcase with ⟨rfl, rfl, hr2, sh⟩ | ⟨hE12, hno⟩
      · replace hr2 := Lib.hid hr2
        replace sh := Lib.hid sh
        replace hfq := Lib.hid hfq
        replace hpq := Lib.hid hpq
        replace haq := Lib.hid haq
        obtain ⟨r2g, r2n, r2d⟩ := r2
        have hF2 : Hid (B3 wr fb (rq (M i k)).1 (rq (M i k)).2.1 (rq (M i k)).2.2) := hF
        go_wp2_with fail
        go_region_held3 (fun w' => w'.cell? ⟨R, k, none⟩ = some (.slice (some ⟨gk, 0, none⟩) (n + 1) ck) ∧ w'.cell? ⟨R, i, none⟩ = some (.slice (some ⟨gi, 0, none⟩) (n + 1) ci) ∧ w'.cell? ⟨gk, z * 3, none⟩ = some (.bool pg) ∧ w'.cell? ⟨gk, z * 3 + 1, none⟩ = some (.string pn) ∧ w'.cell? ⟨gk, z * 3 + 2, none⟩ = some (.string pd) ∧ w'.cell? ⟨gi, z * 3, none⟩ = some (.bool ag) ∧ w'.cell? ⟨gi, z * 3 + 1, none⟩ = some (.string an) ∧ w'.cell? ⟨gi, z * 3 + 2, none⟩ = some (.string ad) ∧ w'.cell? ⟨fb, 0, none⟩ = some (.bool fg) ∧ w'.cell? ⟨fb, 1, none⟩ = some (.string fn) ∧ w'.cell? ⟨fb, 2, none⟩ = some (.string fd)) (first | (with_reducible exact HO.out _ hBw.out) | (with_reducible exact HO.out _ hBe.out) | (with_reducible exact HO.out _ hBd.out) | (with_reducible exact HO.out _ hBa.out) | (with_reducible exact HO.out _ hB2.out) | (with_reducible exact HO.out _ (hB2.out.alloc hB2.out.size _)) | (with_reducible exact HO.out _ (((hB2.out.setCell (Nat.le_refl _) _).setCell (Nat.le_refl _) _).setCell (Nat.le_refl _) _)) | go_keep)
          (first
            | (go_at_call 36; refine (km.out _).mono ?_; rintro e w2 ⟨rfl, hb2⟩; have hx2 := Lib.hid (hxd.out.below hb2); have hB2 := Lib.hid (hBd.out.trans (hb2.mono hBd.out.size)); obtain ⟨y1, y2, y3, y4, y5, y6⟩ := hx2.out.facts; have y7 := hx2.out.lt; clear hb2)
            | (go_at_call 36; refine (km.out _).mono ?_; rintro e w2 ⟨rfl, hb2⟩; have hB2 := Lib.hid (hBe.out.trans (hb2.mono hBe.out.size)); clear hb2))
        all_goals (
          first
            | (obtain ⟨qb, hqb⟩ : ∃ b, b = w2.heap.size := ⟨_, rfl⟩; obtain ⟨w3, hw3⟩ : ∃ W, W = w2.alloc (.cells #[.bool r1g, .string r1n, .string r1d] 31) := ⟨_, rfl⟩; rw [← hw3, ← hqb]; have hx3 : Hid (B3 w3 qb r1g r1n r1d) := (by rw [hw3, hqb]; exact B3.new w2 _ _ _); have hB3 : Hid (Below wr.heap.size wr w3) := (by rw [hw3]; exact hB2.out.alloc hB2.out.size _); have hql : wr.heap.size ≤ qb := (by rw [hqb]; exact hB2.out.size))
            | (obtain ⟨qb, hqb⟩ : ∃ b, b = wr.heap.size := ⟨_, rfl⟩; obtain ⟨w3, hw3⟩ : ∃ W, W = ((w2.setCell ⟨wr.heap.size, 0, none⟩ (.bool r1g)).setCell ⟨wr.heap.size, 1, none⟩ (.string r1n)).setCell ⟨wr.heap.size, 2, none⟩ (.string r1d) := ⟨_, rfl⟩; rw [← hw3, ← hqb]; have hx3 : Hid (B3 w3 qb r1g r1n r1d) := (by rw [hw3, hqb]; exact ((hx2.out.set0 r1g).set1 r1n).set2 r1d); have hB3 : Hid (Below wr.heap.size wr w3) := (by rw [hw3]; exact ((hB2.out.setCell (Nat.le_refl _) _).setCell (Nat.le_refl _) _).setCell (Nat.le_refl _) _); have hql : wr.heap.size ≤ qb := (by rw [hqb]; exact Nat.le_refl _); clear hx2 y1 y2 y3 y4 y5 y6 y7)
          clear hw3 hqb hB2 hBe hBd hBa hxd km
          replace hql := Lib.hid hql
          obtain ⟨x1, x2, x3, x4, x5, x6⟩ := hx3.out.facts
          have x7 := hx3.out.lt
          clear p1 p2 p3 p4 p5 p6 p7 p8 p9 p10 p11
          obtain ⟨p1, p2, p3, p4, p5, p6, p7, p8, p9, p10, p11⟩ := HO.out _ hB3.out
          have hx3d : Hid (B3 w3.drew qb r1g r1n r1d) := hx3.out
          have hB3d : Hid (Below wr.heap.size wr w3.drew) := hB3.out.drew
          have xd1 : w3.drew.cell? ⟨qb, 0, none⟩ = some (.bool r1g) := x1
          have xd2 : w3.drew.cell? ⟨qb, 1, none⟩ = some (.string r1n) := x2
          have xd3 : w3.drew.cell? ⟨qb, 2, none⟩ = some (.string r1d) := x3
          go_wp2_with fail
          refine wp_region_noPanic ?_
          refine wp_region_held_drew (S := fun w' => w'.cell? ⟨R, k, none⟩ = some (.slice (some ⟨gk, 0, none⟩) (n + 1) ck) ∧ w'.cell? ⟨R, i, none⟩ = some (.slice (some ⟨gi, 0, none⟩) (n + 1) ci) ∧ w'.cell? ⟨gk, z * 3, none⟩ = some (.bool pg) ∧ w'.cell? ⟨gk, z * 3 + 1, none⟩ = some (.string pn) ∧ w'.cell? ⟨gk, z * 3 + 2, none⟩ = some (.string pd) ∧ w'.cell? ⟨gi, z * 3, none⟩ = some (.bool ag) ∧ w'.cell? ⟨gi, z * 3 + 1, none⟩ = some (.string an) ∧ w'.cell? ⟨gi, z * 3 + 2, none⟩ = some (.string ad) ∧ w'.cell? ⟨fb, 0, none⟩ = some (.bool fg) ∧ w'.cell? ⟨fb, 1, none⟩ = some (.string fn) ∧ w'.cell? ⟨fb, 2, none⟩ = some (.string fd)) (by kernel_rfl) (HO.out _ hB3d.out) (fun hHeld => ?_)
          refine wpAnyH_take (i := 0) (oi := _) (v := ?_) rfl (by kernel_rfl) (by kernel_rfl) (by kernel_rfl) (fun _ _ _ h => h) (Or.inl ⟨by rfl, ?_⟩) (by assumption) ?_
          rotate_left
          · (intro w hSw; (try dsimp only at hSw); (try obtain ⟨s1, s2, s3, s4, s5, s6, s7, s8, s9, s10, s11⟩ := hSw); go_simp <;> with_reducible rfl)
          try simp only [Act.put, List.setIfInBounds_toArray]
          refine wpAnyH_take (i := 1) (oi := _) (v := ?_) rfl (by kernel_rfl) (by kernel_rfl) (by kernel_rfl) (fun _ _ _ h => h) (Or.inl ⟨by rfl, ?_⟩) (by assumption) ?_
          rotate_left
          · (intro w hSw; (try dsimp only at hSw); (try obtain ⟨s1, s2, s3, s4, s5, s6, s7, s8, s9, s10, s11⟩ := hSw); go_simp <;> with_reducible rfl)
          try simp only [Act.put]
          refine wpAnyH_take (i := 2) (oi := _) (v := ?_) rfl (by kernel_rfl) (by kernel_rfl) (by kernel_rfl) (fun _ _ _ h => h) (Or.inl ⟨by rfl, ?_⟩) (by assumption) ?_
          rotate_left
          · (intro w hSw; (try dsimp only at hSw); (try obtain ⟨s1, s2, s3, s4, s5, s6, s7, s8, s9, s10, s11⟩ := hSw); go_simp <;> with_reducible rfl)
          try simp only [Act.put]
          refine wpAnyH_take (i := 3) (oi := _) (v := ?_) rfl (by kernel_rfl) (by kernel_rfl) (by kernel_rfl) (fun _ _ _ h => h) (Or.inl ⟨by rfl, ?_⟩) (by assumption) ?_
          rotate_left
          · (intro w hSw; (try dsimp only at hSw); (try obtain ⟨s1, s2, s3, s4, s5, s6, s7, s8, s9, s10, s11⟩ := hSw); go_simp <;> with_reducible rfl)
          try simp only [Act.put]
          refine wpAnyH_take (i := 4) (oi := _) (v := ?_) rfl (by kernel_rfl) (by kernel_rfl) (by kernel_rfl) (fun _ _ _ h => h) (Or.inl ⟨by rfl, ?_⟩) (by assumption) ?_
          rotate_left
          · (intro w hSw; (try dsimp only at hSw); (try obtain ⟨s1, s2, s3, s4, s5, s6, s7, s8, s9, s10, s11⟩ := hSw); go_simp <;> with_reducible rfl)
          try simp only [Act.put]
          refine wpAnyH_take (i := 5) (oi := _) (v := ?_) rfl (by kernel_rfl) (by kernel_rfl) (by kernel_rfl) (fun _ _ _ h => h) (Or.inl ⟨by rfl, ?_⟩) (by assumption) ?_
          rotate_left
          · (intro w hSw; (try dsimp only at hSw); (try obtain ⟨s1, s2, s3, s4, s5, s6, s7, s8, s9, s10, s11⟩ := hSw); go_simp <;> with_reducible rfl)
          try simp only [Act.put]
          refine wpAnyH_take (i := 6) (oi := _) (v := ?_) rfl (by kernel_rfl) (by kernel_rfl) (by kernel_rfl) (fun _ _ _ h => h) (Or.inl ⟨by rfl, ?_⟩) (by assumption) ?_
          rotate_left
          · (intro w hSw; (try dsimp only at hSw); (try obtain ⟨s1, s2, s3, s4, s5, s6, s7, s8, s9, s10, s11⟩ := hSw); go_simp <;> with_reducible rfl)
          try simp only [Act.put]
          refine wpAnyH_ready (rs := [7]) (by kernel_rfl) (by simp) ?_
          refine AllReadyH.cons (o := _) rfl (fun K hK => ?_) ?_
          · go_simp
            refine hK.out _ _ (by with_reducible exact HO.out _ hB3d.out) (fun hHeld2 => ?_)
            clear hK K hHeld
            have hHeld := hHeld2
            clear hHeld2
            try simp only [Act.put, List.setIfInBounds_toArray, List.set_cons_zero, List.set_cons_succ]
            refine wpAnyH_ready (rs := [8]) (by kernel_rfl) (by simp) ?_
            refine AllReadyH.cons (o := _) rfl (fun K hK => ?_) ?_
            · go_simp
              go_at_call 37
              refine (ks.out _).mono ?_
              rintro e w4 ⟨rfl, hb4⟩
              have hx4 := Lib.hid (hx3d.out.below hb4)
              have hB4 := Lib.hid (hB3d.out.trans (hb4.mono hB3d.out.size))
              obtain ⟨y1, y2, y3, y4, y5, y6⟩ := hx4.out.facts
              have y7 := hx4.out.lt
              clear hb4
              try go_wp2_with fail
              refine hK.out _ _ (by with_reducible exact HO.out _ hB4.out) (fun hHeld2 => ?_)
              clear hK K hHeld
              have hHeld := hHeld2
              clear hHeld2
              try simp only [Act.put, List.setIfInBounds_toArray, List.set_cons_zero, List.set_cons_succ]
              refine wpAnyH_take (i := 9) (oi := _) (v := ?_) rfl (by kernel_rfl) (by kernel_rfl) (by kernel_rfl) (fun _ _ _ h => h) (Or.inl ⟨by rfl, ?_⟩) (by assumption) ?_
              rotate_left
              · (intro w hSw; (try dsimp only at hSw); (try obtain ⟨s1, s2, s3, s4, s5, s6, s7, s8, s9, s10, s11⟩ := hSw); go_simp <;> with_reducible rfl)
              try simp only [Act.put, List.setIfInBounds_toArray]
              refine wpAnyH_take (i := 10) (oi := _) (v := ?_) rfl (by kernel_rfl) (by kernel_rfl) (by kernel_rfl) (fun _ _ _ h => h) (Or.inl ⟨by rfl, ?_⟩) (by assumption) ?_
              rotate_left
              · (intro w hSw; (try dsimp only at hSw); (try obtain ⟨s1, s2, s3, s4, s5, s6, s7, s8, s9, s10, s11⟩ := hSw); go_simp <;> with_reducible rfl)
              try simp only [Act.put]
              refine wpAnyH_take (i := 11) (oi := _) (v := ?_) rfl (by kernel_rfl) (by kernel_rfl) (by kernel_rfl) (fun _ _ _ h => h) (Or.inl ⟨by rfl, ?_⟩) (by assumption) ?_
              rotate_left
              · (intro w hSw; (try dsimp only at hSw); (try obtain ⟨s1, s2, s3, s4, s5, s6, s7, s8, s9, s10, s11⟩ := hSw); go_simp <;> with_reducible rfl)
              try simp only [Act.put]
              refine wpAnyH_ready (rs := [12]) (by kernel_rfl) (by simp) ?_
              refine AllReadyH.cons (o := _) rfl (fun K hK => ?_) ?_
              · go_simp
                refine hK.out _ _ (by with_reducible exact HO.out _ (((hB4.out.setCell hql.out _).setCell hql.out _).setCell hql.out _)) (fun hHeld2 => ?_)
                clear hK K hHeld
                have hHeld := hHeld2
                clear hHeld2
                try simp only [Act.put, List.setIfInBounds_toArray, List.set_cons_zero, List.set_cons_succ]
                refine wpAnyH_take (i := 13) (oi := _) (v := ?_) rfl (by kernel_rfl) (by kernel_rfl) (by kernel_rfl) (fun _ _ _ h => h) (Or.inl ⟨by rfl, ?_⟩) (by assumption) ?_
                rotate_left
                · (intro w hSw; (try dsimp only at hSw); (try obtain ⟨s1, s2, s3, s4, s5, s6, s7, s8, s9, s10, s11⟩ := hSw); go_simp <;> with_reducible rfl)
                try simp only [Act.put, List.setIfInBounds_toArray]
                refine wpAnyH_done (by kernel_rfl) ?_ _
                refine NoPanic.normal ?_
                clear hx3d hB3d hx3 hB3 x1 x2 x3 x4 x5 x6 x7 xd1 xd2 xd3
                have hx5 : Hid (B3 (((w4.setCell ⟨qb, 0, none⟩ (.bool r2g)).setCell ⟨qb, 1, none⟩ (.string r2n)).setCell ⟨qb, 2, none⟩ (.string r2d)) qb r2g r2n r2d) := ((hx4.out.set0 r2g).set1 r2n).set2 r2d
                have hB5 : Hid (Below wr.heap.size wr (((w4.setCell ⟨qb, 0, none⟩ (.bool r2g)).setCell ⟨qb, 1, none⟩ (.string r2n)).setCell ⟨qb, 2, none⟩ (.string r2d))) := (((hB4.out.setCell hql.out (p := ⟨qb, 0, none⟩) (.bool r2g)).setCell hql.out (p := ⟨qb, 1, none⟩) (.string r2n)).setCell hql.out (p := ⟨qb, 2, none⟩) (.string r2d))
                obtain ⟨w5, hw5⟩ : ∃ W, W = ((w4.setCell ⟨qb, 0, none⟩ (.bool r2g)).setCell ⟨qb, 1, none⟩ (.string r2n)).setCell ⟨qb, 2, none⟩ (.string r2d) := ⟨_, rfl⟩
                rw [← hw5] at hx5 hB5 ⊢
                clear hw5 hx4 hB4 y1 y2 y3 y4 y5 y6 y7
                obtain ⟨y1, y2, y3, y4, y5, y6⟩ := hx5.out.facts
                have y7 := hx5.out.lt
                obtain ⟨p1, p2, p3, p4, p5, p6, p7, p8, p9, p10, p11⟩ := HO.out _ hB5.out
                have hM5 := Lib.hid (hM.out.below hB5.out)
                have hF5 := Lib.hid (hF2.out.below hB5.out)
                have q7 : gi < w5.heap.size := Nat.lt_of_lt_of_le hal.out.2.1 hB5.out.size
                have q1 : w5.frozen? ⟨gi, z * 3, none⟩ = false := (hB5.out.frozen (p := ⟨gi, z * 3, none⟩) hal.out.2.1).trans (hfr.out _)
                have q2 : w5.frozen? ⟨gi, z * 3 + 1, none⟩ = false := (hB5.out.frozen (p := ⟨gi, z * 3 + 1, none⟩) hal.out.2.1).trans (hfr.out _)
                have q3 : w5.frozen? ⟨gi, z * 3 + 2, none⟩ = false := (hB5.out.frozen (p := ⟨gi, z * 3 + 2, none⟩) hal.out.2.1).trans (hfr.out _)
                have hqg : qb ≠ gi := Nat.ne_of_gt (Nat.lt_of_lt_of_le hal.out.2.1 hql.out)
                have hM6 : Hid (MatV (((w5.setCell ⟨gi, z * 3, none⟩ (.bool r2g)).setCell ⟨gi, z * 3 + 1, none⟩ (.string r2n)).setCell ⟨gi, z * 3 + 2, none⟩ (.string r2d)).drew w.heap.size R n n v (subP k i (z + 1) M)) := by
                  have h := hM5.out.store hi hlt ei (M i z - M i k * M k z)
                  rw [subP_step M hkz, ← hr2.out] at h
                  exact h.drew
                have hF6 : Hid (B3 (((w5.setCell ⟨gi, z * 3, none⟩ (.bool r2g)).setCell ⟨gi, z * 3 + 1, none⟩ (.string r2n)).setCell ⟨gi, z * 3 + 2, none⟩ (.string r2d)).drew fb (rq (M i k)).1 (rq (M i k)).2.1 (rq (M i k)).2.2) := ((B3.other (W := w5) (p := ⟨gi, z * 3, none⟩) hF5.out hgf.out _).other (p := ⟨gi, z * 3 + 1, none⟩) hgf.out _).other (p := ⟨gi, z * 3 + 2, none⟩) hgf.out _
                have hB6 : Hid (Below w.heap.size w (((w5.setCell ⟨gi, z * 3, none⟩ (.bool r2g)).setCell ⟨gi, z * 3 + 1, none⟩ (.string r2n)).setCell ⟨gi, z * 3 + 2, none⟩ (.string r2d)).drew) := ((((hBw0.out.trans (hB5.out.mono hBw0.out.size)).setCell (p := ⟨gi, z * 3, none⟩) hal.out.2.2.2.1 _).setCell (p := ⟨gi, z * 3 + 1, none⟩) hal.out.2.2.2.1 _).setCell (p := ⟨gi, z * 3 + 2, none⟩) hal.out.2.2.2.1 _).drew
                have hSh6 : Hid (∀ b, k ≤ b → b < z + 1 → ShortQ (M i k) ∧ ShortQ (M k b) ∧ ShortQ (M i b) ∧ ShortQ (M i k * M k b)) := fun b h1 h2 => by
                  by_cases e : b = z
                  · rw [e]; exact sh.out
                  · exact hSh.out b h1 (by omega)
                have hS6 : Hid ((((w5.setCell ⟨gi, z * 3, none⟩ (.bool r2g)).setCell ⟨gi, z * 3 + 1, none⟩ (.string r2n)).setCell ⟨gi, z * 3 + 2, none⟩ (.string r2d)).drew.cell? ⟨R, i, none⟩ = some (.slice (some ⟨gi, 0, none⟩) (n + 1) ci) ∧ (((w5.setCell ⟨gi, z * 3, none⟩ (.bool r2g)).setCell ⟨gi, z * 3 + 1, none⟩ (.string r2n)).setCell ⟨gi, z * 3 + 2, none⟩ (.string r2d)).drew.cell? ⟨qb, 0, none⟩ = some (.bool r2g) ∧ (((w5.setCell ⟨gi, z * 3, none⟩ (.bool r2g)).setCell ⟨gi, z * 3 + 1, none⟩ (.string r2n)).setCell ⟨gi, z * 3 + 2, none⟩ (.string r2d)).drew.cell? ⟨qb, 1, none⟩ = some (.string r2n) ∧ (((w5.setCell ⟨gi, z * 3, none⟩ (.bool r2g)).setCell ⟨gi, z * 3 + 1, none⟩ (.string r2n)).setCell ⟨gi, z * 3 + 2, none⟩ (.string r2d)).drew.cell? ⟨qb, 2, none⟩ = some (.string r2d)) := by
                  exact ⟨(far3 (Ne.symm hal.out.2.2.2.2)).trans p2, (far3 hqg).trans y1, (far3 hqg).trans y2, (far3 hqg).trans y3⟩
                have hS5 : Hid (w5.cell? ⟨R, i, none⟩ = some (.slice (some ⟨gi, 0, none⟩) (n + 1) ci) ∧ w5.cell? ⟨qb, 0, none⟩ = some (.bool r2g) ∧ w5.cell? ⟨qb, 1, none⟩ = some (.string r2n) ∧ w5.cell? ⟨qb, 2, none⟩ = some (.string r2d)) := ⟨p2, y1, y2, y3⟩
                have hSd : Hid (w5.drew.cell? ⟨R, i, none⟩ = some (.slice (some ⟨gi, 0, none⟩) (n + 1) ci) ∧ w5.drew.cell? ⟨qb, 0, none⟩ = some (.bool r2g) ∧ w5.drew.cell? ⟨qb, 1, none⟩ = some (.string r2n) ∧ w5.drew.cell? ⟨qb, 2, none⟩ = some (.string r2d)) := ⟨p2, y1, y2, y3⟩
                clear hM5 hF5 hx5 hB5 hqg
                go_wp2_with fail
                go_region_held3 (fun w' => w'.cell? ⟨R, i, none⟩ = some (.slice (some ⟨gi, 0, none⟩) (n + 1) ci) ∧ w'.cell? ⟨qb, 0, none⟩ = some (.bool r2g) ∧ w'.cell? ⟨qb, 1, none⟩ = some (.string r2n) ∧ w'.cell? ⟨qb, 2, none⟩ = some (.string r2d)) (first | (with_reducible exact hS5.out) | (with_reducible exact hSd.out) | (with_reducible exact hS6.out) | go_keep) (fail)
                go_wp2
                go_roundw
                case rel => exact ⟨z + 1, by omega, by omega, by go_num, hM6, hF6, hB6, hSh6⟩
                case measure => simp [intOf]; omega
              exact AllReadyH.nil
            exact AllReadyH.nil
          exact AllReadyH.nil
          )
      · have hbad : Hid (okSub SQ n k i M = false) := okSub_not hkz hlt hno
        clear hno
        obtain ⟨r2g, r2n, r2d⟩ := r2
        rcases hE12 with rfl | ⟨rfl, rfl⟩
        · skip
          go_wp2_with fail
          go_region_held3 (fun w' => w'.cell? ⟨R, k, none⟩ = some (.slice (some ⟨gk, 0, none⟩) (n + 1) ck) ∧ w'.cell? ⟨R, i, none⟩ = some (.slice (some ⟨gi, 0, none⟩) (n + 1) ci) ∧ w'.cell? ⟨gk, z * 3, none⟩ = some (.bool pg) ∧ w'.cell? ⟨gk, z * 3 + 1, none⟩ = some (.string pn) ∧ w'.cell? ⟨gk, z * 3 + 2, none⟩ = some (.string pd) ∧ w'.cell? ⟨gi, z * 3, none⟩ = some (.bool ag) ∧ w'.cell? ⟨gi, z * 3 + 1, none⟩ = some (.string an) ∧ w'.cell? ⟨gi, z * 3 + 2, none⟩ = some (.string ad) ∧ w'.cell? ⟨fb, 0, none⟩ = some (.bool fg) ∧ w'.cell? ⟨fb, 1, none⟩ = some (.string fn) ∧ w'.cell? ⟨fb, 2, none⟩ = some (.string fd)) (first | (with_reducible exact HO.out _ hBw.out) | (with_reducible exact HO.out _ hBe.out) | (with_reducible exact HO.out _ hBd.out) | (with_reducible exact HO.out _ hBa.out) | (with_reducible exact HO.out _ hB2.out) | (with_reducible exact HO.out _ (hB2.out.alloc hB2.out.size _)) | (with_reducible exact HO.out _ (((hB2.out.setCell (Nat.le_refl _) _).setCell (Nat.le_refl _) _).setCell (Nat.le_refl _) _)) | go_keep)
            (first
              | (go_at_call 36; refine (km.out _).mono ?_; rintro e w2 ⟨rfl, hb2⟩; have hx2 := Lib.hid (hxd.out.below hb2); have hB2 := Lib.hid (hBd.out.trans (hb2.mono hBd.out.size)); obtain ⟨y1, y2, y3, y4, y5, y6⟩ := hx2.out.facts; have y7 := hx2.out.lt; clear hb2)
              | (go_at_call 36; refine (km.out _).mono ?_; rintro e w2 ⟨rfl, hb2⟩; have hB2 := Lib.hid (hBe.out.trans (hb2.mono hBe.out.size)); clear hb2))
          all_goals (
            first
              | (obtain ⟨qb, hqb⟩ : ∃ b, b = w2.heap.size := ⟨_, rfl⟩; obtain ⟨w3, hw3⟩ : ∃ W, W = w2.alloc (.cells #[.bool r1g, .string r1n, .string r1d] 31) := ⟨_, rfl⟩; rw [← hw3, ← hqb]; have hx3 : Hid (B3 w3 qb r1g r1n r1d) := (by rw [hw3, hqb]; exact B3.new w2 _ _ _); have hB3 : Hid (Below wr.heap.size wr w3) := (by rw [hw3]; exact hB2.out.alloc hB2.out.size _); have hql : wr.heap.size ≤ qb := (by rw [hqb]; exact hB2.out.size))
              | (obtain ⟨qb, hqb⟩ : ∃ b, b = wr.heap.size := ⟨_, rfl⟩; obtain ⟨w3, hw3⟩ : ∃ W, W = ((w2.setCell ⟨wr.heap.size, 0, none⟩ (.bool r1g)).setCell ⟨wr.heap.size, 1, none⟩ (.string r1n)).setCell ⟨wr.heap.size, 2, none⟩ (.string r1d) := ⟨_, rfl⟩; rw [← hw3, ← hqb]; have hx3 : Hid (B3 w3 qb r1g r1n r1d) := (by rw [hw3, hqb]; exact ((hx2.out.set0 r1g).set1 r1n).set2 r1d); have hB3 : Hid (Below wr.heap.size wr w3) := (by rw [hw3]; exact ((hB2.out.setCell (Nat.le_refl _) _).setCell (Nat.le_refl _) _).setCell (Nat.le_refl _) _); have hql : wr.heap.size ≤ qb := (by rw [hqb]; exact Nat.le_refl _); clear hx2 y1 y2 y3 y4 y5 y6 y7)
            clear hw3 hqb hB2 hBe hBd hBa hxd km
            replace hql := Lib.hid hql
            go_wp2
            apply hr.out
            · exact hBw0.out.trans (hB3.out.mono hBw0.out.size)
            · exact hbad.out
            )
        · skip
          go_wp2_with fail
          go_region_held3 (fun w' => w'.cell? ⟨R, k, none⟩ = some (.slice (some ⟨gk, 0, none⟩) (n + 1) ck) ∧ w'.cell? ⟨R, i, none⟩ = some (.slice (some ⟨gi, 0, none⟩) (n + 1) ci) ∧ w'.cell? ⟨gk, z * 3, none⟩ = some (.bool pg) ∧ w'.cell? ⟨gk, z * 3 + 1, none⟩ = some (.string pn) ∧ w'.cell? ⟨gk, z * 3 + 2, none⟩ = some (.string pd) ∧ w'.cell? ⟨gi, z * 3, none⟩ = some (.bool ag) ∧ w'.cell? ⟨gi, z * 3 + 1, none⟩ = some (.string an) ∧ w'.cell? ⟨gi, z * 3 + 2, none⟩ = some (.string ad) ∧ w'.cell? ⟨fb, 0, none⟩ = some (.bool fg) ∧ w'.cell? ⟨fb, 1, none⟩ = some (.string fn) ∧ w'.cell? ⟨fb, 2, none⟩ = some (.string fd)) (first | (with_reducible exact HO.out _ hBw.out) | (with_reducible exact HO.out _ hBe.out) | (with_reducible exact HO.out _ hBd.out) | (with_reducible exact HO.out _ hBa.out) | (with_reducible exact HO.out _ hB2.out) | (with_reducible exact HO.out _ (hB2.out.alloc hB2.out.size _)) | (with_reducible exact HO.out _ (((hB2.out.setCell (Nat.le_refl _) _).setCell (Nat.le_refl _) _).setCell (Nat.le_refl _) _)) | go_keep)
            (first
              | (go_at_call 36; refine (km.out _).mono ?_; rintro e w2 ⟨rfl, hb2⟩; have hx2 := Lib.hid (hxd.out.below hb2); have hB2 := Lib.hid (hBd.out.trans (hb2.mono hBd.out.size)); obtain ⟨y1, y2, y3, y4, y5, y6⟩ := hx2.out.facts; have y7 := hx2.out.lt; clear hb2)
              | (go_at_call 36; refine (km.out _).mono ?_; rintro e w2 ⟨rfl, hb2⟩; have hB2 := Lib.hid (hBe.out.trans (hb2.mono hBe.out.size)); clear hb2))
          all_goals (
            first
              | (obtain ⟨qb, hqb⟩ : ∃ b, b = w2.heap.size := ⟨_, rfl⟩; obtain ⟨w3, hw3⟩ : ∃ W, W = w2.alloc (.cells #[.bool r1g, .string r1n, .string r1d] 31) := ⟨_, rfl⟩; rw [← hw3, ← hqb]; have hx3 : Hid (B3 w3 qb r1g r1n r1d) := (by rw [hw3, hqb]; exact B3.new w2 _ _ _); have hB3 : Hid (Below wr.heap.size wr w3) := (by rw [hw3]; exact hB2.out.alloc hB2.out.size _); have hql : wr.heap.size ≤ qb := (by rw [hqb]; exact hB2.out.size))
              | (obtain ⟨qb, hqb⟩ : ∃ b, b = wr.heap.size := ⟨_, rfl⟩; obtain ⟨w3, hw3⟩ : ∃ W, W = ((w2.setCell ⟨wr.heap.size, 0, none⟩ (.bool r1g)).setCell ⟨wr.heap.size, 1, none⟩ (.string r1n)).setCell ⟨wr.heap.size, 2, none⟩ (.string r1d) := ⟨_, rfl⟩; rw [← hw3, ← hqb]; have hx3 : Hid (B3 w3 qb r1g r1n r1d) := (by rw [hw3, hqb]; exact ((hx2.out.set0 r1g).set1 r1n).set2 r1d); have hB3 : Hid (Below wr.heap.size wr w3) := (by rw [hw3]; exact ((hB2.out.setCell (Nat.le_refl _) _).setCell (Nat.le_refl _) _).setCell (Nat.le_refl _) _); have hql : wr.heap.size ≤ qb := (by rw [hqb]; exact Nat.le_refl _); clear hx2 y1 y2 y3 y4 y5 y6 y7)
            clear hw3 hqb hB2 hBe hBd hBa hxd km
            replace hql := Lib.hid hql
            obtain ⟨x1, x2, x3, x4, x5, x6⟩ := hx3.out.facts
            have x7 := hx3.out.lt
            clear p1 p2 p3 p4 p5 p6 p7 p8 p9 p10 p11
            obtain ⟨p1, p2, p3, p4, p5, p6, p7, p8, p9, p10, p11⟩ := HO.out _ hB3.out
            have hx3d : Hid (B3 w3.drew qb r1g r1n r1d) := hx3.out
            have hB3d : Hid (Below wr.heap.size wr w3.drew) := hB3.out.drew
            have xd1 : w3.drew.cell? ⟨qb, 0, none⟩ = some (.bool r1g) := x1
            have xd2 : w3.drew.cell? ⟨qb, 1, none⟩ = some (.string r1n) := x2
            have xd3 : w3.drew.cell? ⟨qb, 2, none⟩ = some (.string r1d) := x3
            go_wp2_with fail
            refine wp_region_noPanic ?_
            refine wp_region_held_drew (S := fun w' => w'.cell? ⟨R, k, none⟩ = some (.slice (some ⟨gk, 0, none⟩) (n + 1) ck) ∧ w'.cell? ⟨R, i, none⟩ = some (.slice (some ⟨gi, 0, none⟩) (n + 1) ci) ∧ w'.cell? ⟨gk, z * 3, none⟩ = some (.bool pg) ∧ w'.cell? ⟨gk, z * 3 + 1, none⟩ = some (.string pn) ∧ w'.cell? ⟨gk, z * 3 + 2, none⟩ = some (.string pd) ∧ w'.cell? ⟨gi, z * 3, none⟩ = some (.bool ag) ∧ w'.cell? ⟨gi, z * 3 + 1, none⟩ = some (.string an) ∧ w'.cell? ⟨gi, z * 3 + 2, none⟩ = some (.string ad) ∧ w'.cell? ⟨fb, 0, none⟩ = some (.bool fg) ∧ w'.cell? ⟨fb, 1, none⟩ = some (.string fn) ∧ w'.cell? ⟨fb, 2, none⟩ = some (.string fd)) (by kernel_rfl) (HO.out _ hB3d.out) (fun hHeld => ?_)
            refine wpAnyH_take (i := 0) (oi := _) (v := ?_) rfl (by kernel_rfl) (by kernel_rfl) (by kernel_rfl) (fun _ _ _ h => h) (Or.inl ⟨by rfl, ?_⟩) (by assumption) ?_
            rotate_left
            · (intro w hSw; (try dsimp only at hSw); (try obtain ⟨s1, s2, s3, s4, s5, s6, s7, s8, s9, s10, s11⟩ := hSw); go_simp <;> with_reducible rfl)
            try simp only [Act.put, List.setIfInBounds_toArray]
            refine wpAnyH_take (i := 1) (oi := _) (v := ?_) rfl (by kernel_rfl) (by kernel_rfl) (by kernel_rfl) (fun _ _ _ h => h) (Or.inl ⟨by rfl, ?_⟩) (by assumption) ?_
            rotate_left
            · (intro w hSw; (try dsimp only at hSw); (try obtain ⟨s1, s2, s3, s4, s5, s6, s7, s8, s9, s10, s11⟩ := hSw); go_simp <;> with_reducible rfl)
            try simp only [Act.put]
            refine wpAnyH_take (i := 2) (oi := _) (v := ?_) rfl (by kernel_rfl) (by kernel_rfl) (by kernel_rfl) (fun _ _ _ h => h) (Or.inl ⟨by rfl, ?_⟩) (by assumption) ?_
            rotate_left
            · (intro w hSw; (try dsimp only at hSw); (try obtain ⟨s1, s2, s3, s4, s5, s6, s7, s8, s9, s10, s11⟩ := hSw); go_simp <;> with_reducible rfl)
            try simp only [Act.put]
            refine wpAnyH_take (i := 3) (oi := _) (v := ?_) rfl (by kernel_rfl) (by kernel_rfl) (by kernel_rfl) (fun _ _ _ h => h) (Or.inl ⟨by rfl, ?_⟩) (by assumption) ?_
            rotate_left
            · (intro w hSw; (try dsimp only at hSw); (try obtain ⟨s1, s2, s3, s4, s5, s6, s7, s8, s9, s10, s11⟩ := hSw); go_simp <;> with_reducible rfl)
            try simp only [Act.put]
            refine wpAnyH_take (i := 4) (oi := _) (v := ?_) rfl (by kernel_rfl) (by kernel_rfl) (by kernel_rfl) (fun _ _ _ h => h) (Or.inl ⟨by rfl, ?_⟩) (by assumption) ?_
            rotate_left
            · (intro w hSw; (try dsimp only at hSw); (try obtain ⟨s1, s2, s3, s4, s5, s6, s7, s8, s9, s10, s11⟩ := hSw); go_simp <;> with_reducible rfl)
            try simp only [Act.put]
            refine wpAnyH_take (i := 5) (oi := _) (v := ?_) rfl (by kernel_rfl) (by kernel_rfl) (by kernel_rfl) (fun _ _ _ h => h) (Or.inl ⟨by rfl, ?_⟩) (by assumption) ?_
            rotate_left
            · (intro w hSw; (try dsimp only at hSw); (try obtain ⟨s1, s2, s3, s4, s5, s6, s7, s8, s9, s10, s11⟩ := hSw); go_simp <;> with_reducible rfl)
            try simp only [Act.put]
            refine wpAnyH_take (i := 6) (oi := _) (v := ?_) rfl (by kernel_rfl) (by kernel_rfl) (by kernel_rfl) (fun _ _ _ h => h) (Or.inl ⟨by rfl, ?_⟩) (by assumption) ?_
            rotate_left
            · (intro w hSw; (try dsimp only at hSw); (try obtain ⟨s1, s2, s3, s4, s5, s6, s7, s8, s9, s10, s11⟩ := hSw); go_simp <;> with_reducible rfl)
            try simp only [Act.put]
            refine wpAnyH_ready (rs := [7]) (by kernel_rfl) (by simp) ?_
            refine AllReadyH.cons (o := _) rfl (fun K hK => ?_) ?_
            · go_simp
              refine hK.out _ _ (by with_reducible exact HO.out _ hB3d.out) (fun hHeld2 => ?_)
              clear hK K hHeld
              have hHeld := hHeld2
              clear hHeld2
              try simp only [Act.put, List.setIfInBounds_toArray, List.set_cons_zero, List.set_cons_succ]
              refine wpAnyH_ready (rs := [8]) (by kernel_rfl) (by simp) ?_
              refine AllReadyH.cons (o := _) rfl (fun K hK => ?_) ?_
              · go_simp
                go_at_call 37
                refine (ks.out _).mono ?_
                rintro e w4 ⟨rfl, hb4⟩
                have hx4 := Lib.hid (hx3d.out.below hb4)
                have hB4 := Lib.hid (hB3d.out.trans (hb4.mono hB3d.out.size))
                obtain ⟨y1, y2, y3, y4, y5, y6⟩ := hx4.out.facts
                have y7 := hx4.out.lt
                clear hb4
                try go_wp2_with fail
                refine hK.out _ _ (by with_reducible exact HO.out _ hB4.out) (fun hHeld2 => ?_)
                clear hK K hHeld
                have hHeld := hHeld2
                clear hHeld2
                try simp only [Act.put, List.setIfInBounds_toArray, List.set_cons_zero, List.set_cons_succ]
                refine wpAnyH_take (i := 9) (oi := _) (v := ?_) rfl (by kernel_rfl) (by kernel_rfl) (by kernel_rfl) (fun _ _ _ h => h) (Or.inl ⟨by rfl, ?_⟩) (by assumption) ?_
                rotate_left
                · (intro w hSw; (try dsimp only at hSw); (try obtain ⟨s1, s2, s3, s4, s5, s6, s7, s8, s9, s10, s11⟩ := hSw); go_simp <;> with_reducible rfl)
                try simp only [Act.put, List.setIfInBounds_toArray]
                refine wpAnyH_take (i := 10) (oi := _) (v := ?_) rfl (by kernel_rfl) (by kernel_rfl) (by kernel_rfl) (fun _ _ _ h => h) (Or.inl ⟨by rfl, ?_⟩) (by assumption) ?_
                rotate_left
                · (intro w hSw; (try dsimp only at hSw); (try obtain ⟨s1, s2, s3, s4, s5, s6, s7, s8, s9, s10, s11⟩ := hSw); go_simp <;> with_reducible rfl)
                try simp only [Act.put]
                refine wpAnyH_take (i := 11) (oi := _) (v := ?_) rfl (by kernel_rfl) (by kernel_rfl) (by kernel_rfl) (fun _ _ _ h => h) (Or.inl ⟨by rfl, ?_⟩) (by assumption) ?_
                rotate_left
                · (intro w hSw; (try dsimp only at hSw); (try obtain ⟨s1, s2, s3, s4, s5, s6, s7, s8, s9, s10, s11⟩ := hSw); go_simp <;> with_reducible rfl)
                try simp only [Act.put]
                refine wpAnyH_ready (rs := [12]) (by kernel_rfl) (by simp) ?_
                refine AllReadyH.cons (o := _) rfl (fun K hK => ?_) ?_
                · go_simp
                  refine hK.out _ _ (by with_reducible exact HO.out _ (((hB4.out.setCell hql.out _).setCell hql.out _).setCell hql.out _)) (fun hHeld2 => ?_)
                  clear hK K hHeld
                  have hHeld := hHeld2
                  clear hHeld2
                  try simp only [Act.put, List.setIfInBounds_toArray, List.set_cons_zero, List.set_cons_succ]
                  refine wpAnyH_take (i := 13) (oi := _) (v := ?_) rfl (by kernel_rfl) (by kernel_rfl) (by kernel_rfl) (fun _ _ _ h => h) (Or.inl ⟨by rfl, ?_⟩) (by assumption) ?_
                  rotate_left
                  · (intro w hSw; (try dsimp only at hSw); (try obtain ⟨s1, s2, s3, s4, s5, s6, s7, s8, s9, s10, s11⟩ := hSw); go_simp <;> with_reducible rfl)
                  try simp only [Act.put, List.setIfInBounds_toArray]
                  refine wpAnyH_done (by kernel_rfl) ?_ _
                  refine NoPanic.normal ?_
                  clear hx3d hB3d hx3 hB3 x1 x2 x3 x4 x5 x6 x7 xd1 xd2 xd3
                  have hB5 := Lib.hid (((hB4.out.setCell hql.out (p := ⟨qb, 0, none⟩) (.bool r2g)).setCell hql.out (p := ⟨qb, 1, none⟩) (.string r2n)).setCell hql.out (p := ⟨qb, 2, none⟩) (.string r2d))
                  go_wp2
                  apply hr.out
                  · exact hBw0.out.trans (hB5.out.mono hBw0.out.size)
                  · exact hbad.out
                exact AllReadyH.nil
              exact AllReadyH.nil
            exact AllReadyH.nil
            )
    · obtain rfl : z = n + 1 := by omega
      go_wp2
      apply hx.out
      exact hI.out
end Nt
end Go.Proofs.YtjjlnahipiinfaaGreatDoor

namespace Go.Proofs.YtjjlnahipiinfaaGreatDoor
open Go.RowKit Go.Shelf
namespace Nt

theorem refdiv (a p : Rat) (ha : OkQ a) (hp : OkQ p) (h0 : p ≠ 0) : ∃ (r2 : Raw) (E1 : Int),
    (∀ w, Calls Tryz.prog 35 #[rawV (rq a), rawV (rq p)] w fun e w' => e = .returned (.tuple #[rawV r2, .int .i64 E1]) ∧ Below w.heap.size w w') ∧
    ((E1 = 0 ∧ r2 = rq (a / p) ∧ ShortQ a ∧ ShortQ p) ∨ (E1 = 2 ∧ ¬ (ShortQ a ∧ ShortQ p))) := by
  by_cases h1 : ShortQ a ∧ ShortQ p
  · exact ⟨rq (a / p), 0, fun w => RRDiv_short a p h1.1 h1.2 h0 w, .inl ⟨rfl, rfl, h1⟩⟩
  · exact ⟨zraw, 2, fun w => RRDiv_long a p ha hp h0 h1 w, .inr ⟨rfl, h1⟩⟩
theorem okDiv_not {n k t : Nat} {M : Mx} (h1 : k ≤ t) (h2 : t ≤ n) (h : ¬ (ShortQ (M k t) ∧ ShortQ (M k k))) : okDiv SQ n k M = false := by
  cases hc : okDiv SQ n k M with
  | false => rfl
  | true =>
    obtain ⟨a, b⟩ := (okDiv_iff SQ).1 hc t h1 h2
    exact absurd ⟨of_decide_eq_true a, of_decide_eq_true b⟩ h
/-- What holds ahead of column z of the pivot's row. -/
def RDivRel (w : World) (R n k pb : Nat) (v : Nat → Value) (M : Mx) (z : Nat) (wq : World) : Prop :=
  Hid (MatV wq w.heap.size R n n v (divP k z M)) ∧ Hid (B3 wq pb (rq (M k k)).1 (rq (M k k)).2.1 (rq (M k k)).2.2) ∧ Hid (Below w.heap.size w wq) ∧ Hid (∀ b, k ≤ b → b < z → ShortQ (M k b) ∧ ShortQ (M k k))

set_option maxRecDepth 1000000 in
set_option maxHeartbeats 16000000 in
theorem div_loop {c0 c1 c2 c3 c8 c10 c15 c16 c17 c18 c19 c20 c21 c22 c23 c24 c25 c26 c27 c28 c29 c30 c31 c32 c33 c34 c35 c36 c37 c38 c39 c40 c41 c42 c43 c44 c45 c46 c47 c48 c49 c50 c51 c52 c53 c54 c55 c56 c57 c58 c59 c60 c61 c62 c63 c64 c65 c66 c67 c68 c69 c70 c71 c72 c73 c74 c75 c76 c77 c78 c79 c80 c81 c82 c83 c84 c85 c86 c87 c88 c89 c90 c91 c92 c93 c94 c95 c96 c97 c125 c126 c127 c128 c129 c130 c131 c132 c133 c134 c135 c136 c137 c138 c139 c140 c141 c142 c143 c144 c145 c146 c147 c148 c149 c150 c151 c152 c153 c154 c155 c156 c157 c158 c159 c160 c161 c162 c163 c164 c165 c166 c167 c168 c169 c170 c171 c172 c173 c174 c175 c176 c177 c178 c179 c180 c181 c182 c183 c184 c185 c186 c187 c188 c189 c190 c191 c192 c193 c194 c195 c196 c197 c198 c199 c200 c201 c202 a4 a5 a13 a14 a98 a99 a100 a101 a102 a103 a104 a105 a106 a107 a108 a109 a110 a111 a112 a113 a114 a115 a116 a117 a118 a119 a120 a121 a122 a123 a124 : Value} {Q : Exit → Act → World → Prop} (R n k pb : Nat) (v : Nat → Value) (M : Mx) (w w0 : World) (hn8 : n ≤ 8) (hk : k < n) (hpv : M k k ≠ 0) (hO : ∀ a b, a < n → b ≤ n → OkQ (M a b)) (hpb : ∀ a, a < n → (v a).ownBlock ≠ some pb) (hst : RDivRel w R n k pb v M k w0)
    (hx : ∀ (u4 u5 u13 u14 u98 u99 u100 u101 u102 u103 u104 u105 u106 u107 u108 u109 u110 u111 u112 u113 u114 u115 u116 u117 u118 u119 u120 u121 u122 u123 u124 : Value) (wq : World), RDivRel w R n k pb v M (n + 1) wq → Q (.exit 6) ⟨#[c0, c1, c2, c3, u4, u5, .int .i64 (n : Int), .slice (some ⟨R, 0, none⟩) n n, c8, .int .i64 (k : Int), c10, .pointer (some ⟨pb, 0, none⟩), .int .i64 ((n + 1 : Nat) : Int), u13, u14, c15, c16, c17, c18, c19, c20, c21, c22, c23, c24, c25, c26, c27, c28, c29, c30, c31, c32, c33, c34, c35, c36, c37, c38, c39, c40, c41, c42, c43, c44, c45, c46, c47, c48, c49, c50, c51, c52, c53, c54, c55, c56, c57, c58, c59, c60, c61, c62, c63, c64, c65, c66, c67, c68, c69, c70, c71, c72, c73, c74, c75, c76, c77, c78, c79, c80, c81, c82, c83, c84, c85, c86, c87, c88, c89, c90, c91, c92, c93, c94, c95, c96, c97, u98, u99, u100, u101, u102, u103, u104, u105, u106, u107, u108, u109, u110, u111, u112, u113, u114, u115, u116, u117, u118, u119, u120, u121, u122, u123, u124, c125, c126, c127, c128, c129, c130, c131, c132, c133, c134, c135, c136, c137, c138, c139, c140, c141, c142, c143, c144, c145, c146, c147, c148, c149, c150, c151, c152, c153, c154, c155, c156, c157, c158, c159, c160, c161, c162, c163, c164, c165, c166, c167, c168, c169, c170, c171, c172, c173, c174, c175, c176, c177, c178, c179, c180, c181, c182, c183, c184, c185, c186, c187, c188, c189, c190, c191, c192, c193, c194, c195, c196, c197, c198, c199, c200, c201, c202], []⟩ wq)
    (hr : ∀ (u12 u13 u14 u98 u99 u100 u101 u102 u103 u104 u105 u106 u107 u108 u109 u110 u111 u112 u113 u114 u115 u116 u117 u118 u119 u120 u121 u122 u123 u124 : Value) (wq : World), Below w.heap.size w wq → okDiv SQ n k M = false → Q .ret ⟨#[c0, c1, c2, c3, .slice none 0 0, .int .i64 2, .int .i64 (n : Int), .slice (some ⟨R, 0, none⟩) n n, c8, .int .i64 (k : Int), c10, .pointer (some ⟨pb, 0, none⟩), u12, u13, u14, c15, c16, c17, c18, c19, c20, c21, c22, c23, c24, c25, c26, c27, c28, c29, c30, c31, c32, c33, c34, c35, c36, c37, c38, c39, c40, c41, c42, c43, c44, c45, c46, c47, c48, c49, c50, c51, c52, c53, c54, c55, c56, c57, c58, c59, c60, c61, c62, c63, c64, c65, c66, c67, c68, c69, c70, c71, c72, c73, c74, c75, c76, c77, c78, c79, c80, c81, c82, c83, c84, c85, c86, c87, c88, c89, c90, c91, c92, c93, c94, c95, c96, c97, u98, u99, u100, u101, u102, u103, u104, u105, u106, u107, u108, u109, u110, u111, u112, u113, u114, u115, u116, u117, u118, u119, u120, u121, u122, u123, u124, c125, c126, c127, c128, c129, c130, c131, c132, c133, c134, c135, c136, c137, c138, c139, c140, c141, c142, c143, c144, c145, c146, c147, c148, c149, c150, c151, c152, c153, c154, c155, c156, c157, c158, c159, c160, c161, c162, c163, c164, c165, c166, c167, c168, c169, c170, c171, c172, c173, c174, c175, c176, c177, c178, c179, c180, c181, c182, c183, c184, c185, c186, c187, c188, c189, c190, c191, c192, c193, c194, c195, c196, c197, c198, c199, c200, c201, c202], []⟩ wq) :
    Code.wp Tryz.prog (Code.loop (rbody 3)) Q ⟨#[c0, c1, c2, c3, a4, a5, .int .i64 (n : Int), .slice (some ⟨R, 0, none⟩) n n, c8, .int .i64 (k : Int), c10, .pointer (some ⟨pb, 0, none⟩), .int .i64 (k : Int), a13, a14, c15, c16, c17, c18, c19, c20, c21, c22, c23, c24, c25, c26, c27, c28, c29, c30, c31, c32, c33, c34, c35, c36, c37, c38, c39, c40, c41, c42, c43, c44, c45, c46, c47, c48, c49, c50, c51, c52, c53, c54, c55, c56, c57, c58, c59, c60, c61, c62, c63, c64, c65, c66, c67, c68, c69, c70, c71, c72, c73, c74, c75, c76, c77, c78, c79, c80, c81, c82, c83, c84, c85, c86, c87, c88, c89, c90, c91, c92, c93, c94, c95, c96, c97, a98, a99, a100, a101, a102, a103, a104, a105, a106, a107, a108, a109, a110, a111, a112, a113, a114, a115, a116, a117, a118, a119, a120, a121, a122, a123, a124, c125, c126, c127, c128, c129, c130, c131, c132, c133, c134, c135, c136, c137, c138, c139, c140, c141, c142, c143, c144, c145, c146, c147, c148, c149, c150, c151, c152, c153, c154, c155, c156, c157, c158, c159, c160, c161, c162, c163, c164, c165, c166, c167, c168, c169, c170, c171, c172, c173, c174, c175, c176, c177, c178, c179, c180, c181, c182, c183, c184, c185, c186, c187, c188, c189, c190, c191, c192, c193, c194, c195, c196, c197, c198, c199, c200, c201, c202], []⟩ w0 := by
  conv => arg 2; arg 1; whnf
  conv => arg 4; zeta
  have hkn : k ≤ 8 := by omega
  replace hst := Lib.hid hst
  replace hx := Lib.hid hx
  replace hr := Lib.hid hr
  replace hO := Lib.hid hO
  replace hpb := Lib.hid hpb
  go_loopw [12] (fun j wq => ∃ z : Nat, k ≤ z ∧ z ≤ n + 1 ∧ j = .int .i64 (z : Int) ∧ Hid (RDivRel w R n k pb v M z wq)) (fun j _ => n + 1 - (intOf j).toNat)
  case atStart => exact ⟨k, Nat.le_refl _, by omega, rfl, hst.out⟩
  case round =>
    obtain ⟨z, hkz, hz, rfl, hI⟩ := hrel
    by_cases hlt : z ≤ n
    · obtain ⟨hM, hF, hBw0, hSh⟩ := hI.out
      clear hI
      obtain ⟨gk, ck, ek, bk1, bk2, bk3, bk4, bk5⟩ := hM.out.form hk
      obtain ⟨k1, k2, k3⟩ := bk5 z hlt
      rw [divP_at M (Nat.le_refl z) k] at k1 k2 k3
      obtain ⟨r2, E1, km, hcase⟩ := refdiv (M k z) (M k k) (hO.out k z hk hlt) (hO.out k k hk (by omega)) hpv
      obtain ⟨pg, pn, pd, hpq⟩ := raw_ex (M k k)
      obtain ⟨ag, an, ad, haq⟩ := raw_ex (M k z)
      have hF' := hF.out
      rw [hpq] at hF' km
      rw [haq] at k1 k2 k3 km
      have f0 := hF'.facts
      have f7 := hF'.lt
      have hdk := (hM.out.hd k hk).trans (congrArg some ek)
      have hRl := hM.out.lt
      have HO : Hid (∀ W, Below wr.heap.size wr W → W.cell? ⟨R, k, none⟩ = some (.slice (some ⟨gk, 0, none⟩) (n + 1) ck) ∧ W.cell? ⟨gk, z * 3, none⟩ = some (.bool ag) ∧ W.cell? ⟨gk, z * 3 + 1, none⟩ = some (.string an) ∧ W.cell? ⟨gk, z * 3 + 2, none⟩ = some (.string ad) ∧ W.cell? ⟨pb, 0, none⟩ = some (.bool pg) ∧ W.cell? ⟨pb, 1, none⟩ = some (.string pn) ∧ W.cell? ⟨pb, 2, none⟩ = some (.string pd)) := fun W h =>
        ⟨(h.cell (p := ⟨R, _, none⟩) hRl).trans hdk, (h.cell (p := ⟨gk, _, none⟩) bk2).trans k1, (h.cell (p := ⟨gk, _, none⟩) bk2).trans k2, (h.cell (p := ⟨gk, _, none⟩) bk2).trans k3, (h.cell (p := ⟨pb, _, none⟩) f7).trans f0.1, (h.cell (p := ⟨pb, _, none⟩) f7).trans f0.2.1, (h.cell (p := ⟨pb, _, none⟩) f7).trans f0.2.2.1⟩
      have hgf : Hid (pb ≠ gk) := fun e => hpb.out k hk (by rw [ek, e]; rfl)
      have hfr := Lib.hid bk4
      have hal := Lib.hid (show R < wr.heap.size ∧ gk < wr.heap.size ∧ pb < wr.heap.size ∧ w.heap.size ≤ gk ∧ gk ≠ R from ⟨hRl, bk2, f7, bk1, bk3⟩)
      have j0 : (0 : Int) ≤ (z : Int) := by omega
      have j1 : (z : Int) < (n : Int) + 1 := by omega
      have j2 : (z : Int) ≤ (n : Int) := by omega
      have j3 : (0 : Int) ≤ (k : Int) := by omega
      have j4 : (k : Int) < (n : Int) := by omega
      obtain ⟨r2g, r2n, r2d⟩ := r2
      replace km : Hid (∀ w, Calls Tryz.prog 35 #[.agg #[.bool ag, .string an, .string ad], .agg #[.bool pg, .string pn, .string pd]] w fun e w' => e = .returned (.tuple #[.agg #[.bool r2g, .string r2n, .string r2d], .int .i64 E1]) ∧ Below w.heap.size w w') := km
      have hBw : Hid (Below wr.heap.size wr wr) := Below.refl _ _
      have hBa : Hid (Below wr.heap.size wr (wr.alloc (.cells #[.bool false, .string ⟨#[]⟩, .string ⟨#[]⟩] 31))) := (Below.refl _ _).alloc (Nat.le_refl _) _
      have hBd : Hid (Below wr.heap.size wr (wr.alloc (.cells #[.bool false, .string ⟨#[]⟩, .string ⟨#[]⟩] 31)).drew) := hBa.out.drew
      have hBe : Hid (Below wr.heap.size wr wr.drew) := hBw.out.drew
      have hxd : Hid (B3 (wr.alloc (.cells #[.bool false, .string ⟨#[]⟩, .string ⟨#[]⟩] 31)).drew wr.heap.size false ⟨#[]⟩ ⟨#[]⟩) := B3.new wr _ _ _
      clear f0 f7 hF' k1 k2 k3 bk1 bk2 bk3 bk4 bk5 hdk hRl
      obtain ⟨p1, p2, p3, p4, p5, p6, p7⟩ := HO.out _ hBw.out
      rcases hcase with ⟨rfl, hr2, sh⟩ | ⟨rfl, hno⟩
      · replace hr2 := Lib.hid hr2
        replace sh := Lib.hid sh
        replace hpq := Lib.hid hpq
        replace haq := Lib.hid haq
        have hF2 : Hid (B3 wr pb (rq (M k k)).1 (rq (M k k)).2.1 (rq (M k k)).2.2) := hF
        go_wp2_with fail
        go_region_held3 (fun w' => w'.cell? ⟨R, k, none⟩ = some (.slice (some ⟨gk, 0, none⟩) (n + 1) ck) ∧ w'.cell? ⟨gk, z * 3, none⟩ = some (.bool ag) ∧ w'.cell? ⟨gk, z * 3 + 1, none⟩ = some (.string an) ∧ w'.cell? ⟨gk, z * 3 + 2, none⟩ = some (.string ad) ∧ w'.cell? ⟨pb, 0, none⟩ = some (.bool pg) ∧ w'.cell? ⟨pb, 1, none⟩ = some (.string pn) ∧ w'.cell? ⟨pb, 2, none⟩ = some (.string pd)) (first | (with_reducible exact HO.out _ hBw.out) | (with_reducible exact HO.out _ hBe.out) | (with_reducible exact HO.out _ hBd.out) | (with_reducible exact HO.out _ hBa.out) | (with_reducible exact HO.out _ hB2.out) | (with_reducible exact HO.out _ (hB2.out.alloc hB2.out.size _)) | (with_reducible exact HO.out _ (((hB2.out.setCell (Nat.le_refl _) _).setCell (Nat.le_refl _) _).setCell (Nat.le_refl _) _)) | go_keep)
          (first
            | (go_at_call 35; refine (km.out _).mono ?_; rintro e w2 ⟨rfl, hb2⟩; have hx2 := Lib.hid (hxd.out.below hb2); have hB2 := Lib.hid (hBd.out.trans (hb2.mono hBd.out.size)); obtain ⟨y1, y2, y3, y4, y5, y6⟩ := hx2.out.facts; have y7 := hx2.out.lt; clear hb2)
            | (go_at_call 35; refine (km.out _).mono ?_; rintro e w2 ⟨rfl, hb2⟩; have hB2 := Lib.hid (hBe.out.trans (hb2.mono hBe.out.size)); clear hb2))
        all_goals (
          first
            | (obtain ⟨qb, hqb⟩ : ∃ b, b = w2.heap.size := ⟨_, rfl⟩; obtain ⟨w5, hw5⟩ : ∃ W, W = w2.alloc (.cells #[.bool r2g, .string r2n, .string r2d] 31) := ⟨_, rfl⟩; rw [← hw5, ← hqb]; have hx5 : Hid (B3 w5 qb r2g r2n r2d) := (by rw [hw5, hqb]; exact B3.new w2 _ _ _); have hB5 : Hid (Below wr.heap.size wr w5) := (by rw [hw5]; exact hB2.out.alloc hB2.out.size _); have hql : wr.heap.size ≤ qb := (by rw [hqb]; exact hB2.out.size))
            | (obtain ⟨qb, hqb⟩ : ∃ b, b = wr.heap.size := ⟨_, rfl⟩; obtain ⟨w5, hw5⟩ : ∃ W, W = ((w2.setCell ⟨wr.heap.size, 0, none⟩ (.bool r2g)).setCell ⟨wr.heap.size, 1, none⟩ (.string r2n)).setCell ⟨wr.heap.size, 2, none⟩ (.string r2d) := ⟨_, rfl⟩; rw [← hw5, ← hqb]; have hx5 : Hid (B3 w5 qb r2g r2n r2d) := (by rw [hw5, hqb]; exact ((hx2.out.set0 r2g).set1 r2n).set2 r2d); have hB5 : Hid (Below wr.heap.size wr w5) := (by rw [hw5]; exact ((hB2.out.setCell (Nat.le_refl _) _).setCell (Nat.le_refl _) _).setCell (Nat.le_refl _) _); have hql : wr.heap.size ≤ qb := (by rw [hqb]; exact Nat.le_refl _); clear hx2 y1 y2 y3 y4 y5 y6 y7)
          clear hw5 hqb hB2 hBe hBd hBa hxd km
          replace hql := Lib.hid hql
          clear p1 p2 p3 p4 p5 p6 p7
          obtain ⟨y1, y2, y3, y4, y5, y6⟩ := hx5.out.facts
          have y7 := hx5.out.lt
          obtain ⟨p1, p2, p3, p4, p5, p6, p7⟩ := HO.out _ hB5.out
          have hM5 := Lib.hid (hM.out.below hB5.out)
          have hF5 := Lib.hid (hF2.out.below hB5.out)
          have q7 : gk < w5.heap.size := Nat.lt_of_lt_of_le hal.out.2.1 hB5.out.size
          have q1 : w5.frozen? ⟨gk, z * 3, none⟩ = false := (hB5.out.frozen (p := ⟨gk, z * 3, none⟩) hal.out.2.1).trans (hfr.out _)
          have q2 : w5.frozen? ⟨gk, z * 3 + 1, none⟩ = false := (hB5.out.frozen (p := ⟨gk, z * 3 + 1, none⟩) hal.out.2.1).trans (hfr.out _)
          have q3 : w5.frozen? ⟨gk, z * 3 + 2, none⟩ = false := (hB5.out.frozen (p := ⟨gk, z * 3 + 2, none⟩) hal.out.2.1).trans (hfr.out _)
          have hqg : qb ≠ gk := Nat.ne_of_gt (Nat.lt_of_lt_of_le hal.out.2.1 hql.out)
          have hM6 : Hid (MatV (((w5.setCell ⟨gk, z * 3, none⟩ (.bool r2g)).setCell ⟨gk, z * 3 + 1, none⟩ (.string r2n)).setCell ⟨gk, z * 3 + 2, none⟩ (.string r2d)).drew w.heap.size R n n v (divP k (z + 1) M)) := by
            have h := hM5.out.store hk hlt ek (M k z / M k k)
            rw [divP_step M hkz, ← hr2.out] at h
            exact h.drew
          have hF6 : Hid (B3 (((w5.setCell ⟨gk, z * 3, none⟩ (.bool r2g)).setCell ⟨gk, z * 3 + 1, none⟩ (.string r2n)).setCell ⟨gk, z * 3 + 2, none⟩ (.string r2d)).drew pb (rq (M k k)).1 (rq (M k k)).2.1 (rq (M k k)).2.2) := ((B3.other (W := w5) (p := ⟨gk, z * 3, none⟩) hF5.out hgf.out _).other (p := ⟨gk, z * 3 + 1, none⟩) hgf.out _).other (p := ⟨gk, z * 3 + 2, none⟩) hgf.out _
          have hB6 : Hid (Below w.heap.size w (((w5.setCell ⟨gk, z * 3, none⟩ (.bool r2g)).setCell ⟨gk, z * 3 + 1, none⟩ (.string r2n)).setCell ⟨gk, z * 3 + 2, none⟩ (.string r2d)).drew) := ((((hBw0.out.trans (hB5.out.mono hBw0.out.size)).setCell (p := ⟨gk, z * 3, none⟩) hal.out.2.2.2.1 _).setCell (p := ⟨gk, z * 3 + 1, none⟩) hal.out.2.2.2.1 _).setCell (p := ⟨gk, z * 3 + 2, none⟩) hal.out.2.2.2.1 _).drew
          have hSh6 : Hid (∀ b, k ≤ b → b < z + 1 → ShortQ (M k b) ∧ ShortQ (M k k)) := fun b h1 h2 => by
            by_cases e : b = z
            · rw [e]; exact sh.out
            · exact hSh.out b h1 (by omega)
          have hS6 : Hid ((((w5.setCell ⟨gk, z * 3, none⟩ (.bool r2g)).setCell ⟨gk, z * 3 + 1, none⟩ (.string r2n)).setCell ⟨gk, z * 3 + 2, none⟩ (.string r2d)).drew.cell? ⟨R, k, none⟩ = some (.slice (some ⟨gk, 0, none⟩) (n + 1) ck) ∧ (((w5.setCell ⟨gk, z * 3, none⟩ (.bool r2g)).setCell ⟨gk, z * 3 + 1, none⟩ (.string r2n)).setCell ⟨gk, z * 3 + 2, none⟩ (.string r2d)).drew.cell? ⟨qb, 0, none⟩ = some (.bool r2g) ∧ (((w5.setCell ⟨gk, z * 3, none⟩ (.bool r2g)).setCell ⟨gk, z * 3 + 1, none⟩ (.string r2n)).setCell ⟨gk, z * 3 + 2, none⟩ (.string r2d)).drew.cell? ⟨qb, 1, none⟩ = some (.string r2n) ∧ (((w5.setCell ⟨gk, z * 3, none⟩ (.bool r2g)).setCell ⟨gk, z * 3 + 1, none⟩ (.string r2n)).setCell ⟨gk, z * 3 + 2, none⟩ (.string r2d)).drew.cell? ⟨qb, 2, none⟩ = some (.string r2d)) := by
            exact ⟨(far3 (Ne.symm hal.out.2.2.2.2)).trans p1, (far3 hqg).trans y1, (far3 hqg).trans y2, (far3 hqg).trans y3⟩
          have hS5 : Hid (w5.cell? ⟨R, k, none⟩ = some (.slice (some ⟨gk, 0, none⟩) (n + 1) ck) ∧ w5.cell? ⟨qb, 0, none⟩ = some (.bool r2g) ∧ w5.cell? ⟨qb, 1, none⟩ = some (.string r2n) ∧ w5.cell? ⟨qb, 2, none⟩ = some (.string r2d)) := ⟨p1, y1, y2, y3⟩
          have hSd : Hid (w5.drew.cell? ⟨R, k, none⟩ = some (.slice (some ⟨gk, 0, none⟩) (n + 1) ck) ∧ w5.drew.cell? ⟨qb, 0, none⟩ = some (.bool r2g) ∧ w5.drew.cell? ⟨qb, 1, none⟩ = some (.string r2n) ∧ w5.drew.cell? ⟨qb, 2, none⟩ = some (.string r2d)) := ⟨p1, y1, y2, y3⟩
          clear hM5 hF5 hx5 hB5 hqg
          go_wp2_with fail
          go_region_held3 (fun w' => w'.cell? ⟨R, k, none⟩ = some (.slice (some ⟨gk, 0, none⟩) (n + 1) ck) ∧ w'.cell? ⟨qb, 0, none⟩ = some (.bool r2g) ∧ w'.cell? ⟨qb, 1, none⟩ = some (.string r2n) ∧ w'.cell? ⟨qb, 2, none⟩ = some (.string r2d)) (first | (with_reducible exact hS5.out) | (with_reducible exact hSd.out) | (with_reducible exact hS6.out) | go_keep) (fail)
          go_wp2
          go_roundw
          case rel => exact ⟨z + 1, by omega, by omega, by go_num, hM6, hF6, hB6, hSh6⟩
          case measure => simp [intOf]; omega
          )
      · have hbad : Hid (okDiv SQ n k M = false) := okDiv_not hkz hlt hno
        clear hno
        go_wp2_with fail
        go_region_held3 (fun w' => w'.cell? ⟨R, k, none⟩ = some (.slice (some ⟨gk, 0, none⟩) (n + 1) ck) ∧ w'.cell? ⟨gk, z * 3, none⟩ = some (.bool ag) ∧ w'.cell? ⟨gk, z * 3 + 1, none⟩ = some (.string an) ∧ w'.cell? ⟨gk, z * 3 + 2, none⟩ = some (.string ad) ∧ w'.cell? ⟨pb, 0, none⟩ = some (.bool pg) ∧ w'.cell? ⟨pb, 1, none⟩ = some (.string pn) ∧ w'.cell? ⟨pb, 2, none⟩ = some (.string pd)) (first | (with_reducible exact HO.out _ hBw.out) | (with_reducible exact HO.out _ hBe.out) | (with_reducible exact HO.out _ hBd.out) | (with_reducible exact HO.out _ hBa.out) | (with_reducible exact HO.out _ hB2.out) | (with_reducible exact HO.out _ (hB2.out.alloc hB2.out.size _)) | (with_reducible exact HO.out _ (((hB2.out.setCell (Nat.le_refl _) _).setCell (Nat.le_refl _) _).setCell (Nat.le_refl _) _)) | go_keep)
          (first
            | (go_at_call 35; refine (km.out _).mono ?_; rintro e w2 ⟨rfl, hb2⟩; have hx2 := Lib.hid (hxd.out.below hb2); have hB2 := Lib.hid (hBd.out.trans (hb2.mono hBd.out.size)); obtain ⟨y1, y2, y3, y4, y5, y6⟩ := hx2.out.facts; have y7 := hx2.out.lt; clear hb2)
            | (go_at_call 35; refine (km.out _).mono ?_; rintro e w2 ⟨rfl, hb2⟩; have hB2 := Lib.hid (hBe.out.trans (hb2.mono hBe.out.size)); clear hb2))
        all_goals (
          first
            | (obtain ⟨qb, hqb⟩ : ∃ b, b = w2.heap.size := ⟨_, rfl⟩; obtain ⟨w5, hw5⟩ : ∃ W, W = w2.alloc (.cells #[.bool r2g, .string r2n, .string r2d] 31) := ⟨_, rfl⟩; rw [← hw5, ← hqb]; have hx5 : Hid (B3 w5 qb r2g r2n r2d) := (by rw [hw5, hqb]; exact B3.new w2 _ _ _); have hB5 : Hid (Below wr.heap.size wr w5) := (by rw [hw5]; exact hB2.out.alloc hB2.out.size _); have hql : wr.heap.size ≤ qb := (by rw [hqb]; exact hB2.out.size))
            | (obtain ⟨qb, hqb⟩ : ∃ b, b = wr.heap.size := ⟨_, rfl⟩; obtain ⟨w5, hw5⟩ : ∃ W, W = ((w2.setCell ⟨wr.heap.size, 0, none⟩ (.bool r2g)).setCell ⟨wr.heap.size, 1, none⟩ (.string r2n)).setCell ⟨wr.heap.size, 2, none⟩ (.string r2d) := ⟨_, rfl⟩; rw [← hw5, ← hqb]; have hx5 : Hid (B3 w5 qb r2g r2n r2d) := (by rw [hw5, hqb]; exact ((hx2.out.set0 r2g).set1 r2n).set2 r2d); have hB5 : Hid (Below wr.heap.size wr w5) := (by rw [hw5]; exact ((hB2.out.setCell (Nat.le_refl _) _).setCell (Nat.le_refl _) _).setCell (Nat.le_refl _) _); have hql : wr.heap.size ≤ qb := (by rw [hqb]; exact Nat.le_refl _); clear hx2 y1 y2 y3 y4 y5 y6 y7)
          clear hw5 hqb hB2 hBe hBd hBa hxd km
          replace hql := Lib.hid hql
          go_wp2
          apply hr.out
          · exact hBw0.out.trans (hB5.out.mono hBw0.out.size)
          · exact hbad.out
          )
    · obtain rfl : z = n + 1 := by omega
      go_wp2
      apply hx.out
      exact hI.out
end Nt
end Go.Proofs.YtjjlnahipiinfaaGreatDoor

namespace Go.Proofs.YtjjlnahipiinfaaGreatDoor
open Go.RowKit Go.Shelf
namespace Nt

/-- Nothing but zeros up to row f of column k. -/
def RFirst (w : World) (R n k : Nat) (v : Nat → Value) (M : Mx) (f : Nat) (wq : World) : Prop :=
  Hid (MatV wq w.heap.size R n n v M) ∧ Hid (Below w.heap.size w wq) ∧ Hid (∀ j, k ≤ j → j < f → M j k = 0)

set_option maxRecDepth 1000000 in
set_option maxHeartbeats 16000000 in
theorem first_loop {c0 c1 c2 c3 c4 c5 c8 c11 c12 c13 c14 c15 c16 c17 c18 c19 c20 c21 c22 c23 c24 c25 c26 c27 c28 c29 c30 c31 c32 c33 c34 c35 c36 c37 c38 c39 c40 c41 c42 c43 c44 c45 c46 c47 c48 c49 c50 c51 c52 c53 c54 c55 c56 c57 c73 c74 c75 c76 c77 c78 c79 c80 c81 c82 c83 c84 c85 c86 c87 c88 c89 c90 c91 c92 c93 c94 c95 c96 c97 c98 c99 c100 c101 c102 c103 c104 c105 c106 c107 c108 c109 c110 c111 c112 c113 c114 c115 c116 c117 c118 c119 c120 c121 c122 c123 c124 c125 c126 c127 c128 c129 c130 c131 c132 c133 c134 c135 c136 c137 c138 c139 c140 c141 c142 c143 c144 c145 c146 c147 c148 c149 c150 c151 c152 c153 c154 c155 c156 c157 c158 c159 c160 c161 c162 c163 c164 c165 c166 c167 c168 c169 c170 c171 c172 c173 c174 c175 c176 c177 c178 c179 c180 c181 c182 c183 c184 c185 c186 c187 c188 c189 c190 c191 c192 c193 c194 c195 c196 c197 c198 c199 c200 c201 c202 a58 a59 a60 a61 a62 a63 a64 a65 a66 a67 a68 a69 a70 a71 a72 : Value} {Q : Exit → Act → World → Prop} (R n k : Nat) (v : Nat → Value) (M : Mx) (w w0 : World) (hn8 : n ≤ 8) (hk : k < n) (hst : RFirst w R n k v M k w0)
    (hx : ∀ (f : Nat) (u58 u59 u60 u61 u62 u63 u64 u65 u66 u67 u68 u69 u70 u71 u72 : Value) (wq : World), k ≤ f → f ≤ n → (f < n → M f k ≠ 0) → RFirst w R n k v M f wq → Q (.exit 4) ⟨#[c0, c1, c2, c3, c4, c5, .int .i64 (n : Int), .slice (some ⟨R, 0, none⟩) n n, c8, .int .i64 (k : Int), .int .i64 (f : Int), c11, c12, c13, c14, c15, c16, c17, c18, c19, c20, c21, c22, c23, c24, c25, c26, c27, c28, c29, c30, c31, c32, c33, c34, c35, c36, c37, c38, c39, c40, c41, c42, c43, c44, c45, c46, c47, c48, c49, c50, c51, c52, c53, c54, c55, c56, c57, u58, u59, u60, u61, u62, u63, u64, u65, u66, u67, u68, u69, u70, u71, u72, c73, c74, c75, c76, c77, c78, c79, c80, c81, c82, c83, c84, c85, c86, c87, c88, c89, c90, c91, c92, c93, c94, c95, c96, c97, c98, c99, c100, c101, c102, c103, c104, c105, c106, c107, c108, c109, c110, c111, c112, c113, c114, c115, c116, c117, c118, c119, c120, c121, c122, c123, c124, c125, c126, c127, c128, c129, c130, c131, c132, c133, c134, c135, c136, c137, c138, c139, c140, c141, c142, c143, c144, c145, c146, c147, c148, c149, c150, c151, c152, c153, c154, c155, c156, c157, c158, c159, c160, c161, c162, c163, c164, c165, c166, c167, c168, c169, c170, c171, c172, c173, c174, c175, c176, c177, c178, c179, c180, c181, c182, c183, c184, c185, c186, c187, c188, c189, c190, c191, c192, c193, c194, c195, c196, c197, c198, c199, c200, c201, c202], []⟩ wq) :
    Code.wp Tryz.prog (Code.loop (rbody 2)) Q ⟨#[c0, c1, c2, c3, c4, c5, .int .i64 (n : Int), .slice (some ⟨R, 0, none⟩) n n, c8, .int .i64 (k : Int), .int .i64 (k : Int), c11, c12, c13, c14, c15, c16, c17, c18, c19, c20, c21, c22, c23, c24, c25, c26, c27, c28, c29, c30, c31, c32, c33, c34, c35, c36, c37, c38, c39, c40, c41, c42, c43, c44, c45, c46, c47, c48, c49, c50, c51, c52, c53, c54, c55, c56, c57, a58, a59, a60, a61, a62, a63, a64, a65, a66, a67, a68, a69, a70, a71, a72, c73, c74, c75, c76, c77, c78, c79, c80, c81, c82, c83, c84, c85, c86, c87, c88, c89, c90, c91, c92, c93, c94, c95, c96, c97, c98, c99, c100, c101, c102, c103, c104, c105, c106, c107, c108, c109, c110, c111, c112, c113, c114, c115, c116, c117, c118, c119, c120, c121, c122, c123, c124, c125, c126, c127, c128, c129, c130, c131, c132, c133, c134, c135, c136, c137, c138, c139, c140, c141, c142, c143, c144, c145, c146, c147, c148, c149, c150, c151, c152, c153, c154, c155, c156, c157, c158, c159, c160, c161, c162, c163, c164, c165, c166, c167, c168, c169, c170, c171, c172, c173, c174, c175, c176, c177, c178, c179, c180, c181, c182, c183, c184, c185, c186, c187, c188, c189, c190, c191, c192, c193, c194, c195, c196, c197, c198, c199, c200, c201, c202], []⟩ w0 := by
  conv => arg 2; arg 1; whnf
  conv => arg 4; zeta
  have hkn : k ≤ 8 := by omega
  replace hst := Lib.hid hst
  replace hx := Lib.hid hx
  go_loopw [10] (fun j wq => ∃ f : Nat, k ≤ f ∧ f ≤ n ∧ j = .int .i64 (f : Int) ∧ Hid (RFirst w R n k v M f wq)) (fun j _ => n - (intOf j).toNat)
  case atStart => exact ⟨k, Nat.le_refl _, by omega, rfl, hst.out⟩
  case round =>
    obtain ⟨f, hkf, hf, rfl, hI⟩ := hrel
    by_cases hlt : f < n
    · obtain ⟨hM, hB, hZ⟩ := hI.out
      obtain ⟨g, c, e, b1, b2, b3, b4, b5⟩ := hM.out.form hlt
      obtain ⟨k1, k2, k3⟩ := b5 k (by omega)
      have hd := (hM.out.hd f hlt).trans (congrArg some e)
      have kz := refzero_q (M f k)
      obtain ⟨pg, pn, pd, hpq⟩ := raw_ex (M f k)
      rw [hpq] at k1 k2 k3
      have kz' : Hid (∀ W, Calls Tryz.prog 20 #[.agg #[.bool pg, .string pn, .string pd]] W fun e w' => e = .returned (.bool (decide (M f k = 0))) ∧ Below W.heap.size W w') := fun W => by
        have h := kz W
        have e2 : qv (M f k) = .agg #[.bool pg, .string pn, .string pd] := congrArg (fun r : Raw => (.agg #[.bool r.1, .string r.2.1, .string r.2.2] : Value)) hpq
        rwa [e2] at h
      have j0 : (0 : Int) ≤ (f : Int) := by omega
      have j1 : (f : Int) < (n : Int) := by omega
      have j3 : (0 : Int) ≤ (k : Int) := by omega
      have j4 : (k : Int) < (n : Int) + 1 := by omega
      clear kz b1 b2 b3 b4 b5 e
      replace hpq := Lib.hid hpq
      by_cases h0 : M f k = 0
      · rw [decide_eq_true h0] at kz'
        have hZ2 : Hid (∀ j, k ≤ j → j < f + 1 → M j k = 0) := fun j h1 h2 => by
          by_cases e : j = f
          · rw [e]; exact h0
          · exact hZ.out j h1 (by omega)
        replace h0 := Lib.hid h0
        go_wp2_with fail
        refine (kz'.out _).mono ?_
        rintro e w2 ⟨rfl, hb2⟩
        have hM2 := Lib.hid (hM.out.below hb2)
        have hB2 := Lib.hid (hB.out.trans (hb2.mono hB.out.size))
        clear hb2 k1 k2 k3 hd
        go_wp2
        go_roundw
        case rel => exact ⟨f + 1, by omega, by omega, by go_num, hM2, hB2, hZ2⟩
        case measure => simp [intOf]; omega
      · rw [decide_eq_false h0] at kz'
        replace h0 := Lib.hid h0
        go_wp2_with fail
        refine (kz'.out _).mono ?_
        rintro e w2 ⟨rfl, hb2⟩
        have hM2 := Lib.hid (hM.out.below hb2)
        have hB2 := Lib.hid (hB.out.trans (hb2.mono hB.out.size))
        clear hb2 k1 k2 k3 hd
        go_wp2
        apply hx.out f
        · exact hkf
        · exact hf
        · exact fun _ => h0.out
        · exact ⟨hM2, hB2, hZ⟩
    · have s1 : ¬ ((f : Int) < (n : Int)) := by omega
      go_wp2
      apply hx.out f
      · exact hkf
      · exact hf
      · exact fun h => absurd h hlt
      · exact hI.out
end Nt
end Go.Proofs.YtjjlnahipiinfaaGreatDoor

namespace Go.Proofs.YtjjlnahipiinfaaGreatDoor
open Go.RowKit Go.Shelf
namespace Nt

/-- What holds ahead of row y. -/
def RRow (w : World) (R n k : Nat) (v : Nat → Value) (M2 : Mx) (y : Nat) (wq : World) : Prop :=
  ∃ M3 : Mx, Hid (elimTo SQ n k y M2 = some M3) ∧ Hid (MatV wq w.heap.size R n n v M3) ∧ Hid (∀ a b, a < n → b ≤ n → OkQ (M3 a b)) ∧ Hid (Below w.heap.size w wq)
theorem elimTo_next {n k i : Nat} {M2 M3 M4 : Mx} (h : elimTo SQ n k i M2 = some M3) (h2 : elimRow SQ n k i M3 = some M4) : elimTo SQ n k (i + 1) M2 = some M4 := by
  unfold elimTo
  rw [h]
  exact h2

set_option maxRecDepth 1000000 in
set_option maxHeartbeats 16000000 in
theorem row_loop {c0 c1 c2 c3 c8 c10 c11 c12 c13 c14 c20 c21 c22 c23 c24 c25 c26 c27 c28 c29 c30 c31 c32 c33 c34 c35 c36 c37 c38 c39 c40 c41 c42 c43 c44 c45 c46 c47 c48 c49 c50 c51 c52 c53 c54 c55 c56 c57 c58 c59 c60 c61 c62 c63 c64 c65 c66 c67 c68 c69 c70 c71 c72 c73 c74 c75 c76 c77 c78 c79 c80 c81 c82 c83 c84 c85 c86 c87 c88 c89 c90 c91 c92 c93 c94 c95 c96 c97 c98 c99 c100 c101 c102 c103 c104 c105 c106 c107 c108 c109 c110 c111 c112 c113 c114 c115 c116 c117 c118 c119 c120 c121 c122 c123 c124 c187 c188 c189 c190 c191 c192 c193 c194 c195 c196 c197 c198 c199 c200 c201 c202 a4 a5 a16 a17 a18 a19 a125 a126 a127 a128 a129 a130 a131 a132 a133 a134 a135 a136 a137 a138 a139 a140 a141 a142 a143 a144 a145 a146 a147 a148 a149 a150 a151 a152 a153 a154 a155 a156 a157 a158 a159 a160 a161 a162 a163 a164 a165 a166 a167 a168 a169 a170 a171 a172 a173 a174 a175 a176 a177 a178 a179 a180 a181 a182 a183 a184 a185 a186 : Value} {Q : Exit → Act → World → Prop} (R n k : Nat) (v : Nat → Value) (M2 : Mx) (w w0 : World) (hn8 : n ≤ 8) (hk : k < n) (hst : RRow w R n k v M2 0 w0)
    (hx : ∀ (u4 u5 u16 u17 u18 u19 u125 u126 u127 u128 u129 u130 u131 u132 u133 u134 u135 u136 u137 u138 u139 u140 u141 u142 u143 u144 u145 u146 u147 u148 u149 u150 u151 u152 u153 u154 u155 u156 u157 u158 u159 u160 u161 u162 u163 u164 u165 u166 u167 u168 u169 u170 u171 u172 u173 u174 u175 u176 u177 u178 u179 u180 u181 u182 u183 u184 u185 u186 : Value) (wq : World), RRow w R n k v M2 n wq → Q (.exit 8) ⟨#[c0, c1, c2, c3, u4, u5, .int .i64 (n : Int), .slice (some ⟨R, 0, none⟩) n n, c8, .int .i64 (k : Int), c10, c11, c12, c13, c14, .int .i64 (n : Int), u16, u17, u18, u19, c20, c21, c22, c23, c24, c25, c26, c27, c28, c29, c30, c31, c32, c33, c34, c35, c36, c37, c38, c39, c40, c41, c42, c43, c44, c45, c46, c47, c48, c49, c50, c51, c52, c53, c54, c55, c56, c57, c58, c59, c60, c61, c62, c63, c64, c65, c66, c67, c68, c69, c70, c71, c72, c73, c74, c75, c76, c77, c78, c79, c80, c81, c82, c83, c84, c85, c86, c87, c88, c89, c90, c91, c92, c93, c94, c95, c96, c97, c98, c99, c100, c101, c102, c103, c104, c105, c106, c107, c108, c109, c110, c111, c112, c113, c114, c115, c116, c117, c118, c119, c120, c121, c122, c123, c124, u125, u126, u127, u128, u129, u130, u131, u132, u133, u134, u135, u136, u137, u138, u139, u140, u141, u142, u143, u144, u145, u146, u147, u148, u149, u150, u151, u152, u153, u154, u155, u156, u157, u158, u159, u160, u161, u162, u163, u164, u165, u166, u167, u168, u169, u170, u171, u172, u173, u174, u175, u176, u177, u178, u179, u180, u181, u182, u183, u184, u185, u186, c187, c188, c189, c190, c191, c192, c193, c194, c195, c196, c197, c198, c199, c200, c201, c202], []⟩ wq)
    (hr : ∀ (u15 u16 u17 u18 u19 u125 u126 u127 u128 u129 u130 u131 u132 u133 u134 u135 u136 u137 u138 u139 u140 u141 u142 u143 u144 u145 u146 u147 u148 u149 u150 u151 u152 u153 u154 u155 u156 u157 u158 u159 u160 u161 u162 u163 u164 u165 u166 u167 u168 u169 u170 u171 u172 u173 u174 u175 u176 u177 u178 u179 u180 u181 u182 u183 u184 u185 u186 : Value) (wq : World), Below w.heap.size w wq → elimTo SQ n k n M2 = none → Q .ret ⟨#[c0, c1, c2, c3, .slice none 0 0, .int .i64 2, .int .i64 (n : Int), .slice (some ⟨R, 0, none⟩) n n, c8, .int .i64 (k : Int), c10, c11, c12, c13, c14, u15, u16, u17, u18, u19, c20, c21, c22, c23, c24, c25, c26, c27, c28, c29, c30, c31, c32, c33, c34, c35, c36, c37, c38, c39, c40, c41, c42, c43, c44, c45, c46, c47, c48, c49, c50, c51, c52, c53, c54, c55, c56, c57, c58, c59, c60, c61, c62, c63, c64, c65, c66, c67, c68, c69, c70, c71, c72, c73, c74, c75, c76, c77, c78, c79, c80, c81, c82, c83, c84, c85, c86, c87, c88, c89, c90, c91, c92, c93, c94, c95, c96, c97, c98, c99, c100, c101, c102, c103, c104, c105, c106, c107, c108, c109, c110, c111, c112, c113, c114, c115, c116, c117, c118, c119, c120, c121, c122, c123, c124, u125, u126, u127, u128, u129, u130, u131, u132, u133, u134, u135, u136, u137, u138, u139, u140, u141, u142, u143, u144, u145, u146, u147, u148, u149, u150, u151, u152, u153, u154, u155, u156, u157, u158, u159, u160, u161, u162, u163, u164, u165, u166, u167, u168, u169, u170, u171, u172, u173, u174, u175, u176, u177, u178, u179, u180, u181, u182, u183, u184, u185, u186, c187, c188, c189, c190, c191, c192, c193, c194, c195, c196, c197, c198, c199, c200, c201, c202], []⟩ wq) :
    Code.wp Tryz.prog (Code.loop (rbody 4)) Q ⟨#[c0, c1, c2, c3, a4, a5, .int .i64 (n : Int), .slice (some ⟨R, 0, none⟩) n n, c8, .int .i64 (k : Int), c10, c11, c12, c13, c14, .int .i64 0, a16, a17, a18, a19, c20, c21, c22, c23, c24, c25, c26, c27, c28, c29, c30, c31, c32, c33, c34, c35, c36, c37, c38, c39, c40, c41, c42, c43, c44, c45, c46, c47, c48, c49, c50, c51, c52, c53, c54, c55, c56, c57, c58, c59, c60, c61, c62, c63, c64, c65, c66, c67, c68, c69, c70, c71, c72, c73, c74, c75, c76, c77, c78, c79, c80, c81, c82, c83, c84, c85, c86, c87, c88, c89, c90, c91, c92, c93, c94, c95, c96, c97, c98, c99, c100, c101, c102, c103, c104, c105, c106, c107, c108, c109, c110, c111, c112, c113, c114, c115, c116, c117, c118, c119, c120, c121, c122, c123, c124, a125, a126, a127, a128, a129, a130, a131, a132, a133, a134, a135, a136, a137, a138, a139, a140, a141, a142, a143, a144, a145, a146, a147, a148, a149, a150, a151, a152, a153, a154, a155, a156, a157, a158, a159, a160, a161, a162, a163, a164, a165, a166, a167, a168, a169, a170, a171, a172, a173, a174, a175, a176, a177, a178, a179, a180, a181, a182, a183, a184, a185, a186, c187, c188, c189, c190, c191, c192, c193, c194, c195, c196, c197, c198, c199, c200, c201, c202], []⟩ w0 := by
  conv => arg 2; arg 1; whnf
  conv => arg 4; zeta
  have hkn : k ≤ 8 := by omega
  replace hst := Lib.hid hst
  replace hx := Lib.hid hx
  replace hr := Lib.hid hr
  go_loopw [15] (fun j wq => ∃ y : Nat, y ≤ n ∧ j = .int .i64 (y : Int) ∧ Hid (RRow w R n k v M2 y wq)) (fun j _ => n - (intOf j).toNat)
  case atStart => exact ⟨0, Nat.zero_le _, rfl, hst.out⟩
  case round =>
    obtain ⟨i, hi, rfl, hI⟩ := hrel
    by_cases hlt : i < n
    · obtain ⟨M3, hel, hM, hO, hB⟩ := hI.out
      clear hI
      obtain ⟨g, c, e, b1, b2, b3, b4, b5⟩ := hM.out.form hlt
      obtain ⟨k1, k2, k3⟩ := b5 k (by omega)
      have hd := (hM.out.hd i hlt).trans (congrArg some e)
      obtain ⟨fg, fn, fd, hfq⟩ := raw_ex (M3 i k)
      rw [hfq] at k1 k2 k3
      have j0 : (0 : Int) ≤ (i : Int) := by omega
      have j1 : (i : Int) < (n : Int) := by omega
      have j3 : (0 : Int) ≤ (k : Int) := by omega
      have j4 : (k : Int) < (n : Int) + 1 := by omega
      have hM4 := Lib.hid (hM.out.alloc (.cells #[.bool fg, .string fn, .string fd] 31))
      have hB4 := Lib.hid (hB.out.alloc hB.out.size (.cells #[.bool fg, .string fn, .string fd] 31))
      have hf4 := Lib.hid (B3.new wr fg fn fd)
      have hvl : Hid (∀ a, a < n → (v a).ownBlock ≠ some wr.heap.size) := fun a ha hb => by have := ((hM.out.rows a ha).lt _ hb).2; omega
      clear b1 b2 b3 b4 b5 e
      replace hfq := Lib.hid hfq
      by_cases hik : i = k
      · have h1 : (i == k) = true := by rw [beq_iff_eq]; exact hik
        have h2 : ((i : Int) == (k : Int)) = true := by rw [beq_iff_eq]; omega
        have hel2 : Hid (elimTo SQ n k (i + 1) M2 = some M3) := elimTo_next hel.out (by unfold elimRow; rw [if_pos (.inl hik)])
        replace hik := Lib.hid hik
        go_wp2
        go_roundw
        case rel => exact ⟨i + 1, by omega, by go_num, M3, hel2, hM4, hO, hB4⟩
        case measure => simp [intOf]; omega
      · have h1 : (i == k) = false := by rw [beq_eq_false_iff_ne]; exact hik
        have h2 : ((i : Int) == (k : Int)) = false := by rw [beq_eq_false_iff_ne]; omega
        have kz' : Hid (∀ W, Calls Tryz.prog 20 #[.agg #[.bool fg, .string fn, .string fd]] W fun e w' => e = .returned (.bool (decide (M3 i k = 0))) ∧ Below W.heap.size W w') := fun W => by
          have h := refzero_q (M3 i k) W
          have e2 : qv (M3 i k) = .agg #[.bool fg, .string fn, .string fd] := congrArg (fun r : Raw => (.agg #[.bool r.1, .string r.2.1, .string r.2.2] : Value)) hfq.out
          rwa [e2] at h
        obtain ⟨x1, x2, x3, x4, x5, x6⟩ := hf4.out.facts
        have x7 := hf4.out.lt
        have hik' := hik
        replace hik := Lib.hid hik
        by_cases h0 : M3 i k = 0
        · rw [decide_eq_true h0] at kz'
          have hel2 : Hid (elimTo SQ n k (i + 1) M2 = some M3) := elimTo_next hel.out (by unfold elimRow; rw [if_pos (.inr h0)])
          replace h0 := Lib.hid h0
          clear hik'
          go_wp2_with fail
          refine (kz'.out _).mono ?_
          rintro e w5 ⟨rfl, hb⟩
          have hM5 := Lib.hid (hM4.out.below hb)
          have hB5 := Lib.hid (hB4.out.trans (hb.mono hB4.out.size))
          clear hb x1 x2 x3 x4 x5 x6 x7 k1 k2 k3 hd
          go_wp2
          go_roundw
          case rel => exact ⟨i + 1, by omega, by go_num, M3, hel2, hM5, hO, hB5⟩
          case measure => simp [intOf]; omega
        · rw [decide_eq_false h0] at kz'
          have hrow : elimRow SQ n k i M3 = if okSub SQ n k i M3 = true then some (subR k i M3) else none := by
            unfold elimRow
            rw [if_neg (fun h => h.elim hik' h0)]
          replace hrow := Lib.hid hrow
          replace h0 := Lib.hid h0
          clear hik'
          go_wp2_with fail
          refine (kz'.out _).mono ?_
          rintro e w5 ⟨rfl, hb⟩
          have hM5 := Lib.hid (hM4.out.below hb)
          have hB5 := Lib.hid (hB4.out.trans (hb.mono hB4.out.size))
          have hf5 := Lib.hid (hf4.out.below hb)
          have hf6 : Hid (B3 w5 wr.heap.size (rq (M3 i k)).1 (rq (M3 i k)).2.1 (rq (M3 i k)).2.2) := by rw [hfq.out]; exact hf5.out
          clear hb x1 x2 x3 x4 x5 x6 x7 k1 k2 k3 hd hM hB hM4 hB4 hf4 hf5 kz'
          go_wp2
          refine sub_loop R n k i wr.heap.size v M3 w w5 hn8 hk hlt hik.out hO.out hvl.out ⟨by rw [subP_start]; exact hM5.out, hf6, hB5, fun b h1 h2 => absurd h2 (by omega)⟩ ?_ ?_
          · intro z4 z5 z18 z19 z145 z146 z147 z148 z149 z150 z151 z152 z153 z154 z155 z156 z157 z158 z159 z160 z161 z162 z163 z164 z165 z166 z167 z168 z169 z170 z171 z172 z173 z174 z175 z176 z177 z178 z179 z180 z181 z182 z183 z184 z185 z186 wq hq
            obtain ⟨qM, _, qB, qS⟩ := hq
            have hok : okSub SQ n k i M3 = true := (okSub_iff SQ).2 fun j a b => by
              obtain ⟨s1, s2, s3, s4⟩ := qS.out j a (by omega)
              exact ⟨decide_eq_true s1, decide_eq_true s2, decide_eq_true s3, decide_eq_true s4⟩
            have hel2 : Hid (elimTo SQ n k (i + 1) M2 = some (subR k i M3)) := elimTo_next hel.out (by rw [hrow.out, if_pos hok])
            have hM6 : Hid (MatV wq w.heap.size R n n v (subR k i M3)) := qM.out.congr fun a b _ hb => subP_end M3 a b hb
            have hO6 : Hid (∀ a b, a < n → b ≤ n → OkQ (subR k i M3 a b)) := elimRow_ok hO.out (by rw [hrow.out, if_pos hok])
            clear hM5 hB5 hf6 qM qS
            go_wp2
            go_roundw
            case rel => exact ⟨i + 1, by omega, by go_num, subR k i M3, hel2, hM6, hO6, qB⟩
            case measure => simp [intOf]; omega
          · intro z17 z18 z19 z145 z146 z147 z148 z149 z150 z151 z152 z153 z154 z155 z156 z157 z158 z159 z160 z161 z162 z163 z164 z165 z166 z167 z168 z169 z170 z171 z172 z173 z174 z175 z176 z177 z178 z179 z180 z181 z182 z183 z184 z185 z186 wq hbq hno
            have hnone : Hid (elimTo SQ n k n M2 = none) := elim_none (i := i + 1) (by omega) (by unfold elimTo; rw [hel.out]; show elimRow SQ n k i M3 = none; rw [hrow.out, hno]; rfl)
            replace hbq := Lib.hid hbq
            clear hM5 hB5 hf6
            go_wp2
            apply hr.out
            · exact hbq.out
            · exact hnone.out
    · obtain rfl : i = n := by omega
      go_wp2
      apply hx.out
      exact hI.out
end Nt
end Go.Proofs.YtjjlnahipiinfaaGreatDoor

namespace Go.Proofs.YtjjlnahipiinfaaGreatDoor
open Go.RowKit Go.Shelf
namespace Nt
noncomputable def rreg19 : Code := ((Tryz.f13.body.map regsOf).bind fun l => l[18]?).getD .skip

set_option maxRecDepth 1000000 in
set_option maxHeartbeats 16000000 in
theorem rswap_reg {c0 c1 c2 c3 c4 c5 c6 c8 c11 c12 c13 c14 c15 c16 c17 c18 c19 c20 c21 c22 c23 c24 c25 c26 c27 c28 c29 c30 c31 c32 c33 c34 c35 c36 c37 c38 c39 c40 c41 c42 c43 c44 c45 c46 c47 c48 c49 c50 c51 c52 c53 c54 c55 c56 c57 c58 c59 c60 c61 c62 c63 c64 c65 c66 c67 c68 c69 c70 c71 c72 c73 c74 c75 c90 c91 c92 c93 c94 c95 c96 c97 c98 c99 c100 c101 c102 c103 c104 c105 c106 c107 c108 c109 c110 c111 c112 c113 c114 c115 c116 c117 c118 c119 c120 c121 c122 c123 c124 c125 c126 c127 c128 c129 c130 c131 c132 c133 c134 c135 c136 c137 c138 c139 c140 c141 c142 c143 c144 c145 c146 c147 c148 c149 c150 c151 c152 c153 c154 c155 c156 c157 c158 c159 c160 c161 c162 c163 c164 c165 c166 c167 c168 c169 c170 c171 c172 c173 c174 c175 c176 c177 c178 c179 c180 c181 c182 c183 c184 c185 c186 c187 c188 c189 c190 c191 c192 c193 c194 c195 c196 c197 c198 c199 c200 c201 c202 a76 a77 a78 a79 a80 a81 a82 a83 a84 a85 a86 a87 a88 a89 : Value} {Q : Exit → Act → World → Prop} (R n k p gk ck gp cp : Nat) (w : World)
    (g2 : w.cell? ⟨R, p, none⟩ = some (.slice (some ⟨gp, 0, none⟩) (n + 1) cp)) (g3 : w.cell? ⟨R, k, none⟩ = some (.slice (some ⟨gk, 0, none⟩) (n + 1) ck))
    (g4 : w.frozen? ⟨R, p, none⟩ = false) (g5 : w.frozen? ⟨R, k, none⟩ = false) (hlt : k < n) (hp2 : p < n)
    (h : ∀ u76 u77 u78 u79 u80 u81 u82 u83 u84 u85 u86 u87 u88 u89 : Value, Q .normal ⟨#[c0, c1, c2, c3, c4, c5, c6, .slice (some ⟨R, 0, none⟩) n n, c8, .int .i64 (k : Int), .int .i64 (p : Int), c11, c12, c13, c14, c15, c16, c17, c18, c19, c20, c21, c22, c23, c24, c25, c26, c27, c28, c29, c30, c31, c32, c33, c34, c35, c36, c37, c38, c39, c40, c41, c42, c43, c44, c45, c46, c47, c48, c49, c50, c51, c52, c53, c54, c55, c56, c57, c58, c59, c60, c61, c62, c63, c64, c65, c66, c67, c68, c69, c70, c71, c72, c73, c74, c75, u76, u77, u78, u79, u80, u81, u82, u83, u84, u85, u86, u87, u88, u89, c90, c91, c92, c93, c94, c95, c96, c97, c98, c99, c100, c101, c102, c103, c104, c105, c106, c107, c108, c109, c110, c111, c112, c113, c114, c115, c116, c117, c118, c119, c120, c121, c122, c123, c124, c125, c126, c127, c128, c129, c130, c131, c132, c133, c134, c135, c136, c137, c138, c139, c140, c141, c142, c143, c144, c145, c146, c147, c148, c149, c150, c151, c152, c153, c154, c155, c156, c157, c158, c159, c160, c161, c162, c163, c164, c165, c166, c167, c168, c169, c170, c171, c172, c173, c174, c175, c176, c177, c178, c179, c180, c181, c182, c183, c184, c185, c186, c187, c188, c189, c190, c191, c192, c193, c194, c195, c196, c197, c198, c199, c200, c201, c202], []⟩ (((w.setCell ⟨R, p, none⟩ (.slice (some ⟨gk, 0, none⟩) (n + 1) ck)).setCell ⟨R, k, none⟩ (.slice (some ⟨gp, 0, none⟩) (n + 1) cp)).drew)) :
    Code.wp Tryz.prog rreg19 Q ⟨#[c0, c1, c2, c3, c4, c5, c6, .slice (some ⟨R, 0, none⟩) n n, c8, .int .i64 (k : Int), .int .i64 (p : Int), c11, c12, c13, c14, c15, c16, c17, c18, c19, c20, c21, c22, c23, c24, c25, c26, c27, c28, c29, c30, c31, c32, c33, c34, c35, c36, c37, c38, c39, c40, c41, c42, c43, c44, c45, c46, c47, c48, c49, c50, c51, c52, c53, c54, c55, c56, c57, c58, c59, c60, c61, c62, c63, c64, c65, c66, c67, c68, c69, c70, c71, c72, c73, c74, c75, a76, a77, a78, a79, a80, a81, a82, a83, a84, a85, a86, a87, a88, a89, c90, c91, c92, c93, c94, c95, c96, c97, c98, c99, c100, c101, c102, c103, c104, c105, c106, c107, c108, c109, c110, c111, c112, c113, c114, c115, c116, c117, c118, c119, c120, c121, c122, c123, c124, c125, c126, c127, c128, c129, c130, c131, c132, c133, c134, c135, c136, c137, c138, c139, c140, c141, c142, c143, c144, c145, c146, c147, c148, c149, c150, c151, c152, c153, c154, c155, c156, c157, c158, c159, c160, c161, c162, c163, c164, c165, c166, c167, c168, c169, c170, c171, c172, c173, c174, c175, c176, c177, c178, c179, c180, c181, c182, c183, c184, c185, c186, c187, c188, c189, c190, c191, c192, c193, c194, c195, c196, c197, c198, c199, c200, c201, c202], []⟩ w := by
  have s0 : (0 : Int) ≤ (p : Int) := by omega
  have s7 : (0 : Int) ≤ (k : Int) := by omega
  have s2 : (p : Int) < (n : Int) := by omega
  have s3 : (k : Int) < (n : Int) := by omega
  obtain ⟨v2, hv2⟩ : ∃ u, (w.setCell ⟨R, p, none⟩ (.slice (some ⟨gk, 0, none⟩) (n + 1) ck)).cell? ⟨R, k, none⟩ = some u := set_some g2 g3 _
  conv => arg 2; whnf
  conv => arg 4; zeta
  replace h := Lib.hid h
  refine wp_region_noPanic ?_
  refine wp_region_held_drew (S := fun _ => True) (by kernel_rfl) trivial (fun _ => ?_)
  refine wpAnyH_take (i := 0) (oi := _) (v := ?_) rfl (by kernel_rfl) (by kernel_rfl) (by kernel_rfl) (fun _ _ _ h => h) (Or.inl ⟨by rfl, ?_⟩) trivial ?_
  rotate_left
  · (intro w hSw; go_simp <;> with_reducible rfl)
  try simp only [Act.put, List.setIfInBounds_toArray]
  refine wpAnyH_take (i := 1) (oi := _) (v := ?_) rfl (by kernel_rfl) (by kernel_rfl) (by kernel_rfl) (fun _ _ _ h => h) (Or.inl ⟨by rfl, ?_⟩) trivial ?_
  rotate_left
  · (intro w hSw; go_simp <;> with_reducible rfl)
  try simp only [Act.put]
  refine wpAnyH_take (i := 2) (oi := _) (v := ?_) rfl (by kernel_rfl) (by kernel_rfl) (by kernel_rfl) (fun _ _ _ h => h) (Or.inl ⟨by rfl, ?_⟩) trivial ?_
  rotate_left
  · (intro w hSw; go_simp <;> with_reducible rfl)
  try simp only [Act.put]
  refine wpAnyH_take (i := 3) (oi := _) (v := ?_) rfl (by kernel_rfl) (by kernel_rfl) (by kernel_rfl) (fun _ _ _ h => h) (Or.inl ⟨by rfl, ?_⟩) trivial ?_
  rotate_left
  · (intro w hSw; go_simp <;> with_reducible rfl)
  try simp only [Act.put]
  refine wpAnyH_take (i := 4) (oi := _) (v := ?_) rfl (by kernel_rfl) (by kernel_rfl) (by kernel_rfl) (fun _ _ _ h => h) (Or.inl ⟨by rfl, ?_⟩) trivial ?_
  rotate_left
  · (intro w hSw; go_simp <;> with_reducible rfl)
  try simp only [Act.put]
  refine wpAnyH_take (i := 5) (oi := _) (v := ?_) rfl (by kernel_rfl) (by kernel_rfl) (by kernel_rfl) (fun _ _ _ h => h) (Or.inl ⟨by rfl, ?_⟩) trivial ?_
  rotate_left
  · (intro w hSw; go_simp <;> with_reducible rfl)
  try simp only [Act.put]
  refine wpAnyH_take (i := 6) (oi := _) (v := ?_) rfl (by kernel_rfl) (by kernel_rfl) (by kernel_rfl) (fun _ _ _ h => h) (Or.inl ⟨by rfl, ?_⟩) trivial ?_
  rotate_left
  · (intro w hSw; go_simp <;> with_reducible rfl)
  try simp only [Act.put]
  refine wpAnyH_take (i := 8) (oi := _) (v := ?_) rfl (by kernel_rfl) (by kernel_rfl) (by kernel_rfl) (fun _ _ _ h => h) (Or.inl ⟨by rfl, ?_⟩) trivial ?_
  rotate_left
  · (intro w hSw; go_simp <;> with_reducible rfl)
  try simp only [Act.put]
  refine wpAnyH_take (i := 9) (oi := _) (v := ?_) rfl (by kernel_rfl) (by kernel_rfl) (by kernel_rfl) (fun _ _ _ h => h) (Or.inl ⟨by rfl, ?_⟩) trivial ?_
  rotate_left
  · (intro w hSw; go_simp <;> with_reducible rfl)
  try simp only [Act.put]
  refine wpAnyH_take (i := 10) (oi := _) (v := ?_) rfl (by kernel_rfl) (by kernel_rfl) (by kernel_rfl) (fun _ _ _ h => h) (Or.inl ⟨by rfl, ?_⟩) trivial ?_
  rotate_left
  · (intro w hSw; go_simp <;> with_reducible rfl)
  try simp only [Act.put]
  refine wpAnyH_ready (rs := [7, 11]) (by kernel_rfl) (by simp) ?_
  refine AllReadyH.cons (o := _) rfl (fun K hK => ?_) ?_
  · go_simp
    refine hK.out _ _ trivial (fun _ => ?_)
    clear hK K
    try simp only [Act.put, List.setIfInBounds_toArray, List.set_cons_zero, List.set_cons_succ]
    refine wpAnyH_ready (rs := [11]) (by kernel_rfl) (by simp) ?_
    refine AllReadyH.cons (o := _) rfl (fun K hK => ?_) ?_
    · go_simp
      refine hK.out _ _ trivial (fun _ => ?_)
      clear hK K
      try simp only [Act.put, List.setIfInBounds_toArray, List.set_cons_zero, List.set_cons_succ]
      refine wpAnyH_take (i := 12) (oi := _) (v := ?_) rfl (by kernel_rfl) (by kernel_rfl) (by kernel_rfl) (fun _ _ _ h => h) (Or.inl ⟨by rfl, ?_⟩) trivial ?_
      rotate_left
      · (intro w hSw; go_simp <;> with_reducible rfl)
      try simp only [Act.put, List.setIfInBounds_toArray]
      refine wpAnyH_ready (rs := [13]) (by kernel_rfl) (by simp) ?_
      refine AllReadyH.cons (o := _) rfl (fun K hK => ?_) ?_
      · go_simp
        refine hK.out _ _ trivial (fun _ => ?_)
        clear hK K
        try simp only [Act.put, List.setIfInBounds_toArray, List.set_cons_zero, List.set_cons_succ]
        refine wpAnyH_take (i := 14) (oi := _) (v := ?_) rfl (by kernel_rfl) (by kernel_rfl) (by kernel_rfl) (fun _ _ _ h => h) (Or.inl ⟨by rfl, ?_⟩) trivial ?_
        rotate_left
        · (intro w hSw; go_simp <;> with_reducible rfl)
        try simp only [Act.put, List.setIfInBounds_toArray]
        refine wpAnyH_ready (rs := [15]) (by kernel_rfl) (by simp) ?_
        refine AllReadyH.cons (o := _) rfl (fun K hK => ?_) ?_
        · go_simp
          refine hK.out _ _ trivial (fun _ => ?_)
          clear hK K
          try simp only [Act.put, List.setIfInBounds_toArray, List.set_cons_zero, List.set_cons_succ]
          refine wpAnyH_done (by kernel_rfl) ?_ _
          refine NoPanic.normal ?_
          exact h.out ..
        exact AllReadyH.nil
      exact AllReadyH.nil
    exact AllReadyH.nil
  refine AllReadyH.cons (o := _) rfl (fun K hK => ?_) ?_
  · go_simp
    refine hK.out _ _ trivial (fun _ => ?_)
    clear hK K
    try simp only [Act.put, List.setIfInBounds_toArray, List.set_cons_zero, List.set_cons_succ]
    refine wpAnyH_ready (rs := [7]) (by kernel_rfl) (by simp) ?_
    refine AllReadyH.cons (o := _) rfl (fun K hK => ?_) ?_
    · go_simp
      refine hK.out _ _ trivial (fun _ => ?_)
      clear hK K
      try simp only [Act.put, List.setIfInBounds_toArray, List.set_cons_zero, List.set_cons_succ]
      refine wpAnyH_take (i := 12) (oi := _) (v := ?_) rfl (by kernel_rfl) (by kernel_rfl) (by kernel_rfl) (fun _ _ _ h => h) (Or.inl ⟨by rfl, ?_⟩) trivial ?_
      rotate_left
      · (intro w hSw; go_simp <;> with_reducible rfl)
      try simp only [Act.put, List.setIfInBounds_toArray]
      refine wpAnyH_ready (rs := [13]) (by kernel_rfl) (by simp) ?_
      refine AllReadyH.cons (o := _) rfl (fun K hK => ?_) ?_
      · go_simp
        refine hK.out _ _ trivial (fun _ => ?_)
        clear hK K
        try simp only [Act.put, List.setIfInBounds_toArray, List.set_cons_zero, List.set_cons_succ]
        refine wpAnyH_take (i := 14) (oi := _) (v := ?_) rfl (by kernel_rfl) (by kernel_rfl) (by kernel_rfl) (fun _ _ _ h => h) (Or.inl ⟨by rfl, ?_⟩) trivial ?_
        rotate_left
        · (intro w hSw; go_simp <;> with_reducible rfl)
        try simp only [Act.put, List.setIfInBounds_toArray]
        refine wpAnyH_ready (rs := [15]) (by kernel_rfl) (by simp) ?_
        refine AllReadyH.cons (o := _) rfl (fun K hK => ?_) ?_
        · go_simp
          refine hK.out _ _ trivial (fun _ => ?_)
          clear hK K
          try simp only [Act.put, List.setIfInBounds_toArray, List.set_cons_zero, List.set_cons_succ]
          refine wpAnyH_done (by kernel_rfl) ?_ _
          refine NoPanic.normal ?_
          exact h.out ..
        exact AllReadyH.nil
      exact AllReadyH.nil
    exact AllReadyH.nil
  exact AllReadyH.nil
end Nt
end Go.Proofs.YtjjlnahipiinfaaGreatDoor

namespace Go.Proofs.YtjjlnahipiinfaaGreatDoor
open Go.RowKit Go.Shelf
namespace Nt

/-- What holds ahead of column y. -/
def RCol (w : World) (R n : Nat) (M0 : Mx) (y : Nat) (wq : World) : Prop :=
  ∃ (v : Nat → Value) (M : Mx), Hid (solveTo SQ n y M0 = .ok M) ∧ Hid (MatV wq w.heap.size R n n v M) ∧ Hid (∀ a b, a < n → b ≤ n → OkQ (M a b)) ∧ Hid (Below w.heap.size w wq)

set_option maxRecDepth 1000000 in
set_option maxHeartbeats 16000000 in
theorem col_loop {c0 c1 c2 c3 c8 c20 c21 c22 c23 c24 c25 c26 c27 c28 c29 c30 c31 c32 c33 c34 c35 c36 c37 c38 c39 c40 c41 c42 c43 c44 c45 c46 c47 c48 c49 c50 c51 c187 c188 c189 c190 c191 c192 c193 c194 c195 c196 c197 c198 c199 c200 c201 c202 a4 a5 a10 a11 a12 a13 a14 a15 a16 a17 a18 a19 a52 a53 a54 a55 a56 a57 a58 a59 a60 a61 a62 a63 a64 a65 a66 a67 a68 a69 a70 a71 a72 a73 a74 a75 a76 a77 a78 a79 a80 a81 a82 a83 a84 a85 a86 a87 a88 a89 a90 a91 a92 a93 a94 a95 a96 a97 a98 a99 a100 a101 a102 a103 a104 a105 a106 a107 a108 a109 a110 a111 a112 a113 a114 a115 a116 a117 a118 a119 a120 a121 a122 a123 a124 a125 a126 a127 a128 a129 a130 a131 a132 a133 a134 a135 a136 a137 a138 a139 a140 a141 a142 a143 a144 a145 a146 a147 a148 a149 a150 a151 a152 a153 a154 a155 a156 a157 a158 a159 a160 a161 a162 a163 a164 a165 a166 a167 a168 a169 a170 a171 a172 a173 a174 a175 a176 a177 a178 a179 a180 a181 a182 a183 a184 a185 a186 : Value} {Q : Exit → Act → World → Prop} (R n : Nat) (M0 : Mx) (w w0 : World) (hn8 : n ≤ 8) (hst0 : RCol w R n M0 0 w0)
    (hx : ∀ (u4 u5 u10 u11 u12 u13 u14 u15 u16 u17 u18 u19 u52 u53 u54 u55 u56 u57 u58 u59 u60 u61 u62 u63 u64 u65 u66 u67 u68 u69 u70 u71 u72 u73 u74 u75 u76 u77 u78 u79 u80 u81 u82 u83 u84 u85 u86 u87 u88 u89 u90 u91 u92 u93 u94 u95 u96 u97 u98 u99 u100 u101 u102 u103 u104 u105 u106 u107 u108 u109 u110 u111 u112 u113 u114 u115 u116 u117 u118 u119 u120 u121 u122 u123 u124 u125 u126 u127 u128 u129 u130 u131 u132 u133 u134 u135 u136 u137 u138 u139 u140 u141 u142 u143 u144 u145 u146 u147 u148 u149 u150 u151 u152 u153 u154 u155 u156 u157 u158 u159 u160 u161 u162 u163 u164 u165 u166 u167 u168 u169 u170 u171 u172 u173 u174 u175 u176 u177 u178 u179 u180 u181 u182 u183 u184 u185 u186 : Value) (wq : World), RCol w R n M0 n wq → Q (.exit 2) ⟨#[c0, c1, c2, c3, u4, u5, .int .i64 (n : Int), .slice (some ⟨R, 0, none⟩) n n, c8, .int .i64 (n : Int), u10, u11, u12, u13, u14, u15, u16, u17, u18, u19, c20, c21, c22, c23, c24, c25, c26, c27, c28, c29, c30, c31, c32, c33, c34, c35, c36, c37, c38, c39, c40, c41, c42, c43, c44, c45, c46, c47, c48, c49, c50, c51, u52, u53, u54, u55, u56, u57, u58, u59, u60, u61, u62, u63, u64, u65, u66, u67, u68, u69, u70, u71, u72, u73, u74, u75, u76, u77, u78, u79, u80, u81, u82, u83, u84, u85, u86, u87, u88, u89, u90, u91, u92, u93, u94, u95, u96, u97, u98, u99, u100, u101, u102, u103, u104, u105, u106, u107, u108, u109, u110, u111, u112, u113, u114, u115, u116, u117, u118, u119, u120, u121, u122, u123, u124, u125, u126, u127, u128, u129, u130, u131, u132, u133, u134, u135, u136, u137, u138, u139, u140, u141, u142, u143, u144, u145, u146, u147, u148, u149, u150, u151, u152, u153, u154, u155, u156, u157, u158, u159, u160, u161, u162, u163, u164, u165, u166, u167, u168, u169, u170, u171, u172, u173, u174, u175, u176, u177, u178, u179, u180, u181, u182, u183, u184, u185, u186, c187, c188, c189, c190, c191, c192, c193, c194, c195, c196, c197, c198, c199, c200, c201, c202], []⟩ wq)
    (hr : ∀ (er : Int) (u9 u10 u11 u12 u13 u14 u15 u16 u17 u18 u19 u52 u53 u54 u55 u56 u57 u58 u59 u60 u61 u62 u63 u64 u65 u66 u67 u68 u69 u70 u71 u72 u73 u74 u75 u76 u77 u78 u79 u80 u81 u82 u83 u84 u85 u86 u87 u88 u89 u90 u91 u92 u93 u94 u95 u96 u97 u98 u99 u100 u101 u102 u103 u104 u105 u106 u107 u108 u109 u110 u111 u112 u113 u114 u115 u116 u117 u118 u119 u120 u121 u122 u123 u124 u125 u126 u127 u128 u129 u130 u131 u132 u133 u134 u135 u136 u137 u138 u139 u140 u141 u142 u143 u144 u145 u146 u147 u148 u149 u150 u151 u152 u153 u154 u155 u156 u157 u158 u159 u160 u161 u162 u163 u164 u165 u166 u167 u168 u169 u170 u171 u172 u173 u174 u175 u176 u177 u178 u179 u180 u181 u182 u183 u184 u185 u186 : Value) (wq : World), Below w.heap.size w wq → solveTo SQ n n M0 = .error er → Q .ret ⟨#[c0, c1, c2, c3, .slice none 0 0, .int .i64 er, .int .i64 (n : Int), .slice (some ⟨R, 0, none⟩) n n, c8, u9, u10, u11, u12, u13, u14, u15, u16, u17, u18, u19, c20, c21, c22, c23, c24, c25, c26, c27, c28, c29, c30, c31, c32, c33, c34, c35, c36, c37, c38, c39, c40, c41, c42, c43, c44, c45, c46, c47, c48, c49, c50, c51, u52, u53, u54, u55, u56, u57, u58, u59, u60, u61, u62, u63, u64, u65, u66, u67, u68, u69, u70, u71, u72, u73, u74, u75, u76, u77, u78, u79, u80, u81, u82, u83, u84, u85, u86, u87, u88, u89, u90, u91, u92, u93, u94, u95, u96, u97, u98, u99, u100, u101, u102, u103, u104, u105, u106, u107, u108, u109, u110, u111, u112, u113, u114, u115, u116, u117, u118, u119, u120, u121, u122, u123, u124, u125, u126, u127, u128, u129, u130, u131, u132, u133, u134, u135, u136, u137, u138, u139, u140, u141, u142, u143, u144, u145, u146, u147, u148, u149, u150, u151, u152, u153, u154, u155, u156, u157, u158, u159, u160, u161, u162, u163, u164, u165, u166, u167, u168, u169, u170, u171, u172, u173, u174, u175, u176, u177, u178, u179, u180, u181, u182, u183, u184, u185, u186, c187, c188, c189, c190, c191, c192, c193, c194, c195, c196, c197, c198, c199, c200, c201, c202], []⟩ wq) :
    Code.wp Tryz.prog (Code.loop (rbody 1)) Q ⟨#[c0, c1, c2, c3, a4, a5, .int .i64 (n : Int), .slice (some ⟨R, 0, none⟩) n n, c8, .int .i64 0, a10, a11, a12, a13, a14, a15, a16, a17, a18, a19, c20, c21, c22, c23, c24, c25, c26, c27, c28, c29, c30, c31, c32, c33, c34, c35, c36, c37, c38, c39, c40, c41, c42, c43, c44, c45, c46, c47, c48, c49, c50, c51, a52, a53, a54, a55, a56, a57, a58, a59, a60, a61, a62, a63, a64, a65, a66, a67, a68, a69, a70, a71, a72, a73, a74, a75, a76, a77, a78, a79, a80, a81, a82, a83, a84, a85, a86, a87, a88, a89, a90, a91, a92, a93, a94, a95, a96, a97, a98, a99, a100, a101, a102, a103, a104, a105, a106, a107, a108, a109, a110, a111, a112, a113, a114, a115, a116, a117, a118, a119, a120, a121, a122, a123, a124, a125, a126, a127, a128, a129, a130, a131, a132, a133, a134, a135, a136, a137, a138, a139, a140, a141, a142, a143, a144, a145, a146, a147, a148, a149, a150, a151, a152, a153, a154, a155, a156, a157, a158, a159, a160, a161, a162, a163, a164, a165, a166, a167, a168, a169, a170, a171, a172, a173, a174, a175, a176, a177, a178, a179, a180, a181, a182, a183, a184, a185, a186, c187, c188, c189, c190, c191, c192, c193, c194, c195, c196, c197, c198, c199, c200, c201, c202], []⟩ w0 := by
  conv => arg 2; arg 1; whnf
  conv => arg 4; zeta
  replace hst0 := Lib.hid hst0
  replace hx := Lib.hid hx
  replace hr := Lib.hid hr
  go_loopw [9] (fun i wq => ∃ y : Nat, y ≤ n ∧ i = .int .i64 (y : Int) ∧ Hid (RCol w R n M0 y wq)) (fun i _ => n - (intOf i).toNat)
  case atStart => exact ⟨0, Nat.zero_le _, rfl, hst0.out⟩
  case round =>
    obtain ⟨k, hk, rfl, hI⟩ := hrel
    by_cases hlt : k < n
    · obtain ⟨v, M, hS, hM, hO, hBr⟩ := hI.out
      clear hI
      have k0 : (0 : Int) ≤ (k : Int) := by omega
      have k1 : (k : Int) < (n : Int) := by omega
      go_wp2
      refine first_loop R n k v M w _ hn8 hlt ⟨hM, hBr, fun j h1 h2 => absurd h2 (by omega)⟩ ?_
      intro p f58 f59 f60 f61 f62 f63 f64 f65 f66 f67 f68 f69 f70 f71 f72 w2 hp1 hp2 hp3 hq
      obtain ⟨hM2, hB2, hZ⟩ := hq
      by_cases hpn : p < n
      · have hp3' := hp3 hpn
        have hp : pivot n k M (n - k) = some p := pivot_step (by omega) (by omega) hpn hp3' fun i a b => hZ.out i (by omega) b
        have hst : Hid (stepK SQ n k M = if okDiv SQ n k (swapR k p M) = true then (match elimTo SQ n k n (divMx k (swapR k p M)) with | some M' => .ok M' | none => .error 2) else .error 2) := by
          unfold Hid stepK; rw [hp]; rfl
        have hpv : Hid (swapR k p M k k ≠ 0) := by unfold Hid swapR; rw [if_pos rfl]; exact hp3'
        have hO4 : Hid (∀ i j, i < n → j ≤ n → OkQ (swapR k p M i j)) := fun i j hi hj => by
          unfold swapR
          split
          · exact hO.out _ _ hpn hj
          · split
            · exact hO.out _ _ hlt hj
            · exact hO.out _ _ hi hj
        obtain ⟨gk, ck, ek, bk1, bk2, bk3, bk4, _⟩ := hM2.out.form hlt
        obtain ⟨gp, cp, ep, bp1, bp2, bp3, bp4, _⟩ := hM2.out.form hpn
        have g2 := (hM2.out.hd p hpn).trans (congrArg some ep)
        have g3 := (hM2.out.hd k hlt).trans (congrArg some ek)
        have g4 := hM2.out.fr p
        have g5 := hM2.out.fr k
        have t1 : (p == n) = false := by rw [beq_eq_false_iff_ne]; omega
        have t2 : ((p : Int) == (n : Int)) = false := by rw [beq_eq_false_iff_ne]; omega
        have hpn2 : ¬ p = n := by omega
        have hM3 : Hid (MatV ((w2.setCell ⟨R, p, none⟩ (.slice (some ⟨gk, 0, none⟩) (n + 1) ck)).setCell ⟨R, k, none⟩ (.slice (some ⟨gp, 0, none⟩) (n + 1) cp)).drew w.heap.size R n n (swapV k p v) (swapR k p M)) := by
          have h := hM2.out.swap hlt hpn
          rw [ek, ep] at h
          exact h.drew
        have hB3 : Hid (Below w.heap.size w ((w2.setCell ⟨R, p, none⟩ (.slice (some ⟨gk, 0, none⟩) (n + 1) ck)).setCell ⟨R, k, none⟩ (.slice (some ⟨gp, 0, none⟩) (n + 1) cp)).drew) := ((hB2.out.setCell (p := ⟨R, p, none⟩) hM2.out.lowR _).setCell (p := ⟨R, k, none⟩) hM2.out.lowR _).drew
        clear hp hp3 hp3' hZ bk1 bk2 bk3 bk4 bp1 bp2 bp3 bp4 ek ep hM hBr
        go_wp2_with fail
        refine rswap_reg R n k p gk ck gp cp w2 g2 g3 g4 g5 hlt hpn ?_
        intro x76 x77 x78 x79 x80 x81 x82 x83 x84 x85 x86 x87 x88 x89
        obtain ⟨w3, hw3⟩ : ∃ W, W = ((w2.setCell ⟨R, p, none⟩ (.slice (some ⟨gk, 0, none⟩) (n + 1) ck)).setCell ⟨R, k, none⟩ (.slice (some ⟨gp, 0, none⟩) (n + 1) cp)).drew := ⟨_, rfl⟩
        rw [← hw3] at hM3 hB3 ⊢
        clear hw3 g2 g3 g4 g5 t1 t2 hpn2 hM2 hB2
        generalize swapR k p M = M1 at *
        generalize swapV k p v = v1 at *
        obtain ⟨g, c, e, b1, b2, b3, b4, b5⟩ := hM3.out.form hlt
        obtain ⟨e1, e2, e3⟩ := b5 k (by omega)
        have hd := (hM3.out.hd k hlt).trans (congrArg some e)
        obtain ⟨pg, pn, pd, hpq⟩ := raw_ex (M1 k k)
        rw [hpq] at e1 e2 e3
        have j4 : (k : Int) < (n : Int) + 1 := by omega
        have hvl : Hid (∀ a, a < n → (v1 a).ownBlock ≠ some w3.heap.size) := fun a ha hb => by have := ((hM3.out.rows a ha).lt _ hb).2; omega
        have hM4 := Lib.hid (hM3.out.alloc (.cells #[.bool pg, .string pn, .string pd] 31))
        have hB4 := Lib.hid (hB3.out.alloc hB3.out.size (.cells #[.bool pg, .string pn, .string pd] 31))
        have hf4 : Hid (B3 (w3.alloc (.cells #[.bool pg, .string pn, .string pd] 31)) w3.heap.size (rq (M1 k k)).1 (rq (M1 k k)).2.1 (rq (M1 k k)).2.2) := by rw [hpq]; exact B3.new w3 _ _ _
        clear hpq b1 b2 b3 b4 b5 e
        go_wp2
        have hM5 : Hid (MatV (w3.alloc (.cells #[.bool pg, .string pn, .string pd] 31)) w.heap.size R n n v1 (divP k k M1)) := by rw [divP_start]; exact hM4.out
        clear e1 e2 e3 hd hM4
        refine div_loop R n k w3.heap.size v1 M1 w _ hn8 hlt hpv.out hO4.out hvl.out ⟨hM5, hf4, hB4, fun b h1 h2 => absurd h2 (by omega)⟩ ?_ ?_
        · intro d4 d5 d13 d14 d98 d99 d100 d101 d102 d103 d104 d105 d106 d107 d108 d109 d110 d111 d112 d113 d114 d115 d116 d117 d118 d119 d120 d121 d122 d123 d124 w5 hq
          obtain ⟨hM6, _, hB6, hSh⟩ := hq
          have hok : okDiv SQ n k M1 = true := (okDiv_iff SQ).2 fun j a b => by
            obtain ⟨s1, s2⟩ := hSh.out j a (by omega)
            exact ⟨decide_eq_true s1, decide_eq_true s2⟩
          have hst2 : Hid (stepK SQ n k M = (match elimTo SQ n k n (divMx k M1) with | some M' => .ok M' | none => .error 2)) := by
            have h := hst.out
            rw [if_pos hok] at h
            exact h
          have hO7 : Hid (∀ i j, i < n → j ≤ n → OkQ (divMx k M1 i j)) := fun i j hi hj => by
            unfold divMx
            split
            · rename_i hc
              obtain ⟨s1, s2⟩ := (okDiv_iff SQ).1 hok j hc.2 hj
              exact okQ_div (of_decide_eq_true s1) (of_decide_eq_true s2) hpv.out
            · exact hO4.out i j hi hj
          have hM7 : Hid (MatV w5 w.heap.size R n n v1 (divMx k M1)) := hM6.out.congr fun a b _ hb => divP_end M1 a b hb
          clear hst hok hSh hM6 hM5 hf4 hB4 hM3 hB3 hvl
          generalize divMx k M1 = M2 at *
          clear hO4 hpv
          go_wp2
          refine row_loop R n k v1 M2 w _ hn8 hlt ⟨M2, rfl, hM7, hO7, hB6⟩ ?_ ?_
          · intro r4 r5 r16 r17 r18 r19 r125 r126 r127 r128 r129 r130 r131 r132 r133 r134 r135 r136 r137 r138 r139 r140 r141 r142 r143 r144 r145 r146 r147 r148 r149 r150 r151 r152 r153 r154 r155 r156 r157 r158 r159 r160 r161 r162 r163 r164 r165 r166 r167 r168 r169 r170 r171 r172 r173 r174 r175 r176 r177 r178 r179 r180 r181 r182 r183 r184 r185 r186 w6 hq
            obtain ⟨M3, hel, hM8, hO8, hB8⟩ := hq
            have hst3 : Hid (solveTo SQ n (k + 1) M0 = .ok M3) := by
              show solveTo SQ n (k + 1) M0 = .ok M3
              unfold solveTo
              rw [hS.out]
              show stepK SQ n k M = .ok M3
              rw [hst2.out, hel.out]
            clear hM7 hO7 hB6 hst2 hel hS hO
            go_wp2
            go_roundw
            case rel => exact ⟨k + 1, by omega, by go_num, v1, M3, hst3, hM8, hO8, hB8⟩
            case measure => simp [intOf]; omega
          · intro r15 r16 r17 r18 r19 r125 r126 r127 r128 r129 r130 r131 r132 r133 r134 r135 r136 r137 r138 r139 r140 r141 r142 r143 r144 r145 r146 r147 r148 r149 r150 r151 r152 r153 r154 r155 r156 r157 r158 r159 r160 r161 r162 r163 r164 r165 r166 r167 r168 r169 r170 r171 r172 r173 r174 r175 r176 r177 r178 r179 r180 r181 r182 r183 r184 r185 r186 w6 hbq hnone
            have hE9 := Lib.hid (solve_err hS.out (show stepK SQ n k M = .error 2 by rw [hst2.out, hnone]) hlt)
            replace hbq := Lib.hid hbq
            clear hM7 hO7 hB6 hst2 hS hO hnone
            go_wp2
            apply hr.out 2
            · exact hbq.out
            · exact hE9.out
        · intro d12 d13 d14 d98 d99 d100 d101 d102 d103 d104 d105 d106 d107 d108 d109 d110 d111 d112 d113 d114 d115 d116 d117 d118 d119 d120 d121 d122 d123 d124 w5 hbq hno
          have hst2 : stepK SQ n k M = .error 2 := by
            have h := hst.out
            rw [hno, if_neg (by simp)] at h
            exact h
          have hE9 := Lib.hid (solve_err hS.out hst2 hlt)
          replace hbq := Lib.hid hbq
          clear hst hst2 hno hS hO hO4 hpv hM5 hf4 hB4 hM3 hB3 hvl
          go_wp2
          apply hr.out 2
          · exact hbq.out
          · exact hE9.out
      · obtain rfl : n = p := by omega
        have hst : stepK SQ n k M = .error 12 := by
          unfold stepK
          rw [pivot_no (by omega) fun i a b => hZ.out i (by omega) b]
        have hE9 := Lib.hid (solve_err hS.out hst hlt)
        have t1 : (n == n) = true := by simp
        have t2 : ((n : Int) == (n : Int)) = true := by simp
        clear hst hp3 hZ hS hO hM2 hM hBr
        go_wp2
        apply hr.out 12
        · exact hB2.out
        · exact hE9.out
    · obtain rfl : n = k := by omega
      go_wp2
      apply hx.out
      exact hI.out
end Nt
end Go.Proofs.YtjjlnahipiinfaaGreatDoor

namespace Go.Proofs.YtjjlnahipiinfaaGreatDoor
open Go.RowKit Go.Shelf
namespace Nt
noncomputable def rreg10 : Code := ((Tryz.f13.body.map regsOf).bind fun l => l[9]?).getD .skip
theorem set_far {W : World} {b c o x : Nat} {v : Value} (h : b ≠ c) : (W.setCell ⟨c, x, none⟩ v).cell? ⟨b, o, none⟩ = W.cell? ⟨b, o, none⟩ := World.cell?_setCell_other _ _ _ _ (by intro e; injection e with e1; first | exact h e1 | exact h e1.symm)
theorem add_block (b o j : Nat) : ((⟨b, o, none⟩ : Addr).add j) = ⟨b, o + j, none⟩ := by unfold Addr.add; split <;> simp_all
theorem raw_keep {W W' : World} {b : Nat} {l : List Value} (h : ∀ j u, l[j]? = some u → W.cell? (Addr.add ⟨b, 0, none⟩ j) = some u) (hb : b < W.heap.size) (hB : Below W.heap.size W W') : ∀ j u, l[j]? = some u → W'.cell? (Addr.add ⟨b, 0, none⟩ j) = some u := fun j u hj => by
  have h1 := h j u hj
  rw [add_block] at h1 ⊢
  exact (hB.cell (p := ⟨b, 0 + j, none⟩) hb).trans h1
theorem raw_grown {W W' : World} {b : Nat} {row : Option Nat} {l : List Value} (h : ∀ j u, l[j]? = some u → W.cell? (Addr.add ⟨b, 0, none⟩ j) = some u) (hb : b < W.heap.size) (hg : W.grownBy W' row) (hne : some b ≠ row) : ∀ j u, l[j]? = some u → W'.cell? (Addr.add ⟨b, 0, none⟩ j) = some u := fun j u hj => by
  have h1 := h j u hj
  rw [add_block] at h1 ⊢
  rw [World.cell?_of_block (a := ⟨b, 0 + j, none⟩) (hg.block b hb hne)]
  exact h1

set_option maxRecDepth 1000000 in
set_option maxHeartbeats 16000000 in
theorem rlay_reg {c2 c3 c4 c5 c6 c9 c10 c11 c12 c13 c14 c15 c16 c17 c18 c19 c20 c21 c22 c23 c24 c25 c26 c27 c28 c29 c30 c31 c32 c33 c34 c35 c36 c52 c53 c54 c55 c56 c57 c58 c59 c60 c61 c62 c63 c64 c65 c66 c67 c68 c69 c70 c71 c72 c73 c74 c75 c76 c77 c78 c79 c80 c81 c82 c83 c84 c85 c86 c87 c88 c89 c90 c91 c92 c93 c94 c95 c96 c97 c98 c99 c100 c101 c102 c103 c104 c105 c106 c107 c108 c109 c110 c111 c112 c113 c114 c115 c116 c117 c118 c119 c120 c121 c122 c123 c124 c125 c126 c127 c128 c129 c130 c131 c132 c133 c134 c135 c136 c137 c138 c139 c140 c141 c142 c143 c144 c145 c146 c147 c148 c149 c150 c151 c152 c153 c154 c155 c156 c157 c158 c159 c160 c161 c162 c163 c164 c165 c166 c167 c168 c169 c170 c171 c172 c173 c174 c175 c176 c177 c178 c179 c180 c181 c182 c183 c184 c185 c186 c187 c188 c189 c190 c191 c192 c193 c194 c195 c196 c197 c198 c199 c200 c201 c202 a37 a38 a39 a40 a41 a42 a43 a44 a45 a46 a47 a48 a49 a50 a51 : Value} {Q : Exit → Act → World → Prop} (R n i ba oa ca bb ob cb bx ox ci : Nat) (r : Nat → Raw) (xg : Bool) (xn xd : ByteArray) (u0 : Value) (w : World) (hn8 : n ≤ 8) (hlt : i < n)
    (hba : ba < w.heap.size) (hbb : bb < w.heap.size) (hbx : bx < w.heap.size) (hR : R < w.heap.size) (hnA : ba ≠ R) (hnB : bb ≠ R) (hx : r n = (xg, xn, xd))
    (ga : w.cell? ⟨ba, oa + i, none⟩ = some (.slice (some ⟨bx, ox, none⟩) n ci))
    (gb1 : w.cell? ⟨bb, ob + i * 3, none⟩ = some (.bool xg)) (gb2 : w.cell? ⟨bb, ob + i * 3 + 1, none⟩ = some (.string xn)) (gb3 : w.cell? ⟨bb, ob + i * 3 + 2, none⟩ = some (.string xd))
    (gx : ∀ j, j < n → w.cell? ⟨bx, ox + j * 3, none⟩ = some (.bool (r j).1) ∧ w.cell? ⟨bx, ox + j * 3 + 1, none⟩ = some (.string (r j).2.1) ∧ w.cell? ⟨bx, ox + j * 3 + 2, none⟩ = some (.string (r j).2.2))
    (gR : w.cell? ⟨R, i, none⟩ = some u0) (gf : w.frozen? ⟨R, i, none⟩ = false)
    (h : ∀ (u37 u38 u39 u40 u41 u42 u43 u44 u45 u46 u47 u48 u49 u50 u51 v : Value) (w' : World), Below w.heap.size w w' → w'.ownsRow w.heap.size 31 3 v (n + 1) (rowL (n + 1) r) → Q .normal ⟨#[.slice (some ⟨ba, oa, none⟩) n ca, .slice (some ⟨bb, ob, none⟩) n cb, c2, c3, c4, c5, c6, .slice (some ⟨R, 0, none⟩) n n, .int .i64 (i : Int), c9, c10, c11, c12, c13, c14, c15, c16, c17, c18, c19, c20, c21, c22, c23, c24, c25, c26, c27, c28, c29, c30, c31, c32, c33, c34, c35, c36, u37, u38, u39, u40, u41, u42, u43, u44, u45, u46, u47, u48, u49, u50, u51, c52, c53, c54, c55, c56, c57, c58, c59, c60, c61, c62, c63, c64, c65, c66, c67, c68, c69, c70, c71, c72, c73, c74, c75, c76, c77, c78, c79, c80, c81, c82, c83, c84, c85, c86, c87, c88, c89, c90, c91, c92, c93, c94, c95, c96, c97, c98, c99, c100, c101, c102, c103, c104, c105, c106, c107, c108, c109, c110, c111, c112, c113, c114, c115, c116, c117, c118, c119, c120, c121, c122, c123, c124, c125, c126, c127, c128, c129, c130, c131, c132, c133, c134, c135, c136, c137, c138, c139, c140, c141, c142, c143, c144, c145, c146, c147, c148, c149, c150, c151, c152, c153, c154, c155, c156, c157, c158, c159, c160, c161, c162, c163, c164, c165, c166, c167, c168, c169, c170, c171, c172, c173, c174, c175, c176, c177, c178, c179, c180, c181, c182, c183, c184, c185, c186, c187, c188, c189, c190, c191, c192, c193, c194, c195, c196, c197, c198, c199, c200, c201, c202], []⟩ (w'.setCell ⟨R, i, none⟩ v)) :
    Code.wp Tryz.prog rreg10 Q ⟨#[.slice (some ⟨ba, oa, none⟩) n ca, .slice (some ⟨bb, ob, none⟩) n cb, c2, c3, c4, c5, c6, .slice (some ⟨R, 0, none⟩) n n, .int .i64 (i : Int), c9, c10, c11, c12, c13, c14, c15, c16, c17, c18, c19, c20, c21, c22, c23, c24, c25, c26, c27, c28, c29, c30, c31, c32, c33, c34, c35, c36, a37, a38, a39, a40, a41, a42, a43, a44, a45, a46, a47, a48, a49, a50, a51, c52, c53, c54, c55, c56, c57, c58, c59, c60, c61, c62, c63, c64, c65, c66, c67, c68, c69, c70, c71, c72, c73, c74, c75, c76, c77, c78, c79, c80, c81, c82, c83, c84, c85, c86, c87, c88, c89, c90, c91, c92, c93, c94, c95, c96, c97, c98, c99, c100, c101, c102, c103, c104, c105, c106, c107, c108, c109, c110, c111, c112, c113, c114, c115, c116, c117, c118, c119, c120, c121, c122, c123, c124, c125, c126, c127, c128, c129, c130, c131, c132, c133, c134, c135, c136, c137, c138, c139, c140, c141, c142, c143, c144, c145, c146, c147, c148, c149, c150, c151, c152, c153, c154, c155, c156, c157, c158, c159, c160, c161, c162, c163, c164, c165, c166, c167, c168, c169, c170, c171, c172, c173, c174, c175, c176, c177, c178, c179, c180, c181, c182, c183, c184, c185, c186, c187, c188, c189, c190, c191, c192, c193, c194, c195, c196, c197, c198, c199, c200, c201, c202], []⟩ w := by
  have j0 : (0 : Int) ≤ (i : Int) := by omega
  have j1 : (i : Int) < (n : Int) := by omega
  have HO : Hid (∀ W, Below w.heap.size w W → W.cell? ⟨ba, oa + i, none⟩ = some (.slice (some ⟨bx, ox, none⟩) n ci) ∧ W.cell? ⟨bb, ob + i * 3, none⟩ = some (.bool xg) ∧ W.cell? ⟨bb, ob + i * 3 + 1, none⟩ = some (.string xn) ∧ W.cell? ⟨bb, ob + i * 3 + 2, none⟩ = some (.string xd)) := fun W hb => ⟨(hb.cell (p := ⟨ba, _, none⟩) hba).trans ga, (hb.cell (p := ⟨bb, _, none⟩) hbb).trans gb1, (hb.cell (p := ⟨bb, _, none⟩) hbb).trans gb2, (hb.cell (p := ⟨bb, _, none⟩) hbb).trans gb3⟩
  have HX : Hid (∀ W, Below w.heap.size w W → ∀ j, j < n → W.cell? ⟨bx, ox + j * 3, none⟩ = some (.bool (r j).1) ∧ W.cell? ⟨bx, ox + j * 3 + 1, none⟩ = some (.string (r j).2.1) ∧ W.cell? ⟨bx, ox + j * 3 + 2, none⟩ = some (.string (r j).2.2)) := fun W hb j hj =>
    ⟨(hb.cell (p := ⟨bx, _, none⟩) hbx).trans (gx j hj).1, (hb.cell (p := ⟨bx, _, none⟩) hbx).trans (gx j hj).2.1, (hb.cell (p := ⟨bx, _, none⟩) hbx).trans (gx j hj).2.2⟩
  obtain ⟨i0, hi0, hzz⟩ := Option.map_eq_some_iff.1 infoQ
  simp only [Prod.mk.injEq] at hzz
  obtain ⟨hz0, hz1, hz2⟩ := hzz
  replace hnA := Lib.hid hnA
  replace hnB := Lib.hid hnB
  replace hi0 := Lib.hid hi0
  replace hz0 := Lib.hid hz0
  replace hz1 := Lib.hid hz1
  replace hz2 := Lib.hid hz2
  clear ga gb1 gb2 gb3 gx
  conv => arg 2; whnf
  conv => arg 4; zeta
  replace h := Lib.hid h
  have HO2 : Hid (∀ W v, Below w.heap.size w W → (W.setCell ⟨R, i, none⟩ v).cell? ⟨ba, oa + i, none⟩ = some (.slice (some ⟨bx, ox, none⟩) n ci) ∧ (W.setCell ⟨R, i, none⟩ v).cell? ⟨bb, ob + i * 3, none⟩ = some (.bool xg) ∧ (W.setCell ⟨R, i, none⟩ v).cell? ⟨bb, ob + i * 3 + 1, none⟩ = some (.string xn) ∧ (W.setCell ⟨R, i, none⟩ v).cell? ⟨bb, ob + i * 3 + 2, none⟩ = some (.string xd)) := fun W v hb => by
    obtain ⟨q1, q2, q3, q4⟩ := HO.out W hb
    exact ⟨(set_far hnA.out).trans q1, (set_far hnB.out).trans q2, (set_far hnB.out).trans q3, (set_far hnB.out).trans q4⟩
  refine wp_region_noPanic ?_
  refine wp_region_held_drew (S := fun W => W.cell? ⟨ba, oa + i, none⟩ = some (.slice (some ⟨bx, ox, none⟩) n ci) ∧ W.cell? ⟨bb, ob + i * 3, none⟩ = some (.bool xg) ∧ W.cell? ⟨bb, ob + i * 3 + 1, none⟩ = some (.string xn) ∧ W.cell? ⟨bb, ob + i * 3 + 2, none⟩ = some (.string xd)) (by kernel_rfl) (HO.out _ (Below.refl _ w).drew) (fun hS0 => ?_)
  replace hS0 := Lib.hid hS0
  refine wpAnyH_take (i := 0) (oi := _) (v := ?_) rfl (by kernel_rfl) (by kernel_rfl) (by kernel_rfl) (fun _ _ _ h => h) (Or.inl ⟨by rfl, ?_⟩) (hS0.out) ?_
  rotate_left
  · (intro w hSw; obtain ⟨q1, q2, q3, q4⟩ := hSw; go_simp <;> with_reducible rfl)
  try simp only [Act.put, List.setIfInBounds_toArray]
  refine wpAnyH_take (i := 1) (oi := _) (v := ?_) rfl (by kernel_rfl) (by kernel_rfl) (by kernel_rfl) (fun _ _ _ h => h) (Or.inl ⟨by rfl, ?_⟩) (hS0.out) ?_
  rotate_left
  · (intro w hSw; obtain ⟨q1, q2, q3, q4⟩ := hSw; go_simp <;> with_reducible rfl)
  try simp only [Act.put]
  refine wpAnyH_take (i := 3) (oi := _) (v := ?_) rfl (by kernel_rfl) (by kernel_rfl) (by kernel_rfl) (fun _ _ _ h => h) (Or.inl ⟨by rfl, ?_⟩) (hS0.out) ?_
  rotate_left
  · (intro w hSw; obtain ⟨q1, q2, q3, q4⟩ := hSw; go_simp <;> with_reducible rfl)
  try simp only [Act.put]
  refine wpAnyH_take (i := 4) (oi := _) (v := ?_) rfl (by kernel_rfl) (by kernel_rfl) (by kernel_rfl) (fun _ _ _ h => h) (Or.inl ⟨by rfl, ?_⟩) (hS0.out) ?_
  rotate_left
  · (intro w hSw; obtain ⟨q1, q2, q3, q4⟩ := hSw; go_simp <;> with_reducible rfl)
  try simp only [Act.put]
  refine wpAnyH_take (i := 5) (oi := _) (v := ?_) rfl (by kernel_rfl) (by kernel_rfl) (by kernel_rfl) (fun _ _ _ h => h) (Or.inl ⟨by rfl, ?_⟩) (hS0.out) ?_
  rotate_left
  · (intro w hSw; obtain ⟨q1, q2, q3, q4⟩ := hSw; go_simp <;> with_reducible rfl)
  try simp only [Act.put]
  refine wpAnyH_take (i := 6) (oi := _) (v := ?_) rfl (by kernel_rfl) (by kernel_rfl) (by kernel_rfl) (fun _ _ _ h => h) (Or.inl ⟨by rfl, ?_⟩) (hS0.out) ?_
  rotate_left
  · (intro w hSw; obtain ⟨q1, q2, q3, q4⟩ := hSw; go_simp <;> with_reducible rfl)
  try simp only [Act.put]
  refine wpAnyH_take (i := 8) (oi := _) (v := ?_) rfl (by kernel_rfl) (by kernel_rfl) (by kernel_rfl) (fun _ _ _ h => h) (Or.inl ⟨by rfl, ?_⟩) (hS0.out) ?_
  rotate_left
  · (intro w hSw; obtain ⟨q1, q2, q3, q4⟩ := hSw; go_simp <;> with_reducible rfl)
  try simp only [Act.put]
  refine wpAnyH_take (i := 9) (oi := _) (v := ?_) rfl (by kernel_rfl) (by kernel_rfl) (by kernel_rfl) (fun _ _ _ h => h) (Or.inl ⟨by rfl, ?_⟩) (hS0.out) ?_
  rotate_left
  · (intro w hSw; obtain ⟨q1, q2, q3, q4⟩ := hSw; go_simp <;> with_reducible rfl)
  try simp only [Act.put]
  refine wpAnyH_take (i := 10) (oi := _) (v := ?_) rfl (by kernel_rfl) (by kernel_rfl) (by kernel_rfl) (fun _ _ _ h => h) (Or.inl ⟨by rfl, ?_⟩) (hS0.out) ?_
  rotate_left
  · (intro w hSw; obtain ⟨q1, q2, q3, q4⟩ := hSw; go_simp <;> with_reducible rfl)
  try simp only [Act.put]
  refine wpAnyH_take (i := 11) (oi := _) (v := ?_) rfl (by kernel_rfl) (by kernel_rfl) (by kernel_rfl) (fun _ _ _ h => h) (Or.inl ⟨by rfl, ?_⟩) (hS0.out) ?_
  rotate_left
  · (intro w hSw; obtain ⟨q1, q2, q3, q4⟩ := hSw; go_simp <;> with_reducible rfl)
  try simp only [Act.put]
  refine wpAnyH_ready (rs := [2, 12]) (by kernel_rfl) (by simp) ?_
  refine AllReadyH.cons (o := _) rfl (fun K hK => ?_) ?_
  · go_simp
    have hB1 : Hid (Below w.heap.size w ((w.alloc (.cells #[] 31)).drew)) := ((Below.refl _ w).alloc (Nat.le_refl _) _).drew
    have ho : Hid (World.ownsRow ((w.alloc (.cells #[] 31)).drew) w.heap.size 31 3 (.slice (some ⟨w.heap.size, 0, none⟩) 0 0) 0 []) := World.ownsRow_made w #[] 0 (Nat.le_refl _) (by unfold maxLen; omega) rfl
    refine hK.out _ _ (HO.out _ hB1.out) (fun _ => ?_)
    clear hK K
    try simp only [Act.put, List.setIfInBounds_toArray, List.set_cons_zero, List.set_cons_succ]
    refine wpAnyH_ready (rs := [7, 12]) (by kernel_rfl) (by simp) ?_
    refine AllReadyH.cons (o := _) rfl (fun K hK => ?_) ?_
    · rw [if_pos (by rfl)]
      refine wp_append_new _ _ _ 23 rfl w.heap.size 31 i0 (.agg #[.bool false, .string ⟨#[]⟩, .string ⟨#[]⟩]) 3 40 Tryz.underlying23 hi0.out hz0.out hz1.out hz2.out rfl (by decide) (.slice (some ⟨w.heap.size, 0, none⟩) 0 0) 0 [] rfl ho.out ⟨bx, ox, none⟩ n ci (rowL n r) rfl (rowL_length _ _) (rowL_cells (HX.out _ hB1.out)) (rowL_one _ _) (by omega) (by unfold maxLen; omega) (by omega) hB1.out.size ?_
      intro va wa hoa hga hna
      have hB2 : Hid (Below w.heap.size w wa) := hB1.out.grown hga hB1.out.size (fun b e => (ho.out.lt b e).1)
      rw [Nat.zero_add, List.nil_append] at hoa
      clear hga hna ho
      have ho := Lib.hid hoa
      clear hoa
      refine hK.out _ _ (HO.out _ hB2.out) (fun _ => ?_)
      clear hK K
      try simp only [Act.put, List.setIfInBounds_toArray]
      refine wpAnyH_ready (rs := [12]) (by kernel_rfl) (by simp) ?_
      refine AllReadyH.cons (o := _) rfl (fun K hK => ?_) ?_
      · go_simp
        have hB3 : Hid (Below w.heap.size w (wa.alloc (.cells #[.bool xg, .string xn, .string xd] 31))) := hB2.out.alloc hB2.out.size _
        have hN : Hid (∀ j u, (rawL (xg, xn, xd))[j]? = some u → World.cell? (wa.alloc (.cells #[.bool xg, .string xn, .string xd] 31)) (Addr.add ⟨wa.heap.size, 0, none⟩ j) = some u) := by
          have h := raw_new (wa) xg xn xd 31
          exact h
        replace ho := Lib.hid (ho.out.alloc (.cells #[.bool xg, .string xn, .string xd] 31))
        refine hK.out _ _ (HO.out _ hB3.out) (fun _ => ?_)
        clear hK K
        try simp only [Act.put, List.setIfInBounds_toArray, List.set_cons_zero, List.set_cons_succ]
        refine wpAnyH_ready (rs := [13]) (by kernel_rfl) (by simp) ?_
        refine AllReadyH.cons (o := _) rfl (fun K hK => ?_) ?_
        · rw [if_pos (by rfl)]
          refine wp_append_new _ _ _ 23 rfl w.heap.size 31 i0 (.agg #[.bool false, .string ⟨#[]⟩, .string ⟨#[]⟩]) 3 40 Tryz.underlying23 hi0.out hz0.out hz1.out hz2.out rfl (by decide) va n (rowL n r) rfl ho.out ⟨wa.heap.size, 0, none⟩ 1 1 (rawL (xg, xn, xd)) rfl rfl hN.out (raw_cell _) (by omega) (by unfold maxLen; omega) (by omega) hB3.out.size ?_
          intro vb wb hob2 hgb hnb
          have hB4 : Hid (Below w.heap.size w wb) := hB3.out.grown hgb hB3.out.size (fun b e => (ho.out.lt b e).1)
          have hob : Hid (wb.ownsRow w.heap.size 31 3 vb (n + 1) (rowL (n + 1) r)) := by rw [rowL_succ, hx]; exact hob2
          clear hgb hnb hob2 ho hN
          have s1 := (hB4.out.cell (p := ⟨R, i, none⟩) hR).trans gR
          have s2 := (hB4.out.frozen (p := ⟨R, i, none⟩) hR).trans gf
          obtain ⟨A9, c9, rfl, _⟩ := inRow_of_own hob.out
          refine hK.out _ _ (HO.out _ hB4.out) (fun _ => ?_)
          clear hK K
          try simp only [Act.put, List.setIfInBounds_toArray]
          refine wpAnyH_take (i := 14) (oi := _) (v := ?_) rfl (by kernel_rfl) (by kernel_rfl) (by kernel_rfl) (fun _ _ _ h => h) (Or.inl ⟨by rfl, ?_⟩) (HO.out _ hB4.out) ?_
          rotate_left
          · (intro w hSw; obtain ⟨q1, q2, q3, q4⟩ := hSw; go_simp <;> with_reducible rfl)
          try simp only [Act.put]
          refine wpAnyH_ready (rs := [15]) (by kernel_rfl) (by simp) ?_
          refine AllReadyH.cons (o := _) rfl (fun K hK => ?_) ?_
          · go_simp
            refine hK.out _ _ (HO2.out _ _ hB4.out) (fun _ => ?_)
            clear hK K
            try simp only [Act.put, List.setIfInBounds_toArray, List.set_cons_zero, List.set_cons_succ]
            refine wpAnyH_done (by kernel_rfl) ?_ _
            refine NoPanic.normal ?_
            apply h.out
            · exact hB4.out
            · exact hob.out
          exact AllReadyH.nil
        exact AllReadyH.nil
      exact AllReadyH.nil
    refine AllReadyH.cons (o := _) rfl (fun K hK => ?_) ?_
    · go_simp
      have hB2 : Hid (Below w.heap.size w (((w.alloc (.cells #[] 31)).alloc (.cells #[.bool xg, .string xn, .string xd] 31)).drew)) := (((Below.refl _ w).alloc (Nat.le_refl _) _).alloc (by simp) _).drew
      have hN : Hid (∀ j u, (rawL (xg, xn, xd))[j]? = some u → World.cell? (((w.alloc (.cells #[] 31)).alloc (.cells #[.bool xg, .string xn, .string xd] 31)).drew) (Addr.add ⟨w.heap.size + 1, 0, none⟩ j) = some u) := by
        have h := raw_new ((w.alloc (.cells #[] 31))) xg xn xd 31
        rw [World.size_alloc] at h
        exact h
      replace ho := Lib.hid (ho.out.alloc (.cells #[.bool xg, .string xn, .string xd] 31))
      refine hK.out _ _ (HO.out _ hB2.out) (fun _ => ?_)
      clear hK K
      try simp only [Act.put, List.setIfInBounds_toArray, List.set_cons_zero, List.set_cons_succ]
      refine wpAnyH_ready (rs := [7]) (by kernel_rfl) (by simp) ?_
      refine AllReadyH.cons (o := _) rfl (fun K hK => ?_) ?_
      · rw [if_pos (by rfl)]
        refine wp_append_new _ _ _ 23 rfl w.heap.size 31 i0 (.agg #[.bool false, .string ⟨#[]⟩, .string ⟨#[]⟩]) 3 40 Tryz.underlying23 hi0.out hz0.out hz1.out hz2.out rfl (by decide) (.slice (some ⟨w.heap.size, 0, none⟩) 0 0) 0 [] rfl ho.out ⟨bx, ox, none⟩ n ci (rowL n r) rfl (rowL_length _ _) (rowL_cells (HX.out _ hB2.out)) (rowL_one _ _) (by omega) (by unfold maxLen; omega) (by omega) hB2.out.size ?_
        intro va wa hoa hga hna
        have hB3 : Hid (Below w.heap.size w wa) := hB2.out.grown hga hB2.out.size (fun b e => (ho.out.lt b e).1)
        rw [Nat.zero_add, List.nil_append] at hoa
        replace hN : Hid (∀ j u, (rawL (xg, xn, xd))[j]? = some u → wa.cell? (Addr.add ⟨w.heap.size + 1, 0, none⟩ j) = some u) := raw_grown hN.out (by simp <;> omega) hga (by simp [Value.ownBlock])
        clear hga hna ho
        have ho := Lib.hid hoa
        clear hoa
        refine hK.out _ _ (HO.out _ hB3.out) (fun _ => ?_)
        clear hK K
        try simp only [Act.put, List.setIfInBounds_toArray]
        refine wpAnyH_ready (rs := [13]) (by kernel_rfl) (by simp) ?_
        refine AllReadyH.cons (o := _) rfl (fun K hK => ?_) ?_
        · rw [if_pos (by rfl)]
          refine wp_append_new _ _ _ 23 rfl w.heap.size 31 i0 (.agg #[.bool false, .string ⟨#[]⟩, .string ⟨#[]⟩]) 3 40 Tryz.underlying23 hi0.out hz0.out hz1.out hz2.out rfl (by decide) va n (rowL n r) rfl ho.out ⟨w.heap.size + 1, 0, none⟩ 1 1 (rawL (xg, xn, xd)) rfl rfl hN.out (raw_cell _) (by omega) (by unfold maxLen; omega) (by omega) hB3.out.size ?_
          intro vb wb hob2 hgb hnb
          have hB4 : Hid (Below w.heap.size w wb) := hB3.out.grown hgb hB3.out.size (fun b e => (ho.out.lt b e).1)
          have hob : Hid (wb.ownsRow w.heap.size 31 3 vb (n + 1) (rowL (n + 1) r)) := by rw [rowL_succ, hx]; exact hob2
          clear hgb hnb hob2 ho hN
          have s1 := (hB4.out.cell (p := ⟨R, i, none⟩) hR).trans gR
          have s2 := (hB4.out.frozen (p := ⟨R, i, none⟩) hR).trans gf
          obtain ⟨A9, c9, rfl, _⟩ := inRow_of_own hob.out
          refine hK.out _ _ (HO.out _ hB4.out) (fun _ => ?_)
          clear hK K
          try simp only [Act.put]
          refine wpAnyH_take (i := 14) (oi := _) (v := ?_) rfl (by kernel_rfl) (by kernel_rfl) (by kernel_rfl) (fun _ _ _ h => h) (Or.inl ⟨by rfl, ?_⟩) (HO.out _ hB4.out) ?_
          rotate_left
          · (intro w hSw; obtain ⟨q1, q2, q3, q4⟩ := hSw; go_simp <;> with_reducible rfl)
          try simp only [Act.put]
          refine wpAnyH_ready (rs := [15]) (by kernel_rfl) (by simp) ?_
          refine AllReadyH.cons (o := _) rfl (fun K hK => ?_) ?_
          · go_simp
            refine hK.out _ _ (HO2.out _ _ hB4.out) (fun _ => ?_)
            clear hK K
            try simp only [Act.put, List.setIfInBounds_toArray, List.set_cons_zero, List.set_cons_succ]
            refine wpAnyH_done (by kernel_rfl) ?_ _
            refine NoPanic.normal ?_
            apply h.out
            · exact hB4.out
            · exact hob.out
          exact AllReadyH.nil
        exact AllReadyH.nil
      exact AllReadyH.nil
    exact AllReadyH.nil
  refine AllReadyH.cons (o := _) rfl (fun K hK => ?_) ?_
  · go_simp
    have hB1 : Hid (Below w.heap.size w ((w.alloc (.cells #[.bool xg, .string xn, .string xd] 31)).drew)) := ((Below.refl _ w).alloc (Nat.le_refl _) _).drew
    have hN : Hid (∀ j u, (rawL (xg, xn, xd))[j]? = some u → World.cell? ((w.alloc (.cells #[.bool xg, .string xn, .string xd] 31)).drew) (Addr.add ⟨w.heap.size, 0, none⟩ j) = some u) := by
      have h := raw_new (w) xg xn xd 31
      exact h
    refine hK.out _ _ (HO.out _ hB1.out) (fun _ => ?_)
    clear hK K
    try simp only [Act.put, List.setIfInBounds_toArray, List.set_cons_zero, List.set_cons_succ]
    refine wpAnyH_ready (rs := [2]) (by kernel_rfl) (by simp) ?_
    refine AllReadyH.cons (o := _) rfl (fun K hK => ?_) ?_
    · go_simp
      have hB2 : Hid (Below w.heap.size w (((w.alloc (.cells #[.bool xg, .string xn, .string xd] 31)).alloc (.cells #[] 31)).drew)) := (((Below.refl _ w).alloc (Nat.le_refl _) _).alloc (by simp) _).drew
      have ho : Hid (World.ownsRow (((w.alloc (.cells #[.bool xg, .string xn, .string xd] 31)).alloc (.cells #[] 31)).drew) w.heap.size 31 3 (.slice (some ⟨w.heap.size + 1, 0, none⟩) 0 0) 0 []) := by
        have h := World.ownsRow_made (e := 31) (w.alloc (.cells #[.bool xg, .string xn, .string xd] 31)) #[] 0 (base := w.heap.size) (size := 3) (by simp) (by unfold maxLen; omega) rfl
        rw [World.size_alloc] at h
        exact h.drew
      replace hN : Hid (∀ j u, (rawL (xg, xn, xd))[j]? = some u → World.cell? (((w.alloc (.cells #[.bool xg, .string xn, .string xd] 31)).alloc (.cells #[] 31)).drew) (Addr.add ⟨w.heap.size, 0, none⟩ j) = some u) := raw_keep (W := w.alloc (.cells #[.bool xg, .string xn, .string xd] 31)) hN.out (by simp) ((Below.refl _ _).alloc (Nat.le_refl _) _).drew
      refine hK.out _ _ (HO.out _ hB2.out) (fun _ => ?_)
      clear hK K
      try simp only [Act.put, List.setIfInBounds_toArray, List.set_cons_zero, List.set_cons_succ]
      refine wpAnyH_ready (rs := [7]) (by kernel_rfl) (by simp) ?_
      refine AllReadyH.cons (o := _) rfl (fun K hK => ?_) ?_
      · rw [if_pos (by rfl)]
        refine wp_append_new _ _ _ 23 rfl w.heap.size 31 i0 (.agg #[.bool false, .string ⟨#[]⟩, .string ⟨#[]⟩]) 3 40 Tryz.underlying23 hi0.out hz0.out hz1.out hz2.out rfl (by decide) (.slice (some ⟨w.heap.size + 1, 0, none⟩) 0 0) 0 [] rfl ho.out ⟨bx, ox, none⟩ n ci (rowL n r) rfl (rowL_length _ _) (rowL_cells (HX.out _ hB2.out)) (rowL_one _ _) (by omega) (by unfold maxLen; omega) (by omega) hB2.out.size ?_
        intro va wa hoa hga hna
        have hB3 : Hid (Below w.heap.size w wa) := hB2.out.grown hga hB2.out.size (fun b e => (ho.out.lt b e).1)
        rw [Nat.zero_add, List.nil_append] at hoa
        replace hN : Hid (∀ j u, (rawL (xg, xn, xd))[j]? = some u → wa.cell? (Addr.add ⟨w.heap.size, 0, none⟩ j) = some u) := raw_grown hN.out (by simp <;> omega) hga (by simp [Value.ownBlock])
        clear hga hna ho
        have ho := Lib.hid hoa
        clear hoa
        refine hK.out _ _ (HO.out _ hB3.out) (fun _ => ?_)
        clear hK K
        try simp only [Act.put, List.setIfInBounds_toArray]
        refine wpAnyH_ready (rs := [13]) (by kernel_rfl) (by simp) ?_
        refine AllReadyH.cons (o := _) rfl (fun K hK => ?_) ?_
        · rw [if_pos (by rfl)]
          refine wp_append_new _ _ _ 23 rfl w.heap.size 31 i0 (.agg #[.bool false, .string ⟨#[]⟩, .string ⟨#[]⟩]) 3 40 Tryz.underlying23 hi0.out hz0.out hz1.out hz2.out rfl (by decide) va n (rowL n r) rfl ho.out ⟨w.heap.size, 0, none⟩ 1 1 (rawL (xg, xn, xd)) rfl rfl hN.out (raw_cell _) (by omega) (by unfold maxLen; omega) (by omega) hB3.out.size ?_
          intro vb wb hob2 hgb hnb
          have hB4 : Hid (Below w.heap.size w wb) := hB3.out.grown hgb hB3.out.size (fun b e => (ho.out.lt b e).1)
          have hob : Hid (wb.ownsRow w.heap.size 31 3 vb (n + 1) (rowL (n + 1) r)) := by rw [rowL_succ, hx]; exact hob2
          clear hgb hnb hob2 ho hN
          have s1 := (hB4.out.cell (p := ⟨R, i, none⟩) hR).trans gR
          have s2 := (hB4.out.frozen (p := ⟨R, i, none⟩) hR).trans gf
          obtain ⟨A9, c9, rfl, _⟩ := inRow_of_own hob.out
          refine hK.out _ _ (HO.out _ hB4.out) (fun _ => ?_)
          clear hK K
          try simp only [Act.put]
          refine wpAnyH_take (i := 14) (oi := _) (v := ?_) rfl (by kernel_rfl) (by kernel_rfl) (by kernel_rfl) (fun _ _ _ h => h) (Or.inl ⟨by rfl, ?_⟩) (HO.out _ hB4.out) ?_
          rotate_left
          · (intro w hSw; obtain ⟨q1, q2, q3, q4⟩ := hSw; go_simp <;> with_reducible rfl)
          try simp only [Act.put]
          refine wpAnyH_ready (rs := [15]) (by kernel_rfl) (by simp) ?_
          refine AllReadyH.cons (o := _) rfl (fun K hK => ?_) ?_
          · go_simp
            refine hK.out _ _ (HO2.out _ _ hB4.out) (fun _ => ?_)
            clear hK K
            try simp only [Act.put, List.setIfInBounds_toArray, List.set_cons_zero, List.set_cons_succ]
            refine wpAnyH_done (by kernel_rfl) ?_ _
            refine NoPanic.normal ?_
            apply h.out
            · exact hB4.out
            · exact hob.out
          exact AllReadyH.nil
        exact AllReadyH.nil
      exact AllReadyH.nil
    exact AllReadyH.nil
  exact AllReadyH.nil
end Nt
end Go.Proofs.YtjjlnahipiinfaaGreatDoor

namespace Go.Proofs.YtjjlnahipiinfaaGreatDoor
open Go.RowKit Go.Shelf
namespace Nt

set_option maxRecDepth 100000 in
set_option maxHeartbeats 2000000 in
theorem RSolve_bad (Aa Ab : Option Addr) (ca cb : Nat) (la : List RowH) (lb : List Raw) (w : World) (hs : SysIn w Aa Ab la lb) (hv : refvB (rowsOf la) lb = false) :
    Calls Tryz.prog 13 #[.slice Aa la.length ca, .slice Ab lb.length cb] w fun e w' => e = .returned (.tuple #[.slice none 0 0, .int .i64 1]) ∧ Below w.heap.size w w' := by
  have n1 := hs.na
  have n2 := hs.nb
  have kv := refvalid_any Aa Ab ca cb la lb w hs
  rw [hv] at kv
  replace kv := Lib.hid kv
  clear hv hs
  go_enter Tryz.func13, Tryz.ntmps13
  go_wp2_with fail
  refine kv.out.mono ?_
  rintro e w1 ⟨rfl, hb⟩
  replace hb := Lib.hid hb
  go_wp2
  go_ret2
  exact ⟨rfl, hb.out⟩
set_option maxRecDepth 100000 in
set_option maxHeartbeats 2000000 in
theorem RSolve_big (Aa Ab : Option Addr) (ca cb : Nat) (la : List RowH) (lb : List Raw) (w : World) (hs : SysIn w Aa Ab la lb) (hv : refvB (rowsOf la) lb = true) (hbig : 8 < lb.length) :
    Calls Tryz.prog 13 #[.slice Aa la.length ca, .slice Ab lb.length cb] w fun e w' => e = .returned (.tuple #[.slice none 0 0, .int .i64 2]) ∧ Below w.heap.size w w' := by
  have n1 := hs.na
  have n2 := hs.nb
  have kv := refvalid_any Aa Ab ca cb la lb w hs
  rw [hv] at kv
  replace kv := Lib.hid kv
  clear hv hs
  go_enter Tryz.func13, Tryz.ntmps13
  go_wp2_with fail
  refine kv.out.mono ?_
  rintro e w1 ⟨rfl, hb⟩
  replace hb := Lib.hid hb
  go_wp2
  go_ret2
  exact ⟨rfl, hb.out⟩

set_option maxRecDepth 1000000 in
set_option maxHeartbeats 16000000 in
theorem RSolve_any (Aa Ab : Option Addr) (n ca cb : Nat) (la : List RowH) (lb : List Raw) (M0 : Mx) (w : World) (ha : la.length = n) (hb0 : lb.length = n) (hs : SysIn w Aa Ab la lb) (hv : refvB (rowsOf la) lb = true) (hn8 : n ≤ 8)
    (hMa : ∀ i (h : i < la.length), la[i].2.2.length = n ∧ ∀ j (h2 : j < la[i].2.2.length), la[i].2.2[j] = rq (M0 i j)) (hMb : ∀ i (h : i < lb.length), lb[i] = rq (M0 i n)) (hOk : ∀ i j, i < n → j ≤ n → OkQ (M0 i j)) :
    Calls Tryz.prog 13 #[.slice Aa n ca, .slice Ab n cb] w (SolvePost n M0 w) := by
  have kv := refvalid_any Aa Ab ca cb la lb w hs
  have hmk := run_make_row' (P := Tryz.prog) 22 23 (.slice none 0 0) 24 Tryz.underlying22 infoRS rfl .i64 .i64 n (by omega) (by omega)
  rw [hv, hb0, ha] at kv
  replace kv := Lib.hid kv
  replace hs := Lib.hid hs
  replace hMa := Lib.hid hMa
  replace hOk := Lib.hid hOk
  replace hMb := Lib.hid hMb
  replace ha := Lib.hid ha
  replace hb0 := Lib.hid hb0
  clear hv
  go_enter Tryz.func13, Tryz.ntmps13
  go_wp2_with fail
  refine kv.out.mono ?_
  rintro e w2 ⟨rfl, hb⟩
  have hB2 := Lib.hid hb
  clear hb
  have hP : Hid (MatV (w2.alloc (.cells (madeCells #[(.slice none 0 0 : Value)] n) 23)) w.heap.size w2.heap.size n 0 (fun _ => .slice none 0 0) M0) := MatV.start w2 hB2.out.size n _ M0
  have hB3 : Hid (Below w.heap.size w (w2.alloc (.cells (madeCells #[(.slice none 0 0 : Value)] n) 23))) := hB2.out.alloc hB2.out.size _
  go_wp2
  obtain ⟨R, hR⟩ : ∃ R, R = w2.heap.size := ⟨_, rfl⟩
  rw [← hR] at hP ⊢
  clear hmk
  replace hR := Lib.hid hR
  go_loopw [8] (fun i wr => ∃ (y : Nat) (v : Nat → Value), y ≤ n ∧ i = .int .i64 (y : Int) ∧ Hid (MatV wr w.heap.size R n y v M0) ∧ Hid (Below w.heap.size w wr)) (fun i _ => n - (intOf i).toNat)
  case atStart => exact ⟨0, _, Nat.zero_le _, rfl, hP, hB3⟩
  case round =>
    obtain ⟨i, v, hi, rfl, hQ, hBr⟩ := hrel
    by_cases hlt : i < n
    · obtain ⟨ba, oa, rfl, hba, hca⟩ := hs.out.ma (by rw [ha.out]; omega)
      obtain ⟨bb, ob, rfl, hbb, hcb⟩ := hs.out.mb (by rw [hb0.out]; omega)
      obtain ⟨a1, hrow⟩ := hca i (by rw [ha.out]; exact hlt)
      obtain ⟨b1, b2, b3⟩ := hcb i (by rw [hb0.out]; exact hlt)
      clear hca hcb
      obtain ⟨hl, hlj⟩ := hMa.out i (by rw [ha.out]; exact hlt)
      obtain ⟨bx, ox, hax, hbx, hcx⟩ := hrow (by rw [hl]; omega)
      rw [hl, hax] at a1
      have hsz := hBr.out.size
      have hcx2 : ∀ j, j < n → wr.cell? ⟨bx, ox + j * 3, none⟩ = some (.bool (rq (M0 i j)).1) ∧ wr.cell? ⟨bx, ox + j * 3 + 1, none⟩ = some (.string (rq (M0 i j)).2.1) ∧ wr.cell? ⟨bx, ox + j * 3 + 2, none⟩ = some (.string (rq (M0 i j)).2.2) := fun j hj => by
        have h1 := hcx j (by rw [hl]; exact hj)
        rw [hlj j (by rw [hl]; exact hj)] at h1
        exact ⟨(hBr.out.cell (p := ⟨bx, _, none⟩) hbx).trans h1.1, (hBr.out.cell (p := ⟨bx, _, none⟩) hbx).trans h1.2.1, (hBr.out.cell (p := ⟨bx, _, none⟩) hbx).trans h1.2.2⟩
      rw [hMb.out i (by rw [hb0.out]; exact hlt)] at b1 b2 b3
      clear hl hlj hax hcx hrow
      generalize (la[i]'(by rw [ha.out]; exact hlt)).2.1 = ci at *
      obtain ⟨xg, xn, xd, hxq⟩ := raw_ex (M0 i n)
      rw [hxq] at b1 b2 b3
      replace a1 := (hBr.out.cell (p := ⟨ba, oa + i, none⟩) hba).trans a1
      replace b1 := (hBr.out.cell (p := ⟨bb, ob + i * 3, none⟩) hbb).trans b1
      replace b2 := (hBr.out.cell (p := ⟨bb, ob + i * 3 + 1, none⟩) hbb).trans b2
      replace b3 := (hBr.out.cell (p := ⟨bb, ob + i * 3 + 2, none⟩) hbb).trans b3
      obtain ⟨u0, hu0⟩ := hQ.out.ex i hlt
      have hf0 := hQ.out.fr i
      have hRl := hQ.out.lt
      have hRo := hQ.out.lowR
      have hall := Lib.hid (show ba < wr.heap.size ∧ bb < wr.heap.size ∧ bx < wr.heap.size ∧ R < wr.heap.size ∧ ba ≠ R ∧ bb ≠ R from ⟨by omega, by omega, by omega, hRl, by omega, by omega⟩)
      have hrd := Lib.hid (show wr.cell? ⟨ba, oa + i, none⟩ = some (.slice (some ⟨bx, ox, none⟩) n ci) ∧ wr.cell? ⟨bb, ob + i * 3, none⟩ = some (.bool xg) ∧ wr.cell? ⟨bb, ob + i * 3 + 1, none⟩ = some (.string xn) ∧ wr.cell? ⟨bb, ob + i * 3 + 2, none⟩ = some (.string xd) ∧ wr.cell? ⟨R, i, none⟩ = some u0 ∧ wr.frozen? ⟨R, i, none⟩ = false from ⟨a1, b1, b2, b3, hu0, hf0⟩)
      replace hcx2 := Lib.hid hcx2
      replace hxq := Lib.hid hxq
      clear a1 b1 b2 b3 hu0 hf0 hRl hRo hsz hba hbb hbx
      go_wp2_with fail
      refine rlay_reg R n i ba oa ca bb ob cb bx ox ci (fun j => rq (M0 i j)) xg xn xd u0 wr hn8 hlt hall.out.1 hall.out.2.1 hall.out.2.2.1 hall.out.2.2.2.1 hall.out.2.2.2.2.1 hall.out.2.2.2.2.2 hxq.out hrd.out.1 hrd.out.2.1 hrd.out.2.2.1 hrd.out.2.2.2.1 hcx2.out hrd.out.2.2.2.2.1 hrd.out.2.2.2.2.2 ?_
      intro q37 q38 q39 q40 q41 q42 q43 q44 q45 q46 q47 q48 q49 q50 q51 vn w5 hb5 ho5
      have hQ5 := Lib.hid (hQ.out.step hlt hb5 hBr.out.size ho5)
      have hB5 : Hid (Below w.heap.size w (w5.setCell ⟨R, i, none⟩ vn)) := (hBr.out.trans (hb5.mono hBr.out.size)).setCell (p := ⟨R, i, none⟩) hQ.out.lowR _
      clear hb5 ho5 hQ hBr hcx2 hrd
      go_wp2
      go_roundw
      case rel => exact ⟨i + 1, _, by omega, by go_num, hQ5, hB5⟩
      case measure => simp [intOf]; omega
    · obtain rfl : n = i := by omega
      clear hP hB3 hlt
      go_wp2
      refine col_loop R n M0 w _ hn8 ⟨v, M0, rfl, hQ, hOk, hBr⟩ ?_ ?_
      · intro u4 u5 u10 u11 u12 u13 u14 u15 u16 u17 u18 u19 u52 u53 u54 u55 u56 u57 u58 u59 u60 u61 u62 u63 u64 u65 u66 u67 u68 u69 u70 u71 u72 u73 u74 u75 u76 u77 u78 u79 u80 u81 u82 u83 u84 u85 u86 u87 u88 u89 u90 u91 u92 u93 u94 u95 u96 u97 u98 u99 u100 u101 u102 u103 u104 u105 u106 u107 u108 u109 u110 u111 u112 u113 u114 u115 u116 u117 u118 u119 u120 u121 u122 u123 u124 u125 u126 u127 u128 u129 u130 u131 u132 u133 u134 u135 u136 u137 u138 u139 u140 u141 u142 u143 u144 u145 u146 u147 u148 u149 u150 u151 u152 u153 u154 u155 u156 u157 u158 u159 u160 u161 u162 u163 u164 u165 u166 u167 u168 u169 u170 u171 u172 u173 u174 u175 u176 u177 u178 u179 u180 u181 u182 u183 u184 u185 u186 wq hq
        clear hQ hBr
        obtain ⟨v2, M, hS, hM, hO, hBr⟩ := hq
        have hnw := hBr.out.size
        have hRl := hM.out.lt
        obtain ⟨i0, hi0, hzz⟩ := Option.map_eq_some_iff.1 infoQ
        simp only [Prod.mk.injEq] at hzz
        obtain ⟨hz0, hz1, hz2⟩ := hzz
        go_wp2
        replace hi0 := Lib.hid hi0
        replace hz0 := Lib.hid hz0
        replace hz1 := Lib.hid hz1
        replace hz2 := Lib.hid hz2
        go_loopw [20, 21] (fun v i wz => ∃ y : Nat, y ≤ n ∧ i = .int .i64 (y : Int) ∧ Hid (wz.ownsRow wq.heap.size 31 3 v y (rowL y fun i => rq (M i n))) ∧ Hid (Below wq.heap.size wq wz)) (fun _ i _ => n - (intOf i).toNat)
        case atStart => exact ⟨0, Nat.zero_le _, rfl, World.ownsRow_nil _ _ _ _, Below.refl _ _⟩
        case round =>
          obtain ⟨y, hy, rfl, hown, hbz⟩ := hrel
          by_cases hlt9 : y < n
          · obtain ⟨gy, cy, ey, by1, by2, by3, by4, by5⟩ := hM.out.form hlt9
            have g1 := (hbz.out.cell (p := ⟨R, y, none⟩) hRl).trans ((hM.out.hd y hlt9).trans (congrArg some ey))
            obtain ⟨e1, e2, e3⟩ := by5 n (Nat.le_refl _)
            replace e1 := (hbz.out.cell (p := ⟨gy, n * 3, none⟩) by2).trans e1
            replace e2 := (hbz.out.cell (p := ⟨gy, n * 3 + 1, none⟩) by2).trans e2
            replace e3 := (hbz.out.cell (p := ⟨gy, n * 3 + 2, none⟩) by2).trans e3
            have g3 : (n : Int) < (n : Int) + 1 := by omega
            have g4 : (0 : Int) ≤ (n : Int) := by omega
            have g5 : (0 : Int) ≤ (y : Int) := by omega
            have g6 : (y : Int) < (n : Int) := by omega
            have hszz := hbz.out.size
            clear hnw hRl by1 by2 by3 by4 by5 ey
            obtain ⟨rv, hrv⟩ : ∃ x, x = rq (M y n) := ⟨_, rfl⟩
            rw [← hrv] at e1 e2 e3
            obtain ⟨ra, rb, rc⟩ := rv
            replace hrv := Lib.hid hrv
            replace e1 : wr.cell? ⟨gy, n * 3, none⟩ = some (.bool ra) := e1
            replace e2 : wr.cell? ⟨gy, n * 3 + 1, none⟩ = some (.string rb) := e2
            replace e3 : wr.cell? ⟨gy, n * 3 + 2, none⟩ = some (.string rc) := e3
            go_wp2_with (at_builtin; refine wpList_append_own _ rfl _ _ 23 rfl wq.heap.size 31 i0 (.agg #[.bool false, .string ⟨#[]⟩, .string ⟨#[]⟩]) 3 40 Tryz.underlying23 hi0.out hz0.out hz1.out hz2.out rfl (by decide) u20 y (rowL y fun i => rq (M i n)) rfl (hown.out.alloc _) ⟨wr.heap.size, 0, none⟩ 1 1 (rawL (ra, rb, rc)) rfl rfl (raw_new _ _ _ _ _) (raw_cell _) (by unfold maxLen; omega) (by omega) (by simp; omega) ?_; intro v2 w2 hown2 hgr2 _)
            refine ⟨⟨y + 1, by omega, by go_num, ?_, (hbz.out.alloc hszz _).grown hgr2 (by simp; omega) (fun b e => (hown.out.lt b e).1)⟩, by simp only [intOf]; omega⟩
            rw [rowL_succ, ← hrv.out]
            exact hown2
          · obtain rfl : n = y := by omega
            clear hRl
            go_wp2
            go_ret2
            exact ⟨hBr.out.trans (hbz.out.mono hnw), .inl ⟨M, _, hS.out, rfl, own_mono hnw hown.out⟩⟩
      · intro er u9 u10 u11 u12 u13 u14 u15 u16 u17 u18 u19 u52 u53 u54 u55 u56 u57 u58 u59 u60 u61 u62 u63 u64 u65 u66 u67 u68 u69 u70 u71 u72 u73 u74 u75 u76 u77 u78 u79 u80 u81 u82 u83 u84 u85 u86 u87 u88 u89 u90 u91 u92 u93 u94 u95 u96 u97 u98 u99 u100 u101 u102 u103 u104 u105 u106 u107 u108 u109 u110 u111 u112 u113 u114 u115 u116 u117 u118 u119 u120 u121 u122 u123 u124 u125 u126 u127 u128 u129 u130 u131 u132 u133 u134 u135 u136 u137 u138 u139 u140 u141 u142 u143 u144 u145 u146 u147 u148 u149 u150 u151 u152 u153 u154 u155 u156 u157 u158 u159 u160 u161 u162 u163 u164 u165 u166 u167 u168 u169 u170 u171 u172 u173 u174 u175 u176 u177 u178 u179 u180 u181 u182 u183 u184 u185 u186 wq hb9 he9
        replace hb9 := Lib.hid hb9
        replace he9 := Lib.hid he9
        go_ret2
        exact ⟨hb9.out, .inr ⟨er, he9.out, rfl⟩⟩
theorem RSolve_key (Aa Ab : Option Addr) (ca cb : Nat) (la : List RowH) (lb : List Raw) (w : World) (hs : SysIn w Aa Ab la lb) (h1 : la.length = lb.length) (h2 : allV lb = true) (h3 : matOk lb.length la = true) (h8 : lb.length ≤ 8) :
    Calls Tryz.prog 13 #[.slice Aa lb.length ca, .slice Ab lb.length cb] w (SolvePost lb.length (sysM (rowsOf la) lb) w) := by
  have hv : refvB (rowsOf la) lb = true := by unfold refvB; rw [rowsOf_length, decide_eq_true h1, matB_rows, h3, h2]; rfl
  have hb := allV_iff.1 h2
  have ha' : ∀ i (hi : i < la.length), la[i].2.2.length = lb.length ∧ allV la[i].2.2 = true := fun i hi => by
    have hi2 : i < (rowsOf la).length := by rw [rowsOf_length]; exact hi
    have := matB_iff.1 ((matB_rows lb.length la).trans h3) i hi2
    rwa [rowsOf_get la i hi] at this
  have hg : ∀ i (hi : i < la.length), (rowsOf la).getD i [] = la[i].2.2 := fun i hi => by
    rw [getD_at (by rw [rowsOf_length]; exact hi), rowsOf_get la i hi]
  refine RSolve_any Aa Ab lb.length ca cb la lb (sysM (rowsOf la) lb) w h1 rfl hs hv h8 (fun i hi => ⟨(ha' i hi).1, fun j hj => ?_⟩) (fun i hi => ?_) (fun i j hi hj => ?_)
  · have hj2 : j ≠ lb.length := by have := (ha' i hi).1; omega
    unfold sysM
    rw [if_neg hj2, hg i hi, getD_at hj]
    exact (raw_of (allV_iff.1 (ha' i hi).2 j hj)).1.symm
  · unfold sysM
    rw [if_pos rfl, getD_at hi]
    exact (raw_of (hb i hi)).1.symm
  · unfold sysM
    by_cases e : j = lb.length
    · rw [if_pos e, getD_at hi]
      exact (raw_of (hb i hi)).2
    · have hi2 : i < la.length := by omega
      have hj2 : j < la[i].2.2.length := by have := (ha' i hi2).1; omega
      rw [if_neg e, hg i hi2, getD_at hj2]
      exact (raw_of (allV_iff.1 (ha' i hi2).2 j hj2)).2
theorem RSolve_r (Aa Ab : Option Addr) (ca cb : Nat) (la : List RowH) (lb : List Raw) (w : World) (hs : SysIn w Aa Ab la lb) :
    Calls Tryz.prog 13 #[.slice Aa la.length ca, .slice Ab lb.length cb] w fun e w' => (∃ p c, e = .returned (.tuple #[.slice p (xsOf (solveB (rowsOf la) lb)).length c, .int .i64 (erOf (solveB (rowsOf la) lb))]) ∧ InRow w' p (xsOf (solveB (rowsOf la) lb))) ∧ Below w.heap.size w w' := by
  have none_of : ∀ er : Int, Calls Tryz.prog 13 #[.slice Aa la.length ca, .slice Ab lb.length cb] w (fun e w' => e = .returned (.tuple #[.slice none 0 0, .int .i64 er]) ∧ Below w.heap.size w w') → solveB (rowsOf la) lb = .error er → Calls Tryz.prog 13 #[.slice Aa la.length ca, .slice Ab lb.length cb] w fun e w' => (∃ p c, e = .returned (.tuple #[.slice p (xsOf (solveB (rowsOf la) lb)).length c, .int .i64 (erOf (solveB (rowsOf la) lb))]) ∧ InRow w' p (xsOf (solveB (rowsOf la) lb))) ∧ Below w.heap.size w w' := by
    intro er hc he
    rw [he]
    exact hc.mono fun e w' h => ⟨⟨none, 0, h.1, fun h => absurd h (by simp [xsOf])⟩, h.2⟩
  by_cases hc : la.length = lb.length ∧ allV lb = true ∧ matOk lb.length la = true
  · obtain ⟨h1, h2, h3⟩ := hc
    by_cases h8 : lb.length ≤ 8
    · have key := RSolve_key Aa Ab ca cb la lb w hs h1 h2 h3 h8
      have he : solveB (rowsOf la) lb = (match solveTo SQ lb.length lb.length (sysM (rowsOf la) lb) with | .ok M => .ok (outL lb.length fun i => M i lb.length) | .error e => .error e) := by
        unfold solveB
        rw [rowsOf_length, matB_rows, if_pos ⟨h1, h2, h3⟩, if_pos h8]
        cases solveTo SQ lb.length lb.length (sysM (rowsOf la) lb) <;> rfl
      rw [h1]
      refine key.mono fun e w' ⟨hB, hr⟩ => ⟨?_, hB⟩
      rcases hr with ⟨M, v, hM, he2, hown⟩ | ⟨er, hM, he2⟩
      · rw [hM] at he
        rw [he]
        obtain ⟨p, c, rfl, hin⟩ := inRow_of_own hown
        refine ⟨p, c, ?_, hin⟩
        rw [he2]
        simp only [xsOf, erOf, outL_length]
      · rw [hM] at he
        rw [he]
        exact ⟨none, 0, he2, fun h => absurd h (by simp [xsOf])⟩
    · refine none_of 2 (RSolve_big Aa Ab ca cb la lb w hs ?_ (by omega)) ?_
      · unfold refvB; rw [rowsOf_length, decide_eq_true h1, matB_rows, h3, h2]; rfl
      · unfold solveB
        rw [rowsOf_length, matB_rows, if_pos ⟨h1, h2, h3⟩, if_neg h8]
  · refine none_of 1 (RSolve_bad Aa Ab ca cb la lb w hs ?_) ?_
    · unfold refvB
      rw [rowsOf_length, matB_rows]
      by_cases h1 : la.length = lb.length
      · rw [h1]
        cases h2 : allV lb
        · simp
        · cases h3 : matOk lb.length la
          · simp
          · exact absurd ⟨h1, h2, h3⟩ hc
      · rw [decide_eq_false h1]; rfl
    · unfold solveB
      rw [rowsOf_length, matB_rows, if_neg hc]
end Nt
end Go.Proofs.YtjjlnahipiinfaaGreatDoor

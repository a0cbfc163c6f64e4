/- LinearMultiples: a multiple of an equation, and another one added. -/
import Derived.Test.YtjjlnahipiinfaaGreatDoorLinD
import Derived.Deep.RegionHeld3
namespace Go.Proofs.YtjjlnahipiinfaaGreatDoor
open Go.RowKit Go.Shelf
namespace Nt

theorem step2 (x y v : Raw) (hx : rawSz x) (hy : rawSz y) (hv : rawSz v) :
    ∃ (r1 r2 : Raw) (E1 E2 : Int), (∀ w, Env w → Calls Tryz.prog 21 #[rawV x, rawV y] w fun e w' => e = .returned (.tuple #[rawV r1, .int .i64 E1]) ∧ Below w.heap.size w w') ∧
      (∀ w, Env w → Calls Tryz.prog 22 #[rawV r1, rawV v] w fun e w' => e = .returned (.tuple #[rawV r2, .int .i64 E2]) ∧ Below w.heap.size w w') ∧
      ((E1 = 0 ∧ E2 = 0 ∧ r2 = rq (vq x * vq y + vq v) ∧ OkQ (vq x * vq y + vq v)) ∨ E1 = 1 ∨ E1 = 2 ∨ (E1 = 0 ∧ E2 = 1) ∨ (E1 = 0 ∧ E2 = 2)) := by
  cases hm : mulR x y with
  | none =>
    obtain ⟨E, hE, km⟩ := Mul_none hm hx hy
    refine ⟨zraw, zraw, E, 1, km, fun w hw => ?_, by omega⟩
    exact Add_bad false v.1 ⟨#[]⟩ ⟨#[]⟩ v.2.1 v.2.2 w hw (by decide) (by decide) hv.1 hv.2 (.inl (by unfold validB; rw [show isN ⟨#[]⟩ = false from rfl]; rfl))
  | some p =>
    have hp : p = vq x * vq y ∧ OkQ p := by
      unfold mulR at hm
      split at hm
      · rename_i hc
        simp only [Option.some.injEq] at hm
        rw [← hm]
        exact ⟨rfl, okQ_mul hc.2.2.1 hc.2.2.2⟩
      · cases hm
    have hpz := rawSz_rq hp.2
    by_cases h2 : vraw v = true
    · have e2 : qv (vq v) = rawV v := congrArg rawV (raw_of h2).1
      by_cases hc : ShortQ p ∧ ShortQ (vq v)
      · refine ⟨rq p, rq (p + vq v), 0, 0, fun w hw => Mul_some hm w hw, fun w hw => ?_, .inl ⟨rfl, rfl, by rw [hp.1], by rw [← hp.1]; exact okQ_add hc.1 hc.2⟩⟩
        have k := Add_short p (vq v) hc.1 hc.2 w hw
        rw [e2] at k
        exact k
      · refine ⟨rq p, zraw, 0, 2, fun w hw => Mul_some hm w hw, fun w hw => ?_, by omega⟩
        have k := Add_long p (vq v) hp.2 (raw_of h2).2 hc w hw
        rw [e2] at k
        exact k
    · exact ⟨rq p, zraw, 0, 1, fun w hw => Mul_some hm w hw, fun w hw => Add_bad (rq p).1 v.1 (rq p).2.1 (rq p).2.2 v.2.1 v.2.2 w hw hpz.1 hpz.2 hv.1 hv.2 (.inr ((Bool.not_eq_true _).mp h2)), by omega⟩
theorem mult_same {n i0 k : Nat} {c : Rat} {A : List (List Raw)} {b : List Raw} (h : SqB n A b) (hi0 : i0 < n) (hk : k < n) (hne : i0 ≠ k) (hc : c ≠ 0)
    (hv : ∀ j, j < n → OkQ (ent A i0 j * c + ent A k j)) (hw : OkQ (rhs b i0 * c + rhs b k)) :
    sameB (erOf (solveB A b)) (xsOf (solveB A b)) (erOf (solveB (A.set i0 (outL n fun j => ent A i0 j * c + ent A k j)) (b.set i0 (rq (rhs b i0 * c + rhs b k))))) (xsOf (solveB (A.set i0 (outL n fun j => ent A i0 j * c + ent A k j)) (b.set i0 (rq (rhs b i0 * c + rhs b k))))) = true :=
  same_of4 (by
    rcases mult_law h hi0 hk hne hc hv hw with h | h | h | ⟨f, h1, h2⟩
    · exact .inl h
    · exact .inr (.inl h)
    · exact .inr (.inr (.inl h))
    · exact .inr (.inr (.inr ⟨_, _, h1, h2, by rw [h1, h2]⟩))) (fun e h => by rw [h]; rfl) (fun e h => by rw [h]; rfl)
/-- The two places of the law. -/
theorem places {n : Nat} (hn : 2 ≤ n) (x y : Int) (_hx : 0 ≤ x) (_hy : 0 ≤ y) : ∃ i k : Nat, i < n ∧ k < n ∧ i ≠ k ∧ x % (n : Int) = i ∧ (x % (n : Int) + 1 + y % ((n : Int) - 1)) % (n : Int) = k := by
  have a0 := Int.emod_nonneg x (show (n : Int) ≠ 0 by omega)
  have a1 := Int.emod_lt_of_pos x (show (0 : Int) < (n : Int) by omega)
  have b0 := Int.emod_nonneg y (show (n : Int) - 1 ≠ 0 by omega)
  have b1 := Int.emod_lt_of_pos y (show (0 : Int) < (n : Int) - 1 by omega)
  generalize x % (n : Int) = p at *
  generalize y % ((n : Int) - 1) = q at *
  by_cases h : p + 1 + q < n
  · rw [Int.emod_eq_of_lt (by omega) h]
    exact ⟨p.toNat, (p + 1 + q).toNat, by omega, by omega, by omega, by omega, by omega⟩
  · have e : (p + 1 + q) % (n : Int) = p + 1 + q - n := by
      rw [← Int.sub_emod_right (p + 1 + q) (n : Int), Int.emod_eq_of_lt (by omega) (by omega)]
    rw [e]
    exact ⟨p.toNat, (p + 1 + q - n).toNat, by omega, by omega, by omega, by omega, by omega⟩
def IsZero (x : Raw) : Bool := x.2.1.toList == [48]
theorem zero_call (x : Raw) (w : World) : Calls Tryz.prog 20 #[rawV x] w fun e w' => e = .returned (.bool (IsZero x)) ∧ Below w.heap.size w w' := by
  obtain ⟨g, nn, dd⟩ := x
  have hz : Hid (IsZero (g, nn, dd) = (nn.toList == [48])) := rfl
  cases hc : (nn.toList == [48])
  all_goals (
    rw [hz.out, hc]
    go_enter Tryz.func20, Tryz.ntmps20
    go_wp2
    go_ret
    exact ⟨rfl, (Below.refl _ w).alloc (Nat.le_refl _) _⟩)
theorem vq_ne {x : Raw} (h : vraw x = true) (hz : IsZero x = false) : vq x ≠ 0 := fun e => by
  have h1 := (raw_of h).1
  rw [e, rq_zero] at h1
  rw [← h1] at hz
  have h2 : IsZero (false, ⟨#[48]⟩, ⟨#[49]⟩) = true := by decide +kernel
  rw [h2] at hz
  cases hz
/-- The row under way in the slice of rows. -/
def MRow (W : World) (B n i k : Nat) (la : List RowH) (c : Rat) (g cap z : Nat) (v16 : Value) (lb : List Raw) : Prop :=
  ∃ A c2, W.ownsRow B 23 1 (.slice (some ⟨g, 0, none⟩) n cap) n ((la.map hdr).set i (.slice A z c2)) ∧ W.ownsRow B 31 3 (.slice A z c2) z (rowL z fun j => rq (ent (rowsOf la) i j * c + ent (rowsOf la) k j)) ∧ W.ownsRow B 31 3 v16 n (rowL n fun j => lb.getD j zraw) ∧
    Apart (.slice A z c2) (.slice (some ⟨g, 0, none⟩) n cap) ∧ Apart v16 (.slice (some ⟨g, 0, none⟩) n cap) ∧ Apart (.slice A z c2) v16
theorem raws_cells {W : World} {b o : Nat} {l : List Raw} (h : InRow W (some ⟨b, o, none⟩) l) : ∀ t v, (rowL l.length fun j => l.getD j zraw)[t]? = some v → W.cell? ((⟨b, o, none⟩ : Addr).add t) = some v :=
  rowL_cells fun j hj => by
    obtain ⟨b2, o2, e, _, hc⟩ := h (by omega)
    simp only [Option.some.injEq, Addr.mk.injEq, and_true] at e
    obtain ⟨rfl, rfl⟩ := e
    rw [getD_at hj]
    exact hc j hj
theorem rowL_set3 {n i : Nat} {lb : List Raw} {x : Raw} (hl : lb.length = n) (hi : i < n) : ((((rowL n fun j => lb.getD j zraw).set (i * 3) (.bool x.1)).set (i * 3 + 1) (.string x.2.1)).set (i * 3 + 2) (.string x.2.2)) = rowL n fun j => (lb.set i x).getD j zraw := by
  rw [rowL_set _ hi x]
  exact rowL_congr fun j hj => by rw [getD_set _ _ _ (by omega)]

set_option maxRecDepth 100000 in
set_option maxHeartbeats 32000000 in
theorem lmult_any (kh : HeadC) (Aa Ab : Option Addr) (ca cb : Nat) (la : List RowH) (lb : List Raw) (x2 : Raw) (x3 x4 : Int) (zx : x2.2.1.size ≤ 140737488355328) (zy : x2.2.2.size ≤ 140737488355328) (h30 : 0 ≤ x3) (h31 : x3 ≤ 255) (h40 : 0 ≤ x4) (h41 : x4 ≤ 255) (w : World) (hE : Env w) (hs : SysIn w Aa Ab la lb) :
    Calls Tryz.prog 8 #[.slice Aa la.length ca, .slice Ab lb.length cb, .agg #[.bool x2.1, .string x2.2.1, .string x2.2.2], .int .u8 x3, .int .u8 x4] w fun e w' => e = .returned (.bool true) ∧ Below w.heap.size w w' := by
  have kf := fun W (h : Below w.heap.size w W) (hW : Env W) => square_any Aa Ab ca cb la lb W hW (hs.below h)
  have nb := hs.nb
  have na := hs.na
  have kval := Lib.hid fun W (h : Env W) => validr_any x2 ⟨zx, zy⟩ W h
  have kzer := Lib.hid fun W => zero_call x2 W
  have hxsz : rawSz x2 := ⟨zx, zy⟩
  have hvq := @vq_ne x2
  replace kh := Lib.hid kh
  obtain ⟨W0, hW0⟩ : ∃ W, W = w.alloc (.cells #[.bool x2.1, .string x2.2.1, .string x2.2.2] 31) := ⟨_, rfl⟩
  have hB0 : Hid (Below w.heap.size w W0) := by rw [hW0]; exact (Below.refl _ w).alloc (Nat.le_refl _) _
  have hbx : Hid (B3 W0 w.heap.size x2.1 x2.2.1 x2.2.2) := by rw [hW0]; exact B3.new w _ _ _
  replace hW0 := Lib.hid hW0
  cases h0 : squareB (rowsOf la) lb with
  | false =>
    rw [h0] at kf
    replace kf := Lib.hid kf
    replace hE := Lib.hid hE
    clear h0 hs hvq
    go_enter Tryz.func8, Tryz.ntmps8
    go_wp2_with fail
    rw [← hW0.out]
    refine (kh.out _ (hE.out.below hB0.out)).mono ?_
    rintro e w1 ⟨rfl, hb1⟩
    replace hb1 := Lib.hid (hB0.out.trans (hb1.mono hB0.out.size))
    go_wp2_with fail
    refine (kf.out _ hb1.out (hE.out.below hb1.out)).mono ?_
    rintro e w2 ⟨rfl, hb2⟩
    have hB2 := Lib.hid (hb1.out.trans (hb2.mono hb1.out.size))
    clear hb2
    go_wp2
    go_ret
    exact ⟨rfl, hB2.out⟩
  | true =>
  rw [h0] at kf
  obtain ⟨_, hsq⟩ := square_sq h0
  obtain ⟨n, hn⟩ : ∃ n, n = lb.length := ⟨_, rfl⟩
  rw [← hn] at hsq
  have hla : la.length = n := by have := hsq.1; rwa [rowsOf_length] at this
  have h8 : n ≤ 8 := hsq.2.2.1
  rw [hla, ← hn] at kf ⊢
  replace kf := Lib.hid kf
  have hE' := Lib.hid hE
  by_cases hn2 : n < 2
  · clear hE h0 hs hsq hla nb na h8 hn hvq
    go_enter Tryz.func8, Tryz.ntmps8
    go_wp2_with fail
    rw [← hW0.out]
    refine (kh.out _ (hE'.out.below hB0.out)).mono ?_
    rintro e w1 ⟨rfl, hb1⟩
    replace hb1 := Lib.hid (hB0.out.trans (hb1.mono hB0.out.size))
    go_wp2_with fail
    refine (kf.out _ hb1.out (hE'.out.below hb1.out)).mono ?_
    rintro e w2 ⟨rfl, hb2⟩
    have hB2 := Lib.hid (hb1.out.trans (hb2.mono hb1.out.size))
    clear hb2
    go_wp2
    go_ret
    exact ⟨rfl, hB2.out⟩
  have hn2' : 2 ≤ n := by omega
  cases hv : vraw x2 with
  | false =>
    rw [hv] at kval
    clear hE h0 hs hsq hla nb na hn hvq hn2 kzer
    obtain ⟨g0, nn0, dd0⟩ := x2
    go_enter Tryz.func8, Tryz.ntmps8
    go_wp2_with fail
    rw [← hW0.out]
    refine (kh.out _ (hE'.out.below hB0.out)).mono ?_
    rintro e w1 ⟨rfl, hb1⟩
    have hbx1 := Lib.hid (hbx.out.below hb1)
    replace hb1 := Lib.hid (hB0.out.trans (hb1.mono hB0.out.size))
    go_wp2_with fail
    refine (kf.out _ hb1.out (hE'.out.below hb1.out)).mono ?_
    rintro e w2 ⟨rfl, hb2⟩
    have hB2 := Lib.hid (hb1.out.trans (hb2.mono hb1.out.size))
    have hbx2 := Lib.hid (hbx1.out.below hb2)
    obtain ⟨x1', x2', x3', _, _, _⟩ := hbx2.out.facts
    clear hb2
    go_wp2_with fail
    refine (kval.out _ (hE'.out.below hB2.out)).mono ?_
    rintro e w3 ⟨rfl, hb3⟩
    have hB3 := Lib.hid (hB2.out.trans (hb3.mono hB2.out.size))
    clear hb3
    go_wp2
    go_ret
    exact ⟨rfl, hB3.out⟩
  | true =>
  rw [hv] at kval
  cases hz : IsZero x2 with
  | true =>
    rw [hz] at kzer
    clear hE h0 hs hsq hla nb na hn hvq hn2
    obtain ⟨g0, nn0, dd0⟩ := x2
    go_enter Tryz.func8, Tryz.ntmps8
    go_wp2_with fail
    rw [← hW0.out]
    refine (kh.out _ (hE'.out.below hB0.out)).mono ?_
    rintro e w1 ⟨rfl, hb1⟩
    have hbx1 := Lib.hid (hbx.out.below hb1)
    replace hb1 := Lib.hid (hB0.out.trans (hb1.mono hB0.out.size))
    go_wp2_with fail
    refine (kf.out _ hb1.out (hE'.out.below hb1.out)).mono ?_
    rintro e w2 ⟨rfl, hb2⟩
    have hB2 := Lib.hid (hb1.out.trans (hb2.mono hb1.out.size))
    have hbx2 := Lib.hid (hbx1.out.below hb2)
    obtain ⟨x1', x2', x3', _, _, _⟩ := hbx2.out.facts
    clear hb2
    go_wp2_with fail
    refine (kval.out _ (hE'.out.below hB2.out)).mono ?_
    rintro e w3 ⟨rfl, hb3⟩
    have hB3 := Lib.hid (hB2.out.trans (hb3.mono hB2.out.size))
    have hbx3 := Lib.hid (hbx2.out.below hb3)
    clear hb3 x1' x2' x3'
    obtain ⟨x1', x2', x3', _, _, _⟩ := hbx3.out.facts
    go_wp2_with fail
    refine (kzer.out _).mono ?_
    rintro e w4 ⟨rfl, hb4⟩
    have hB4 := Lib.hid (hB3.out.trans (hb4.mono hB3.out.size))
    clear hb4
    go_wp2
    go_ret
    exact ⟨rfl, hB4.out⟩
  | false =>
  rw [hz] at kzer
  have hc0 : vq x2 ≠ 0 := hvq hv hz
  by_cases hsz : 20 < x2.2.1.size + x2.2.2.size
  · clear hE h0 hs hsq hla nb na hn hvq hn2 hc0
    obtain ⟨g0, nn0, dd0⟩ := x2
    replace hsz : 20 < nn0.size + dd0.size := hsz
    replace zx : nn0.size ≤ 140737488355328 := zx
    replace zy : dd0.size ≤ 140737488355328 := zy
    go_enter Tryz.func8, Tryz.ntmps8
    go_wp2_with fail
    rw [← hW0.out]
    refine (kh.out _ (hE'.out.below hB0.out)).mono ?_
    rintro e w1 ⟨rfl, hb1⟩
    have hbx1 := Lib.hid (hbx.out.below hb1)
    replace hb1 := Lib.hid (hB0.out.trans (hb1.mono hB0.out.size))
    go_wp2_with fail
    refine (kf.out _ hb1.out (hE'.out.below hb1.out)).mono ?_
    rintro e w2 ⟨rfl, hb2⟩
    have hB2 := Lib.hid (hb1.out.trans (hb2.mono hb1.out.size))
    have hbx2 := Lib.hid (hbx1.out.below hb2)
    obtain ⟨x1', x2', x3', _, _, _⟩ := hbx2.out.facts
    clear hb2
    go_wp2_with fail
    refine (kval.out _ (hE'.out.below hB2.out)).mono ?_
    rintro e w3 ⟨rfl, hb3⟩
    have hB3 := Lib.hid (hB2.out.trans (hb3.mono hB2.out.size))
    have hbx3 := Lib.hid (hbx2.out.below hb3)
    clear hb3 x1' x2' x3'
    obtain ⟨x1', x2', x3', _, _, _⟩ := hbx3.out.facts
    go_wp2_with fail
    refine (kzer.out _).mono ?_
    rintro e w4 ⟨rfl, hb4⟩
    have hB4 := Lib.hid (hB3.out.trans (hb4.mono hB3.out.size))
    have hbx4 := Lib.hid (hbx3.out.below hb4)
    clear hb4 x1' x2' x3'
    obtain ⟨x1', x2', x3', _, _, _⟩ := hbx4.out.facts
    go_wp2
    go_ret
    exact ⟨rfl, hB4.out⟩
  have hs0 : SysIn W0 Aa Ab la lb := hs.below hB0.out
  have hE0 := Lib.hid (hE.below hB0.out)
  have kf0 := Lib.hid fun W (h : Below W0.heap.size W0 W) (hW : Env W) => square_any Aa Ab ca cb la lb W hW (hs0.below h)
  rw [h0, hla, ← hn] at kf0
  obtain ⟨i, k, hin, hkn, hik, hi, hk⟩ := places hn2' x3 x4 h30 h40
  have hrl : ∀ i (h : i < la.length), la[i].2.2.length = n := fun i hi => by
    have hi2 : i < (rowsOf la).length := by rw [rowsOf_length]; exact hi
    have := (matB_iff.1 hsq.2.2.2.2 i hi2).1
    rwa [rowsOf_get la i hi] at this
  have hn1 : 0 < n := by omega
  have hil : i < la.length := by omega
  have hkl : k < la.length := by omega
  have hib : i < lb.length := by omega
  have hkb : k < lb.length := by omega
  obtain ⟨ba, oa, rfl, hba, hca⟩ := hs0.ma (by omega)
  obtain ⟨bb, ob, hAb, hbb, hcb⟩ := hs0.mb (by omega)
  have hbxl : w.heap.size < W0.heap.size := hbx.out.lt
  have hri := hrl i hil
  have hrk := hrl k hkl
  have hrowi := (hca i hil).2
  have hrowk := (hca k hkl).2
  obtain ⟨bi, oi, hai, hbi, hci⟩ := hrowi (by omega)
  obtain ⟨bk, ok, hak, hbk, hck⟩ := hrowk (by omega)
  obtain ⟨g0, nn0, dd0⟩ := x2
  obtain ⟨ci, hcie⟩ : ∃ c, c = la[i].2.1 := ⟨_, rfl⟩
  obtain ⟨ck, hcke⟩ : ∃ c, c = la[k].2.1 := ⟨_, rfl⟩
  have HX : Hid (∀ W, Below W0.heap.size W0 W → W.cell? ⟨w.heap.size, 0, none⟩ = some (.bool g0) ∧ W.cell? ⟨w.heap.size, 1, none⟩ = some (.string nn0) ∧ W.cell? ⟨w.heap.size, 2, none⟩ = some (.string dd0)) := fun W h => by
    obtain ⟨q1, q2, q3, _, _, _⟩ := hbx.out.facts
    exact ⟨(h.cell (p := ⟨w.heap.size, 0, none⟩) hbxl).trans q1, (h.cell (p := ⟨w.heap.size, 1, none⟩) hbxl).trans q2, (h.cell (p := ⟨w.heap.size, 2, none⟩) hbxl).trans q3⟩
  have HH : Hid (∀ W, Below W0.heap.size W0 W → W.cell? ⟨ba, oa + i, none⟩ = some (.slice (some ⟨bi, oi, none⟩) n ci) ∧ W.cell? ⟨ba, oa + k, none⟩ = some (.slice (some ⟨bk, ok, none⟩) n ck)) := fun W h => by
    have q1 := (hca i hil).1
    have q2 := (hca k hkl).1
    rw [hai, hri, ← hcie] at q1
    rw [hak, hrk, ← hcke] at q2
    exact ⟨(h.cell (p := ⟨ba, _, none⟩) hba).trans q1, (h.cell (p := ⟨ba, _, none⟩) hba).trans q2⟩
  have HR : Hid (∀ z, z < n → ∃ xi xk : Raw, vq xi = ent (rowsOf la) i z ∧ vq xk = ent (rowsOf la) k z ∧ rawSz xi ∧ rawSz xk ∧ ∀ W, Below W0.heap.size W0 W → (W.cell? ⟨bi, oi + z * 3, none⟩ = some (.bool xi.1) ∧ W.cell? ⟨bi, oi + z * 3 + 1, none⟩ = some (.string xi.2.1) ∧ W.cell? ⟨bi, oi + z * 3 + 2, none⟩ = some (.string xi.2.2)) ∧ W.cell? ⟨bk, ok + z * 3, none⟩ = some (.bool xk.1) ∧ W.cell? ⟨bk, ok + z * 3 + 1, none⟩ = some (.string xk.2.1) ∧ W.cell? ⟨bk, ok + z * 3 + 2, none⟩ = some (.string xk.2.2)) := fun z hz => by
    have e1 : z < la[i].2.2.length := by omega
    have e2 : z < la[k].2.2.length := by omega
    obtain ⟨p1, p2, p3⟩ := hci z e1
    obtain ⟨q1, q2, q3⟩ := hck z e2
    refine ⟨la[i].2.2[z], la[k].2.2[z], ?_, ?_, (hs.za _ (List.getElem_mem hil)).2 _ (List.getElem_mem e1), (hs.za _ (List.getElem_mem hkl)).2 _ (List.getElem_mem e2), fun W h => ⟨⟨(h.cell (p := ⟨bi, _, none⟩) hbi).trans p1, (h.cell (p := ⟨bi, _, none⟩) hbi).trans p2, (h.cell (p := ⟨bi, _, none⟩) hbi).trans p3⟩, (h.cell (p := ⟨bk, _, none⟩) hbk).trans q1, (h.cell (p := ⟨bk, _, none⟩) hbk).trans q2, (h.cell (p := ⟨bk, _, none⟩) hbk).trans q3⟩⟩
    · unfold ent
      rw [getD_at (l := rowsOf la) (by rw [rowsOf_length]; exact hil), rowsOf_get la i hil, getD_at e1]
    · unfold ent
      rw [getD_at (l := rowsOf la) (by rw [rowsOf_length]; exact hkl), rowsOf_get la k hkl, getD_at e2]
  have HBv : Hid (∃ xi xk : Raw, vq xi = rhs lb i ∧ vq xk = rhs lb k ∧ rawSz xi ∧ rawSz xk ∧ ∀ W, Below W0.heap.size W0 W → (W.cell? ⟨bb, ob + i * 3, none⟩ = some (.bool xi.1) ∧ W.cell? ⟨bb, ob + i * 3 + 1, none⟩ = some (.string xi.2.1) ∧ W.cell? ⟨bb, ob + i * 3 + 2, none⟩ = some (.string xi.2.2)) ∧ W.cell? ⟨bb, ob + k * 3, none⟩ = some (.bool xk.1) ∧ W.cell? ⟨bb, ob + k * 3 + 1, none⟩ = some (.string xk.2.1) ∧ W.cell? ⟨bb, ob + k * 3 + 2, none⟩ = some (.string xk.2.2)) := by
    obtain ⟨p1, p2, p3⟩ := hcb i hib
    obtain ⟨q1, q2, q3⟩ := hcb k hkb
    refine ⟨lb[i], lb[k], ?_, ?_, hs.zb _ (List.getElem_mem hib), hs.zb _ (List.getElem_mem hkb), fun W h => ⟨⟨(h.cell (p := ⟨bb, _, none⟩) hbb).trans p1, (h.cell (p := ⟨bb, _, none⟩) hbb).trans p2, (h.cell (p := ⟨bb, _, none⟩) hbb).trans p3⟩, (h.cell (p := ⟨bb, _, none⟩) hbb).trans q1, (h.cell (p := ⟨bb, _, none⟩) hbb).trans q2, (h.cell (p := ⟨bb, _, none⟩) hbb).trans q3⟩⟩
    · unfold rhs; rw [getD_at hib]
    · unfold rhs; rw [getD_at hkb]
  have hri0 : Hid ((la.map hdr)[i]? = some (.slice (some ⟨bi, oi, none⟩) n ci)) := by
    show _ = _
    rw [List.getElem?_map, List.getElem?_eq_getElem hil]
    show some (Value.slice la[i].1 la[i].2.2.length la[i].2.1) = _
    rw [hai, hri, ← hcie]
  have hma : Hid (∀ W, Below W0.heap.size W0 W → InMat W (some ⟨ba, oa, none⟩) la) := fun W h => hs0.ma.below h (Nat.le_refl _)
  have hmb : Hid (∀ W, Below W0.heap.size W0 W → InRow W Ab lb) := fun W h => hs0.mb.below h (Nat.le_refl _)
  have hend : Hid (∀ (hv : ∀ j, j < n → OkQ (ent (rowsOf la) i j * vq (g0, nn0, dd0) + ent (rowsOf la) k j)) (hw : OkQ (rhs lb i * vq (g0, nn0, dd0) + rhs lb k)), _) := fun hv hw => mult_same hsq hin hkn hik hc0 hv hw
  have ks1 : Hid (∀ W, Below W0.heap.size W0 W → Env W → _) := fun W (h : Below W0.heap.size W0 W) (hW : Env W) => Solve_r (some ⟨ba, oa, none⟩) Ab ca cb la lb W hW (hs0.below h)
  replace ks1 := ks1.out
  rw [hla, ← hn] at ks1
  have ks2 : Hid (∀ W p c q d A9 c9, Below W0.heap.size W0 W → Env W → InMat W p (la.set i (A9, c9, outL n fun j => ent (rowsOf la) i j * vq (g0, nn0, dd0) + ent (rowsOf la) k j)) → InRow W q (lb.set i (rq (rhs lb i * vq (g0, nn0, dd0) + rhs lb k))) → (∀ j, j < n → OkQ (ent (rowsOf la) i j * vq (g0, nn0, dd0) + ent (rowsOf la) k j)) → OkQ (rhs lb i * vq (g0, nn0, dd0) + rhs lb k) → Calls Tryz.prog 12 #[.slice p n c, .slice q n d] W fun e w' => (∃ p c, e = .returned (.tuple #[.slice p (xsOf (solveB ((rowsOf la).set i (outL n fun j => ent (rowsOf la) i j * vq (g0, nn0, dd0) + ent (rowsOf la) k j)) (lb.set i (rq (rhs lb i * vq (g0, nn0, dd0) + rhs lb k))))).length c, .int .i64 (erOf (solveB ((rowsOf la).set i (outL n fun j => ent (rowsOf la) i j * vq (g0, nn0, dd0) + ent (rowsOf la) k j)) (lb.set i (rq (rhs lb i * vq (g0, nn0, dd0) + rhs lb k)))))]) ∧ InRow w' p (xsOf (solveB ((rowsOf la).set i (outL n fun j => ent (rowsOf la) i j * vq (g0, nn0, dd0) + ent (rowsOf la) k j)) (lb.set i (rq (rhs lb i * vq (g0, nn0, dd0) + rhs lb k)))))) ∧ Below W.heap.size W w') := fun W p c q d A9 c9 hW hEW hp hq hv hw => by
    have k := Solve_r p q c d (la.set i (A9, c9, outL n fun j => ent (rowsOf la) i j * vq (g0, nn0, dd0) + ent (rowsOf la) k j)) (lb.set i (rq (rhs lb i * vq (g0, nn0, dd0) + rhs lb k))) W hEW ⟨hp, hq, by rw [List.length_set]; omega, by rw [List.length_set]; omega, fun x hx => by
      rcases mem_set_row hx with h1 | h1
      · exact hs.za x h1
      · rw [h1]
        refine ⟨by rw [outL_length]; omega, fun y hy => ?_⟩
        obtain ⟨j, hj, rfl⟩ := List.getElem_of_mem hy
        rw [outL_get]; exact rawSz_rq (hv j (by simpa [outL_length] using hj)), fun x hx => by
      rcases List.mem_or_eq_of_mem_set hx with h1 | h1
      · exact hs.zb x h1
      · rw [h1]; exact rawSz_rq hw⟩
    rw [rowsOf_set, List.length_set, List.length_set, hla, ← hn] at k
    exact k
  have hbd1 := @solve_bd (rowsOf la) lb
  have hbd2 := @solve_bd ((rowsOf la).set i (outL n fun j => ent (rowsOf la) i j * vq (g0, nn0, dd0) + ent (rowsOf la) k j)) (lb.set i (rq (rhs lb i * vq (g0, nn0, dd0) + rhs lb k)))
  generalize xsOf (solveB (rowsOf la) lb) = xs1 at *
  generalize erOf (solveB (rowsOf la) lb) = er1 at *
  generalize xsOf (solveB ((rowsOf la).set i (outL n fun j => ent (rowsOf la) i j * vq (g0, nn0, dd0) + ent (rowsOf la) k j)) (lb.set i (rq (rhs lb i * vq (g0, nn0, dd0) + rhs lb k)))) = xs2 at *
  generalize erOf (solveB ((rowsOf la).set i (outL n fun j => ent (rowsOf la) i j * vq (g0, nn0, dd0) + ent (rowsOf la) k j)) (lb.set i (rq (rhs lb i * vq (g0, nn0, dd0) + rhs lb k)))) = er2 at *
  obtain ⟨b1, b2, b3, _⟩ := hbd1
  obtain ⟨b5, b6, _, _⟩ := hbd2
  have l1 : xs1.length ≤ 100 := by omega
  have hlal := Lib.hid hla
  have hlbl : Hid (lb.length = n) := hn.symm
  have s0 : (0 : Int) ≤ x3 % (n : Int) := by omega
  have s1 : x3 % (n : Int) < (n : Int) := by omega
  have s4 : (x3 % (n : Int)).toNat = i := by omega
  have s6 := Int.emod_nonneg x4 (show (n : Int) - 1 ≠ 0 by omega)
  have s7 := Int.emod_lt_of_pos x4 (show (0 : Int) < (n : Int) - 1 by omega)
  have s2 : (0 : Int) ≤ (x3 % (n : Int) + 1 + x4 % ((n : Int) - 1)) % (n : Int) := by omega
  have s3 : (x3 % (n : Int) + 1 + x4 % ((n : Int) - 1)) % (n : Int) < (n : Int) := by omega
  have s5 : ((x3 % (n : Int) + 1 + x4 % ((n : Int) - 1)) % (n : Int)).toNat = k := by omega
  have s8 : ((n : Int) - 1 == 0) = false := by rw [beq_eq_false_iff_ne]; omega
  subst hAb
  replace ks1 := Lib.hid ks1
  obtain ⟨i0, hi0, hzz⟩ := Option.map_eq_some_iff.1 infoQ
  simp only [Prod.mk.injEq] at hzz
  obtain ⟨hz0, hz1, hz2⟩ := hzz
  obtain ⟨i1, hi1, hyy⟩ := Option.map_eq_some_iff.1 infoRS
  simp only [Prod.mk.injEq] at hyy
  obtain ⟨hy0, hy1, hy2⟩ := hyy
  replace hi0 := Lib.hid hi0
  replace hz0 := Lib.hid hz0
  replace hz1 := Lib.hid hz1
  replace hz2 := Lib.hid hz2
  replace hi1 := Lib.hid hi1
  replace hy0 := Lib.hid hy0
  replace hy1 := Lib.hid hy1
  replace hy2 := Lib.hid hy2
  replace hxsz := Lib.hid hxsz
  replace zx : nn0.size ≤ 140737488355328 := zx
  replace zy : dd0.size ≤ 140737488355328 := zy
  replace hsz : ¬ 20 < nn0.size + dd0.size := hsz
  clear hE h0 hs hs0 hsq hla nb na hn hvq hc0 hrl hca hcb hrowi hrowk hci hck hai hak hcie hcke hri hrk hi hk kf hE' hn2 hbxl hil hkl hib hkb hba hbb hbi hbk b3
  go_enter Tryz.func8, Tryz.ntmps8
  go_wp2_with fail
  rw [← hW0.out]
  refine (kh.out _ hE0.out).mono ?_
  rintro e w1 ⟨rfl, hb1⟩
  replace hb1 := Lib.hid hb1
  go_wp2_with fail
  refine (kf0.out _ hb1.out (hE0.out.below hb1.out)).mono ?_
  rintro e w2 ⟨rfl, hb2⟩
  have hB2 := Lib.hid (hb1.out.trans (hb2.mono hb1.out.size))
  obtain ⟨x1', x2', x3'⟩ := HX.out _ hB2.out
  clear hb2
  go_wp2_with fail
  refine (kval.out _ (hE0.out.below hB2.out)).mono ?_
  rintro e w3 ⟨rfl, hb3⟩
  have hB3 := Lib.hid (hB2.out.trans (hb3.mono hB2.out.size))
  clear hb3 x1' x2' x3'
  obtain ⟨x1', x2', x3'⟩ := HX.out _ hB3.out
  go_wp2_with fail
  refine (kzer.out _).mono ?_
  rintro e w4 ⟨rfl, hb4⟩
  have hB4 := Lib.hid (hB3.out.trans (hb4.mono hB3.out.size))
  clear hb4 x1' x2' x3'
  obtain ⟨x1', x2', x3'⟩ := HX.out _ hB4.out
  have hszz := hB4.out.size
  have hcells : Hid (∀ j u, (la.map hdr)[j]? = some u → (w4.alloc (.cells #[] 23)).cell? ((⟨ba, oa, none⟩ : Addr).add j) = some u) := hdr_cells (hma.out _ (bal2 hB4.out _))
  have hone : Hid (∀ u ∈ la.map hdr, u.oneCell' = true) := hdr_one la
  have hlen : Hid ((la.map hdr).length = n * 1) := by show _ = _; rw [List.length_map, hlal.out, Nat.mul_one]
  have hlen2 : Hid ((rowL n fun j => lb.getD j zraw).length = n * 3) := rowL_length _ _
  have hone2 : Hid (∀ u ∈ (rowL n fun j => lb.getD j zraw), u.oneCell' = true) := rowL_one _ _

  go_wp2_with (first | (at_builtin; refine wpList_append_new _ rfl _ _ 22 rfl W0.heap.size 23 i1 (.slice none 0 0) 1 24 Tryz.underlying22 hi1.out hy0.out hy1.out hy2.out rfl (by decide) (.slice (some ⟨w4.heap.size, 0, none⟩) 0 0) 0 [] rfl (World.ownsRow_made w4 #[] 0 hszz (by unfold maxLen; omega) rfl) ⟨ba, oa, none⟩ n ca (la.map hdr) rfl hlen.out hcells.out hone.out (by omega) (by unfold maxLen; omega) (by omega) (by simp; omega) ?_; intro v15 wa ho hg hnb; have hBa : Hid (Below W0.heap.size W0 wa) := ((bal2 hB4.out _).grown hg (by simp; omega) (fun b e => by simp only [Value.ownBlock, Option.some.injEq] at e; omega)); replace ho : wa.ownsRow W0.heap.size 23 1 v15 n (la.map hdr) := (by have h9 := ho; rw [Nat.zero_add, List.nil_append] at h9; exact h9); obtain ⟨g, cap, rfl, hg1, hg2, _, _⟩ := own_form ho hn1; have hszA := hBa.out.size; have hcells2 : Hid (∀ j u, (rowL n fun j => lb.getD j zraw)[j]? = some u → (wa.alloc (.cells #[] 31)).cell? ((⟨bb, ob, none⟩ : Addr).add j) = some u) := (by have h9 := raws_cells (hmb.out _ (bal2 hBa.out (.cells #[] 31))); rw [hlbl.out] at h9; exact h9); replace hg1 := Lib.hid hg1; replace hg2 := Lib.hid hg2; replace ho := Lib.hid ho; clear hg hnb hcells hone hlen x1' x2' x3') | (at_builtin; refine wpList_append_new _ rfl _ _ 23 rfl W0.heap.size 31 i0 (.agg #[.bool false, .string ⟨#[]⟩, .string ⟨#[]⟩]) 3 40 Tryz.underlying23 hi0.out hz0.out hz1.out hz2.out rfl (by decide) (.slice (some ⟨wa.heap.size, 0, none⟩) 0 0) 0 [] rfl (World.ownsRow_made wa #[] 0 hszA (by unfold maxLen; omega) rfl) ⟨bb, ob, none⟩ n cb (rowL n fun j => lb.getD j zraw) rfl hlen2.out hcells2.out hone2.out (by omega) (by unfold maxLen; omega) (by omega) (by simp; omega) ?_; intro v16 wb ho6 hg hnb; have hap0 : Apart (.slice (some ⟨g, 0, none⟩) n cap) (.slice (some ⟨wa.heap.size, 0, none⟩) 0 0) := (fun b e1 e2 => by simp only [Value.ownBlock, Option.some.injEq] at e1 e2; have := hg2.out; omega); have hBb : Hid (Below W0.heap.size W0 wb) := ((bal2 hBa.out _).grown hg (by simp; omega) (fun b e => by simp only [Value.ownBlock, Option.some.injEq] at e; omega)); have h15 := own_keep (ho.out.alloc (.cells #[] 31)) hg hap0; have hap6 := (apart_new (ho.out.alloc (.cells #[] 31)) hnb hap0).symm; replace ho6 : wb.ownsRow W0.heap.size 31 3 v16 n (rowL n fun j => lb.getD j zraw) := (by have h9 := ho6; rw [Nat.zero_add, List.nil_append] at h9; exact h9); obtain ⟨g16, cap16, rfl, _, _, _, _⟩ := own_form ho6 hn1; obtain ⟨_, gl, gf, gc⟩ := own_at h15 hn1; replace gf := gf i; replace gc := gc i _ hri0.out; replace h15 := Lib.hid h15; replace ho6 := Lib.hid ho6; replace hap6 := Lib.hid hap6; clear hg hnb hcells2 hone2 hlen2 hap0))
  have hM0 : Hid (MRow (wb.setCell ⟨g, i, none⟩ (.slice none 0 0)) W0.heap.size n i k la (vq (g0, nn0, dd0)) g cap 0 (.slice (some ⟨g16, 0, none⟩) n cap16) lb) := ⟨none, 0, own_set h15.out, World.ownsRow_nil _ _ _ _, own_far ho6.out (fun e => hap6.out g16 rfl (by cases e; rfl)), apart_nil' _, hap6.out, apart_nil' _⟩
  have hBm : Hid (Below W0.heap.size W0 (wb.setCell ⟨g, i, none⟩ (.slice none 0 0))) := hBb.out.setCell hg1.out _
  clear gl gf gc h15 ho6 hap6 ho hBb hBa hB4 hB3 hB2 hb1 hg2 hszz hszA hri0 kval kzer kf0 kh hmb
  go_loopw [17] (fun c wz => ∃ z : Nat, z ≤ n ∧ c = .int .i64 (z : Int) ∧ Hid (MRow wz W0.heap.size n i k la (vq (g0, nn0, dd0)) g cap z (.slice (some ⟨g16, 0, none⟩) n cap16) lb) ∧ Hid (∀ j, j < z → OkQ (ent (rowsOf la) i j * vq (g0, nn0, dd0) + ent (rowsOf la) k j)) ∧ Hid (Below W0.heap.size W0 wz)) (fun c _ => n - (intOf c).toNat)
  case atStart => exact ⟨0, Nat.zero_le _, rfl, hM0, fun j h => absurd h (by omega), hBm⟩
  case round =>
    obtain ⟨z, hz, rfl, hM, hOk, hB⟩ := hrel
    clear hM0 hBm
    by_cases hlt : z < n
    · obtain ⟨xi, xk, ei, ek, zi, zk, hcells⟩ := HR.out z hlt
      obtain ⟨r1, r2, E1, E2, km, ka, hcase⟩ := step2 xi (g0, nn0, dd0) xk zi hxsz.out zk
      rw [ei, ek] at hcase
      obtain ⟨xg, xn, xd⟩ := xi
      obtain ⟨kg, kn, kd⟩ := xk
      obtain ⟨r1g, r1n, r1d⟩ := r1
      obtain ⟨r2g, r2n, r2d⟩ := r2
      replace km : Hid (∀ w, Env w → Calls Tryz.prog 21 #[.agg #[.bool xg, .string xn, .string xd], .agg #[.bool g0, .string nn0, .string dd0]] w fun e w' => e = .returned (.tuple #[.agg #[.bool r1g, .string r1n, .string r1d], .int .i64 E1]) ∧ Below w.heap.size w w') := km
      replace ka : Hid (∀ w, Env w → Calls Tryz.prog 22 #[.agg #[.bool r1g, .string r1n, .string r1d], .agg #[.bool kg, .string kn, .string kd]] w fun e w' => e = .returned (.tuple #[.agg #[.bool r2g, .string r2n, .string r2d], .int .i64 E2]) ∧ Below w.heap.size w w') := ka
      have HO13 : Hid (∀ W, Below W0.heap.size W0 W → W.cell? ⟨ba, oa + i, none⟩ = some (.slice (some ⟨bi, oi, none⟩) n ci) ∧ W.cell? ⟨bi, oi + z * 3, none⟩ = some (.bool xg) ∧ W.cell? ⟨bi, oi + z * 3 + 1, none⟩ = some (.string xn) ∧ W.cell? ⟨bi, oi + z * 3 + 2, none⟩ = some (.string xd) ∧ W.cell? ⟨w.heap.size, 0, none⟩ = some (.bool g0) ∧ W.cell? ⟨w.heap.size, 1, none⟩ = some (.string nn0) ∧ W.cell? ⟨w.heap.size, 2, none⟩ = some (.string dd0)) := fun W h => ⟨(HH.out W h).1, (hcells W h).1.1, (hcells W h).1.2.1, (hcells W h).1.2.2, HX.out W h⟩
      have HO14 : Hid (∀ W, Below W0.heap.size W0 W → W.cell? ⟨ba, oa + k, none⟩ = some (.slice (some ⟨bk, ok, none⟩) n ck) ∧ W.cell? ⟨bk, ok + z * 3, none⟩ = some (.bool kg) ∧ W.cell? ⟨bk, ok + z * 3 + 1, none⟩ = some (.string kn) ∧ W.cell? ⟨bk, ok + z * 3 + 2, none⟩ = some (.string kd)) := fun W h => ⟨(HH.out W h).2, (hcells W h).2⟩
      obtain ⟨p0, p1, p2, p3, p4, p5, p6⟩ := HO13.out _ hB.out
      have j0 : (0 : Int) ≤ (z : Int) := by omega
      have j1 : (z : Int) < (n : Int) := by omega
      clear hcells
      rcases hcase with ⟨rfl, rfl, hr, hok⟩ | rfl | rfl | ⟨rfl, rfl⟩ | ⟨rfl, rfl⟩
      · as_aux_lemma =>
          have hok2 : Hid (∀ j, j < z + 1 → OkQ (ent (rowsOf la) i j * vq (g0, nn0, dd0) + ent (rowsOf la) k j)) := fun j hj => by
            by_cases e : j = z
            · rw [e]; exact hok
            · exact hOk.out j (by omega)
          have hOk2 := hok2
          have hmore : Hid ((rowL z fun j => rq (ent (rowsOf la) i j * vq (g0, nn0, dd0) + ent (rowsOf la) k j)) ++ rawL (r2g, r2n, r2d) = rowL (z + 1) fun j => rq (ent (rowsOf la) i j * vq (g0, nn0, dd0) + ent (rowsOf la) k j)) := by
            show _ = _
            rw [rowL_succ, hr]
          obtain ⟨A, c2, h13, hrow, h16, hap, hap6, hrp⟩ := hM.out
          have hxs : Hid (((la.map hdr).set i (.slice A z c2))[i]? = some (.slice A z c2)) := by
            show _ = _
            rw [List.getElem?_set_self (by rw [List.length_map, hlal.out]; exact hin)]
          replace h13 := Lib.hid h13
          replace hrow := Lib.hid hrow
          replace h16 := Lib.hid h16
          replace hap := Lib.hid hap
          replace hap6 := Lib.hid hap6
          replace hrp := Lib.hid hrp
          clear hr hok hok2 hM
          have qBa : Hid (Below W0.heap.size W0 (wr.alloc (.cells #[.bool false, .string ⟨#[]⟩, .string ⟨#[]⟩] 31))) := hB.out.alloc hB.out.size _
          have qBd : Hid (Below W0.heap.size W0 (wr.alloc (.cells #[.bool false, .string ⟨#[]⟩, .string ⟨#[]⟩] 31)).drew) := qBa.out.drew
          have qBe : Hid (Below W0.heap.size W0 wr.drew) := hB.out.drew
          have qCd : Hid (Below wr.heap.size wr (wr.alloc (.cells #[.bool false, .string ⟨#[]⟩, .string ⟨#[]⟩] 31)).drew) := ((Below.refl _ wr).alloc (Nat.le_refl _) _).drew
          have qCe : Hid (Below wr.heap.size wr wr.drew) := (Below.refl _ wr).drew
          have qxd : Hid (B3 (wr.alloc (.cells #[.bool false, .string ⟨#[]⟩, .string ⟨#[]⟩] 31)).drew wr.heap.size false ⟨#[]⟩ ⟨#[]⟩) := B3.new wr _ _ _
          have qwz : Hid (W0.heap.size ≤ wr.heap.size) := hB.out.size
          go_wp2_with fail
          go_region_held3 (fun w' => w'.cell? ⟨ba, oa + i, none⟩ = some (.slice (some ⟨bi, oi, none⟩) n ci) ∧ w'.cell? ⟨bi, oi + z * 3, none⟩ = some (.bool xg) ∧ w'.cell? ⟨bi, oi + z * 3 + 1, none⟩ = some (.string xn) ∧ w'.cell? ⟨bi, oi + z * 3 + 2, none⟩ = some (.string xd) ∧ w'.cell? ⟨w.heap.size, 0, none⟩ = some (.bool g0) ∧ w'.cell? ⟨w.heap.size, 1, none⟩ = some (.string nn0) ∧ w'.cell? ⟨w.heap.size, 2, none⟩ = some (.string dd0)) (first | (with_reducible exact HO13.out _ qBe.out) | (with_reducible exact HO13.out _ qBd.out) | (with_reducible exact HO13.out _ hB.out) | (with_reducible exact HO13.out _ qBa.out) | (with_reducible exact HO13.out _ qB2.out) | (with_reducible exact HO13.out _ (qB2.out.alloc qB2.out.size _)) | (with_reducible exact HO13.out _ (((qB2.out.setCell qwz.out _).setCell qwz.out _).setCell qwz.out _)) | go_keep)
            (first
              | (go_at_call 21; refine (km.out _ ?_).mono ?_; (with_reducible exact hE0.out.below qBd.out); rintro e q2 ⟨rfl, hb2⟩; have qx2 := Lib.hid (qxd.out.below hb2); have qB2 := Lib.hid (qBd.out.trans (hb2.mono qBd.out.size)); have qC2 := Lib.hid (qCd.out.trans (hb2.mono qCd.out.size)); obtain ⟨y1, y2, y3, y4, y5, y6⟩ := qx2.out.facts; have y7 := qx2.out.lt; clear hb2)
              | (go_at_call 21; refine (km.out _ ?_).mono ?_; (with_reducible exact hE0.out.below qBe.out); rintro e q2 ⟨rfl, hb2⟩; have qB2 := Lib.hid (qBe.out.trans (hb2.mono qBe.out.size)); have qC2 := Lib.hid (qCe.out.trans (hb2.mono qCe.out.size)); clear hb2))
          all_goals (
            first
              | (obtain ⟨wA, hw3⟩ : ∃ W, W = q2.alloc (.cells #[.bool r1g, .string r1n, .string r1d] 31) := ⟨_, rfl⟩; rw [← hw3]; obtain ⟨BxA, hBx⟩ : ∃ b, b = q2.heap.size := ⟨_, rfl⟩; rw [← hBx]; have hxA : Hid (B3 wA BxA r1g r1n r1d) := (by rw [hw3, hBx]; exact B3.new q2 _ _ _); have hBA : Hid (Below W0.heap.size W0 wA) := (by rw [hw3]; exact qB2.out.alloc qB2.out.size _); have hCA : Hid (Below wr.heap.size wr wA) := (by rw [hw3]; exact qC2.out.alloc qC2.out.size _); clear hBx)
              | (obtain ⟨wA, hw3⟩ : ∃ W, W = ((q2.setCell ⟨wr.heap.size, 0, none⟩ (.bool r1g)).setCell ⟨wr.heap.size, 1, none⟩ (.string r1n)).setCell ⟨wr.heap.size, 2, none⟩ (.string r1d) := ⟨_, rfl⟩; rw [← hw3]; obtain ⟨BxA, hBx⟩ : ∃ b, b = wr.heap.size := ⟨_, rfl⟩; rw [← hBx]; have hxA : Hid (B3 wA BxA r1g r1n r1d) := (by rw [hw3, hBx]; exact ((qx2.out.set0 r1g).set1 r1n).set2 r1d); have hBA : Hid (Below W0.heap.size W0 wA) := (by rw [hw3]; exact ((qB2.out.setCell qwz.out _).setCell qwz.out _).setCell qwz.out _); have hCA : Hid (Below wr.heap.size wr wA) := (by rw [hw3]; exact ((qC2.out.setCell (Nat.le_refl _) _).setCell (Nat.le_refl _) _).setCell (Nat.le_refl _) _); clear hBx qx2 y1 y2 y3 y4 y5 y6 y7)
            clear hw3 qB2 qC2 qBe qBd qBa qCe qCd qxd qwz HO13 p0 p1 p2 p3 p4 p5 p6 km
            have hEA := Lib.hid (hE0.out.below hBA.out)
            have HP : Hid (∀ W, Below wA.heap.size wA W → W.cell? ⟨BxA, 0, none⟩ = some (.bool r1g) ∧ W.cell? ⟨BxA, 1, none⟩ = some (.string r1n) ∧ W.cell? ⟨BxA, 2, none⟩ = some (.string r1d) ∧ W.cell? ⟨ba, oa + k, none⟩ = some (.slice (some ⟨bk, ok, none⟩) n ck) ∧ W.cell? ⟨bk, ok + z * 3, none⟩ = some (.bool kg) ∧ W.cell? ⟨bk, ok + z * 3 + 1, none⟩ = some (.string kn) ∧ W.cell? ⟨bk, ok + z * 3 + 2, none⟩ = some (.string kd)) := fun W h => by
              obtain ⟨u1, u2, u3, _, _, _⟩ := (hxA.out.below h).facts
              exact ⟨u1, u2, u3, HO14.out W (hBA.out.trans (h.mono hBA.out.size))⟩
            have hRA := Lib.hid (Below.refl wA.heap.size wA)
            obtain ⟨p0, p1, p2, p3, p4, p5, p6⟩ := HP.out _ hRA.out
            have xl := hxA.out.lt
            have qBa : Hid (Below wA.heap.size wA (wA.alloc (.cells #[.bool false, .string ⟨#[]⟩, .string ⟨#[]⟩] 31))) := hRA.out.alloc hRA.out.size _
            have qBd : Hid (Below wA.heap.size wA (wA.alloc (.cells #[.bool false, .string ⟨#[]⟩, .string ⟨#[]⟩] 31)).drew) := qBa.out.drew
            have qBe : Hid (Below wA.heap.size wA wA.drew) := hRA.out.drew
            have qCd : Hid (Below wA.heap.size wA (wA.alloc (.cells #[.bool false, .string ⟨#[]⟩, .string ⟨#[]⟩] 31)).drew) := ((Below.refl _ wA).alloc (Nat.le_refl _) _).drew
            have qCe : Hid (Below wA.heap.size wA wA.drew) := (Below.refl _ wA).drew
            have qxd : Hid (B3 (wA.alloc (.cells #[.bool false, .string ⟨#[]⟩, .string ⟨#[]⟩] 31)).drew wA.heap.size false ⟨#[]⟩ ⟨#[]⟩) := B3.new wA _ _ _
            have qwz : Hid (wA.heap.size ≤ wA.heap.size) := hRA.out.size
            go_wp2_with fail
            go_region_held3 (fun w' => w'.cell? ⟨BxA, 0, none⟩ = some (.bool r1g) ∧ w'.cell? ⟨BxA, 1, none⟩ = some (.string r1n) ∧ w'.cell? ⟨BxA, 2, none⟩ = some (.string r1d) ∧ w'.cell? ⟨ba, oa + k, none⟩ = some (.slice (some ⟨bk, ok, none⟩) n ck) ∧ w'.cell? ⟨bk, ok + z * 3, none⟩ = some (.bool kg) ∧ w'.cell? ⟨bk, ok + z * 3 + 1, none⟩ = some (.string kn) ∧ w'.cell? ⟨bk, ok + z * 3 + 2, none⟩ = some (.string kd)) (first | (with_reducible exact HP.out _ qBe.out) | (with_reducible exact HP.out _ qBd.out) | (with_reducible exact HP.out _ hRA.out) | (with_reducible exact HP.out _ qBa.out) | (with_reducible exact HP.out _ qB2.out) | (with_reducible exact HP.out _ (qB2.out.alloc qB2.out.size _)) | (with_reducible exact HP.out _ (((qB2.out.setCell qwz.out _).setCell qwz.out _).setCell qwz.out _)) | go_keep)
              (first
                | (go_at_call 22; refine (ka.out _ ?_).mono ?_; (with_reducible exact hEA.out.below qBd.out); rintro e q2 ⟨rfl, hb2⟩; have qx2 := Lib.hid (qxd.out.below hb2); have qB2 := Lib.hid (qBd.out.trans (hb2.mono qBd.out.size)); have qC2 := Lib.hid (qCd.out.trans (hb2.mono qCd.out.size)); obtain ⟨y1, y2, y3, y4, y5, y6⟩ := qx2.out.facts; have y7 := qx2.out.lt; clear hb2)
                | (go_at_call 22; refine (ka.out _ ?_).mono ?_; (with_reducible exact hEA.out.below qBe.out); rintro e q2 ⟨rfl, hb2⟩; have qB2 := Lib.hid (qBe.out.trans (hb2.mono qBe.out.size)); have qC2 := Lib.hid (qCe.out.trans (hb2.mono qCe.out.size)); clear hb2))
            all_goals (
              first
                | (obtain ⟨wB, hw3⟩ : ∃ W, W = q2.alloc (.cells #[.bool r2g, .string r2n, .string r2d] 31) := ⟨_, rfl⟩; rw [← hw3]; obtain ⟨BxB, hBx⟩ : ∃ b, b = q2.heap.size := ⟨_, rfl⟩; rw [← hBx]; have hxB : Hid (B3 wB BxB r2g r2n r2d) := (by rw [hw3, hBx]; exact B3.new q2 _ _ _); have hBB : Hid (Below wA.heap.size wA wB) := (by rw [hw3]; exact qB2.out.alloc qB2.out.size _); have hCB : Hid (Below wA.heap.size wA wB) := (by rw [hw3]; exact qC2.out.alloc qC2.out.size _); clear hBx)
                | (obtain ⟨wB, hw3⟩ : ∃ W, W = ((q2.setCell ⟨wA.heap.size, 0, none⟩ (.bool r2g)).setCell ⟨wA.heap.size, 1, none⟩ (.string r2n)).setCell ⟨wA.heap.size, 2, none⟩ (.string r2d) := ⟨_, rfl⟩; rw [← hw3]; obtain ⟨BxB, hBx⟩ : ∃ b, b = wA.heap.size := ⟨_, rfl⟩; rw [← hBx]; have hxB : Hid (B3 wB BxB r2g r2n r2d) := (by rw [hw3, hBx]; exact ((qx2.out.set0 r2g).set1 r2n).set2 r2d); have hBB : Hid (Below wA.heap.size wA wB) := (by rw [hw3]; exact ((qB2.out.setCell qwz.out _).setCell qwz.out _).setCell qwz.out _); have hCB : Hid (Below wA.heap.size wA wB) := (by rw [hw3]; exact ((qC2.out.setCell (Nat.le_refl _) _).setCell (Nat.le_refl _) _).setCell (Nat.le_refl _) _); clear hBx qx2 y1 y2 y3 y4 y5 y6 y7)
              clear hw3 qB2 qC2 qBe qBd qBa qCe qCd qxd qwz HP p0 p1 p2 p3 p4 p5 p6 ka xl hRA
              have hBq := Lib.hid (hBA.out.trans (hBB.out.mono hBA.out.size))
              have hCq := Lib.hid (hCA.out.trans (hBB.out.mono hCA.out.size))
              obtain ⟨z1, z2, z3, z4, z5, z6⟩ := hxB.out.facts
              have z7 := hxB.out.lt
              replace h13 := Lib.hid (own_below h13.out hCq.out)
              replace hrow := Lib.hid (own_below hrow.out hCq.out)
              replace h16 := Lib.hid (own_below h16.out hCq.out)
              clear hxA hxB hBA hBB hCA hCB hCq hEA HO14
              obtain ⟨_, gl, gf, gc⟩ := own_at h13.out hn1
              replace gf := gf i
              replace gc := gc i _ hxs.out
              go_wp2_with fail
              replace h13 : Hid (wB.drew.ownsRow W0.heap.size 23 1 (.slice (some ⟨g, 0, none⟩) n cap) n ((la.map hdr).set i (.slice A z c2))) := h13.out
              replace hrow : Hid (wB.drew.ownsRow W0.heap.size 31 3 (.slice A z c2) z (rowL z fun j => rq (ent (rowsOf la) i j * vq (g0, nn0, dd0) + ent (rowsOf la) k j))) := hrow.out
              replace h16 : Hid (wB.drew.ownsRow W0.heap.size 31 3 (.slice (some ⟨g16, 0, none⟩) n cap16) n (rowL n fun j => lb.getD j zraw)) := h16.out
              replace hBq : Hid (Below W0.heap.size W0 wB.drew) := hBq.out.drew
              clear gl gf gc
              obtain ⟨_, gl, gf, gc⟩ := own_at h13.out hn1
              replace gf := gf i
              replace gc := gc i _ hxs.out
              have y1 : wB.drew.cell? ⟨BxB, 0, none⟩ = some (.bool r2g) := z1
              have y2 : wB.drew.cell? ⟨BxB, 1, none⟩ = some (.string r2n) := z2
              have y3 : wB.drew.cell? ⟨BxB, 2, none⟩ = some (.string r2d) := z3
              clear z1 z2 z3 z4 z5 z6 z7
              refine wp_region_noPanic ?_
              refine wp_region_held_drew (S := fun _ => True) (by kernel_rfl) trivial (fun _ => ?_)
              generalize wB.drew = wD at *
              refine wpAnyH_take (i := 0) (oi := _) (v := ?_) rfl (by kernel_rfl) (by kernel_rfl) (by kernel_rfl) (fun _ _ _ h => h) (Or.inl ⟨by rfl, ?_⟩) trivial ?_
              rotate_left
              · (intro w hSw; go_simp <;> with_reducible rfl)
              try simp only [Act.put, List.setIfInBounds_toArray]
              refine wpAnyH_take (i := 1) (oi := _) (v := ?_) rfl (by kernel_rfl) (by kernel_rfl) (by kernel_rfl) (fun _ _ _ h => h) (Or.inl ⟨by rfl, ?_⟩) trivial ?_
              rotate_left
              · (intro w hSw; go_simp <;> with_reducible rfl)
              try simp only [Act.put]
              refine wpAnyH_take (i := 2) (oi := _) (v := ?_) rfl (by kernel_rfl) (by kernel_rfl) (by kernel_rfl) (fun _ _ _ h => h) (Or.inl ⟨by rfl, ?_⟩) trivial ?_
              rotate_left
              · (intro w hSw; go_simp <;> with_reducible rfl)
              try simp only [Act.put]
              refine wpAnyH_take (i := 3) (oi := _) (v := ?_) rfl (by kernel_rfl) (by kernel_rfl) (by kernel_rfl) (fun _ _ _ h => h) (Or.inl ⟨by rfl, ?_⟩) trivial ?_
              rotate_left
              · (intro w hSw; go_simp <;> with_reducible rfl)
              try simp only [Act.put]
              refine wpAnyH_take (i := 4) (oi := _) (v := ?_) rfl (by kernel_rfl) (by kernel_rfl) (by kernel_rfl) (fun _ _ _ h => h) (Or.inl ⟨by rfl, ?_⟩) trivial ?_
              rotate_left
              · (intro w hSw; go_simp <;> with_reducible rfl)
              try simp only [Act.put]
              refine wpAnyH_ready (rs := [5, 6]) (by kernel_rfl) (by simp) ?_
              refine AllReadyH.cons (o := _) rfl (fun K hK => ?_) ?_
              · go_simp
                refine hK.out _ _ trivial (fun _ => ?_)
                clear hK K
                try simp only [Act.put, List.setIfInBounds_toArray, List.set_cons_zero, List.set_cons_succ]
                refine wpAnyH_ready (rs := [6]) (by kernel_rfl) (by simp) ?_
                refine AllReadyH.cons (o := _) rfl (fun K hK => ?_) ?_
                · go_simp
                  refine hK.out _ _ trivial (fun _ => ?_)
                  clear hK K
                  try simp only [Act.put, List.setIfInBounds_toArray, List.set_cons_zero, List.set_cons_succ]
                  refine wpAnyH_ready (rs := [7]) (by kernel_rfl) (by simp) ?_
                  refine AllReadyH.cons (o := _) rfl (fun K hK => ?_) ?_
                  · go_simp
                    have hN : Hid (∀ j u, (rawL (r2g, r2n, r2d))[j]? = some u → (wD.alloc (.cells #[.bool r2g, .string r2n, .string r2d] 31)).cell? (Addr.add ⟨wD.heap.size, 0, none⟩ j) = some u) := raw_new wD _ _ _ _
                    replace h13 := Lib.hid (h13.out.alloc (.cells #[.bool r2g, .string r2n, .string r2d] 31))
                    replace hrow := Lib.hid (hrow.out.alloc (.cells #[.bool r2g, .string r2n, .string r2d] 31))
                    replace h16 := Lib.hid (h16.out.alloc (.cells #[.bool r2g, .string r2n, .string r2d] 31))
                    replace hBq := Lib.hid (bal2 hBq.out (.cells #[.bool r2g, .string r2n, .string r2d] 31))
                    clear gl gf gc
                    obtain ⟨_, gl, gf, gc⟩ := own_at h13.out hn1
                    replace gf := gf i
                    replace gc := gc i _ hxs.out
                    refine hK.out _ _ trivial (fun _ => ?_)
                    clear hK K
                    try simp only [Act.put, List.setIfInBounds_toArray, List.set_cons_zero, List.set_cons_succ]
                    refine wpAnyH_ready (rs := [8]) (by kernel_rfl) (by simp) ?_
                    refine AllReadyH.cons (o := _) rfl (fun K hK => ?_) ?_
                    · rw [if_pos (by rfl)]
                      refine wp_append_new _ _ _ 23 rfl W0.heap.size 31 i0 (.agg #[.bool false, .string ⟨#[]⟩, .string ⟨#[]⟩]) 3 40 Tryz.underlying23 hi0.out hz0.out hz1.out hz2.out rfl (by decide) (.slice A z c2) z (rowL z fun j => rq (ent (rowsOf la) i j * vq (g0, nn0, dd0) + ent (rowsOf la) k j)) rfl hrow.out ⟨wD.heap.size, 0, none⟩ 1 1 (rawL (r2g, r2n, r2d)) rfl rfl hN.out (raw_cell _) (by omega) (by unfold maxLen; omega) (by omega) hBq.out.size ?_
                      intro v9 w9 ho9 hg9 hn9
                      have hap9 := (apart_new h13.out hn9 hap.out.symm).symm
                      have hrp9 := (apart_new h16.out hn9 hrp.out.symm).symm
                      have h139 := own_keep h13.out hg9 hap.out.symm
                      have h169 := own_keep h16.out hg9 hrp.out.symm
                      have hB9 := Lib.hid (hBq.out.grown hg9 hBq.out.size (fun b e => (hrow.out.lt b e).1))
                      have ho9 : w9.ownsRow W0.heap.size 31 3 v9 (z + 1) (rowL (z + 1) fun j => rq (ent (rowsOf la) i j * vq (g0, nn0, dd0) + ent (rowsOf la) k j)) := by rw [← hmore.out]; exact ho9
                      obtain ⟨A9, c9, rfl, _⟩ := inRow_of_own ho9
                      replace ho9 := Lib.hid ho9
                      replace hap9 := Lib.hid hap9
                      replace hrp9 := Lib.hid hrp9
                      replace h139 := Lib.hid h139
                      replace h169 := Lib.hid h169
                      clear hN gl gf gc hg9 hn9 h13 hrow hap hrp h16 hBq hmore
                      obtain ⟨_, gl, gf, gc⟩ := own_at h139.out hn1
                      replace gf := gf i
                      replace gc := gc i _ hxs.out
                      refine hK.out _ _ trivial (fun _ => ?_)
                      clear hK K
                      try simp only [Act.put, List.setIfInBounds_toArray]
                      refine wpAnyH_ready (rs := [9]) (by kernel_rfl) (by simp) ?_
                      refine AllReadyH.cons (o := _) rfl (fun K hK => ?_) ?_
                      · go_simp
                        refine hK.out _ _ trivial (fun _ => ?_)
                        clear hK K
                        try simp only [Act.put, List.setIfInBounds_toArray, List.set_cons_zero, List.set_cons_succ]
                        refine wpAnyH_ready (rs := [10]) (by kernel_rfl) (by simp) ?_
                        refine AllReadyH.cons (o := _) rfl (fun K hK => ?_) ?_
                        · go_simp
                          refine hK.out _ _ trivial (fun _ => ?_)
                          clear hK K
                          try simp only [Act.put, List.setIfInBounds_toArray, List.set_cons_zero, List.set_cons_succ]
                          refine wpAnyH_done (by kernel_rfl) ?_ _
                          refine NoPanic.normal ?_
                          have hM9 : Hid (MRow (w9.setCell ⟨g, i, none⟩ (.slice A9 (z + 1) c9)) W0.heap.size n i k la (vq (g0, nn0, dd0)) g cap (z + 1) (.slice (some ⟨g16, 0, none⟩) n cap16) lb) := ⟨A9, c9, by have h := own_set (i := i) (v := .slice A9 (z + 1) c9) h139.out; rwa [List.set_set] at h, own_far ho9.out (fun e => hap9.out g e rfl), own_far h169.out (fun e => hap6.out g16 rfl (by cases e; rfl)), hap9.out, hap6.out, hrp9.out⟩
                          have hB10 : Hid (Below W0.heap.size W0 (w9.setCell ⟨g, i, none⟩ (.slice A9 (z + 1) c9))) := hB9.out.setCell hg1.out _
                          clear gl gf gc
                          go_wp2
                          exact ⟨⟨z + 1, by omega, by go_num, hM9, hOk2, hB10⟩, by simp only [intOf]; omega⟩
                        · exact AllReadyH.nil
                      · exact AllReadyH.nil
                    · exact AllReadyH.nil
                  exact AllReadyH.nil
                exact AllReadyH.nil
              refine AllReadyH.cons (o := _) rfl (fun K hK => ?_) ?_
              · go_simp
                refine hK.out _ _ trivial (fun _ => ?_)
                clear hK K
                try simp only [Act.put, List.setIfInBounds_toArray, List.set_cons_zero, List.set_cons_succ]
                refine wpAnyH_ready (rs := [5, 7]) (by kernel_rfl) (by simp) ?_
                refine AllReadyH.cons (o := _) rfl (fun K hK => ?_) ?_
                · go_simp
                  refine hK.out _ _ trivial (fun _ => ?_)
                  clear hK K
                  try simp only [Act.put, List.setIfInBounds_toArray, List.set_cons_zero, List.set_cons_succ]
                  refine wpAnyH_ready (rs := [7]) (by kernel_rfl) (by simp) ?_
                  refine AllReadyH.cons (o := _) rfl (fun K hK => ?_) ?_
                  · go_simp
                    have hN : Hid (∀ j u, (rawL (r2g, r2n, r2d))[j]? = some u → (wD.alloc (.cells #[.bool r2g, .string r2n, .string r2d] 31)).cell? (Addr.add ⟨wD.heap.size, 0, none⟩ j) = some u) := raw_new wD _ _ _ _
                    replace h13 := Lib.hid (h13.out.alloc (.cells #[.bool r2g, .string r2n, .string r2d] 31))
                    replace hrow := Lib.hid (hrow.out.alloc (.cells #[.bool r2g, .string r2n, .string r2d] 31))
                    replace h16 := Lib.hid (h16.out.alloc (.cells #[.bool r2g, .string r2n, .string r2d] 31))
                    replace hBq := Lib.hid (bal2 hBq.out (.cells #[.bool r2g, .string r2n, .string r2d] 31))
                    clear gl gf gc
                    obtain ⟨_, gl, gf, gc⟩ := own_at h13.out hn1
                    replace gf := gf i
                    replace gc := gc i _ hxs.out
                    refine hK.out _ _ trivial (fun _ => ?_)
                    clear hK K
                    try simp only [Act.put, List.setIfInBounds_toArray, List.set_cons_zero, List.set_cons_succ]
                    refine wpAnyH_ready (rs := [8]) (by kernel_rfl) (by simp) ?_
                    refine AllReadyH.cons (o := _) rfl (fun K hK => ?_) ?_
                    · rw [if_pos (by rfl)]
                      refine wp_append_new _ _ _ 23 rfl W0.heap.size 31 i0 (.agg #[.bool false, .string ⟨#[]⟩, .string ⟨#[]⟩]) 3 40 Tryz.underlying23 hi0.out hz0.out hz1.out hz2.out rfl (by decide) (.slice A z c2) z (rowL z fun j => rq (ent (rowsOf la) i j * vq (g0, nn0, dd0) + ent (rowsOf la) k j)) rfl hrow.out ⟨wD.heap.size, 0, none⟩ 1 1 (rawL (r2g, r2n, r2d)) rfl rfl hN.out (raw_cell _) (by omega) (by unfold maxLen; omega) (by omega) hBq.out.size ?_
                      intro v9 w9 ho9 hg9 hn9
                      have hap9 := (apart_new h13.out hn9 hap.out.symm).symm
                      have hrp9 := (apart_new h16.out hn9 hrp.out.symm).symm
                      have h139 := own_keep h13.out hg9 hap.out.symm
                      have h169 := own_keep h16.out hg9 hrp.out.symm
                      have hB9 := Lib.hid (hBq.out.grown hg9 hBq.out.size (fun b e => (hrow.out.lt b e).1))
                      have ho9 : w9.ownsRow W0.heap.size 31 3 v9 (z + 1) (rowL (z + 1) fun j => rq (ent (rowsOf la) i j * vq (g0, nn0, dd0) + ent (rowsOf la) k j)) := by rw [← hmore.out]; exact ho9
                      obtain ⟨A9, c9, rfl, _⟩ := inRow_of_own ho9
                      replace ho9 := Lib.hid ho9
                      replace hap9 := Lib.hid hap9
                      replace hrp9 := Lib.hid hrp9
                      replace h139 := Lib.hid h139
                      replace h169 := Lib.hid h169
                      clear hN gl gf gc hg9 hn9 h13 hrow hap hrp h16 hBq hmore
                      obtain ⟨_, gl, gf, gc⟩ := own_at h139.out hn1
                      replace gf := gf i
                      replace gc := gc i _ hxs.out
                      refine hK.out _ _ trivial (fun _ => ?_)
                      clear hK K
                      try simp only [Act.put, List.setIfInBounds_toArray]
                      refine wpAnyH_ready (rs := [9]) (by kernel_rfl) (by simp) ?_
                      refine AllReadyH.cons (o := _) rfl (fun K hK => ?_) ?_
                      · go_simp
                        refine hK.out _ _ trivial (fun _ => ?_)
                        clear hK K
                        try simp only [Act.put, List.setIfInBounds_toArray, List.set_cons_zero, List.set_cons_succ]
                        refine wpAnyH_ready (rs := [10]) (by kernel_rfl) (by simp) ?_
                        refine AllReadyH.cons (o := _) rfl (fun K hK => ?_) ?_
                        · go_simp
                          refine hK.out _ _ trivial (fun _ => ?_)
                          clear hK K
                          try simp only [Act.put, List.setIfInBounds_toArray, List.set_cons_zero, List.set_cons_succ]
                          refine wpAnyH_done (by kernel_rfl) ?_ _
                          refine NoPanic.normal ?_
                          have hM9 : Hid (MRow (w9.setCell ⟨g, i, none⟩ (.slice A9 (z + 1) c9)) W0.heap.size n i k la (vq (g0, nn0, dd0)) g cap (z + 1) (.slice (some ⟨g16, 0, none⟩) n cap16) lb) := ⟨A9, c9, by have h := own_set (i := i) (v := .slice A9 (z + 1) c9) h139.out; rwa [List.set_set] at h, own_far ho9.out (fun e => hap9.out g e rfl), own_far h169.out (fun e => hap6.out g16 rfl (by cases e; rfl)), hap9.out, hap6.out, hrp9.out⟩
                          have hB10 : Hid (Below W0.heap.size W0 (w9.setCell ⟨g, i, none⟩ (.slice A9 (z + 1) c9))) := hB9.out.setCell hg1.out _
                          clear gl gf gc
                          go_wp2
                          exact ⟨⟨z + 1, by omega, by go_num, hM9, hOk2, hB10⟩, by simp only [intOf]; omega⟩
                        · exact AllReadyH.nil
                      · exact AllReadyH.nil
                    · exact AllReadyH.nil
                  exact AllReadyH.nil
                refine AllReadyH.cons (o := _) rfl (fun K hK => ?_) ?_
                · go_simp
                  have hN : Hid (∀ j u, (rawL (r2g, r2n, r2d))[j]? = some u → (wD.alloc (.cells #[.bool r2g, .string r2n, .string r2d] 31)).cell? (Addr.add ⟨wD.heap.size, 0, none⟩ j) = some u) := raw_new wD _ _ _ _
                  replace h13 := Lib.hid (h13.out.alloc (.cells #[.bool r2g, .string r2n, .string r2d] 31))
                  replace hrow := Lib.hid (hrow.out.alloc (.cells #[.bool r2g, .string r2n, .string r2d] 31))
                  replace h16 := Lib.hid (h16.out.alloc (.cells #[.bool r2g, .string r2n, .string r2d] 31))
                  replace hBq := Lib.hid (bal2 hBq.out (.cells #[.bool r2g, .string r2n, .string r2d] 31))
                  clear gl gf gc
                  obtain ⟨_, gl, gf, gc⟩ := own_at h13.out hn1
                  replace gf := gf i
                  replace gc := gc i _ hxs.out
                  refine hK.out _ _ trivial (fun _ => ?_)
                  clear hK K
                  try simp only [Act.put, List.setIfInBounds_toArray, List.set_cons_zero, List.set_cons_succ]
                  refine wpAnyH_ready (rs := [5]) (by kernel_rfl) (by simp) ?_
                  refine AllReadyH.cons (o := _) rfl (fun K hK => ?_) ?_
                  · go_simp
                    refine hK.out _ _ trivial (fun _ => ?_)
                    clear hK K
                    try simp only [Act.put, List.setIfInBounds_toArray, List.set_cons_zero, List.set_cons_succ]
                    refine wpAnyH_ready (rs := [8]) (by kernel_rfl) (by simp) ?_
                    refine AllReadyH.cons (o := _) rfl (fun K hK => ?_) ?_
                    · rw [if_pos (by rfl)]
                      refine wp_append_new _ _ _ 23 rfl W0.heap.size 31 i0 (.agg #[.bool false, .string ⟨#[]⟩, .string ⟨#[]⟩]) 3 40 Tryz.underlying23 hi0.out hz0.out hz1.out hz2.out rfl (by decide) (.slice A z c2) z (rowL z fun j => rq (ent (rowsOf la) i j * vq (g0, nn0, dd0) + ent (rowsOf la) k j)) rfl hrow.out ⟨wD.heap.size, 0, none⟩ 1 1 (rawL (r2g, r2n, r2d)) rfl rfl hN.out (raw_cell _) (by omega) (by unfold maxLen; omega) (by omega) hBq.out.size ?_
                      intro v9 w9 ho9 hg9 hn9
                      have hap9 := (apart_new h13.out hn9 hap.out.symm).symm
                      have hrp9 := (apart_new h16.out hn9 hrp.out.symm).symm
                      have h139 := own_keep h13.out hg9 hap.out.symm
                      have h169 := own_keep h16.out hg9 hrp.out.symm
                      have hB9 := Lib.hid (hBq.out.grown hg9 hBq.out.size (fun b e => (hrow.out.lt b e).1))
                      have ho9 : w9.ownsRow W0.heap.size 31 3 v9 (z + 1) (rowL (z + 1) fun j => rq (ent (rowsOf la) i j * vq (g0, nn0, dd0) + ent (rowsOf la) k j)) := by rw [← hmore.out]; exact ho9
                      obtain ⟨A9, c9, rfl, _⟩ := inRow_of_own ho9
                      replace ho9 := Lib.hid ho9
                      replace hap9 := Lib.hid hap9
                      replace hrp9 := Lib.hid hrp9
                      replace h139 := Lib.hid h139
                      replace h169 := Lib.hid h169
                      clear hN gl gf gc hg9 hn9 h13 hrow hap hrp h16 hBq hmore
                      obtain ⟨_, gl, gf, gc⟩ := own_at h139.out hn1
                      replace gf := gf i
                      replace gc := gc i _ hxs.out
                      refine hK.out _ _ trivial (fun _ => ?_)
                      clear hK K
                      try simp only [Act.put, List.setIfInBounds_toArray]
                      refine wpAnyH_ready (rs := [9]) (by kernel_rfl) (by simp) ?_
                      refine AllReadyH.cons (o := _) rfl (fun K hK => ?_) ?_
                      · go_simp
                        refine hK.out _ _ trivial (fun _ => ?_)
                        clear hK K
                        try simp only [Act.put, List.setIfInBounds_toArray, List.set_cons_zero, List.set_cons_succ]
                        refine wpAnyH_ready (rs := [10]) (by kernel_rfl) (by simp) ?_
                        refine AllReadyH.cons (o := _) rfl (fun K hK => ?_) ?_
                        · go_simp
                          refine hK.out _ _ trivial (fun _ => ?_)
                          clear hK K
                          try simp only [Act.put, List.setIfInBounds_toArray, List.set_cons_zero, List.set_cons_succ]
                          refine wpAnyH_done (by kernel_rfl) ?_ _
                          refine NoPanic.normal ?_
                          have hM9 : Hid (MRow (w9.setCell ⟨g, i, none⟩ (.slice A9 (z + 1) c9)) W0.heap.size n i k la (vq (g0, nn0, dd0)) g cap (z + 1) (.slice (some ⟨g16, 0, none⟩) n cap16) lb) := ⟨A9, c9, by have h := own_set (i := i) (v := .slice A9 (z + 1) c9) h139.out; rwa [List.set_set] at h, own_far ho9.out (fun e => hap9.out g e rfl), own_far h169.out (fun e => hap6.out g16 rfl (by cases e; rfl)), hap9.out, hap6.out, hrp9.out⟩
                          have hB10 : Hid (Below W0.heap.size W0 (w9.setCell ⟨g, i, none⟩ (.slice A9 (z + 1) c9))) := hB9.out.setCell hg1.out _
                          clear gl gf gc
                          go_wp2
                          exact ⟨⟨z + 1, by omega, by go_num, hM9, hOk2, hB10⟩, by simp only [intOf]; omega⟩
                        · exact AllReadyH.nil
                      · exact AllReadyH.nil
                    · exact AllReadyH.nil
                  exact AllReadyH.nil
                exact AllReadyH.nil
              exact AllReadyH.nil
              ))
      · as_aux_lemma =>
          clear hM
          have qBa : Hid (Below W0.heap.size W0 (wr.alloc (.cells #[.bool false, .string ⟨#[]⟩, .string ⟨#[]⟩] 31))) := hB.out.alloc hB.out.size _
          have qBd : Hid (Below W0.heap.size W0 (wr.alloc (.cells #[.bool false, .string ⟨#[]⟩, .string ⟨#[]⟩] 31)).drew) := qBa.out.drew
          have qBe : Hid (Below W0.heap.size W0 wr.drew) := hB.out.drew
          have qCd : Hid (Below wr.heap.size wr (wr.alloc (.cells #[.bool false, .string ⟨#[]⟩, .string ⟨#[]⟩] 31)).drew) := ((Below.refl _ wr).alloc (Nat.le_refl _) _).drew
          have qCe : Hid (Below wr.heap.size wr wr.drew) := (Below.refl _ wr).drew
          have qxd : Hid (B3 (wr.alloc (.cells #[.bool false, .string ⟨#[]⟩, .string ⟨#[]⟩] 31)).drew wr.heap.size false ⟨#[]⟩ ⟨#[]⟩) := B3.new wr _ _ _
          have qwz : Hid (W0.heap.size ≤ wr.heap.size) := hB.out.size
          go_wp2_with fail
          go_region_held3 (fun w' => w'.cell? ⟨ba, oa + i, none⟩ = some (.slice (some ⟨bi, oi, none⟩) n ci) ∧ w'.cell? ⟨bi, oi + z * 3, none⟩ = some (.bool xg) ∧ w'.cell? ⟨bi, oi + z * 3 + 1, none⟩ = some (.string xn) ∧ w'.cell? ⟨bi, oi + z * 3 + 2, none⟩ = some (.string xd) ∧ w'.cell? ⟨w.heap.size, 0, none⟩ = some (.bool g0) ∧ w'.cell? ⟨w.heap.size, 1, none⟩ = some (.string nn0) ∧ w'.cell? ⟨w.heap.size, 2, none⟩ = some (.string dd0)) (first | (with_reducible exact HO13.out _ qBe.out) | (with_reducible exact HO13.out _ qBd.out) | (with_reducible exact HO13.out _ hB.out) | (with_reducible exact HO13.out _ qBa.out) | (with_reducible exact HO13.out _ qB2.out) | (with_reducible exact HO13.out _ (qB2.out.alloc qB2.out.size _)) | (with_reducible exact HO13.out _ (((qB2.out.setCell qwz.out _).setCell qwz.out _).setCell qwz.out _)) | go_keep)
            (first
              | (go_at_call 21; refine (km.out _ ?_).mono ?_; (with_reducible exact hE0.out.below qBd.out); rintro e q2 ⟨rfl, hb2⟩; have qx2 := Lib.hid (qxd.out.below hb2); have qB2 := Lib.hid (qBd.out.trans (hb2.mono qBd.out.size)); have qC2 := Lib.hid (qCd.out.trans (hb2.mono qCd.out.size)); obtain ⟨y1, y2, y3, y4, y5, y6⟩ := qx2.out.facts; have y7 := qx2.out.lt; clear hb2)
              | (go_at_call 21; refine (km.out _ ?_).mono ?_; (with_reducible exact hE0.out.below qBe.out); rintro e q2 ⟨rfl, hb2⟩; have qB2 := Lib.hid (qBe.out.trans (hb2.mono qBe.out.size)); have qC2 := Lib.hid (qCe.out.trans (hb2.mono qCe.out.size)); clear hb2))
          all_goals (
            first
              | (obtain ⟨wA, hw3⟩ : ∃ W, W = q2.alloc (.cells #[.bool r1g, .string r1n, .string r1d] 31) := ⟨_, rfl⟩; rw [← hw3]; obtain ⟨BxA, hBx⟩ : ∃ b, b = q2.heap.size := ⟨_, rfl⟩; rw [← hBx]; have hxA : Hid (B3 wA BxA r1g r1n r1d) := (by rw [hw3, hBx]; exact B3.new q2 _ _ _); have hBA : Hid (Below W0.heap.size W0 wA) := (by rw [hw3]; exact qB2.out.alloc qB2.out.size _); have hCA : Hid (Below wr.heap.size wr wA) := (by rw [hw3]; exact qC2.out.alloc qC2.out.size _); clear hBx)
              | (obtain ⟨wA, hw3⟩ : ∃ W, W = ((q2.setCell ⟨wr.heap.size, 0, none⟩ (.bool r1g)).setCell ⟨wr.heap.size, 1, none⟩ (.string r1n)).setCell ⟨wr.heap.size, 2, none⟩ (.string r1d) := ⟨_, rfl⟩; rw [← hw3]; obtain ⟨BxA, hBx⟩ : ∃ b, b = wr.heap.size := ⟨_, rfl⟩; rw [← hBx]; have hxA : Hid (B3 wA BxA r1g r1n r1d) := (by rw [hw3, hBx]; exact ((qx2.out.set0 r1g).set1 r1n).set2 r1d); have hBA : Hid (Below W0.heap.size W0 wA) := (by rw [hw3]; exact ((qB2.out.setCell qwz.out _).setCell qwz.out _).setCell qwz.out _); have hCA : Hid (Below wr.heap.size wr wA) := (by rw [hw3]; exact ((qC2.out.setCell (Nat.le_refl _) _).setCell (Nat.le_refl _) _).setCell (Nat.le_refl _) _); clear hBx qx2 y1 y2 y3 y4 y5 y6 y7)
            clear hw3 qB2 qC2 qBe qBd qBa qCe qCd qxd qwz HO13 p0 p1 p2 p3 p4 p5 p6 km
            have hEA := Lib.hid (hE0.out.below hBA.out)
            have HP : Hid (∀ W, Below wA.heap.size wA W → W.cell? ⟨BxA, 0, none⟩ = some (.bool r1g) ∧ W.cell? ⟨BxA, 1, none⟩ = some (.string r1n) ∧ W.cell? ⟨BxA, 2, none⟩ = some (.string r1d) ∧ W.cell? ⟨ba, oa + k, none⟩ = some (.slice (some ⟨bk, ok, none⟩) n ck) ∧ W.cell? ⟨bk, ok + z * 3, none⟩ = some (.bool kg) ∧ W.cell? ⟨bk, ok + z * 3 + 1, none⟩ = some (.string kn) ∧ W.cell? ⟨bk, ok + z * 3 + 2, none⟩ = some (.string kd)) := fun W h => by
              obtain ⟨u1, u2, u3, _, _, _⟩ := (hxA.out.below h).facts
              exact ⟨u1, u2, u3, HO14.out W (hBA.out.trans (h.mono hBA.out.size))⟩
            have hRA := Lib.hid (Below.refl wA.heap.size wA)
            obtain ⟨p0, p1, p2, p3, p4, p5, p6⟩ := HP.out _ hRA.out
            have xl := hxA.out.lt
            have qBa : Hid (Below wA.heap.size wA (wA.alloc (.cells #[.bool false, .string ⟨#[]⟩, .string ⟨#[]⟩] 31))) := hRA.out.alloc hRA.out.size _
            have qBd : Hid (Below wA.heap.size wA (wA.alloc (.cells #[.bool false, .string ⟨#[]⟩, .string ⟨#[]⟩] 31)).drew) := qBa.out.drew
            have qBe : Hid (Below wA.heap.size wA wA.drew) := hRA.out.drew
            have qCd : Hid (Below wA.heap.size wA (wA.alloc (.cells #[.bool false, .string ⟨#[]⟩, .string ⟨#[]⟩] 31)).drew) := ((Below.refl _ wA).alloc (Nat.le_refl _) _).drew
            have qCe : Hid (Below wA.heap.size wA wA.drew) := (Below.refl _ wA).drew
            have qxd : Hid (B3 (wA.alloc (.cells #[.bool false, .string ⟨#[]⟩, .string ⟨#[]⟩] 31)).drew wA.heap.size false ⟨#[]⟩ ⟨#[]⟩) := B3.new wA _ _ _
            have qwz : Hid (wA.heap.size ≤ wA.heap.size) := hRA.out.size
            go_wp2_with fail
            go_region_held3 (fun w' => w'.cell? ⟨BxA, 0, none⟩ = some (.bool r1g) ∧ w'.cell? ⟨BxA, 1, none⟩ = some (.string r1n) ∧ w'.cell? ⟨BxA, 2, none⟩ = some (.string r1d) ∧ w'.cell? ⟨ba, oa + k, none⟩ = some (.slice (some ⟨bk, ok, none⟩) n ck) ∧ w'.cell? ⟨bk, ok + z * 3, none⟩ = some (.bool kg) ∧ w'.cell? ⟨bk, ok + z * 3 + 1, none⟩ = some (.string kn) ∧ w'.cell? ⟨bk, ok + z * 3 + 2, none⟩ = some (.string kd)) (first | (with_reducible exact HP.out _ qBe.out) | (with_reducible exact HP.out _ qBd.out) | (with_reducible exact HP.out _ hRA.out) | (with_reducible exact HP.out _ qBa.out) | (with_reducible exact HP.out _ qB2.out) | (with_reducible exact HP.out _ (qB2.out.alloc qB2.out.size _)) | (with_reducible exact HP.out _ (((qB2.out.setCell qwz.out _).setCell qwz.out _).setCell qwz.out _)) | go_keep)
              (first
                | (go_at_call 22; refine (ka.out _ ?_).mono ?_; (with_reducible exact hEA.out.below qBd.out); rintro e q2 ⟨rfl, hb2⟩; have qx2 := Lib.hid (qxd.out.below hb2); have qB2 := Lib.hid (qBd.out.trans (hb2.mono qBd.out.size)); have qC2 := Lib.hid (qCd.out.trans (hb2.mono qCd.out.size)); obtain ⟨y1, y2, y3, y4, y5, y6⟩ := qx2.out.facts; have y7 := qx2.out.lt; clear hb2)
                | (go_at_call 22; refine (ka.out _ ?_).mono ?_; (with_reducible exact hEA.out.below qBe.out); rintro e q2 ⟨rfl, hb2⟩; have qB2 := Lib.hid (qBe.out.trans (hb2.mono qBe.out.size)); have qC2 := Lib.hid (qCe.out.trans (hb2.mono qCe.out.size)); clear hb2))
            all_goals (
              first
                | (obtain ⟨wB, hw3⟩ : ∃ W, W = q2.alloc (.cells #[.bool r2g, .string r2n, .string r2d] 31) := ⟨_, rfl⟩; rw [← hw3]; obtain ⟨BxB, hBx⟩ : ∃ b, b = q2.heap.size := ⟨_, rfl⟩; rw [← hBx]; have hxB : Hid (B3 wB BxB r2g r2n r2d) := (by rw [hw3, hBx]; exact B3.new q2 _ _ _); have hBB : Hid (Below wA.heap.size wA wB) := (by rw [hw3]; exact qB2.out.alloc qB2.out.size _); have hCB : Hid (Below wA.heap.size wA wB) := (by rw [hw3]; exact qC2.out.alloc qC2.out.size _); clear hBx)
                | (obtain ⟨wB, hw3⟩ : ∃ W, W = ((q2.setCell ⟨wA.heap.size, 0, none⟩ (.bool r2g)).setCell ⟨wA.heap.size, 1, none⟩ (.string r2n)).setCell ⟨wA.heap.size, 2, none⟩ (.string r2d) := ⟨_, rfl⟩; rw [← hw3]; obtain ⟨BxB, hBx⟩ : ∃ b, b = wA.heap.size := ⟨_, rfl⟩; rw [← hBx]; have hxB : Hid (B3 wB BxB r2g r2n r2d) := (by rw [hw3, hBx]; exact ((qx2.out.set0 r2g).set1 r2n).set2 r2d); have hBB : Hid (Below wA.heap.size wA wB) := (by rw [hw3]; exact ((qB2.out.setCell qwz.out _).setCell qwz.out _).setCell qwz.out _); have hCB : Hid (Below wA.heap.size wA wB) := (by rw [hw3]; exact ((qC2.out.setCell (Nat.le_refl _) _).setCell (Nat.le_refl _) _).setCell (Nat.le_refl _) _); clear hBx qx2 y1 y2 y3 y4 y5 y6 y7)
              clear hw3 qB2 qC2 qBe qBd qBa qCe qCd qxd qwz HP p0 p1 p2 p3 p4 p5 p6 ka xl hRA
              have hBq := Lib.hid (hBA.out.trans (hBB.out.mono hBA.out.size))
              have hCq := Lib.hid (hCA.out.trans (hBB.out.mono hCA.out.size))
              obtain ⟨z1, z2, z3, z4, z5, z6⟩ := hxB.out.facts
              have z7 := hxB.out.lt
              clear hxA hxB hBA hBB hCA hCB hCq hEA HO14
              go_wp2
              go_ret
              exact ⟨rfl, hB0.out.trans (hBq.out.mono hB0.out.size)⟩
              ))
      · as_aux_lemma =>
          clear hM
          have qBa : Hid (Below W0.heap.size W0 (wr.alloc (.cells #[.bool false, .string ⟨#[]⟩, .string ⟨#[]⟩] 31))) := hB.out.alloc hB.out.size _
          have qBd : Hid (Below W0.heap.size W0 (wr.alloc (.cells #[.bool false, .string ⟨#[]⟩, .string ⟨#[]⟩] 31)).drew) := qBa.out.drew
          have qBe : Hid (Below W0.heap.size W0 wr.drew) := hB.out.drew
          have qCd : Hid (Below wr.heap.size wr (wr.alloc (.cells #[.bool false, .string ⟨#[]⟩, .string ⟨#[]⟩] 31)).drew) := ((Below.refl _ wr).alloc (Nat.le_refl _) _).drew
          have qCe : Hid (Below wr.heap.size wr wr.drew) := (Below.refl _ wr).drew
          have qxd : Hid (B3 (wr.alloc (.cells #[.bool false, .string ⟨#[]⟩, .string ⟨#[]⟩] 31)).drew wr.heap.size false ⟨#[]⟩ ⟨#[]⟩) := B3.new wr _ _ _
          have qwz : Hid (W0.heap.size ≤ wr.heap.size) := hB.out.size
          go_wp2_with fail
          go_region_held3 (fun w' => w'.cell? ⟨ba, oa + i, none⟩ = some (.slice (some ⟨bi, oi, none⟩) n ci) ∧ w'.cell? ⟨bi, oi + z * 3, none⟩ = some (.bool xg) ∧ w'.cell? ⟨bi, oi + z * 3 + 1, none⟩ = some (.string xn) ∧ w'.cell? ⟨bi, oi + z * 3 + 2, none⟩ = some (.string xd) ∧ w'.cell? ⟨w.heap.size, 0, none⟩ = some (.bool g0) ∧ w'.cell? ⟨w.heap.size, 1, none⟩ = some (.string nn0) ∧ w'.cell? ⟨w.heap.size, 2, none⟩ = some (.string dd0)) (first | (with_reducible exact HO13.out _ qBe.out) | (with_reducible exact HO13.out _ qBd.out) | (with_reducible exact HO13.out _ hB.out) | (with_reducible exact HO13.out _ qBa.out) | (with_reducible exact HO13.out _ qB2.out) | (with_reducible exact HO13.out _ (qB2.out.alloc qB2.out.size _)) | (with_reducible exact HO13.out _ (((qB2.out.setCell qwz.out _).setCell qwz.out _).setCell qwz.out _)) | go_keep)
            (first
              | (go_at_call 21; refine (km.out _ ?_).mono ?_; (with_reducible exact hE0.out.below qBd.out); rintro e q2 ⟨rfl, hb2⟩; have qx2 := Lib.hid (qxd.out.below hb2); have qB2 := Lib.hid (qBd.out.trans (hb2.mono qBd.out.size)); have qC2 := Lib.hid (qCd.out.trans (hb2.mono qCd.out.size)); obtain ⟨y1, y2, y3, y4, y5, y6⟩ := qx2.out.facts; have y7 := qx2.out.lt; clear hb2)
              | (go_at_call 21; refine (km.out _ ?_).mono ?_; (with_reducible exact hE0.out.below qBe.out); rintro e q2 ⟨rfl, hb2⟩; have qB2 := Lib.hid (qBe.out.trans (hb2.mono qBe.out.size)); have qC2 := Lib.hid (qCe.out.trans (hb2.mono qCe.out.size)); clear hb2))
          all_goals (
            first
              | (obtain ⟨wA, hw3⟩ : ∃ W, W = q2.alloc (.cells #[.bool r1g, .string r1n, .string r1d] 31) := ⟨_, rfl⟩; rw [← hw3]; obtain ⟨BxA, hBx⟩ : ∃ b, b = q2.heap.size := ⟨_, rfl⟩; rw [← hBx]; have hxA : Hid (B3 wA BxA r1g r1n r1d) := (by rw [hw3, hBx]; exact B3.new q2 _ _ _); have hBA : Hid (Below W0.heap.size W0 wA) := (by rw [hw3]; exact qB2.out.alloc qB2.out.size _); have hCA : Hid (Below wr.heap.size wr wA) := (by rw [hw3]; exact qC2.out.alloc qC2.out.size _); clear hBx)
              | (obtain ⟨wA, hw3⟩ : ∃ W, W = ((q2.setCell ⟨wr.heap.size, 0, none⟩ (.bool r1g)).setCell ⟨wr.heap.size, 1, none⟩ (.string r1n)).setCell ⟨wr.heap.size, 2, none⟩ (.string r1d) := ⟨_, rfl⟩; rw [← hw3]; obtain ⟨BxA, hBx⟩ : ∃ b, b = wr.heap.size := ⟨_, rfl⟩; rw [← hBx]; have hxA : Hid (B3 wA BxA r1g r1n r1d) := (by rw [hw3, hBx]; exact ((qx2.out.set0 r1g).set1 r1n).set2 r1d); have hBA : Hid (Below W0.heap.size W0 wA) := (by rw [hw3]; exact ((qB2.out.setCell qwz.out _).setCell qwz.out _).setCell qwz.out _); have hCA : Hid (Below wr.heap.size wr wA) := (by rw [hw3]; exact ((qC2.out.setCell (Nat.le_refl _) _).setCell (Nat.le_refl _) _).setCell (Nat.le_refl _) _); clear hBx qx2 y1 y2 y3 y4 y5 y6 y7)
            clear hw3 qB2 qC2 qBe qBd qBa qCe qCd qxd qwz HO13 p0 p1 p2 p3 p4 p5 p6 km
            have hEA := Lib.hid (hE0.out.below hBA.out)
            have HP : Hid (∀ W, Below wA.heap.size wA W → W.cell? ⟨BxA, 0, none⟩ = some (.bool r1g) ∧ W.cell? ⟨BxA, 1, none⟩ = some (.string r1n) ∧ W.cell? ⟨BxA, 2, none⟩ = some (.string r1d) ∧ W.cell? ⟨ba, oa + k, none⟩ = some (.slice (some ⟨bk, ok, none⟩) n ck) ∧ W.cell? ⟨bk, ok + z * 3, none⟩ = some (.bool kg) ∧ W.cell? ⟨bk, ok + z * 3 + 1, none⟩ = some (.string kn) ∧ W.cell? ⟨bk, ok + z * 3 + 2, none⟩ = some (.string kd)) := fun W h => by
              obtain ⟨u1, u2, u3, _, _, _⟩ := (hxA.out.below h).facts
              exact ⟨u1, u2, u3, HO14.out W (hBA.out.trans (h.mono hBA.out.size))⟩
            have hRA := Lib.hid (Below.refl wA.heap.size wA)
            obtain ⟨p0, p1, p2, p3, p4, p5, p6⟩ := HP.out _ hRA.out
            have xl := hxA.out.lt
            have qBa : Hid (Below wA.heap.size wA (wA.alloc (.cells #[.bool false, .string ⟨#[]⟩, .string ⟨#[]⟩] 31))) := hRA.out.alloc hRA.out.size _
            have qBd : Hid (Below wA.heap.size wA (wA.alloc (.cells #[.bool false, .string ⟨#[]⟩, .string ⟨#[]⟩] 31)).drew) := qBa.out.drew
            have qBe : Hid (Below wA.heap.size wA wA.drew) := hRA.out.drew
            have qCd : Hid (Below wA.heap.size wA (wA.alloc (.cells #[.bool false, .string ⟨#[]⟩, .string ⟨#[]⟩] 31)).drew) := ((Below.refl _ wA).alloc (Nat.le_refl _) _).drew
            have qCe : Hid (Below wA.heap.size wA wA.drew) := (Below.refl _ wA).drew
            have qxd : Hid (B3 (wA.alloc (.cells #[.bool false, .string ⟨#[]⟩, .string ⟨#[]⟩] 31)).drew wA.heap.size false ⟨#[]⟩ ⟨#[]⟩) := B3.new wA _ _ _
            have qwz : Hid (wA.heap.size ≤ wA.heap.size) := hRA.out.size
            go_wp2_with fail
            go_region_held3 (fun w' => w'.cell? ⟨BxA, 0, none⟩ = some (.bool r1g) ∧ w'.cell? ⟨BxA, 1, none⟩ = some (.string r1n) ∧ w'.cell? ⟨BxA, 2, none⟩ = some (.string r1d) ∧ w'.cell? ⟨ba, oa + k, none⟩ = some (.slice (some ⟨bk, ok, none⟩) n ck) ∧ w'.cell? ⟨bk, ok + z * 3, none⟩ = some (.bool kg) ∧ w'.cell? ⟨bk, ok + z * 3 + 1, none⟩ = some (.string kn) ∧ w'.cell? ⟨bk, ok + z * 3 + 2, none⟩ = some (.string kd)) (first | (with_reducible exact HP.out _ qBe.out) | (with_reducible exact HP.out _ qBd.out) | (with_reducible exact HP.out _ hRA.out) | (with_reducible exact HP.out _ qBa.out) | (with_reducible exact HP.out _ qB2.out) | (with_reducible exact HP.out _ (qB2.out.alloc qB2.out.size _)) | (with_reducible exact HP.out _ (((qB2.out.setCell qwz.out _).setCell qwz.out _).setCell qwz.out _)) | go_keep)
              (first
                | (go_at_call 22; refine (ka.out _ ?_).mono ?_; (with_reducible exact hEA.out.below qBd.out); rintro e q2 ⟨rfl, hb2⟩; have qx2 := Lib.hid (qxd.out.below hb2); have qB2 := Lib.hid (qBd.out.trans (hb2.mono qBd.out.size)); have qC2 := Lib.hid (qCd.out.trans (hb2.mono qCd.out.size)); obtain ⟨y1, y2, y3, y4, y5, y6⟩ := qx2.out.facts; have y7 := qx2.out.lt; clear hb2)
                | (go_at_call 22; refine (ka.out _ ?_).mono ?_; (with_reducible exact hEA.out.below qBe.out); rintro e q2 ⟨rfl, hb2⟩; have qB2 := Lib.hid (qBe.out.trans (hb2.mono qBe.out.size)); have qC2 := Lib.hid (qCe.out.trans (hb2.mono qCe.out.size)); clear hb2))
            all_goals (
              first
                | (obtain ⟨wB, hw3⟩ : ∃ W, W = q2.alloc (.cells #[.bool r2g, .string r2n, .string r2d] 31) := ⟨_, rfl⟩; rw [← hw3]; obtain ⟨BxB, hBx⟩ : ∃ b, b = q2.heap.size := ⟨_, rfl⟩; rw [← hBx]; have hxB : Hid (B3 wB BxB r2g r2n r2d) := (by rw [hw3, hBx]; exact B3.new q2 _ _ _); have hBB : Hid (Below wA.heap.size wA wB) := (by rw [hw3]; exact qB2.out.alloc qB2.out.size _); have hCB : Hid (Below wA.heap.size wA wB) := (by rw [hw3]; exact qC2.out.alloc qC2.out.size _); clear hBx)
                | (obtain ⟨wB, hw3⟩ : ∃ W, W = ((q2.setCell ⟨wA.heap.size, 0, none⟩ (.bool r2g)).setCell ⟨wA.heap.size, 1, none⟩ (.string r2n)).setCell ⟨wA.heap.size, 2, none⟩ (.string r2d) := ⟨_, rfl⟩; rw [← hw3]; obtain ⟨BxB, hBx⟩ : ∃ b, b = wA.heap.size := ⟨_, rfl⟩; rw [← hBx]; have hxB : Hid (B3 wB BxB r2g r2n r2d) := (by rw [hw3, hBx]; exact ((qx2.out.set0 r2g).set1 r2n).set2 r2d); have hBB : Hid (Below wA.heap.size wA wB) := (by rw [hw3]; exact ((qB2.out.setCell qwz.out _).setCell qwz.out _).setCell qwz.out _); have hCB : Hid (Below wA.heap.size wA wB) := (by rw [hw3]; exact ((qC2.out.setCell (Nat.le_refl _) _).setCell (Nat.le_refl _) _).setCell (Nat.le_refl _) _); clear hBx qx2 y1 y2 y3 y4 y5 y6 y7)
              clear hw3 qB2 qC2 qBe qBd qBa qCe qCd qxd qwz HP p0 p1 p2 p3 p4 p5 p6 ka xl hRA
              have hBq := Lib.hid (hBA.out.trans (hBB.out.mono hBA.out.size))
              have hCq := Lib.hid (hCA.out.trans (hBB.out.mono hCA.out.size))
              obtain ⟨z1, z2, z3, z4, z5, z6⟩ := hxB.out.facts
              have z7 := hxB.out.lt
              clear hxA hxB hBA hBB hCA hCB hCq hEA HO14
              go_wp2
              go_ret
              exact ⟨rfl, hB0.out.trans (hBq.out.mono hB0.out.size)⟩
              ))
      · as_aux_lemma =>
          clear hM
          have qBa : Hid (Below W0.heap.size W0 (wr.alloc (.cells #[.bool false, .string ⟨#[]⟩, .string ⟨#[]⟩] 31))) := hB.out.alloc hB.out.size _
          have qBd : Hid (Below W0.heap.size W0 (wr.alloc (.cells #[.bool false, .string ⟨#[]⟩, .string ⟨#[]⟩] 31)).drew) := qBa.out.drew
          have qBe : Hid (Below W0.heap.size W0 wr.drew) := hB.out.drew
          have qCd : Hid (Below wr.heap.size wr (wr.alloc (.cells #[.bool false, .string ⟨#[]⟩, .string ⟨#[]⟩] 31)).drew) := ((Below.refl _ wr).alloc (Nat.le_refl _) _).drew
          have qCe : Hid (Below wr.heap.size wr wr.drew) := (Below.refl _ wr).drew
          have qxd : Hid (B3 (wr.alloc (.cells #[.bool false, .string ⟨#[]⟩, .string ⟨#[]⟩] 31)).drew wr.heap.size false ⟨#[]⟩ ⟨#[]⟩) := B3.new wr _ _ _
          have qwz : Hid (W0.heap.size ≤ wr.heap.size) := hB.out.size
          go_wp2_with fail
          go_region_held3 (fun w' => w'.cell? ⟨ba, oa + i, none⟩ = some (.slice (some ⟨bi, oi, none⟩) n ci) ∧ w'.cell? ⟨bi, oi + z * 3, none⟩ = some (.bool xg) ∧ w'.cell? ⟨bi, oi + z * 3 + 1, none⟩ = some (.string xn) ∧ w'.cell? ⟨bi, oi + z * 3 + 2, none⟩ = some (.string xd) ∧ w'.cell? ⟨w.heap.size, 0, none⟩ = some (.bool g0) ∧ w'.cell? ⟨w.heap.size, 1, none⟩ = some (.string nn0) ∧ w'.cell? ⟨w.heap.size, 2, none⟩ = some (.string dd0)) (first | (with_reducible exact HO13.out _ qBe.out) | (with_reducible exact HO13.out _ qBd.out) | (with_reducible exact HO13.out _ hB.out) | (with_reducible exact HO13.out _ qBa.out) | (with_reducible exact HO13.out _ qB2.out) | (with_reducible exact HO13.out _ (qB2.out.alloc qB2.out.size _)) | (with_reducible exact HO13.out _ (((qB2.out.setCell qwz.out _).setCell qwz.out _).setCell qwz.out _)) | go_keep)
            (first
              | (go_at_call 21; refine (km.out _ ?_).mono ?_; (with_reducible exact hE0.out.below qBd.out); rintro e q2 ⟨rfl, hb2⟩; have qx2 := Lib.hid (qxd.out.below hb2); have qB2 := Lib.hid (qBd.out.trans (hb2.mono qBd.out.size)); have qC2 := Lib.hid (qCd.out.trans (hb2.mono qCd.out.size)); obtain ⟨y1, y2, y3, y4, y5, y6⟩ := qx2.out.facts; have y7 := qx2.out.lt; clear hb2)
              | (go_at_call 21; refine (km.out _ ?_).mono ?_; (with_reducible exact hE0.out.below qBe.out); rintro e q2 ⟨rfl, hb2⟩; have qB2 := Lib.hid (qBe.out.trans (hb2.mono qBe.out.size)); have qC2 := Lib.hid (qCe.out.trans (hb2.mono qCe.out.size)); clear hb2))
          all_goals (
            first
              | (obtain ⟨wA, hw3⟩ : ∃ W, W = q2.alloc (.cells #[.bool r1g, .string r1n, .string r1d] 31) := ⟨_, rfl⟩; rw [← hw3]; obtain ⟨BxA, hBx⟩ : ∃ b, b = q2.heap.size := ⟨_, rfl⟩; rw [← hBx]; have hxA : Hid (B3 wA BxA r1g r1n r1d) := (by rw [hw3, hBx]; exact B3.new q2 _ _ _); have hBA : Hid (Below W0.heap.size W0 wA) := (by rw [hw3]; exact qB2.out.alloc qB2.out.size _); have hCA : Hid (Below wr.heap.size wr wA) := (by rw [hw3]; exact qC2.out.alloc qC2.out.size _); clear hBx)
              | (obtain ⟨wA, hw3⟩ : ∃ W, W = ((q2.setCell ⟨wr.heap.size, 0, none⟩ (.bool r1g)).setCell ⟨wr.heap.size, 1, none⟩ (.string r1n)).setCell ⟨wr.heap.size, 2, none⟩ (.string r1d) := ⟨_, rfl⟩; rw [← hw3]; obtain ⟨BxA, hBx⟩ : ∃ b, b = wr.heap.size := ⟨_, rfl⟩; rw [← hBx]; have hxA : Hid (B3 wA BxA r1g r1n r1d) := (by rw [hw3, hBx]; exact ((qx2.out.set0 r1g).set1 r1n).set2 r1d); have hBA : Hid (Below W0.heap.size W0 wA) := (by rw [hw3]; exact ((qB2.out.setCell qwz.out _).setCell qwz.out _).setCell qwz.out _); have hCA : Hid (Below wr.heap.size wr wA) := (by rw [hw3]; exact ((qC2.out.setCell (Nat.le_refl _) _).setCell (Nat.le_refl _) _).setCell (Nat.le_refl _) _); clear hBx qx2 y1 y2 y3 y4 y5 y6 y7)
            clear hw3 qB2 qC2 qBe qBd qBa qCe qCd qxd qwz HO13 p0 p1 p2 p3 p4 p5 p6 km
            have hEA := Lib.hid (hE0.out.below hBA.out)
            have HP : Hid (∀ W, Below wA.heap.size wA W → W.cell? ⟨BxA, 0, none⟩ = some (.bool r1g) ∧ W.cell? ⟨BxA, 1, none⟩ = some (.string r1n) ∧ W.cell? ⟨BxA, 2, none⟩ = some (.string r1d) ∧ W.cell? ⟨ba, oa + k, none⟩ = some (.slice (some ⟨bk, ok, none⟩) n ck) ∧ W.cell? ⟨bk, ok + z * 3, none⟩ = some (.bool kg) ∧ W.cell? ⟨bk, ok + z * 3 + 1, none⟩ = some (.string kn) ∧ W.cell? ⟨bk, ok + z * 3 + 2, none⟩ = some (.string kd)) := fun W h => by
              obtain ⟨u1, u2, u3, _, _, _⟩ := (hxA.out.below h).facts
              exact ⟨u1, u2, u3, HO14.out W (hBA.out.trans (h.mono hBA.out.size))⟩
            have hRA := Lib.hid (Below.refl wA.heap.size wA)
            obtain ⟨p0, p1, p2, p3, p4, p5, p6⟩ := HP.out _ hRA.out
            have xl := hxA.out.lt
            have qBa : Hid (Below wA.heap.size wA (wA.alloc (.cells #[.bool false, .string ⟨#[]⟩, .string ⟨#[]⟩] 31))) := hRA.out.alloc hRA.out.size _
            have qBd : Hid (Below wA.heap.size wA (wA.alloc (.cells #[.bool false, .string ⟨#[]⟩, .string ⟨#[]⟩] 31)).drew) := qBa.out.drew
            have qBe : Hid (Below wA.heap.size wA wA.drew) := hRA.out.drew
            have qCd : Hid (Below wA.heap.size wA (wA.alloc (.cells #[.bool false, .string ⟨#[]⟩, .string ⟨#[]⟩] 31)).drew) := ((Below.refl _ wA).alloc (Nat.le_refl _) _).drew
            have qCe : Hid (Below wA.heap.size wA wA.drew) := (Below.refl _ wA).drew
            have qxd : Hid (B3 (wA.alloc (.cells #[.bool false, .string ⟨#[]⟩, .string ⟨#[]⟩] 31)).drew wA.heap.size false ⟨#[]⟩ ⟨#[]⟩) := B3.new wA _ _ _
            have qwz : Hid (wA.heap.size ≤ wA.heap.size) := hRA.out.size
            go_wp2_with fail
            go_region_held3 (fun w' => w'.cell? ⟨BxA, 0, none⟩ = some (.bool r1g) ∧ w'.cell? ⟨BxA, 1, none⟩ = some (.string r1n) ∧ w'.cell? ⟨BxA, 2, none⟩ = some (.string r1d) ∧ w'.cell? ⟨ba, oa + k, none⟩ = some (.slice (some ⟨bk, ok, none⟩) n ck) ∧ w'.cell? ⟨bk, ok + z * 3, none⟩ = some (.bool kg) ∧ w'.cell? ⟨bk, ok + z * 3 + 1, none⟩ = some (.string kn) ∧ w'.cell? ⟨bk, ok + z * 3 + 2, none⟩ = some (.string kd)) (first | (with_reducible exact HP.out _ qBe.out) | (with_reducible exact HP.out _ qBd.out) | (with_reducible exact HP.out _ hRA.out) | (with_reducible exact HP.out _ qBa.out) | (with_reducible exact HP.out _ qB2.out) | (with_reducible exact HP.out _ (qB2.out.alloc qB2.out.size _)) | (with_reducible exact HP.out _ (((qB2.out.setCell qwz.out _).setCell qwz.out _).setCell qwz.out _)) | go_keep)
              (first
                | (go_at_call 22; refine (ka.out _ ?_).mono ?_; (with_reducible exact hEA.out.below qBd.out); rintro e q2 ⟨rfl, hb2⟩; have qx2 := Lib.hid (qxd.out.below hb2); have qB2 := Lib.hid (qBd.out.trans (hb2.mono qBd.out.size)); have qC2 := Lib.hid (qCd.out.trans (hb2.mono qCd.out.size)); obtain ⟨y1, y2, y3, y4, y5, y6⟩ := qx2.out.facts; have y7 := qx2.out.lt; clear hb2)
                | (go_at_call 22; refine (ka.out _ ?_).mono ?_; (with_reducible exact hEA.out.below qBe.out); rintro e q2 ⟨rfl, hb2⟩; have qB2 := Lib.hid (qBe.out.trans (hb2.mono qBe.out.size)); have qC2 := Lib.hid (qCe.out.trans (hb2.mono qCe.out.size)); clear hb2))
            all_goals (
              first
                | (obtain ⟨wB, hw3⟩ : ∃ W, W = q2.alloc (.cells #[.bool r2g, .string r2n, .string r2d] 31) := ⟨_, rfl⟩; rw [← hw3]; obtain ⟨BxB, hBx⟩ : ∃ b, b = q2.heap.size := ⟨_, rfl⟩; rw [← hBx]; have hxB : Hid (B3 wB BxB r2g r2n r2d) := (by rw [hw3, hBx]; exact B3.new q2 _ _ _); have hBB : Hid (Below wA.heap.size wA wB) := (by rw [hw3]; exact qB2.out.alloc qB2.out.size _); have hCB : Hid (Below wA.heap.size wA wB) := (by rw [hw3]; exact qC2.out.alloc qC2.out.size _); clear hBx)
                | (obtain ⟨wB, hw3⟩ : ∃ W, W = ((q2.setCell ⟨wA.heap.size, 0, none⟩ (.bool r2g)).setCell ⟨wA.heap.size, 1, none⟩ (.string r2n)).setCell ⟨wA.heap.size, 2, none⟩ (.string r2d) := ⟨_, rfl⟩; rw [← hw3]; obtain ⟨BxB, hBx⟩ : ∃ b, b = wA.heap.size := ⟨_, rfl⟩; rw [← hBx]; have hxB : Hid (B3 wB BxB r2g r2n r2d) := (by rw [hw3, hBx]; exact ((qx2.out.set0 r2g).set1 r2n).set2 r2d); have hBB : Hid (Below wA.heap.size wA wB) := (by rw [hw3]; exact ((qB2.out.setCell qwz.out _).setCell qwz.out _).setCell qwz.out _); have hCB : Hid (Below wA.heap.size wA wB) := (by rw [hw3]; exact ((qC2.out.setCell (Nat.le_refl _) _).setCell (Nat.le_refl _) _).setCell (Nat.le_refl _) _); clear hBx qx2 y1 y2 y3 y4 y5 y6 y7)
              clear hw3 qB2 qC2 qBe qBd qBa qCe qCd qxd qwz HP p0 p1 p2 p3 p4 p5 p6 ka xl hRA
              have hBq := Lib.hid (hBA.out.trans (hBB.out.mono hBA.out.size))
              have hCq := Lib.hid (hCA.out.trans (hBB.out.mono hCA.out.size))
              obtain ⟨z1, z2, z3, z4, z5, z6⟩ := hxB.out.facts
              have z7 := hxB.out.lt
              clear hxA hxB hBA hBB hCA hCB hCq hEA HO14
              go_wp2
              go_ret
              exact ⟨rfl, hB0.out.trans (hBq.out.mono hB0.out.size)⟩
              ))
      · as_aux_lemma =>
          clear hM
          have qBa : Hid (Below W0.heap.size W0 (wr.alloc (.cells #[.bool false, .string ⟨#[]⟩, .string ⟨#[]⟩] 31))) := hB.out.alloc hB.out.size _
          have qBd : Hid (Below W0.heap.size W0 (wr.alloc (.cells #[.bool false, .string ⟨#[]⟩, .string ⟨#[]⟩] 31)).drew) := qBa.out.drew
          have qBe : Hid (Below W0.heap.size W0 wr.drew) := hB.out.drew
          have qCd : Hid (Below wr.heap.size wr (wr.alloc (.cells #[.bool false, .string ⟨#[]⟩, .string ⟨#[]⟩] 31)).drew) := ((Below.refl _ wr).alloc (Nat.le_refl _) _).drew
          have qCe : Hid (Below wr.heap.size wr wr.drew) := (Below.refl _ wr).drew
          have qxd : Hid (B3 (wr.alloc (.cells #[.bool false, .string ⟨#[]⟩, .string ⟨#[]⟩] 31)).drew wr.heap.size false ⟨#[]⟩ ⟨#[]⟩) := B3.new wr _ _ _
          have qwz : Hid (W0.heap.size ≤ wr.heap.size) := hB.out.size
          go_wp2_with fail
          go_region_held3 (fun w' => w'.cell? ⟨ba, oa + i, none⟩ = some (.slice (some ⟨bi, oi, none⟩) n ci) ∧ w'.cell? ⟨bi, oi + z * 3, none⟩ = some (.bool xg) ∧ w'.cell? ⟨bi, oi + z * 3 + 1, none⟩ = some (.string xn) ∧ w'.cell? ⟨bi, oi + z * 3 + 2, none⟩ = some (.string xd) ∧ w'.cell? ⟨w.heap.size, 0, none⟩ = some (.bool g0) ∧ w'.cell? ⟨w.heap.size, 1, none⟩ = some (.string nn0) ∧ w'.cell? ⟨w.heap.size, 2, none⟩ = some (.string dd0)) (first | (with_reducible exact HO13.out _ qBe.out) | (with_reducible exact HO13.out _ qBd.out) | (with_reducible exact HO13.out _ hB.out) | (with_reducible exact HO13.out _ qBa.out) | (with_reducible exact HO13.out _ qB2.out) | (with_reducible exact HO13.out _ (qB2.out.alloc qB2.out.size _)) | (with_reducible exact HO13.out _ (((qB2.out.setCell qwz.out _).setCell qwz.out _).setCell qwz.out _)) | go_keep)
            (first
              | (go_at_call 21; refine (km.out _ ?_).mono ?_; (with_reducible exact hE0.out.below qBd.out); rintro e q2 ⟨rfl, hb2⟩; have qx2 := Lib.hid (qxd.out.below hb2); have qB2 := Lib.hid (qBd.out.trans (hb2.mono qBd.out.size)); have qC2 := Lib.hid (qCd.out.trans (hb2.mono qCd.out.size)); obtain ⟨y1, y2, y3, y4, y5, y6⟩ := qx2.out.facts; have y7 := qx2.out.lt; clear hb2)
              | (go_at_call 21; refine (km.out _ ?_).mono ?_; (with_reducible exact hE0.out.below qBe.out); rintro e q2 ⟨rfl, hb2⟩; have qB2 := Lib.hid (qBe.out.trans (hb2.mono qBe.out.size)); have qC2 := Lib.hid (qCe.out.trans (hb2.mono qCe.out.size)); clear hb2))
          all_goals (
            first
              | (obtain ⟨wA, hw3⟩ : ∃ W, W = q2.alloc (.cells #[.bool r1g, .string r1n, .string r1d] 31) := ⟨_, rfl⟩; rw [← hw3]; obtain ⟨BxA, hBx⟩ : ∃ b, b = q2.heap.size := ⟨_, rfl⟩; rw [← hBx]; have hxA : Hid (B3 wA BxA r1g r1n r1d) := (by rw [hw3, hBx]; exact B3.new q2 _ _ _); have hBA : Hid (Below W0.heap.size W0 wA) := (by rw [hw3]; exact qB2.out.alloc qB2.out.size _); have hCA : Hid (Below wr.heap.size wr wA) := (by rw [hw3]; exact qC2.out.alloc qC2.out.size _); clear hBx)
              | (obtain ⟨wA, hw3⟩ : ∃ W, W = ((q2.setCell ⟨wr.heap.size, 0, none⟩ (.bool r1g)).setCell ⟨wr.heap.size, 1, none⟩ (.string r1n)).setCell ⟨wr.heap.size, 2, none⟩ (.string r1d) := ⟨_, rfl⟩; rw [← hw3]; obtain ⟨BxA, hBx⟩ : ∃ b, b = wr.heap.size := ⟨_, rfl⟩; rw [← hBx]; have hxA : Hid (B3 wA BxA r1g r1n r1d) := (by rw [hw3, hBx]; exact ((qx2.out.set0 r1g).set1 r1n).set2 r1d); have hBA : Hid (Below W0.heap.size W0 wA) := (by rw [hw3]; exact ((qB2.out.setCell qwz.out _).setCell qwz.out _).setCell qwz.out _); have hCA : Hid (Below wr.heap.size wr wA) := (by rw [hw3]; exact ((qC2.out.setCell (Nat.le_refl _) _).setCell (Nat.le_refl _) _).setCell (Nat.le_refl _) _); clear hBx qx2 y1 y2 y3 y4 y5 y6 y7)
            clear hw3 qB2 qC2 qBe qBd qBa qCe qCd qxd qwz HO13 p0 p1 p2 p3 p4 p5 p6 km
            have hEA := Lib.hid (hE0.out.below hBA.out)
            have HP : Hid (∀ W, Below wA.heap.size wA W → W.cell? ⟨BxA, 0, none⟩ = some (.bool r1g) ∧ W.cell? ⟨BxA, 1, none⟩ = some (.string r1n) ∧ W.cell? ⟨BxA, 2, none⟩ = some (.string r1d) ∧ W.cell? ⟨ba, oa + k, none⟩ = some (.slice (some ⟨bk, ok, none⟩) n ck) ∧ W.cell? ⟨bk, ok + z * 3, none⟩ = some (.bool kg) ∧ W.cell? ⟨bk, ok + z * 3 + 1, none⟩ = some (.string kn) ∧ W.cell? ⟨bk, ok + z * 3 + 2, none⟩ = some (.string kd)) := fun W h => by
              obtain ⟨u1, u2, u3, _, _, _⟩ := (hxA.out.below h).facts
              exact ⟨u1, u2, u3, HO14.out W (hBA.out.trans (h.mono hBA.out.size))⟩
            have hRA := Lib.hid (Below.refl wA.heap.size wA)
            obtain ⟨p0, p1, p2, p3, p4, p5, p6⟩ := HP.out _ hRA.out
            have xl := hxA.out.lt
            have qBa : Hid (Below wA.heap.size wA (wA.alloc (.cells #[.bool false, .string ⟨#[]⟩, .string ⟨#[]⟩] 31))) := hRA.out.alloc hRA.out.size _
            have qBd : Hid (Below wA.heap.size wA (wA.alloc (.cells #[.bool false, .string ⟨#[]⟩, .string ⟨#[]⟩] 31)).drew) := qBa.out.drew
            have qBe : Hid (Below wA.heap.size wA wA.drew) := hRA.out.drew
            have qCd : Hid (Below wA.heap.size wA (wA.alloc (.cells #[.bool false, .string ⟨#[]⟩, .string ⟨#[]⟩] 31)).drew) := ((Below.refl _ wA).alloc (Nat.le_refl _) _).drew
            have qCe : Hid (Below wA.heap.size wA wA.drew) := (Below.refl _ wA).drew
            have qxd : Hid (B3 (wA.alloc (.cells #[.bool false, .string ⟨#[]⟩, .string ⟨#[]⟩] 31)).drew wA.heap.size false ⟨#[]⟩ ⟨#[]⟩) := B3.new wA _ _ _
            have qwz : Hid (wA.heap.size ≤ wA.heap.size) := hRA.out.size
            go_wp2_with fail
            go_region_held3 (fun w' => w'.cell? ⟨BxA, 0, none⟩ = some (.bool r1g) ∧ w'.cell? ⟨BxA, 1, none⟩ = some (.string r1n) ∧ w'.cell? ⟨BxA, 2, none⟩ = some (.string r1d) ∧ w'.cell? ⟨ba, oa + k, none⟩ = some (.slice (some ⟨bk, ok, none⟩) n ck) ∧ w'.cell? ⟨bk, ok + z * 3, none⟩ = some (.bool kg) ∧ w'.cell? ⟨bk, ok + z * 3 + 1, none⟩ = some (.string kn) ∧ w'.cell? ⟨bk, ok + z * 3 + 2, none⟩ = some (.string kd)) (first | (with_reducible exact HP.out _ qBe.out) | (with_reducible exact HP.out _ qBd.out) | (with_reducible exact HP.out _ hRA.out) | (with_reducible exact HP.out _ qBa.out) | (with_reducible exact HP.out _ qB2.out) | (with_reducible exact HP.out _ (qB2.out.alloc qB2.out.size _)) | (with_reducible exact HP.out _ (((qB2.out.setCell qwz.out _).setCell qwz.out _).setCell qwz.out _)) | go_keep)
              (first
                | (go_at_call 22; refine (ka.out _ ?_).mono ?_; (with_reducible exact hEA.out.below qBd.out); rintro e q2 ⟨rfl, hb2⟩; have qx2 := Lib.hid (qxd.out.below hb2); have qB2 := Lib.hid (qBd.out.trans (hb2.mono qBd.out.size)); have qC2 := Lib.hid (qCd.out.trans (hb2.mono qCd.out.size)); obtain ⟨y1, y2, y3, y4, y5, y6⟩ := qx2.out.facts; have y7 := qx2.out.lt; clear hb2)
                | (go_at_call 22; refine (ka.out _ ?_).mono ?_; (with_reducible exact hEA.out.below qBe.out); rintro e q2 ⟨rfl, hb2⟩; have qB2 := Lib.hid (qBe.out.trans (hb2.mono qBe.out.size)); have qC2 := Lib.hid (qCe.out.trans (hb2.mono qCe.out.size)); clear hb2))
            all_goals (
              first
                | (obtain ⟨wB, hw3⟩ : ∃ W, W = q2.alloc (.cells #[.bool r2g, .string r2n, .string r2d] 31) := ⟨_, rfl⟩; rw [← hw3]; obtain ⟨BxB, hBx⟩ : ∃ b, b = q2.heap.size := ⟨_, rfl⟩; rw [← hBx]; have hxB : Hid (B3 wB BxB r2g r2n r2d) := (by rw [hw3, hBx]; exact B3.new q2 _ _ _); have hBB : Hid (Below wA.heap.size wA wB) := (by rw [hw3]; exact qB2.out.alloc qB2.out.size _); have hCB : Hid (Below wA.heap.size wA wB) := (by rw [hw3]; exact qC2.out.alloc qC2.out.size _); clear hBx)
                | (obtain ⟨wB, hw3⟩ : ∃ W, W = ((q2.setCell ⟨wA.heap.size, 0, none⟩ (.bool r2g)).setCell ⟨wA.heap.size, 1, none⟩ (.string r2n)).setCell ⟨wA.heap.size, 2, none⟩ (.string r2d) := ⟨_, rfl⟩; rw [← hw3]; obtain ⟨BxB, hBx⟩ : ∃ b, b = wA.heap.size := ⟨_, rfl⟩; rw [← hBx]; have hxB : Hid (B3 wB BxB r2g r2n r2d) := (by rw [hw3, hBx]; exact ((qx2.out.set0 r2g).set1 r2n).set2 r2d); have hBB : Hid (Below wA.heap.size wA wB) := (by rw [hw3]; exact ((qB2.out.setCell qwz.out _).setCell qwz.out _).setCell qwz.out _); have hCB : Hid (Below wA.heap.size wA wB) := (by rw [hw3]; exact ((qC2.out.setCell (Nat.le_refl _) _).setCell (Nat.le_refl _) _).setCell (Nat.le_refl _) _); clear hBx qx2 y1 y2 y3 y4 y5 y6 y7)
              clear hw3 qB2 qC2 qBe qBd qBa qCe qCd qxd qwz HP p0 p1 p2 p3 p4 p5 p6 ka xl hRA
              have hBq := Lib.hid (hBA.out.trans (hBB.out.mono hBA.out.size))
              have hCq := Lib.hid (hCA.out.trans (hBB.out.mono hCA.out.size))
              obtain ⟨z1, z2, z3, z4, z5, z6⟩ := hxB.out.facts
              have z7 := hxB.out.lt
              clear hxA hxB hBA hBB hCA hCB hCq hEA HO14
              go_wp2
              go_ret
              exact ⟨rfl, hB0.out.trans (hBq.out.mono hB0.out.size)⟩
              ))
    · obtain rfl : n = z := by omega
      obtain ⟨A, c2, h13, hrow, h16, hap, hap6, hrp⟩ := hM.out
      obtain ⟨xi, xk, ei, ek, zi, zk, hcells⟩ := HBv.out
      obtain ⟨r1, r2, E1, E2, km, ka, hcase⟩ := step2 xi (g0, nn0, dd0) xk zi hxsz.out zk
      rw [ei, ek] at hcase
      obtain ⟨xg, xn, xd⟩ := xi
      obtain ⟨kg, kn, kd⟩ := xk
      obtain ⟨r1g, r1n, r1d⟩ := r1
      obtain ⟨r2g, r2n, r2d⟩ := r2
      replace km : Hid (∀ w, Env w → Calls Tryz.prog 21 #[.agg #[.bool xg, .string xn, .string xd], .agg #[.bool g0, .string nn0, .string dd0]] w fun e w' => e = .returned (.tuple #[.agg #[.bool r1g, .string r1n, .string r1d], .int .i64 E1]) ∧ Below w.heap.size w w') := km
      replace ka : Hid (∀ w, Env w → Calls Tryz.prog 22 #[.agg #[.bool r1g, .string r1n, .string r1d], .agg #[.bool kg, .string kn, .string kd]] w fun e w' => e = .returned (.tuple #[.agg #[.bool r2g, .string r2n, .string r2d], .int .i64 E2]) ∧ Below w.heap.size w w') := ka
      have HO18 : Hid (∀ W, Below W0.heap.size W0 W → W.cell? ⟨bb, ob + i * 3, none⟩ = some (.bool xg) ∧ W.cell? ⟨bb, ob + i * 3 + 1, none⟩ = some (.string xn) ∧ W.cell? ⟨bb, ob + i * 3 + 2, none⟩ = some (.string xd) ∧ W.cell? ⟨w.heap.size, 0, none⟩ = some (.bool g0) ∧ W.cell? ⟨w.heap.size, 1, none⟩ = some (.string nn0) ∧ W.cell? ⟨w.heap.size, 2, none⟩ = some (.string dd0)) := fun W h => ⟨(hcells W h).1.1, (hcells W h).1.2.1, (hcells W h).1.2.2, HX.out W h⟩
      have HO19 : Hid (∀ W, Below W0.heap.size W0 W → W.cell? ⟨bb, ob + k * 3, none⟩ = some (.bool kg) ∧ W.cell? ⟨bb, ob + k * 3 + 1, none⟩ = some (.string kn) ∧ W.cell? ⟨bb, ob + k * 3 + 2, none⟩ = some (.string kd)) := fun W h => (hcells W h).2
      obtain ⟨p1, p2, p3, p4, p5, p6⟩ := HO18.out _ hB.out
      replace h13 := Lib.hid h13
      replace hrow := Lib.hid hrow
      replace h16 := Lib.hid h16
      replace hap := Lib.hid hap
      replace hap6 := Lib.hid hap6
      replace hrp := Lib.hid hrp
      clear hcells hM HR HH hlt
      rcases hcase with ⟨rfl, rfl, hr, hok⟩ | rfl | rfl | ⟨rfl, rfl⟩ | ⟨rfl, rfl⟩
      · as_aux_lemma =>
          replace hr := Lib.hid hr
          replace hok := Lib.hid hok
          have qBa : Hid (Below W0.heap.size W0 (wr.alloc (.cells #[.bool false, .string ⟨#[]⟩, .string ⟨#[]⟩] 31))) := hB.out.alloc hB.out.size _
          have qBd : Hid (Below W0.heap.size W0 (wr.alloc (.cells #[.bool false, .string ⟨#[]⟩, .string ⟨#[]⟩] 31)).drew) := qBa.out.drew
          have qBe : Hid (Below W0.heap.size W0 wr.drew) := hB.out.drew
          have qCd : Hid (Below wr.heap.size wr (wr.alloc (.cells #[.bool false, .string ⟨#[]⟩, .string ⟨#[]⟩] 31)).drew) := ((Below.refl _ wr).alloc (Nat.le_refl _) _).drew
          have qCe : Hid (Below wr.heap.size wr wr.drew) := (Below.refl _ wr).drew
          have qxd : Hid (B3 (wr.alloc (.cells #[.bool false, .string ⟨#[]⟩, .string ⟨#[]⟩] 31)).drew wr.heap.size false ⟨#[]⟩ ⟨#[]⟩) := B3.new wr _ _ _
          have qwz : Hid (W0.heap.size ≤ wr.heap.size) := hB.out.size
          go_wp2_with fail
          go_region_held3 (fun w' => w'.cell? ⟨bb, ob + i * 3, none⟩ = some (.bool xg) ∧ w'.cell? ⟨bb, ob + i * 3 + 1, none⟩ = some (.string xn) ∧ w'.cell? ⟨bb, ob + i * 3 + 2, none⟩ = some (.string xd) ∧ w'.cell? ⟨w.heap.size, 0, none⟩ = some (.bool g0) ∧ w'.cell? ⟨w.heap.size, 1, none⟩ = some (.string nn0) ∧ w'.cell? ⟨w.heap.size, 2, none⟩ = some (.string dd0)) (first | (with_reducible exact HO18.out _ qBe.out) | (with_reducible exact HO18.out _ qBd.out) | (with_reducible exact HO18.out _ hB.out) | (with_reducible exact HO18.out _ qBa.out) | (with_reducible exact HO18.out _ qB2.out) | (with_reducible exact HO18.out _ (qB2.out.alloc qB2.out.size _)) | (with_reducible exact HO18.out _ (((qB2.out.setCell qwz.out _).setCell qwz.out _).setCell qwz.out _)) | go_keep)
            (first
              | (go_at_call 21; refine (km.out _ ?_).mono ?_; (with_reducible exact hE0.out.below qBd.out); rintro e q2 ⟨rfl, hb2⟩; have qx2 := Lib.hid (qxd.out.below hb2); have qB2 := Lib.hid (qBd.out.trans (hb2.mono qBd.out.size)); have qC2 := Lib.hid (qCd.out.trans (hb2.mono qCd.out.size)); obtain ⟨y1, y2, y3, y4, y5, y6⟩ := qx2.out.facts; have y7 := qx2.out.lt; clear hb2)
              | (go_at_call 21; refine (km.out _ ?_).mono ?_; (with_reducible exact hE0.out.below qBe.out); rintro e q2 ⟨rfl, hb2⟩; have qB2 := Lib.hid (qBe.out.trans (hb2.mono qBe.out.size)); have qC2 := Lib.hid (qCe.out.trans (hb2.mono qCe.out.size)); clear hb2))
          all_goals (
            first
              | (obtain ⟨wA, hw3⟩ : ∃ W, W = q2.alloc (.cells #[.bool r1g, .string r1n, .string r1d] 31) := ⟨_, rfl⟩; rw [← hw3]; obtain ⟨BxA, hBx⟩ : ∃ b, b = q2.heap.size := ⟨_, rfl⟩; rw [← hBx]; have hxA : Hid (B3 wA BxA r1g r1n r1d) := (by rw [hw3, hBx]; exact B3.new q2 _ _ _); have hBA : Hid (Below W0.heap.size W0 wA) := (by rw [hw3]; exact qB2.out.alloc qB2.out.size _); have hCA : Hid (Below wr.heap.size wr wA) := (by rw [hw3]; exact qC2.out.alloc qC2.out.size _); clear hBx)
              | (obtain ⟨wA, hw3⟩ : ∃ W, W = ((q2.setCell ⟨wr.heap.size, 0, none⟩ (.bool r1g)).setCell ⟨wr.heap.size, 1, none⟩ (.string r1n)).setCell ⟨wr.heap.size, 2, none⟩ (.string r1d) := ⟨_, rfl⟩; rw [← hw3]; obtain ⟨BxA, hBx⟩ : ∃ b, b = wr.heap.size := ⟨_, rfl⟩; rw [← hBx]; have hxA : Hid (B3 wA BxA r1g r1n r1d) := (by rw [hw3, hBx]; exact ((qx2.out.set0 r1g).set1 r1n).set2 r1d); have hBA : Hid (Below W0.heap.size W0 wA) := (by rw [hw3]; exact ((qB2.out.setCell qwz.out _).setCell qwz.out _).setCell qwz.out _); have hCA : Hid (Below wr.heap.size wr wA) := (by rw [hw3]; exact ((qC2.out.setCell (Nat.le_refl _) _).setCell (Nat.le_refl _) _).setCell (Nat.le_refl _) _); clear hBx qx2 y1 y2 y3 y4 y5 y6 y7)
            clear hw3 qB2 qC2 qBe qBd qBa qCe qCd qxd qwz HO18 p1 p2 p3 p4 p5 p6 km
            have hEA := Lib.hid (hE0.out.below hBA.out)
            have HP : Hid (∀ W, Below wA.heap.size wA W → W.cell? ⟨BxA, 0, none⟩ = some (.bool r1g) ∧ W.cell? ⟨BxA, 1, none⟩ = some (.string r1n) ∧ W.cell? ⟨BxA, 2, none⟩ = some (.string r1d) ∧ W.cell? ⟨bb, ob + k * 3, none⟩ = some (.bool kg) ∧ W.cell? ⟨bb, ob + k * 3 + 1, none⟩ = some (.string kn) ∧ W.cell? ⟨bb, ob + k * 3 + 2, none⟩ = some (.string kd)) := fun W h => by
              obtain ⟨u1, u2, u3, _, _, _⟩ := (hxA.out.below h).facts
              exact ⟨u1, u2, u3, HO19.out W (hBA.out.trans (h.mono hBA.out.size))⟩
            have hRA := Lib.hid (Below.refl wA.heap.size wA)
            obtain ⟨p1, p2, p3, p4, p5, p6⟩ := HP.out _ hRA.out
            have xl := hxA.out.lt
            have qBa : Hid (Below wA.heap.size wA (wA.alloc (.cells #[.bool false, .string ⟨#[]⟩, .string ⟨#[]⟩] 31))) := hRA.out.alloc hRA.out.size _
            have qBd : Hid (Below wA.heap.size wA (wA.alloc (.cells #[.bool false, .string ⟨#[]⟩, .string ⟨#[]⟩] 31)).drew) := qBa.out.drew
            have qBe : Hid (Below wA.heap.size wA wA.drew) := hRA.out.drew
            have qCd : Hid (Below wA.heap.size wA (wA.alloc (.cells #[.bool false, .string ⟨#[]⟩, .string ⟨#[]⟩] 31)).drew) := ((Below.refl _ wA).alloc (Nat.le_refl _) _).drew
            have qCe : Hid (Below wA.heap.size wA wA.drew) := (Below.refl _ wA).drew
            have qxd : Hid (B3 (wA.alloc (.cells #[.bool false, .string ⟨#[]⟩, .string ⟨#[]⟩] 31)).drew wA.heap.size false ⟨#[]⟩ ⟨#[]⟩) := B3.new wA _ _ _
            have qwz : Hid (wA.heap.size ≤ wA.heap.size) := hRA.out.size
            go_wp2_with fail
            go_region_held3 (fun w' => w'.cell? ⟨BxA, 0, none⟩ = some (.bool r1g) ∧ w'.cell? ⟨BxA, 1, none⟩ = some (.string r1n) ∧ w'.cell? ⟨BxA, 2, none⟩ = some (.string r1d) ∧ w'.cell? ⟨bb, ob + k * 3, none⟩ = some (.bool kg) ∧ w'.cell? ⟨bb, ob + k * 3 + 1, none⟩ = some (.string kn) ∧ w'.cell? ⟨bb, ob + k * 3 + 2, none⟩ = some (.string kd)) (first | (with_reducible exact HP.out _ qBe.out) | (with_reducible exact HP.out _ qBd.out) | (with_reducible exact HP.out _ hRA.out) | (with_reducible exact HP.out _ qBa.out) | (with_reducible exact HP.out _ qB2.out) | (with_reducible exact HP.out _ (qB2.out.alloc qB2.out.size _)) | (with_reducible exact HP.out _ (((qB2.out.setCell qwz.out _).setCell qwz.out _).setCell qwz.out _)) | go_keep)
              (first
                | (go_at_call 22; refine (ka.out _ ?_).mono ?_; (with_reducible exact hEA.out.below qBd.out); rintro e q2 ⟨rfl, hb2⟩; have qx2 := Lib.hid (qxd.out.below hb2); have qB2 := Lib.hid (qBd.out.trans (hb2.mono qBd.out.size)); have qC2 := Lib.hid (qCd.out.trans (hb2.mono qCd.out.size)); obtain ⟨y1, y2, y3, y4, y5, y6⟩ := qx2.out.facts; have y7 := qx2.out.lt; clear hb2)
                | (go_at_call 22; refine (ka.out _ ?_).mono ?_; (with_reducible exact hEA.out.below qBe.out); rintro e q2 ⟨rfl, hb2⟩; have qB2 := Lib.hid (qBe.out.trans (hb2.mono qBe.out.size)); have qC2 := Lib.hid (qCe.out.trans (hb2.mono qCe.out.size)); clear hb2))
            all_goals (
              first
                | (obtain ⟨wB, hw3⟩ : ∃ W, W = q2.alloc (.cells #[.bool r2g, .string r2n, .string r2d] 31) := ⟨_, rfl⟩; rw [← hw3]; obtain ⟨BxB, hBx⟩ : ∃ b, b = q2.heap.size := ⟨_, rfl⟩; rw [← hBx]; have hxB : Hid (B3 wB BxB r2g r2n r2d) := (by rw [hw3, hBx]; exact B3.new q2 _ _ _); have hBB : Hid (Below wA.heap.size wA wB) := (by rw [hw3]; exact qB2.out.alloc qB2.out.size _); have hCB : Hid (Below wA.heap.size wA wB) := (by rw [hw3]; exact qC2.out.alloc qC2.out.size _); clear hBx)
                | (obtain ⟨wB, hw3⟩ : ∃ W, W = ((q2.setCell ⟨wA.heap.size, 0, none⟩ (.bool r2g)).setCell ⟨wA.heap.size, 1, none⟩ (.string r2n)).setCell ⟨wA.heap.size, 2, none⟩ (.string r2d) := ⟨_, rfl⟩; rw [← hw3]; obtain ⟨BxB, hBx⟩ : ∃ b, b = wA.heap.size := ⟨_, rfl⟩; rw [← hBx]; have hxB : Hid (B3 wB BxB r2g r2n r2d) := (by rw [hw3, hBx]; exact ((qx2.out.set0 r2g).set1 r2n).set2 r2d); have hBB : Hid (Below wA.heap.size wA wB) := (by rw [hw3]; exact ((qB2.out.setCell qwz.out _).setCell qwz.out _).setCell qwz.out _); have hCB : Hid (Below wA.heap.size wA wB) := (by rw [hw3]; exact ((qC2.out.setCell (Nat.le_refl _) _).setCell (Nat.le_refl _) _).setCell (Nat.le_refl _) _); clear hBx qx2 y1 y2 y3 y4 y5 y6 y7)
              clear hw3 qB2 qC2 qBe qBd qBa qCe qCd qxd qwz HP p1 p2 p3 p4 p5 p6 ka xl hRA
              have hBq := Lib.hid (hBA.out.trans (hBB.out.mono hBA.out.size))
              have hCq := Lib.hid (hCA.out.trans (hBB.out.mono hCA.out.size))
              obtain ⟨z1, z2, z3, z4, z5, z6⟩ := hxB.out.facts
              have z7 := hxB.out.lt
              replace h13 := Lib.hid (own_below h13.out hCq.out)
              replace hrow := Lib.hid (own_below hrow.out hCq.out)
              replace h16 := Lib.hid (own_below h16.out hCq.out)
              clear hxA hxB hBA hBB hCA hCB hCq hEA HO19
              obtain ⟨hg16, gl, gf, gc⟩ := own_at h16.out hn1
              obtain ⟨ry, hry⟩ : ∃ x, x = lb.getD i zraw := ⟨_, rfl⟩
              have e0 := rowL_get (fun j => lb.getD j zraw) hin 0 (by omega)
              have e1 := rowL_get (fun j => lb.getD j zraw) hin 1 (by omega)
              have e2 := rowL_get (fun j => lb.getD j zraw) hin 2 (by omega)
              rw [← hry] at e0 e1 e2
              have gc0 : wB.cell? ⟨g16, i * 3, none⟩ = some (.bool ry.1) := gc _ _ e0
              have gc1 : wB.cell? ⟨g16, i * 3 + 1, none⟩ = some (.string ry.2.1) := gc _ _ e1
              have gc2 : wB.cell? ⟨g16, i * 3 + 2, none⟩ = some (.string ry.2.2) := gc _ _ e2
              have gf0 := gf (i * 3)
              have gf1 := gf (i * 3 + 1)
              have gf2 := gf (i * 3 + 2)
              replace hg16 := Lib.hid hg16
              have hB5 : Hid (Below W0.heap.size W0 (((wB.setCell ⟨g16, i * 3, none⟩ (.bool r2g)).setCell ⟨g16, i * 3 + 1, none⟩ (.string r2n)).setCell ⟨g16, i * 3 + 2, none⟩ (.string r2d))) := ((hBq.out.setCell hg16.out _).setCell hg16.out _).setCell hg16.out _
              have hrow5 : Hid (InRow (((wB.setCell ⟨g16, i * 3, none⟩ (.bool r2g)).setCell ⟨g16, i * 3 + 1, none⟩ (.string r2n)).setCell ⟨g16, i * 3 + 2, none⟩ (.string r2d)) (some ⟨g16, 0, none⟩) (lb.set i (r2g, r2n, r2d))) := by
                have h1 := own_set (i := i * 3 + 2) (v := .string r2d) (own_set (i := i * 3 + 1) (v := .string r2n) (own_set (i := i * 3) (v := .bool r2g) h16.out))
                have h2 := rowL_set3 (lb := lb) (x := (r2g, r2n, r2d)) hlbl.out hin
                dsimp only at h2
                rw [h2] at h1
                obtain ⟨A', c', e, h3⟩ := inRow_of_own h1
                simp only [Value.slice.injEq, true_and] at e
                rw [rowL_map (l := lb.set i (r2g, r2n, r2d)) (by rw [List.length_set]; exact hlbl.out) fun j hj => getD_at hj] at h3
                rw [e.1]
                exact h3
              have hmat5 : Hid (InMat (((wB.setCell ⟨g16, i * 3, none⟩ (.bool r2g)).setCell ⟨g16, i * 3 + 1, none⟩ (.string r2n)).setCell ⟨g16, i * 3 + 2, none⟩ (.string r2d)) (some ⟨g, 0, none⟩) (la.set i (A, c2, outL n fun j => ent (rowsOf la) i j * vq (g0, nn0, dd0) + ent (rowsOf la) k j))) := by
                have h1 := own_far (g := g16) (i := i * 3 + 2) (v := .string r2d) (own_far (g := g16) (i := i * 3 + 1) (v := .string r2n) (own_far (g := g16) (i := i * 3) (v := .bool r2g) h13.out (hap6.out g16 rfl)) (hap6.out g16 rfl)) (hap6.out g16 rfl)
                have h2 := own_far (g := g16) (i := i * 3 + 2) (v := .string r2d) (own_far (g := g16) (i := i * 3 + 1) (v := .string r2n) (own_far (g := g16) (i := i * 3) (v := .bool r2g) hrow.out (hrp.out.symm g16 rfl)) (hrp.out.symm g16 rfl)) (hrp.out.symm g16 rfl)
                obtain ⟨A', c', e, h3⟩ := inRow_of_own h2
                simp only [Value.slice.injEq, true_and] at e
                have h4 : InRow (((wB.setCell ⟨g16, i * 3, none⟩ (.bool r2g)).setCell ⟨g16, i * 3 + 1, none⟩ (.string r2n)).setCell ⟨g16, i * 3 + 2, none⟩ (.string r2d)) A (outL n fun j => ent (rowsOf la) i j * vq (g0, nn0, dd0) + ent (rowsOf la) k j) := by rw [e.1]; exact h3
                exact inMat_set (x := (A, c2, outL n fun j => ent (rowsOf la) i j * vq (g0, nn0, dd0) + ent (rowsOf la) k j)) hlal.out h1 (by rw [List.map_set]; unfold hdr; rw [outL_length]) (hma.out _ hB5.out) h4
              have hsx : Hid ((r2g, r2n, r2d) = rq (rhs lb i * vq (g0, nn0, dd0) + rhs lb k)) := hr.out
              have hkend := Lib.hid (hend.out hOk.out hok.out)
              clear gl gf gc e0 e1 e2 hry h13 hrow h16 hap hap6 hrp hr hBq hend
              go_wp2_with fail
              refine (ks1.out _ hB5.out (hE0.out.below hB5.out)).mono ?_
              rintro e w6 ⟨⟨q1, d1, rfl, s1⟩, hb⟩
              have hB6 := Lib.hid (hB5.out.trans (hb.mono hB5.out.size))
              have hm6 := Lib.hid (hmat5.out.below hb (Nat.le_refl _))
              have hr6 : Hid (InRow w6 (some ⟨g16, 0, none⟩) (lb.set i (rq (rhs lb i * vq (g0, nn0, dd0) + rhs lb k)))) := by rw [← hsx.out]; exact hrow5.out.below hb (Nat.le_refl _)
              replace s1 := Lib.hid s1
              clear hb hmat5 hrow5 hB5 gc0 gc1 gc2 gf0 gf1 gf2 z1 z2 z3 z4 z5 z6 z7
              go_wp2_with fail
              refine (ks2.out _ _ _ _ _ A c2 hB6.out (hE0.out.below hB6.out) hm6.out hr6.out hOk.out hok.out).mono ?_
              rintro e w7 ⟨⟨q2, d2, rfl, s2⟩, hb⟩
              have hB7 := Lib.hid (hB6.out.trans (hb.mono hB6.out.size))
              have k1 := lsame_any q1 q2 d1 d2 xs1 xs2 er1 er2 ⟨b1, b2⟩ ⟨b5, b6⟩ w7 (s1.out.below hb (Nat.le_refl _)) s2 l1
              rw [hkend.out] at k1
              replace k1 := Lib.hid k1
              clear hb s1 s2 hm6 hr6
              go_wp2_with fail
              refine k1.out.mono ?_
              rintro e w8 ⟨rfl, hb⟩
              have hB8 := Lib.hid (hB7.out.trans (hb.mono hB7.out.size))
              clear hb
              go_wp2
              go_ret
              exact ⟨rfl, hB0.out.trans (hB8.out.mono hB0.out.size)⟩
              ))
      · as_aux_lemma =>
          skip
          have qBa : Hid (Below W0.heap.size W0 (wr.alloc (.cells #[.bool false, .string ⟨#[]⟩, .string ⟨#[]⟩] 31))) := hB.out.alloc hB.out.size _
          have qBd : Hid (Below W0.heap.size W0 (wr.alloc (.cells #[.bool false, .string ⟨#[]⟩, .string ⟨#[]⟩] 31)).drew) := qBa.out.drew
          have qBe : Hid (Below W0.heap.size W0 wr.drew) := hB.out.drew
          have qCd : Hid (Below wr.heap.size wr (wr.alloc (.cells #[.bool false, .string ⟨#[]⟩, .string ⟨#[]⟩] 31)).drew) := ((Below.refl _ wr).alloc (Nat.le_refl _) _).drew
          have qCe : Hid (Below wr.heap.size wr wr.drew) := (Below.refl _ wr).drew
          have qxd : Hid (B3 (wr.alloc (.cells #[.bool false, .string ⟨#[]⟩, .string ⟨#[]⟩] 31)).drew wr.heap.size false ⟨#[]⟩ ⟨#[]⟩) := B3.new wr _ _ _
          have qwz : Hid (W0.heap.size ≤ wr.heap.size) := hB.out.size
          go_wp2_with fail
          go_region_held3 (fun w' => w'.cell? ⟨bb, ob + i * 3, none⟩ = some (.bool xg) ∧ w'.cell? ⟨bb, ob + i * 3 + 1, none⟩ = some (.string xn) ∧ w'.cell? ⟨bb, ob + i * 3 + 2, none⟩ = some (.string xd) ∧ w'.cell? ⟨w.heap.size, 0, none⟩ = some (.bool g0) ∧ w'.cell? ⟨w.heap.size, 1, none⟩ = some (.string nn0) ∧ w'.cell? ⟨w.heap.size, 2, none⟩ = some (.string dd0)) (first | (with_reducible exact HO18.out _ qBe.out) | (with_reducible exact HO18.out _ qBd.out) | (with_reducible exact HO18.out _ hB.out) | (with_reducible exact HO18.out _ qBa.out) | (with_reducible exact HO18.out _ qB2.out) | (with_reducible exact HO18.out _ (qB2.out.alloc qB2.out.size _)) | (with_reducible exact HO18.out _ (((qB2.out.setCell qwz.out _).setCell qwz.out _).setCell qwz.out _)) | go_keep)
            (first
              | (go_at_call 21; refine (km.out _ ?_).mono ?_; (with_reducible exact hE0.out.below qBd.out); rintro e q2 ⟨rfl, hb2⟩; have qx2 := Lib.hid (qxd.out.below hb2); have qB2 := Lib.hid (qBd.out.trans (hb2.mono qBd.out.size)); have qC2 := Lib.hid (qCd.out.trans (hb2.mono qCd.out.size)); obtain ⟨y1, y2, y3, y4, y5, y6⟩ := qx2.out.facts; have y7 := qx2.out.lt; clear hb2)
              | (go_at_call 21; refine (km.out _ ?_).mono ?_; (with_reducible exact hE0.out.below qBe.out); rintro e q2 ⟨rfl, hb2⟩; have qB2 := Lib.hid (qBe.out.trans (hb2.mono qBe.out.size)); have qC2 := Lib.hid (qCe.out.trans (hb2.mono qCe.out.size)); clear hb2))
          all_goals (
            first
              | (obtain ⟨wA, hw3⟩ : ∃ W, W = q2.alloc (.cells #[.bool r1g, .string r1n, .string r1d] 31) := ⟨_, rfl⟩; rw [← hw3]; obtain ⟨BxA, hBx⟩ : ∃ b, b = q2.heap.size := ⟨_, rfl⟩; rw [← hBx]; have hxA : Hid (B3 wA BxA r1g r1n r1d) := (by rw [hw3, hBx]; exact B3.new q2 _ _ _); have hBA : Hid (Below W0.heap.size W0 wA) := (by rw [hw3]; exact qB2.out.alloc qB2.out.size _); have hCA : Hid (Below wr.heap.size wr wA) := (by rw [hw3]; exact qC2.out.alloc qC2.out.size _); clear hBx)
              | (obtain ⟨wA, hw3⟩ : ∃ W, W = ((q2.setCell ⟨wr.heap.size, 0, none⟩ (.bool r1g)).setCell ⟨wr.heap.size, 1, none⟩ (.string r1n)).setCell ⟨wr.heap.size, 2, none⟩ (.string r1d) := ⟨_, rfl⟩; rw [← hw3]; obtain ⟨BxA, hBx⟩ : ∃ b, b = wr.heap.size := ⟨_, rfl⟩; rw [← hBx]; have hxA : Hid (B3 wA BxA r1g r1n r1d) := (by rw [hw3, hBx]; exact ((qx2.out.set0 r1g).set1 r1n).set2 r1d); have hBA : Hid (Below W0.heap.size W0 wA) := (by rw [hw3]; exact ((qB2.out.setCell qwz.out _).setCell qwz.out _).setCell qwz.out _); have hCA : Hid (Below wr.heap.size wr wA) := (by rw [hw3]; exact ((qC2.out.setCell (Nat.le_refl _) _).setCell (Nat.le_refl _) _).setCell (Nat.le_refl _) _); clear hBx qx2 y1 y2 y3 y4 y5 y6 y7)
            clear hw3 qB2 qC2 qBe qBd qBa qCe qCd qxd qwz HO18 p1 p2 p3 p4 p5 p6 km
            have hEA := Lib.hid (hE0.out.below hBA.out)
            have HP : Hid (∀ W, Below wA.heap.size wA W → W.cell? ⟨BxA, 0, none⟩ = some (.bool r1g) ∧ W.cell? ⟨BxA, 1, none⟩ = some (.string r1n) ∧ W.cell? ⟨BxA, 2, none⟩ = some (.string r1d) ∧ W.cell? ⟨bb, ob + k * 3, none⟩ = some (.bool kg) ∧ W.cell? ⟨bb, ob + k * 3 + 1, none⟩ = some (.string kn) ∧ W.cell? ⟨bb, ob + k * 3 + 2, none⟩ = some (.string kd)) := fun W h => by
              obtain ⟨u1, u2, u3, _, _, _⟩ := (hxA.out.below h).facts
              exact ⟨u1, u2, u3, HO19.out W (hBA.out.trans (h.mono hBA.out.size))⟩
            have hRA := Lib.hid (Below.refl wA.heap.size wA)
            obtain ⟨p1, p2, p3, p4, p5, p6⟩ := HP.out _ hRA.out
            have xl := hxA.out.lt
            have qBa : Hid (Below wA.heap.size wA (wA.alloc (.cells #[.bool false, .string ⟨#[]⟩, .string ⟨#[]⟩] 31))) := hRA.out.alloc hRA.out.size _
            have qBd : Hid (Below wA.heap.size wA (wA.alloc (.cells #[.bool false, .string ⟨#[]⟩, .string ⟨#[]⟩] 31)).drew) := qBa.out.drew
            have qBe : Hid (Below wA.heap.size wA wA.drew) := hRA.out.drew
            have qCd : Hid (Below wA.heap.size wA (wA.alloc (.cells #[.bool false, .string ⟨#[]⟩, .string ⟨#[]⟩] 31)).drew) := ((Below.refl _ wA).alloc (Nat.le_refl _) _).drew
            have qCe : Hid (Below wA.heap.size wA wA.drew) := (Below.refl _ wA).drew
            have qxd : Hid (B3 (wA.alloc (.cells #[.bool false, .string ⟨#[]⟩, .string ⟨#[]⟩] 31)).drew wA.heap.size false ⟨#[]⟩ ⟨#[]⟩) := B3.new wA _ _ _
            have qwz : Hid (wA.heap.size ≤ wA.heap.size) := hRA.out.size
            go_wp2_with fail
            go_region_held3 (fun w' => w'.cell? ⟨BxA, 0, none⟩ = some (.bool r1g) ∧ w'.cell? ⟨BxA, 1, none⟩ = some (.string r1n) ∧ w'.cell? ⟨BxA, 2, none⟩ = some (.string r1d) ∧ w'.cell? ⟨bb, ob + k * 3, none⟩ = some (.bool kg) ∧ w'.cell? ⟨bb, ob + k * 3 + 1, none⟩ = some (.string kn) ∧ w'.cell? ⟨bb, ob + k * 3 + 2, none⟩ = some (.string kd)) (first | (with_reducible exact HP.out _ qBe.out) | (with_reducible exact HP.out _ qBd.out) | (with_reducible exact HP.out _ hRA.out) | (with_reducible exact HP.out _ qBa.out) | (with_reducible exact HP.out _ qB2.out) | (with_reducible exact HP.out _ (qB2.out.alloc qB2.out.size _)) | (with_reducible exact HP.out _ (((qB2.out.setCell qwz.out _).setCell qwz.out _).setCell qwz.out _)) | go_keep)
              (first
                | (go_at_call 22; refine (ka.out _ ?_).mono ?_; (with_reducible exact hEA.out.below qBd.out); rintro e q2 ⟨rfl, hb2⟩; have qx2 := Lib.hid (qxd.out.below hb2); have qB2 := Lib.hid (qBd.out.trans (hb2.mono qBd.out.size)); have qC2 := Lib.hid (qCd.out.trans (hb2.mono qCd.out.size)); obtain ⟨y1, y2, y3, y4, y5, y6⟩ := qx2.out.facts; have y7 := qx2.out.lt; clear hb2)
                | (go_at_call 22; refine (ka.out _ ?_).mono ?_; (with_reducible exact hEA.out.below qBe.out); rintro e q2 ⟨rfl, hb2⟩; have qB2 := Lib.hid (qBe.out.trans (hb2.mono qBe.out.size)); have qC2 := Lib.hid (qCe.out.trans (hb2.mono qCe.out.size)); clear hb2))
            all_goals (
              first
                | (obtain ⟨wB, hw3⟩ : ∃ W, W = q2.alloc (.cells #[.bool r2g, .string r2n, .string r2d] 31) := ⟨_, rfl⟩; rw [← hw3]; obtain ⟨BxB, hBx⟩ : ∃ b, b = q2.heap.size := ⟨_, rfl⟩; rw [← hBx]; have hxB : Hid (B3 wB BxB r2g r2n r2d) := (by rw [hw3, hBx]; exact B3.new q2 _ _ _); have hBB : Hid (Below wA.heap.size wA wB) := (by rw [hw3]; exact qB2.out.alloc qB2.out.size _); have hCB : Hid (Below wA.heap.size wA wB) := (by rw [hw3]; exact qC2.out.alloc qC2.out.size _); clear hBx)
                | (obtain ⟨wB, hw3⟩ : ∃ W, W = ((q2.setCell ⟨wA.heap.size, 0, none⟩ (.bool r2g)).setCell ⟨wA.heap.size, 1, none⟩ (.string r2n)).setCell ⟨wA.heap.size, 2, none⟩ (.string r2d) := ⟨_, rfl⟩; rw [← hw3]; obtain ⟨BxB, hBx⟩ : ∃ b, b = wA.heap.size := ⟨_, rfl⟩; rw [← hBx]; have hxB : Hid (B3 wB BxB r2g r2n r2d) := (by rw [hw3, hBx]; exact ((qx2.out.set0 r2g).set1 r2n).set2 r2d); have hBB : Hid (Below wA.heap.size wA wB) := (by rw [hw3]; exact ((qB2.out.setCell qwz.out _).setCell qwz.out _).setCell qwz.out _); have hCB : Hid (Below wA.heap.size wA wB) := (by rw [hw3]; exact ((qC2.out.setCell (Nat.le_refl _) _).setCell (Nat.le_refl _) _).setCell (Nat.le_refl _) _); clear hBx qx2 y1 y2 y3 y4 y5 y6 y7)
              clear hw3 qB2 qC2 qBe qBd qBa qCe qCd qxd qwz HP p1 p2 p3 p4 p5 p6 ka xl hRA
              have hBq := Lib.hid (hBA.out.trans (hBB.out.mono hBA.out.size))
              have hCq := Lib.hid (hCA.out.trans (hBB.out.mono hCA.out.size))
              obtain ⟨z1, z2, z3, z4, z5, z6⟩ := hxB.out.facts
              have z7 := hxB.out.lt
              clear hxA hxB hBA hBB hCA hCB hCq hEA HO19
              go_wp2
              go_ret
              exact ⟨rfl, hB0.out.trans (hBq.out.mono hB0.out.size)⟩
              ))
      · as_aux_lemma =>
          skip
          have qBa : Hid (Below W0.heap.size W0 (wr.alloc (.cells #[.bool false, .string ⟨#[]⟩, .string ⟨#[]⟩] 31))) := hB.out.alloc hB.out.size _
          have qBd : Hid (Below W0.heap.size W0 (wr.alloc (.cells #[.bool false, .string ⟨#[]⟩, .string ⟨#[]⟩] 31)).drew) := qBa.out.drew
          have qBe : Hid (Below W0.heap.size W0 wr.drew) := hB.out.drew
          have qCd : Hid (Below wr.heap.size wr (wr.alloc (.cells #[.bool false, .string ⟨#[]⟩, .string ⟨#[]⟩] 31)).drew) := ((Below.refl _ wr).alloc (Nat.le_refl _) _).drew
          have qCe : Hid (Below wr.heap.size wr wr.drew) := (Below.refl _ wr).drew
          have qxd : Hid (B3 (wr.alloc (.cells #[.bool false, .string ⟨#[]⟩, .string ⟨#[]⟩] 31)).drew wr.heap.size false ⟨#[]⟩ ⟨#[]⟩) := B3.new wr _ _ _
          have qwz : Hid (W0.heap.size ≤ wr.heap.size) := hB.out.size
          go_wp2_with fail
          go_region_held3 (fun w' => w'.cell? ⟨bb, ob + i * 3, none⟩ = some (.bool xg) ∧ w'.cell? ⟨bb, ob + i * 3 + 1, none⟩ = some (.string xn) ∧ w'.cell? ⟨bb, ob + i * 3 + 2, none⟩ = some (.string xd) ∧ w'.cell? ⟨w.heap.size, 0, none⟩ = some (.bool g0) ∧ w'.cell? ⟨w.heap.size, 1, none⟩ = some (.string nn0) ∧ w'.cell? ⟨w.heap.size, 2, none⟩ = some (.string dd0)) (first | (with_reducible exact HO18.out _ qBe.out) | (with_reducible exact HO18.out _ qBd.out) | (with_reducible exact HO18.out _ hB.out) | (with_reducible exact HO18.out _ qBa.out) | (with_reducible exact HO18.out _ qB2.out) | (with_reducible exact HO18.out _ (qB2.out.alloc qB2.out.size _)) | (with_reducible exact HO18.out _ (((qB2.out.setCell qwz.out _).setCell qwz.out _).setCell qwz.out _)) | go_keep)
            (first
              | (go_at_call 21; refine (km.out _ ?_).mono ?_; (with_reducible exact hE0.out.below qBd.out); rintro e q2 ⟨rfl, hb2⟩; have qx2 := Lib.hid (qxd.out.below hb2); have qB2 := Lib.hid (qBd.out.trans (hb2.mono qBd.out.size)); have qC2 := Lib.hid (qCd.out.trans (hb2.mono qCd.out.size)); obtain ⟨y1, y2, y3, y4, y5, y6⟩ := qx2.out.facts; have y7 := qx2.out.lt; clear hb2)
              | (go_at_call 21; refine (km.out _ ?_).mono ?_; (with_reducible exact hE0.out.below qBe.out); rintro e q2 ⟨rfl, hb2⟩; have qB2 := Lib.hid (qBe.out.trans (hb2.mono qBe.out.size)); have qC2 := Lib.hid (qCe.out.trans (hb2.mono qCe.out.size)); clear hb2))
          all_goals (
            first
              | (obtain ⟨wA, hw3⟩ : ∃ W, W = q2.alloc (.cells #[.bool r1g, .string r1n, .string r1d] 31) := ⟨_, rfl⟩; rw [← hw3]; obtain ⟨BxA, hBx⟩ : ∃ b, b = q2.heap.size := ⟨_, rfl⟩; rw [← hBx]; have hxA : Hid (B3 wA BxA r1g r1n r1d) := (by rw [hw3, hBx]; exact B3.new q2 _ _ _); have hBA : Hid (Below W0.heap.size W0 wA) := (by rw [hw3]; exact qB2.out.alloc qB2.out.size _); have hCA : Hid (Below wr.heap.size wr wA) := (by rw [hw3]; exact qC2.out.alloc qC2.out.size _); clear hBx)
              | (obtain ⟨wA, hw3⟩ : ∃ W, W = ((q2.setCell ⟨wr.heap.size, 0, none⟩ (.bool r1g)).setCell ⟨wr.heap.size, 1, none⟩ (.string r1n)).setCell ⟨wr.heap.size, 2, none⟩ (.string r1d) := ⟨_, rfl⟩; rw [← hw3]; obtain ⟨BxA, hBx⟩ : ∃ b, b = wr.heap.size := ⟨_, rfl⟩; rw [← hBx]; have hxA : Hid (B3 wA BxA r1g r1n r1d) := (by rw [hw3, hBx]; exact ((qx2.out.set0 r1g).set1 r1n).set2 r1d); have hBA : Hid (Below W0.heap.size W0 wA) := (by rw [hw3]; exact ((qB2.out.setCell qwz.out _).setCell qwz.out _).setCell qwz.out _); have hCA : Hid (Below wr.heap.size wr wA) := (by rw [hw3]; exact ((qC2.out.setCell (Nat.le_refl _) _).setCell (Nat.le_refl _) _).setCell (Nat.le_refl _) _); clear hBx qx2 y1 y2 y3 y4 y5 y6 y7)
            clear hw3 qB2 qC2 qBe qBd qBa qCe qCd qxd qwz HO18 p1 p2 p3 p4 p5 p6 km
            have hEA := Lib.hid (hE0.out.below hBA.out)
            have HP : Hid (∀ W, Below wA.heap.size wA W → W.cell? ⟨BxA, 0, none⟩ = some (.bool r1g) ∧ W.cell? ⟨BxA, 1, none⟩ = some (.string r1n) ∧ W.cell? ⟨BxA, 2, none⟩ = some (.string r1d) ∧ W.cell? ⟨bb, ob + k * 3, none⟩ = some (.bool kg) ∧ W.cell? ⟨bb, ob + k * 3 + 1, none⟩ = some (.string kn) ∧ W.cell? ⟨bb, ob + k * 3 + 2, none⟩ = some (.string kd)) := fun W h => by
              obtain ⟨u1, u2, u3, _, _, _⟩ := (hxA.out.below h).facts
              exact ⟨u1, u2, u3, HO19.out W (hBA.out.trans (h.mono hBA.out.size))⟩
            have hRA := Lib.hid (Below.refl wA.heap.size wA)
            obtain ⟨p1, p2, p3, p4, p5, p6⟩ := HP.out _ hRA.out
            have xl := hxA.out.lt
            have qBa : Hid (Below wA.heap.size wA (wA.alloc (.cells #[.bool false, .string ⟨#[]⟩, .string ⟨#[]⟩] 31))) := hRA.out.alloc hRA.out.size _
            have qBd : Hid (Below wA.heap.size wA (wA.alloc (.cells #[.bool false, .string ⟨#[]⟩, .string ⟨#[]⟩] 31)).drew) := qBa.out.drew
            have qBe : Hid (Below wA.heap.size wA wA.drew) := hRA.out.drew
            have qCd : Hid (Below wA.heap.size wA (wA.alloc (.cells #[.bool false, .string ⟨#[]⟩, .string ⟨#[]⟩] 31)).drew) := ((Below.refl _ wA).alloc (Nat.le_refl _) _).drew
            have qCe : Hid (Below wA.heap.size wA wA.drew) := (Below.refl _ wA).drew
            have qxd : Hid (B3 (wA.alloc (.cells #[.bool false, .string ⟨#[]⟩, .string ⟨#[]⟩] 31)).drew wA.heap.size false ⟨#[]⟩ ⟨#[]⟩) := B3.new wA _ _ _
            have qwz : Hid (wA.heap.size ≤ wA.heap.size) := hRA.out.size
            go_wp2_with fail
            go_region_held3 (fun w' => w'.cell? ⟨BxA, 0, none⟩ = some (.bool r1g) ∧ w'.cell? ⟨BxA, 1, none⟩ = some (.string r1n) ∧ w'.cell? ⟨BxA, 2, none⟩ = some (.string r1d) ∧ w'.cell? ⟨bb, ob + k * 3, none⟩ = some (.bool kg) ∧ w'.cell? ⟨bb, ob + k * 3 + 1, none⟩ = some (.string kn) ∧ w'.cell? ⟨bb, ob + k * 3 + 2, none⟩ = some (.string kd)) (first | (with_reducible exact HP.out _ qBe.out) | (with_reducible exact HP.out _ qBd.out) | (with_reducible exact HP.out _ hRA.out) | (with_reducible exact HP.out _ qBa.out) | (with_reducible exact HP.out _ qB2.out) | (with_reducible exact HP.out _ (qB2.out.alloc qB2.out.size _)) | (with_reducible exact HP.out _ (((qB2.out.setCell qwz.out _).setCell qwz.out _).setCell qwz.out _)) | go_keep)
              (first
                | (go_at_call 22; refine (ka.out _ ?_).mono ?_; (with_reducible exact hEA.out.below qBd.out); rintro e q2 ⟨rfl, hb2⟩; have qx2 := Lib.hid (qxd.out.below hb2); have qB2 := Lib.hid (qBd.out.trans (hb2.mono qBd.out.size)); have qC2 := Lib.hid (qCd.out.trans (hb2.mono qCd.out.size)); obtain ⟨y1, y2, y3, y4, y5, y6⟩ := qx2.out.facts; have y7 := qx2.out.lt; clear hb2)
                | (go_at_call 22; refine (ka.out _ ?_).mono ?_; (with_reducible exact hEA.out.below qBe.out); rintro e q2 ⟨rfl, hb2⟩; have qB2 := Lib.hid (qBe.out.trans (hb2.mono qBe.out.size)); have qC2 := Lib.hid (qCe.out.trans (hb2.mono qCe.out.size)); clear hb2))
            all_goals (
              first
                | (obtain ⟨wB, hw3⟩ : ∃ W, W = q2.alloc (.cells #[.bool r2g, .string r2n, .string r2d] 31) := ⟨_, rfl⟩; rw [← hw3]; obtain ⟨BxB, hBx⟩ : ∃ b, b = q2.heap.size := ⟨_, rfl⟩; rw [← hBx]; have hxB : Hid (B3 wB BxB r2g r2n r2d) := (by rw [hw3, hBx]; exact B3.new q2 _ _ _); have hBB : Hid (Below wA.heap.size wA wB) := (by rw [hw3]; exact qB2.out.alloc qB2.out.size _); have hCB : Hid (Below wA.heap.size wA wB) := (by rw [hw3]; exact qC2.out.alloc qC2.out.size _); clear hBx)
                | (obtain ⟨wB, hw3⟩ : ∃ W, W = ((q2.setCell ⟨wA.heap.size, 0, none⟩ (.bool r2g)).setCell ⟨wA.heap.size, 1, none⟩ (.string r2n)).setCell ⟨wA.heap.size, 2, none⟩ (.string r2d) := ⟨_, rfl⟩; rw [← hw3]; obtain ⟨BxB, hBx⟩ : ∃ b, b = wA.heap.size := ⟨_, rfl⟩; rw [← hBx]; have hxB : Hid (B3 wB BxB r2g r2n r2d) := (by rw [hw3, hBx]; exact ((qx2.out.set0 r2g).set1 r2n).set2 r2d); have hBB : Hid (Below wA.heap.size wA wB) := (by rw [hw3]; exact ((qB2.out.setCell qwz.out _).setCell qwz.out _).setCell qwz.out _); have hCB : Hid (Below wA.heap.size wA wB) := (by rw [hw3]; exact ((qC2.out.setCell (Nat.le_refl _) _).setCell (Nat.le_refl _) _).setCell (Nat.le_refl _) _); clear hBx qx2 y1 y2 y3 y4 y5 y6 y7)
              clear hw3 qB2 qC2 qBe qBd qBa qCe qCd qxd qwz HP p1 p2 p3 p4 p5 p6 ka xl hRA
              have hBq := Lib.hid (hBA.out.trans (hBB.out.mono hBA.out.size))
              have hCq := Lib.hid (hCA.out.trans (hBB.out.mono hCA.out.size))
              obtain ⟨z1, z2, z3, z4, z5, z6⟩ := hxB.out.facts
              have z7 := hxB.out.lt
              clear hxA hxB hBA hBB hCA hCB hCq hEA HO19
              go_wp2
              go_ret
              exact ⟨rfl, hB0.out.trans (hBq.out.mono hB0.out.size)⟩
              ))
      · as_aux_lemma =>
          skip
          have qBa : Hid (Below W0.heap.size W0 (wr.alloc (.cells #[.bool false, .string ⟨#[]⟩, .string ⟨#[]⟩] 31))) := hB.out.alloc hB.out.size _
          have qBd : Hid (Below W0.heap.size W0 (wr.alloc (.cells #[.bool false, .string ⟨#[]⟩, .string ⟨#[]⟩] 31)).drew) := qBa.out.drew
          have qBe : Hid (Below W0.heap.size W0 wr.drew) := hB.out.drew
          have qCd : Hid (Below wr.heap.size wr (wr.alloc (.cells #[.bool false, .string ⟨#[]⟩, .string ⟨#[]⟩] 31)).drew) := ((Below.refl _ wr).alloc (Nat.le_refl _) _).drew
          have qCe : Hid (Below wr.heap.size wr wr.drew) := (Below.refl _ wr).drew
          have qxd : Hid (B3 (wr.alloc (.cells #[.bool false, .string ⟨#[]⟩, .string ⟨#[]⟩] 31)).drew wr.heap.size false ⟨#[]⟩ ⟨#[]⟩) := B3.new wr _ _ _
          have qwz : Hid (W0.heap.size ≤ wr.heap.size) := hB.out.size
          go_wp2_with fail
          go_region_held3 (fun w' => w'.cell? ⟨bb, ob + i * 3, none⟩ = some (.bool xg) ∧ w'.cell? ⟨bb, ob + i * 3 + 1, none⟩ = some (.string xn) ∧ w'.cell? ⟨bb, ob + i * 3 + 2, none⟩ = some (.string xd) ∧ w'.cell? ⟨w.heap.size, 0, none⟩ = some (.bool g0) ∧ w'.cell? ⟨w.heap.size, 1, none⟩ = some (.string nn0) ∧ w'.cell? ⟨w.heap.size, 2, none⟩ = some (.string dd0)) (first | (with_reducible exact HO18.out _ qBe.out) | (with_reducible exact HO18.out _ qBd.out) | (with_reducible exact HO18.out _ hB.out) | (with_reducible exact HO18.out _ qBa.out) | (with_reducible exact HO18.out _ qB2.out) | (with_reducible exact HO18.out _ (qB2.out.alloc qB2.out.size _)) | (with_reducible exact HO18.out _ (((qB2.out.setCell qwz.out _).setCell qwz.out _).setCell qwz.out _)) | go_keep)
            (first
              | (go_at_call 21; refine (km.out _ ?_).mono ?_; (with_reducible exact hE0.out.below qBd.out); rintro e q2 ⟨rfl, hb2⟩; have qx2 := Lib.hid (qxd.out.below hb2); have qB2 := Lib.hid (qBd.out.trans (hb2.mono qBd.out.size)); have qC2 := Lib.hid (qCd.out.trans (hb2.mono qCd.out.size)); obtain ⟨y1, y2, y3, y4, y5, y6⟩ := qx2.out.facts; have y7 := qx2.out.lt; clear hb2)
              | (go_at_call 21; refine (km.out _ ?_).mono ?_; (with_reducible exact hE0.out.below qBe.out); rintro e q2 ⟨rfl, hb2⟩; have qB2 := Lib.hid (qBe.out.trans (hb2.mono qBe.out.size)); have qC2 := Lib.hid (qCe.out.trans (hb2.mono qCe.out.size)); clear hb2))
          all_goals (
            first
              | (obtain ⟨wA, hw3⟩ : ∃ W, W = q2.alloc (.cells #[.bool r1g, .string r1n, .string r1d] 31) := ⟨_, rfl⟩; rw [← hw3]; obtain ⟨BxA, hBx⟩ : ∃ b, b = q2.heap.size := ⟨_, rfl⟩; rw [← hBx]; have hxA : Hid (B3 wA BxA r1g r1n r1d) := (by rw [hw3, hBx]; exact B3.new q2 _ _ _); have hBA : Hid (Below W0.heap.size W0 wA) := (by rw [hw3]; exact qB2.out.alloc qB2.out.size _); have hCA : Hid (Below wr.heap.size wr wA) := (by rw [hw3]; exact qC2.out.alloc qC2.out.size _); clear hBx)
              | (obtain ⟨wA, hw3⟩ : ∃ W, W = ((q2.setCell ⟨wr.heap.size, 0, none⟩ (.bool r1g)).setCell ⟨wr.heap.size, 1, none⟩ (.string r1n)).setCell ⟨wr.heap.size, 2, none⟩ (.string r1d) := ⟨_, rfl⟩; rw [← hw3]; obtain ⟨BxA, hBx⟩ : ∃ b, b = wr.heap.size := ⟨_, rfl⟩; rw [← hBx]; have hxA : Hid (B3 wA BxA r1g r1n r1d) := (by rw [hw3, hBx]; exact ((qx2.out.set0 r1g).set1 r1n).set2 r1d); have hBA : Hid (Below W0.heap.size W0 wA) := (by rw [hw3]; exact ((qB2.out.setCell qwz.out _).setCell qwz.out _).setCell qwz.out _); have hCA : Hid (Below wr.heap.size wr wA) := (by rw [hw3]; exact ((qC2.out.setCell (Nat.le_refl _) _).setCell (Nat.le_refl _) _).setCell (Nat.le_refl _) _); clear hBx qx2 y1 y2 y3 y4 y5 y6 y7)
            clear hw3 qB2 qC2 qBe qBd qBa qCe qCd qxd qwz HO18 p1 p2 p3 p4 p5 p6 km
            have hEA := Lib.hid (hE0.out.below hBA.out)
            have HP : Hid (∀ W, Below wA.heap.size wA W → W.cell? ⟨BxA, 0, none⟩ = some (.bool r1g) ∧ W.cell? ⟨BxA, 1, none⟩ = some (.string r1n) ∧ W.cell? ⟨BxA, 2, none⟩ = some (.string r1d) ∧ W.cell? ⟨bb, ob + k * 3, none⟩ = some (.bool kg) ∧ W.cell? ⟨bb, ob + k * 3 + 1, none⟩ = some (.string kn) ∧ W.cell? ⟨bb, ob + k * 3 + 2, none⟩ = some (.string kd)) := fun W h => by
              obtain ⟨u1, u2, u3, _, _, _⟩ := (hxA.out.below h).facts
              exact ⟨u1, u2, u3, HO19.out W (hBA.out.trans (h.mono hBA.out.size))⟩
            have hRA := Lib.hid (Below.refl wA.heap.size wA)
            obtain ⟨p1, p2, p3, p4, p5, p6⟩ := HP.out _ hRA.out
            have xl := hxA.out.lt
            have qBa : Hid (Below wA.heap.size wA (wA.alloc (.cells #[.bool false, .string ⟨#[]⟩, .string ⟨#[]⟩] 31))) := hRA.out.alloc hRA.out.size _
            have qBd : Hid (Below wA.heap.size wA (wA.alloc (.cells #[.bool false, .string ⟨#[]⟩, .string ⟨#[]⟩] 31)).drew) := qBa.out.drew
            have qBe : Hid (Below wA.heap.size wA wA.drew) := hRA.out.drew
            have qCd : Hid (Below wA.heap.size wA (wA.alloc (.cells #[.bool false, .string ⟨#[]⟩, .string ⟨#[]⟩] 31)).drew) := ((Below.refl _ wA).alloc (Nat.le_refl _) _).drew
            have qCe : Hid (Below wA.heap.size wA wA.drew) := (Below.refl _ wA).drew
            have qxd : Hid (B3 (wA.alloc (.cells #[.bool false, .string ⟨#[]⟩, .string ⟨#[]⟩] 31)).drew wA.heap.size false ⟨#[]⟩ ⟨#[]⟩) := B3.new wA _ _ _
            have qwz : Hid (wA.heap.size ≤ wA.heap.size) := hRA.out.size
            go_wp2_with fail
            go_region_held3 (fun w' => w'.cell? ⟨BxA, 0, none⟩ = some (.bool r1g) ∧ w'.cell? ⟨BxA, 1, none⟩ = some (.string r1n) ∧ w'.cell? ⟨BxA, 2, none⟩ = some (.string r1d) ∧ w'.cell? ⟨bb, ob + k * 3, none⟩ = some (.bool kg) ∧ w'.cell? ⟨bb, ob + k * 3 + 1, none⟩ = some (.string kn) ∧ w'.cell? ⟨bb, ob + k * 3 + 2, none⟩ = some (.string kd)) (first | (with_reducible exact HP.out _ qBe.out) | (with_reducible exact HP.out _ qBd.out) | (with_reducible exact HP.out _ hRA.out) | (with_reducible exact HP.out _ qBa.out) | (with_reducible exact HP.out _ qB2.out) | (with_reducible exact HP.out _ (qB2.out.alloc qB2.out.size _)) | (with_reducible exact HP.out _ (((qB2.out.setCell qwz.out _).setCell qwz.out _).setCell qwz.out _)) | go_keep)
              (first
                | (go_at_call 22; refine (ka.out _ ?_).mono ?_; (with_reducible exact hEA.out.below qBd.out); rintro e q2 ⟨rfl, hb2⟩; have qx2 := Lib.hid (qxd.out.below hb2); have qB2 := Lib.hid (qBd.out.trans (hb2.mono qBd.out.size)); have qC2 := Lib.hid (qCd.out.trans (hb2.mono qCd.out.size)); obtain ⟨y1, y2, y3, y4, y5, y6⟩ := qx2.out.facts; have y7 := qx2.out.lt; clear hb2)
                | (go_at_call 22; refine (ka.out _ ?_).mono ?_; (with_reducible exact hEA.out.below qBe.out); rintro e q2 ⟨rfl, hb2⟩; have qB2 := Lib.hid (qBe.out.trans (hb2.mono qBe.out.size)); have qC2 := Lib.hid (qCe.out.trans (hb2.mono qCe.out.size)); clear hb2))
            all_goals (
              first
                | (obtain ⟨wB, hw3⟩ : ∃ W, W = q2.alloc (.cells #[.bool r2g, .string r2n, .string r2d] 31) := ⟨_, rfl⟩; rw [← hw3]; obtain ⟨BxB, hBx⟩ : ∃ b, b = q2.heap.size := ⟨_, rfl⟩; rw [← hBx]; have hxB : Hid (B3 wB BxB r2g r2n r2d) := (by rw [hw3, hBx]; exact B3.new q2 _ _ _); have hBB : Hid (Below wA.heap.size wA wB) := (by rw [hw3]; exact qB2.out.alloc qB2.out.size _); have hCB : Hid (Below wA.heap.size wA wB) := (by rw [hw3]; exact qC2.out.alloc qC2.out.size _); clear hBx)
                | (obtain ⟨wB, hw3⟩ : ∃ W, W = ((q2.setCell ⟨wA.heap.size, 0, none⟩ (.bool r2g)).setCell ⟨wA.heap.size, 1, none⟩ (.string r2n)).setCell ⟨wA.heap.size, 2, none⟩ (.string r2d) := ⟨_, rfl⟩; rw [← hw3]; obtain ⟨BxB, hBx⟩ : ∃ b, b = wA.heap.size := ⟨_, rfl⟩; rw [← hBx]; have hxB : Hid (B3 wB BxB r2g r2n r2d) := (by rw [hw3, hBx]; exact ((qx2.out.set0 r2g).set1 r2n).set2 r2d); have hBB : Hid (Below wA.heap.size wA wB) := (by rw [hw3]; exact ((qB2.out.setCell qwz.out _).setCell qwz.out _).setCell qwz.out _); have hCB : Hid (Below wA.heap.size wA wB) := (by rw [hw3]; exact ((qC2.out.setCell (Nat.le_refl _) _).setCell (Nat.le_refl _) _).setCell (Nat.le_refl _) _); clear hBx qx2 y1 y2 y3 y4 y5 y6 y7)
              clear hw3 qB2 qC2 qBe qBd qBa qCe qCd qxd qwz HP p1 p2 p3 p4 p5 p6 ka xl hRA
              have hBq := Lib.hid (hBA.out.trans (hBB.out.mono hBA.out.size))
              have hCq := Lib.hid (hCA.out.trans (hBB.out.mono hCA.out.size))
              obtain ⟨z1, z2, z3, z4, z5, z6⟩ := hxB.out.facts
              have z7 := hxB.out.lt
              clear hxA hxB hBA hBB hCA hCB hCq hEA HO19
              go_wp2
              go_ret
              exact ⟨rfl, hB0.out.trans (hBq.out.mono hB0.out.size)⟩
              ))
      · as_aux_lemma =>
          skip
          have qBa : Hid (Below W0.heap.size W0 (wr.alloc (.cells #[.bool false, .string ⟨#[]⟩, .string ⟨#[]⟩] 31))) := hB.out.alloc hB.out.size _
          have qBd : Hid (Below W0.heap.size W0 (wr.alloc (.cells #[.bool false, .string ⟨#[]⟩, .string ⟨#[]⟩] 31)).drew) := qBa.out.drew
          have qBe : Hid (Below W0.heap.size W0 wr.drew) := hB.out.drew
          have qCd : Hid (Below wr.heap.size wr (wr.alloc (.cells #[.bool false, .string ⟨#[]⟩, .string ⟨#[]⟩] 31)).drew) := ((Below.refl _ wr).alloc (Nat.le_refl _) _).drew
          have qCe : Hid (Below wr.heap.size wr wr.drew) := (Below.refl _ wr).drew
          have qxd : Hid (B3 (wr.alloc (.cells #[.bool false, .string ⟨#[]⟩, .string ⟨#[]⟩] 31)).drew wr.heap.size false ⟨#[]⟩ ⟨#[]⟩) := B3.new wr _ _ _
          have qwz : Hid (W0.heap.size ≤ wr.heap.size) := hB.out.size
          go_wp2_with fail
          go_region_held3 (fun w' => w'.cell? ⟨bb, ob + i * 3, none⟩ = some (.bool xg) ∧ w'.cell? ⟨bb, ob + i * 3 + 1, none⟩ = some (.string xn) ∧ w'.cell? ⟨bb, ob + i * 3 + 2, none⟩ = some (.string xd) ∧ w'.cell? ⟨w.heap.size, 0, none⟩ = some (.bool g0) ∧ w'.cell? ⟨w.heap.size, 1, none⟩ = some (.string nn0) ∧ w'.cell? ⟨w.heap.size, 2, none⟩ = some (.string dd0)) (first | (with_reducible exact HO18.out _ qBe.out) | (with_reducible exact HO18.out _ qBd.out) | (with_reducible exact HO18.out _ hB.out) | (with_reducible exact HO18.out _ qBa.out) | (with_reducible exact HO18.out _ qB2.out) | (with_reducible exact HO18.out _ (qB2.out.alloc qB2.out.size _)) | (with_reducible exact HO18.out _ (((qB2.out.setCell qwz.out _).setCell qwz.out _).setCell qwz.out _)) | go_keep)
            (first
              | (go_at_call 21; refine (km.out _ ?_).mono ?_; (with_reducible exact hE0.out.below qBd.out); rintro e q2 ⟨rfl, hb2⟩; have qx2 := Lib.hid (qxd.out.below hb2); have qB2 := Lib.hid (qBd.out.trans (hb2.mono qBd.out.size)); have qC2 := Lib.hid (qCd.out.trans (hb2.mono qCd.out.size)); obtain ⟨y1, y2, y3, y4, y5, y6⟩ := qx2.out.facts; have y7 := qx2.out.lt; clear hb2)
              | (go_at_call 21; refine (km.out _ ?_).mono ?_; (with_reducible exact hE0.out.below qBe.out); rintro e q2 ⟨rfl, hb2⟩; have qB2 := Lib.hid (qBe.out.trans (hb2.mono qBe.out.size)); have qC2 := Lib.hid (qCe.out.trans (hb2.mono qCe.out.size)); clear hb2))
          all_goals (
            first
              | (obtain ⟨wA, hw3⟩ : ∃ W, W = q2.alloc (.cells #[.bool r1g, .string r1n, .string r1d] 31) := ⟨_, rfl⟩; rw [← hw3]; obtain ⟨BxA, hBx⟩ : ∃ b, b = q2.heap.size := ⟨_, rfl⟩; rw [← hBx]; have hxA : Hid (B3 wA BxA r1g r1n r1d) := (by rw [hw3, hBx]; exact B3.new q2 _ _ _); have hBA : Hid (Below W0.heap.size W0 wA) := (by rw [hw3]; exact qB2.out.alloc qB2.out.size _); have hCA : Hid (Below wr.heap.size wr wA) := (by rw [hw3]; exact qC2.out.alloc qC2.out.size _); clear hBx)
              | (obtain ⟨wA, hw3⟩ : ∃ W, W = ((q2.setCell ⟨wr.heap.size, 0, none⟩ (.bool r1g)).setCell ⟨wr.heap.size, 1, none⟩ (.string r1n)).setCell ⟨wr.heap.size, 2, none⟩ (.string r1d) := ⟨_, rfl⟩; rw [← hw3]; obtain ⟨BxA, hBx⟩ : ∃ b, b = wr.heap.size := ⟨_, rfl⟩; rw [← hBx]; have hxA : Hid (B3 wA BxA r1g r1n r1d) := (by rw [hw3, hBx]; exact ((qx2.out.set0 r1g).set1 r1n).set2 r1d); have hBA : Hid (Below W0.heap.size W0 wA) := (by rw [hw3]; exact ((qB2.out.setCell qwz.out _).setCell qwz.out _).setCell qwz.out _); have hCA : Hid (Below wr.heap.size wr wA) := (by rw [hw3]; exact ((qC2.out.setCell (Nat.le_refl _) _).setCell (Nat.le_refl _) _).setCell (Nat.le_refl _) _); clear hBx qx2 y1 y2 y3 y4 y5 y6 y7)
            clear hw3 qB2 qC2 qBe qBd qBa qCe qCd qxd qwz HO18 p1 p2 p3 p4 p5 p6 km
            have hEA := Lib.hid (hE0.out.below hBA.out)
            have HP : Hid (∀ W, Below wA.heap.size wA W → W.cell? ⟨BxA, 0, none⟩ = some (.bool r1g) ∧ W.cell? ⟨BxA, 1, none⟩ = some (.string r1n) ∧ W.cell? ⟨BxA, 2, none⟩ = some (.string r1d) ∧ W.cell? ⟨bb, ob + k * 3, none⟩ = some (.bool kg) ∧ W.cell? ⟨bb, ob + k * 3 + 1, none⟩ = some (.string kn) ∧ W.cell? ⟨bb, ob + k * 3 + 2, none⟩ = some (.string kd)) := fun W h => by
              obtain ⟨u1, u2, u3, _, _, _⟩ := (hxA.out.below h).facts
              exact ⟨u1, u2, u3, HO19.out W (hBA.out.trans (h.mono hBA.out.size))⟩
            have hRA := Lib.hid (Below.refl wA.heap.size wA)
            obtain ⟨p1, p2, p3, p4, p5, p6⟩ := HP.out _ hRA.out
            have xl := hxA.out.lt
            have qBa : Hid (Below wA.heap.size wA (wA.alloc (.cells #[.bool false, .string ⟨#[]⟩, .string ⟨#[]⟩] 31))) := hRA.out.alloc hRA.out.size _
            have qBd : Hid (Below wA.heap.size wA (wA.alloc (.cells #[.bool false, .string ⟨#[]⟩, .string ⟨#[]⟩] 31)).drew) := qBa.out.drew
            have qBe : Hid (Below wA.heap.size wA wA.drew) := hRA.out.drew
            have qCd : Hid (Below wA.heap.size wA (wA.alloc (.cells #[.bool false, .string ⟨#[]⟩, .string ⟨#[]⟩] 31)).drew) := ((Below.refl _ wA).alloc (Nat.le_refl _) _).drew
            have qCe : Hid (Below wA.heap.size wA wA.drew) := (Below.refl _ wA).drew
            have qxd : Hid (B3 (wA.alloc (.cells #[.bool false, .string ⟨#[]⟩, .string ⟨#[]⟩] 31)).drew wA.heap.size false ⟨#[]⟩ ⟨#[]⟩) := B3.new wA _ _ _
            have qwz : Hid (wA.heap.size ≤ wA.heap.size) := hRA.out.size
            go_wp2_with fail
            go_region_held3 (fun w' => w'.cell? ⟨BxA, 0, none⟩ = some (.bool r1g) ∧ w'.cell? ⟨BxA, 1, none⟩ = some (.string r1n) ∧ w'.cell? ⟨BxA, 2, none⟩ = some (.string r1d) ∧ w'.cell? ⟨bb, ob + k * 3, none⟩ = some (.bool kg) ∧ w'.cell? ⟨bb, ob + k * 3 + 1, none⟩ = some (.string kn) ∧ w'.cell? ⟨bb, ob + k * 3 + 2, none⟩ = some (.string kd)) (first | (with_reducible exact HP.out _ qBe.out) | (with_reducible exact HP.out _ qBd.out) | (with_reducible exact HP.out _ hRA.out) | (with_reducible exact HP.out _ qBa.out) | (with_reducible exact HP.out _ qB2.out) | (with_reducible exact HP.out _ (qB2.out.alloc qB2.out.size _)) | (with_reducible exact HP.out _ (((qB2.out.setCell qwz.out _).setCell qwz.out _).setCell qwz.out _)) | go_keep)
              (first
                | (go_at_call 22; refine (ka.out _ ?_).mono ?_; (with_reducible exact hEA.out.below qBd.out); rintro e q2 ⟨rfl, hb2⟩; have qx2 := Lib.hid (qxd.out.below hb2); have qB2 := Lib.hid (qBd.out.trans (hb2.mono qBd.out.size)); have qC2 := Lib.hid (qCd.out.trans (hb2.mono qCd.out.size)); obtain ⟨y1, y2, y3, y4, y5, y6⟩ := qx2.out.facts; have y7 := qx2.out.lt; clear hb2)
                | (go_at_call 22; refine (ka.out _ ?_).mono ?_; (with_reducible exact hEA.out.below qBe.out); rintro e q2 ⟨rfl, hb2⟩; have qB2 := Lib.hid (qBe.out.trans (hb2.mono qBe.out.size)); have qC2 := Lib.hid (qCe.out.trans (hb2.mono qCe.out.size)); clear hb2))
            all_goals (
              first
                | (obtain ⟨wB, hw3⟩ : ∃ W, W = q2.alloc (.cells #[.bool r2g, .string r2n, .string r2d] 31) := ⟨_, rfl⟩; rw [← hw3]; obtain ⟨BxB, hBx⟩ : ∃ b, b = q2.heap.size := ⟨_, rfl⟩; rw [← hBx]; have hxB : Hid (B3 wB BxB r2g r2n r2d) := (by rw [hw3, hBx]; exact B3.new q2 _ _ _); have hBB : Hid (Below wA.heap.size wA wB) := (by rw [hw3]; exact qB2.out.alloc qB2.out.size _); have hCB : Hid (Below wA.heap.size wA wB) := (by rw [hw3]; exact qC2.out.alloc qC2.out.size _); clear hBx)
                | (obtain ⟨wB, hw3⟩ : ∃ W, W = ((q2.setCell ⟨wA.heap.size, 0, none⟩ (.bool r2g)).setCell ⟨wA.heap.size, 1, none⟩ (.string r2n)).setCell ⟨wA.heap.size, 2, none⟩ (.string r2d) := ⟨_, rfl⟩; rw [← hw3]; obtain ⟨BxB, hBx⟩ : ∃ b, b = wA.heap.size := ⟨_, rfl⟩; rw [← hBx]; have hxB : Hid (B3 wB BxB r2g r2n r2d) := (by rw [hw3, hBx]; exact ((qx2.out.set0 r2g).set1 r2n).set2 r2d); have hBB : Hid (Below wA.heap.size wA wB) := (by rw [hw3]; exact ((qB2.out.setCell qwz.out _).setCell qwz.out _).setCell qwz.out _); have hCB : Hid (Below wA.heap.size wA wB) := (by rw [hw3]; exact ((qC2.out.setCell (Nat.le_refl _) _).setCell (Nat.le_refl _) _).setCell (Nat.le_refl _) _); clear hBx qx2 y1 y2 y3 y4 y5 y6 y7)
              clear hw3 qB2 qC2 qBe qBd qBa qCe qCd qxd qwz HP p1 p2 p3 p4 p5 p6 ka xl hRA
              have hBq := Lib.hid (hBA.out.trans (hBB.out.mono hBA.out.size))
              have hCq := Lib.hid (hCA.out.trans (hBB.out.mono hCA.out.size))
              obtain ⟨z1, z2, z3, z4, z5, z6⟩ := hxB.out.facts
              have z7 := hxB.out.lt
              clear hxA hxB hBA hBB hCA hCB hCq hEA HO19
              go_wp2
              go_ret
              exact ⟨rfl, hB0.out.trans (hBq.out.mono hB0.out.size)⟩
              ))
end Nt
end Go.Proofs.YtjjlnahipiinfaaGreatDoor

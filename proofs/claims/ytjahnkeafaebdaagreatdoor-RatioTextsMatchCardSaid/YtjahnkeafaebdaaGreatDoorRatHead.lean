/- The statements' non-vacuity check: the chapter's examples. -/
import Derived.Test.YtjahnkeafaebdaaGreatDoorRatText
import Derived.Test.YtjahnkeafaebdaaGreatDoorRatFloor
namespace Go.Proofs.YtjahnkeafaebdaaGreatDoor
open Go.RowKit Go.Shelf
namespace Nt

theorem qv_lit (q : Rat) (g : Bool) (a b : Nat) (l m : List UInt8) (h1 : q.num = sg g a) (h2 : decide (q.num < 0) = g) (h3 : q.den = b) (hl : isNL l = true) (hv : dval l = a) (hm : isNL m = true) (hw : dval m = b) :
    qv q = .agg #[.bool g, .string ⟨l.toArray⟩, .string ⟨m.toArray⟩] := by
  unfold qv
  rw [h2, h3, h1, sg_natAbs]
  show Value.agg #[.bool g, .string (num a), .string (num b)] = _
  rw [num_lit l a hl hv, num_lit m b hm hw]

set_option maxRecDepth 100000 in
theorem ofc_w (m n : Int) (r : Bool) (x y : ByteArray) (w : World) (hE : Env w)
    (hc : ∀ W, Env W → Calls Tryz.prog 11 #[.int .i64 m, .int .i64 n] W fun e w' => e = .returned (.tuple #[.agg #[.bool r, .string x, .string y], .int .i64 0]) ∧ Below W.heap.size W w') :
    Calls Tryz.prog 15 #[.int .i64 m, .int .i64 n] w fun e w' => e = .returned (.agg #[.bool r, .string x, .string y]) ∧ Below w.heap.size w w' := by
  replace hE := Lib.hid hE
  replace hc := Lib.hid hc
  go_enter Tryz.func15, Tryz.ntmps15
  go_wp2_with fail
  refine (hc.out _ (hE.out.below (one_below _ _))).mono ?_
  rintro e w1 ⟨rfl, hb1⟩
  have q1 := (B3.new w false ⟨#[]⟩ ⟨#[]⟩).below hb1
  have hB1 := Lib.hid ((one_below w (.cells #[.bool false, .string ⟨#[]⟩, .string ⟨#[]⟩] 23)).trans (hb1.mono (by simp)))
  obtain ⟨a1, a2, a3, a4, a5, a6⟩ := q1.facts
  have hz := q1.lt
  clear hb1
  replace q1 := Lib.hid q1
  go_wp2
  refine bodyPost_ret (v := .agg #[.bool r, .string x, .string y]) (by simp [results, Tryz.results15, go_sem, hz, a1, a2, a3]) rfl ⟨rfl, ?_⟩
  refine Below.alloc ?_ (by simpa using hB1.out.size) _
  repeat refine Below.setCell ?_ (by simp only []; omega) _
  exact hB1.out

/-- of, where the denominator is not 0. -/
theorem ofc_any (m n : Int) (hm0 : -9223372036854775808 ≤ m) (hm1 : m ≤ 9223372036854775807) (hn0 : -9223372036854775808 ≤ n) (hn1 : n ≤ 9223372036854775807) (h0 : n ≠ 0) (w : World) (hE : Env w) :
    Calls Tryz.prog 15 #[.int .i64 m, .int .i64 n] w fun e w' => e = .returned (qv (ofQ m n)) ∧ Below w.heap.size w w' :=
  ofc_w m n _ _ _ w hE fun W hW => RatOf_any m n hm0 hm1 hn0 hn1 h0 W hW

theorem short_lit {q : Rat} (h : q.num.natAbs ≤ 1000 ∧ q.den ≤ 1000) : ShortQ q := by
  have h2 : 10 ^ 4 ≤ L1 := Nat.pow_le_pow_right (by omega) (by rw [mx1_eq]; omega)
  exact ⟨by omega, by omega⟩
theorem of0_lit : qv (ofQ 6 (-4)) = .agg #[.bool true, .string ⟨#[51]⟩, .string ⟨#[50]⟩] := qv_lit _ true 3 2 [51] [50] (by decide +kernel) (by decide +kernel) (by decide +kernel) (by decide) (by decide) (by decide) (by decide)
theorem of0_short : ShortQ (ofQ 6 (-4)) := short_lit (by decide +kernel)
theorem of0_call (w : World) (hE : Env w) : Calls Tryz.prog 11 #[.int .i64 6, .int .i64 (-4)] w fun e w' => e = .returned (.tuple #[.agg #[.bool true, .string ⟨#[51]⟩, .string ⟨#[50]⟩], .int .i64 0]) ∧ Below w.heap.size w w' := by
  have h := RatOf_any 6 (-4) (by omega) (by omega) (by omega) (by omega) (by omega) w hE
  rwa [of0_lit] at h
theorem of1_lit : qv (ofQ 1 2) = .agg #[.bool false, .string ⟨#[49]⟩, .string ⟨#[50]⟩] := qv_lit _ false 1 2 [49] [50] (by decide +kernel) (by decide +kernel) (by decide +kernel) (by decide) (by decide) (by decide) (by decide)
theorem of1_short : ShortQ (ofQ 1 2) := short_lit (by decide +kernel)
theorem of1_call (w : World) (hE : Env w) : Calls Tryz.prog 15 #[.int .i64 1, .int .i64 2] w fun e w' => e = .returned (.agg #[.bool false, .string ⟨#[49]⟩, .string ⟨#[50]⟩]) ∧ Below w.heap.size w w' := by
  have h := ofc_any 1 2 (by omega) (by omega) (by omega) (by omega) (by omega) w hE
  rwa [of1_lit] at h
theorem of2_lit : qv (ofQ (-1) 2) = .agg #[.bool true, .string ⟨#[49]⟩, .string ⟨#[50]⟩] := qv_lit _ true 1 2 [49] [50] (by decide +kernel) (by decide +kernel) (by decide +kernel) (by decide) (by decide) (by decide) (by decide)
theorem of2_short : ShortQ (ofQ (-1) 2) := short_lit (by decide +kernel)
theorem of2_call (w : World) (hE : Env w) : Calls Tryz.prog 15 #[.int .i64 (-1), .int .i64 2] w fun e w' => e = .returned (.agg #[.bool true, .string ⟨#[49]⟩, .string ⟨#[50]⟩]) ∧ Below w.heap.size w w' := by
  have h := ofc_any (-1) 2 (by omega) (by omega) (by omega) (by omega) (by omega) w hE
  rwa [of2_lit] at h
theorem of3_lit : qv (ofQ 3 4) = .agg #[.bool false, .string ⟨#[51]⟩, .string ⟨#[52]⟩] := qv_lit _ false 3 4 [51] [52] (by decide +kernel) (by decide +kernel) (by decide +kernel) (by decide) (by decide) (by decide) (by decide)
theorem of3_short : ShortQ (ofQ 3 4) := short_lit (by decide +kernel)
theorem of3_call (w : World) (hE : Env w) : Calls Tryz.prog 15 #[.int .i64 3, .int .i64 4] w fun e w' => e = .returned (.agg #[.bool false, .string ⟨#[51]⟩, .string ⟨#[52]⟩]) ∧ Below w.heap.size w w' := by
  have h := ofc_any 3 4 (by omega) (by omega) (by omega) (by omega) (by omega) w hE
  rwa [of3_lit] at h
theorem of4_lit : qv (ofQ (-3) 2) = .agg #[.bool true, .string ⟨#[51]⟩, .string ⟨#[50]⟩] := qv_lit _ true 3 2 [51] [50] (by decide +kernel) (by decide +kernel) (by decide +kernel) (by decide) (by decide) (by decide) (by decide)
theorem of4_short : ShortQ (ofQ (-3) 2) := short_lit (by decide +kernel)
theorem of4_call (w : World) (hE : Env w) : Calls Tryz.prog 15 #[.int .i64 (-3), .int .i64 2] w fun e w' => e = .returned (.agg #[.bool true, .string ⟨#[51]⟩, .string ⟨#[50]⟩]) ∧ Below w.heap.size w w' := by
  have h := ofc_any (-3) 2 (by omega) (by omega) (by omega) (by omega) (by omega) w hE
  rwa [of4_lit] at h
theorem of5_lit : qv (ofQ 5 1) = .agg #[.bool false, .string ⟨#[53]⟩, .string ⟨#[49]⟩] := qv_lit _ false 5 1 [53] [49] (by decide +kernel) (by decide +kernel) (by decide +kernel) (by decide) (by decide) (by decide) (by decide)
theorem of5_short : ShortQ (ofQ 5 1) := short_lit (by decide +kernel)
theorem of5_call (w : World) (hE : Env w) : Calls Tryz.prog 15 #[.int .i64 5, .int .i64 1] w fun e w' => e = .returned (.agg #[.bool false, .string ⟨#[53]⟩, .string ⟨#[49]⟩]) ∧ Below w.heap.size w w' := by
  have h := ofc_any 5 1 (by omega) (by omega) (by omega) (by omega) (by omega) w hE
  rwa [of5_lit] at h
theorem of6_lit : qv (ofQ (-1) 3) = .agg #[.bool true, .string ⟨#[49]⟩, .string ⟨#[51]⟩] := qv_lit _ true 1 3 [49] [51] (by decide +kernel) (by decide +kernel) (by decide +kernel) (by decide) (by decide) (by decide) (by decide)
theorem of6_short : ShortQ (ofQ (-1) 3) := short_lit (by decide +kernel)
theorem of6_call (w : World) (hE : Env w) : Calls Tryz.prog 15 #[.int .i64 (-1), .int .i64 3] w fun e w' => e = .returned (.agg #[.bool true, .string ⟨#[49]⟩, .string ⟨#[51]⟩]) ∧ Below w.heap.size w w' := by
  have h := ofc_any (-1) 3 (by omega) (by omega) (by omega) (by omega) (by omega) w hE
  rwa [of6_lit] at h
theorem hadd_lit : qv (ofQ 1 2 + ofQ (-1) 2) = .agg #[.bool false, .string ⟨#[48]⟩, .string ⟨#[49]⟩] := qv_lit _ false 0 1 [48] [49] (by decide +kernel) (by decide +kernel) (by decide +kernel) (by decide) (by decide) (by decide) (by decide)
theorem hadd_call (w : World) (hE : Env w) : Calls Tryz.prog 18 #[.agg #[.bool false, .string ⟨#[49]⟩, .string ⟨#[50]⟩], .agg #[.bool true, .string ⟨#[49]⟩, .string ⟨#[50]⟩]] w fun e w' => e = .returned (.tuple #[.agg #[.bool false, .string ⟨#[48]⟩, .string ⟨#[49]⟩], .int .i64 0]) ∧ Below w.heap.size w w' := by
  have h := Add_short (ofQ 1 2) (ofQ (-1) 2) of1_short of2_short w hE
  rwa [hadd_lit, of1_lit, of2_lit] at h
theorem hdiv_lit : qv (ofQ 3 4 / ofQ (-1) 2) = .agg #[.bool true, .string ⟨#[51]⟩, .string ⟨#[50]⟩] := qv_lit _ true 3 2 [51] [50] (by decide +kernel) (by decide +kernel) (by decide +kernel) (by decide) (by decide) (by decide) (by decide)
theorem hdiv_call (w : World) (hE : Env w) : Calls Tryz.prog 25 #[.agg #[.bool false, .string ⟨#[51]⟩, .string ⟨#[52]⟩], .agg #[.bool true, .string ⟨#[49]⟩, .string ⟨#[50]⟩]] w fun e w' => e = .returned (.tuple #[.agg #[.bool true, .string ⟨#[51]⟩, .string ⟨#[50]⟩], .int .i64 0]) ∧ Below w.heap.size w w' := by
  have h := Div_short (ofQ 3 4) (ofQ (-1) 2) of3_short of2_short (by decide +kernel) w hE
  rwa [hdiv_lit, of3_lit, of2_lit] at h
theorem hfl1_call (w : World) (hE : Env w) : Calls Tryz.prog 12 #[.agg #[.bool true, .string ⟨#[51]⟩, .string ⟨#[50]⟩]] w fun e w' => e = .returned (.tuple #[.int .i64 (-2), .int .i64 0]) ∧ Below w.heap.size w w' := by
  have h := Floor_any (ofQ (-3) 2) of4_short.ok w hE
  have e1 : floorV (ofQ (-3) 2) = (-2) := by decide +kernel
  have e2 : floorE (ofQ (-3) 2) = 0 := by decide +kernel
  rwa [of4_lit, e1, e2] at h
theorem hfl2_call (w : World) (hE : Env w) : Calls Tryz.prog 12 #[.agg #[.bool false, .string ⟨#[53]⟩, .string ⟨#[49]⟩]] w fun e w' => e = .returned (.tuple #[.int .i64 5, .int .i64 0]) ∧ Below w.heap.size w w' := by
  have h := Floor_any (ofQ 5 1) of5_short.ok w hE
  have e1 : floorV (ofQ 5 1) = 5 := by decide +kernel
  have e2 : floorE (ofQ 5 1) = 0 := by decide +kernel
  rwa [of5_lit, e1, e2] at h
theorem hcmp_call (w : World) (hE : Env w) : Calls Tryz.prog 16 #[.agg #[.bool true, .string ⟨#[49]⟩, .string ⟨#[51]⟩], .agg #[.bool true, .string ⟨#[49]⟩, .string ⟨#[50]⟩]] w fun e w' => e = .returned (.tuple #[.int .i64 1, .int .i64 0]) ∧ Below w.heap.size w w' := by
  have h := Compare_short (ofQ (-1) 3) (ofQ (-1) 2) of6_short of2_short w hE
  have e1 : cmpQ (ofQ (-1) 3) (ofQ (-1) 2) = 1 := by decide +kernel
  rwa [of6_lit, of2_lit, e1] at h
theorem hparse0_call (w : World) (hE : REnv w) : Calls Tryz.prog 30 #[.string ⟨#[54, 47, 52]⟩] w fun e w' => e = .returned (.tuple #[.agg #[.bool false, .string ⟨#[]⟩, .string ⟨#[]⟩], .int .i64 5]) ∧ Below w.heap.size w w' := by
  have h := Parse_any ⟨#[54, 47, 52]⟩ w hE (by decide)
  have e1 : pok ⟨#[54, 47, 52]⟩ = false := by decide +kernel
  rw [e1] at h
  exact h
theorem hparse1_call (w : World) (hE : REnv w) : Calls Tryz.prog 30 #[.string ⟨#[45, 48]⟩] w fun e w' => e = .returned (.tuple #[.agg #[.bool false, .string ⟨#[]⟩, .string ⟨#[]⟩], .int .i64 5]) ∧ Below w.heap.size w w' := by
  have h := Parse_any ⟨#[45, 48]⟩ w hE (by decide)
  have e1 : pok ⟨#[45, 48]⟩ = false := by decide +kernel
  rw [e1] at h
  exact h
theorem hparse2_call (w : World) (hE : REnv w) : Calls Tryz.prog 30 #[.string ⟨#[52, 47, 49]⟩] w fun e w' => e = .returned (.tuple #[.agg #[.bool false, .string ⟨#[]⟩, .string ⟨#[]⟩], .int .i64 5]) ∧ Below w.heap.size w w' := by
  have h := Parse_any ⟨#[52, 47, 49]⟩ w hE (by decide)
  have e1 : pok ⟨#[52, 47, 49]⟩ = false := by decide +kernel
  rw [e1] at h
  exact h

set_option maxHeartbeats 4000000 in
set_option maxRecDepth 100000 in
theorem rhead_any (w : World) (hE : REnv w) :
    Calls Tryz.prog 10 #[] w fun e w' => e = .returned (.bool true) ∧ Below w.heap.size w w' := by
  replace hE := Lib.hid hE
  have hB : Hid (Below w.heap.size w w) := Below.refl _ _
  go_enter Tryz.func10, Tryz.ntmps10
  go_wp2_with fail
  have hBp := hB
  refine (of0_call _ (hE.out.below hBp.out).1).mono ?_
  rintro e w0 ⟨rfl, hb⟩
  replace hB := Lib.hid (hBp.out.trans (hb.mono hBp.out.size))
  clear hb hBp
  go_wp2_with fail
  have hBp : Hid (Below w.heap.size w (w0.alloc (.cells #[.bool true, .string ⟨#[51]⟩, .string ⟨#[50]⟩] 23))) := hB.out.alloc hB.out.size _
  refine (of1_call _ (hE.out.below hBp.out).1).mono ?_
  rintro e w1 ⟨rfl, hb⟩
  have qa := Lib.hid ((B3.new w0 true ⟨#[51]⟩ ⟨#[50]⟩).below hb)
  replace hB := Lib.hid (hBp.out.trans (hb.mono hBp.out.size))
  clear hb hBp
  go_wp2_with fail
  have hBp := hB
  refine (of2_call _ (hE.out.below hBp.out).1).mono ?_
  rintro e w2 ⟨rfl, hb⟩
  replace qa := Lib.hid (qa.out.below hb)
  replace hB := Lib.hid (hBp.out.trans (hb.mono hBp.out.size))
  clear hb hBp
  go_wp2_with fail
  have hBp := hB
  refine (hadd_call _ (hE.out.below hBp.out).1).mono ?_
  rintro e w3 ⟨rfl, hb⟩
  replace qa := Lib.hid (qa.out.below hb)
  replace hB := Lib.hid (hBp.out.trans (hb.mono hBp.out.size))
  clear hb hBp
  go_wp2_with fail
  have hBp : Hid (Below w.heap.size w (w3.alloc (.cells #[.bool false, .string ⟨#[48]⟩, .string ⟨#[49]⟩] 23))) := hB.out.alloc hB.out.size _
  refine (of3_call _ (hE.out.below hBp.out).1).mono ?_
  rintro e w4 ⟨rfl, hb⟩
  replace qa := Lib.hid ((qa.out.alloc _).below hb)
  have qb := Lib.hid ((B3.new w3 false ⟨#[48]⟩ ⟨#[49]⟩).below hb)
  replace hB := Lib.hid (hBp.out.trans (hb.mono hBp.out.size))
  clear hb hBp
  go_wp2_with fail
  have hBp := hB
  refine (of2_call _ (hE.out.below hBp.out).1).mono ?_
  rintro e w5 ⟨rfl, hb⟩
  replace qa := Lib.hid (qa.out.below hb)
  replace qb := Lib.hid (qb.out.below hb)
  replace hB := Lib.hid (hBp.out.trans (hb.mono hBp.out.size))
  clear hb hBp
  go_wp2_with fail
  have hBp := hB
  refine (hdiv_call _ (hE.out.below hBp.out).1).mono ?_
  rintro e w6 ⟨rfl, hb⟩
  replace qa := Lib.hid (qa.out.below hb)
  replace qb := Lib.hid (qb.out.below hb)
  replace hB := Lib.hid (hBp.out.trans (hb.mono hBp.out.size))
  clear hb hBp
  go_wp2_with fail
  have hBp : Hid (Below w.heap.size w (w6.alloc (.cells #[.bool true, .string ⟨#[51]⟩, .string ⟨#[50]⟩] 23))) := hB.out.alloc hB.out.size _
  refine (of4_call _ (hE.out.below hBp.out).1).mono ?_
  rintro e w7 ⟨rfl, hb⟩
  replace qa := Lib.hid ((qa.out.alloc _).below hb)
  replace qb := Lib.hid ((qb.out.alloc _).below hb)
  have qc := Lib.hid ((B3.new w6 true ⟨#[51]⟩ ⟨#[50]⟩).below hb)
  replace hB := Lib.hid (hBp.out.trans (hb.mono hBp.out.size))
  clear hb hBp
  go_wp2_with fail
  have hBp := hB
  refine (hfl1_call _ (hE.out.below hBp.out).1).mono ?_
  rintro e w8 ⟨rfl, hb⟩
  replace qa := Lib.hid (qa.out.below hb)
  replace qb := Lib.hid (qb.out.below hb)
  replace qc := Lib.hid (qc.out.below hb)
  replace hB := Lib.hid (hBp.out.trans (hb.mono hBp.out.size))
  clear hb hBp
  go_wp2_with fail
  have hBp := hB
  refine (of5_call _ (hE.out.below hBp.out).1).mono ?_
  rintro e w9 ⟨rfl, hb⟩
  replace qa := Lib.hid (qa.out.below hb)
  replace qb := Lib.hid (qb.out.below hb)
  replace qc := Lib.hid (qc.out.below hb)
  replace hB := Lib.hid (hBp.out.trans (hb.mono hBp.out.size))
  clear hb hBp
  go_wp2_with fail
  have hBp := hB
  refine (hfl2_call _ (hE.out.below hBp.out).1).mono ?_
  rintro e w10 ⟨rfl, hb⟩
  replace qa := Lib.hid (qa.out.below hb)
  replace qb := Lib.hid (qb.out.below hb)
  replace qc := Lib.hid (qc.out.below hb)
  replace hB := Lib.hid (hBp.out.trans (hb.mono hBp.out.size))
  clear hb hBp
  go_wp2_with fail
  have hBp := hB
  refine (hparse0_call _ (hE.out.below hBp.out)).mono ?_
  rintro e w11 ⟨rfl, hb⟩
  replace qa := Lib.hid (qa.out.below hb)
  replace qb := Lib.hid (qb.out.below hb)
  replace qc := Lib.hid (qc.out.below hb)
  replace hB := Lib.hid (hBp.out.trans (hb.mono hBp.out.size))
  clear hb hBp
  go_wp2_with fail
  have hBp : Hid (Below w.heap.size w (w11.alloc (.cells #[.bool false, .string ⟨#[]⟩, .string ⟨#[]⟩] 23))) := hB.out.alloc hB.out.size _
  refine (hparse1_call _ (hE.out.below hBp.out)).mono ?_
  rintro e w12 ⟨rfl, hb⟩
  replace qa := Lib.hid ((qa.out.alloc _).below hb)
  replace qb := Lib.hid ((qb.out.alloc _).below hb)
  replace qc := Lib.hid ((qc.out.alloc _).below hb)
  replace hB := Lib.hid (hBp.out.trans (hb.mono hBp.out.size))
  clear hb hBp
  go_wp2_with fail
  have hBp : Hid (Below w.heap.size w (w12.alloc (.cells #[.bool false, .string ⟨#[]⟩, .string ⟨#[]⟩] 23))) := hB.out.alloc hB.out.size _
  refine (hparse2_call _ (hE.out.below hBp.out)).mono ?_
  rintro e w13 ⟨rfl, hb⟩
  replace qa := Lib.hid ((qa.out.alloc _).below hb)
  replace qb := Lib.hid ((qb.out.alloc _).below hb)
  replace qc := Lib.hid ((qc.out.alloc _).below hb)
  replace hB := Lib.hid (hBp.out.trans (hb.mono hBp.out.size))
  clear hb hBp
  go_wp2_with fail
  have hBp : Hid (Below w.heap.size w (w13.alloc (.cells #[.bool false, .string ⟨#[]⟩, .string ⟨#[]⟩] 23))) := hB.out.alloc hB.out.size _
  refine (of6_call _ (hE.out.below hBp.out).1).mono ?_
  rintro e w14 ⟨rfl, hb⟩
  replace qa := Lib.hid ((qa.out.alloc _).below hb)
  replace qb := Lib.hid ((qb.out.alloc _).below hb)
  replace qc := Lib.hid ((qc.out.alloc _).below hb)
  replace hB := Lib.hid (hBp.out.trans (hb.mono hBp.out.size))
  clear hb hBp
  go_wp2_with fail
  have hBp := hB
  refine (of2_call _ (hE.out.below hBp.out).1).mono ?_
  rintro e w15 ⟨rfl, hb⟩
  replace qa := Lib.hid (qa.out.below hb)
  replace qb := Lib.hid (qb.out.below hb)
  replace qc := Lib.hid (qc.out.below hb)
  replace hB := Lib.hid (hBp.out.trans (hb.mono hBp.out.size))
  clear hb hBp
  go_wp2_with fail
  have hBp := hB
  refine (hcmp_call _ (hE.out.below hBp.out).1).mono ?_
  rintro e w16 ⟨rfl, hb⟩
  replace qa := Lib.hid (qa.out.below hb)
  replace qb := Lib.hid (qb.out.below hb)
  replace qc := Lib.hid (qc.out.below hb)
  replace hB := Lib.hid (hBp.out.trans (hb.mono hBp.out.size))
  clear hb hBp
  obtain ⟨a1, a2, a3, a4, a5, a6⟩ := qa.out.facts
  obtain ⟨b1, b2, b3, b4, b5, b6⟩ := qb.out.facts
  obtain ⟨c1, c2, c3, c4, c5, c6⟩ := qc.out.facts
  go_wp2
  go_ret
  exact ⟨rfl, hB.out⟩

end Nt
end Go.Proofs.YtjahnkeafaebdaaGreatDoor


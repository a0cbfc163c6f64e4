/- RatioValid: walks. -/
import Derived.Test.YtjahnkeafaebdaaGreatDoorLawRValidS
namespace Go.Proofs.YtjahnkeafaebdaaGreatDoor
open Go.RowKit Go.Shelf
namespace Nt

set_option maxRecDepth 100000 in
set_option maxHeartbeats 4000000 in
theorem rvalid_sub_a (g1 g2 : Bool) (n1 d1 n2 d2 : ByteArray) (raw : Int)  (hr0 : 0 ≤ raw) (hr1 : raw ≤ 255) (hrk : raw % 4 = 1) (hs : shortB 160 [(n1, d1), (n2, d2)] = true) (sn1 : n1.size ≤ 160) (sd1 : d1.size ≤ 160) (_sn2 : n2.size ≤ 160) (_sd2 : d2.size ≤ 160) (va : validB g1 n1 d1 = false) (w : World) (hE : REnv w)
    (hf : ∀ W, Env W → Calls Tryz.prog 21 #[.agg #[.bool g1, .string n1, .string d1], .agg #[.bool g2, .string n2, .string d2]] W fun e w' => e = .returned (.tuple #[.agg #[.bool false, .string ⟨#[]⟩, .string ⟨#[]⟩], .int .i64 1]) ∧ Below W.heap.size W w') :
    Calls Tryz.prog 7 #[.agg #[.bool g1, .string n1, .string d1], .agg #[.bool g2, .string n2, .string d2], .int .u8 raw] w fun e w' => e = .returned (.bool true) ∧ Below w.heap.size w w' := by
  replace hE := Lib.hid hE
  replace hs := Lib.hid hs
  replace hf := Lib.hid hf
  have kva := fun W (h : Env W) => Valid_any g1 n1 d1 W h (by omega) (by omega)
  rw [va] at kva
  clear va
  replace kva := Lib.hid kva
  have hmod : raw.tmod 4 = 1 := by rw [Int.tmod_eq_emod_of_nonneg hr0]; exact hrk
  have hwr : IntKind.i64.wrap raw = raw := IntWalk.i64_in _ (by omega)
  replace hrk := Lib.hid hrk
  replace hmod := Lib.hid hmod
  replace hwr := Lib.hid hwr
  go_enter Tryz.func7, Tryz.ntmps7
  go_wp2_with fail
  refine (rhead_any _ (hE.out.below (duoW_below w g1 g2 n1 d1 n2 d2))).mono ?_
  rintro e w0 ⟨rfl, hb⟩
  obtain ⟨qa, qb⟩ := duoW_boxes w g1 g2 n1 d1 n2 d2
  replace qa := Lib.hid (qa.below hb)
  replace qb := Lib.hid (qb.below hb)
  have hB := Lib.hid ((duoW_below w g1 g2 n1 d1 n2 d2).trans (hb.mono (duoW_below w g1 g2 n1 d1 n2 d2).size))
  clear hb
  obtain ⟨a1, a2, a3, a4, a5, a6⟩ := qa.out.facts
  have a7 := qa.out.lt
  obtain ⟨b1, b2, b3, b4, b5, b6⟩ := qb.out.facts
  have b7 := qb.out.lt
  go_wp2_with fail
  refine (short_any 160 [(n1, d1), (n2, d2)] w0.heap.size 2 _ (by simp) (raws2 w0 g1 g2 n1 d1 n2 d2)).mono ?_
  rintro e wx ⟨rfl, rfl⟩
  rw [hs.out]
  clear a1 a2 a3 a4 a5 a6 a7 b1 b2 b3 b4 b5 b6 b7
  obtain ⟨w1, hw1⟩ : ∃ W, W = w0.alloc (.cells #[.bool g1, .string n1, .string d1, .bool g2, .string n2, .string d2] 23) := ⟨_, rfl⟩
  rw [← hw1]
  replace qa := qa.out
  replace qb := qb.out
  replace qa := qa.alloc (.cells #[.bool g1, .string n1, .string d1, .bool g2, .string n2, .string d2] 23)
  replace qb := qb.alloc (.cells #[.bool g1, .string n1, .string d1, .bool g2, .string n2, .string d2] 23)
  replace hB := Lib.hid (hB.out.alloc hB.out.size (.cells #[.bool g1, .string n1, .string d1, .bool g2, .string n2, .string d2] 23))
  rw [← hw1] at hB qa qb
  replace qa := Lib.hid qa
  replace qb := Lib.hid qb
  clear hw1
  obtain ⟨a1, a2, a3, a4, a5, a6⟩ := qa.out.facts
  have a7 := qa.out.lt
  obtain ⟨b1, b2, b3, b4, b5, b6⟩ := qb.out.facts
  have b7 := qb.out.lt
  go_wp2_with fail
  clear a1 a2 a3 a4 a5 a6 a7 b1 b2 b3 b4 b5 b6 b7
  obtain ⟨W0, hW0⟩ : ∃ W, W = w1.alloc (.cells #[.func (.func 18) #[] #[], .func (.func 21) #[] #[], .func (.func 23) #[] #[], .func (.func 25) #[] #[]] 35) := ⟨_, rfl⟩
  rw [← hW0]
  have q0 : Hid (VAt W0 w.heap.size w1.heap.size 1 21 g1 g2 n1 d1 n2 d2) := by rw [hW0]; exact VAt.new w1 _ _ _ _ (by rfl) qa.out qb.out
  have hB0 : Hid (Below w.heap.size w W0) := by rw [hW0]; exact hB.out.alloc hB.out.size _
  have q0d : Hid (VAt (W0.alloc (.cells #[.bool false, .string ⟨#[]⟩, .string ⟨#[]⟩] 23)).drew w.heap.size w1.heap.size 1 21 g1 g2 n1 d1 n2 d2) := (q0.out.alloc _)
  have x0d : Hid (B3 (W0.alloc (.cells #[.bool false, .string ⟨#[]⟩, .string ⟨#[]⟩] 23)).drew W0.heap.size false ⟨#[]⟩ ⟨#[]⟩) := B3.new W0 _ _ _
  have hB0d : Hid (Below w.heap.size w (W0.alloc (.cells #[.bool false, .string ⟨#[]⟩, .string ⟨#[]⟩] 23)).drew) := (hB0.out.alloc hB0.out.size _).drew
  have q0e : Hid (VAt W0.drew w.heap.size w1.heap.size 1 21 g1 g2 n1 d1 n2 d2) := q0.out
  have hB0e : Hid (Below w.heap.size w W0.drew) := hB0.out.drew
  have hne : Hid (w.heap.size ≠ W0.heap.size ∧ w.heap.size + 1 ≠ W0.heap.size ∧ w1.heap.size ≠ W0.heap.size) := ⟨Nat.ne_of_lt q0.out.1.lt, Nat.ne_of_lt q0.out.2.1.lt, Nat.ne_of_lt q0.out.2.2.1⟩
  clear qa qb hB hW0
  obtain ⟨c1, a1, a2, a3, b1, b2, b3⟩ := q0.out.seven
  have hmod := hmod.out
  have hwr := hwr.out
  go_region_held3 (fun w' => w'.cell? ⟨w1.heap.size, 1, none⟩ = some (.func (.func 21) #[] #[]) ∧ w'.cell? ⟨w.heap.size, 0, none⟩ = some (.bool g1) ∧ w'.cell? ⟨w.heap.size, 1, none⟩ = some (.string n1) ∧ w'.cell? ⟨w.heap.size, 2, none⟩ = some (.string d1) ∧ w'.cell? ⟨w.heap.size + 1, 0, none⟩ = some (.bool g2) ∧ w'.cell? ⟨w.heap.size + 1, 1, none⟩ = some (.string n2) ∧ w'.cell? ⟨w.heap.size + 1, 2, none⟩ = some (.string d2)) (first | (with_reducible exact q0.out.seven) | (with_reducible exact (q0.out.alloc _).seven) | (with_reducible exact q0d.out.seven) | (with_reducible exact q0e.out.seven) | (with_reducible exact q2.out.seven) | (with_reducible exact (q2.out.alloc _).seven) | (with_reducible exact q2.out.seven_set hne.out.1 hne.out.2.1 hne.out.2.2 _ _ _) | go_keep)
    (first
      | (go_at_call 21; refine (hf.out _ ?_).mono ?_; (with_reducible exact (hE.out.below hB0d.out).env); rintro e w2 ⟨rfl, hb2⟩; have q2 := Lib.hid (q0d.out.below hb2); have hB2 := Lib.hid (hB0d.out.trans (hb2.mono hB0d.out.size)); have x2 := Lib.hid (x0d.out.below hb2); obtain ⟨y1, y2, y3, y4, y5, y6⟩ := x2.out.facts; have y7 := x2.out.lt; clear hb2)
      | (go_at_call 21; refine (hf.out _ ?_).mono ?_; (with_reducible exact (hE.out.below hB0e.out).env); rintro e w2 ⟨rfl, hb2⟩; have q2 := Lib.hid (q0e.out.below hb2); have hB2 := Lib.hid (hB0e.out.trans (hb2.mono hB0e.out.size)); clear hb2))
  all_goals go_wp2_with fail
  all_goals (
    clear hmod hwr
    first
      | (obtain ⟨w3, hw3⟩ : ∃ W, W = w2.alloc (.cells #[.bool false, .string ⟨#[]⟩, .string ⟨#[]⟩] 23) := ⟨_, rfl⟩; rw [← hw3]; have qa : Hid (B3 w3 w.heap.size g1 n1 d1) := (by rw [hw3]; exact q2.out.1.alloc _); have qb : Hid (B3 w3 (w.heap.size + 1) g2 n2 d2) := (by rw [hw3]; exact q2.out.2.1.alloc _); have qx : Hid (B3 w3 w2.heap.size false ⟨#[]⟩ ⟨#[]⟩) := (by rw [hw3]; exact B3.new w2 _ _ _); have hB : Hid (Below w.heap.size w w3) := (by rw [hw3]; exact hB2.out.alloc hB2.out.size _))
      | (obtain ⟨w3, hw3⟩ : ∃ W, W = ((w2.setCell ⟨W0.heap.size, 0, none⟩ (.bool false)).setCell ⟨W0.heap.size, 1, none⟩ (.string ⟨#[]⟩)).setCell ⟨W0.heap.size, 2, none⟩ (.string ⟨#[]⟩) := ⟨_, rfl⟩; rw [← hw3]; have qa : Hid (B3 w3 w.heap.size g1 n1 d1) := (by rw [hw3]; exact ((q2.out.1.other hne.out.1 _).other hne.out.1 _).other hne.out.1 _); have qb : Hid (B3 w3 (w.heap.size + 1) g2 n2 d2) := (by rw [hw3]; exact ((q2.out.2.1.other hne.out.2.1 _).other hne.out.2.1 _).other hne.out.2.1 _); have qx : Hid (B3 w3 W0.heap.size false ⟨#[]⟩ ⟨#[]⟩) := (by rw [hw3]; exact ((x2.out.set0 false).set1 ⟨#[]⟩).set2 ⟨#[]⟩); have hB : Hid (Below w.heap.size w w3) := (by rw [hw3]; exact ((hB2.out.setCell hB0.out.size _).setCell hB0.out.size _).setCell hB0.out.size _); clear x2 y1 y2 y3 y4 y5 y6 y7)
    clear hw3 q2 hB2 q0 q0d q0e x0d hB0 hB0d hB0e hne a1 a2 a3 b1 b2 b3 c1 hf
    obtain ⟨a1, a2, a3, a4, a5, a6⟩ := qa.out.facts
    have a7 := qa.out.lt
    go_wp2_with fail
    have hBp := hB
    refine (kva.out _ (hE.out.below hBp.out).1).mono ?_
    rintro e w4 ⟨rfl, hb⟩
    clear a1 a2 a3 a4 a5 a6 a7
    replace qa := Lib.hid (qa.out.below hb)
    replace qb := Lib.hid (qb.out.below hb)
    replace qx := Lib.hid (qx.out.below hb)
    replace hB := Lib.hid (hBp.out.trans (hb.mono hBp.out.size))
    clear hb hBp
    obtain ⟨x1, x2, x3, x4, x5, x6⟩ := qx.out.facts
    have x7 := qx.out.lt
    go_wp2
    go_ret
    exact ⟨rfl, hB.out⟩
  )

set_option maxRecDepth 100000 in
set_option maxHeartbeats 4000000 in
theorem rvalid_sub_b (g1 g2 : Bool) (n1 d1 n2 d2 : ByteArray) (raw : Int)  (hr0 : 0 ≤ raw) (hr1 : raw ≤ 255) (hrk : raw % 4 = 1) (hs : shortB 160 [(n1, d1), (n2, d2)] = true) (sn1 : n1.size ≤ 160) (sd1 : d1.size ≤ 160) (sn2 : n2.size ≤ 160) (sd2 : d2.size ≤ 160) (va : validB g1 n1 d1 = true) (vb : validB g2 n2 d2 = false) (w : World) (hE : REnv w)
    (hf : ∀ W, Env W → Calls Tryz.prog 21 #[.agg #[.bool g1, .string n1, .string d1], .agg #[.bool g2, .string n2, .string d2]] W fun e w' => e = .returned (.tuple #[.agg #[.bool false, .string ⟨#[]⟩, .string ⟨#[]⟩], .int .i64 1]) ∧ Below W.heap.size W w') :
    Calls Tryz.prog 7 #[.agg #[.bool g1, .string n1, .string d1], .agg #[.bool g2, .string n2, .string d2], .int .u8 raw] w fun e w' => e = .returned (.bool true) ∧ Below w.heap.size w w' := by
  replace hE := Lib.hid hE
  replace hs := Lib.hid hs
  replace hf := Lib.hid hf
  have kva := fun W (h : Env W) => Valid_any g1 n1 d1 W h (by omega) (by omega)
  rw [va] at kva
  clear va
  replace kva := Lib.hid kva
  have kvb := fun W (h : Env W) => Valid_any g2 n2 d2 W h (by omega) (by omega)
  rw [vb] at kvb
  clear vb
  replace kvb := Lib.hid kvb
  have hmod : raw.tmod 4 = 1 := by rw [Int.tmod_eq_emod_of_nonneg hr0]; exact hrk
  have hwr : IntKind.i64.wrap raw = raw := IntWalk.i64_in _ (by omega)
  replace hrk := Lib.hid hrk
  replace hmod := Lib.hid hmod
  replace hwr := Lib.hid hwr
  go_enter Tryz.func7, Tryz.ntmps7
  go_wp2_with fail
  refine (rhead_any _ (hE.out.below (duoW_below w g1 g2 n1 d1 n2 d2))).mono ?_
  rintro e w0 ⟨rfl, hb⟩
  obtain ⟨qa, qb⟩ := duoW_boxes w g1 g2 n1 d1 n2 d2
  replace qa := Lib.hid (qa.below hb)
  replace qb := Lib.hid (qb.below hb)
  have hB := Lib.hid ((duoW_below w g1 g2 n1 d1 n2 d2).trans (hb.mono (duoW_below w g1 g2 n1 d1 n2 d2).size))
  clear hb
  obtain ⟨a1, a2, a3, a4, a5, a6⟩ := qa.out.facts
  have a7 := qa.out.lt
  obtain ⟨b1, b2, b3, b4, b5, b6⟩ := qb.out.facts
  have b7 := qb.out.lt
  go_wp2_with fail
  refine (short_any 160 [(n1, d1), (n2, d2)] w0.heap.size 2 _ (by simp) (raws2 w0 g1 g2 n1 d1 n2 d2)).mono ?_
  rintro e wx ⟨rfl, rfl⟩
  rw [hs.out]
  clear a1 a2 a3 a4 a5 a6 a7 b1 b2 b3 b4 b5 b6 b7
  obtain ⟨w1, hw1⟩ : ∃ W, W = w0.alloc (.cells #[.bool g1, .string n1, .string d1, .bool g2, .string n2, .string d2] 23) := ⟨_, rfl⟩
  rw [← hw1]
  replace qa := qa.out
  replace qb := qb.out
  replace qa := qa.alloc (.cells #[.bool g1, .string n1, .string d1, .bool g2, .string n2, .string d2] 23)
  replace qb := qb.alloc (.cells #[.bool g1, .string n1, .string d1, .bool g2, .string n2, .string d2] 23)
  replace hB := Lib.hid (hB.out.alloc hB.out.size (.cells #[.bool g1, .string n1, .string d1, .bool g2, .string n2, .string d2] 23))
  rw [← hw1] at hB qa qb
  replace qa := Lib.hid qa
  replace qb := Lib.hid qb
  clear hw1
  obtain ⟨a1, a2, a3, a4, a5, a6⟩ := qa.out.facts
  have a7 := qa.out.lt
  obtain ⟨b1, b2, b3, b4, b5, b6⟩ := qb.out.facts
  have b7 := qb.out.lt
  go_wp2_with fail
  clear a1 a2 a3 a4 a5 a6 a7 b1 b2 b3 b4 b5 b6 b7
  obtain ⟨W0, hW0⟩ : ∃ W, W = w1.alloc (.cells #[.func (.func 18) #[] #[], .func (.func 21) #[] #[], .func (.func 23) #[] #[], .func (.func 25) #[] #[]] 35) := ⟨_, rfl⟩
  rw [← hW0]
  have q0 : Hid (VAt W0 w.heap.size w1.heap.size 1 21 g1 g2 n1 d1 n2 d2) := by rw [hW0]; exact VAt.new w1 _ _ _ _ (by rfl) qa.out qb.out
  have hB0 : Hid (Below w.heap.size w W0) := by rw [hW0]; exact hB.out.alloc hB.out.size _
  have q0d : Hid (VAt (W0.alloc (.cells #[.bool false, .string ⟨#[]⟩, .string ⟨#[]⟩] 23)).drew w.heap.size w1.heap.size 1 21 g1 g2 n1 d1 n2 d2) := (q0.out.alloc _)
  have x0d : Hid (B3 (W0.alloc (.cells #[.bool false, .string ⟨#[]⟩, .string ⟨#[]⟩] 23)).drew W0.heap.size false ⟨#[]⟩ ⟨#[]⟩) := B3.new W0 _ _ _
  have hB0d : Hid (Below w.heap.size w (W0.alloc (.cells #[.bool false, .string ⟨#[]⟩, .string ⟨#[]⟩] 23)).drew) := (hB0.out.alloc hB0.out.size _).drew
  have q0e : Hid (VAt W0.drew w.heap.size w1.heap.size 1 21 g1 g2 n1 d1 n2 d2) := q0.out
  have hB0e : Hid (Below w.heap.size w W0.drew) := hB0.out.drew
  have hne : Hid (w.heap.size ≠ W0.heap.size ∧ w.heap.size + 1 ≠ W0.heap.size ∧ w1.heap.size ≠ W0.heap.size) := ⟨Nat.ne_of_lt q0.out.1.lt, Nat.ne_of_lt q0.out.2.1.lt, Nat.ne_of_lt q0.out.2.2.1⟩
  clear qa qb hB hW0
  obtain ⟨c1, a1, a2, a3, b1, b2, b3⟩ := q0.out.seven
  have hmod := hmod.out
  have hwr := hwr.out
  go_region_held3 (fun w' => w'.cell? ⟨w1.heap.size, 1, none⟩ = some (.func (.func 21) #[] #[]) ∧ w'.cell? ⟨w.heap.size, 0, none⟩ = some (.bool g1) ∧ w'.cell? ⟨w.heap.size, 1, none⟩ = some (.string n1) ∧ w'.cell? ⟨w.heap.size, 2, none⟩ = some (.string d1) ∧ w'.cell? ⟨w.heap.size + 1, 0, none⟩ = some (.bool g2) ∧ w'.cell? ⟨w.heap.size + 1, 1, none⟩ = some (.string n2) ∧ w'.cell? ⟨w.heap.size + 1, 2, none⟩ = some (.string d2)) (first | (with_reducible exact q0.out.seven) | (with_reducible exact (q0.out.alloc _).seven) | (with_reducible exact q0d.out.seven) | (with_reducible exact q0e.out.seven) | (with_reducible exact q2.out.seven) | (with_reducible exact (q2.out.alloc _).seven) | (with_reducible exact q2.out.seven_set hne.out.1 hne.out.2.1 hne.out.2.2 _ _ _) | go_keep)
    (first
      | (go_at_call 21; refine (hf.out _ ?_).mono ?_; (with_reducible exact (hE.out.below hB0d.out).env); rintro e w2 ⟨rfl, hb2⟩; have q2 := Lib.hid (q0d.out.below hb2); have hB2 := Lib.hid (hB0d.out.trans (hb2.mono hB0d.out.size)); have x2 := Lib.hid (x0d.out.below hb2); obtain ⟨y1, y2, y3, y4, y5, y6⟩ := x2.out.facts; have y7 := x2.out.lt; clear hb2)
      | (go_at_call 21; refine (hf.out _ ?_).mono ?_; (with_reducible exact (hE.out.below hB0e.out).env); rintro e w2 ⟨rfl, hb2⟩; have q2 := Lib.hid (q0e.out.below hb2); have hB2 := Lib.hid (hB0e.out.trans (hb2.mono hB0e.out.size)); clear hb2))
  all_goals go_wp2_with fail
  all_goals (
    clear hmod hwr
    first
      | (obtain ⟨w3, hw3⟩ : ∃ W, W = w2.alloc (.cells #[.bool false, .string ⟨#[]⟩, .string ⟨#[]⟩] 23) := ⟨_, rfl⟩; rw [← hw3]; have qa : Hid (B3 w3 w.heap.size g1 n1 d1) := (by rw [hw3]; exact q2.out.1.alloc _); have qb : Hid (B3 w3 (w.heap.size + 1) g2 n2 d2) := (by rw [hw3]; exact q2.out.2.1.alloc _); have qx : Hid (B3 w3 w2.heap.size false ⟨#[]⟩ ⟨#[]⟩) := (by rw [hw3]; exact B3.new w2 _ _ _); have hB : Hid (Below w.heap.size w w3) := (by rw [hw3]; exact hB2.out.alloc hB2.out.size _))
      | (obtain ⟨w3, hw3⟩ : ∃ W, W = ((w2.setCell ⟨W0.heap.size, 0, none⟩ (.bool false)).setCell ⟨W0.heap.size, 1, none⟩ (.string ⟨#[]⟩)).setCell ⟨W0.heap.size, 2, none⟩ (.string ⟨#[]⟩) := ⟨_, rfl⟩; rw [← hw3]; have qa : Hid (B3 w3 w.heap.size g1 n1 d1) := (by rw [hw3]; exact ((q2.out.1.other hne.out.1 _).other hne.out.1 _).other hne.out.1 _); have qb : Hid (B3 w3 (w.heap.size + 1) g2 n2 d2) := (by rw [hw3]; exact ((q2.out.2.1.other hne.out.2.1 _).other hne.out.2.1 _).other hne.out.2.1 _); have qx : Hid (B3 w3 W0.heap.size false ⟨#[]⟩ ⟨#[]⟩) := (by rw [hw3]; exact ((x2.out.set0 false).set1 ⟨#[]⟩).set2 ⟨#[]⟩); have hB : Hid (Below w.heap.size w w3) := (by rw [hw3]; exact ((hB2.out.setCell hB0.out.size _).setCell hB0.out.size _).setCell hB0.out.size _); clear x2 y1 y2 y3 y4 y5 y6 y7)
    clear hw3 q2 hB2 q0 q0d q0e x0d hB0 hB0d hB0e hne a1 a2 a3 b1 b2 b3 c1 hf
    obtain ⟨a1, a2, a3, a4, a5, a6⟩ := qa.out.facts
    have a7 := qa.out.lt
    go_wp2_with fail
    have hBp := hB
    refine (kva.out _ (hE.out.below hBp.out).1).mono ?_
    rintro e w4 ⟨rfl, hb⟩
    clear a1 a2 a3 a4 a5 a6 a7
    replace qa := Lib.hid (qa.out.below hb)
    replace qb := Lib.hid (qb.out.below hb)
    replace qx := Lib.hid (qx.out.below hb)
    replace hB := Lib.hid (hBp.out.trans (hb.mono hBp.out.size))
    clear hb hBp
    obtain ⟨b1, b2, b3, b4, b5, b6⟩ := qb.out.facts
    have b7 := qb.out.lt
    go_wp2_with fail
    have hBp := hB
    refine (kvb.out _ (hE.out.below hBp.out).1).mono ?_
    rintro e w5 ⟨rfl, hb⟩
    clear b1 b2 b3 b4 b5 b6 b7
    replace qa := Lib.hid (qa.out.below hb)
    replace qb := Lib.hid (qb.out.below hb)
    replace qx := Lib.hid (qx.out.below hb)
    replace hB := Lib.hid (hBp.out.trans (hb.mono hBp.out.size))
    clear hb hBp
    obtain ⟨x1, x2, x3, x4, x5, x6⟩ := qx.out.facts
    have x7 := qx.out.lt
    go_wp2
    go_ret
    exact ⟨rfl, hB.out⟩
  )

set_option maxRecDepth 100000 in
set_option maxHeartbeats 4000000 in
theorem rvalid_sub_ok (g1 g2 : Bool) (n1 d1 n2 d2 : ByteArray) (raw : Int) (r : Bool) (n d : ByteArray) (hr0 : 0 ≤ raw) (hr1 : raw ≤ 255) (hrk : raw % 4 = 1) (hs : shortB 160 [(n1, d1), (n2, d2)] = true) (sn1 : n1.size ≤ 160) (sd1 : d1.size ≤ 160) (sn2 : n2.size ≤ 160) (sd2 : d2.size ≤ 160) (va : validB g1 n1 d1 = true) (vb : validB g2 n2 d2 = true) (vx : validB r n d = true) (w : World) (hE : REnv w)
    (hf : ∀ W, Env W → Calls Tryz.prog 21 #[.agg #[.bool g1, .string n1, .string d1], .agg #[.bool g2, .string n2, .string d2]] W fun e w' => e = .returned (.tuple #[.agg #[.bool r, .string n, .string d], .int .i64 0]) ∧ Below W.heap.size W w') :
    Calls Tryz.prog 7 #[.agg #[.bool g1, .string n1, .string d1], .agg #[.bool g2, .string n2, .string d2], .int .u8 raw] w fun e w' => e = .returned (.bool true) ∧ Below w.heap.size w w' := by
  replace hE := Lib.hid hE
  replace hs := Lib.hid hs
  replace hf := Lib.hid hf
  have kva := fun W (h : Env W) => Valid_any g1 n1 d1 W h (by omega) (by omega)
  rw [va] at kva
  clear va
  replace kva := Lib.hid kva
  have kvb := fun W (h : Env W) => Valid_any g2 n2 d2 W h (by omega) (by omega)
  rw [vb] at kvb
  clear vb
  replace kvb := Lib.hid kvb
  have zx := size_of_valid vx
  have kvx := fun W (h : Env W) => Valid_any r n d W h (by omega) (by omega)
  rw [vx] at kvx
  clear vx zx
  replace kvx := Lib.hid kvx
  have hmod : raw.tmod 4 = 1 := by rw [Int.tmod_eq_emod_of_nonneg hr0]; exact hrk
  have hwr : IntKind.i64.wrap raw = raw := IntWalk.i64_in _ (by omega)
  replace hrk := Lib.hid hrk
  replace hmod := Lib.hid hmod
  replace hwr := Lib.hid hwr
  go_enter Tryz.func7, Tryz.ntmps7
  go_wp2_with fail
  refine (rhead_any _ (hE.out.below (duoW_below w g1 g2 n1 d1 n2 d2))).mono ?_
  rintro e w0 ⟨rfl, hb⟩
  obtain ⟨qa, qb⟩ := duoW_boxes w g1 g2 n1 d1 n2 d2
  replace qa := Lib.hid (qa.below hb)
  replace qb := Lib.hid (qb.below hb)
  have hB := Lib.hid ((duoW_below w g1 g2 n1 d1 n2 d2).trans (hb.mono (duoW_below w g1 g2 n1 d1 n2 d2).size))
  clear hb
  obtain ⟨a1, a2, a3, a4, a5, a6⟩ := qa.out.facts
  have a7 := qa.out.lt
  obtain ⟨b1, b2, b3, b4, b5, b6⟩ := qb.out.facts
  have b7 := qb.out.lt
  go_wp2_with fail
  refine (short_any 160 [(n1, d1), (n2, d2)] w0.heap.size 2 _ (by simp) (raws2 w0 g1 g2 n1 d1 n2 d2)).mono ?_
  rintro e wx ⟨rfl, rfl⟩
  rw [hs.out]
  clear a1 a2 a3 a4 a5 a6 a7 b1 b2 b3 b4 b5 b6 b7
  obtain ⟨w1, hw1⟩ : ∃ W, W = w0.alloc (.cells #[.bool g1, .string n1, .string d1, .bool g2, .string n2, .string d2] 23) := ⟨_, rfl⟩
  rw [← hw1]
  replace qa := qa.out
  replace qb := qb.out
  replace qa := qa.alloc (.cells #[.bool g1, .string n1, .string d1, .bool g2, .string n2, .string d2] 23)
  replace qb := qb.alloc (.cells #[.bool g1, .string n1, .string d1, .bool g2, .string n2, .string d2] 23)
  replace hB := Lib.hid (hB.out.alloc hB.out.size (.cells #[.bool g1, .string n1, .string d1, .bool g2, .string n2, .string d2] 23))
  rw [← hw1] at hB qa qb
  replace qa := Lib.hid qa
  replace qb := Lib.hid qb
  clear hw1
  obtain ⟨a1, a2, a3, a4, a5, a6⟩ := qa.out.facts
  have a7 := qa.out.lt
  obtain ⟨b1, b2, b3, b4, b5, b6⟩ := qb.out.facts
  have b7 := qb.out.lt
  go_wp2_with fail
  clear a1 a2 a3 a4 a5 a6 a7 b1 b2 b3 b4 b5 b6 b7
  obtain ⟨W0, hW0⟩ : ∃ W, W = w1.alloc (.cells #[.func (.func 18) #[] #[], .func (.func 21) #[] #[], .func (.func 23) #[] #[], .func (.func 25) #[] #[]] 35) := ⟨_, rfl⟩
  rw [← hW0]
  have q0 : Hid (VAt W0 w.heap.size w1.heap.size 1 21 g1 g2 n1 d1 n2 d2) := by rw [hW0]; exact VAt.new w1 _ _ _ _ (by rfl) qa.out qb.out
  have hB0 : Hid (Below w.heap.size w W0) := by rw [hW0]; exact hB.out.alloc hB.out.size _
  have q0d : Hid (VAt (W0.alloc (.cells #[.bool false, .string ⟨#[]⟩, .string ⟨#[]⟩] 23)).drew w.heap.size w1.heap.size 1 21 g1 g2 n1 d1 n2 d2) := (q0.out.alloc _)
  have x0d : Hid (B3 (W0.alloc (.cells #[.bool false, .string ⟨#[]⟩, .string ⟨#[]⟩] 23)).drew W0.heap.size false ⟨#[]⟩ ⟨#[]⟩) := B3.new W0 _ _ _
  have hB0d : Hid (Below w.heap.size w (W0.alloc (.cells #[.bool false, .string ⟨#[]⟩, .string ⟨#[]⟩] 23)).drew) := (hB0.out.alloc hB0.out.size _).drew
  have q0e : Hid (VAt W0.drew w.heap.size w1.heap.size 1 21 g1 g2 n1 d1 n2 d2) := q0.out
  have hB0e : Hid (Below w.heap.size w W0.drew) := hB0.out.drew
  have hne : Hid (w.heap.size ≠ W0.heap.size ∧ w.heap.size + 1 ≠ W0.heap.size ∧ w1.heap.size ≠ W0.heap.size) := ⟨Nat.ne_of_lt q0.out.1.lt, Nat.ne_of_lt q0.out.2.1.lt, Nat.ne_of_lt q0.out.2.2.1⟩
  clear qa qb hB hW0
  obtain ⟨c1, a1, a2, a3, b1, b2, b3⟩ := q0.out.seven
  have hmod := hmod.out
  have hwr := hwr.out
  go_region_held3 (fun w' => w'.cell? ⟨w1.heap.size, 1, none⟩ = some (.func (.func 21) #[] #[]) ∧ w'.cell? ⟨w.heap.size, 0, none⟩ = some (.bool g1) ∧ w'.cell? ⟨w.heap.size, 1, none⟩ = some (.string n1) ∧ w'.cell? ⟨w.heap.size, 2, none⟩ = some (.string d1) ∧ w'.cell? ⟨w.heap.size + 1, 0, none⟩ = some (.bool g2) ∧ w'.cell? ⟨w.heap.size + 1, 1, none⟩ = some (.string n2) ∧ w'.cell? ⟨w.heap.size + 1, 2, none⟩ = some (.string d2)) (first | (with_reducible exact q0.out.seven) | (with_reducible exact (q0.out.alloc _).seven) | (with_reducible exact q0d.out.seven) | (with_reducible exact q0e.out.seven) | (with_reducible exact q2.out.seven) | (with_reducible exact (q2.out.alloc _).seven) | (with_reducible exact q2.out.seven_set hne.out.1 hne.out.2.1 hne.out.2.2 _ _ _) | go_keep)
    (first
      | (go_at_call 21; refine (hf.out _ ?_).mono ?_; (with_reducible exact (hE.out.below hB0d.out).env); rintro e w2 ⟨rfl, hb2⟩; have q2 := Lib.hid (q0d.out.below hb2); have hB2 := Lib.hid (hB0d.out.trans (hb2.mono hB0d.out.size)); have x2 := Lib.hid (x0d.out.below hb2); obtain ⟨y1, y2, y3, y4, y5, y6⟩ := x2.out.facts; have y7 := x2.out.lt; clear hb2)
      | (go_at_call 21; refine (hf.out _ ?_).mono ?_; (with_reducible exact (hE.out.below hB0e.out).env); rintro e w2 ⟨rfl, hb2⟩; have q2 := Lib.hid (q0e.out.below hb2); have hB2 := Lib.hid (hB0e.out.trans (hb2.mono hB0e.out.size)); clear hb2))
  all_goals go_wp2_with fail
  all_goals (
    clear hmod hwr
    first
      | (obtain ⟨w3, hw3⟩ : ∃ W, W = w2.alloc (.cells #[.bool r, .string n, .string d] 23) := ⟨_, rfl⟩; rw [← hw3]; have qa : Hid (B3 w3 w.heap.size g1 n1 d1) := (by rw [hw3]; exact q2.out.1.alloc _); have qb : Hid (B3 w3 (w.heap.size + 1) g2 n2 d2) := (by rw [hw3]; exact q2.out.2.1.alloc _); have qx : Hid (B3 w3 w2.heap.size r n d) := (by rw [hw3]; exact B3.new w2 _ _ _); have hB : Hid (Below w.heap.size w w3) := (by rw [hw3]; exact hB2.out.alloc hB2.out.size _))
      | (obtain ⟨w3, hw3⟩ : ∃ W, W = ((w2.setCell ⟨W0.heap.size, 0, none⟩ (.bool r)).setCell ⟨W0.heap.size, 1, none⟩ (.string n)).setCell ⟨W0.heap.size, 2, none⟩ (.string d) := ⟨_, rfl⟩; rw [← hw3]; have qa : Hid (B3 w3 w.heap.size g1 n1 d1) := (by rw [hw3]; exact ((q2.out.1.other hne.out.1 _).other hne.out.1 _).other hne.out.1 _); have qb : Hid (B3 w3 (w.heap.size + 1) g2 n2 d2) := (by rw [hw3]; exact ((q2.out.2.1.other hne.out.2.1 _).other hne.out.2.1 _).other hne.out.2.1 _); have qx : Hid (B3 w3 W0.heap.size r n d) := (by rw [hw3]; exact ((x2.out.set0 r).set1 n).set2 d); have hB : Hid (Below w.heap.size w w3) := (by rw [hw3]; exact ((hB2.out.setCell hB0.out.size _).setCell hB0.out.size _).setCell hB0.out.size _); clear x2 y1 y2 y3 y4 y5 y6 y7)
    clear hw3 q2 hB2 q0 q0d q0e x0d hB0 hB0d hB0e hne a1 a2 a3 b1 b2 b3 c1 hf
    obtain ⟨a1, a2, a3, a4, a5, a6⟩ := qa.out.facts
    have a7 := qa.out.lt
    go_wp2_with fail
    have hBp := hB
    refine (kva.out _ (hE.out.below hBp.out).1).mono ?_
    rintro e w4 ⟨rfl, hb⟩
    clear a1 a2 a3 a4 a5 a6 a7
    replace qa := Lib.hid (qa.out.below hb)
    replace qb := Lib.hid (qb.out.below hb)
    replace qx := Lib.hid (qx.out.below hb)
    replace hB := Lib.hid (hBp.out.trans (hb.mono hBp.out.size))
    clear hb hBp
    obtain ⟨b1, b2, b3, b4, b5, b6⟩ := qb.out.facts
    have b7 := qb.out.lt
    go_wp2_with fail
    have hBp := hB
    refine (kvb.out _ (hE.out.below hBp.out).1).mono ?_
    rintro e w5 ⟨rfl, hb⟩
    clear b1 b2 b3 b4 b5 b6 b7
    replace qa := Lib.hid (qa.out.below hb)
    replace qb := Lib.hid (qb.out.below hb)
    replace qx := Lib.hid (qx.out.below hb)
    replace hB := Lib.hid (hBp.out.trans (hb.mono hBp.out.size))
    clear hb hBp
    obtain ⟨x1, x2, x3, x4, x5, x6⟩ := qx.out.facts
    have x7 := qx.out.lt
    go_wp2_with fail
    have hBp := hB
    refine (kvx.out _ (hE.out.below hBp.out).1).mono ?_
    rintro e w6 ⟨rfl, hb⟩
    clear x1 x2 x3 x4 x5 x6 x7
    replace qa := Lib.hid (qa.out.below hb)
    replace qb := Lib.hid (qb.out.below hb)
    replace qx := Lib.hid (qx.out.below hb)
    replace hB := Lib.hid (hBp.out.trans (hb.mono hBp.out.size))
    clear hb hBp
    obtain ⟨x1, x2, x3, x4, x5, x6⟩ := qx.out.facts
    have x7 := qx.out.lt
    go_wp2
    go_ret
    exact ⟨rfl, hB.out⟩
  )

set_option maxRecDepth 100000 in
set_option maxHeartbeats 4000000 in
theorem rvalid_sub_er (g1 g2 : Bool) (n1 d1 n2 d2 : ByteArray) (raw : Int)  (hr0 : 0 ≤ raw) (hr1 : raw ≤ 255) (hrk : raw % 4 = 1) (hs : shortB 160 [(n1, d1), (n2, d2)] = true) (sn1 : n1.size ≤ 160) (sd1 : d1.size ≤ 160) (sn2 : n2.size ≤ 160) (sd2 : d2.size ≤ 160) (va : validB g1 n1 d1 = true) (vb : validB g2 n2 d2 = true) (w : World) (hE : REnv w)
    (hf : ∀ W, Env W → Calls Tryz.prog 21 #[.agg #[.bool g1, .string n1, .string d1], .agg #[.bool g2, .string n2, .string d2]] W fun e w' => e = .returned (.tuple #[.agg #[.bool false, .string ⟨#[]⟩, .string ⟨#[]⟩], .int .i64 2]) ∧ Below W.heap.size W w') :
    Calls Tryz.prog 7 #[.agg #[.bool g1, .string n1, .string d1], .agg #[.bool g2, .string n2, .string d2], .int .u8 raw] w fun e w' => e = .returned (.bool true) ∧ Below w.heap.size w w' := by
  replace hE := Lib.hid hE
  replace hs := Lib.hid hs
  replace hf := Lib.hid hf
  have kva := fun W (h : Env W) => Valid_any g1 n1 d1 W h (by omega) (by omega)
  rw [va] at kva
  clear va
  replace kva := Lib.hid kva
  have kvb := fun W (h : Env W) => Valid_any g2 n2 d2 W h (by omega) (by omega)
  rw [vb] at kvb
  clear vb
  replace kvb := Lib.hid kvb
  have kvx := fun W (h : Env W) => Valid_any false ⟨#[]⟩ ⟨#[]⟩ W h (by decide) (by decide)
  rw [valid_none] at kvx
  replace kvx := Lib.hid kvx
  have hmod : raw.tmod 4 = 1 := by rw [Int.tmod_eq_emod_of_nonneg hr0]; exact hrk
  have hwr : IntKind.i64.wrap raw = raw := IntWalk.i64_in _ (by omega)
  replace hrk := Lib.hid hrk
  replace hmod := Lib.hid hmod
  replace hwr := Lib.hid hwr
  go_enter Tryz.func7, Tryz.ntmps7
  go_wp2_with fail
  refine (rhead_any _ (hE.out.below (duoW_below w g1 g2 n1 d1 n2 d2))).mono ?_
  rintro e w0 ⟨rfl, hb⟩
  obtain ⟨qa, qb⟩ := duoW_boxes w g1 g2 n1 d1 n2 d2
  replace qa := Lib.hid (qa.below hb)
  replace qb := Lib.hid (qb.below hb)
  have hB := Lib.hid ((duoW_below w g1 g2 n1 d1 n2 d2).trans (hb.mono (duoW_below w g1 g2 n1 d1 n2 d2).size))
  clear hb
  obtain ⟨a1, a2, a3, a4, a5, a6⟩ := qa.out.facts
  have a7 := qa.out.lt
  obtain ⟨b1, b2, b3, b4, b5, b6⟩ := qb.out.facts
  have b7 := qb.out.lt
  go_wp2_with fail
  refine (short_any 160 [(n1, d1), (n2, d2)] w0.heap.size 2 _ (by simp) (raws2 w0 g1 g2 n1 d1 n2 d2)).mono ?_
  rintro e wx ⟨rfl, rfl⟩
  rw [hs.out]
  clear a1 a2 a3 a4 a5 a6 a7 b1 b2 b3 b4 b5 b6 b7
  obtain ⟨w1, hw1⟩ : ∃ W, W = w0.alloc (.cells #[.bool g1, .string n1, .string d1, .bool g2, .string n2, .string d2] 23) := ⟨_, rfl⟩
  rw [← hw1]
  replace qa := qa.out
  replace qb := qb.out
  replace qa := qa.alloc (.cells #[.bool g1, .string n1, .string d1, .bool g2, .string n2, .string d2] 23)
  replace qb := qb.alloc (.cells #[.bool g1, .string n1, .string d1, .bool g2, .string n2, .string d2] 23)
  replace hB := Lib.hid (hB.out.alloc hB.out.size (.cells #[.bool g1, .string n1, .string d1, .bool g2, .string n2, .string d2] 23))
  rw [← hw1] at hB qa qb
  replace qa := Lib.hid qa
  replace qb := Lib.hid qb
  clear hw1
  obtain ⟨a1, a2, a3, a4, a5, a6⟩ := qa.out.facts
  have a7 := qa.out.lt
  obtain ⟨b1, b2, b3, b4, b5, b6⟩ := qb.out.facts
  have b7 := qb.out.lt
  go_wp2_with fail
  clear a1 a2 a3 a4 a5 a6 a7 b1 b2 b3 b4 b5 b6 b7
  obtain ⟨W0, hW0⟩ : ∃ W, W = w1.alloc (.cells #[.func (.func 18) #[] #[], .func (.func 21) #[] #[], .func (.func 23) #[] #[], .func (.func 25) #[] #[]] 35) := ⟨_, rfl⟩
  rw [← hW0]
  have q0 : Hid (VAt W0 w.heap.size w1.heap.size 1 21 g1 g2 n1 d1 n2 d2) := by rw [hW0]; exact VAt.new w1 _ _ _ _ (by rfl) qa.out qb.out
  have hB0 : Hid (Below w.heap.size w W0) := by rw [hW0]; exact hB.out.alloc hB.out.size _
  have q0d : Hid (VAt (W0.alloc (.cells #[.bool false, .string ⟨#[]⟩, .string ⟨#[]⟩] 23)).drew w.heap.size w1.heap.size 1 21 g1 g2 n1 d1 n2 d2) := (q0.out.alloc _)
  have x0d : Hid (B3 (W0.alloc (.cells #[.bool false, .string ⟨#[]⟩, .string ⟨#[]⟩] 23)).drew W0.heap.size false ⟨#[]⟩ ⟨#[]⟩) := B3.new W0 _ _ _
  have hB0d : Hid (Below w.heap.size w (W0.alloc (.cells #[.bool false, .string ⟨#[]⟩, .string ⟨#[]⟩] 23)).drew) := (hB0.out.alloc hB0.out.size _).drew
  have q0e : Hid (VAt W0.drew w.heap.size w1.heap.size 1 21 g1 g2 n1 d1 n2 d2) := q0.out
  have hB0e : Hid (Below w.heap.size w W0.drew) := hB0.out.drew
  have hne : Hid (w.heap.size ≠ W0.heap.size ∧ w.heap.size + 1 ≠ W0.heap.size ∧ w1.heap.size ≠ W0.heap.size) := ⟨Nat.ne_of_lt q0.out.1.lt, Nat.ne_of_lt q0.out.2.1.lt, Nat.ne_of_lt q0.out.2.2.1⟩
  clear qa qb hB hW0
  obtain ⟨c1, a1, a2, a3, b1, b2, b3⟩ := q0.out.seven
  have hmod := hmod.out
  have hwr := hwr.out
  go_region_held3 (fun w' => w'.cell? ⟨w1.heap.size, 1, none⟩ = some (.func (.func 21) #[] #[]) ∧ w'.cell? ⟨w.heap.size, 0, none⟩ = some (.bool g1) ∧ w'.cell? ⟨w.heap.size, 1, none⟩ = some (.string n1) ∧ w'.cell? ⟨w.heap.size, 2, none⟩ = some (.string d1) ∧ w'.cell? ⟨w.heap.size + 1, 0, none⟩ = some (.bool g2) ∧ w'.cell? ⟨w.heap.size + 1, 1, none⟩ = some (.string n2) ∧ w'.cell? ⟨w.heap.size + 1, 2, none⟩ = some (.string d2)) (first | (with_reducible exact q0.out.seven) | (with_reducible exact (q0.out.alloc _).seven) | (with_reducible exact q0d.out.seven) | (with_reducible exact q0e.out.seven) | (with_reducible exact q2.out.seven) | (with_reducible exact (q2.out.alloc _).seven) | (with_reducible exact q2.out.seven_set hne.out.1 hne.out.2.1 hne.out.2.2 _ _ _) | go_keep)
    (first
      | (go_at_call 21; refine (hf.out _ ?_).mono ?_; (with_reducible exact (hE.out.below hB0d.out).env); rintro e w2 ⟨rfl, hb2⟩; have q2 := Lib.hid (q0d.out.below hb2); have hB2 := Lib.hid (hB0d.out.trans (hb2.mono hB0d.out.size)); have x2 := Lib.hid (x0d.out.below hb2); obtain ⟨y1, y2, y3, y4, y5, y6⟩ := x2.out.facts; have y7 := x2.out.lt; clear hb2)
      | (go_at_call 21; refine (hf.out _ ?_).mono ?_; (with_reducible exact (hE.out.below hB0e.out).env); rintro e w2 ⟨rfl, hb2⟩; have q2 := Lib.hid (q0e.out.below hb2); have hB2 := Lib.hid (hB0e.out.trans (hb2.mono hB0e.out.size)); clear hb2))
  all_goals go_wp2_with fail
  all_goals (
    clear hmod hwr
    first
      | (obtain ⟨w3, hw3⟩ : ∃ W, W = w2.alloc (.cells #[.bool false, .string ⟨#[]⟩, .string ⟨#[]⟩] 23) := ⟨_, rfl⟩; rw [← hw3]; have qa : Hid (B3 w3 w.heap.size g1 n1 d1) := (by rw [hw3]; exact q2.out.1.alloc _); have qb : Hid (B3 w3 (w.heap.size + 1) g2 n2 d2) := (by rw [hw3]; exact q2.out.2.1.alloc _); have qx : Hid (B3 w3 w2.heap.size false ⟨#[]⟩ ⟨#[]⟩) := (by rw [hw3]; exact B3.new w2 _ _ _); have hB : Hid (Below w.heap.size w w3) := (by rw [hw3]; exact hB2.out.alloc hB2.out.size _))
      | (obtain ⟨w3, hw3⟩ : ∃ W, W = ((w2.setCell ⟨W0.heap.size, 0, none⟩ (.bool false)).setCell ⟨W0.heap.size, 1, none⟩ (.string ⟨#[]⟩)).setCell ⟨W0.heap.size, 2, none⟩ (.string ⟨#[]⟩) := ⟨_, rfl⟩; rw [← hw3]; have qa : Hid (B3 w3 w.heap.size g1 n1 d1) := (by rw [hw3]; exact ((q2.out.1.other hne.out.1 _).other hne.out.1 _).other hne.out.1 _); have qb : Hid (B3 w3 (w.heap.size + 1) g2 n2 d2) := (by rw [hw3]; exact ((q2.out.2.1.other hne.out.2.1 _).other hne.out.2.1 _).other hne.out.2.1 _); have qx : Hid (B3 w3 W0.heap.size false ⟨#[]⟩ ⟨#[]⟩) := (by rw [hw3]; exact ((x2.out.set0 false).set1 ⟨#[]⟩).set2 ⟨#[]⟩); have hB : Hid (Below w.heap.size w w3) := (by rw [hw3]; exact ((hB2.out.setCell hB0.out.size _).setCell hB0.out.size _).setCell hB0.out.size _); clear x2 y1 y2 y3 y4 y5 y6 y7)
    clear hw3 q2 hB2 q0 q0d q0e x0d hB0 hB0d hB0e hne a1 a2 a3 b1 b2 b3 c1 hf
    obtain ⟨a1, a2, a3, a4, a5, a6⟩ := qa.out.facts
    have a7 := qa.out.lt
    go_wp2_with fail
    have hBp := hB
    refine (kva.out _ (hE.out.below hBp.out).1).mono ?_
    rintro e w4 ⟨rfl, hb⟩
    clear a1 a2 a3 a4 a5 a6 a7
    replace qa := Lib.hid (qa.out.below hb)
    replace qb := Lib.hid (qb.out.below hb)
    replace qx := Lib.hid (qx.out.below hb)
    replace hB := Lib.hid (hBp.out.trans (hb.mono hBp.out.size))
    clear hb hBp
    obtain ⟨b1, b2, b3, b4, b5, b6⟩ := qb.out.facts
    have b7 := qb.out.lt
    go_wp2_with fail
    have hBp := hB
    refine (kvb.out _ (hE.out.below hBp.out).1).mono ?_
    rintro e w5 ⟨rfl, hb⟩
    clear b1 b2 b3 b4 b5 b6 b7
    replace qa := Lib.hid (qa.out.below hb)
    replace qb := Lib.hid (qb.out.below hb)
    replace qx := Lib.hid (qx.out.below hb)
    replace hB := Lib.hid (hBp.out.trans (hb.mono hBp.out.size))
    clear hb hBp
    obtain ⟨x1, x2, x3, x4, x5, x6⟩ := qx.out.facts
    have x7 := qx.out.lt
    go_wp2_with fail
    have hBp := hB
    refine (kvx.out _ (hE.out.below hBp.out).1).mono ?_
    rintro e w6 ⟨rfl, hb⟩
    clear x1 x2 x3 x4 x5 x6 x7
    replace qa := Lib.hid (qa.out.below hb)
    replace qb := Lib.hid (qb.out.below hb)
    replace qx := Lib.hid (qx.out.below hb)
    replace hB := Lib.hid (hBp.out.trans (hb.mono hBp.out.size))
    clear hb hBp
    obtain ⟨x1, x2, x3, x4, x5, x6⟩ := qx.out.facts
    have x7 := qx.out.lt
    go_wp2
    go_ret
    exact ⟨rfl, hB.out⟩
  )


end Nt
end Go.Proofs.YtjahnkeafaebdaaGreatDoor


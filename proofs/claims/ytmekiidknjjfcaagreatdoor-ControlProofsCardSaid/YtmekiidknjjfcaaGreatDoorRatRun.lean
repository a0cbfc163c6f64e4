/- The walk of operation.run: its checks, and the operation. -/
import Derived.Test.YtmekiidknjjfcaaGreatDoorRatBox
namespace Go.Proofs.YtmekiidknjjfcaaGreatDoor
open Go.RowKit Go.Shelf
namespace Nt

/-- A block that holds an operation. -/
def B2 (W : World) (b : Nat) (z : Bool) (f : Nat) : Prop := W.heap[b]? = some (.cells #[.bool z, .func (.func f) #[] #[]] 95 (0, 0))
theorem B2.lt {W : World} {b : Nat} {z : Bool} {f : Nat} (h : B2 W b z f) : b < W.heap.size := (Array.getElem?_eq_some_iff.1 h).1
theorem B2.facts {W : World} {b : Nat} {z : Bool} {f : Nat} (h : B2 W b z f) : W.cell? ⟨b, 0, none⟩ = some (.bool z) ∧ W.cell? ⟨b, 1, none⟩ = some (.func (.func f) #[] #[]) := by
  unfold B2 at h
  simp [World.cell?, h]
theorem B2.below {W W' : World} {b : Nat} {z : Bool} {f : Nat} (h : B2 W b z f) (hb : Below W.heap.size W W') : B2 W' b z f := (hb.block b h.lt).trans h

/-- The four blocks that run lays. -/
def RunBoxes (W : World) (B : Nat) (z : Bool) (f : Nat) (g1 g2 : Bool) (n1 d1 n2 d2 : ByteArray) : Prop :=
  B2 W B z f ∧ B3 W (B + 1) g1 n1 d1 ∧ B3 W (B + 2) g2 n2 d2 ∧ B3 W (B + 3) false ⟨#[]⟩ ⟨#[]⟩
theorem RunBoxes.new (w : World) (z : Bool) (f : Nat) (g1 g2 : Bool) (n1 d1 n2 d2 : ByteArray) :
    RunBoxes ((((w.alloc (.cells #[.bool z, .func (.func f) #[] #[]] 95)).alloc (.cells #[.bool g1, .string n1, .string d1] 49)).alloc (.cells #[.bool g2, .string n2, .string d2] 49)).alloc (.cells #[.bool false, .string ⟨#[]⟩, .string ⟨#[]⟩] 49)) w.heap.size z f g1 g2 n1 d1 n2 d2 := by
  have e1 : (w.alloc (.cells #[.bool z, .func (.func f) #[] #[]] 95)).heap.size = w.heap.size + 1 := by simp
  have e2 : ((w.alloc (.cells #[.bool z, .func (.func f) #[] #[]] 95)).alloc (.cells #[.bool g1, .string n1, .string d1] 49)).heap.size = w.heap.size + 2 := by simp
  have e3 : (((w.alloc (.cells #[.bool z, .func (.func f) #[] #[]] 95)).alloc (.cells #[.bool g1, .string n1, .string d1] 49)).alloc (.cells #[.bool g2, .string n2, .string d2] 49)).heap.size = w.heap.size + 3 := by simp
  refine ⟨?_, ?_, ?_, ?_⟩
  · unfold B2
    rw [Below.heap_alloc _ _ _ (by rw [e3]; omega), Below.heap_alloc _ _ _ (by rw [e2]; omega), Below.heap_alloc _ _ _ (by rw [e1]; omega)]
    exact heap_alloc_new _ _
  · have h := B3.new (w.alloc (.cells #[.bool z, .func (.func f) #[] #[]] 95)) g1 n1 d1
    rw [e1] at h
    exact (h.alloc _).alloc _
  · have h := B3.new ((w.alloc (.cells #[.bool z, .func (.func f) #[] #[]] 95)).alloc (.cells #[.bool g1, .string n1, .string d1] 49)) g2 n2 d2
    rw [e2] at h
    exact h.alloc _
  · have h := B3.new (((w.alloc (.cells #[.bool z, .func (.func f) #[] #[]] 95)).alloc (.cells #[.bool g1, .string n1, .string d1] 49)).alloc (.cells #[.bool g2, .string n2, .string d2] 49)) false ⟨#[]⟩ ⟨#[]⟩
    rw [e3] at h
    exact h
theorem RunBoxes.below {W W' : World} {B : Nat} {z : Bool} {f : Nat} {g1 g2 : Bool} {n1 d1 n2 d2 : ByteArray} (h : RunBoxes W B z f g1 g2 n1 d1 n2 d2) (hb : Below W.heap.size W W') : RunBoxes W' B z f g1 g2 n1 d1 n2 d2 :=
  ⟨h.1.below hb, h.2.1.below hb, h.2.2.1.below hb, h.2.2.2.below hb⟩
theorem four_below (w : World) (o1 o2 o3 o4 : Obj) : Below w.heap.size w ((((w.alloc o1).alloc o2).alloc o3).alloc o4) :=
  ((((Below.refl _ w).alloc (Nat.le_refl _) _).alloc (by simp) _).alloc (by simp; omega) _).alloc (by simp; omega) _
theorem ret_agg {r r' : Bool} {n n' d d' : ByteArray} {e e' : Int} (h1 : r = r') (h2 : n = n') (h3 : d = d') (h4 : e = e') : Ending.returned (.tuple #[.agg #[.bool r, .string n, .string d], .int .i64 e]) = .returned (.tuple #[.agg #[.bool r', .string n', .string d'], .int .i64 e']) := by rw [h1, h2, h3, h4]

set_option maxRecDepth 100000 in
set_option maxHeartbeats 2000000 in
theorem run_bad1 (z : Bool) (f : Nat) (g1 g2 : Bool) (n1 d1 n2 d2 : ByteArray) (w : World) (hE : Env w) (s1 : n1.size ≤ 140737488355328) (s2 : d1.size ≤ 140737488355328) (_s3 : n2.size ≤ 140737488355328) (_s4 : d2.size ≤ 140737488355328) (v1 : validB g1 n1 d1 = false) :
    Calls Tryz.prog 57 #[.agg #[.bool z, .func (.func f) #[] #[]], .agg #[.bool g1, .string n1, .string d1], .agg #[.bool g2, .string n2, .string d2]] w fun e w' => e = .returned (.tuple #[.agg #[.bool false, .string ⟨#[]⟩, .string ⟨#[]⟩], .int .i64 1]) ∧ Below w.heap.size w w' := by
  have V1 := Lib.hid v1
  clear v1
  replace hE := Lib.hid hE
  go_enter Tryz.func57, Tryz.ntmps57
  go_wp2_with fail
  refine (Valid_any g1 n1 d1 _ (hE.out.below (four_below w _ _ _ _)) s1 s2).mono ?_
  rintro e w1 ⟨rfl, hb1⟩
  rw [V1.out]
  have q1 := (RunBoxes.new w z f g1 g2 n1 d1 n2 d2).below hb1
  have hB1 := Lib.hid ((four_below w _ _ _ _).trans (hb1.mono (four_below w _ _ _ _).size))
  obtain ⟨a1, a2⟩ := q1.1.facts
  obtain ⟨b1, b2, b3, b4, b5, b6⟩ := q1.2.1.facts
  obtain ⟨c1, c2, c3, c4, c5, c6⟩ := q1.2.2.1.facts
  obtain ⟨d1', d2', d3, d4, d5, d6⟩ := q1.2.2.2.facts
  have hz1 := q1.2.2.2.lt
  replace q1 := Lib.hid q1
  clear hb1
  go_wp2
  refine bodyPost_ret (v := .tuple #[.agg #[.bool false, .string ⟨#[]⟩, .string ⟨#[]⟩], .int .i64 1]) (by simp [results, Tryz.results57, go_sem, d1', d2', d3]) rfl ⟨rfl, ?_⟩
  repeat refine Below.setCell ?_ (by simp only []; omega) _
  exact hB1.out

set_option maxRecDepth 100000 in
set_option maxHeartbeats 2000000 in
theorem run_bad2 (z : Bool) (f : Nat) (g1 g2 : Bool) (n1 d1 n2 d2 : ByteArray) (w : World) (hE : Env w) (s1 : n1.size ≤ 140737488355328) (s2 : d1.size ≤ 140737488355328) (s3 : n2.size ≤ 140737488355328) (s4 : d2.size ≤ 140737488355328) (v1 : validB g1 n1 d1 = true) (v2 : validB g2 n2 d2 = false) :
    Calls Tryz.prog 57 #[.agg #[.bool z, .func (.func f) #[] #[]], .agg #[.bool g1, .string n1, .string d1], .agg #[.bool g2, .string n2, .string d2]] w fun e w' => e = .returned (.tuple #[.agg #[.bool false, .string ⟨#[]⟩, .string ⟨#[]⟩], .int .i64 1]) ∧ Below w.heap.size w w' := by
  have V1 := Lib.hid v1
  clear v1
  have V2 := Lib.hid v2
  clear v2
  replace hE := Lib.hid hE
  go_enter Tryz.func57, Tryz.ntmps57
  go_wp2_with fail
  refine (Valid_any g1 n1 d1 _ (hE.out.below (four_below w _ _ _ _)) s1 s2).mono ?_
  rintro e w1 ⟨rfl, hb1⟩
  rw [V1.out]
  have q1 := (RunBoxes.new w z f g1 g2 n1 d1 n2 d2).below hb1
  have hB1 := Lib.hid ((four_below w _ _ _ _).trans (hb1.mono (four_below w _ _ _ _).size))
  obtain ⟨a1, a2⟩ := q1.1.facts
  obtain ⟨b1, b2, b3, b4, b5, b6⟩ := q1.2.1.facts
  obtain ⟨c1, c2, c3, c4, c5, c6⟩ := q1.2.2.1.facts
  obtain ⟨d1', d2', d3, d4, d5, d6⟩ := q1.2.2.2.facts
  have hz1 := q1.2.2.2.lt
  replace q1 := Lib.hid q1
  clear hb1
  go_wp2_with fail
  refine (Valid_any g2 n2 d2 _ (hE.out.below hB1.out) s3 s4).mono ?_
  rintro e w2 ⟨rfl, hb2⟩
  rw [V2.out]
  have q2 := q1.out.below hb2
  have hB2 := Lib.hid (hB1.out.trans (hb2.mono hB1.out.size))
  clear a1 a2 b1 b2 b3 b4 b5 b6 c1 c2 c3 c4 c5 c6 d1' d2' d3 d4 d5 d6 hb2 q1
  obtain ⟨a1, a2⟩ := q2.1.facts
  obtain ⟨b1, b2, b3, b4, b5, b6⟩ := q2.2.1.facts
  obtain ⟨c1, c2, c3, c4, c5, c6⟩ := q2.2.2.1.facts
  obtain ⟨d1', d2', d3, d4, d5, d6⟩ := q2.2.2.2.facts
  have hz2 := q2.2.2.2.lt
  replace q2 := Lib.hid q2
  go_wp2
  refine bodyPost_ret (v := .tuple #[.agg #[.bool false, .string ⟨#[]⟩, .string ⟨#[]⟩], .int .i64 1]) (by simp [results, Tryz.results57, go_sem, d1', d2', d3]) rfl ⟨rfl, ?_⟩
  repeat refine Below.setCell ?_ (by simp only []; omega) _
  exact hB2.out

set_option maxRecDepth 100000 in
set_option maxHeartbeats 2000000 in
theorem run_zero (z : Bool) (f : Nat) (g1 g2 : Bool) (n1 d1 n2 d2 : ByteArray) (w : World) (hE : Env w) (s1 : n1.size ≤ 140737488355328) (s2 : d1.size ≤ 140737488355328) (s3 : n2.size ≤ 140737488355328) (s4 : d2.size ≤ 140737488355328) (v1 : validB g1 n1 d1 = true) (v2 : validB g2 n2 d2 = true) (hz : z = true) (h0 : (n2.toList == [48]) = true) :
    Calls Tryz.prog 57 #[.agg #[.bool z, .func (.func f) #[] #[]], .agg #[.bool g1, .string n1, .string d1], .agg #[.bool g2, .string n2, .string d2]] w fun e w' => e = .returned (.tuple #[.agg #[.bool false, .string ⟨#[]⟩, .string ⟨#[]⟩], .int .i64 15]) ∧ Below w.heap.size w w' := by
  have V1 := Lib.hid v1
  clear v1
  have V2 := Lib.hid v2
  clear v2
  subst hz
  replace hE := Lib.hid hE
  go_enter Tryz.func57, Tryz.ntmps57
  go_wp2_with fail
  refine (Valid_any g1 n1 d1 _ (hE.out.below (four_below w _ _ _ _)) s1 s2).mono ?_
  rintro e w1 ⟨rfl, hb1⟩
  rw [V1.out]
  have q1 := (RunBoxes.new w true f g1 g2 n1 d1 n2 d2).below hb1
  have hB1 := Lib.hid ((four_below w _ _ _ _).trans (hb1.mono (four_below w _ _ _ _).size))
  obtain ⟨a1, a2⟩ := q1.1.facts
  obtain ⟨b1, b2, b3, b4, b5, b6⟩ := q1.2.1.facts
  obtain ⟨c1, c2, c3, c4, c5, c6⟩ := q1.2.2.1.facts
  obtain ⟨d1', d2', d3, d4, d5, d6⟩ := q1.2.2.2.facts
  have hz1 := q1.2.2.2.lt
  replace q1 := Lib.hid q1
  clear hb1
  go_wp2_with fail
  refine (Valid_any g2 n2 d2 _ (hE.out.below hB1.out) s3 s4).mono ?_
  rintro e w2 ⟨rfl, hb2⟩
  rw [V2.out]
  have q2 := q1.out.below hb2
  have hB2 := Lib.hid (hB1.out.trans (hb2.mono hB1.out.size))
  clear a1 a2 b1 b2 b3 b4 b5 b6 c1 c2 c3 c4 c5 c6 d1' d2' d3 d4 d5 d6 hb2 q1
  obtain ⟨a1, a2⟩ := q2.1.facts
  obtain ⟨b1, b2, b3, b4, b5, b6⟩ := q2.2.1.facts
  obtain ⟨c1, c2, c3, c4, c5, c6⟩ := q2.2.2.1.facts
  obtain ⟨d1', d2', d3, d4, d5, d6⟩ := q2.2.2.2.facts
  have hz2 := q2.2.2.2.lt
  replace q2 := Lib.hid q2
  go_wp2
  refine bodyPost_ret (v := .tuple #[.agg #[.bool false, .string ⟨#[]⟩, .string ⟨#[]⟩], .int .i64 15]) (by simp [results, Tryz.results57, go_sem, d1', d2', d3]) rfl ⟨rfl, ?_⟩
  repeat refine Below.setCell ?_ (by simp only []; omega) _
  exact hB2.out

set_option maxRecDepth 100000 in
set_option maxHeartbeats 2000000 in
theorem run_long (z : Bool) (f : Nat) (g1 g2 : Bool) (n1 d1 n2 d2 : ByteArray) (w : World) (hE : Env w) (s1 : n1.size ≤ 140737488355328) (s2 : d1.size ≤ 140737488355328) (s3 : n2.size ≤ 140737488355328) (s4 : d2.size ≤ 140737488355328) (v1 : validB g1 n1 d1 = true) (v2 : validB g2 n2 d2 = true) (hz : z = false ∨ (z = true ∧ (n2.toList == [48]) = false)) (hl : ¬ (n1.size ≤ 140 ∧ d1.size ≤ 140 ∧ n2.size ≤ 140 ∧ d2.size ≤ 140)) :
    Calls Tryz.prog 57 #[.agg #[.bool z, .func (.func f) #[] #[]], .agg #[.bool g1, .string n1, .string d1], .agg #[.bool g2, .string n2, .string d2]] w fun e w' => e = .returned (.tuple #[.agg #[.bool false, .string ⟨#[]⟩, .string ⟨#[]⟩], .int .i64 2]) ∧ Below w.heap.size w w' := by
  have V1 := Lib.hid v1
  clear v1
  have V2 := Lib.hid v2
  clear v2
  rcases hz with rfl | ⟨rfl, h0⟩
  all_goals
  have hk : 140 < n1.size ∨ (n1.size ≤ 140 ∧ 140 < d1.size) ∨ (n1.size ≤ 140 ∧ d1.size ≤ 140 ∧ 140 < n2.size) ∨ (n1.size ≤ 140 ∧ d1.size ≤ 140 ∧ n2.size ≤ 140 ∧ 140 < d2.size) := by omega
  clear hl
  rcases hk with l1 | ⟨l1, l2⟩ | ⟨l1, l2, l3⟩ | ⟨l1, l2, l3, l4⟩
  all_goals
    replace hE := Lib.hid hE
    go_enter Tryz.func57, Tryz.ntmps57
    go_wp2_with fail
    refine (Valid_any g1 n1 d1 _ (hE.out.below (four_below w _ _ _ _)) s1 s2).mono ?_
    rintro e w1 ⟨rfl, hb1⟩
    rw [V1.out]
    have q1 := (RunBoxes.new w _ f g1 g2 n1 d1 n2 d2).below hb1
    have hB1 := Lib.hid ((four_below w _ _ _ _).trans (hb1.mono (four_below w _ _ _ _).size))
    obtain ⟨a1, a2⟩ := q1.1.facts
    obtain ⟨b1, b2, b3, b4, b5, b6⟩ := q1.2.1.facts
    obtain ⟨c1, c2, c3, c4, c5, c6⟩ := q1.2.2.1.facts
    obtain ⟨d1', d2', d3, d4, d5, d6⟩ := q1.2.2.2.facts
    have hz1 := q1.2.2.2.lt
    replace q1 := Lib.hid q1
    clear hb1
    go_wp2_with fail
    refine (Valid_any g2 n2 d2 _ (hE.out.below hB1.out) s3 s4).mono ?_
    rintro e w2 ⟨rfl, hb2⟩
    rw [V2.out]
    have q2 := q1.out.below hb2
    have hB2 := Lib.hid (hB1.out.trans (hb2.mono hB1.out.size))
    clear a1 a2 b1 b2 b3 b4 b5 b6 c1 c2 c3 c4 c5 c6 d1' d2' d3 d4 d5 d6 hb2 q1
    obtain ⟨a1, a2⟩ := q2.1.facts
    obtain ⟨b1, b2, b3, b4, b5, b6⟩ := q2.2.1.facts
    obtain ⟨c1, c2, c3, c4, c5, c6⟩ := q2.2.2.1.facts
    obtain ⟨d1', d2', d3, d4, d5, d6⟩ := q2.2.2.2.facts
    have hz2 := q2.2.2.2.lt
    replace q2 := Lib.hid q2
    go_wp2
    refine bodyPost_ret (v := .tuple #[.agg #[.bool false, .string ⟨#[]⟩, .string ⟨#[]⟩], .int .i64 2]) (by simp [results, Tryz.results57, go_sem, d1', d2', d3]) rfl ⟨rfl, ?_⟩
    repeat refine Below.setCell ?_ (by simp only []; omega) _
    exact hB2.out

set_option maxRecDepth 100000 in
set_option maxHeartbeats 2000000 in
theorem run_sum (g1 g2 : Bool) (n1 d1 n2 d2 : ByteArray) (w : World) (hE : Env w) (s1 : n1.size ≤ 140737488355328) (s2 : d1.size ≤ 140737488355328) (s3 : n2.size ≤ 140737488355328) (s4 : d2.size ≤ 140737488355328) (v1 : validB g1 n1 d1 = true) (v2 : validB g2 n2 d2 = true) (l1 : n1.size ≤ 140) (l2 : d1.size ≤ 140) (l3 : n2.size ≤ 140) (l4 : d2.size ≤ 140) (r : Bool) (n d : ByteArray) (E : Int)
    (hf : ∀ W, Env W → Calls Tryz.prog 56 #[.agg #[.bool g1, .string n1, .string d1], .agg #[.bool g2, .string n2, .string d2]] W fun e w' => e = .returned (.tuple #[.agg #[.bool r, .string n, .string d], .int .i64 E]) ∧ Below W.heap.size W w') :
    Calls Tryz.prog 57 #[.agg #[.bool false, .func (.func 56) #[] #[]], .agg #[.bool g1, .string n1, .string d1], .agg #[.bool g2, .string n2, .string d2]] w fun e w' => e = .returned (.tuple #[.agg #[.bool r, .string n, .string d], .int .i64 E]) ∧ Below w.heap.size w w' := by
  have V1 := Lib.hid v1
  clear v1
  have V2 := Lib.hid v2
  clear v2
  have HF := Lib.hid hf
  clear hf
  replace hE := Lib.hid hE
  go_enter Tryz.func57, Tryz.ntmps57
  go_wp2_with fail
  refine (Valid_any g1 n1 d1 _ (hE.out.below (four_below w _ _ _ _)) s1 s2).mono ?_
  rintro e w1 ⟨rfl, hb1⟩
  rw [V1.out]
  have q1 := (RunBoxes.new w _ _ g1 g2 n1 d1 n2 d2).below hb1
  have hB1 := Lib.hid ((four_below w _ _ _ _).trans (hb1.mono (four_below w _ _ _ _).size))
  obtain ⟨a1, a2⟩ := q1.1.facts
  obtain ⟨b1, b2, b3, b4, b5, b6⟩ := q1.2.1.facts
  obtain ⟨c1, c2, c3, c4, c5, c6⟩ := q1.2.2.1.facts
  obtain ⟨d1', d2', d3, d4, d5, d6⟩ := q1.2.2.2.facts
  have hz1 := q1.2.2.2.lt
  replace q1 := Lib.hid q1
  clear hb1
  go_wp2_with fail
  refine (Valid_any g2 n2 d2 _ (hE.out.below hB1.out) s3 s4).mono ?_
  rintro e w2 ⟨rfl, hb2⟩
  rw [V2.out]
  have q2 := q1.out.below hb2
  have hB2 := Lib.hid (hB1.out.trans (hb2.mono hB1.out.size))
  clear a1 a2 b1 b2 b3 b4 b5 b6 c1 c2 c3 c4 c5 c6 d1' d2' d3 d4 d5 d6 hb2 q1
  obtain ⟨a1, a2⟩ := q2.1.facts
  obtain ⟨b1, b2, b3, b4, b5, b6⟩ := q2.2.1.facts
  obtain ⟨c1, c2, c3, c4, c5, c6⟩ := q2.2.2.1.facts
  obtain ⟨d1', d2', d3, d4, d5, d6⟩ := q2.2.2.2.facts
  have hz2 := q2.2.2.2.lt
  replace q2 := Lib.hid q2
  go_wp2_with fail
  refine (HF.out _ (hE.out.below hB2.out)).mono ?_
  rintro e w3 ⟨rfl, hb3⟩
  have q3 := q2.out.below hb3
  have hB3 := Lib.hid (hB2.out.trans (hb3.mono hB2.out.size))
  clear a1 a2 b1 b2 b3 b4 b5 b6 c1 c2 c3 c4 c5 c6 d1' d2' d3 d4 d5 d6 hb3 q2
  obtain ⟨d1', d2', d3, d4, d5, d6⟩ := q3.2.2.2.facts
  have hz3 := q3.2.2.2.lt
  replace q3 := Lib.hid q3
  go_wp2
  refine bodyPost_ret (v := .tuple #[.agg #[.bool r, .string n, .string d], .int .i64 E]) (by simp [results, Tryz.results57, go_sem, d1', d2', d3]) rfl ⟨rfl, ?_⟩
  repeat refine Below.setCell ?_ (by simp only []; omega) _
  exact hB3.out

set_option maxRecDepth 100000 in
set_option maxHeartbeats 2000000 in
theorem run_sub (g1 g2 : Bool) (n1 d1 n2 d2 : ByteArray) (w : World) (hE : Env w) (s1 : n1.size ≤ 140737488355328) (s2 : d1.size ≤ 140737488355328) (s3 : n2.size ≤ 140737488355328) (s4 : d2.size ≤ 140737488355328) (v1 : validB g1 n1 d1 = true) (v2 : validB g2 n2 d2 = true) (l1 : n1.size ≤ 140) (l2 : d1.size ≤ 140) (l3 : n2.size ≤ 140) (l4 : d2.size ≤ 140) (r : Bool) (n d : ByteArray) (E : Int)
    (hf : ∀ W, Env W → Calls Tryz.prog 76 #[.agg #[.bool g1, .string n1, .string d1], .agg #[.bool g2, .string n2, .string d2]] W fun e w' => e = .returned (.tuple #[.agg #[.bool r, .string n, .string d], .int .i64 E]) ∧ Below W.heap.size W w') :
    Calls Tryz.prog 57 #[.agg #[.bool false, .func (.func 76) #[] #[]], .agg #[.bool g1, .string n1, .string d1], .agg #[.bool g2, .string n2, .string d2]] w fun e w' => e = .returned (.tuple #[.agg #[.bool r, .string n, .string d], .int .i64 E]) ∧ Below w.heap.size w w' := by
  have V1 := Lib.hid v1
  clear v1
  have V2 := Lib.hid v2
  clear v2
  have HF := Lib.hid hf
  clear hf
  replace hE := Lib.hid hE
  go_enter Tryz.func57, Tryz.ntmps57
  go_wp2_with fail
  refine (Valid_any g1 n1 d1 _ (hE.out.below (four_below w _ _ _ _)) s1 s2).mono ?_
  rintro e w1 ⟨rfl, hb1⟩
  rw [V1.out]
  have q1 := (RunBoxes.new w _ _ g1 g2 n1 d1 n2 d2).below hb1
  have hB1 := Lib.hid ((four_below w _ _ _ _).trans (hb1.mono (four_below w _ _ _ _).size))
  obtain ⟨a1, a2⟩ := q1.1.facts
  obtain ⟨b1, b2, b3, b4, b5, b6⟩ := q1.2.1.facts
  obtain ⟨c1, c2, c3, c4, c5, c6⟩ := q1.2.2.1.facts
  obtain ⟨d1', d2', d3, d4, d5, d6⟩ := q1.2.2.2.facts
  have hz1 := q1.2.2.2.lt
  replace q1 := Lib.hid q1
  clear hb1
  go_wp2_with fail
  refine (Valid_any g2 n2 d2 _ (hE.out.below hB1.out) s3 s4).mono ?_
  rintro e w2 ⟨rfl, hb2⟩
  rw [V2.out]
  have q2 := q1.out.below hb2
  have hB2 := Lib.hid (hB1.out.trans (hb2.mono hB1.out.size))
  clear a1 a2 b1 b2 b3 b4 b5 b6 c1 c2 c3 c4 c5 c6 d1' d2' d3 d4 d5 d6 hb2 q1
  obtain ⟨a1, a2⟩ := q2.1.facts
  obtain ⟨b1, b2, b3, b4, b5, b6⟩ := q2.2.1.facts
  obtain ⟨c1, c2, c3, c4, c5, c6⟩ := q2.2.2.1.facts
  obtain ⟨d1', d2', d3, d4, d5, d6⟩ := q2.2.2.2.facts
  have hz2 := q2.2.2.2.lt
  replace q2 := Lib.hid q2
  go_wp2_with fail
  refine (HF.out _ (hE.out.below hB2.out)).mono ?_
  rintro e w3 ⟨rfl, hb3⟩
  have q3 := q2.out.below hb3
  have hB3 := Lib.hid (hB2.out.trans (hb3.mono hB2.out.size))
  clear a1 a2 b1 b2 b3 b4 b5 b6 c1 c2 c3 c4 c5 c6 d1' d2' d3 d4 d5 d6 hb3 q2
  obtain ⟨d1', d2', d3, d4, d5, d6⟩ := q3.2.2.2.facts
  have hz3 := q3.2.2.2.lt
  replace q3 := Lib.hid q3
  go_wp2
  refine bodyPost_ret (v := .tuple #[.agg #[.bool r, .string n, .string d], .int .i64 E]) (by simp [results, Tryz.results57, go_sem, d1', d2', d3]) rfl ⟨rfl, ?_⟩
  repeat refine Below.setCell ?_ (by simp only []; omega) _
  exact hB3.out

end Nt
end Go.Proofs.YtmekiidknjjfcaaGreatDoor


/- ratio's Add, Sub, Mul, Div. -/
import Derived.Test.YtjjlnahipiinfaaGreatDoorRatQ
import Derived.Test.YtjjlnahipiinfaaGreatDoorRatRun
namespace Go.Proofs.YtjjlnahipiinfaaGreatDoor
open Go.RowKit Go.Shelf
namespace Nt

theorem size_of_valid {g : Bool} {n d : ByteArray} (h : validB g n d = true) : n.size ≤ 300 ∧ d.size ≤ 300 := by
  unfold validB at h
  simp only [Bool.and_eq_true] at h
  exact ⟨size_of_isN h.1, size_of_isN h.2.1⟩
theorem short_sizes {q : Rat} (h : ShortQ q) : (T (some q.num.natAbs)).size ≤ 140 ∧ (T (some q.den)).size ≤ 140 := ⟨(size_L1 _).2 h.1, (size_L1 _).2 h.2⟩
theorem short_of_sizes {q : Rat} (h1 : (T (some q.num.natAbs)).size ≤ 140) (h2 : (T (some q.den)).size ≤ 140) : ShortQ q := ⟨(size_L1 _).1 h1, (size_L1 _).1 h2⟩
theorem num_ne_zero {q : Rat} (h : q ≠ 0) : q.num ≠ 0 := fun e => h (Rat.num_eq_zero.1 e)

set_option maxRecDepth 100000 in
set_option maxHeartbeats 1000000 in
theorem Add_w (g1 g2 : Bool) (n1 d1 n2 d2 : ByteArray) (r : Bool) (n d : ByteArray) (E : Int) (w : World) (hE : Env w)
    (hr : ∀ W, Env W → Calls Tryz.prog 42 #[.agg #[.bool false, .func (.func 43) #[] #[]], .agg #[.bool g1, .string n1, .string d1], .agg #[.bool g2, .string n2, .string d2]] W fun e w' => e = .returned (.tuple #[.agg #[.bool r, .string n, .string d], .int .i64 E]) ∧ Below W.heap.size W w') :
    Calls Tryz.prog 22 #[.agg #[.bool g1, .string n1, .string d1], .agg #[.bool g2, .string n2, .string d2]] w fun e w' => e = .returned (.tuple #[.agg #[.bool r, .string n, .string d], .int .i64 E]) ∧ Below w.heap.size w w' := by
  have hQE := Lib.hid (TwoBoxes.new w g1 g2 n1 d1 n2 d2)
  have hBE := Lib.hid (twoW_below w g1 g2 n1 d1 n2 d2)
  replace hE := Lib.hid hE
  replace hr := Lib.hid hr
  go_enter Tryz.func22, Tryz.ntmps22
  go_wp2_with fail
  refine (hr.out _ (hE.out.below hBE.out)).mono ?_
  rintro e w1 ⟨rfl, hb1⟩
  have q1 := hQE.out.below hb1
  have hB1 := Lib.hid (hBE.out.trans (hb1.mono hBE.out.size))
  obtain ⟨c1, c2, c3, c4, c5, c6⟩ := q1.2.2.facts
  have hz1 := q1.2.2.lt
  clear hb1
  replace q1 := Lib.hid q1
  go_wp2
  refine bodyPost_ret (v := .tuple #[.agg #[.bool r, .string n, .string d], .int .i64 E]) (by simp [results, Tryz.results22, go_sem, c1, c2, c3]) rfl ⟨rfl, ?_⟩
  repeat refine Below.setCell ?_ (by simp only []; omega) _
  exact hB1.out

theorem Add_bad (g1 g2 : Bool) (n1 d1 n2 d2 : ByteArray) (w : World) (hE : Env w) (s1 : n1.size ≤ 140737488355328) (s2 : d1.size ≤ 140737488355328) (s3 : n2.size ≤ 140737488355328) (s4 : d2.size ≤ 140737488355328) (hb : validB g1 n1 d1 = false ∨ validB g2 n2 d2 = false) :
    Calls Tryz.prog 22 #[.agg #[.bool g1, .string n1, .string d1], .agg #[.bool g2, .string n2, .string d2]] w fun e w' => e = .returned (.tuple #[zv, .int .i64 1]) ∧ Below w.heap.size w w' := by
  refine Add_w g1 g2 n1 d1 n2 d2 false ⟨#[]⟩ ⟨#[]⟩ 1 w hE fun W hW => ?_
  cases h1 : validB g1 n1 d1 with
  | false => exact run_bad1 false 43 g1 g2 n1 d1 n2 d2 W hW s1 s2 s3 s4 h1
  | true =>
    have h2 : validB g2 n2 d2 = false := by rcases hb with h | h; (· rw [h1] at h; cases h); (· exact h)
    exact run_bad2 false 43 g1 g2 n1 d1 n2 d2 W hW s1 s2 s3 s4 h1 h2

theorem Add_short (p q : Rat) (hp : ShortQ p) (hq : ShortQ q) (w : World) (hE : Env w) :
    Calls Tryz.prog 22 #[qv p, qv q] w fun e w' => e = .returned (.tuple #[qv (p + q), .int .i64 0]) ∧ Below w.heap.size w w' := by
  have l1 := short_sizes hp
  have l2 := short_sizes hq
  refine Add_w _ _ _ _ _ _ _ _ _ _ w hE fun W hW => ?_
  exact run_sum _ _ _ _ _ _ W hW (by omega) (by omega) (by omega) (by omega) (valid_qv hp.ok) (valid_qv hq.ok) l1.1 l1.2 l2.1 l2.2 _ _ _ _ fun W2 h2 => sum_q p q hp hq W2 h2

theorem Add_long (p q : Rat) (hp : OkQ p) (hq : OkQ q) (hl : ¬ (ShortQ p ∧ ShortQ q)) (w : World) (hE : Env w) :
    Calls Tryz.prog 22 #[qv p, qv q] w fun e w' => e = .returned (.tuple #[zv, .int .i64 2]) ∧ Below w.heap.size w w' := by
  have v1 := valid_qv hp
  have v2 := valid_qv hq
  have l1 := size_of_valid v1
  have l2 := size_of_valid v2
  refine Add_w _ _ _ _ _ _ false ⟨#[]⟩ ⟨#[]⟩ 2 w hE fun W hW => ?_
  exact run_long false 43 _ _ _ _ _ _ W hW (by omega) (by omega) (by omega) (by omega) v1 v2 (.inl rfl) fun h => hl ⟨short_of_sizes h.1 h.2.1, short_of_sizes h.2.2.1 h.2.2.2⟩

set_option maxRecDepth 100000 in
set_option maxHeartbeats 1000000 in
theorem Sub_w (g1 g2 : Bool) (n1 d1 n2 d2 : ByteArray) (r : Bool) (n d : ByteArray) (E : Int) (w : World) (hE : Env w)
    (hr : ∀ W, Env W → Calls Tryz.prog 42 #[.agg #[.bool false, .func (.func 47) #[] #[]], .agg #[.bool g1, .string n1, .string d1], .agg #[.bool g2, .string n2, .string d2]] W fun e w' => e = .returned (.tuple #[.agg #[.bool r, .string n, .string d], .int .i64 E]) ∧ Below W.heap.size W w') :
    Calls Tryz.prog 33 #[.agg #[.bool g1, .string n1, .string d1], .agg #[.bool g2, .string n2, .string d2]] w fun e w' => e = .returned (.tuple #[.agg #[.bool r, .string n, .string d], .int .i64 E]) ∧ Below w.heap.size w w' := by
  have hQE := Lib.hid (TwoBoxes.new w g1 g2 n1 d1 n2 d2)
  have hBE := Lib.hid (twoW_below w g1 g2 n1 d1 n2 d2)
  replace hE := Lib.hid hE
  replace hr := Lib.hid hr
  go_enter Tryz.func33, Tryz.ntmps33
  go_wp2_with fail
  refine (hr.out _ (hE.out.below hBE.out)).mono ?_
  rintro e w1 ⟨rfl, hb1⟩
  have q1 := hQE.out.below hb1
  have hB1 := Lib.hid (hBE.out.trans (hb1.mono hBE.out.size))
  obtain ⟨c1, c2, c3, c4, c5, c6⟩ := q1.2.2.facts
  have hz1 := q1.2.2.lt
  clear hb1
  replace q1 := Lib.hid q1
  go_wp2
  refine bodyPost_ret (v := .tuple #[.agg #[.bool r, .string n, .string d], .int .i64 E]) (by simp [results, Tryz.results33, go_sem, c1, c2, c3]) rfl ⟨rfl, ?_⟩
  repeat refine Below.setCell ?_ (by simp only []; omega) _
  exact hB1.out

theorem Sub_bad (g1 g2 : Bool) (n1 d1 n2 d2 : ByteArray) (w : World) (hE : Env w) (s1 : n1.size ≤ 140737488355328) (s2 : d1.size ≤ 140737488355328) (s3 : n2.size ≤ 140737488355328) (s4 : d2.size ≤ 140737488355328) (hb : validB g1 n1 d1 = false ∨ validB g2 n2 d2 = false) :
    Calls Tryz.prog 33 #[.agg #[.bool g1, .string n1, .string d1], .agg #[.bool g2, .string n2, .string d2]] w fun e w' => e = .returned (.tuple #[zv, .int .i64 1]) ∧ Below w.heap.size w w' := by
  refine Sub_w g1 g2 n1 d1 n2 d2 false ⟨#[]⟩ ⟨#[]⟩ 1 w hE fun W hW => ?_
  cases h1 : validB g1 n1 d1 with
  | false => exact run_bad1 false 47 g1 g2 n1 d1 n2 d2 W hW s1 s2 s3 s4 h1
  | true =>
    have h2 : validB g2 n2 d2 = false := by rcases hb with h | h; (· rw [h1] at h; cases h); (· exact h)
    exact run_bad2 false 47 g1 g2 n1 d1 n2 d2 W hW s1 s2 s3 s4 h1 h2

theorem Sub_short (p q : Rat) (hp : ShortQ p) (hq : ShortQ q) (w : World) (hE : Env w) :
    Calls Tryz.prog 33 #[qv p, qv q] w fun e w' => e = .returned (.tuple #[qv (p - q), .int .i64 0]) ∧ Below w.heap.size w w' := by
  have l1 := short_sizes hp
  have l2 := short_sizes hq
  refine Sub_w _ _ _ _ _ _ _ _ _ _ w hE fun W hW => ?_
  exact run_sub _ _ _ _ _ _ W hW (by omega) (by omega) (by omega) (by omega) (valid_qv hp.ok) (valid_qv hq.ok) l1.1 l1.2 l2.1 l2.2 _ _ _ _ fun W2 h2 => subc_q p q hp hq W2 h2

theorem Sub_long (p q : Rat) (hp : OkQ p) (hq : OkQ q) (hl : ¬ (ShortQ p ∧ ShortQ q)) (w : World) (hE : Env w) :
    Calls Tryz.prog 33 #[qv p, qv q] w fun e w' => e = .returned (.tuple #[zv, .int .i64 2]) ∧ Below w.heap.size w w' := by
  have v1 := valid_qv hp
  have v2 := valid_qv hq
  have l1 := size_of_valid v1
  have l2 := size_of_valid v2
  refine Sub_w _ _ _ _ _ _ false ⟨#[]⟩ ⟨#[]⟩ 2 w hE fun W hW => ?_
  exact run_long false 47 _ _ _ _ _ _ W hW (by omega) (by omega) (by omega) (by omega) v1 v2 (.inl rfl) fun h => hl ⟨short_of_sizes h.1 h.2.1, short_of_sizes h.2.2.1 h.2.2.2⟩

set_option maxRecDepth 100000 in
set_option maxHeartbeats 1000000 in
theorem Mul_w (g1 g2 : Bool) (n1 d1 n2 d2 : ByteArray) (r : Bool) (n d : ByteArray) (E : Int) (w : World) (hE : Env w)
    (hr : ∀ W, Env W → Calls Tryz.prog 42 #[.agg #[.bool false, .func (.func 41) #[] #[]], .agg #[.bool g1, .string n1, .string d1], .agg #[.bool g2, .string n2, .string d2]] W fun e w' => e = .returned (.tuple #[.agg #[.bool r, .string n, .string d], .int .i64 E]) ∧ Below W.heap.size W w') :
    Calls Tryz.prog 21 #[.agg #[.bool g1, .string n1, .string d1], .agg #[.bool g2, .string n2, .string d2]] w fun e w' => e = .returned (.tuple #[.agg #[.bool r, .string n, .string d], .int .i64 E]) ∧ Below w.heap.size w w' := by
  have hQE := Lib.hid (TwoBoxes.new w g1 g2 n1 d1 n2 d2)
  have hBE := Lib.hid (twoW_below w g1 g2 n1 d1 n2 d2)
  replace hE := Lib.hid hE
  replace hr := Lib.hid hr
  go_enter Tryz.func21, Tryz.ntmps21
  go_wp2_with fail
  refine (hr.out _ (hE.out.below hBE.out)).mono ?_
  rintro e w1 ⟨rfl, hb1⟩
  have q1 := hQE.out.below hb1
  have hB1 := Lib.hid (hBE.out.trans (hb1.mono hBE.out.size))
  obtain ⟨c1, c2, c3, c4, c5, c6⟩ := q1.2.2.facts
  have hz1 := q1.2.2.lt
  clear hb1
  replace q1 := Lib.hid q1
  go_wp2
  refine bodyPost_ret (v := .tuple #[.agg #[.bool r, .string n, .string d], .int .i64 E]) (by simp [results, Tryz.results21, go_sem, c1, c2, c3]) rfl ⟨rfl, ?_⟩
  repeat refine Below.setCell ?_ (by simp only []; omega) _
  exact hB1.out

theorem Mul_bad (g1 g2 : Bool) (n1 d1 n2 d2 : ByteArray) (w : World) (hE : Env w) (s1 : n1.size ≤ 140737488355328) (s2 : d1.size ≤ 140737488355328) (s3 : n2.size ≤ 140737488355328) (s4 : d2.size ≤ 140737488355328) (hb : validB g1 n1 d1 = false ∨ validB g2 n2 d2 = false) :
    Calls Tryz.prog 21 #[.agg #[.bool g1, .string n1, .string d1], .agg #[.bool g2, .string n2, .string d2]] w fun e w' => e = .returned (.tuple #[zv, .int .i64 1]) ∧ Below w.heap.size w w' := by
  refine Mul_w g1 g2 n1 d1 n2 d2 false ⟨#[]⟩ ⟨#[]⟩ 1 w hE fun W hW => ?_
  cases h1 : validB g1 n1 d1 with
  | false => exact run_bad1 false 41 g1 g2 n1 d1 n2 d2 W hW s1 s2 s3 s4 h1
  | true =>
    have h2 : validB g2 n2 d2 = false := by rcases hb with h | h; (· rw [h1] at h; cases h); (· exact h)
    exact run_bad2 false 41 g1 g2 n1 d1 n2 d2 W hW s1 s2 s3 s4 h1 h2

theorem Mul_short (p q : Rat) (hp : ShortQ p) (hq : ShortQ q) (w : World) (hE : Env w) :
    Calls Tryz.prog 21 #[qv p, qv q] w fun e w' => e = .returned (.tuple #[qv (p * q), .int .i64 0]) ∧ Below w.heap.size w w' := by
  have l1 := short_sizes hp
  have l2 := short_sizes hq
  refine Mul_w _ _ _ _ _ _ _ _ _ _ w hE fun W hW => ?_
  exact run_product _ _ _ _ _ _ W hW (by omega) (by omega) (by omega) (by omega) (valid_qv hp.ok) (valid_qv hq.ok) l1.1 l1.2 l2.1 l2.2 _ _ _ _ fun W2 h2 => product_q p q hp hq W2 h2

theorem Mul_long (p q : Rat) (hp : OkQ p) (hq : OkQ q) (hl : ¬ (ShortQ p ∧ ShortQ q)) (w : World) (hE : Env w) :
    Calls Tryz.prog 21 #[qv p, qv q] w fun e w' => e = .returned (.tuple #[zv, .int .i64 2]) ∧ Below w.heap.size w w' := by
  have v1 := valid_qv hp
  have v2 := valid_qv hq
  have l1 := size_of_valid v1
  have l2 := size_of_valid v2
  refine Mul_w _ _ _ _ _ _ false ⟨#[]⟩ ⟨#[]⟩ 2 w hE fun W hW => ?_
  exact run_long false 41 _ _ _ _ _ _ W hW (by omega) (by omega) (by omega) (by omega) v1 v2 (.inl rfl) fun h => hl ⟨short_of_sizes h.1 h.2.1, short_of_sizes h.2.2.1 h.2.2.2⟩

set_option maxRecDepth 100000 in
set_option maxHeartbeats 1000000 in
theorem Div_w (g1 g2 : Bool) (n1 d1 n2 d2 : ByteArray) (r : Bool) (n d : ByteArray) (E : Int) (w : World) (hE : Env w)
    (hr : ∀ W, Env W → Calls Tryz.prog 42 #[.agg #[.bool true, .func (.func 46) #[] #[]], .agg #[.bool g1, .string n1, .string d1], .agg #[.bool g2, .string n2, .string d2]] W fun e w' => e = .returned (.tuple #[.agg #[.bool r, .string n, .string d], .int .i64 E]) ∧ Below W.heap.size W w') :
    Calls Tryz.prog 31 #[.agg #[.bool g1, .string n1, .string d1], .agg #[.bool g2, .string n2, .string d2]] w fun e w' => e = .returned (.tuple #[.agg #[.bool r, .string n, .string d], .int .i64 E]) ∧ Below w.heap.size w w' := by
  have hQE := Lib.hid (TwoBoxes.new w g1 g2 n1 d1 n2 d2)
  have hBE := Lib.hid (twoW_below w g1 g2 n1 d1 n2 d2)
  replace hE := Lib.hid hE
  replace hr := Lib.hid hr
  go_enter Tryz.func31, Tryz.ntmps31
  go_wp2_with fail
  refine (hr.out _ (hE.out.below hBE.out)).mono ?_
  rintro e w1 ⟨rfl, hb1⟩
  have q1 := hQE.out.below hb1
  have hB1 := Lib.hid (hBE.out.trans (hb1.mono hBE.out.size))
  obtain ⟨c1, c2, c3, c4, c5, c6⟩ := q1.2.2.facts
  have hz1 := q1.2.2.lt
  clear hb1
  replace q1 := Lib.hid q1
  go_wp2
  refine bodyPost_ret (v := .tuple #[.agg #[.bool r, .string n, .string d], .int .i64 E]) (by simp [results, Tryz.results31, go_sem, c1, c2, c3]) rfl ⟨rfl, ?_⟩
  repeat refine Below.setCell ?_ (by simp only []; omega) _
  exact hB1.out

theorem Div_bad (g1 g2 : Bool) (n1 d1 n2 d2 : ByteArray) (w : World) (hE : Env w) (s1 : n1.size ≤ 140737488355328) (s2 : d1.size ≤ 140737488355328) (s3 : n2.size ≤ 140737488355328) (s4 : d2.size ≤ 140737488355328) (hb : validB g1 n1 d1 = false ∨ validB g2 n2 d2 = false) :
    Calls Tryz.prog 31 #[.agg #[.bool g1, .string n1, .string d1], .agg #[.bool g2, .string n2, .string d2]] w fun e w' => e = .returned (.tuple #[zv, .int .i64 1]) ∧ Below w.heap.size w w' := by
  refine Div_w g1 g2 n1 d1 n2 d2 false ⟨#[]⟩ ⟨#[]⟩ 1 w hE fun W hW => ?_
  cases h1 : validB g1 n1 d1 with
  | false => exact run_bad1 true 46 g1 g2 n1 d1 n2 d2 W hW s1 s2 s3 s4 h1
  | true =>
    have h2 : validB g2 n2 d2 = false := by rcases hb with h | h; (· rw [h1] at h; cases h); (· exact h)
    exact run_bad2 true 46 g1 g2 n1 d1 n2 d2 W hW s1 s2 s3 s4 h1 h2

theorem Div_short (p q : Rat) (hp : ShortQ p) (hq : ShortQ q) (h0 : q ≠ 0) (w : World) (hE : Env w) :
    Calls Tryz.prog 31 #[qv p, qv q] w fun e w' => e = .returned (.tuple #[qv (p / q), .int .i64 0]) ∧ Below w.heap.size w w' := by
  have l1 := short_sizes hp
  have l2 := short_sizes hq
  have hn := num_ne_zero h0
  have hz := T_is_zero q.num.natAbs
  rw [decide_eq_false (by omega)] at hz
  refine Div_w _ _ _ _ _ _ _ _ _ _ w hE fun W hW => ?_
  exact run_div _ _ _ _ _ _ W hW (by omega) (by omega) (by omega) (by omega) (valid_qv hp.ok) (valid_qv hq.ok) hz l1.1 l1.2 l2.1 l2.2 _ _ _ _ fun W2 h2 => divc_q p q hp hq hn W2 h2

theorem Div_zero (p : Rat) (hp : OkQ p) (w : World) (hE : Env w) :
    Calls Tryz.prog 31 #[qv p, qv 0] w fun e w' => e = .returned (.tuple #[zv, .int .i64 15]) ∧ Below w.heap.size w w' := by
  have v1 := valid_qv hp
  have v2 := valid_qv (q := 0) ⟨by have := one_lt_Lim; show 0 < Lim; omega, one_lt_Lim⟩
  have l1 := size_of_valid v1
  have l2 := size_of_valid v2
  have hz : ((T (some (0 : Rat).num.natAbs)).toList == [48]) = true := T_is_zero 0
  refine Div_w _ _ _ _ _ _ false ⟨#[]⟩ ⟨#[]⟩ 15 w hE fun W hW => ?_
  exact run_zero true 46 _ _ _ _ _ _ W hW (by omega) (by omega) (by omega) (by omega) v1 v2 rfl hz

theorem Div_long (p q : Rat) (hp : OkQ p) (hq : OkQ q) (h0 : q ≠ 0) (hl : ¬ (ShortQ p ∧ ShortQ q)) (w : World) (hE : Env w) :
    Calls Tryz.prog 31 #[qv p, qv q] w fun e w' => e = .returned (.tuple #[zv, .int .i64 2]) ∧ Below w.heap.size w w' := by
  have v1 := valid_qv hp
  have v2 := valid_qv hq
  have l1 := size_of_valid v1
  have l2 := size_of_valid v2
  have hn := num_ne_zero h0
  have hz := T_is_zero q.num.natAbs
  rw [decide_eq_false (by omega)] at hz
  refine Div_w _ _ _ _ _ _ false ⟨#[]⟩ ⟨#[]⟩ 2 w hE fun W hW => ?_
  exact run_long true 46 _ _ _ _ _ _ W hW (by omega) (by omega) (by omega) (by omega) v1 v2 (.inr ⟨rfl, hz⟩) fun h => hl ⟨short_of_sizes h.1 h.2.1, short_of_sizes h.2.2.1 h.2.2.2⟩

def cmpQ (p q : Rat) : Int := if p < q then -1 else if p = q then 0 else 1
theorem neg_iff (q : Rat) : q.num < 0 ↔ q < 0 := by
  rw [Rat.lt_iff]
  show _ ↔ q.num * 1 < 0 * _
  omega
theorem sub_neg_iff (p q : Rat) : (p - q).num < 0 ↔ p < q := by
  rw [neg_iff, Rat.sub_lt_iff, Rat.zero_add]
theorem sub_zero_iff (p q : Rat) : p - q = 0 ↔ p = q := by
  constructor
  · intro h
    have e : p - q + q = 0 + q := congrArg (· + q) h
    rwa [Rat.sub_add_cancel, Rat.zero_add] at e
  · intro h; rw [h]; exact Rat.sub_self

end Nt
end Go.Proofs.YtjjlnahipiinfaaGreatDoor


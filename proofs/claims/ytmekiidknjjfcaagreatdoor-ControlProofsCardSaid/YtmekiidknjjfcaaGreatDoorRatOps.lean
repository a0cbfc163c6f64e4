/- ratio's Add, Sub, Mul, Div. -/
import Derived.Test.YtmekiidknjjfcaaGreatDoorRatQ
import Derived.Test.YtmekiidknjjfcaaGreatDoorRatRun
namespace Go.Proofs.YtmekiidknjjfcaaGreatDoor
open Go.RowKit Go.Shelf
namespace Nt

theorem size_of_valid {g : Bool} {n d : ByteArray} (h : validB g n d = true) : n.size ≤ 300 ∧ d.size ≤ 300 := by
  unfold validB at h
  simp only [Bool.and_eq_true] at h
  exact ⟨size_of_isN h.1, size_of_isN h.2.1⟩
theorem short_sizes {q : Rat} (h : ShortQ q) : (T (some q.num.natAbs)).size ≤ 140 ∧ (T (some q.den)).size ≤ 140 := ⟨(size_L1 _).2 h.1, (size_L1 _).2 h.2⟩
theorem short_of_sizes {q : Rat} (h1 : (T (some q.num.natAbs)).size ≤ 140) (h2 : (T (some q.den)).size ≤ 140) : ShortQ q := ⟨(size_L1 _).1 h1, (size_L1 _).1 h2⟩
theorem num_ne_zero {q : Rat} (h : q ≠ 0) : q.num ≠ 0 := fun e => h (Rat.num_eq_zero.1 e)

set_option maxRecDepth 100000 in
set_option maxHeartbeats 1000000 in
theorem Add_w (g1 g2 : Bool) (n1 d1 n2 d2 : ByteArray) (r : Bool) (n d : ByteArray) (E : Int) (w : World) (hE : Env w)
    (hr : ∀ W, Env W → Calls Tryz.prog 57 #[.agg #[.bool false, .func (.func 56) #[] #[]], .agg #[.bool g1, .string n1, .string d1], .agg #[.bool g2, .string n2, .string d2]] W fun e w' => e = .returned (.tuple #[.agg #[.bool r, .string n, .string d], .int .i64 E]) ∧ Below W.heap.size W w') :
    Calls Tryz.prog 42 #[.agg #[.bool g1, .string n1, .string d1], .agg #[.bool g2, .string n2, .string d2]] w fun e w' => e = .returned (.tuple #[.agg #[.bool r, .string n, .string d], .int .i64 E]) ∧ Below w.heap.size w w' := by
  have hQE := Lib.hid (TwoBoxes.new w g1 g2 n1 d1 n2 d2)
  have hBE := Lib.hid (twoW_below w g1 g2 n1 d1 n2 d2)
  replace hE := Lib.hid hE
  replace hr := Lib.hid hr
  go_enter Tryz.func42, Tryz.ntmps42
  go_wp2_with fail
  refine (hr.out _ (hE.out.below hBE.out)).mono ?_
  rintro e w1 ⟨rfl, hb1⟩
  have q1 := hQE.out.below hb1
  have hB1 := Lib.hid (hBE.out.trans (hb1.mono hBE.out.size))
  obtain ⟨c1, c2, c3, c4, c5, c6⟩ := q1.2.2.facts
  have hz1 := q1.2.2.lt
  clear hb1
  replace q1 := Lib.hid q1
  go_wp2
  refine bodyPost_ret (v := .tuple #[.agg #[.bool r, .string n, .string d], .int .i64 E]) (by simp [results, Tryz.results42, go_sem, c1, c2, c3]) rfl ⟨rfl, ?_⟩
  repeat refine Below.setCell ?_ (by simp only []; omega) _
  exact hB1.out

theorem Add_bad (g1 g2 : Bool) (n1 d1 n2 d2 : ByteArray) (w : World) (hE : Env w) (s1 : n1.size ≤ 140737488355328) (s2 : d1.size ≤ 140737488355328) (s3 : n2.size ≤ 140737488355328) (s4 : d2.size ≤ 140737488355328) (hb : validB g1 n1 d1 = false ∨ validB g2 n2 d2 = false) :
    Calls Tryz.prog 42 #[.agg #[.bool g1, .string n1, .string d1], .agg #[.bool g2, .string n2, .string d2]] w fun e w' => e = .returned (.tuple #[zv, .int .i64 1]) ∧ Below w.heap.size w w' := by
  refine Add_w g1 g2 n1 d1 n2 d2 false ⟨#[]⟩ ⟨#[]⟩ 1 w hE fun W hW => ?_
  cases h1 : validB g1 n1 d1 with
  | false => exact run_bad1 false 56 g1 g2 n1 d1 n2 d2 W hW s1 s2 s3 s4 h1
  | true =>
    have h2 : validB g2 n2 d2 = false := by rcases hb with h | h; (· rw [h1] at h; cases h); (· exact h)
    exact run_bad2 false 56 g1 g2 n1 d1 n2 d2 W hW s1 s2 s3 s4 h1 h2

theorem Add_short (p q : Rat) (hp : ShortQ p) (hq : ShortQ q) (w : World) (hE : Env w) :
    Calls Tryz.prog 42 #[qv p, qv q] w fun e w' => e = .returned (.tuple #[qv (p + q), .int .i64 0]) ∧ Below w.heap.size w w' := by
  have l1 := short_sizes hp
  have l2 := short_sizes hq
  refine Add_w _ _ _ _ _ _ _ _ _ _ w hE fun W hW => ?_
  exact run_sum _ _ _ _ _ _ W hW (by omega) (by omega) (by omega) (by omega) (valid_qv hp.ok) (valid_qv hq.ok) l1.1 l1.2 l2.1 l2.2 _ _ _ _ fun W2 h2 => sum_q p q hp hq W2 h2

theorem Add_long (p q : Rat) (hp : OkQ p) (hq : OkQ q) (hl : ¬ (ShortQ p ∧ ShortQ q)) (w : World) (hE : Env w) :
    Calls Tryz.prog 42 #[qv p, qv q] w fun e w' => e = .returned (.tuple #[zv, .int .i64 2]) ∧ Below w.heap.size w w' := by
  have v1 := valid_qv hp
  have v2 := valid_qv hq
  have l1 := size_of_valid v1
  have l2 := size_of_valid v2
  refine Add_w _ _ _ _ _ _ false ⟨#[]⟩ ⟨#[]⟩ 2 w hE fun W hW => ?_
  exact run_long false 56 _ _ _ _ _ _ W hW (by omega) (by omega) (by omega) (by omega) v1 v2 (.inl rfl) fun h => hl ⟨short_of_sizes h.1 h.2.1, short_of_sizes h.2.2.1 h.2.2.2⟩

set_option maxRecDepth 100000 in
set_option maxHeartbeats 1000000 in
theorem Sub_w (g1 g2 : Bool) (n1 d1 n2 d2 : ByteArray) (r : Bool) (n d : ByteArray) (E : Int) (w : World) (hE : Env w)
    (hr : ∀ W, Env W → Calls Tryz.prog 57 #[.agg #[.bool false, .func (.func 76) #[] #[]], .agg #[.bool g1, .string n1, .string d1], .agg #[.bool g2, .string n2, .string d2]] W fun e w' => e = .returned (.tuple #[.agg #[.bool r, .string n, .string d], .int .i64 E]) ∧ Below W.heap.size W w') :
    Calls Tryz.prog 58 #[.agg #[.bool g1, .string n1, .string d1], .agg #[.bool g2, .string n2, .string d2]] w fun e w' => e = .returned (.tuple #[.agg #[.bool r, .string n, .string d], .int .i64 E]) ∧ Below w.heap.size w w' := by
  have hQE := Lib.hid (TwoBoxes.new w g1 g2 n1 d1 n2 d2)
  have hBE := Lib.hid (twoW_below w g1 g2 n1 d1 n2 d2)
  replace hE := Lib.hid hE
  replace hr := Lib.hid hr
  go_enter Tryz.func58, Tryz.ntmps58
  go_wp2_with fail
  refine (hr.out _ (hE.out.below hBE.out)).mono ?_
  rintro e w1 ⟨rfl, hb1⟩
  have q1 := hQE.out.below hb1
  have hB1 := Lib.hid (hBE.out.trans (hb1.mono hBE.out.size))
  obtain ⟨c1, c2, c3, c4, c5, c6⟩ := q1.2.2.facts
  have hz1 := q1.2.2.lt
  clear hb1
  replace q1 := Lib.hid q1
  go_wp2
  refine bodyPost_ret (v := .tuple #[.agg #[.bool r, .string n, .string d], .int .i64 E]) (by simp [results, Tryz.results58, go_sem, c1, c2, c3]) rfl ⟨rfl, ?_⟩
  repeat refine Below.setCell ?_ (by simp only []; omega) _
  exact hB1.out

theorem Sub_bad (g1 g2 : Bool) (n1 d1 n2 d2 : ByteArray) (w : World) (hE : Env w) (s1 : n1.size ≤ 140737488355328) (s2 : d1.size ≤ 140737488355328) (s3 : n2.size ≤ 140737488355328) (s4 : d2.size ≤ 140737488355328) (hb : validB g1 n1 d1 = false ∨ validB g2 n2 d2 = false) :
    Calls Tryz.prog 58 #[.agg #[.bool g1, .string n1, .string d1], .agg #[.bool g2, .string n2, .string d2]] w fun e w' => e = .returned (.tuple #[zv, .int .i64 1]) ∧ Below w.heap.size w w' := by
  refine Sub_w g1 g2 n1 d1 n2 d2 false ⟨#[]⟩ ⟨#[]⟩ 1 w hE fun W hW => ?_
  cases h1 : validB g1 n1 d1 with
  | false => exact run_bad1 false 76 g1 g2 n1 d1 n2 d2 W hW s1 s2 s3 s4 h1
  | true =>
    have h2 : validB g2 n2 d2 = false := by rcases hb with h | h; (· rw [h1] at h; cases h); (· exact h)
    exact run_bad2 false 76 g1 g2 n1 d1 n2 d2 W hW s1 s2 s3 s4 h1 h2

theorem Sub_short (p q : Rat) (hp : ShortQ p) (hq : ShortQ q) (w : World) (hE : Env w) :
    Calls Tryz.prog 58 #[qv p, qv q] w fun e w' => e = .returned (.tuple #[qv (p - q), .int .i64 0]) ∧ Below w.heap.size w w' := by
  have l1 := short_sizes hp
  have l2 := short_sizes hq
  refine Sub_w _ _ _ _ _ _ _ _ _ _ w hE fun W hW => ?_
  exact run_sub _ _ _ _ _ _ W hW (by omega) (by omega) (by omega) (by omega) (valid_qv hp.ok) (valid_qv hq.ok) l1.1 l1.2 l2.1 l2.2 _ _ _ _ fun W2 h2 => subc_q p q hp hq W2 h2

theorem Sub_long (p q : Rat) (hp : OkQ p) (hq : OkQ q) (hl : ¬ (ShortQ p ∧ ShortQ q)) (w : World) (hE : Env w) :
    Calls Tryz.prog 58 #[qv p, qv q] w fun e w' => e = .returned (.tuple #[zv, .int .i64 2]) ∧ Below w.heap.size w w' := by
  have v1 := valid_qv hp
  have v2 := valid_qv hq
  have l1 := size_of_valid v1
  have l2 := size_of_valid v2
  refine Sub_w _ _ _ _ _ _ false ⟨#[]⟩ ⟨#[]⟩ 2 w hE fun W hW => ?_
  exact run_long false 76 _ _ _ _ _ _ W hW (by omega) (by omega) (by omega) (by omega) v1 v2 (.inl rfl) fun h => hl ⟨short_of_sizes h.1 h.2.1, short_of_sizes h.2.2.1 h.2.2.2⟩

def cmpQ (p q : Rat) : Int := if p < q then -1 else if p = q then 0 else 1
theorem neg_iff (q : Rat) : q.num < 0 ↔ q < 0 := by
  rw [Rat.lt_iff]
  show _ ↔ q.num * 1 < 0 * _
  omega
theorem sub_neg_iff (p q : Rat) : (p - q).num < 0 ↔ p < q := by
  rw [neg_iff, Rat.sub_lt_iff, Rat.zero_add]
theorem sub_zero_iff (p q : Rat) : p - q = 0 ↔ p = q := by
  constructor
  · intro h
    have e : p - q + q = 0 + q := congrArg (· + q) h
    rwa [Rat.sub_add_cancel, Rat.zero_add] at e
  · intro h; rw [h]; exact Rat.sub_self

set_option maxRecDepth 100000 in
set_option maxHeartbeats 1000000 in
theorem Compare_w (g1 g2 : Bool) (n1 d1 n2 d2 : ByteArray) (r : Bool) (n d : ByteArray) (E c f : Int) (w : World) (hE : Env w)
    (hs : ∀ W, Env W → Calls Tryz.prog 58 #[.agg #[.bool g1, .string n1, .string d1], .agg #[.bool g2, .string n2, .string d2]] W fun e w' => e = .returned (.tuple #[.agg #[.bool r, .string n, .string d], .int .i64 E]) ∧ Below W.heap.size W w')
    (hk : (E ≠ 0 ∧ c = 0 ∧ f = E) ∨ (E = 0 ∧ r = true ∧ c = -1 ∧ f = 0) ∨ (E = 0 ∧ r = false ∧ (n.toList == [48]) = true ∧ c = 0 ∧ f = 0) ∨ (E = 0 ∧ r = false ∧ (n.toList == [48]) = false ∧ c = 1 ∧ f = 0)) :
    Calls Tryz.prog 43 #[.agg #[.bool g1, .string n1, .string d1], .agg #[.bool g2, .string n2, .string d2]] w fun e w' => e = .returned (.tuple #[.int .i64 c, .int .i64 f]) ∧ Below w.heap.size w w' := by
  have hBE : Hid (Below w.heap.size w ((w.alloc (.cells #[.bool g1, .string n1, .string d1] 49)).alloc (.cells #[.bool g2, .string n2, .string d2] 49))) := ((Below.refl _ w).alloc (Nat.le_refl _) _).alloc (by simp) _
  replace hE := Lib.hid hE
  replace hs := Lib.hid hs
  rcases hk with ⟨h1, rfl, rfl⟩ | ⟨rfl, rfl, rfl, rfl⟩ | ⟨rfl, rfl, h1, rfl, rfl⟩ | ⟨rfl, rfl, h1, rfl, rfl⟩
  rotate_left
  all_goals
    go_enter Tryz.func43, Tryz.ntmps43
    go_wp2_with fail
    refine (hs.out _ (hE.out.below hBE.out)).mono ?_
    rintro e w1 ⟨rfl, hb1⟩
    have hB1 := Lib.hid (hBE.out.trans (hb1.mono hBE.out.size))
    clear hb1
    go_wp2
    go_ret2
    exact ⟨rfl, hB1.out.alloc hB1.out.size _⟩

theorem Compare_short (p q : Rat) (hp : ShortQ p) (hq : ShortQ q) (w : World) (hE : Env w) :
    Calls Tryz.prog 43 #[qv p, qv q] w fun e w' => e = .returned (.tuple #[.int .i64 (cmpQ p q), .int .i64 0]) ∧ Below w.heap.size w w' := by
  refine Compare_w _ _ _ _ _ _ _ _ _ 0 (cmpQ p q) 0 w hE (fun W hW => Sub_short p q hp hq W hW) ?_
  unfold cmpQ
  rw [T_is_zero]
  by_cases h1 : p < q
  · exact .inr (.inl ⟨rfl, decide_eq_true ((sub_neg_iff p q).2 h1), if_pos h1, rfl⟩)
  · have hn := (not_congr (sub_neg_iff p q)).2 h1
    rw [if_neg h1]
    by_cases h2 : p = q
    · refine .inr (.inr (.inl ⟨rfl, decide_eq_false hn, ?_, if_pos h2, rfl⟩))
      rw [(sub_zero_iff p q).2 h2]
      rfl
    · refine .inr (.inr (.inr ⟨rfl, decide_eq_false hn, ?_, if_neg h2, rfl⟩))
      have h3 := num_ne_zero (fun h => h2 ((sub_zero_iff p q).1 h))
      exact decide_eq_false (by omega)

theorem Compare_long (p q : Rat) (hp : OkQ p) (hq : OkQ q) (hl : ¬ (ShortQ p ∧ ShortQ q)) (w : World) (hE : Env w) :
    Calls Tryz.prog 43 #[qv p, qv q] w fun e w' => e = .returned (.tuple #[.int .i64 0, .int .i64 2]) ∧ Below w.heap.size w w' :=
  Compare_w _ _ _ _ _ _ _ _ _ 2 0 2 w hE (fun W hW => Sub_long p q hp hq hl W hW) (.inl ⟨by omega, rfl, rfl⟩)

theorem Compare_bad (g1 g2 : Bool) (n1 d1 n2 d2 : ByteArray) (w : World) (hE : Env w) (s1 : n1.size ≤ 140737488355328) (s2 : d1.size ≤ 140737488355328) (s3 : n2.size ≤ 140737488355328) (s4 : d2.size ≤ 140737488355328) (hb : validB g1 n1 d1 = false ∨ validB g2 n2 d2 = false) :
    Calls Tryz.prog 43 #[.agg #[.bool g1, .string n1, .string d1], .agg #[.bool g2, .string n2, .string d2]] w fun e w' => e = .returned (.tuple #[.int .i64 0, .int .i64 1]) ∧ Below w.heap.size w w' :=
  Compare_w _ _ _ _ _ _ _ _ _ 1 0 1 w hE (fun W hW => Sub_bad g1 g2 n1 d1 n2 d2 W hW s1 s2 s3 s4 hb) (.inl ⟨by omega, rfl, rfl⟩)

end Nt
end Go.Proofs.YtmekiidknjjfcaaGreatDoor


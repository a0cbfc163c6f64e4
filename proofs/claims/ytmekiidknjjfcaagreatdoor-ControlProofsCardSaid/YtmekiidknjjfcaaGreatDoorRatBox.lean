/- Rational numbers in memory; the walks of ratio's Valid and lowest. -/
import Derived.Test.YtmekiidknjjfcaaGreatDoorRatPlain
import Derived.WalkLawsBesides
import Derived.WalkSpells
namespace Go.Proofs.YtmekiidknjjfcaaGreatDoor
open Go.RowKit Go.Shelf
namespace Nt

/-- A block that holds a rational number. -/
def B3 (W : World) (b : Nat) (g : Bool) (n d : ByteArray) : Prop := W.heap[b]? = some (.cells #[.bool g, .string n, .string d] 49 (0, 0))
theorem B3.lt {W : World} {b : Nat} {g : Bool} {n d : ByteArray} (h : B3 W b g n d) : b < W.heap.size := (Array.getElem?_eq_some_iff.1 h).1
theorem B3.facts {W : World} {b : Nat} {g : Bool} {n d : ByteArray} (h : B3 W b g n d) :
    W.cell? ⟨b, 0, none⟩ = some (.bool g) ∧ W.cell? ⟨b, 1, none⟩ = some (.string n) ∧ W.cell? ⟨b, 2, none⟩ = some (.string d) ∧
    W.frozen? ⟨b, 0, none⟩ = false ∧ W.frozen? ⟨b, 1, none⟩ = false ∧ W.frozen? ⟨b, 2, none⟩ = false := by
  unfold B3 at h
  simp [World.cell?, World.frozen?, h]
theorem B3.new (w : World) (g : Bool) (n d : ByteArray) : B3 (w.alloc (.cells #[.bool g, .string n, .string d] 49)) w.heap.size g n d := heap_alloc_new _ _
theorem B3.alloc {W : World} {b : Nat} {g : Bool} {n d : ByteArray} (h : B3 W b g n d) (o : Obj) : B3 (W.alloc o) b g n d := (Below.heap_alloc W o b h.lt).trans h
theorem B3.below {W W' : World} {b : Nat} {g : Bool} {n d : ByteArray} (h : B3 W b g n d) (hb : Below W.heap.size W W') : B3 W' b g n d := (hb.block b h.lt).trans h
theorem B3.other {W : World} {b : Nat} {g : Bool} {n d : ByteArray} (h : B3 W b g n d) {p : Addr} (hp : b ≠ p.block) (v : Value) : B3 (W.setCell p v) b g n d := (Below.heap_setCell _ _ _ _ hp).trans h
theorem B3.set0 {W : World} {b : Nat} {g : Bool} {n d : ByteArray} (h : B3 W b g n d) (g' : Bool) : B3 (W.setCell ⟨b, 0, none⟩ (.bool g')) b g' n d := by
  unfold B3 at h ⊢
  simp [World.setCell, Array.getElem?_modify, h]
theorem B3.set1 {W : World} {b : Nat} {g : Bool} {n d : ByteArray} (h : B3 W b g n d) (n' : ByteArray) : B3 (W.setCell ⟨b, 1, none⟩ (.string n')) b g n' d := by
  unfold B3 at h ⊢
  simp [World.setCell, Array.getElem?_modify, h]
theorem B3.set2 {W : World} {b : Nat} {g : Bool} {n d : ByteArray} (h : B3 W b g n d) (d' : ByteArray) : B3 (W.setCell ⟨b, 2, none⟩ (.string d')) b g n d' := by
  unfold B3 at h ⊢
  simp [World.setCell, Array.getElem?_modify, h]

theorem is_one (n : Nat) : ((num n).toList == [49]) = decide (n = 1) := by
  have e : (num 1).toList = [49] := by rw [show num 1 = ⟨#[49]⟩ from T_one, Lib.toList_data]
  rw [← e, Bool.eq_iff_iff, beq_iff_eq, decide_eq_true_iff, Lib.toList_data, Lib.toList_data]
  constructor
  · intro h
    have := congrArg dval h
    have e1 : dval (num n).data.toList = n := dval_decDigits n
    have e2 : dval (num 1).data.toList = 1 := dval_decDigits 1
    rwa [e1, e2] at this
  · intro h; rw [h]
theorem is_zero (n : Nat) : ((num n).toList == [48]) = decide (n = 0) := by
  have e : (num 0).toList = [48] := toL_zero
  rw [← e, Bool.eq_iff_iff, beq_iff_eq, decide_eq_true_iff, Lib.toList_data, Lib.toList_data]
  constructor
  · intro h
    have := congrArg dval h
    have e1 : dval (num n).data.toList = n := dval_decDigits n
    have e2 : dval (num 0).data.toList = 0 := dval_decDigits 0
    rwa [e1, e2] at this
  · intro h; rw [h]

set_option maxRecDepth 100000 in
theorem Valid_bad1 (g : Bool) (n d : ByteArray) (w : World) (hn : n.size ≤ 140737488355328) (h : isN n = false) :
    Calls Tryz.prog 54 #[.agg #[.bool g, .string n, .string d]] w fun e w' => e = .returned (.bool false) ∧ Below w.heap.size w w' := by
  go_enter Tryz.func54, Tryz.ntmps54
  go_wp2_with fail
  refine (is_any n _ (by omega)).mono ?_
  rintro e w1 ⟨rfl, hb1⟩
  rw [h]
  go_wp2
  go_ret
  exact ⟨rfl, ((Below.refl _ w).alloc (Nat.le_refl _) _).trans (hb1.mono (by simp))⟩

set_option maxRecDepth 100000 in
theorem Valid_bad2 (g : Bool) (n d : ByteArray) (w : World) (hn : n.size ≤ 140737488355328) (hd : d.size ≤ 140737488355328) (h : isN n = true) (h' : isN d = false) :
    Calls Tryz.prog 54 #[.agg #[.bool g, .string n, .string d]] w fun e w' => e = .returned (.bool false) ∧ Below w.heap.size w w' := by
  have H := Lib.hid h'
  clear h'
  go_enter Tryz.func54, Tryz.ntmps54
  go_wp2_with fail
  refine (is_any n _ (by omega)).mono ?_
  rintro e w1 ⟨rfl, hb1⟩
  rw [h]
  have q1 := (B3.new w g n d).below hb1
  obtain ⟨a1, a2, a3, a4, a5, a6⟩ := q1.facts
  have hB1 := Lib.hid (((Below.refl _ w).alloc (Nat.le_refl _) _).trans (hb1.mono (by simp)))
  replace q1 := Lib.hid q1
  clear hb1
  go_wp2_with fail
  refine (is_any d _ (by omega)).mono ?_
  rintro e w2 ⟨rfl, hb2⟩
  rw [H.out]
  have hB2 := Lib.hid (hB1.out.trans (hb2.mono hB1.out.size))
  clear hb2 hB1
  go_wp2
  go_ret
  exact ⟨rfl, hB2.out⟩

theorem T_is_one (n : Nat) : ((T (some n)).toList == [49]) = decide (n = 1) := is_one n
theorem T_is_zero (n : Nat) : ((T (some n)).toList == [48]) = decide (n = 0) := is_zero n

set_option maxRecDepth 100000 in
theorem Valid_zden (g : Bool) (a : Nat) (w : World) (ha : a < Lim) :
    Calls Tryz.prog 54 #[.agg #[.bool g, .string (T (some a)), .string (T (some 0))]] w fun e w' => e = .returned (.bool false) ∧ Below w.heap.size w w' := by
  have z := T_is_zero 0
  rw [decide_eq_true rfl] at z
  have h0 : 0 < Lim := by omega
  go_enter Tryz.func54, Tryz.ntmps54
  go_wp2_with fail
  refine (isOk (some a) (ok_some ha) _).mono ?_
  rintro e w1 ⟨rfl, hb1⟩
  rw [Option.isSome_some]
  have q1 := (B3.new w g (T (some a)) (T (some 0))).below hb1
  obtain ⟨a1, a2, a3, a4, a5, a6⟩ := q1.facts
  have hB1 := Lib.hid (((Below.refl _ w).alloc (Nat.le_refl _) _).trans (hb1.mono (by simp)))
  replace q1 := Lib.hid q1
  clear hb1
  go_wp2_with fail
  refine (isOk (some 0) (ok_some h0) _).mono ?_
  rintro e w2 ⟨rfl, hb2⟩
  rw [Option.isSome_some]
  obtain ⟨b1, b2, b3, b4, b5, b6⟩ := (q1.out.below hb2).facts
  have hB2 := Lib.hid (hB1.out.trans (hb2.mono hB1.out.size))
  clear hb2 hB1
  go_wp2
  go_ret
  exact ⟨rfl, hB2.out⟩

set_option maxRecDepth 100000 in
theorem Valid_znum (g : Bool) (b : Nat) (w : World) (hb : b < Lim) (hb0 : b ≠ 0) :
    Calls Tryz.prog 54 #[.agg #[.bool g, .string (T (some 0)), .string (T (some b))]] w fun e w' => e = .returned (.bool (!g && decide (b = 1))) ∧ Below w.heap.size w w' := by
  obtain ⟨r, hr⟩ : ∃ r, r = decide (b = 1) := ⟨_, rfl⟩
  rw [← hr]
  cases g <;> cases r
  all_goals
    have z := T_is_zero 0
    rw [decide_eq_true rfl] at z
    have z2 := T_is_zero b
    rw [decide_eq_false hb0] at z2
    have z3 := T_is_one b
    rw [← hr] at z3
    clear hr
    have h0 : 0 < Lim := by omega
    replace hb0 := Lib.hid hb0
    go_enter Tryz.func54, Tryz.ntmps54
    go_wp2_with fail
    refine (isOk (some 0) (ok_some h0) _).mono ?_
    rintro e w1 ⟨rfl, hb1⟩
    rw [Option.isSome_some]
    have q1 := (B3.new w _ (T (some 0)) (T (some b))).below hb1
    obtain ⟨a1, a2, a3, a4, a5, a6⟩ := q1.facts
    have hB1 := Lib.hid (((Below.refl _ w).alloc (Nat.le_refl _) _).trans (hb1.mono (by simp)))
    replace q1 := Lib.hid q1
    clear hb1
    go_wp2_with fail
    refine (isOk (some b) (ok_some hb) _).mono ?_
    rintro e w2 ⟨rfl, hb2⟩
    rw [Option.isSome_some]
    obtain ⟨b1, b2, b3, b4, b5, b6⟩ := (q1.out.below hb2).facts
    have hB2 := Lib.hid (hB1.out.trans (hb2.mono hB1.out.size))
    clear hb2 hB1
    go_wp2
    go_ret
    exact ⟨rfl, hB2.out⟩

set_option maxRecDepth 100000 in
theorem Valid_gcd (g : Bool) (a b : Nat) (w : World) (hE : Env w) (ha : a < Lim) (hb : b < Lim) (ha0 : a ≠ 0) (hb0 : b ≠ 0) :
    Calls Tryz.prog 54 #[.agg #[.bool g, .string (T (some a)), .string (T (some b))]] w fun e w' => e = .returned (.bool (decide (Nat.gcd a b = 1))) ∧ Below w.heap.size w w' := by
  have z := T_is_zero a
  rw [decide_eq_false ha0] at z
  have z2 := T_is_zero b
  rw [decide_eq_false hb0] at z2
  have z3 := T_is_one (Nat.gcd a b)
  have hG : Hid (gcdO (some a) (some b) = some (Nat.gcd a b) ∧ gcdE (some a) (some b) = 0) := by
    have := gcd_ltL ha hb
    exact ⟨by simp only [gcdO, apO, limO, if_pos this], by simp only [gcdE, apE, if_pos this]⟩
  replace ha0 := Lib.hid ha0
  replace hb0 := Lib.hid hb0
  replace hE := Lib.hid hE
  go_enter Tryz.func54, Tryz.ntmps54
  go_wp2_with fail
  refine (isOk (some a) (ok_some ha) _).mono ?_
  rintro e w1 ⟨rfl, hb1⟩
  rw [Option.isSome_some]
  have q1 := (B3.new w g (T (some a)) (T (some b))).below hb1
  obtain ⟨a1, a2, a3, a4, a5, a6⟩ := q1.facts
  have hB1 := Lib.hid (((Below.refl _ w).alloc (Nat.le_refl _) _).trans (hb1.mono (by simp)))
  replace q1 := Lib.hid q1
  clear hb1
  go_wp2_with fail
  refine (isOk (some b) (ok_some hb) _).mono ?_
  rintro e w2 ⟨rfl, hb2⟩
  rw [Option.isSome_some]
  obtain ⟨b1, b2, b3, b4, b5, b6⟩ := (q1.out.below hb2).facts
  have hB2 := Lib.hid (hB1.out.trans (hb2.mono hB1.out.size))
  clear hb2 hB1 q1
  go_wp2_with fail
  refine (gcdT (some a) (some b) _ (hE.out.below hB2.out) (ok_some ha) (ok_some hb)).mono ?_
  rintro e w3 ⟨rfl, hb3⟩
  rw [hG.out.1, hG.out.2]
  have hB3 := Lib.hid (hB2.out.trans (hb3.mono hB2.out.size))
  clear hb3 hB2
  go_wp2
  go_ret
  exact ⟨rfl, hB3.out⟩

theorem Valid_any (g : Bool) (n d : ByteArray) (w : World) (hE : Env w) (hn : n.size ≤ 140737488355328) (hd : d.size ≤ 140737488355328) :
    Calls Tryz.prog 54 #[.agg #[.bool g, .string n, .string d]] w fun e w' => e = .returned (.bool (validB g n d)) ∧ Below w.heap.size w w' := by
  cases h1 : isN n with
  | false =>
    have e : validB g n d = false := by unfold validB; rw [h1]; rfl
    rw [e]
    exact Valid_bad1 g n d w hn h1
  | true =>
    cases h2 : isN d with
    | false =>
      have e : validB g n d = false := by unfold validB; rw [h1, h2]; rfl
      rw [e]
      exact Valid_bad2 g n d w hn hd h1 h2
    | true =>
      obtain ⟨a, ha, rfl⟩ := num_of_isN h1
      obtain ⟨b, hb, rfl⟩ := num_of_isN h2
      rw [valid_num g a b ha hb]
      by_cases hb0 : b = 0
      · subst hb0
        simp only [decide_true, Bool.not_true, Bool.false_and]
        exact Valid_zden g a w ha
      · rw [decide_eq_false hb0, Bool.not_false, Bool.true_and]
        by_cases ha0 : a = 0
        · rw [if_pos ha0]
          subst ha0
          exact Valid_znum g b w hb hb0
        · rw [if_neg ha0]
          exact Valid_gcd g a b w hE ha hb ha0 hb0

set_option maxRecDepth 100000 in
set_option maxHeartbeats 1000000 in
theorem lowest_any (g : Bool) (a b : Nat) (w : World) (hE : Env w) (ha : a < Lim) (hb : b < Lim) (hb0 : b ≠ 0) :
    Calls Tryz.prog 62 #[.bool g, .string (T (some a)), .string (T (some b))] w fun e w' => e = .returned (.tuple #[qv (mkRat (sg g a) b), .int .i64 0]) ∧ Below w.heap.size w w' := by
  have HV := Lib.hid (qv_mk g a b hb0)
  obtain ⟨G, hGd⟩ : ∃ G, G = Nat.gcd a b := ⟨_, rfl⟩
  have hGl : G < Lim := by rw [hGd]; exact gcd_ltL ha hb
  have hG0 : G ≠ 0 := by rw [hGd]; exact Nat.ne_of_gt (Nat.gcd_pos_of_pos_right a (by omega))
  have hG : Hid (gcdO (some a) (some b) = some G ∧ gcdE (some a) (some b) = 0) := by
    have := gcd_ltL ha hb
    rw [hGd]
    exact ⟨by simp only [gcdO, apO, limO, if_pos this], by simp only [gcdE, apE, if_pos this]⟩
  have hD1 : Hid (quoO (some a) (some G) = some (a / G) ∧ quoX (some a) (some G) = 0) := ⟨if_neg hG0, if_neg hG0⟩
  have hD2 : Hid (quoO (some b) (some G) = some (b / G) ∧ quoX (some b) (some G) = 0) := ⟨if_neg hG0, if_neg hG0⟩
  rw [← hGd] at HV
  have z := T_is_zero (a / G)
  generalize hx : a / G = x at HV hD1 z
  generalize hy : b / G = y at HV hD2
  replace hE := Lib.hid hE
  clear hGd hG0 hx hy hb0
  have key : (g = false) ∨ (g = true ∧ x = 0) ∨ (g = true ∧ x ≠ 0) := by cases g <;> simp <;> omega
  rcases key with rfl | ⟨rfl, hx0⟩ | ⟨rfl, hx0⟩
  rotate_left
  · rw [decide_eq_true hx0] at HV z
    replace hx0 := Lib.hid hx0
    go_enter Tryz.func62, Tryz.ntmps62
    go_wp2_with fail
    refine (gcdT (some a) (some b) _ (hE.out.below ((Below.refl _ w).alloc (Nat.le_refl _) _)) (ok_some ha) (ok_some hb)).mono ?_
    rintro e w1 ⟨rfl, hb1⟩
    rw [hG.out.1, hG.out.2]
    have q1 := (B3.new w false ⟨#[]⟩ ⟨#[]⟩).below hb1
    have hB1 := Lib.hid (((Below.refl _ w).alloc (Nat.le_refl _) _).trans (hb1.mono (by simp)))
    have hl1 := q1.lt
    replace q1 := Lib.hid q1
    clear hb1
    go_wp2_with fail
    refine (divT (some a) (some G) _ (hE.out.below (hB1.out.alloc hB1.out.size _)) (ok_some ha) (ok_some hGl)).mono ?_
    rintro e w2 ⟨rfl, hb2⟩
    rw [hD1.out.1, hD1.out.2]
    have q2 := (q1.out.alloc _).below hb2
    have r2 := (B3.new w1 true ⟨#[]⟩ ⟨#[]⟩).below hb2
    have hB2 := Lib.hid ((hB1.out.alloc hB1.out.size _).trans (hb2.mono (by have := hB1.out.size; simp; omega)))
    obtain ⟨c1, c2, c3, c4, c5, c6⟩ := r2.facts
    have hl2 := r2.lt
    replace q2 := Lib.hid q2
    replace r2 := Lib.hid r2
    clear hb2 q1
    go_wp2_with fail
    refine (divT (some b) (some G) _ (hE.out.below (hB2.out.setCell (by have := hB1.out.size; simpa using this) _)) (ok_some hb) (ok_some hGl)).mono ?_
    rintro e w3 ⟨rfl, hb3⟩
    rw [hD2.out.1, hD2.out.2]
    have q3 := (q2.out.other (p := ⟨w1.heap.size, 1, none⟩) (by simp; omega) _).below hb3
    have r3 := (r2.out.set1 (T (some x))).below hb3
    have hB3 := Lib.hid ((hB2.out.setCell (p := ⟨w1.heap.size, 1, none⟩) (by have := hB1.out.size; simpa using this) _).trans (hb3.mono (by have := hB2.out.size; simpa using this)))
    have hsz1 := hB1.out.size
    obtain ⟨d1, d2, d3, d4, d5, d6⟩ := q3.facts
    obtain ⟨e1, e2, e3, e4, e5, e6⟩ := r3.facts
    have hl3 := r3.lt
    clear hb3 q2 r2 c1 c2 c3 c4 c5 c6
    replace q3 := Lib.hid q3
    replace r3 := Lib.hid r3
    go_wp2
    refine bodyPost_ret (v := .tuple #[.agg #[.bool false, .string (T (some x)), .string (T (some y))], .int .i64 0]) (by simp [results, Tryz.results62, go_sem, d1, d2, d3]) rfl ⟨by rw [HV.out]; rfl, ?_⟩
    repeat refine Below.setCell ?_ (by first | exact Nat.le_refl _ | exact hsz1) _
    exact hB3.out
  · rw [decide_eq_false hx0] at HV z
    replace hx0 := Lib.hid hx0
    go_enter Tryz.func62, Tryz.ntmps62
    go_wp2_with fail
    refine (gcdT (some a) (some b) _ (hE.out.below ((Below.refl _ w).alloc (Nat.le_refl _) _)) (ok_some ha) (ok_some hb)).mono ?_
    rintro e w1 ⟨rfl, hb1⟩
    rw [hG.out.1, hG.out.2]
    have q1 := (B3.new w false ⟨#[]⟩ ⟨#[]⟩).below hb1
    have hB1 := Lib.hid (((Below.refl _ w).alloc (Nat.le_refl _) _).trans (hb1.mono (by simp)))
    have hl1 := q1.lt
    replace q1 := Lib.hid q1
    clear hb1
    go_wp2_with fail
    refine (divT (some a) (some G) _ (hE.out.below (hB1.out.alloc hB1.out.size _)) (ok_some ha) (ok_some hGl)).mono ?_
    rintro e w2 ⟨rfl, hb2⟩
    rw [hD1.out.1, hD1.out.2]
    have q2 := (q1.out.alloc _).below hb2
    have r2 := (B3.new w1 true ⟨#[]⟩ ⟨#[]⟩).below hb2
    have hB2 := Lib.hid ((hB1.out.alloc hB1.out.size _).trans (hb2.mono (by have := hB1.out.size; simp; omega)))
    obtain ⟨c1, c2, c3, c4, c5, c6⟩ := r2.facts
    have hl2 := r2.lt
    replace q2 := Lib.hid q2
    replace r2 := Lib.hid r2
    clear hb2 q1
    go_wp2_with fail
    refine (divT (some b) (some G) _ (hE.out.below (hB2.out.setCell (by have := hB1.out.size; simpa using this) _)) (ok_some hb) (ok_some hGl)).mono ?_
    rintro e w3 ⟨rfl, hb3⟩
    rw [hD2.out.1, hD2.out.2]
    have q3 := (q2.out.other (p := ⟨w1.heap.size, 1, none⟩) (by simp; omega) _).below hb3
    have r3 := (r2.out.set1 (T (some x))).below hb3
    have hB3 := Lib.hid ((hB2.out.setCell (p := ⟨w1.heap.size, 1, none⟩) (by have := hB1.out.size; simpa using this) _).trans (hb3.mono (by have := hB2.out.size; simpa using this)))
    have hsz1 := hB1.out.size
    obtain ⟨d1, d2, d3, d4, d5, d6⟩ := q3.facts
    obtain ⟨e1, e2, e3, e4, e5, e6⟩ := r3.facts
    have hl3 := r3.lt
    clear hb3 q2 r2 c1 c2 c3 c4 c5 c6
    replace q3 := Lib.hid q3
    replace r3 := Lib.hid r3
    go_wp2
    refine bodyPost_ret (v := .tuple #[.agg #[.bool true, .string (T (some x)), .string (T (some y))], .int .i64 0]) (by simp [results, Tryz.results62, go_sem, d1, d2, d3]) rfl ⟨by rw [HV.out]; rfl, ?_⟩
    repeat refine Below.setCell ?_ (by first | exact Nat.le_refl _ | exact hsz1) _
    exact hB3.out
  · go_enter Tryz.func62, Tryz.ntmps62
    go_wp2_with fail
    refine (gcdT (some a) (some b) _ (hE.out.below ((Below.refl _ w).alloc (Nat.le_refl _) _)) (ok_some ha) (ok_some hb)).mono ?_
    rintro e w1 ⟨rfl, hb1⟩
    rw [hG.out.1, hG.out.2]
    have q1 := (B3.new w false ⟨#[]⟩ ⟨#[]⟩).below hb1
    have hB1 := Lib.hid (((Below.refl _ w).alloc (Nat.le_refl _) _).trans (hb1.mono (by simp)))
    have hl1 := q1.lt
    replace q1 := Lib.hid q1
    clear hb1
    go_wp2_with fail
    refine (divT (some a) (some G) _ (hE.out.below (hB1.out.alloc hB1.out.size _)) (ok_some ha) (ok_some hGl)).mono ?_
    rintro e w2 ⟨rfl, hb2⟩
    rw [hD1.out.1, hD1.out.2]
    have q2 := (q1.out.alloc _).below hb2
    have r2 := (B3.new w1 false ⟨#[]⟩ ⟨#[]⟩).below hb2
    have hB2 := Lib.hid ((hB1.out.alloc hB1.out.size _).trans (hb2.mono (by have := hB1.out.size; simp; omega)))
    obtain ⟨c1, c2, c3, c4, c5, c6⟩ := r2.facts
    have hl2 := r2.lt
    replace q2 := Lib.hid q2
    replace r2 := Lib.hid r2
    clear hb2 q1
    go_wp2_with fail
    refine (divT (some b) (some G) _ (hE.out.below (hB2.out.setCell (by have := hB1.out.size; simpa using this) _)) (ok_some hb) (ok_some hGl)).mono ?_
    rintro e w3 ⟨rfl, hb3⟩
    rw [hD2.out.1, hD2.out.2]
    have q3 := (q2.out.other (p := ⟨w1.heap.size, 1, none⟩) (by simp; omega) _).below hb3
    have r3 := (r2.out.set1 (T (some x))).below hb3
    have hB3 := Lib.hid ((hB2.out.setCell (p := ⟨w1.heap.size, 1, none⟩) (by have := hB1.out.size; simpa using this) _).trans (hb3.mono (by have := hB2.out.size; simpa using this)))
    have hsz1 := hB1.out.size
    obtain ⟨d1, d2, d3, d4, d5, d6⟩ := q3.facts
    obtain ⟨e1, e2, e3, e4, e5, e6⟩ := r3.facts
    have hl3 := r3.lt
    clear hb3 q2 r2 c1 c2 c3 c4 c5 c6
    replace q3 := Lib.hid q3
    replace r3 := Lib.hid r3
    go_wp2
    refine bodyPost_ret (v := .tuple #[.agg #[.bool false, .string (T (some x)), .string (T (some y))], .int .i64 0]) (by simp [results, Tryz.results62, go_sem, d1, d2, d3]) rfl ⟨by rw [HV.out]; rfl, ?_⟩
    repeat refine Below.setCell ?_ (by first | exact Nat.le_refl _ | exact hsz1) _
    exact hB3.out

end Nt
end Go.Proofs.YtmekiidknjjfcaaGreatDoor

/- linear.Solve, walked whole. -/
import Derived.Test.YtjjlnahipiinfaaGreatDoorLinA
import Derived.BigRegion
import Derived.RegionTactic
import Derived.Deep.QuietTactic
import Derived.BigQuiet
import Derived.Deep.RegionHeld3
import Derived.IntWalk
import Derived.Deep.OwnRows
namespace Go.Proofs.YtjjlnahipiinfaaGreatDoor
open Go.RowKit Go.Shelf
namespace Nt

/-- The loops of a code, outer ones first. -/
def loopsOf : Code → List Code
  | .loop c => c :: loopsOf c
  | .seq a b => loopsOf a ++ loopsOf b
  | .block _ c => loopsOf c
  | .scope c => loopsOf c
  | .cond _ a b => loopsOf a ++ loopsOf b
  | _ => []
noncomputable def body3 : Code := ((Tryz.f12.body.map loopsOf).bind fun l => l[2]?).getD .skip
/-- Which numbers an operation takes. -/
def SQ (q : Rat) : Bool := decide (ShortQ q)
/-- What Solve leaves. -/
def SolvePost (n : Nat) (M0 : Mx) (w : World) (e : Ending) (w' : World) : Prop :=
  Below w.heap.size w w' ∧ ((∃ M v, solveTo SQ n n M0 = .ok M ∧ e = .returned (.tuple #[v, .int .i64 0]) ∧ w'.ownsRow w.heap.size 31 3 v n (rowL n fun i => rq (M i n))) ∨ (∃ er : Int, solveTo SQ n n M0 = .error er ∧ e = .returned (.tuple #[.slice none 0 0, .int .i64 er])))
theorem solve_err {S : Rat → Bool} {n k : Nat} {M0 M : Mx} {e : Int} (h : solveTo S n k M0 = .ok M) (hs : stepK S n k M = .error e) (hk : k < n) : solveTo S n n M0 = .error e := by
  have key : ∀ m, k + 1 ≤ m → solveTo S n m M0 = .error e := by
    intro m
    induction m with
    | zero => intro h; omega
    | succ m ih =>
      intro hm
      unfold solveTo
      by_cases e1 : m = k
      · rw [e1, h]; exact hs
      · rw [ih (by omega)]; rfl
  exact key n hk

theorem first_bad {P : Nat → Prop} {k n : Nat} (h : ¬ ∀ j, k ≤ j → j ≤ n → P j) : ∃ t, k ≤ t ∧ t ≤ n ∧ (∀ j, k ≤ j → j < t → P j) ∧ ¬ P t := by
  have key : ∀ m, (∀ j, k ≤ j → j < m → P j) ∨ ∃ t, k ≤ t ∧ t < m ∧ (∀ j, k ≤ j → j < t → P j) ∧ ¬ P t := by
    intro m
    induction m with
    | zero => exact .inl fun j _ h => absurd h (by omega)
    | succ m ih =>
      rcases ih with ih | ⟨t, a, b, c, d⟩
      · by_cases hm : k ≤ m
        · by_cases hp : P m
          · refine .inl fun j h1 h2 => ?_
            by_cases e : j = m
            · rw [e]; exact hp
            · exact ih j h1 (by omega)
          · exact .inr ⟨m, hm, by omega, ih, hp⟩
        · exact .inl fun j h1 h2 => ih j h1 (by omega)
      · exact .inr ⟨t, a, by omega, c, d⟩
  rcases key (n + 1) with h1 | ⟨t, a, b, c, d⟩
  · exact absurd (fun j a b => h1 j a (by omega)) h
  · exact ⟨t, a, by omega, c, d⟩
theorem okDiv_bad {n k : Nat} {M : Mx} (h : okDiv SQ n k M = false) : ∃ t, k ≤ t ∧ t ≤ n ∧ (∀ j, k ≤ j → j < t → ShortQ (M k j) ∧ ShortQ (M k k)) ∧ ¬ (ShortQ (M k t) ∧ ShortQ (M k k)) := by
  refine first_bad fun h2 => ?_
  have : okDiv SQ n k M = true := (okDiv_iff SQ).2 fun j a b => ⟨decide_eq_true (h2 j a b).1, decide_eq_true (h2 j a b).2⟩
  rw [h] at this; cases this
theorem okSub_bad {n k i : Nat} {M : Mx} (h : okSub SQ n k i M = false) : ∃ t, k ≤ t ∧ t ≤ n ∧ (∀ j, k ≤ j → j < t → ShortQ (M i k) ∧ ShortQ (M k j) ∧ ShortQ (M i j) ∧ ShortQ (M i k * M k j)) ∧ ¬ (ShortQ (M i k) ∧ ShortQ (M k t) ∧ ShortQ (M i t) ∧ ShortQ (M i k * M k t)) := by
  refine first_bad fun h2 => ?_
  have : okSub SQ n k i M = true := (okSub_iff SQ).2 fun j a b => ⟨decide_eq_true (h2 j a b).1, decide_eq_true (h2 j a b).2.1, decide_eq_true (h2 j a b).2.2.1, decide_eq_true (h2 j a b).2.2.2⟩
  rw [h] at this; cases this
theorem MatW.drewN {W : World} {B R n : Nat} {bl : Nat → Nat} {M : Mx} (h : MatW W B R n bl M) (q : Nat) : MatW (W.drewN q) B R n bl M := ⟨h.lt, h.hd, h.fr, h.rows, h.inj, h.ne, h.lowR, h.low⟩
theorem elim_none {S : Rat → Bool} {n k i m : Nat} {M : Mx} (him : i ≤ m) (h : elimTo S n k i M = none) : elimTo S n k m M = none := by
  induction m with
  | zero => rw [show i = 0 by omega] at h; exact h
  | succ m ih =>
    by_cases e : i = m + 1
    · rw [← e]; exact h
    · unfold elimTo
      rw [ih (by omega)]; rfl
/-- What holds at the head of a round of the inner loop. -/
def InRel (w : World) (R n k kb vb : Nat) (bl : Nat → Nat) (M2 : Mx) (y : Nat) (wq : World) : Prop :=
  ∃ M3 : Mx, Hid (elimTo SQ n k y M2 = some M3) ∧ Hid (MatW wq w.heap.size R n bl M3) ∧ Hid (∀ i j, i < n → j ≤ n → OkQ (M3 i j)) ∧ Hid (Below w.heap.size w wq) ∧ Hid (Int1 wq w.heap.size n) ∧ Hid (Int1 wq kb k) ∧ Hid (Blk1 wq vb (.slice (some ⟨bl k, k * 3, none⟩) (n + 1 - k) (n + 1 - k)))

set_option maxRecDepth 1000000 in
set_option maxHeartbeats 16000000 in
theorem inner_loop {c0 c1 c2 c3 c6 c7 c8 c10 c12 c13 c18 c19 c20 c21 c22 c23 c24 c25 c26 c27 c28 c29 c30 c31 c32 c33 c34 c35 c36 c37 c38 c39 c40 c41 c42 c43 c44 c45 c46 c47 c48 c49 c50 c51 c52 c53 c54 c55 c56 c57 c58 c59 c60 c61 c62 c63 c64 c65 c66 c67 c68 c69 c70 c71 c72 c73 c74 c75 c76 c77 c78 c79 c80 c81 c82 c83 c84 c85 c86 c87 c88 c89 c90 c91 c92 c93 c94 c95 c96 c97 c98 c99 c100 c101 c102 c103 c104 c105 c106 c107 c108 c109 c110 c111 c112 c113 c114 c115 c116 c145 c146 c147 c148 c149 c150 c151 c152 c153 c154 c155 c156 c157 c158 c159 c160 a4 a5 a14 a15 a16 a17 a120 a121 a122 a123 a124 a125 a126 a127 a128 a129 a130 a131 a132 a133 a134 a135 a136 a137 a138 a139 a140 a141 a142 a143 a144 : Value} {Q : Exit → Act → World → Prop} (R n k kb vb : Nat) (bl : Nat → Nat) (M2 : Mx) (w w0 : World) (hE : Env w) (hn8 : n ≤ 8) (hk : k < n) (hst : InRel w R n k kb vb bl M2 0 w0)
    (hx : ∀ (u4 u5 u14 u15 u16 u17 u119 u120 u121 u122 u123 u124 u125 u126 u127 u128 u129 u130 u131 u132 u133 u134 u135 u136 u137 u138 u139 u140 u141 u142 u143 u144 : Value) (wq : World), InRel w R n k kb vb bl M2 n wq → Q (.exit 4) ⟨#[c0, c1, c2, c3, u4, u5, c6, c7, c8, .pointer (some ⟨kb, 0, none⟩), c10, .pointer (some ⟨vb, 0, none⟩), c12, c13, u14, u15, u16, u17, c18, c19, c20, c21, c22, c23, c24, c25, c26, c27, c28, c29, c30, c31, c32, c33, c34, c35, c36, c37, c38, c39, c40, c41, c42, c43, c44, c45, c46, c47, c48, c49, c50, c51, c52, c53, c54, c55, c56, c57, c58, c59, c60, c61, c62, c63, c64, c65, c66, c67, c68, c69, c70, c71, c72, c73, c74, c75, c76, c77, c78, c79, c80, c81, c82, c83, c84, c85, c86, c87, c88, c89, c90, c91, c92, c93, c94, c95, c96, c97, c98, c99, c100, c101, c102, c103, c104, c105, c106, c107, c108, c109, c110, c111, c112, c113, c114, c115, c116, .slice (some ⟨R, 0, none⟩) n n, .int .i64 (n : Int), u119, u120, u121, u122, u123, u124, u125, u126, u127, u128, u129, u130, u131, u132, u133, u134, u135, u136, u137, u138, u139, u140, u141, u142, u143, u144, c145, c146, c147, c148, c149, c150, c151, c152, c153, c154, c155, c156, c157, c158, c159, c160], []⟩ wq)
    (hr : ∀ (u14 u15 u16 u17 u119 u120 u121 u122 u123 u124 u125 u126 u127 u128 u129 u130 u131 u132 u133 u134 u135 u136 u137 u138 u139 u140 u141 u142 u143 u144 : Value) (wq : World), Below w.heap.size w wq → elimTo SQ n k n M2 = none → Q .ret ⟨#[c0, c1, c2, c3, .slice none 0 0, .int .i64 2, c6, c7, c8, .pointer (some ⟨kb, 0, none⟩), c10, .pointer (some ⟨vb, 0, none⟩), c12, c13, u14, u15, u16, u17, c18, c19, c20, c21, c22, c23, c24, c25, c26, c27, c28, c29, c30, c31, c32, c33, c34, c35, c36, c37, c38, c39, c40, c41, c42, c43, c44, c45, c46, c47, c48, c49, c50, c51, c52, c53, c54, c55, c56, c57, c58, c59, c60, c61, c62, c63, c64, c65, c66, c67, c68, c69, c70, c71, c72, c73, c74, c75, c76, c77, c78, c79, c80, c81, c82, c83, c84, c85, c86, c87, c88, c89, c90, c91, c92, c93, c94, c95, c96, c97, c98, c99, c100, c101, c102, c103, c104, c105, c106, c107, c108, c109, c110, c111, c112, c113, c114, c115, c116, .slice (some ⟨R, 0, none⟩) n n, .int .i64 (n : Int), u119, u120, u121, u122, u123, u124, u125, u126, u127, u128, u129, u130, u131, u132, u133, u134, u135, u136, u137, u138, u139, u140, u141, u142, u143, u144, c145, c146, c147, c148, c149, c150, c151, c152, c153, c154, c155, c156, c157, c158, c159, c160], []⟩ wq) :
    Code.wp Tryz.prog (Code.loop body3) Q ⟨#[c0, c1, c2, c3, a4, a5, c6, c7, c8, .pointer (some ⟨kb, 0, none⟩), c10, .pointer (some ⟨vb, 0, none⟩), c12, c13, a14, a15, a16, a17, c18, c19, c20, c21, c22, c23, c24, c25, c26, c27, c28, c29, c30, c31, c32, c33, c34, c35, c36, c37, c38, c39, c40, c41, c42, c43, c44, c45, c46, c47, c48, c49, c50, c51, c52, c53, c54, c55, c56, c57, c58, c59, c60, c61, c62, c63, c64, c65, c66, c67, c68, c69, c70, c71, c72, c73, c74, c75, c76, c77, c78, c79, c80, c81, c82, c83, c84, c85, c86, c87, c88, c89, c90, c91, c92, c93, c94, c95, c96, c97, c98, c99, c100, c101, c102, c103, c104, c105, c106, c107, c108, c109, c110, c111, c112, c113, c114, c115, c116, .slice (some ⟨R, 0, none⟩) n n, .int .i64 (n : Int), .int .i64 0, a120, a121, a122, a123, a124, a125, a126, a127, a128, a129, a130, a131, a132, a133, a134, a135, a136, a137, a138, a139, a140, a141, a142, a143, a144, c145, c146, c147, c148, c149, c150, c151, c152, c153, c154, c155, c156, c157, c158, c159, c160], []⟩ w0 := by
  conv => arg 2; arg 1; whnf
  conv => arg 4; zeta
  have hkn : k ≤ 8 := by omega
  replace hE := Lib.hid hE
  replace hst := Lib.hid hst
  replace hx := Lib.hid hx
  replace hr := Lib.hid hr
  go_loopw [119] (fun i wq => ∃ y : Nat, y ≤ n ∧ i = .int .i64 (y : Int) ∧ Hid (InRel w R n k kb vb bl M2 y wq)) (fun i _ => n - (intOf i).toNat)
  case atStart => exact ⟨0, Nat.zero_le _, rfl, hst.out⟩
  case round =>
    obtain ⟨i, hi, rfl, hI⟩ := hrel
    by_cases hlt2 : i < n
    · obtain ⟨M3, hel, hM, hO, hBq, hIq, hkq, hvq⟩ := hI.out
      clear hI
      have c1 := hM.out.hd i hlt2
      have c2 := hM.out.lt
      have c3 := hkq.out.cell
      have c4 := hkq.out.lt
      obtain ⟨e1, e2, e3⟩ := (hM.out.rows i hlt2).cell (j := k) (by omega)
      have e4 := (hM.out.rows i hlt2).lt
      have s2 : (k : Int) < (n : Int) + 1 := by omega
      have s3 : (0 : Int) ≤ (k : Int) := by omega
      obtain ⟨fg, fn, fd, hfq⟩ := raw_ex (M3 i k)
      rw [hfq] at e1 e2 e3
      have hM4 := Lib.hid (hM.out.alloc (.cells #[.bool fg, .string fn, .string fd] 31))
      have hk4 := Lib.hid (hkq.out.alloc (.cells #[.bool fg, .string fn, .string fd] 31))
      have hI4 := Lib.hid (hIq.out.alloc (.cells #[.bool fg, .string fn, .string fd] 31))
      have hv4 := Lib.hid (hvq.out.alloc (.cells #[.bool fg, .string fn, .string fd] 31))
      have hB4 := Lib.hid (hBq.out.alloc hBq.out.size (.cells #[.bool fg, .string fn, .string fd] 31))
      have hf4 := Lib.hid (B3.new wr fg fn fd)
      by_cases hik : i = k
      · have h1 : (i == k) = true := by rw [beq_iff_eq]; exact hik
        have h2 : ((i : Int) == (k : Int)) = true := by rw [beq_iff_eq]; omega
        have hel2 : Hid (elimTo SQ n k (i + 1) M2 = some M3) := by
          show elimTo SQ n k (i + 1) M2 = some M3
          unfold elimTo
          rw [hel.out]
          show elimRow SQ n k i M3 = some M3
          unfold elimRow
          rw [if_pos (.inl hik)]
        replace hik := Lib.hid hik
        replace hfq := Lib.hid hfq
        go_wp2_with fail
        go_quiet (fail)
        go_wp2
        go_roundw
        case rel => exact ⟨i + 1, by omega, by go_num, M3, hel2, hM4.out.drewN nq, hO, blw_drewN hB4.out nq, hI4.out, hk4.out, hv4.out⟩
        case measure => simp [intOf]; omega
      · have h1 : (i == k) = false := by rw [beq_eq_false_iff_ne]; exact hik
        have h2 : ((i : Int) == (k : Int)) = false := by rw [beq_eq_false_iff_ne]; omega
        have kz := Lib.hid zero_any
        obtain ⟨g1, g2, g3, g4, g5, g6⟩ := hf4.out.facts
        have k1 := hk4.out.cell
        have k2 := hk4.out.lt
        have k3 := hf4.out.lt
        have hcc : Hid ((wr.alloc (.cells #[.bool fg, .string fn, .string fd] 31)).cell? ⟨kb, 0, none⟩ = some (.int .i64 (k : Int)) ∧ (wr.alloc (.cells #[.bool fg, .string fn, .string fd] 31)).cell? ⟨wr.heap.size, 0, none⟩ = some (.bool fg) ∧ (wr.alloc (.cells #[.bool fg, .string fn, .string fd] 31)).cell? ⟨wr.heap.size, 1, none⟩ = some (.string fn) ∧ (wr.alloc (.cells #[.bool fg, .string fn, .string fd] 31)).cell? ⟨wr.heap.size, 2, none⟩ = some (.string fd)) := ⟨k1, g1, g2, g3⟩
        obtain ⟨w4, hw4⟩ : ∃ W, W = wr.alloc (.cells #[.bool fg, .string fn, .string fd] 31) := ⟨_, rfl⟩
        rw [← hw4] at hM4 hk4 hI4 hv4 hB4 hf4 hcc k1 k2 k3 g1 g2 g3 g4 g5 g6
        obtain ⟨fb, hfb⟩ : ∃ x, x = wr.heap.size := ⟨_, rfl⟩
        rw [← hfb] at hf4 hcc k3 g1 g2 g3 g4 g5 g6
        replace hw4 := Lib.hid hw4
        replace hfb := Lib.hid hfb
        replace hik := Lib.hid hik
        go_wp2_with fail
        rw [← hw4.out, ← hfb.out]
        clear c1 c2 c3 c4 e1 e2 e3 e4 hM hkq hvq hIq hBq hw4 hfb
        by_cases h0 : M3 i k = 0
        · have hel2 : Hid (elimTo SQ n k (i + 1) M2 = some M3) := by
            show elimTo SQ n k (i + 1) M2 = some M3
            unfold elimTo
            rw [hel.out]
            show elimRow SQ n k i M3 = some M3
            unfold elimRow
            rw [if_pos (.inr h0)]
          obtain ⟨rfl, rfl, rfl⟩ : fg = false ∧ fn = ⟨#[48]⟩ ∧ fd = ⟨#[49]⟩ := by
            rw [h0, rq_zero] at hfq
            injection hfq with a1 a2
            injection a2 with a3 a4
            exact ⟨a1.symm, a3.symm, a4.symm⟩
          replace hfq := Lib.hid hfq
          replace h0 := Lib.hid h0
          go_region_held3 (fun w' => w'.cell? ⟨kb, 0, none⟩ = some (.int .i64 (k : Int)) ∧ w'.cell? ⟨fb, 0, none⟩ = some (.bool false) ∧ w'.cell? ⟨fb, 1, none⟩ = some (.string ⟨#[48]⟩) ∧ w'.cell? ⟨fb, 2, none⟩ = some (.string ⟨#[49]⟩)) (first | (with_reducible exact hcc.out) | (exact ⟨(hb5.cell (p := ⟨kb, 0, none⟩) k2).trans k1, (hb5.cell (p := ⟨fb, 0, none⟩) k3).trans g1, (hb5.cell (p := ⟨fb, 1, none⟩) k3).trans g2, (hb5.cell (p := ⟨fb, 2, none⟩) k3).trans g3⟩) | go_keep)
            (first
              | (go_at_call 28; refine (kz.out _).mono ?_; rintro e w5 ⟨rfl, hb5⟩; replace hb5 : Below w4.heap.size w4 w5 := (Below.refl _ w4).drew.trans hb5; have hM5 := Lib.hid (hM4.out.below hb5); have hk5 := Lib.hid (hk4.out.below hb5); have hI5 := Lib.hid (hI4.out.below hb5); have hv5 := Lib.hid (hv4.out.below hb5); have hf5 := Lib.hid (hf4.out.below hb5); have hB5 := Lib.hid (hB4.out.trans (hb5.mono hB4.out.size))))
          all_goals (
            go_wp2
            go_roundw
            case rel => exact ⟨i + 1, by omega, by go_num, M3, hel2, hM5.out, hO, hB5.out, hI5.out, hk5.out, hv5.out⟩
            case measure => simp [intOf]; omega
            )
        · have hz : (fn.toList == [48]) = false := by
            have := rq_num h0
            rwa [hfq] at this
          replace hfq := Lib.hid hfq
          go_region_held3 (fun w' => w'.cell? ⟨kb, 0, none⟩ = some (.int .i64 (k : Int)) ∧ w'.cell? ⟨fb, 0, none⟩ = some (.bool fg) ∧ w'.cell? ⟨fb, 1, none⟩ = some (.string fn) ∧ w'.cell? ⟨fb, 2, none⟩ = some (.string fd)) (first | (with_reducible exact hcc.out) | (exact ⟨(hb5.cell (p := ⟨kb, 0, none⟩) k2).trans k1, (hb5.cell (p := ⟨fb, 0, none⟩) k3).trans g1, (hb5.cell (p := ⟨fb, 1, none⟩) k3).trans g2, (hb5.cell (p := ⟨fb, 2, none⟩) k3).trans g3⟩) | go_keep)
            (first
              | (go_at_call 28; refine (kz.out _).mono ?_; rintro e w5 ⟨rfl, hb5⟩; replace hb5 : Below w4.heap.size w4 w5 := (Below.refl _ w4).drew.trans hb5; have hM5 := Lib.hid (hM4.out.below hb5); have hk5 := Lib.hid (hk4.out.below hb5); have hI5 := Lib.hid (hI4.out.below hb5); have hv5 := Lib.hid (hv4.out.below hb5); have hf5 := Lib.hid (hf4.out.below hb5); have hB5 := Lib.hid (hB4.out.trans (hb5.mono hB4.out.size))))
          clear g1 g2 g3 g4 g5 g6 k1 k2 k3 hcc hM4 hk4 hI4 hv4 hB4 hf4 h1 h2
          have hrow := Lib.hid (hM5.out.rows i hlt2)
          have hlo := Lib.hid (hM5.out.low i hlt2)
          have hfne := Lib.hid (hf5.out.ne_row hrow.out (by omega))
          have hvne := Lib.hid (hv5.out.ne_row hrow.out)
          have hkne := Lib.hid (hk5.out.ne_row hrow.out)
          have hIne := Lib.hid (hI5.out.ne_row hrow.out)
          have hcb : Hid (bl k ≠ bl i) := fun e => hik.out (hM5.out.inj k i hk hlt2 e).symm
          have hS := Lib.hid (hM5.out.rows k hk)
          have hEB := Lib.hid ((EnvB.of hE.out).below hB5.out)
          have hf5' : Hid (B3 w5 fb (rq (M3 i k)).1 (rq (M3 i k)).2.1 (rq (M3 i k)).2.2) := by rw [hfq.out]; exact hf5.out
          have k1 := hk5.out.cell
          have s4 : ¬ n + 1 = k := by omega
          cases hsub : okSub SQ n k i M3 with
          | true =>
            have hok := (okSub_iff SQ).1 hsub
            have kd := Lib.hid (fun cap => changeS_ok w.heap.size (bl i) k (n + 1) cap (fun j => M3 i j) (M3 i k) (fun j => M3 k j) fb vb (bl k) (n + 1 - k) w5 hEB.out hlo.out hrow.out (by omega) (by omega) hf5'.out hfne.out hv5.out hvne.out hS.out hcb.out fun j a b => by
              obtain ⟨x1, x2, x3, x4⟩ := hok j a (by omega)
              exact ⟨of_decide_eq_true x1, of_decide_eq_true x2, of_decide_eq_true x3, of_decide_eq_true x4⟩)
            have hel2 : Hid (elimTo SQ n k (i + 1) M2 = some (subR k i M3)) := by
              show elimTo SQ n k (i + 1) M2 = some (subR k i M3)
              unfold elimTo
              rw [hel.out]
              show elimRow SQ n k i M3 = some (subR k i M3)
              unfold elimRow
              rw [if_neg (by rintro (h | h); (· exact hik.out h); (· exact h0 h)), if_pos hsub]
            have hO6 : Hid (∀ i' j, i' < n → j ≤ n → OkQ (subR k i M3 i' j)) := fun i' j hi' hj => by
              unfold subR
              split
              · rename_i hc
                obtain ⟨x1, x2, x3, x4⟩ := hok j hc.2 hj
                exact okQ_sub (of_decide_eq_true x3) (of_decide_eq_true x4)
              · exact hO.out i' j hi' hj
            replace h0 := Lib.hid h0
            clear hok hsub hz
            all_goals (
              go_wp2_with fail
              refine (kd.out _).mono ?_
              rintro e w6 ⟨rfl, hg, hrr⟩
              have hB6 := Lib.hid (hB5.out.trans (below_grown hg hlo.out hB5.out.size))
              have hM6 := Lib.hid (hM5.out.change hlt2 hg (M' := subR k i M3) (hrr.congr fun j hj => by
                unfold subR
                by_cases a1 : k ≤ j
                · rw [if_pos a1, if_pos ⟨rfl, a1⟩]
                · rw [if_neg a1, if_neg fun h => a1 h.2]) (fun i' hi' hne => by funext j; unfold subR; rw [if_neg fun h => hne h.1]))
              have hk6 := Lib.hid (hk5.out.grown hg hkne.out)
              have hI6 := Lib.hid (hI5.out.grown hg hIne.out)
              have hv6 := Lib.hid (hv5.out.grown hg hvne.out)
              clear hg hrr k1
              go_wp2
              go_roundw
              case rel => exact ⟨i + 1, by omega, by go_num, _, hel2, hM6, hO6, hB6, hI6, hk6, hv6⟩
              case measure => simp [intOf]; omega
              )
          | false =>
            obtain ⟨t, t1, t2, t3, t4⟩ := okSub_bad hsub
            have kd := Lib.hid (fun cap => changeS_er w.heap.size (bl i) k (n + 1) cap (fun j => M3 i j) (M3 i k) (fun j => M3 k j) fb vb (bl k) (n + 1 - k) w5 hEB.out hlo.out hrow.out (by omega) (by omega) hf5'.out hfne.out hv5.out hvne.out hS.out hcb.out t t1 (by omega) t3 t4 (fun j a b => ⟨hO.out i j hlt2 (by omega), hO.out k j hk (by omega)⟩) (hO.out i k hlt2 (by omega)))
            have hel2 : Hid (elimTo SQ n k n M2 = none) := by
              refine elim_none (i := i + 1) (by omega) ?_
              unfold elimTo
              rw [hel.out]
              show elimRow SQ n k i M3 = none
              unfold elimRow
              rw [if_neg (by rintro (h | h); (· exact hik.out h); (· exact h0 h)), if_neg (by rw [hsub]; simp)]
            replace h0 := Lib.hid h0
            clear t1 t2 t3 t4 hsub hz
            all_goals (
              go_wp2_with fail
              refine (kd.out _).mono ?_
              rintro e w6 ⟨rfl, hg⟩
              have hB6 := Lib.hid (hB5.out.trans (below_grown hg hlo.out hB5.out.size))
              clear hg k1
              go_wp2
              apply hr.out
              · exact hB6.out
              · exact hel2.out
              )
    · obtain rfl : n = i := by omega
      go_wp2
      apply hx.out
      exact hI.out

end Nt
end Go.Proofs.YtjjlnahipiinfaaGreatDoor

namespace Go.Proofs.YtjjlnahipiinfaaGreatDoor
open Go.RowKit Go.Shelf
namespace Nt

/-- The regions of a code, in the text's order. -/
def regsOf : Code → List Code
  | .loop c => regsOf c
  | .seq a b => regsOf a ++ regsOf b
  | .block _ c => regsOf c
  | .scope c => regsOf c
  | .cond _ a b => regsOf a ++ regsOf b
  | .region a b c => [.region a b c]
  | _ => []
noncomputable def reg20 : Code := ((Tryz.f12.body.map regsOf).bind fun l => l[20]?).getD .skip
theorem set_some {w : World} {p q : Addr} {x y : Value} (hp : w.cell? p = some x) (hq : w.cell? q = some y) (v : Value) : ∃ u, (w.setCell p v).cell? q = some u := by
  by_cases e : q = p
  · rw [e]; exact ⟨v, World.cell?_setCell_same w _ _ hp⟩
  · exact ⟨y, (World.cell?_setCell_other w _ _ _ (fun e2 => e (by first | exact e2 | exact e2.symm))).trans hq⟩

set_option maxRecDepth 1000000 in
set_option maxHeartbeats 16000000 in
theorem swap_reg {c0 d1 d2 d3 d4 d5 c6 c8 c11 c12 c13 c14 c15 c16 c17 c18 c19 c20 c21 c22 c23 c24 c25 c26 c27 c28 c29 c30 c31 c32 c33 c34 c35 c36 c37 c38 c39 c40 c41 c42 c43 c44 c45 c46 c47 c48 c49 c50 c51 c52 c53 c54 c55 c56 c57 c58 c59 c60 c61 c62 c63 c64 c65 c66 c67 c68 c69 c70 c71 c72 c73 c74 c75 c76 c77 c78 c79 c80 c81 c82 c83 c84 c85 c86 c87 c88 c89 c90 c91 c92 c93 c94 c95 c96 c97 c98 c99 c100 c101 c102 c103 c104 c105 c106 c107 c108 c109 c110 c111 c112 c113 c114 c115 c116 c117 c118 c119 c120 c121 c122 c123 c124 c125 c126 c127 c128 c129 c130 c131 c132 c133 c134 c135 c136 c137 c138 c139 c140 c141 c142 c143 c144 c145 c146 c147 c148 c149 c150 c151 c152 c153 c154 c155 c156 c157 c158 c159 c160 : Value} {Q : Exit → Act → World → Prop} (R n k f kb : Nat) (bl : Nat → Nat) (w3 : World)
    (c1 : w3.cell? ⟨kb, 0, none⟩ = some (.int .i64 (k : Int)))
    (c2 : w3.cell? ⟨R, k + f, none⟩ = some (.slice (some ⟨bl (k + f), 0, none⟩) (n + 1) (n + 1)))
    (c3 : w3.cell? ⟨R, k, none⟩ = some (.slice (some ⟨bl k, 0, none⟩) (n + 1) (n + 1)))
    (c4 : w3.frozen? ⟨R, k + f, none⟩ = false) (c5 : w3.frozen? ⟨R, k, none⟩ = false)
    (hkR : kb ≠ R) (hn8 : n ≤ 8) (hlt : k < n) (hp2 : k + f < n)
    (h : ∀ u84 u85 u86 u87 u88 u89 u90 u91 u92 u93 u94 u95 u96 u97 u98 u99 u100 u101 : Value, Q .normal ⟨#[c0, d1, d2, d3, d4, d5, c6, .slice (some ⟨R, 0, none⟩) n n, c8, .pointer (some ⟨kb, 0, none⟩), .int .i64 (f : Int), c11, c12, c13, c14, c15, c16, c17, c18, c19, c20, c21, c22, c23, c24, c25, c26, c27, c28, c29, c30, c31, c32, c33, c34, c35, c36, c37, c38, c39, c40, c41, c42, c43, c44, c45, c46, c47, c48, c49, c50, c51, c52, c53, c54, c55, c56, c57, c58, c59, c60, c61, c62, c63, c64, c65, c66, c67, c68, c69, c70, c71, c72, c73, c74, c75, c76, c77, c78, c79, c80, c81, c82, c83, u84, u85, u86, u87, u88, u89, u90, u91, u92, u93, u94, u95, u96, u97, u98, u99, u100, u101, c102, c103, c104, c105, c106, c107, c108, c109, c110, c111, c112, c113, c114, c115, c116, c117, c118, c119, c120, c121, c122, c123, c124, c125, c126, c127, c128, c129, c130, c131, c132, c133, c134, c135, c136, c137, c138, c139, c140, c141, c142, c143, c144, c145, c146, c147, c148, c149, c150, c151, c152, c153, c154, c155, c156, c157, c158, c159, c160], []⟩ (((w3.setCell ⟨R, k, none⟩ (.slice (some ⟨bl (k + f), 0, none⟩) (n + 1) (n + 1))).setCell ⟨R, k + f, none⟩ (.slice (some ⟨bl k, 0, none⟩) (n + 1) (n + 1))).drew)) :
    Code.wp Tryz.prog reg20 Q ⟨#[c0, d1, d2, d3, d4, d5, c6, .slice (some ⟨R, 0, none⟩) n n, c8, .pointer (some ⟨kb, 0, none⟩), .int .i64 (f : Int), c11, c12, c13, c14, c15, c16, c17, c18, c19, c20, c21, c22, c23, c24, c25, c26, c27, c28, c29, c30, c31, c32, c33, c34, c35, c36, c37, c38, c39, c40, c41, c42, c43, c44, c45, c46, c47, c48, c49, c50, c51, c52, c53, c54, c55, c56, c57, c58, c59, c60, c61, c62, c63, c64, c65, c66, c67, c68, c69, c70, c71, c72, c73, c74, c75, c76, c77, c78, c79, c80, c81, c82, c83, c84, c85, c86, c87, c88, c89, c90, c91, c92, c93, c94, c95, c96, c97, c98, c99, c100, c101, c102, c103, c104, c105, c106, c107, c108, c109, c110, c111, c112, c113, c114, c115, c116, c117, c118, c119, c120, c121, c122, c123, c124, c125, c126, c127, c128, c129, c130, c131, c132, c133, c134, c135, c136, c137, c138, c139, c140, c141, c142, c143, c144, c145, c146, c147, c148, c149, c150, c151, c152, c153, c154, c155, c156, c157, c158, c159, c160], []⟩ w3 := by
  have s0 : (0 : Int) ≤ (f : Int) := by omega
  have s7 : (0 : Int) ≤ (k : Int) := by omega
  have s1 : (0 : Int) ≤ (k : Int) + (f : Int) := by omega
  have s2 : (k : Int) + (f : Int) < (n : Int) := by omega
  have s3 : (k : Int) < (n : Int) := by omega
  have s4 : IntKind.i64.wrap ((k : Int) + (f : Int)) = (k : Int) + (f : Int) := IntWalk.i64_in _ (by omega)
  have s5 : ((k : Int) + (f : Int)).toNat = k + f := by omega
  obtain ⟨v1, hv1⟩ : ∃ u, (w3.setCell ⟨R, k, none⟩ (.slice (some ⟨bl (k + f), 0, none⟩) (n + 1) (n + 1))).cell? ⟨R, k + f, none⟩ = some u := set_some c3 c2 _
  obtain ⟨v2, hv2⟩ : ∃ u, (w3.setCell ⟨R, k + f, none⟩ (.slice (some ⟨bl k, 0, none⟩) (n + 1) (n + 1))).cell? ⟨R, k, none⟩ = some u := set_some c2 c3 _
  conv => arg 2; whnf
  conv => arg 4; zeta
  replace h := Lib.hid h
  have y1 : (w3.setCell ⟨R, k, none⟩ (.slice (some ⟨bl (k + f), 0, none⟩) (n + 1) (n + 1))).cell? ⟨kb, 0, none⟩ = some (.int .i64 (k : Int)) := (World.cell?_setCell_other w3 _ _ _ (fun e => hkR (congrArg Addr.block e).symm)).trans c1
  have y2 : ((w3.setCell ⟨R, k, none⟩ (.slice (some ⟨bl (k + f), 0, none⟩) (n + 1) (n + 1))).setCell ⟨R, k + f, none⟩ (.slice (some ⟨bl k, 0, none⟩) (n + 1) (n + 1))).cell? ⟨kb, 0, none⟩ = some (.int .i64 (k : Int)) := (World.cell?_setCell_other _ _ _ _ (fun e => hkR (congrArg Addr.block e).symm)).trans y1
  have hcc : Hid (w3.cell? ⟨kb, 0, none⟩ = some (.int .i64 (k : Int)) ∧ (w3.setCell ⟨R, k, none⟩ (.slice (some ⟨bl (k + f), 0, none⟩) (n + 1) (n + 1))).cell? ⟨kb, 0, none⟩ = some (.int .i64 (k : Int)) ∧ ((w3.setCell ⟨R, k, none⟩ (.slice (some ⟨bl (k + f), 0, none⟩) (n + 1) (n + 1))).setCell ⟨R, k + f, none⟩ (.slice (some ⟨bl k, 0, none⟩) (n + 1) (n + 1))).cell? ⟨kb, 0, none⟩ = some (.int .i64 (k : Int))) := ⟨c1, y1, y2⟩
  have z0 : w3.drew.cell? ⟨kb, 0, none⟩ = some (.int .i64 (k : Int)) := c1
  have z1 : (w3.setCell ⟨R, k, none⟩ (.slice (some ⟨bl (k + f), 0, none⟩) (n + 1) (n + 1))).drew.cell? ⟨kb, 0, none⟩ = some (.int .i64 (k : Int)) := y1
  have z2 : ((w3.setCell ⟨R, k, none⟩ (.slice (some ⟨bl (k + f), 0, none⟩) (n + 1) (n + 1))).setCell ⟨R, k + f, none⟩ (.slice (some ⟨bl k, 0, none⟩) (n + 1) (n + 1))).drew.cell? ⟨kb, 0, none⟩ = some (.int .i64 (k : Int)) := y2
  clear y1 y2
  refine wp_region_noPanic ?_
  refine wp_region_held_drew (S := (fun w' => w'.cell? ⟨kb, 0, none⟩ = some (.int .i64 (k : Int)))) (by kernel_rfl) z0 (fun hHeld => ?_)
  refine wpAnyH_take (i := 0) (oi := _) (v := ?_) rfl (by kernel_rfl) (by kernel_rfl) (by kernel_rfl) (fun _ _ _ h => h) (Or.inl ⟨by rfl, ?_⟩) (by assumption) ?_
  rotate_left
  · (intro w hSw; (try dsimp only at hSw); go_simp <;> with_reducible rfl)
  simp only [Act.put, List.setIfInBounds_toArray]
  refine wpAnyH_take (i := 1) (oi := _) (v := ?_) rfl (by kernel_rfl) (by kernel_rfl) (by kernel_rfl) (fun _ _ _ h => h) (Or.inl ⟨by rfl, ?_⟩) (by assumption) ?_
  rotate_left
  · (intro w hSw; (try dsimp only at hSw); go_simp <;> with_reducible rfl)
  simp only [Act.put]
  refine wpAnyH_take (i := 2) (oi := _) (v := ?_) rfl (by kernel_rfl) (by kernel_rfl) (by kernel_rfl) (fun _ _ _ h => h) (Or.inl ⟨by rfl, ?_⟩) (by assumption) ?_
  rotate_left
  · (intro w hSw; (try dsimp only at hSw); go_simp <;> with_reducible rfl)
  simp only [Act.put]
  refine wpAnyH_take (i := 3) (oi := _) (v := ?_) rfl (by kernel_rfl) (by kernel_rfl) (by kernel_rfl) (fun _ _ _ h => h) (Or.inl ⟨by rfl, ?_⟩) (by assumption) ?_
  rotate_left
  · (intro w hSw; (try dsimp only at hSw); go_simp <;> with_reducible rfl)
  simp only [Act.put]
  refine wpAnyH_take (i := 4) (oi := _) (v := ?_) rfl (by kernel_rfl) (by kernel_rfl) (by kernel_rfl) (fun _ _ _ h => h) (Or.inl ⟨by rfl, ?_⟩) (by assumption) ?_
  rotate_left
  · (intro w hSw; (try dsimp only at hSw); go_simp <;> with_reducible rfl)
  simp only [Act.put]
  refine wpAnyH_take (i := 5) (oi := _) (v := ?_) rfl (by kernel_rfl) (by kernel_rfl) (by kernel_rfl) (fun _ _ _ h => h) (Or.inl ⟨by rfl, ?_⟩) (by assumption) ?_
  rotate_left
  · (intro w hSw; (try dsimp only at hSw); go_simp <;> with_reducible rfl)
  simp only [Act.put]
  refine wpAnyH_take (i := 6) (oi := _) (v := ?_) rfl (by kernel_rfl) (by kernel_rfl) (by kernel_rfl) (fun _ _ _ h => h) (Or.inl ⟨by rfl, ?_⟩) (by assumption) ?_
  rotate_left
  · (intro w hSw; (try dsimp only at hSw); go_simp <;> with_reducible rfl)
  simp only [Act.put]
  refine wpAnyH_take (i := 7) (oi := _) (v := ?_) rfl (by kernel_rfl) (by kernel_rfl) (by kernel_rfl) (fun _ _ _ h => h) (Or.inl ⟨by rfl, ?_⟩) (by assumption) ?_
  rotate_left
  · (intro w hSw; (try dsimp only at hSw); go_simp <;> with_reducible rfl)
  simp only [Act.put]
  refine wpAnyH_take (i := 8) (oi := _) (v := ?_) rfl (by kernel_rfl) (by kernel_rfl) (by kernel_rfl) (fun _ _ _ h => h) (Or.inl ⟨by rfl, ?_⟩) (by assumption) ?_
  rotate_left
  · (intro w hSw; (try dsimp only at hSw); go_simp <;> with_reducible rfl)
  simp only [Act.put]
  refine wpAnyH_take (i := 9) (oi := _) (v := ?_) rfl (by kernel_rfl) (by kernel_rfl) (by kernel_rfl) (fun _ _ _ h => h) (Or.inl ⟨by rfl, ?_⟩) (by assumption) ?_
  rotate_left
  · (intro w hSw; (try dsimp only at hSw); go_simp <;> with_reducible rfl)
  simp only [Act.put]
  refine wpAnyH_take (i := 10) (oi := _) (v := ?_) rfl (by kernel_rfl) (by kernel_rfl) (by kernel_rfl) (fun _ _ _ h => h) (Or.inl ⟨by rfl, ?_⟩) (by assumption) ?_
  rotate_left
  · (intro w hSw; (try dsimp only at hSw); go_simp <;> with_reducible rfl)
  simp only [Act.put]
  refine wpAnyH_take (i := 12) (oi := _) (v := ?_) rfl (by kernel_rfl) (by kernel_rfl) (by kernel_rfl) (fun _ _ _ h => h) (Or.inl ⟨by rfl, ?_⟩) (by assumption) ?_
  rotate_left
  · (intro w hSw; (try dsimp only at hSw); go_simp <;> with_reducible rfl)
  simp only [Act.put]
  refine wpAnyH_take (i := 13) (oi := _) (v := ?_) rfl (by kernel_rfl) (by kernel_rfl) (by kernel_rfl) (fun _ _ _ h => h) (Or.inl ⟨by rfl, ?_⟩) (by assumption) ?_
  rotate_left
  · (intro w hSw; (try dsimp only at hSw); go_simp <;> with_reducible rfl)
  simp only [Act.put]
  refine wpAnyH_take (i := 14) (oi := _) (v := ?_) rfl (by kernel_rfl) (by kernel_rfl) (by kernel_rfl) (fun _ _ _ h => h) (Or.inl ⟨by rfl, ?_⟩) (by assumption) ?_
  rotate_left
  · (intro w hSw; (try dsimp only at hSw); go_simp <;> with_reducible rfl)
  simp only [Act.put]
  refine wpAnyH_ready (rs := [11, 15]) (by kernel_rfl) (by simp) ?_
  refine AllReadyH.cons (o := _) rfl (fun K hK => ?_) ?_
  · go_simp
    refine hK.out _ _ (by with_reducible exact z0) (fun hHeld2 => ?_)
    clear hK K hHeld
    have hHeld := hHeld2
    clear hHeld2
    try simp only [Act.put, List.setIfInBounds_toArray, List.set_cons_zero, List.set_cons_succ]
    refine wpAnyH_ready (rs := [15]) (by kernel_rfl) (by simp) ?_
    refine AllReadyH.cons (o := _) rfl (fun K hK => ?_) ?_
    · go_simp
      refine hK.out _ _ (by with_reducible exact z0) (fun hHeld2 => ?_)
      clear hK K hHeld
      have hHeld := hHeld2
      clear hHeld2
      try simp only [Act.put, List.setIfInBounds_toArray, List.set_cons_zero, List.set_cons_succ]
      refine wpAnyH_take (i := 16) (oi := _) (v := ?_) rfl (by kernel_rfl) (by kernel_rfl) (by kernel_rfl) (fun _ _ _ h => h) (Or.inl ⟨by rfl, ?_⟩) (by assumption) ?_
      rotate_left
      · (intro w hSw; (try dsimp only at hSw); go_simp <;> with_reducible rfl)
      simp only [Act.put, List.setIfInBounds_toArray]
      refine wpAnyH_ready (rs := [17]) (by kernel_rfl) (by simp) ?_
      refine AllReadyH.cons (o := _) rfl (fun K hK => ?_) ?_
      · go_simp
        refine hK.out _ _ (by with_reducible exact z1) (fun hHeld2 => ?_)
        clear hK K hHeld
        have hHeld := hHeld2
        clear hHeld2
        try simp only [Act.put, List.setIfInBounds_toArray, List.set_cons_zero, List.set_cons_succ]
        refine wpAnyH_take (i := 18) (oi := _) (v := ?_) rfl (by kernel_rfl) (by kernel_rfl) (by kernel_rfl) (fun _ _ _ h => h) (Or.inl ⟨by rfl, ?_⟩) (by assumption) ?_
        rotate_left
        · (intro w hSw; (try dsimp only at hSw); go_simp <;> with_reducible rfl)
        simp only [Act.put, List.setIfInBounds_toArray]
        refine wpAnyH_ready (rs := [19]) (by kernel_rfl) (by simp) ?_
        refine AllReadyH.cons (o := _) rfl (fun K hK => ?_) ?_
        · go_simp
          refine hK.out _ _ (by with_reducible exact z2) (fun hHeld2 => ?_)
          clear hK K hHeld
          have hHeld := hHeld2
          clear hHeld2
          try simp only [Act.put, List.setIfInBounds_toArray, List.set_cons_zero, List.set_cons_succ]
          refine wpAnyH_done (by kernel_rfl) ?_ _
          refine NoPanic.normal ?_
          exact h.out ..
        exact AllReadyH.nil
      exact AllReadyH.nil
    exact AllReadyH.nil
  refine AllReadyH.cons (o := _) rfl (fun K hK => ?_) ?_
  · go_simp
    refine hK.out _ _ (by with_reducible exact z0) (fun hHeld2 => ?_)
    clear hK K hHeld
    have hHeld := hHeld2
    clear hHeld2
    try simp only [Act.put, List.setIfInBounds_toArray, List.set_cons_zero, List.set_cons_succ]
    refine wpAnyH_ready (rs := [11]) (by kernel_rfl) (by simp) ?_
    refine AllReadyH.cons (o := _) rfl (fun K hK => ?_) ?_
    · go_simp
      refine hK.out _ _ (by with_reducible exact z0) (fun hHeld2 => ?_)
      clear hK K hHeld
      have hHeld := hHeld2
      clear hHeld2
      try simp only [Act.put, List.setIfInBounds_toArray, List.set_cons_zero, List.set_cons_succ]
      refine wpAnyH_take (i := 16) (oi := _) (v := ?_) rfl (by kernel_rfl) (by kernel_rfl) (by kernel_rfl) (fun _ _ _ h => h) (Or.inl ⟨by rfl, ?_⟩) (by assumption) ?_
      rotate_left
      · (intro w hSw; (try dsimp only at hSw); go_simp <;> with_reducible rfl)
      simp only [Act.put, List.setIfInBounds_toArray]
      refine wpAnyH_ready (rs := [17]) (by kernel_rfl) (by simp) ?_
      refine AllReadyH.cons (o := _) rfl (fun K hK => ?_) ?_
      · go_simp
        refine hK.out _ _ (by with_reducible exact z1) (fun hHeld2 => ?_)
        clear hK K hHeld
        have hHeld := hHeld2
        clear hHeld2
        try simp only [Act.put, List.setIfInBounds_toArray, List.set_cons_zero, List.set_cons_succ]
        refine wpAnyH_take (i := 18) (oi := _) (v := ?_) rfl (by kernel_rfl) (by kernel_rfl) (by kernel_rfl) (fun _ _ _ h => h) (Or.inl ⟨by rfl, ?_⟩) (by assumption) ?_
        rotate_left
        · (intro w hSw; (try dsimp only at hSw); go_simp <;> with_reducible rfl)
        simp only [Act.put, List.setIfInBounds_toArray]
        refine wpAnyH_ready (rs := [19]) (by kernel_rfl) (by simp) ?_
        refine AllReadyH.cons (o := _) rfl (fun K hK => ?_) ?_
        · go_simp
          refine hK.out _ _ (by with_reducible exact z2) (fun hHeld2 => ?_)
          clear hK K hHeld
          have hHeld := hHeld2
          clear hHeld2
          try simp only [Act.put, List.setIfInBounds_toArray, List.set_cons_zero, List.set_cons_succ]
          refine wpAnyH_done (by kernel_rfl) ?_ _
          refine NoPanic.normal ?_
          exact h.out ..
        exact AllReadyH.nil
      exact AllReadyH.nil
    exact AllReadyH.nil
  exact AllReadyH.nil
end Nt
end Go.Proofs.YtjjlnahipiinfaaGreatDoor

namespace Go.Proofs.YtjjlnahipiinfaaGreatDoor
open Go.RowKit Go.Shelf
namespace Nt

noncomputable def body2 : Code := ((Tryz.f12.body.map loopsOf).bind fun l => l[1]?).getD .skip
/-- What holds at the head of a round of the outer loop. -/
def OutRel (w : World) (R n : Nat) (M0 : Mx) (y : Nat) (wq : World) : Prop :=
  ∃ (bl : Nat → Nat) (M : Mx), Hid (solveTo SQ n y M0 = .ok M) ∧ Hid (MatW wq w.heap.size R n bl M) ∧ Hid (∀ i j, i < n → j ≤ n → OkQ (M i j)) ∧ Hid (Below w.heap.size w wq) ∧ Hid (Int1 wq w.heap.size n)

set_option maxRecDepth 1000000 in
set_option maxHeartbeats 16000000 in
theorem outer_loop {c0 c1 c2 c3 c6 c8 c18 c19 c20 c21 c22 c23 c24 c25 c26 c27 c28 c29 c30 c31 c32 c33 c34 c35 c36 c37 c38 c39 c40 c41 c42 c43 c44 c45 c46 c47 c48 c49 c50 c51 c52 c53 c54 c55 c56 c57 c58 c59 c60 c61 c62 c63 c64 c65 c66 c67 c68 c69 c70 c71 c72 c146 c147 c148 c149 c150 c151 c152 c153 c154 c155 c156 c157 c158 c159 c160 a4 a5 a9 a10 a11 a12 a13 a14 a15 a16 a17 a75 a76 a77 a78 a79 a80 a81 a82 a83 a84 a85 a86 a87 a88 a89 a90 a91 a92 a93 a94 a95 a96 a97 a98 a99 a100 a101 a102 a103 a104 a105 a106 a107 a108 a109 a110 a111 a112 a113 a114 a115 a116 a117 a118 a119 a120 a121 a122 a123 a124 a125 a126 a127 a128 a129 a130 a131 a132 a133 a134 a135 a136 a137 a138 a139 a140 a141 a142 a143 a144 a145 : Value} {Q : Exit → Act → World → Prop} (R n : Nat) (M0 : Mx) (w w0 : World) (hE : Env w) (hn8 : n ≤ 8) (hnR : w.heap.size ≠ R) (hst0 : OutRel w R n M0 0 w0)
    (hx : ∀ (u4 u5 u9 u10 u11 u12 u13 u14 u15 u16 u17 u74 u75 u76 u77 u78 u79 u80 u81 u82 u83 u84 u85 u86 u87 u88 u89 u90 u91 u92 u93 u94 u95 u96 u97 u98 u99 u100 u101 u102 u103 u104 u105 u106 u107 u108 u109 u110 u111 u112 u113 u114 u115 u116 u117 u118 u119 u120 u121 u122 u123 u124 u125 u126 u127 u128 u129 u130 u131 u132 u133 u134 u135 u136 u137 u138 u139 u140 u141 u142 u143 u144 u145 : Value) (wq : World), OutRel w R n M0 n wq → Q (.exit 2) ⟨#[c0, c1, c2, c3, u4, u5, c6, .slice (some ⟨R, 0, none⟩) n n, c8, u9, u10, u11, u12, u13, u14, u15, u16, u17, c18, c19, c20, c21, c22, c23, c24, c25, c26, c27, c28, c29, c30, c31, c32, c33, c34, c35, c36, c37, c38, c39, c40, c41, c42, c43, c44, c45, c46, c47, c48, c49, c50, c51, c52, c53, c54, c55, c56, c57, c58, c59, c60, c61, c62, c63, c64, c65, c66, c67, c68, c69, c70, c71, c72, .int .i64 (n : Int), u74, u75, u76, u77, u78, u79, u80, u81, u82, u83, u84, u85, u86, u87, u88, u89, u90, u91, u92, u93, u94, u95, u96, u97, u98, u99, u100, u101, u102, u103, u104, u105, u106, u107, u108, u109, u110, u111, u112, u113, u114, u115, u116, u117, u118, u119, u120, u121, u122, u123, u124, u125, u126, u127, u128, u129, u130, u131, u132, u133, u134, u135, u136, u137, u138, u139, u140, u141, u142, u143, u144, u145, c146, c147, c148, c149, c150, c151, c152, c153, c154, c155, c156, c157, c158, c159, c160], []⟩ wq)
    (hr : ∀ (er : Int) (u9 u10 u11 u12 u13 u14 u15 u16 u17 u74 u75 u76 u77 u78 u79 u80 u81 u82 u83 u84 u85 u86 u87 u88 u89 u90 u91 u92 u93 u94 u95 u96 u97 u98 u99 u100 u101 u102 u103 u104 u105 u106 u107 u108 u109 u110 u111 u112 u113 u114 u115 u116 u117 u118 u119 u120 u121 u122 u123 u124 u125 u126 u127 u128 u129 u130 u131 u132 u133 u134 u135 u136 u137 u138 u139 u140 u141 u142 u143 u144 u145 : Value) (wq : World), Below w.heap.size w wq → solveTo SQ n n M0 = .error er → Q .ret ⟨#[c0, c1, c2, c3, .slice none 0 0, .int .i64 er, c6, .slice (some ⟨R, 0, none⟩) n n, c8, u9, u10, u11, u12, u13, u14, u15, u16, u17, c18, c19, c20, c21, c22, c23, c24, c25, c26, c27, c28, c29, c30, c31, c32, c33, c34, c35, c36, c37, c38, c39, c40, c41, c42, c43, c44, c45, c46, c47, c48, c49, c50, c51, c52, c53, c54, c55, c56, c57, c58, c59, c60, c61, c62, c63, c64, c65, c66, c67, c68, c69, c70, c71, c72, .int .i64 (n : Int), u74, u75, u76, u77, u78, u79, u80, u81, u82, u83, u84, u85, u86, u87, u88, u89, u90, u91, u92, u93, u94, u95, u96, u97, u98, u99, u100, u101, u102, u103, u104, u105, u106, u107, u108, u109, u110, u111, u112, u113, u114, u115, u116, u117, u118, u119, u120, u121, u122, u123, u124, u125, u126, u127, u128, u129, u130, u131, u132, u133, u134, u135, u136, u137, u138, u139, u140, u141, u142, u143, u144, u145, c146, c147, c148, c149, c150, c151, c152, c153, c154, c155, c156, c157, c158, c159, c160], []⟩ wq) :
    Code.wp Tryz.prog (Code.loop body2) Q ⟨#[c0, c1, c2, c3, a4, a5, c6, .slice (some ⟨R, 0, none⟩) n n, c8, a9, a10, a11, a12, a13, a14, a15, a16, a17, c18, c19, c20, c21, c22, c23, c24, c25, c26, c27, c28, c29, c30, c31, c32, c33, c34, c35, c36, c37, c38, c39, c40, c41, c42, c43, c44, c45, c46, c47, c48, c49, c50, c51, c52, c53, c54, c55, c56, c57, c58, c59, c60, c61, c62, c63, c64, c65, c66, c67, c68, c69, c70, c71, c72, .int .i64 (n : Int), .int .i64 0, a75, a76, a77, a78, a79, a80, a81, a82, a83, a84, a85, a86, a87, a88, a89, a90, a91, a92, a93, a94, a95, a96, a97, a98, a99, a100, a101, a102, a103, a104, a105, a106, a107, a108, a109, a110, a111, a112, a113, a114, a115, a116, a117, a118, a119, a120, a121, a122, a123, a124, a125, a126, a127, a128, a129, a130, a131, a132, a133, a134, a135, a136, a137, a138, a139, a140, a141, a142, a143, a144, a145, c146, c147, c148, c149, c150, c151, c152, c153, c154, c155, c156, c157, c158, c159, c160], []⟩ w0 := by
  conv => arg 2; arg 1; whnf
  conv => arg 4; zeta
  replace hE := Lib.hid hE
  replace hst0 := Lib.hid hst0
  replace hx := Lib.hid hx
  replace hr := Lib.hid hr
  replace hnR := Lib.hid hnR
  go_loopw [74] (fun i wq => ∃ y : Nat, y ≤ n ∧ i = .int .i64 (y : Int) ∧ Hid (OutRel w R n M0 y wq)) (fun i _ => n - (intOf i).toNat)
  case atStart => exact ⟨0, Nat.zero_le _, rfl, hst0.out⟩
  case round =>
    obtain ⟨k, hk, rfl, hI⟩ := hrel
    have hI9 := hI.out
    obtain ⟨bl, M, hS, hM, hO, hBr, hIr⟩ := hI9
    by_cases hlt : k < n
    · have hkb : Hid (Int1 (wr.alloc (.cells #[.int .i64 (k : Int)] 3)) wr.heap.size k) := Int1.new wr k
      have hMk := Lib.hid (hM.out.alloc (.cells #[.int .i64 (k : Int)] 3))
      have kx := Lib.hid (fun c => idx3_any w.heap.size R n k c wr.heap.size bl M (wr.alloc (.cells #[.int .i64 (k : Int)] 3)) hlt (by omega) hMk.out hkb.out)
      have k0 : (0 : Int) ≤ (k : Int) := by omega
      have k1 : (k : Int) ≤ (n : Int) := by omega
      have k2 : ¬ n = k := by omega
      cases hp : pivot n k M (n - k) with
      | none =>
        have hpi : pivI n k M = -1 := by unfold pivI; rw [hp]
        have hst : stepK SQ n k M = .error 12 := by unfold stepK; rw [hp]
        have hE9 := Lib.hid (solve_err hS.out hst hlt)
        replace kx := kx.out
        rw [hpi] at kx
        replace kx := Lib.hid kx
        clear hp hpi hst
        go_wp2_with fail
        refine (kx.out _).mono ?_
        rintro e w3 ⟨rfl, hb⟩
        have hB3 := Lib.hid ((hBr.out.alloc hBr.out.size _).trans (hb.mono (hBr.out.alloc hBr.out.size _).size))
        clear hb
        go_wp2
        apply hr.out 12
        · exact hB3.out
        · exact hE9.out
      | some p =>
        obtain ⟨hp1, hp2, hp3, _⟩ := pivot_some (by omega) hp
        obtain ⟨f, rfl⟩ : ∃ f, p = k + f := ⟨p - k, by omega⟩
        have hpi : pivI n k M = (f : Int) := by unfold pivI; rw [hp]; show ((k + f - k : Nat) : Int) = f; rw [Nat.add_sub_cancel_left]
        replace kx := kx.out
        rw [hpi] at kx
        replace kx := Lib.hid kx
        replace hp := Lib.hid hp
        replace hp3 := Lib.hid hp3
        clear hpi
        go_wp2_with fail
        refine (kx.out _).mono ?_
        rintro e w3 ⟨rfl, hb⟩
        have hB3 := Lib.hid ((hBr.out.alloc hBr.out.size _).trans (hb.mono (hBr.out.alloc hBr.out.size _).size))
        have hM3 := Lib.hid (hMk.out.below hb)
        have hk3 := Lib.hid (hkb.out.below hb)
        have hI3 := Lib.hid ((hIr.out.alloc (.cells #[.int .i64 (k : Int)] 3)).below hb)
        clear hb
        have c1 := hk3.out.cell
        have c2 := hM3.out.hd (k + f) hp2
        have c3 := hM3.out.hd k hlt
        have c4 := hM3.out.fr (k + f)
        have c5 := hM3.out.fr k
        have c6 := hM3.out.lt
        have s0 : (0 : Int) ≤ (f : Int) := by omega
        have s1 : (0 : Int) ≤ (k : Int) + (f : Int) := by omega
        have s2 : (k : Int) + (f : Int) < (n : Int) := by omega
        have s3 : (k : Int) < (n : Int) := by omega
        have s4 : IntKind.i64.wrap ((k : Int) + (f : Int)) = (k : Int) + (f : Int) := IntWalk.i64_in _ (by omega)
        have s5 : ((k : Int) + (f : Int)).toNat = k + f := by omega
        have hkR : wr.heap.size ≠ R := Nat.ne_of_gt hM.out.lt
        obtain ⟨u1, hu1⟩ : ∃ u, (w3.setCell ⟨R, k, none⟩ (.slice (some ⟨bl (k + f), 0, none⟩) (n + 1) (n + 1))).cell? ⟨R, k + f, none⟩ = some u := set_some c3 c2 _
        obtain ⟨u2, hu2⟩ : ∃ u, (w3.setCell ⟨R, k + f, none⟩ (.slice (some ⟨bl k, 0, none⟩) (n + 1) (n + 1))).cell? ⟨R, k, none⟩ = some u := set_some c2 c3 _
        go_wp2_with fail
        refine swap_reg R n k f wr.heap.size bl w3 c1 c2 c3 c4 c5 hkR hn8 hlt hp2 ?_
        intro v84 v85 v86 v87 v88 v89 v90 v91 v92 v93 v94 v95 v96 v97 v98 v99 v100 v101
        have hkk : Hid (wr.heap.size ≠ R ∧ w.heap.size ≠ R) := ⟨hkR, hnR.out⟩
        have hM4 : Hid (MatW (((w3.setCell ⟨R, k, none⟩ (.slice (some ⟨bl (k + f), 0, none⟩) (n + 1) (n + 1))).setCell ⟨R, k + f, none⟩ (.slice (some ⟨bl k, 0, none⟩) (n + 1) (n + 1))).drew) w.heap.size R n (swapB k (k + f) bl) (swapR k (k + f) M)) := (hM3.out.swap hlt hp2).drew
        have hk4 : Hid (Int1 (((w3.setCell ⟨R, k, none⟩ (.slice (some ⟨bl (k + f), 0, none⟩) (n + 1) (n + 1))).setCell ⟨R, k + f, none⟩ (.slice (some ⟨bl k, 0, none⟩) (n + 1) (n + 1))).drew) wr.heap.size k) := (hk3.out.far (p := ⟨R, k, none⟩) hkk.out.1 _).far (p := ⟨R, k + f, none⟩) hkk.out.1 _
        have hI4 : Hid (Int1 (((w3.setCell ⟨R, k, none⟩ (.slice (some ⟨bl (k + f), 0, none⟩) (n + 1) (n + 1))).setCell ⟨R, k + f, none⟩ (.slice (some ⟨bl k, 0, none⟩) (n + 1) (n + 1))).drew) w.heap.size n) := (hI3.out.far (p := ⟨R, k, none⟩) hkk.out.2 _).far (p := ⟨R, k + f, none⟩) hkk.out.2 _
        have hB4 : Hid (Below w.heap.size w (((w3.setCell ⟨R, k, none⟩ (.slice (some ⟨bl (k + f), 0, none⟩) (n + 1) (n + 1))).setCell ⟨R, k + f, none⟩ (.slice (some ⟨bl k, 0, none⟩) (n + 1) (n + 1))).drew)) := ((hB3.out.setCell hM3.out.lowR _).setCell hM3.out.lowR _).drew
        obtain ⟨w4, hw4⟩ : ∃ W, W = ((w3.setCell ⟨R, k, none⟩ (.slice (some ⟨bl (k + f), 0, none⟩) (n + 1) (n + 1))).setCell ⟨R, k + f, none⟩ (.slice (some ⟨bl k, 0, none⟩) (n + 1) (n + 1))).drew := ⟨_, rfl⟩
        rw [← hw4] at hM4 hk4 hI4 hB4 ⊢
        clear hw4 hu1 hu2 c1 c2 c3 c4 c5 c6 s0 s1 s2 s4 s5 hkR hM3 hk3 hI3 hB3 hMk hkb kx
        have hO4 : Hid (∀ i j, i < n → j ≤ n → OkQ (swapR k (k + f) M i j)) := fun i j hi hj => by
          unfold swapR
          split
          · exact hO.out _ _ hp2 hj
          · split
            · exact hO.out _ _ hlt hj
            · exact hO.out _ _ hi hj
        have hpv : swapR k (k + f) M k k ≠ 0 := by unfold swapR; rw [if_pos rfl]; exact hp3.out
        have hst : stepK SQ n k M = if okDiv SQ n k (swapR k (k + f) M) = true then (match elimTo SQ n k n (divMx k (swapR k (k + f) M)) with | some M' => .ok M' | none => .error 2) else .error 2 := by
          unfold stepK; rw [hp.out]; rfl
        replace hst := Lib.hid hst
        generalize swapR k (k + f) M = M1 at *
        generalize swapB k (k + f) bl = bl1 at *
        replace hpv := Lib.hid hpv
        clear hp3 hp u1 u2
        have c1 := hk4.out.cell
        have c2 := hM4.out.hd k hlt
        have c3 := hM4.out.lt
        have c4 := hk4.out.lt
        have s0 : (k : Int) ≤ (n : Int) + 1 := by omega
        have s1 : ¬ n + 1 = k := by omega
        have hcc : Hid (w4.cell? ⟨wr.heap.size, 0, none⟩ = some (.int .i64 (k : Int)) ∧ w4.cell? ⟨R, k, none⟩ = some (.slice (some ⟨bl1 k, 0, none⟩) (n + 1) (n + 1))) := ⟨c1, c2⟩
        go_wp2_with fail
        go_region_held3 (fun w' => w'.cell? ⟨wr.heap.size, 0, none⟩ = some (.int .i64 (k : Int)) ∧ w'.cell? ⟨R, k, none⟩ = some (.slice (some ⟨bl1 k, 0, none⟩) (n + 1) (n + 1))) (first | (with_reducible exact hcc.out) | go_keep) (fail)
        have hv5 : Hid (Blk1 (w4.alloc (.cells #[.slice (some ⟨bl1 k, k * 3, none⟩) (n + 1 - k) (n + 1 - k)] 23)).drew w4.heap.size (.slice (some ⟨bl1 k, k * 3, none⟩) (n + 1 - k) (n + 1 - k))) := heap_alloc_new w4 _
        have hM5 : Hid (MatW (w4.alloc (.cells #[.slice (some ⟨bl1 k, k * 3, none⟩) (n + 1 - k) (n + 1 - k)] 23)).drew w.heap.size R n bl1 M1) := (hM4.out.alloc _).drew
        have hk5 : Hid (Int1 (w4.alloc (.cells #[.slice (some ⟨bl1 k, k * 3, none⟩) (n + 1 - k) (n + 1 - k)] 23)).drew wr.heap.size k) := hk4.out.alloc _
        have hI5 : Hid (Int1 (w4.alloc (.cells #[.slice (some ⟨bl1 k, k * 3, none⟩) (n + 1 - k) (n + 1 - k)] 23)).drew w.heap.size n) := hI4.out.alloc _
        have hB5 : Hid (Below w.heap.size w (w4.alloc (.cells #[.slice (some ⟨bl1 k, k * 3, none⟩) (n + 1 - k) (n + 1 - k)] 23)).drew) := (hB4.out.alloc hB4.out.size _).drew
        obtain ⟨w5, hw5⟩ : ∃ W, W = (w4.alloc (.cells #[.slice (some ⟨bl1 k, k * 3, none⟩) (n + 1 - k) (n + 1 - k)] 23)).drew := ⟨_, rfl⟩
        rw [← hw5] at hv5 hM5 hk5 hI5 hB5 ⊢
        clear hw5 hM4 hk4 hI4 hB4 c1 c2 c3 c4 s0 hcc hM hBr hIr
        generalize w4.heap.size = vb at *
        generalize wr.heap.size = kb at *
        obtain ⟨pg, pn, pd, hpq⟩ := raw_ex (M1 k k)
        have e0 := (hM5.out.rows k hlt).cell (j := k) (by omega)
        rw [hpq] at e0
        obtain ⟨e1, e2, e3⟩ := e0
        have e4 := (hM5.out.rows k hlt).lt
        have v1 := hv5.out.cell
        have v2 := hv5.out.lt
        have v3 : 0 < n + 1 - k := by omega
        replace hpq := Lib.hid hpq
        have hM6 := Lib.hid (hM5.out.alloc (.cells #[.bool pg, .string pn, .string pd] 31))
        have hk6 := Lib.hid (hk5.out.alloc (.cells #[.bool pg, .string pn, .string pd] 31))
        have hI6 := Lib.hid (hI5.out.alloc (.cells #[.bool pg, .string pn, .string pd] 31))
        have hv6 := Lib.hid (hv5.out.alloc (.cells #[.bool pg, .string pn, .string pd] 31))
        have hB6 := Lib.hid (hB5.out.alloc hB5.out.size (.cells #[.bool pg, .string pn, .string pd] 31))
        have hp6 : Hid (B3 (w5.alloc (.cells #[.bool pg, .string pn, .string pd] 31)) w5.heap.size (rq (M1 k k)).1 (rq (M1 k k)).2.1 (rq (M1 k k)).2.2) := by rw [hpq.out]; exact B3.new w5 _ _ _
        have hpb := Lib.hid (hp6.out.ne_row (hM6.out.rows k hlt) (by omega))
        cases hd : okDiv SQ n k M1 with
        | false =>
          obtain ⟨t, t1, t2, t3, t4⟩ := okDiv_bad hd
          have kd := Lib.hid (fun c => changeD_er w.heap.size (bl1 k) k (n + 1) c (fun j => M1 k j) (M1 k k) w5.heap.size _ ((EnvB.of hE.out).below hB6.out) (hM6.out.low k hlt) (hM6.out.rows k hlt) (by omega) (by omega) hp6.out hpb.out hpv.out t t1 (by omega) t3 t4 (fun j _ h2 => hO4.out k j hlt (by omega)) (hO4.out k k hlt (by omega)))
          rw [hd, if_neg (by simp)] at hst
          have hE9 := Lib.hid (solve_err hS.out hst.out hlt)
          have hlo := Lib.hid (hM6.out.low k hlt)
          clear t1 t2 t3 t4 hd
          go_wp2_with fail
          refine (kd.out _).mono ?_
          rintro e w7 ⟨rfl, hg⟩
          have hB7 := Lib.hid (hB6.out.trans (below_grown hg hlo.out hB6.out.size))
          clear hg e1 e2 e3 e4 v1 v2
          go_wp2
          apply hr.out 2
          · exact hB7.out
          · exact hE9.out
        | true =>
          have hok := (okDiv_iff SQ).1 hd
          have kd := Lib.hid (fun c => changeD_ok w.heap.size (bl1 k) k (n + 1) c (fun j => M1 k j) (M1 k k) w5.heap.size _ ((EnvB.of hE.out).below hB6.out) (hM6.out.low k hlt) (hM6.out.rows k hlt) (by omega) (by omega) hp6.out hpb.out hpv.out fun j h1 h2 => ⟨of_decide_eq_true (hok j h1 (by omega)).1, of_decide_eq_true (hok j h1 (by omega)).2⟩)
          rw [hd, if_pos rfl] at hst
          have hO7 : Hid (∀ i j, i < n → j ≤ n → OkQ (divMx k M1 i j)) := fun i j hi hj => by
            unfold divMx
            split
            · rename_i hc
              exact okQ_div (of_decide_eq_true (hok j hc.2 hj).1) (of_decide_eq_true (hok j hc.2 hj).2) hpv.out
            · exact hO4.out i j hi hj
          have hlo := Lib.hid (hM6.out.low k hlt)
          clear hd hok
          go_wp2_with fail
          refine (kd.out _).mono ?_
          rintro e w7 ⟨rfl, hg, hr⟩
          have hB7 := Lib.hid (hB6.out.trans (below_grown hg hlo.out hB6.out.size))
          have hM7 := Lib.hid (hM6.out.change hlt hg (M' := divMx k M1) (hr.congr fun j hj => by
            unfold divMx
            by_cases h1 : k ≤ j
            · rw [if_pos h1, if_pos ⟨rfl, h1⟩]
            · rw [if_neg h1, if_neg fun h => h1 h.2]) (fun i hi hne => by funext j; unfold divMx; rw [if_neg fun h => hne h.1]))
          have hk7 := Lib.hid (hk6.out.grown hg (hk6.out.ne_row (hM6.out.rows k hlt)))
          have hI7 := Lib.hid (hI6.out.grown hg (hI6.out.ne_row (hM6.out.rows k hlt)))
          have hv7 := Lib.hid (hv6.out.grown hg (hv6.out.ne_row (hM6.out.rows k hlt)))
          clear hg hr e1 e2 e3 e4 v1 v2 kd hM6 hk6 hI6 hv6 hB6 hp6 hpb hM5 hk5 hI5 hv5 hB5 hlo
          generalize divMx k M1 = M2 at *
          go_wp2
          clear hpq hO4 hpv
          refine inner_loop R n k kb vb bl1 M2 w w7 hE.out hn8 hlt ⟨M2, rfl, hM7, hO7, hB7, hI7, hk7, hv7⟩ ?_ ?_
          · intro z4 z5 z14 z15 z16 z17 z119 z120 z121 z122 z123 z124 z125 z126 z127 z128 z129 z130 z131 z132 z133 z134 z135 z136 z137 z138 z139 z140 z141 z142 z143 z144 wq hq
            obtain ⟨M3, hel, hM3, hO3, hBq, hIq, hkq, hvq⟩ := hq
            have hst2 : Hid (solveTo SQ n (k + 1) M0 = .ok M3) := by
              show solveTo SQ n (k + 1) M0 = .ok M3
              unfold solveTo
              rw [hS.out]
              show stepK SQ n k M = .ok M3
              rw [hst.out, hel.out]
            clear hM7 hO7 hB7 hI7 hk7 hv7
            go_wp2
            go_roundw
            case rel => exact ⟨k + 1, by omega, by go_num, bl1, M3, hst2, hM3, hO3, hBq, hIq⟩
            case measure => simp [intOf]; omega
          · intro z14 z15 z16 z17 z119 z120 z121 z122 z123 z124 z125 z126 z127 z128 z129 z130 z131 z132 z133 z134 z135 z136 z137 z138 z139 z140 z141 z142 z143 z144 wq hbq hnone
            have hE9 := Lib.hid (solve_err hS.out (show stepK SQ n k M = .error 2 by rw [hst.out, hnone]) hlt)
            replace hbq := Lib.hid hbq
            replace hnone := Lib.hid hnone
            clear hM7 hO7 hB7 hI7 hk7 hv7
            go_wp2
            apply hr.out 2
            · exact hbq.out
            · exact hE9.out
    · obtain rfl : n = k := by omega
      go_wp2
      apply hx.out
      exact hI.out

end Nt
end Go.Proofs.YtjjlnahipiinfaaGreatDoor

namespace Go.Proofs.YtjjlnahipiinfaaGreatDoor
open Go.RowKit Go.Shelf
namespace Nt

theorem infoRS : (Tryz.prog.info? 23).map (fun i => (i.zero, i.size, i.bytes)) = some (some (.slice none 0 0), 1, 24) := by kernel_rfl
/-- The working matrix, of which the first rows are laid. -/
structure MatP (W : World) (B R n i : Nat) (bl : Nat → Nat) (M : Mx) : Prop where
  lt : R < W.heap.size
  hd : ∀ x, x < i → W.cell? ⟨R, x, none⟩ = some (.slice (some ⟨bl x, 0, none⟩) (n + 1) (n + 1))
  hz : ∀ x, i ≤ x → x < n → W.cell? ⟨R, x, none⟩ = some (.slice none 0 0)
  fr : ∀ x, W.frozen? ⟨R, x, none⟩ = false
  rows : ∀ x, x < i → RowB W (bl x) (n + 1) fun j => rq (M x j)
  inj : ∀ x y, x < i → y < i → bl x = bl y → x = y
  ne : ∀ x, x < i → bl x ≠ R
  lowR : B ≤ R
  low : ∀ x, x < i → B ≤ bl x
theorem MatP.start (w : World) {B : Nat} (hB : B ≤ w.heap.size) (n : Nat) (M : Mx) : MatP (w.alloc (.cells (madeCells #[.slice none 0 0] n) 23)) B w.heap.size n 0 (fun _ => 0) M := by
  have h := heap_alloc_new w (.cells (madeCells #[(.slice none 0 0 : Value)] n) 23)
  refine ⟨by simp, fun x h => absurd h (by omega), fun x _ hx => ?_, fun x => by simp only [World.frozen?, h]; simp, fun x h => absurd h (by omega), fun x _ h => absurd h (by omega), fun x h => absurd h (by omega), hB, fun x h => absurd h (by omega)⟩
  simp only [World.cell?, h]
  simp [madeCells, hx]
  rw [Nat.mod_one]
  rfl
theorem MatP.done {W : World} {B R n : Nat} {bl : Nat → Nat} {M : Mx} (h : MatP W B R n n bl M) : MatW W B R n bl M := ⟨h.lt, h.hd, h.fr, h.rows, h.inj, h.ne, h.lowR, h.low⟩

/-- One round of the laying: a row of numbers is new, and the header's cell i tells it; all other blocks are as they were. -/
structure Laid (W W' : World) (R i : Nat) (v : Value) (m : Nat) (r : Nat → Raw) : Prop where
  os : W'.os = W.os
  tape : W'.tape = W.tape
  output : W'.output = W.output
  size : W.heap.size < W'.heap.size
  hd : ∀ x, W'.cell? ⟨R, x, none⟩ = if x = i then some v else W.cell? ⟨R, x, none⟩
  fr : ∀ x, W'.frozen? ⟨R, x, none⟩ = W.frozen? ⟨R, x, none⟩
  new : RowB W' W.heap.size m r
  block : ∀ k, k < W.heap.size → k ≠ R → W'.heap[k]? = W.heap[k]?
theorem Laid.start {W : World} {R i m : Nat} {v u : Value} {r : Nat → Raw} (hc : W.cell? ⟨R, i, none⟩ = some u) (hR : R < W.heap.size) : Laid W ((W.setCell ⟨R, i, none⟩ v).alloc (.cells (rowL m r).toArray 31)) R i v m r := by
  have hsz : (W.setCell ⟨R, i, none⟩ v).heap.size = W.heap.size := by simp
  refine ⟨rfl, rfl, rfl, by simp, fun x => ?_, fun x => ?_, ?_, fun k hk hne => ?_⟩
  · rw [World.cell?_alloc_lt _ _ _ (by rw [hsz]; exact hR)]
    by_cases e : x = i
    · rw [if_pos e, e]; exact World.cell?_setCell_same W _ _ hc
    · rw [if_neg e, World.cell?_setCell_other _ _ _ _ (by intro e2; injection e2 with _ e3; first | exact e e3 | exact e e3.symm)]
  · have h1 := World.frozen?_of_block (w := W.setCell ⟨R, i, none⟩ v) (w' := (W.setCell ⟨R, i, none⟩ v).alloc (.cells (rowL m r).toArray 31)) (a := ⟨R, x, none⟩) (Below.heap_alloc _ _ R (by rw [hsz]; exact hR))
    rw [h1]; simp
  · have h := heap_alloc_new (W.setCell ⟨R, i, none⟩ v) (.cells (rowL m r).toArray 31)
    rw [hsz] at h
    exact h
  · exact (Below.heap_alloc _ _ k (by rw [hsz]; exact hk)).trans (Below.heap_setCell _ _ _ _ hne)
theorem Laid.drew {W W' : World} {R i m : Nat} {v : Value} {r : Nat → Raw} (h : Laid W W' R i v m r) : Laid W W'.drew R i v m r := ⟨h.os, h.tape, h.output, h.size, h.hd, h.fr, h.new, h.block⟩
theorem Laid.cell {W W' : World} {R i m : Nat} {v : Value} {r : Nat → Raw} (h : Laid W W' R i v m r) {p : Addr} (hp : p.block < W.heap.size) (hne : p.block ≠ R) : W'.cell? p = W.cell? p := World.cell?_of_block (h.block _ hp hne)

theorem rowL_cells {W : World} {b o n : Nat} {r : Nat → Raw} (h : ∀ j, j < n → W.cell? ⟨b, o + j * 3, none⟩ = some (.bool (r j).1) ∧ W.cell? ⟨b, o + j * 3 + 1, none⟩ = some (.string (r j).2.1) ∧ W.cell? ⟨b, o + j * 3 + 2, none⟩ = some (.string (r j).2.2)) :
    ∀ t v, (rowL n r)[t]? = some v → W.cell? ((⟨b, o, none⟩ : Addr).add t) = some v := by
  intro t v hv
  have hl := rowL_length n r
  have ht : t < n * 3 := by rw [← hl]; exact (List.getElem?_eq_some_iff.1 hv).1
  have h1 := rowL_get r (m := n) (j := t / 3) (by omega) (t % 3) (by omega)
  rw [show t / 3 * 3 + t % 3 = t by omega, hv] at h1
  have ha : (⟨b, o, none⟩ : Addr).add t = ⟨b, o + t, none⟩ := by unfold Addr.add; split <;> simp_all
  rw [ha]
  obtain ⟨c1, c2, c3⟩ := h (t / 3) (by omega)
  have h6 : t % 3 = 0 ∨ t % 3 = 1 ∨ t % 3 = 2 := by omega
  rcases h6 with h6 | h6 | h6
  · rw [h6] at h1
    rw [show t = t / 3 * 3 by omega, c1]; simpa [rawL] using h1.symm
  · rw [h6] at h1
    rw [show o + t = o + t / 3 * 3 + 1 by omega, c2]; simpa [rawL] using h1.symm
  · rw [h6] at h1
    rw [show o + t = o + t / 3 * 3 + 2 by omega, c3]; simpa [rawL] using h1.symm
theorem rowL_one (n : Nat) (r : Nat → Raw) : ∀ v ∈ rowL n r, v.oneCell' = true := by
  intro v hv
  unfold rowL at hv
  rw [List.mem_flatMap] at hv
  obtain ⟨j, _, hj⟩ := hv
  simp only [rawL, List.mem_cons, List.not_mem_nil, or_false] at hj
  rcases hj with rfl | rfl | rfl <;> rfl
theorem rowL_over (n : Nat) (r : Nat → Raw) (z : Raw) : rowL n r ++ (rowL (n + 1) fun _ => z).drop (rowL n r).length = rowL (n + 1) fun j => if j < n then r j else z := by
  have h1 := rowL_length n r
  have h2 := rowL_length n fun _ => z
  rw [rowL_succ n fun _ => z, rowL_succ, h1, ← h2, List.drop_left, if_neg (by omega)]
  congr 1
  exact rowL_congr fun j hj => (if_pos hj).symm
theorem Laid.copy {W W' : World} {R i n : Nat} {v : Value} {z : Raw} (h : Laid W W' R i v (n + 1) fun _ => z) (hR : R < W.heap.size) (r : Nat → Raw) :
    Laid W (W'.setRow W.heap.size (rowL n r ++ (rowL (n + 1) fun _ => z).drop (rowL n r).length).toArray) R i v (n + 1) fun j => if j < n then r j else z := by
  have hne : R ≠ W.heap.size := by omega
  have ho := setRow_other W' W.heap.size R (rowL n r ++ (rowL (n + 1) fun _ => z).drop (rowL n r).length).toArray hne
  refine ⟨h.os, h.tape, h.output, by have := h.size; simpa [World.setRow] using this, fun x => ?_, fun x => ?_, ?_, fun k hk hkR => ?_⟩
  · exact (World.cell?_of_block (a := ⟨R, x, none⟩) ho).trans (h.hd x)
  · exact (World.frozen?_of_block (a := ⟨R, x, none⟩) ho).trans (h.fr x)
  · have := setRow_heap W' W.heap.size (rowL (n + 1) fun _ => z).toArray (rowL n r ++ (rowL (n + 1) fun _ => z).drop (rowL n r).length).toArray 31 (0, 0) h.new
    unfold RowB
    rw [this, rowL_over]
  · exact (setRow_other W' W.heap.size k _ (by omega)).trans (h.block k hk hkR)

theorem Laid.store {W W' : World} {R i n : Nat} {v : Value} {r : Nat → Raw} (h : Laid W W' R i v (n + 1) r) (hR : R < W.heap.size) (x : Raw) :
    Laid W ((((W'.setCell ⟨W.heap.size, n * 3, none⟩ (.bool x.1)).setCell ⟨W.heap.size, n * 3 + 1, none⟩ (.string x.2.1)).setCell ⟨W.heap.size, n * 3 + 2, none⟩ (.string x.2.2)).drew) R i v (n + 1) fun j => if j = n then x else r j := by
  have ho : ∀ k, k ≠ W.heap.size → (((W'.setCell ⟨W.heap.size, n * 3, none⟩ (.bool x.1)).setCell ⟨W.heap.size, n * 3 + 1, none⟩ (.string x.2.1)).setCell ⟨W.heap.size, n * 3 + 2, none⟩ (.string x.2.2)).drew.heap[k]? = W'.heap[k]? := fun k hk =>
    ((Below.heap_setCell _ _ _ _ (by exact hk)).trans (Below.heap_setCell _ _ _ _ (by exact hk))).trans (Below.heap_setCell _ _ _ _ (by exact hk))
  refine ⟨h.os, h.tape, h.output, by have := h.size; simpa using this, fun y => ?_, fun y => ?_, h.new.set (by omega) x, fun k hk hkR => ?_⟩
  · exact (World.cell?_of_block (a := ⟨R, y, none⟩) (ho R (by omega))).trans (h.hd y)
  · exact (World.frozen?_of_block (a := ⟨R, y, none⟩) (ho R (by omega))).trans (h.fr y)
  · exact (ho k (by omega)).trans (h.block k hk hkR)
theorem Laid.congr {W W' : World} {R i m : Nat} {v : Value} {r s : Nat → Raw} (h : Laid W W' R i v m r) (e : ∀ j, j < m → r j = s j) : Laid W W' R i v m s := ⟨h.os, h.tape, h.output, h.size, h.hd, h.fr, h.new.congr e, h.block⟩
theorem Laid.bel {w W W' : World} {R i m : Nat} {v : Value} {r : Nat → Raw} (h : Laid W W' R i v m r) (hb : Below w.heap.size w W) (hR : w.heap.size ≤ R) : Below w.heap.size w W' :=
  ⟨h.os.trans hb.os, h.tape.trans hb.tape, h.output.trans hb.output, by have := hb.size; have := h.size; omega, fun k hk => (h.block k (by have := hb.size; omega) (by omega)).trans (hb.block k hk)⟩
theorem MatP.step {W W' : World} {B R n i : Nat} {bl : Nat → Nat} {M : Mx} (h : MatP W B R n i bl M) (hB : B ≤ W.heap.size)
    (hL : Laid W W' R i (.slice (some ⟨W.heap.size, 0, none⟩) (n + 1) (n + 1)) (n + 1) fun j => rq (M i j)) : MatP W' B R n (i + 1) (fun x => if x = i then W.heap.size else bl x) M := by
  have hlt : ∀ x, x < i → bl x < W.heap.size := fun x hx => (h.rows x hx).lt
  refine ⟨by have := h.lt; have := hL.size; omega, fun x hx => ?_, fun x h1 h2 => ?_, fun x => (hL.fr x).trans (h.fr x), fun x hx => ?_, fun x y hx hy e => ?_, fun x hx => ?_, h.lowR, fun x hx => ?_⟩
  · rw [hL.hd]
    by_cases e : x = i
    · rw [if_pos e, if_pos e]
    · rw [if_neg e, if_neg e]; exact h.hd x (by omega)
  · rw [hL.hd, if_neg (by omega)]; exact h.hz x (by omega) h2
  · by_cases e : x = i
    · rw [if_pos e, e]; exact hL.new
    · rw [if_neg e]
      exact (hL.block _ (hlt x (by omega)) (h.ne x (by omega))).trans (h.rows x (by omega))
  · by_cases e1 : x = i
    · by_cases e2 : y = i
      · omega
      · rw [if_pos e1, if_neg e2] at e
        have := hlt y (by omega)
        omega
    · by_cases e2 : y = i
      · rw [if_neg e1, if_pos e2] at e
        have := hlt x (by omega)
        omega
      · rw [if_neg e1, if_neg e2] at e
        exact h.inj x y (by omega) (by omega) e
  · by_cases e : x = i
    · rw [if_pos e]; have := h.lt; omega
    · rw [if_neg e]; exact h.ne x (by omega)
  · by_cases e : x = i
    · rw [if_pos e]; exact hB
    · rw [if_neg e]; exact h.low x (by omega)

theorem raw_new (w : World) (a : Bool) (b c : ByteArray) (t : TypeId) : ∀ j u, (rawL (a, b, c))[j]? = some u → (w.alloc (.cells #[.bool a, .string b, .string c] t)).cell? (Addr.add ⟨w.heap.size, 0, none⟩ j) = some u := by
  intro j u hj
  match j, hj with
  | 0, hj => simp [rawL] at hj; subst hj; simp [Addr.add]
  | 1, hj => simp [rawL] at hj; subst hj; simp [Addr.add]
  | 2, hj => simp [rawL] at hj; subst hj; simp [Addr.add]
  | j + 3, hj => simp [rawL] at hj
theorem raw_cell (x : Raw) : ∀ u ∈ rawL x, u.oneCell' = true := by
  intro u hu
  simp [rawL] at hu
  rcases hu with rfl | rfl | rfl <;> rfl
theorem own_mono {w : World} {B B' : Nat} {t : TypeId} {size : Nat} {v : Value} {n : Nat} {xs : List Value} (hb : B ≤ B') (h : w.ownsRow B' t size v n xs) : w.ownsRow B t size v n xs := by
  obtain ⟨h1, h2⟩ := h
  refine ⟨h1, ?_⟩
  rcases h2 with h2 | ⟨g, cap, cur, hv, hg, hh⟩
  · exact .inl h2
  · exact .inr ⟨g, cap, cur, hv, Nat.le_trans hb hg, hh⟩
set_option maxRecDepth 1000000 in
set_option maxHeartbeats 16000000 in
theorem Solve_any (Aa Ab : Option Addr) (n ca cb : Nat) (la : List RowH) (lb : List Raw) (M0 : Mx) (w : World) (hE : Env w) (ha : la.length = n) (hb0 : lb.length = n) (hs : SysIn w Aa Ab la lb) (hv : allV lb = true) (hm : matOk n la = true) (hn8 : n ≤ 8)
    (hMa : ∀ i (h : i < la.length), la[i].2.2.length = n ∧ ∀ j (h2 : j < la[i].2.2.length), la[i].2.2[j] = rq (M0 i j)) (hMb : ∀ i (h : i < lb.length), lb[i] = rq (M0 i n)) (hOk : ∀ i j, i < n → j ≤ n → OkQ (M0 i j)) :
    Calls Tryz.prog 12 #[.slice Aa n ca, .slice Ab n cb] w (SolvePost n M0 w) := by
  have kv := lvalid_any Ab cb lb (nW w n) (hE.below (nW_below _ _)) (hs.below (nW_below _ _)).mb hs.nb hs.zb
  have ka := fun W (h1 : Env W) (h2 : Int1 W w.heap.size n) (h3 : SysIn W Aa Ab la lb) => cont2_any n Aa ca la w.heap.size W h1 h2 h3.ma h3.na h3.za
  have hmk := run_make_row' (P := Tryz.prog) 22 23 (.slice none 0 0) 24 Tryz.underlying22 infoRS rfl .i64 .i64 n (by omega) (by omega)
  rw [hv, hb0] at kv
  rw [hm, ha] at ka
  replace kv := Lib.hid kv
  replace ka := Lib.hid ka
  replace hs := Lib.hid hs
  replace hE := Lib.hid hE
  replace hMa := Lib.hid hMa
  replace hOk := Lib.hid hOk
  replace hMb := Lib.hid hMb
  replace ha := Lib.hid ha
  replace hb0 := Lib.hid hb0
  clear hv hm
  go_enter Tryz.func12, Tryz.ntmps12
  go_wp2_with fail
  refine kv.out.mono ?_
  rintro e w1 ⟨rfl, hb⟩
  have hB := Lib.hid ((nW_below w n).trans (hb.mono (by simp)))
  have hn := Lib.hid ((Int1.new w n).below hb)
  clear hb
  go_wp2_with fail
  refine (ka.out _ (hE.out.below hB.out) hn.out (hs.out.below hB.out)).mono ?_
  rintro e w2 ⟨rfl, hb⟩
  have hB2 := Lib.hid (hB.out.trans (hb.mono hB.out.size))
  have hn2 := Lib.hid (hn.out.below hb)
  have c1 := hn2.out.cell
  have c2 := hn2.out.lt
  have c3 : Hid (Int1 (w2.alloc (.cells (madeCells #[(.slice none 0 0 : Value)] n) 23)) w.heap.size n) := hn2.out.alloc _
  have hP : Hid (MatP (w2.alloc (.cells (madeCells #[(.slice none 0 0 : Value)] n) 23)) w.heap.size w2.heap.size n 0 (fun _ => 0) M0) := MatP.start w2 hB2.out.size n M0
  have hB3 : Hid (Below w.heap.size w (w2.alloc (.cells (madeCells #[(.slice none 0 0 : Value)] n) 23))) := hB2.out.alloc hB2.out.size _
  clear hb
  go_wp2
  obtain ⟨R, hR⟩ : ∃ R, R = w2.heap.size := ⟨_, rfl⟩
  rw [← hR] at hP ⊢
  have hnR : Hid (w.heap.size ≠ R) := by rw [hR]; exact Nat.ne_of_lt c2
  clear hmk c1 c2
  replace hR := Lib.hid hR
  have hmk2 := run_make_q 23 Tryz.underlying23 (n + 1) (by omega)
  rw [show ((n + 1 : Nat) : Int) = (n : Int) + 1 by omega] at hmk2
  go_loopw [43] (fun i wr => ∃ (y : Nat) (bl : Nat → Nat), y ≤ n ∧ i = .int .i64 (y : Int) ∧ Hid (MatP wr w.heap.size R n y bl M0) ∧ Hid (Below w.heap.size w wr) ∧ Hid (Int1 wr w.heap.size n)) (fun i _ => n - (intOf i).toNat)
  case atStart => exact ⟨0, _, Nat.zero_le _, rfl, hP, hB3, c3⟩
  case round =>
    obtain ⟨i, bl, hi, rfl, hQ, hBr, hIr⟩ := hrel
    by_cases hlt : i < n
    · obtain ⟨ba, oa, rfl, hba, hca⟩ := hs.out.ma (by rw [ha.out]; omega)
      obtain ⟨bb, ob, rfl, hbb, hcb⟩ := hs.out.mb (by rw [hb0.out]; omega)
      obtain ⟨a1, hrow⟩ := hca i (by rw [ha.out]; exact hlt)
      obtain ⟨b1, b2, b3⟩ := hcb i (by rw [hb0.out]; exact hlt)
      clear hca hcb
      obtain ⟨hl, hlj⟩ := hMa.out i (by rw [ha.out]; exact hlt)
      obtain ⟨bx, ox, hax, hbx, hcx⟩ := hrow (by rw [hl]; omega)
      rw [hl, hax] at a1
      have hcx2 : Hid (∀ j, j < n → w.cell? ⟨bx, ox + j * 3, none⟩ = some (.bool (rq (M0 i j)).1) ∧ w.cell? ⟨bx, ox + j * 3 + 1, none⟩ = some (.string (rq (M0 i j)).2.1) ∧ w.cell? ⟨bx, ox + j * 3 + 2, none⟩ = some (.string (rq (M0 i j)).2.2)) := fun j hj => by
        have h1 := hcx j (by rw [hl]; exact hj)
        rw [hlj j (by rw [hl]; exact hj)] at h1
        exact h1
      rw [hMb.out i (by rw [hb0.out]; exact hlt)] at b1 b2 b3
      clear hl hlj hax hcx hrow
      generalize (la[i]'(by rw [ha.out]; exact hlt)).2.1 = ci at *
      replace a1 := (hBr.out.cell (p := ⟨ba, oa + i, none⟩) hba).trans a1
      replace b1 := (hBr.out.cell (p := ⟨bb, ob + i * 3, none⟩) hbb).trans b1
      replace b2 := (hBr.out.cell (p := ⟨bb, ob + i * 3 + 1, none⟩) hbb).trans b2
      replace b3 := (hBr.out.cell (p := ⟨bb, ob + i * 3 + 2, none⟩) hbb).trans b3
      have i0 : (0 : Int) ≤ (i : Int) := by omega
      have i1 : (i : Int) < (n : Int) := by omega
      have r1 := hQ.out.hz i (Nat.le_refl _) hlt
      have r2 := hQ.out.fr i
      have r3 := hQ.out.lt
      have n1 := hIr.out.cell
      have n2 := hIr.out.lt
      go_wp2_with fail
      obtain ⟨W1, hW1⟩ : ∃ W, W = (wr.setCell ⟨R, i, none⟩ (.slice (some ⟨wr.heap.size, 0, none⟩) (n + 1) (n + 1))).alloc (.cells (rowL (n + 1) fun _ => zraw).toArray 31) := ⟨_, rfl⟩
      rw [← hW1]
      have hP1 : Hid (Laid wr W1 R i (.slice (some ⟨wr.heap.size, 0, none⟩) (n + 1) (n + 1)) (n + 1) fun _ => zraw) := by rw [hW1]; exact Laid.start r1 r3
      have hlow := hQ.out.lowR
      have d1 : W1.cell? ⟨R, i, none⟩ = some (.slice (some ⟨wr.heap.size, 0, none⟩) (n + 1) (n + 1)) := (hP1.out.hd i).trans (if_pos rfl)
      have hsz := hBr.out.size
      have d2 := (hP1.out.cell (p := ⟨ba, oa + i, none⟩) (by show ba < _; omega) (by show ba ≠ R; omega)).trans a1
      have hcp : ∀ ty, (Builtin.copy_ #[23, 23] ty #[.slice (some ⟨wr.heap.size, 0, none⟩) (n + 1) (n + 1), .slice (some ⟨bx, ox, none⟩) n ci]).run Tryz.prog W1.drew = .ok (goInt n) (W1.drew.setRow wr.heap.size (rowL n (fun j => rq (M0 i j)) ++ (rowL (n + 1) fun _ => zraw).drop (rowL n (fun j => rq (M0 i j))).length).toArray) := fun ty =>
        run_copy_q W1.drew _ _ ty wr.heap.size (n + 1) (n + 1) ⟨bx, ox, none⟩ n ci (rowL (n + 1) fun _ => zraw) (rowL n fun j => rq (M0 i j)) Tryz.underlying23 hP1.out.drew.new (rowL_length _ _) (by omega)
          (rowL_cells fun j hj => by
            obtain ⟨k1, k2, k3⟩ := hcx2.out j hj
            have q : ∀ o, W1.drew.cell? ⟨bx, o, none⟩ = w.cell? ⟨bx, o, none⟩ := fun o => (hP1.out.cell (p := ⟨bx, o, none⟩) (by show bx < _; omega) (by show bx ≠ R; omega)).trans (hBr.out.cell (p := ⟨bx, o, none⟩) hbx)
            exact ⟨(q _).trans k1, (q _).trans k2, (q _).trans k3⟩) (by rw [rowL_length, rowL_length]; omega) (rowL_one _ _)
      have hP2 := Lib.hid (hP1.out.drew.copy r3 (fun j => rq (M0 i j)))
      clear hW1 hmk2 a1 r1 r2
      generalize (rowL n (fun j => rq (M0 i j)) ++ (rowL (n + 1) fun _ => zraw).drop (rowL n (fun j => rq (M0 i j))).length).toArray = cells2 at *
      go_region
      obtain ⟨W2, hW2⟩ : ∃ W, W = W1.drew.setRow wr.heap.size cells2 := ⟨_, rfl⟩
      rw [← hW2] at hP2 ⊢
      clear hW2 hcp d1 d2
      have d1 : W2.cell? ⟨R, i, none⟩ = some (.slice (some ⟨wr.heap.size, 0, none⟩) (n + 1) (n + 1)) := (hP2.out.hd i).trans (if_pos rfl)
      have d2 := hP2.out.block w.heap.size (by omega) hnR.out
      have hI2 : Hid (Int1 W2 w.heap.size n) := d2.trans hIr.out
      clear d2 n1
      have n1 := hI2.out.cell
      replace b1 := (hP2.out.cell (p := ⟨bb, ob + i * 3, none⟩) (by show bb < _; omega) (by show bb ≠ R; omega)).trans b1
      replace b2 := (hP2.out.cell (p := ⟨bb, ob + i * 3 + 1, none⟩) (by show bb < _; omega) (by show bb ≠ R; omega)).trans b2
      replace b3 := (hP2.out.cell (p := ⟨bb, ob + i * 3 + 2, none⟩) (by show bb < _; omega) (by show bb ≠ R; omega)).trans b3
      obtain ⟨z1, z2, z3⟩ := hP2.out.new.cell (j := n) (by omega)
      rw [if_neg (by omega)] at z1 z2 z3
      have f1 := hP2.out.new.frozen (n * 3)
      have f2 := hP2.out.new.frozen (n * 3 + 1)
      have f3 := hP2.out.new.frozen (n * 3 + 2)
      have j0 : (0 : Int) ≤ (n : Int) := by omega
      have j1 : (n : Int) < (n : Int) + 1 := by omega
      have l1 := hP2.out.new.lt
      go_wp2_with fail
      go_region
      have hP3 := Lib.hid ((hP2.out.store r3 (rq (M0 i n))).congr (s := fun j => rq (M0 i j)) fun j hj => by
        by_cases e : j = n
        · rw [if_pos e, e]
        · rw [if_neg e, if_pos (by omega)])
      have hQ3 := Lib.hid (hQ.out.step hsz hP3.out)
      have hB9 := Lib.hid (hP3.out.bel hBr.out hlow)
      have hI3 := Lib.hid ((hP3.out.block w.heap.size (by omega) hnR.out).trans hIr.out)
      go_wp2
      go_roundw
      case rel => exact ⟨i + 1, _, by omega, by go_num, hQ3, hB9, hI3⟩
      case measure => simp [intOf]; omega
    · obtain rfl : n = i := by omega
      have hM0 := Lib.hid hQ.out.done
      clear hQ
      go_wp2
      have hn8 : n ≤ 8 := hn8
      clear hP hB3 c3 hlt hmk2
      refine outer_loop R n M0 w _ hE.out hn8 hnR.out ⟨bl, M0, rfl, hM0, hOk, hBr, hIr⟩ ?_ ?_
      · intro u4 u5 u9 u10 u11 u12 u13 u14 u15 u16 u17 u74 u75 u76 u77 u78 u79 u80 u81 u82 u83 u84 u85 u86 u87 u88 u89 u90 u91 u92 u93 u94 u95 u96 u97 u98 u99 u100 u101 u102 u103 u104 u105 u106 u107 u108 u109 u110 u111 u112 u113 u114 u115 u116 u117 u118 u119 u120 u121 u122 u123 u124 u125 u126 u127 u128 u129 u130 u131 u132 u133 u134 u135 u136 u137 u138 u139 u140 u141 u142 u143 u144 u145 wq hq
        clear hM0 hBr hIr
        obtain ⟨bl2, M, hS, hM, hO, hBr, hIr⟩ := hq
        have hnw := hBr.out.size
        have hIc := hIr.out.cell
        have hIl := hIr.out.lt
        have hRl := hM.out.lt
        obtain ⟨i0, hi0, hzz⟩ := Option.map_eq_some_iff.1 infoQ
        simp only [Prod.mk.injEq] at hzz
        obtain ⟨hz0, hz1, hz2⟩ := hzz

        go_wp2
        replace hi0 := Lib.hid hi0
        replace hz0 := Lib.hid hz0
        replace hz1 := Lib.hid hz1
        replace hz2 := Lib.hid hz2
        go_loopw [18, 148] (fun v i wz => ∃ y : Nat, y ≤ n ∧ i = .int .i64 (y : Int) ∧ Hid (wz.ownsRow wq.heap.size 31 3 v y (rowL y fun i => rq (M i n))) ∧ Hid (Below wq.heap.size wq wz)) (fun _ i _ => n - (intOf i).toNat)
        case atStart => exact ⟨0, Nat.zero_le _, rfl, World.ownsRow_nil _ _ _ _, Below.refl _ _⟩
        case round =>
          obtain ⟨y, hy, rfl, hown, hbz⟩ := hrel
          by_cases hlt9 : y < n
          · have g1 := (hbz.out.cell (p := ⟨R, y, none⟩) hRl).trans (hM.out.hd y hlt9)
            obtain ⟨e1, e2, e3⟩ := (hM.out.rows y hlt9).cell (j := n) (by omega)
            have e4 := (hM.out.rows y hlt9).lt
            replace e1 := (hbz.out.cell (p := ⟨bl2 y, n * 3, none⟩) e4).trans e1
            replace e2 := (hbz.out.cell (p := ⟨bl2 y, n * 3 + 1, none⟩) e4).trans e2
            replace e3 := (hbz.out.cell (p := ⟨bl2 y, n * 3 + 2, none⟩) e4).trans e3
            have g2 := (hbz.out.cell (p := ⟨w.heap.size, 0, none⟩) hIl).trans hIc
            have g3 : (n : Int) < (n : Int) + 1 := by omega
            have g4 : (0 : Int) ≤ (n : Int) := by omega
            have g5 : (0 : Int) ≤ (y : Int) := by omega
            have g6 : (y : Int) < (n : Int) := by omega
            have hszz := hbz.out.size
            clear e4 hnw hIc hIl hRl
            obtain ⟨rv, hrv⟩ : ∃ x, x = rq (M y n) := ⟨_, rfl⟩
            rw [← hrv] at e1 e2 e3
            obtain ⟨ra, rb, rc⟩ := rv
            replace hrv := Lib.hid hrv
            replace e1 : wr.cell? ⟨bl2 y, n * 3, none⟩ = some (.bool ra) := e1
            replace e2 : wr.cell? ⟨bl2 y, n * 3 + 1, none⟩ = some (.string rb) := e2
            replace e3 : wr.cell? ⟨bl2 y, n * 3 + 2, none⟩ = some (.string rc) := e3
            go_wp2_with (at_builtin; refine wpList_append_own _ rfl _ _ 23 rfl wq.heap.size 31 i0 (.agg #[.bool false, .string ⟨#[]⟩, .string ⟨#[]⟩]) 3 40 Tryz.underlying23 hi0.out hz0.out hz1.out hz2.out rfl (by decide) u18 y (rowL y fun i => rq (M i n)) rfl (hown.out.alloc _) ⟨wr.heap.size, 0, none⟩ 1 1 (rawL (ra, rb, rc)) rfl rfl (raw_new _ _ _ _ _) (raw_cell _) (by unfold maxLen; omega) (by omega) (by simp; omega) ?_; intro v2 w2 hown2 hgr2 _)
            refine ⟨⟨y + 1, by omega, by go_num, ?_, (hbz.out.alloc hszz _).grown hgr2 (by simp; omega) (fun b e => (hown.out.lt b e).1)⟩, by simp only [intOf]; omega⟩
            rw [rowL_succ, ← hrv.out]
            exact hown2
          · obtain rfl : n = y := by omega
            clear hIc hIl hRl
            go_wp2
            go_ret2
            exact ⟨hBr.out.trans (hbz.out.mono hnw), .inl ⟨M, _, hS.out, rfl, own_mono hnw hown.out⟩⟩
      · intro er u9 u10 u11 u12 u13 u14 u15 u16 u17 u74 u75 u76 u77 u78 u79 u80 u81 u82 u83 u84 u85 u86 u87 u88 u89 u90 u91 u92 u93 u94 u95 u96 u97 u98 u99 u100 u101 u102 u103 u104 u105 u106 u107 u108 u109 u110 u111 u112 u113 u114 u115 u116 u117 u118 u119 u120 u121 u122 u123 u124 u125 u126 u127 u128 u129 u130 u131 u132 u133 u134 u135 u136 u137 u138 u139 u140 u141 u142 u143 u144 u145 wq hb9 he9
        replace hb9 := Lib.hid hb9
        replace he9 := Lib.hid he9
        go_ret2
        exact ⟨hb9.out, .inr ⟨er, he9.out, rfl⟩⟩

end Nt
end Go.Proofs.YtjjlnahipiinfaaGreatDoor

/- The head of the linear laws. -/
import Derived.Test.YtjjlnahipiinfaaGreatDoorLinD
import Derived.Deep.RegionHeld3
namespace Go.Proofs.YtjjlnahipiinfaaGreatDoor
open Go.RowKit Go.Shelf
namespace Nt

theorem small_ok {q : Rat} (h : q.num.natAbs ≤ 1000 ∧ q.den ≤ 1000) : OkQ q := by
  have h2 : 10 ^ 4 ≤ L1 := Nat.pow_le_pow_right (by omega) (by rw [mx1_eq]; omega)
  exact ShortQ.ok ⟨by omega, by omega⟩
theorem lit_num (l : List UInt8) (a : Nat) (hl : isNL l = true) (hv : dval l = a) : num a = ⟨l.toArray⟩ := num_lit l a hl hv
theorem rq_half : rq (1 / 2) = (false, ⟨#[49]⟩, ⟨#[50]⟩) := by
  have e1 : ((1 : Rat) / 2).num = 1 := by decide +kernel
  have e2 : ((1 : Rat) / 2).den = 2 := by decide +kernel
  unfold rq
  rw [e1, e2]
  show (_, num 1, num 2) = _
  rw [lit_num [49] 1 (by decide) (by decide), lit_num [50] 2 (by decide) (by decide)]
  rfl
theorem rq_third : rq (1 / 3) = (false, ⟨#[49]⟩, ⟨#[51]⟩) := by
  have e1 : ((1 : Rat) / 3).num = 1 := by decide +kernel
  have e2 : ((1 : Rat) / 3).den = 3 := by decide +kernel
  unfold rq
  rw [e1, e2]
  show (_, num 1, num 3) = _
  rw [lit_num [49] 1 (by decide) (by decide), lit_num [51] 3 (by decide) (by decide)]
  rfl
theorem vq_z : vq zraw = 0 := by
  unfold vq zraw
  have : val (⟨#[]⟩ : ByteArray) = 0 := by decide +kernel
  simp only [this]
  rfl
theorem solveB_num {n : Nat} {A : List (List Rat)} {b : List Rat} (hA : A.length = n) (hb : b.length = n) (h8 : n ≤ 8) (hr : ∀ r ∈ A, r.length = n) (hok : ∀ r ∈ A, ∀ q ∈ r, OkQ q) (hbk : ∀ q ∈ b, OkQ q) :
    solveB (A.map fun r => r.map rq) (b.map rq) = match solveTo SQ n n (fun i j => if j = n then b.getD i 0 else (A.getD i []).getD j 0) with | .ok M => .ok (outL n fun i => M i n) | .error e => .error e := by
  have hsq : SqB n (A.map fun r => r.map rq) (b.map rq) := by
    refine ⟨by simpa using hA, by simpa using hb, h8, allV_iff.2 fun i hi => ?_, matB_iff.2 fun i hi => ?_⟩
    · rw [List.getElem_map]
      exact vraw_rq (hbk _ (List.getElem_mem _))
    · rw [List.getElem_map]
      refine ⟨by rw [List.length_map]; exact hr _ (List.getElem_mem _), allV_iff.2 fun j hj => ?_⟩
      rw [List.getElem_map]
      exact vraw_rq (hok _ (List.getElem_mem _) _ (List.getElem_mem _))
  rw [solveB_sq hsq]
  have hg : ∀ (l : List Rat) (i : Nat), vq ((l.map rq).getD i zraw) = l.getD i 0 := fun l i => by
    by_cases h : i < l.length
    · rw [getD_at (by simpa using h), getD_at h, List.getElem_map, vq_rq]
    · rw [List.getD_eq_getElem?_getD, List.getD_eq_getElem?_getD, List.getElem?_eq_none (by simpa using h), List.getElem?_eq_none (by omega)]
      exact vq_z
  have e : sysM (A.map fun r => r.map rq) (b.map rq) = fun i j => if j = n then b.getD i 0 else (A.getD i []).getD j 0 := by
    funext i j
    unfold sysM
    rw [List.length_map, hb, hg]
    split
    · rfl
    · have : (A.map fun r => r.map rq).getD i [] = (A.getD i []).map rq := by
        by_cases h : i < A.length
        · rw [getD_at (by simpa using h), getD_at h, List.getElem_map]
        · rw [List.getD_eq_getElem?_getD, List.getD_eq_getElem?_getD, List.getElem?_eq_none (by simpa using h), List.getElem?_eq_none (by omega)]
          rfl
      rw [this, hg]
  rw [e]
  all_goals (cases solveTo SQ n n (fun i j => if j = n then b.getD i 0 else (A.getD i []).getD j 0) <;> rfl)
/-- Whether elimination ends so. -/
def endsB (n : Nat) (A : List (List Rat)) (b x : List Rat) : Bool :=
  match solveTo SQ n n (fun i j => if j = n then b.getD i 0 else (A.getD i []).getD j 0) with
  | .ok M => (List.range n).map (fun i => M i n) == x
  | .error _ => false
def failsB (n : Nat) (A : List (List Rat)) (b : List Rat) (e : Int) : Bool :=
  match solveTo SQ n n (fun i j => if j = n then b.getD i 0 else (A.getD i []).getD j 0) with
  | .ok _ => false
  | .error f => f == e
def smallB (A : List (List Rat)) (b : List Rat) (n : Nat) : Bool := decide (A.length = n) && (decide (b.length = n) && (decide (n ≤ 8) && (A.all (fun r => decide (r.length = n) && r.all fun q => decide (q.num.natAbs ≤ 1000 ∧ q.den ≤ 1000)) && b.all fun q => decide (q.num.natAbs ≤ 1000 ∧ q.den ≤ 1000))))
theorem small_says {A : List (List Rat)} {b : List Rat} {n : Nat} (h : smallB A b n = true) : A.length = n ∧ b.length = n ∧ n ≤ 8 ∧ (∀ r ∈ A, r.length = n) ∧ (∀ r ∈ A, ∀ q ∈ r, OkQ q) ∧ (∀ q ∈ b, OkQ q) := by
  unfold smallB at h
  simp only [Bool.and_eq_true, List.all_eq_true, decide_eq_true_eq] at h
  obtain ⟨h1, h2, h3, h4, h5⟩ := h
  exact ⟨h1, h2, h3, fun r hr => (h4 r hr).1, fun r hr q hq => small_ok ((h4 r hr).2 q hq), fun q hq => small_ok (h5 q hq)⟩
theorem endsB_ok {n : Nat} {A : List (List Rat)} {b x : List Rat} (hs : smallB A b n = true) (h : endsB n A b x = true) : solveB (A.map fun r => r.map rq) (b.map rq) = .ok (x.map rq) := by
  obtain ⟨h1, h2, h3, h4, h5, h6⟩ := small_says hs
  rw [solveB_num h1 h2 h3 h4 h5 h6]
  unfold endsB at h
  split at h
  · have := eq_of_beq h
    rw [← this, List.map_map]
    rfl
  · cases h
theorem failsB_er {n : Nat} {A : List (List Rat)} {b : List Rat} {e : Int} (hs : smallB A b n = true) (h : failsB n A b e = true) : solveB (A.map fun r => r.map rq) (b.map rq) = .error e := by
  obtain ⟨h1, h2, h3, h4, h5, h6⟩ := small_says hs
  rw [solveB_num h1 h2 h3 h4 h5 h6]
  unfold failsB at h
  split at h
  · cases h
  · rw [eq_of_beq h]
theorem sys1 : solveB [[rq 2]] [rq 1] = .ok [rq (1 / 2)] := endsB_ok (n := 1) (A := [[2]]) (b := [1]) (x := [1 / 2]) (by decide +kernel) (by decide +kernel)
theorem sys2 : solveB [[rq 1, rq 1], [rq 1, rq (-1)]] [rq 3, rq 1] = .ok [rq 2, rq 1] := endsB_ok (n := 2) (A := [[1, 1], [1, -1]]) (b := [3, 1]) (x := [2, 1]) (by decide +kernel) (by decide +kernel)
theorem sys3 : solveB [[rq 0, rq 1], [rq 1, rq 0]] [rq 5, rq (1 / 3)] = .ok [rq (1 / 3), rq 5] := endsB_ok (n := 2) (A := [[0, 1], [1, 0]]) (b := [5, 1 / 3]) (x := [1 / 3, 5]) (by decide +kernel) (by decide +kernel)
theorem sys4 : solveB [[rq 1, rq 1], [rq 2, rq 2]] [rq 3, rq 6] = .error 12 := failsB_er (n := 2) (A := [[1, 1], [2, 2]]) (b := [3, 6]) (by decide +kernel) (by decide +kernel)
theorem sys5 : solveB [] [] = .ok [] := endsB_ok (n := 0) (A := []) (b := []) (x := []) (by decide +kernel) (by decide +kernel)
theorem bal {w W : World} (h : Below w.heap.size w W) (o : Obj) : Below w.heap.size w (W.alloc o) := h.alloc h.size o
theorem trn {w W W' : World} (h : Below w.heap.size w W) (h2 : Below W.heap.size W W') : Below w.heap.size w W' := h.trans (h2.mono h.size)
theorem inRow1 (W : World) {b : Nat} (hb : W.heap.size = b) (x : Raw) : InRow (W.alloc (.cells #[.bool x.1, .string x.2.1, .string x.2.2] 31)) (some ⟨b, 0, none⟩) [x] := fun _ => by
  have h := heap_alloc_new W (.cells #[.bool x.1, .string x.2.1, .string x.2.2] 31)
  rw [hb] at h
  refine ⟨b, 0, rfl, (Array.getElem?_eq_some_iff.1 h).1, fun j hj => ?_⟩
  match j, hj with
  | 0, _ => simp [World.cell?, h]
theorem inRow2 (W : World) {b : Nat} (hb : W.heap.size = b) (x y : Raw) : InRow (W.alloc (.cells #[.bool x.1, .string x.2.1, .string x.2.2, .bool y.1, .string y.2.1, .string y.2.2] 31)) (some ⟨b, 0, none⟩) [x, y] := fun _ => by
  have h := heap_alloc_new W (.cells #[.bool x.1, .string x.2.1, .string x.2.2, .bool y.1, .string y.2.1, .string y.2.2] 31)
  rw [hb] at h
  refine ⟨b, 0, rfl, (Array.getElem?_eq_some_iff.1 h).1, fun j hj => ?_⟩
  match j, hj with
  | 0, _ => simp [World.cell?, h]
  | 1, _ => simp [World.cell?, h]
theorem InRow.alloc {W : World} {A : Option Addr} {l : List Raw} (h : InRow W A l) (o : Obj) : InRow (W.alloc o) A l := h.below ((Below.refl _ W).alloc (Nat.le_refl _) o) (Nat.le_refl _)
theorem InRow.up {W W' : World} {A : Option Addr} {l : List Raw} (h : InRow W A l) (hb : Below W.heap.size W W') : InRow W' A l := h.below hb (Nat.le_refl _)
theorem InMat.alloc {W : World} {A : Option Addr} {l : List RowH} (h : InMat W A l) (o : Obj) : InMat (W.alloc o) A l := h.below ((Below.refl _ W).alloc (Nat.le_refl _) o) (Nat.le_refl _)
theorem InMat.up {W W' : World} {A : Option Addr} {l : List RowH} (h : InMat W A l) (hb : Below W.heap.size W W') : InMat W' A l := h.below hb (Nat.le_refl _)
theorem inMat1 (W : World) {b : Nat} (hb : W.heap.size = b) (p : Option Addr) (c m : Nat) (l : List Raw) (hm : l.length = m) (hp : InRow W p l) : InMat (W.alloc (.cells #[.slice p m c] 23)) (some ⟨b, 0, none⟩) [(p, c, l)] := fun _ => by
  subst hm
  have h := heap_alloc_new W (.cells #[.slice p l.length c] 23)
  rw [hb] at h
  refine ⟨b, 0, rfl, (Array.getElem?_eq_some_iff.1 h).1, fun j hj => ?_⟩
  match j, hj with
  | 0, _ => exact ⟨by simp [World.cell?, h], hp.alloc _⟩
theorem inMat2 (W : World) {b : Nat} (hb : W.heap.size = b) (p q : Option Addr) (c d m k : Nat) (l r : List Raw) (hm : l.length = m) (hk : r.length = k) (hp : InRow W p l) (hq : InRow W q r) : InMat (W.alloc (.cells #[.slice p m c, .slice q k d] 23)) (some ⟨b, 0, none⟩) [(p, c, l), (q, d, r)] := fun _ => by
  subst hm hk
  have h := heap_alloc_new W (.cells #[.slice p l.length c, .slice q r.length d] 23)
  rw [hb] at h
  refine ⟨b, 0, rfl, (Array.getElem?_eq_some_iff.1 h).1, fun j hj => ?_⟩
  match j, hj with
  | 0, _ => exact ⟨by simp [World.cell?, h], hp.alloc _⟩
  | 1, _ => exact ⟨by simp [World.cell?, h], hq.alloc _⟩
theorem sz_nums {l : List Rat} (h : l.all (fun q => decide (q.num.natAbs ≤ 1000 ∧ q.den ≤ 1000)) = true) : ∀ x ∈ l.map rq, rawSz x := fun x hx => by
  obtain ⟨q, hq, rfl⟩ := List.mem_map.1 hx
  exact rawSz_rq (small_ok (of_decide_eq_true (List.all_eq_true.1 h q hq)))
theorem sys1_call {Aa Ab p : Option Addr} {c ca cb : Nat} {W : World} (hE : Env W) (hA : InMat W Aa [(p, c, [rq 2])]) (hB : InRow W Ab [rq 1]) :
    Calls Tryz.prog 12 #[.slice Aa 1 ca, .slice Ab 1 cb] W fun e w' => (∃ q d, e = .returned (.tuple #[.slice q 1 d, .int .i64 0]) ∧ InRow w' q [rq (1 / 2)]) ∧ Below W.heap.size W w' :=
  Solve_ok Aa Ab ca cb [(p, c, [rq 2])] [rq 1] [rq (1 / 2)] W hE ⟨hA, hB, by simp, by simp, fun x hx => by
    simp only [List.mem_singleton] at hx; subst hx
    exact ⟨by simp, sz_nums (l := [2]) (by decide +kernel)⟩, sz_nums (l := [1]) (by decide +kernel)⟩ sys1
theorem sys2_call {Aa Ab p q : Option Addr} {c d ca cb : Nat} {W : World} (hE : Env W) (hA : InMat W Aa [(p, c, [rq 1, rq 1]), (q, d, [rq 1, rq (-1)])]) (hB : InRow W Ab [rq 3, rq 1]) :
    Calls Tryz.prog 12 #[.slice Aa 2 ca, .slice Ab 2 cb] W fun e w' => (∃ q d, e = .returned (.tuple #[.slice q 2 d, .int .i64 0]) ∧ InRow w' q [rq 2, rq 1]) ∧ Below W.heap.size W w' :=
  Solve_ok Aa Ab ca cb [(p, c, [rq 1, rq 1]), (q, d, [rq 1, rq (-1)])] [rq 3, rq 1] [rq 2, rq 1] W hE ⟨hA, hB, by simp, by simp, fun x hx => by
    simp only [List.mem_cons, List.not_mem_nil, or_false] at hx
    rcases hx with rfl | rfl
    · exact ⟨by simp, sz_nums (l := [1, 1]) (by decide +kernel)⟩
    · exact ⟨by simp, sz_nums (l := [1, -1]) (by decide +kernel)⟩, sz_nums (l := [3, 1]) (by decide +kernel)⟩ sys2
theorem sys3_call {Aa Ab p q : Option Addr} {c d ca cb : Nat} {W : World} (hE : Env W) (hA : InMat W Aa [(p, c, [rq 0, rq 1]), (q, d, [rq 1, rq 0])]) (hB : InRow W Ab [rq 5, rq (1 / 3)]) :
    Calls Tryz.prog 12 #[.slice Aa 2 ca, .slice Ab 2 cb] W fun e w' => (∃ q d, e = .returned (.tuple #[.slice q 2 d, .int .i64 0]) ∧ InRow w' q [rq (1 / 3), rq 5]) ∧ Below W.heap.size W w' :=
  Solve_ok Aa Ab ca cb [(p, c, [rq 0, rq 1]), (q, d, [rq 1, rq 0])] [rq 5, rq (1 / 3)] [rq (1 / 3), rq 5] W hE ⟨hA, hB, by simp, by simp, fun x hx => by
    simp only [List.mem_cons, List.not_mem_nil, or_false] at hx
    rcases hx with rfl | rfl
    · exact ⟨by simp, sz_nums (l := [0, 1]) (by decide +kernel)⟩
    · exact ⟨by simp, sz_nums (l := [1, 0]) (by decide +kernel)⟩, sz_nums (l := [5, 1 / 3]) (by decide +kernel)⟩ sys3
theorem sys4_call {Aa Ab p q : Option Addr} {c d ca cb : Nat} {W : World} (hE : Env W) (hA : InMat W Aa [(p, c, [rq 1, rq 1]), (q, d, [rq 2, rq 2])]) (hB : InRow W Ab [rq 3, rq 6]) :
    Calls Tryz.prog 12 #[.slice Aa 2 ca, .slice Ab 2 cb] W fun e w' => e = .returned (.tuple #[.slice none 0 0, .int .i64 12]) ∧ Below W.heap.size W w' :=
  Solve_er Aa Ab ca cb [(p, c, [rq 1, rq 1]), (q, d, [rq 2, rq 2])] [rq 3, rq 6] 12 W hE ⟨hA, hB, by simp, by simp, fun x hx => by
    simp only [List.mem_cons, List.not_mem_nil, or_false] at hx
    rcases hx with rfl | rfl
    · exact ⟨by simp, sz_nums (l := [1, 1]) (by decide +kernel)⟩
    · exact ⟨by simp, sz_nums (l := [2, 2]) (by decide +kernel)⟩, sz_nums (l := [3, 6]) (by decide +kernel)⟩ sys4
theorem sys5_call {W : World} (hE : Env W) :
    Calls Tryz.prog 12 #[.slice none 0 0, .slice none 0 0] W fun e w' => (∃ q d, e = .returned (.tuple #[.slice q 0 d, .int .i64 0])) ∧ Below W.heap.size W w' :=
  (Solve_ok none none 0 0 [] [] [] W hE ⟨fun h => absurd h (by simp), fun h => absurd h (by simp), by simp, by simp, fun x hx => absurd hx (by simp), fun x hx => absurd hx (by simp)⟩ sys5).mono fun e w' ⟨⟨q, d, h1, _⟩, h3⟩ => ⟨⟨q, d, h1⟩, h3⟩
end Nt
end Go.Proofs.YtjjlnahipiinfaaGreatDoor

namespace Go.Proofs.YtjjlnahipiinfaaGreatDoor
open Go.RowKit Go.Shelf
namespace Nt

theorem number_q (k : Int) (q : Rat) (h : (k : Rat) = q) (h0 : -9223372036854775808 ≤ k) (h1 : k ≤ 9223372036854775807) (W : World) (hE : Env W) :
    Calls Tryz.prog 17 #[.int .i64 k] W fun e w' => e = .returned (.agg #[.bool (rq q).1, .string (rq q).2.1, .string (rq q).2.2]) ∧ Below W.heap.size W w' := by
  rw [← h]
  exact number_any k h0 h1 W hE

noncomputable def reg5 : Code := ((Tryz.f10.body.map regsOf).bind fun l => l[5]?).getD .skip
theorem some_fun {P : Program} {md : Region.Mode} {ops : Array Oper} {Q : Exit → Act → World → Prop} {S : World → Prop} {n : Nat} {l : Array Bool} {a : Act} {w : World}
    (h : ∀ F : Nat → Array Bool → Act → World → Prop, F = wpAnyH P md ops Q S → F n l a w) : wpAnyH P md ops Q S n l a w := h _ rfl
set_option maxRecDepth 1000000 in
set_option maxHeartbeats 16000000 in
theorem reg5_any {c0 c1 c3 c4 c5 c6 c7 c8 c9 c10 c11 c12 c13 c14 c15 c16 c17 c18 c19 c20 c21 c22 c23 c24 c25 c26 c27 c28 c29 c30 c31 c32 c33 c34 c35 c36 c37 c38 c39 c40 c41 c42 c43 c44 c45 c46 c47 c48 c49 c50 c51 c52 c53 c54 c55 c56 c57 c58 c59 c60 c61 c62 c63 c64 c65 c66 c67 c68 c69 c70 c71 c72 c73 c74 c75 c76 c77 c78 c79 c80 c81 c82 c83 c84 c85 c86 c87 c88 c89 c90 c91 c92 c93 c94 c95 c96 c97 c98 c99 c100 c101 c102 c103 c104 c105 c106 c107 c108 c109 c110 c111 c112 c113 c114 c115 c116 c117 c118 c119 : Value} {Q : Exit → Act → World → Prop} (w W0 : World) (hE : Env w) (hB : Below w.heap.size w W0) (bT : B3 W0 (w.heap.size + 1) false ⟨#[49]⟩ ⟨#[51]⟩)
    (X : World → Prop) (hX : X W0) (hXa : ∀ W W', X W → Below W.heap.size W W' → X W')
    (h : ∀ (u39 u40 u41 u42 u43 u44 u45 u46 u47 u48 u49 u50 u51 u52 : Value) (q3 : Option Addr) (d3 : Nat) (W : World), Hid (X W) → Hid (Below w.heap.size w W) → Hid (B3 W (w.heap.size + 1) false ⟨#[49]⟩ ⟨#[51]⟩) → Hid (InRow W q3 [rq (1 / 3), rq 5]) → Q .normal ⟨#[c0, c1, .pointer (some ⟨w.heap.size + 1, 0, none⟩), c3, c4, c5, c6, .slice q3 2 d3, .int .i64 0, c9, c10, c11, c12, c13, c14, c15, c16, c17, c18, c19, c20, c21, c22, c23, c24, c25, c26, c27, c28, c29, c30, c31, c32, c33, c34, c35, c36, c37, c38, u39, u40, u41, u42, u43, u44, u45, u46, u47, u48, u49, u50, u51, u52, c53, c54, c55, c56, c57, c58, c59, c60, c61, c62, c63, c64, c65, c66, c67, c68, c69, c70, c71, c72, c73, c74, c75, c76, c77, c78, c79, c80, c81, c82, c83, c84, c85, c86, c87, c88, c89, c90, c91, c92, c93, c94, c95, c96, c97, c98, c99, c100, c101, c102, c103, c104, c105, c106, c107, c108, c109, c110, c111, c112, c113, c114, c115, c116, c117, c118, c119], []⟩ W) :
    Code.wp Tryz.prog reg5 Q ⟨#[c0, c1, .pointer (some ⟨w.heap.size + 1, 0, none⟩), c3, c4, c5, c6, c7, c8, c9, c10, c11, c12, c13, c14, c15, c16, c17, c18, c19, c20, c21, c22, c23, c24, c25, c26, c27, c28, c29, c30, c31, c32, c33, c34, c35, c36, c37, c38, c39, c40, c41, c42, c43, c44, c45, c46, c47, c48, c49, c50, c51, c52, c53, c54, c55, c56, c57, c58, c59, c60, c61, c62, c63, c64, c65, c66, c67, c68, c69, c70, c71, c72, c73, c74, c75, c76, c77, c78, c79, c80, c81, c82, c83, c84, c85, c86, c87, c88, c89, c90, c91, c92, c93, c94, c95, c96, c97, c98, c99, c100, c101, c102, c103, c104, c105, c106, c107, c108, c109, c110, c111, c112, c113, c114, c115, c116, c117, c118, c119], []⟩ W0 := by
  conv => arg 2; whnf
  conv => arg 4; zeta
  replace h := Lib.hid h
  replace hE := Lib.hid hE
  replace hXa := Lib.hid hXa
  have kz := Lib.hid fun W (hW : Env W) => number_q 0 0 (by decide +kernel) (by omega) (by omega) W hW
  have ka := Lib.hid fun W (hW : Env W) => number_q 1 1 (by decide +kernel) (by omega) (by omega) W hW
  have ke := Lib.hid fun W (hW : Env W) => number_q 5 5 (by decide +kernel) (by omega) (by omega) W hW
  have hB9 : Hid (Below w.heap.size w W0.drew) := hB.drew
  have bT9 : Hid (B3 W0.drew (w.heap.size + 1) false ⟨#[49]⟩ ⟨#[51]⟩) := bT
  have hX9 : Hid (X W0.drew) := hXa.out _ _ hX (Below.refl _ W0).drew
  obtain ⟨t1, t2, t3, t4, t5, t6⟩ := bT9.out.facts
  clear hB bT hX
  refine wp_region_noPanic ?_
  refine wp_region_held_drew (S := (fun w' => w'.cell? ⟨w.heap.size + 1, 0, none⟩ = some (.bool false) ∧ w'.cell? ⟨w.heap.size + 1, 1, none⟩ = some (.string ⟨#[49]⟩) ∧ w'.cell? ⟨w.heap.size + 1, 2, none⟩ = some (.string ⟨#[51]⟩))) (by kernel_rfl) ⟨t1, t2, t3⟩ (fun hHeld => ?_)
  refine wpAnyH_take (i := 8) (oi := _) (v := ?_) rfl (by kernel_rfl) (by kernel_rfl) (by kernel_rfl) (fun _ _ _ h => h) (Or.inl ⟨by rfl, ?_⟩) (by assumption) ?_
  rotate_left
  · (intro w hSw; (try dsimp only at hSw); go_simp <;> with_reducible rfl)
  try simp only [Act.put, List.setIfInBounds_toArray]
  clear t1 t2 t3 t4 t5 t6 hHeld
  refine some_fun (fun F hF => ?_)
  replace hF := Lib.hid hF
  have Lx0x1x2x3x4x5x6x7x9x10 : ∀ (q3 : Option Addr) (d3 : Nat) (b42 : Nat) (b45 : Nat) (b46 : Nat) (b49 : Nat) (W : World), Hid (Below w.heap.size w W) → Hid (B3 W (w.heap.size + 1) false ⟨#[49]⟩ ⟨#[51]⟩) → Hid (X W) → Hid (InRow W q3 [rq (1 / 3), rq 5]) → F 5 #[true, true, true, true, true, true, true, true, true, true, true, false, false, false, false, false] ⟨#[c0, c1, .pointer (some ⟨w.heap.size + 1, 0, none⟩), c3, c4, c5, c6, c7, c8, c9, c10, c11, c12, c13, c14, c15, c16, c17, c18, c19, c20, c21, c22, c23, c24, c25, c26, c27, c28, c29, c30, c31, c32, c33, c34, c35, c36, c37, c38, c39, .agg #[.bool (rq 0).1, .string (rq 0).2.1, .string (rq 0).2.2], .agg #[.bool (rq 1).1, .string (rq 1).2.1, .string (rq 1).2.2], .slice (some ⟨b42, 0, none⟩) 2 2, .agg #[.bool (rq 1).1, .string (rq 1).2.1, .string (rq 1).2.2], .agg #[.bool (rq 0).1, .string (rq 0).2.1, .string (rq 0).2.2], .slice (some ⟨b45, 0, none⟩) 2 2, .slice (some ⟨b46, 0, none⟩) 2 2, .agg #[.bool (rq 5).1, .string (rq 5).2.1, .string (rq 5).2.2], .agg #[.bool false, .string ⟨#[49]⟩, .string ⟨#[51]⟩], .slice (some ⟨b49, 0, none⟩) 2 2, .tuple #[.slice q3 2 d3, .int .i64 0], c51, c52, c53, c54, c55, c56, c57, c58, c59, c60, c61, c62, c63, c64, c65, c66, c67, c68, c69, c70, c71, c72, c73, c74, c75, c76, c77, c78, c79, c80, c81, c82, c83, c84, c85, c86, c87, c88, c89, c90, c91, c92, c93, c94, c95, c96, c97, c98, c99, c100, c101, c102, c103, c104, c105, c106, c107, c108, c109, c110, c111, c112, c113, c114, c115, c116, c117, c118, c119], []⟩ W := by
    intro q3 d3 b42 b45 b46 b49 W hB bT hX q50
    rw [hF.out]
    obtain ⟨t1, t2, t3, t4, t5, t6⟩ := bT.out.facts
    have hHeld := (⟨t1, t2, t3⟩ : W.cell? ⟨w.heap.size + 1, 0, none⟩ = some (.bool false) ∧ W.cell? ⟨w.heap.size + 1, 1, none⟩ = some (.string ⟨#[49]⟩) ∧ W.cell? ⟨w.heap.size + 1, 2, none⟩ = some (.string ⟨#[51]⟩))
    refine wpAnyH_take (i := 11) (oi := _) (v := ?_) rfl (by kernel_rfl) (by kernel_rfl) (by kernel_rfl) (fun _ _ _ h => h) (Or.inl ⟨by rfl, ?_⟩) (by assumption) ?_
    rotate_left
    · (intro w hSw; (try dsimp only at hSw); go_simp <;> with_reducible rfl)
    try simp only [Act.put, List.setIfInBounds_toArray, List.set_cons_zero, List.set_cons_succ]
    refine wpAnyH_take (i := 12) (oi := _) (v := ?_) rfl (by kernel_rfl) (by kernel_rfl) (by kernel_rfl) (fun _ _ _ h => h) (Or.inl ⟨by rfl, ?_⟩) (by assumption) ?_
    rotate_left
    · (intro w hSw; (try dsimp only at hSw); go_simp <;> with_reducible rfl)
    try simp only [Act.put, List.setIfInBounds_toArray, List.set_cons_zero, List.set_cons_succ]
    refine wpAnyH_take (i := 13) (oi := _) (v := ?_) rfl (by kernel_rfl) (by kernel_rfl) (by kernel_rfl) (fun _ _ _ h => h) (Or.inl ⟨by rfl, ?_⟩) (by assumption) ?_
    rotate_left
    · (intro w hSw; (try dsimp only at hSw); go_simp <;> with_reducible rfl)
    try simp only [Act.put, List.setIfInBounds_toArray, List.set_cons_zero, List.set_cons_succ]
    refine wpAnyH_take (i := 14) (oi := _) (v := ?_) rfl (by kernel_rfl) (by kernel_rfl) (by kernel_rfl) (fun _ _ _ h => h) (Or.inl ⟨by rfl, ?_⟩) (by assumption) ?_
    rotate_left
    · (intro w hSw; (try dsimp only at hSw); go_simp <;> with_reducible rfl)
    try simp only [Act.put, List.setIfInBounds_toArray, List.set_cons_zero, List.set_cons_succ]
    refine wpAnyH_take (i := 15) (oi := _) (v := ?_) rfl (by kernel_rfl) (by kernel_rfl) (by kernel_rfl) (fun _ _ _ h => h) (Or.inl ⟨by rfl, ?_⟩) (by assumption) ?_
    rotate_left
    · (intro w hSw; (try dsimp only at hSw); go_simp <;> with_reducible rfl)
    try simp only [Act.put, List.setIfInBounds_toArray, List.set_cons_zero, List.set_cons_succ]
    refine wpAnyH_done (by kernel_rfl) ?_ _
    refine NoPanic.normal ?_
    exact h.out _ _ _ _ _ _ _ _ _ _ _ _ _ _ _ _ _ hX hB bT q50
  have Lx0x1x2x3x4x5x6x7x9 : ∀ (b42 : Nat) (b45 : Nat) (b46 : Nat) (b49 : Nat) (W : World), Hid (Below w.heap.size w W) → Hid (B3 W (w.heap.size + 1) false ⟨#[49]⟩ ⟨#[51]⟩) → Hid (X W) → Hid (InMat W (some ⟨b46, 0, none⟩) [(some ⟨b42, 0, none⟩, 2, [rq 0, rq 1]), (some ⟨b45, 0, none⟩, 2, [rq 1, rq 0])]) → Hid (InRow W (some ⟨b49, 0, none⟩) [rq 5, rq (1 / 3)]) → F 6 #[true, true, true, true, true, true, true, true, true, true, false, false, false, false, false, false] ⟨#[c0, c1, .pointer (some ⟨w.heap.size + 1, 0, none⟩), c3, c4, c5, c6, c7, c8, c9, c10, c11, c12, c13, c14, c15, c16, c17, c18, c19, c20, c21, c22, c23, c24, c25, c26, c27, c28, c29, c30, c31, c32, c33, c34, c35, c36, c37, c38, c39, .agg #[.bool (rq 0).1, .string (rq 0).2.1, .string (rq 0).2.2], .agg #[.bool (rq 1).1, .string (rq 1).2.1, .string (rq 1).2.2], .slice (some ⟨b42, 0, none⟩) 2 2, .agg #[.bool (rq 1).1, .string (rq 1).2.1, .string (rq 1).2.2], .agg #[.bool (rq 0).1, .string (rq 0).2.1, .string (rq 0).2.2], .slice (some ⟨b45, 0, none⟩) 2 2, .slice (some ⟨b46, 0, none⟩) 2 2, .agg #[.bool (rq 5).1, .string (rq 5).2.1, .string (rq 5).2.2], .agg #[.bool false, .string ⟨#[49]⟩, .string ⟨#[51]⟩], .slice (some ⟨b49, 0, none⟩) 2 2, c50, c51, c52, c53, c54, c55, c56, c57, c58, c59, c60, c61, c62, c63, c64, c65, c66, c67, c68, c69, c70, c71, c72, c73, c74, c75, c76, c77, c78, c79, c80, c81, c82, c83, c84, c85, c86, c87, c88, c89, c90, c91, c92, c93, c94, c95, c96, c97, c98, c99, c100, c101, c102, c103, c104, c105, c106, c107, c108, c109, c110, c111, c112, c113, c114, c115, c116, c117, c118, c119], []⟩ W := by
    intro b42 b45 b46 b49 W hB bT hX m46 r49
    rw [hF.out]
    refine wpAnyH_ready (rs := [10]) (by kernel_rfl) (by simp) ?_
    refine AllReadyH.cons (o := _) rfl (fun K hK => ?_) ?_
    · go_simp
      refine (sys3_call (hE.out.below hB.out) m46.out r49.out).mono ?_
      rintro e W2 ⟨⟨q3, d3, rfl, hq⟩, hb⟩
      obtain ⟨t1, t2, t3, t4, t5, t6⟩ := (bT.out.below hb).facts
      refine hK.out _ _ ⟨t1, t2, t3⟩ (fun _ => ?_)
      clear hK K
      try simp only [List.setIfInBounds_toArray, List.set_cons_zero, List.set_cons_succ]
      rw [← hF.out]
      exact Lx0x1x2x3x4x5x6x7x9x10 q3 d3 b42 b45 b46 b49 W2 (Lib.hid (trn hB.out hb)) (Lib.hid (bT.out.below hb)) (Lib.hid (hXa.out _ _ hX.out hb)) (Lib.hid hq)
    exact AllReadyH.nil
  have Lx0x1x2x3x4x5x6x7 : ∀ (b42 : Nat) (b45 : Nat) (b46 : Nat) (W : World), Hid (Below w.heap.size w W) → Hid (B3 W (w.heap.size + 1) false ⟨#[49]⟩ ⟨#[51]⟩) → Hid (X W) → Hid (InMat W (some ⟨b46, 0, none⟩) [(some ⟨b42, 0, none⟩, 2, [rq 0, rq 1]), (some ⟨b45, 0, none⟩, 2, [rq 1, rq 0])]) → F 7 #[true, true, true, true, true, true, true, true, true, false, false, false, false, false, false, false] ⟨#[c0, c1, .pointer (some ⟨w.heap.size + 1, 0, none⟩), c3, c4, c5, c6, c7, c8, c9, c10, c11, c12, c13, c14, c15, c16, c17, c18, c19, c20, c21, c22, c23, c24, c25, c26, c27, c28, c29, c30, c31, c32, c33, c34, c35, c36, c37, c38, c39, .agg #[.bool (rq 0).1, .string (rq 0).2.1, .string (rq 0).2.2], .agg #[.bool (rq 1).1, .string (rq 1).2.1, .string (rq 1).2.2], .slice (some ⟨b42, 0, none⟩) 2 2, .agg #[.bool (rq 1).1, .string (rq 1).2.1, .string (rq 1).2.2], .agg #[.bool (rq 0).1, .string (rq 0).2.1, .string (rq 0).2.2], .slice (some ⟨b45, 0, none⟩) 2 2, .slice (some ⟨b46, 0, none⟩) 2 2, .agg #[.bool (rq 5).1, .string (rq 5).2.1, .string (rq 5).2.2], .agg #[.bool false, .string ⟨#[49]⟩, .string ⟨#[51]⟩], c49, c50, c51, c52, c53, c54, c55, c56, c57, c58, c59, c60, c61, c62, c63, c64, c65, c66, c67, c68, c69, c70, c71, c72, c73, c74, c75, c76, c77, c78, c79, c80, c81, c82, c83, c84, c85, c86, c87, c88, c89, c90, c91, c92, c93, c94, c95, c96, c97, c98, c99, c100, c101, c102, c103, c104, c105, c106, c107, c108, c109, c110, c111, c112, c113, c114, c115, c116, c117, c118, c119], []⟩ W := by
    intro b42 b45 b46 W hB bT hX m46
    rw [hF.out]
    refine wpAnyH_ready (rs := [9]) (by kernel_rfl) (by simp) ?_
    refine AllReadyH.cons (o := _) rfl (fun K hK => ?_) ?_
    · go_simp
      obtain ⟨t1, t2, t3, t4, t5, t6⟩ := (bT.out.alloc (.cells #[.bool (rq 5).1, .string (rq 5).2.1, .string (rq 5).2.2, .bool false, .string ⟨#[49]⟩, .string ⟨#[51]⟩] 31)).facts
      refine hK.out _ _ ⟨t1, t2, t3⟩ (fun _ => ?_)
      clear hK K
      try simp only [List.setIfInBounds_toArray, List.set_cons_zero, List.set_cons_succ]
      rw [← hF.out]
      exact Lx0x1x2x3x4x5x6x7x9 b42 b45 b46 W.heap.size _ (Lib.hid (bal hB.out (.cells #[.bool (rq 5).1, .string (rq 5).2.1, .string (rq 5).2.2, .bool false, .string ⟨#[49]⟩, .string ⟨#[51]⟩] 31))) (Lib.hid (bT.out.alloc (.cells #[.bool (rq 5).1, .string (rq 5).2.1, .string (rq 5).2.2, .bool false, .string ⟨#[49]⟩, .string ⟨#[51]⟩] 31))) (Lib.hid (hXa.out _ _ hX.out (one_below _ (.cells #[.bool (rq 5).1, .string (rq 5).2.1, .string (rq 5).2.2, .bool false, .string ⟨#[49]⟩, .string ⟨#[51]⟩] 31)))) (Lib.hid (m46.out.alloc (.cells #[.bool (rq 5).1, .string (rq 5).2.1, .string (rq 5).2.2, .bool false, .string ⟨#[49]⟩, .string ⟨#[51]⟩] 31))) (Lib.hid (by have h9 := inRow2 W rfl (rq 5) (false, ⟨#[49]⟩, ⟨#[51]⟩); rw [← rq_third] at h9; rw [rq_third]; rw [rq_third] at h9; exact h9))
    exact AllReadyH.nil
  have Lx0x1x2x3x4x5x6 : ∀ (b42 : Nat) (b45 : Nat) (b46 : Nat) (W : World), Hid (Below w.heap.size w W) → Hid (B3 W (w.heap.size + 1) false ⟨#[49]⟩ ⟨#[51]⟩) → Hid (X W) → Hid (InMat W (some ⟨b46, 0, none⟩) [(some ⟨b42, 0, none⟩, 2, [rq 0, rq 1]), (some ⟨b45, 0, none⟩, 2, [rq 1, rq 0])]) → F 8 #[true, true, true, true, true, true, true, false, true, false, false, false, false, false, false, false] ⟨#[c0, c1, .pointer (some ⟨w.heap.size + 1, 0, none⟩), c3, c4, c5, c6, c7, c8, c9, c10, c11, c12, c13, c14, c15, c16, c17, c18, c19, c20, c21, c22, c23, c24, c25, c26, c27, c28, c29, c30, c31, c32, c33, c34, c35, c36, c37, c38, c39, .agg #[.bool (rq 0).1, .string (rq 0).2.1, .string (rq 0).2.2], .agg #[.bool (rq 1).1, .string (rq 1).2.1, .string (rq 1).2.2], .slice (some ⟨b42, 0, none⟩) 2 2, .agg #[.bool (rq 1).1, .string (rq 1).2.1, .string (rq 1).2.2], .agg #[.bool (rq 0).1, .string (rq 0).2.1, .string (rq 0).2.2], .slice (some ⟨b45, 0, none⟩) 2 2, .slice (some ⟨b46, 0, none⟩) 2 2, c47, .agg #[.bool false, .string ⟨#[49]⟩, .string ⟨#[51]⟩], c49, c50, c51, c52, c53, c54, c55, c56, c57, c58, c59, c60, c61, c62, c63, c64, c65, c66, c67, c68, c69, c70, c71, c72, c73, c74, c75, c76, c77, c78, c79, c80, c81, c82, c83, c84, c85, c86, c87, c88, c89, c90, c91, c92, c93, c94, c95, c96, c97, c98, c99, c100, c101, c102, c103, c104, c105, c106, c107, c108, c109, c110, c111, c112, c113, c114, c115, c116, c117, c118, c119], []⟩ W := by
    intro b42 b45 b46 W hB bT hX m46
    rw [hF.out]
    refine wpAnyH_ready (rs := [7]) (by kernel_rfl) (by simp) ?_
    refine AllReadyH.cons (o := _) rfl (fun K hK => ?_) ?_
    · go_simp
      refine (ke.out _ (hE.out.below hB.out)).mono ?_
      rintro e W2 ⟨rfl, hb⟩
      obtain ⟨t1, t2, t3, t4, t5, t6⟩ := (bT.out.below hb).facts
      refine hK.out _ _ ⟨t1, t2, t3⟩ (fun _ => ?_)
      clear hK K
      try simp only [List.setIfInBounds_toArray, List.set_cons_zero, List.set_cons_succ]
      rw [← hF.out]
      exact Lx0x1x2x3x4x5x6x7 b42 b45 b46 W2 (Lib.hid (trn hB.out hb)) (Lib.hid (bT.out.below hb)) (Lib.hid (hXa.out _ _ hX.out hb)) (Lib.hid (m46.out.up hb))
    exact AllReadyH.nil
  have Lx0x1x2x3x4x5x7x9 : ∀ (b42 : Nat) (b45 : Nat) (b49 : Nat) (W : World), Hid (Below w.heap.size w W) → Hid (B3 W (w.heap.size + 1) false ⟨#[49]⟩ ⟨#[51]⟩) → Hid (X W) → Hid (InRow W (some ⟨b42, 0, none⟩) [rq 0, rq 1]) → Hid (InRow W (some ⟨b45, 0, none⟩) [rq 1, rq 0]) → Hid (InRow W (some ⟨b49, 0, none⟩) [rq 5, rq (1 / 3)]) → F 7 #[true, true, true, true, true, true, false, true, true, true, false, false, false, false, false, false] ⟨#[c0, c1, .pointer (some ⟨w.heap.size + 1, 0, none⟩), c3, c4, c5, c6, c7, c8, c9, c10, c11, c12, c13, c14, c15, c16, c17, c18, c19, c20, c21, c22, c23, c24, c25, c26, c27, c28, c29, c30, c31, c32, c33, c34, c35, c36, c37, c38, c39, .agg #[.bool (rq 0).1, .string (rq 0).2.1, .string (rq 0).2.2], .agg #[.bool (rq 1).1, .string (rq 1).2.1, .string (rq 1).2.2], .slice (some ⟨b42, 0, none⟩) 2 2, .agg #[.bool (rq 1).1, .string (rq 1).2.1, .string (rq 1).2.2], .agg #[.bool (rq 0).1, .string (rq 0).2.1, .string (rq 0).2.2], .slice (some ⟨b45, 0, none⟩) 2 2, c46, .agg #[.bool (rq 5).1, .string (rq 5).2.1, .string (rq 5).2.2], .agg #[.bool false, .string ⟨#[49]⟩, .string ⟨#[51]⟩], .slice (some ⟨b49, 0, none⟩) 2 2, c50, c51, c52, c53, c54, c55, c56, c57, c58, c59, c60, c61, c62, c63, c64, c65, c66, c67, c68, c69, c70, c71, c72, c73, c74, c75, c76, c77, c78, c79, c80, c81, c82, c83, c84, c85, c86, c87, c88, c89, c90, c91, c92, c93, c94, c95, c96, c97, c98, c99, c100, c101, c102, c103, c104, c105, c106, c107, c108, c109, c110, c111, c112, c113, c114, c115, c116, c117, c118, c119], []⟩ W := by
    intro b42 b45 b49 W hB bT hX r42 r45 r49
    rw [hF.out]
    refine wpAnyH_ready (rs := [6]) (by kernel_rfl) (by simp) ?_
    refine AllReadyH.cons (o := _) rfl (fun K hK => ?_) ?_
    · go_simp
      obtain ⟨t1, t2, t3, t4, t5, t6⟩ := (bT.out.alloc (.cells #[.slice (some ⟨b42, 0, none⟩) 2 2, .slice (some ⟨b45, 0, none⟩) 2 2] 23)).facts
      refine hK.out _ _ ⟨t1, t2, t3⟩ (fun _ => ?_)
      clear hK K
      try simp only [List.setIfInBounds_toArray, List.set_cons_zero, List.set_cons_succ]
      rw [← hF.out]
      exact Lx0x1x2x3x4x5x6x7x9 b42 b45 W.heap.size b49 _ (Lib.hid (bal hB.out (.cells #[.slice (some ⟨b42, 0, none⟩) 2 2, .slice (some ⟨b45, 0, none⟩) 2 2] 23))) (Lib.hid (bT.out.alloc (.cells #[.slice (some ⟨b42, 0, none⟩) 2 2, .slice (some ⟨b45, 0, none⟩) 2 2] 23))) (Lib.hid (hXa.out _ _ hX.out (one_below _ (.cells #[.slice (some ⟨b42, 0, none⟩) 2 2, .slice (some ⟨b45, 0, none⟩) 2 2] 23)))) (Lib.hid (inMat2 W rfl _ _ _ _ _ _ _ _ rfl rfl r42.out r45.out)) (Lib.hid (r49.out.alloc (.cells #[.slice (some ⟨b42, 0, none⟩) 2 2, .slice (some ⟨b45, 0, none⟩) 2 2] 23)))
    exact AllReadyH.nil
  have Lx0x1x2x3x4x5x7 : ∀ (b42 : Nat) (b45 : Nat) (W : World), Hid (Below w.heap.size w W) → Hid (B3 W (w.heap.size + 1) false ⟨#[49]⟩ ⟨#[51]⟩) → Hid (X W) → Hid (InRow W (some ⟨b42, 0, none⟩) [rq 0, rq 1]) → Hid (InRow W (some ⟨b45, 0, none⟩) [rq 1, rq 0]) → F 8 #[true, true, true, true, true, true, false, true, true, false, false, false, false, false, false, false] ⟨#[c0, c1, .pointer (some ⟨w.heap.size + 1, 0, none⟩), c3, c4, c5, c6, c7, c8, c9, c10, c11, c12, c13, c14, c15, c16, c17, c18, c19, c20, c21, c22, c23, c24, c25, c26, c27, c28, c29, c30, c31, c32, c33, c34, c35, c36, c37, c38, c39, .agg #[.bool (rq 0).1, .string (rq 0).2.1, .string (rq 0).2.2], .agg #[.bool (rq 1).1, .string (rq 1).2.1, .string (rq 1).2.2], .slice (some ⟨b42, 0, none⟩) 2 2, .agg #[.bool (rq 1).1, .string (rq 1).2.1, .string (rq 1).2.2], .agg #[.bool (rq 0).1, .string (rq 0).2.1, .string (rq 0).2.2], .slice (some ⟨b45, 0, none⟩) 2 2, c46, .agg #[.bool (rq 5).1, .string (rq 5).2.1, .string (rq 5).2.2], .agg #[.bool false, .string ⟨#[49]⟩, .string ⟨#[51]⟩], c49, c50, c51, c52, c53, c54, c55, c56, c57, c58, c59, c60, c61, c62, c63, c64, c65, c66, c67, c68, c69, c70, c71, c72, c73, c74, c75, c76, c77, c78, c79, c80, c81, c82, c83, c84, c85, c86, c87, c88, c89, c90, c91, c92, c93, c94, c95, c96, c97, c98, c99, c100, c101, c102, c103, c104, c105, c106, c107, c108, c109, c110, c111, c112, c113, c114, c115, c116, c117, c118, c119], []⟩ W := by
    intro b42 b45 W hB bT hX r42 r45
    rw [hF.out]
    refine wpAnyH_ready (rs := [6, 9]) (by kernel_rfl) (by simp) ?_
    refine AllReadyH.cons (o := _) rfl (fun K hK => ?_) ?_
    · go_simp
      obtain ⟨t1, t2, t3, t4, t5, t6⟩ := (bT.out.alloc (.cells #[.slice (some ⟨b42, 0, none⟩) 2 2, .slice (some ⟨b45, 0, none⟩) 2 2] 23)).facts
      refine hK.out _ _ ⟨t1, t2, t3⟩ (fun _ => ?_)
      clear hK K
      try simp only [List.setIfInBounds_toArray, List.set_cons_zero, List.set_cons_succ]
      rw [← hF.out]
      exact Lx0x1x2x3x4x5x6x7 b42 b45 W.heap.size _ (Lib.hid (bal hB.out (.cells #[.slice (some ⟨b42, 0, none⟩) 2 2, .slice (some ⟨b45, 0, none⟩) 2 2] 23))) (Lib.hid (bT.out.alloc (.cells #[.slice (some ⟨b42, 0, none⟩) 2 2, .slice (some ⟨b45, 0, none⟩) 2 2] 23))) (Lib.hid (hXa.out _ _ hX.out (one_below _ (.cells #[.slice (some ⟨b42, 0, none⟩) 2 2, .slice (some ⟨b45, 0, none⟩) 2 2] 23)))) (Lib.hid (inMat2 W rfl _ _ _ _ _ _ _ _ rfl rfl r42.out r45.out))
    refine AllReadyH.cons (o := _) rfl (fun K hK => ?_) ?_
    · go_simp
      obtain ⟨t1, t2, t3, t4, t5, t6⟩ := (bT.out.alloc (.cells #[.bool (rq 5).1, .string (rq 5).2.1, .string (rq 5).2.2, .bool false, .string ⟨#[49]⟩, .string ⟨#[51]⟩] 31)).facts
      refine hK.out _ _ ⟨t1, t2, t3⟩ (fun _ => ?_)
      clear hK K
      try simp only [List.setIfInBounds_toArray, List.set_cons_zero, List.set_cons_succ]
      rw [← hF.out]
      exact Lx0x1x2x3x4x5x7x9 b42 b45 W.heap.size _ (Lib.hid (bal hB.out (.cells #[.bool (rq 5).1, .string (rq 5).2.1, .string (rq 5).2.2, .bool false, .string ⟨#[49]⟩, .string ⟨#[51]⟩] 31))) (Lib.hid (bT.out.alloc (.cells #[.bool (rq 5).1, .string (rq 5).2.1, .string (rq 5).2.2, .bool false, .string ⟨#[49]⟩, .string ⟨#[51]⟩] 31))) (Lib.hid (hXa.out _ _ hX.out (one_below _ (.cells #[.bool (rq 5).1, .string (rq 5).2.1, .string (rq 5).2.2, .bool false, .string ⟨#[49]⟩, .string ⟨#[51]⟩] 31)))) (Lib.hid (r42.out.alloc (.cells #[.bool (rq 5).1, .string (rq 5).2.1, .string (rq 5).2.2, .bool false, .string ⟨#[49]⟩, .string ⟨#[51]⟩] 31))) (Lib.hid (r45.out.alloc (.cells #[.bool (rq 5).1, .string (rq 5).2.1, .string (rq 5).2.2, .bool false, .string ⟨#[49]⟩, .string ⟨#[51]⟩] 31))) (Lib.hid (by have h9 := inRow2 W rfl (rq 5) (false, ⟨#[49]⟩, ⟨#[51]⟩); rw [← rq_third] at h9; rw [rq_third]; rw [rq_third] at h9; exact h9))
    exact AllReadyH.nil
  have Lx0x1x2x3x4x5 : ∀ (b42 : Nat) (b45 : Nat) (W : World), Hid (Below w.heap.size w W) → Hid (B3 W (w.heap.size + 1) false ⟨#[49]⟩ ⟨#[51]⟩) → Hid (X W) → Hid (InRow W (some ⟨b42, 0, none⟩) [rq 0, rq 1]) → Hid (InRow W (some ⟨b45, 0, none⟩) [rq 1, rq 0]) → F 9 #[true, true, true, true, true, true, false, false, true, false, false, false, false, false, false, false] ⟨#[c0, c1, .pointer (some ⟨w.heap.size + 1, 0, none⟩), c3, c4, c5, c6, c7, c8, c9, c10, c11, c12, c13, c14, c15, c16, c17, c18, c19, c20, c21, c22, c23, c24, c25, c26, c27, c28, c29, c30, c31, c32, c33, c34, c35, c36, c37, c38, c39, .agg #[.bool (rq 0).1, .string (rq 0).2.1, .string (rq 0).2.2], .agg #[.bool (rq 1).1, .string (rq 1).2.1, .string (rq 1).2.2], .slice (some ⟨b42, 0, none⟩) 2 2, .agg #[.bool (rq 1).1, .string (rq 1).2.1, .string (rq 1).2.2], .agg #[.bool (rq 0).1, .string (rq 0).2.1, .string (rq 0).2.2], .slice (some ⟨b45, 0, none⟩) 2 2, c46, c47, .agg #[.bool false, .string ⟨#[49]⟩, .string ⟨#[51]⟩], c49, c50, c51, c52, c53, c54, c55, c56, c57, c58, c59, c60, c61, c62, c63, c64, c65, c66, c67, c68, c69, c70, c71, c72, c73, c74, c75, c76, c77, c78, c79, c80, c81, c82, c83, c84, c85, c86, c87, c88, c89, c90, c91, c92, c93, c94, c95, c96, c97, c98, c99, c100, c101, c102, c103, c104, c105, c106, c107, c108, c109, c110, c111, c112, c113, c114, c115, c116, c117, c118, c119], []⟩ W := by
    intro b42 b45 W hB bT hX r42 r45
    rw [hF.out]
    refine wpAnyH_ready (rs := [6, 7]) (by kernel_rfl) (by simp) ?_
    refine AllReadyH.cons (o := _) rfl (fun K hK => ?_) ?_
    · go_simp
      obtain ⟨t1, t2, t3, t4, t5, t6⟩ := (bT.out.alloc (.cells #[.slice (some ⟨b42, 0, none⟩) 2 2, .slice (some ⟨b45, 0, none⟩) 2 2] 23)).facts
      refine hK.out _ _ ⟨t1, t2, t3⟩ (fun _ => ?_)
      clear hK K
      try simp only [List.setIfInBounds_toArray, List.set_cons_zero, List.set_cons_succ]
      rw [← hF.out]
      exact Lx0x1x2x3x4x5x6 b42 b45 W.heap.size _ (Lib.hid (bal hB.out (.cells #[.slice (some ⟨b42, 0, none⟩) 2 2, .slice (some ⟨b45, 0, none⟩) 2 2] 23))) (Lib.hid (bT.out.alloc (.cells #[.slice (some ⟨b42, 0, none⟩) 2 2, .slice (some ⟨b45, 0, none⟩) 2 2] 23))) (Lib.hid (hXa.out _ _ hX.out (one_below _ (.cells #[.slice (some ⟨b42, 0, none⟩) 2 2, .slice (some ⟨b45, 0, none⟩) 2 2] 23)))) (Lib.hid (inMat2 W rfl _ _ _ _ _ _ _ _ rfl rfl r42.out r45.out))
    refine AllReadyH.cons (o := _) rfl (fun K hK => ?_) ?_
    · go_simp
      refine (ke.out _ (hE.out.below hB.out)).mono ?_
      rintro e W2 ⟨rfl, hb⟩
      obtain ⟨t1, t2, t3, t4, t5, t6⟩ := (bT.out.below hb).facts
      refine hK.out _ _ ⟨t1, t2, t3⟩ (fun _ => ?_)
      clear hK K
      try simp only [List.setIfInBounds_toArray, List.set_cons_zero, List.set_cons_succ]
      rw [← hF.out]
      exact Lx0x1x2x3x4x5x7 b42 b45 W2 (Lib.hid (trn hB.out hb)) (Lib.hid (bT.out.below hb)) (Lib.hid (hXa.out _ _ hX.out hb)) (Lib.hid (r42.out.up hb)) (Lib.hid (r45.out.up hb))
    exact AllReadyH.nil
  have Lx0x1x2x3x4x7x9 : ∀ (b42 : Nat) (b49 : Nat) (W : World), Hid (Below w.heap.size w W) → Hid (B3 W (w.heap.size + 1) false ⟨#[49]⟩ ⟨#[51]⟩) → Hid (X W) → Hid (InRow W (some ⟨b42, 0, none⟩) [rq 0, rq 1]) → Hid (InRow W (some ⟨b49, 0, none⟩) [rq 5, rq (1 / 3)]) → F 8 #[true, true, true, true, true, false, false, true, true, true, false, false, false, false, false, false] ⟨#[c0, c1, .pointer (some ⟨w.heap.size + 1, 0, none⟩), c3, c4, c5, c6, c7, c8, c9, c10, c11, c12, c13, c14, c15, c16, c17, c18, c19, c20, c21, c22, c23, c24, c25, c26, c27, c28, c29, c30, c31, c32, c33, c34, c35, c36, c37, c38, c39, .agg #[.bool (rq 0).1, .string (rq 0).2.1, .string (rq 0).2.2], .agg #[.bool (rq 1).1, .string (rq 1).2.1, .string (rq 1).2.2], .slice (some ⟨b42, 0, none⟩) 2 2, .agg #[.bool (rq 1).1, .string (rq 1).2.1, .string (rq 1).2.2], .agg #[.bool (rq 0).1, .string (rq 0).2.1, .string (rq 0).2.2], c45, c46, .agg #[.bool (rq 5).1, .string (rq 5).2.1, .string (rq 5).2.2], .agg #[.bool false, .string ⟨#[49]⟩, .string ⟨#[51]⟩], .slice (some ⟨b49, 0, none⟩) 2 2, c50, c51, c52, c53, c54, c55, c56, c57, c58, c59, c60, c61, c62, c63, c64, c65, c66, c67, c68, c69, c70, c71, c72, c73, c74, c75, c76, c77, c78, c79, c80, c81, c82, c83, c84, c85, c86, c87, c88, c89, c90, c91, c92, c93, c94, c95, c96, c97, c98, c99, c100, c101, c102, c103, c104, c105, c106, c107, c108, c109, c110, c111, c112, c113, c114, c115, c116, c117, c118, c119], []⟩ W := by
    intro b42 b49 W hB bT hX r42 r49
    rw [hF.out]
    refine wpAnyH_ready (rs := [5]) (by kernel_rfl) (by simp) ?_
    refine AllReadyH.cons (o := _) rfl (fun K hK => ?_) ?_
    · go_simp
      obtain ⟨t1, t2, t3, t4, t5, t6⟩ := (bT.out.alloc (.cells #[.bool (rq 1).1, .string (rq 1).2.1, .string (rq 1).2.2, .bool (rq 0).1, .string (rq 0).2.1, .string (rq 0).2.2] 31)).facts
      refine hK.out _ _ ⟨t1, t2, t3⟩ (fun _ => ?_)
      clear hK K
      try simp only [List.setIfInBounds_toArray, List.set_cons_zero, List.set_cons_succ]
      rw [← hF.out]
      exact Lx0x1x2x3x4x5x7x9 b42 W.heap.size b49 _ (Lib.hid (bal hB.out (.cells #[.bool (rq 1).1, .string (rq 1).2.1, .string (rq 1).2.2, .bool (rq 0).1, .string (rq 0).2.1, .string (rq 0).2.2] 31))) (Lib.hid (bT.out.alloc (.cells #[.bool (rq 1).1, .string (rq 1).2.1, .string (rq 1).2.2, .bool (rq 0).1, .string (rq 0).2.1, .string (rq 0).2.2] 31))) (Lib.hid (hXa.out _ _ hX.out (one_below _ (.cells #[.bool (rq 1).1, .string (rq 1).2.1, .string (rq 1).2.2, .bool (rq 0).1, .string (rq 0).2.1, .string (rq 0).2.2] 31)))) (Lib.hid (r42.out.alloc (.cells #[.bool (rq 1).1, .string (rq 1).2.1, .string (rq 1).2.2, .bool (rq 0).1, .string (rq 0).2.1, .string (rq 0).2.2] 31))) (Lib.hid (inRow2 W rfl (rq 1) (rq 0))) (Lib.hid (r49.out.alloc (.cells #[.bool (rq 1).1, .string (rq 1).2.1, .string (rq 1).2.2, .bool (rq 0).1, .string (rq 0).2.1, .string (rq 0).2.2] 31)))
    exact AllReadyH.nil
  have Lx0x1x2x3x4x7 : ∀ (b42 : Nat) (W : World), Hid (Below w.heap.size w W) → Hid (B3 W (w.heap.size + 1) false ⟨#[49]⟩ ⟨#[51]⟩) → Hid (X W) → Hid (InRow W (some ⟨b42, 0, none⟩) [rq 0, rq 1]) → F 9 #[true, true, true, true, true, false, false, true, true, false, false, false, false, false, false, false] ⟨#[c0, c1, .pointer (some ⟨w.heap.size + 1, 0, none⟩), c3, c4, c5, c6, c7, c8, c9, c10, c11, c12, c13, c14, c15, c16, c17, c18, c19, c20, c21, c22, c23, c24, c25, c26, c27, c28, c29, c30, c31, c32, c33, c34, c35, c36, c37, c38, c39, .agg #[.bool (rq 0).1, .string (rq 0).2.1, .string (rq 0).2.2], .agg #[.bool (rq 1).1, .string (rq 1).2.1, .string (rq 1).2.2], .slice (some ⟨b42, 0, none⟩) 2 2, .agg #[.bool (rq 1).1, .string (rq 1).2.1, .string (rq 1).2.2], .agg #[.bool (rq 0).1, .string (rq 0).2.1, .string (rq 0).2.2], c45, c46, .agg #[.bool (rq 5).1, .string (rq 5).2.1, .string (rq 5).2.2], .agg #[.bool false, .string ⟨#[49]⟩, .string ⟨#[51]⟩], c49, c50, c51, c52, c53, c54, c55, c56, c57, c58, c59, c60, c61, c62, c63, c64, c65, c66, c67, c68, c69, c70, c71, c72, c73, c74, c75, c76, c77, c78, c79, c80, c81, c82, c83, c84, c85, c86, c87, c88, c89, c90, c91, c92, c93, c94, c95, c96, c97, c98, c99, c100, c101, c102, c103, c104, c105, c106, c107, c108, c109, c110, c111, c112, c113, c114, c115, c116, c117, c118, c119], []⟩ W := by
    intro b42 W hB bT hX r42
    rw [hF.out]
    refine wpAnyH_ready (rs := [5, 9]) (by kernel_rfl) (by simp) ?_
    refine AllReadyH.cons (o := _) rfl (fun K hK => ?_) ?_
    · go_simp
      obtain ⟨t1, t2, t3, t4, t5, t6⟩ := (bT.out.alloc (.cells #[.bool (rq 1).1, .string (rq 1).2.1, .string (rq 1).2.2, .bool (rq 0).1, .string (rq 0).2.1, .string (rq 0).2.2] 31)).facts
      refine hK.out _ _ ⟨t1, t2, t3⟩ (fun _ => ?_)
      clear hK K
      try simp only [List.setIfInBounds_toArray, List.set_cons_zero, List.set_cons_succ]
      rw [← hF.out]
      exact Lx0x1x2x3x4x5x7 b42 W.heap.size _ (Lib.hid (bal hB.out (.cells #[.bool (rq 1).1, .string (rq 1).2.1, .string (rq 1).2.2, .bool (rq 0).1, .string (rq 0).2.1, .string (rq 0).2.2] 31))) (Lib.hid (bT.out.alloc (.cells #[.bool (rq 1).1, .string (rq 1).2.1, .string (rq 1).2.2, .bool (rq 0).1, .string (rq 0).2.1, .string (rq 0).2.2] 31))) (Lib.hid (hXa.out _ _ hX.out (one_below _ (.cells #[.bool (rq 1).1, .string (rq 1).2.1, .string (rq 1).2.2, .bool (rq 0).1, .string (rq 0).2.1, .string (rq 0).2.2] 31)))) (Lib.hid (r42.out.alloc (.cells #[.bool (rq 1).1, .string (rq 1).2.1, .string (rq 1).2.2, .bool (rq 0).1, .string (rq 0).2.1, .string (rq 0).2.2] 31))) (Lib.hid (inRow2 W rfl (rq 1) (rq 0)))
    refine AllReadyH.cons (o := _) rfl (fun K hK => ?_) ?_
    · go_simp
      obtain ⟨t1, t2, t3, t4, t5, t6⟩ := (bT.out.alloc (.cells #[.bool (rq 5).1, .string (rq 5).2.1, .string (rq 5).2.2, .bool false, .string ⟨#[49]⟩, .string ⟨#[51]⟩] 31)).facts
      refine hK.out _ _ ⟨t1, t2, t3⟩ (fun _ => ?_)
      clear hK K
      try simp only [List.setIfInBounds_toArray, List.set_cons_zero, List.set_cons_succ]
      rw [← hF.out]
      exact Lx0x1x2x3x4x7x9 b42 W.heap.size _ (Lib.hid (bal hB.out (.cells #[.bool (rq 5).1, .string (rq 5).2.1, .string (rq 5).2.2, .bool false, .string ⟨#[49]⟩, .string ⟨#[51]⟩] 31))) (Lib.hid (bT.out.alloc (.cells #[.bool (rq 5).1, .string (rq 5).2.1, .string (rq 5).2.2, .bool false, .string ⟨#[49]⟩, .string ⟨#[51]⟩] 31))) (Lib.hid (hXa.out _ _ hX.out (one_below _ (.cells #[.bool (rq 5).1, .string (rq 5).2.1, .string (rq 5).2.2, .bool false, .string ⟨#[49]⟩, .string ⟨#[51]⟩] 31)))) (Lib.hid (r42.out.alloc (.cells #[.bool (rq 5).1, .string (rq 5).2.1, .string (rq 5).2.2, .bool false, .string ⟨#[49]⟩, .string ⟨#[51]⟩] 31))) (Lib.hid (by have h9 := inRow2 W rfl (rq 5) (false, ⟨#[49]⟩, ⟨#[51]⟩); rw [← rq_third] at h9; rw [rq_third]; rw [rq_third] at h9; exact h9))
    exact AllReadyH.nil
  have Lx0x1x2x3x4 : ∀ (b42 : Nat) (W : World), Hid (Below w.heap.size w W) → Hid (B3 W (w.heap.size + 1) false ⟨#[49]⟩ ⟨#[51]⟩) → Hid (X W) → Hid (InRow W (some ⟨b42, 0, none⟩) [rq 0, rq 1]) → F 10 #[true, true, true, true, true, false, false, false, true, false, false, false, false, false, false, false] ⟨#[c0, c1, .pointer (some ⟨w.heap.size + 1, 0, none⟩), c3, c4, c5, c6, c7, c8, c9, c10, c11, c12, c13, c14, c15, c16, c17, c18, c19, c20, c21, c22, c23, c24, c25, c26, c27, c28, c29, c30, c31, c32, c33, c34, c35, c36, c37, c38, c39, .agg #[.bool (rq 0).1, .string (rq 0).2.1, .string (rq 0).2.2], .agg #[.bool (rq 1).1, .string (rq 1).2.1, .string (rq 1).2.2], .slice (some ⟨b42, 0, none⟩) 2 2, .agg #[.bool (rq 1).1, .string (rq 1).2.1, .string (rq 1).2.2], .agg #[.bool (rq 0).1, .string (rq 0).2.1, .string (rq 0).2.2], c45, c46, c47, .agg #[.bool false, .string ⟨#[49]⟩, .string ⟨#[51]⟩], c49, c50, c51, c52, c53, c54, c55, c56, c57, c58, c59, c60, c61, c62, c63, c64, c65, c66, c67, c68, c69, c70, c71, c72, c73, c74, c75, c76, c77, c78, c79, c80, c81, c82, c83, c84, c85, c86, c87, c88, c89, c90, c91, c92, c93, c94, c95, c96, c97, c98, c99, c100, c101, c102, c103, c104, c105, c106, c107, c108, c109, c110, c111, c112, c113, c114, c115, c116, c117, c118, c119], []⟩ W := by
    intro b42 W hB bT hX r42
    rw [hF.out]
    refine wpAnyH_ready (rs := [5, 7]) (by kernel_rfl) (by simp) ?_
    refine AllReadyH.cons (o := _) rfl (fun K hK => ?_) ?_
    · go_simp
      obtain ⟨t1, t2, t3, t4, t5, t6⟩ := (bT.out.alloc (.cells #[.bool (rq 1).1, .string (rq 1).2.1, .string (rq 1).2.2, .bool (rq 0).1, .string (rq 0).2.1, .string (rq 0).2.2] 31)).facts
      refine hK.out _ _ ⟨t1, t2, t3⟩ (fun _ => ?_)
      clear hK K
      try simp only [List.setIfInBounds_toArray, List.set_cons_zero, List.set_cons_succ]
      rw [← hF.out]
      exact Lx0x1x2x3x4x5 b42 W.heap.size _ (Lib.hid (bal hB.out (.cells #[.bool (rq 1).1, .string (rq 1).2.1, .string (rq 1).2.2, .bool (rq 0).1, .string (rq 0).2.1, .string (rq 0).2.2] 31))) (Lib.hid (bT.out.alloc (.cells #[.bool (rq 1).1, .string (rq 1).2.1, .string (rq 1).2.2, .bool (rq 0).1, .string (rq 0).2.1, .string (rq 0).2.2] 31))) (Lib.hid (hXa.out _ _ hX.out (one_below _ (.cells #[.bool (rq 1).1, .string (rq 1).2.1, .string (rq 1).2.2, .bool (rq 0).1, .string (rq 0).2.1, .string (rq 0).2.2] 31)))) (Lib.hid (r42.out.alloc (.cells #[.bool (rq 1).1, .string (rq 1).2.1, .string (rq 1).2.2, .bool (rq 0).1, .string (rq 0).2.1, .string (rq 0).2.2] 31))) (Lib.hid (inRow2 W rfl (rq 1) (rq 0)))
    refine AllReadyH.cons (o := _) rfl (fun K hK => ?_) ?_
    · go_simp
      refine (ke.out _ (hE.out.below hB.out)).mono ?_
      rintro e W2 ⟨rfl, hb⟩
      obtain ⟨t1, t2, t3, t4, t5, t6⟩ := (bT.out.below hb).facts
      refine hK.out _ _ ⟨t1, t2, t3⟩ (fun _ => ?_)
      clear hK K
      try simp only [List.setIfInBounds_toArray, List.set_cons_zero, List.set_cons_succ]
      rw [← hF.out]
      exact Lx0x1x2x3x4x7 b42 W2 (Lib.hid (trn hB.out hb)) (Lib.hid (bT.out.below hb)) (Lib.hid (hXa.out _ _ hX.out hb)) (Lib.hid (r42.out.up hb))
    exact AllReadyH.nil
  have Lx0x1x2x3 : ∀ (b42 : Nat) (W : World), Hid (Below w.heap.size w W) → Hid (B3 W (w.heap.size + 1) false ⟨#[49]⟩ ⟨#[51]⟩) → Hid (X W) → Hid (InRow W (some ⟨b42, 0, none⟩) [rq 0, rq 1]) → F 11 #[true, true, true, true, false, false, false, false, true, false, false, false, false, false, false, false] ⟨#[c0, c1, .pointer (some ⟨w.heap.size + 1, 0, none⟩), c3, c4, c5, c6, c7, c8, c9, c10, c11, c12, c13, c14, c15, c16, c17, c18, c19, c20, c21, c22, c23, c24, c25, c26, c27, c28, c29, c30, c31, c32, c33, c34, c35, c36, c37, c38, c39, .agg #[.bool (rq 0).1, .string (rq 0).2.1, .string (rq 0).2.2], .agg #[.bool (rq 1).1, .string (rq 1).2.1, .string (rq 1).2.2], .slice (some ⟨b42, 0, none⟩) 2 2, .agg #[.bool (rq 1).1, .string (rq 1).2.1, .string (rq 1).2.2], c44, c45, c46, c47, .agg #[.bool false, .string ⟨#[49]⟩, .string ⟨#[51]⟩], c49, c50, c51, c52, c53, c54, c55, c56, c57, c58, c59, c60, c61, c62, c63, c64, c65, c66, c67, c68, c69, c70, c71, c72, c73, c74, c75, c76, c77, c78, c79, c80, c81, c82, c83, c84, c85, c86, c87, c88, c89, c90, c91, c92, c93, c94, c95, c96, c97, c98, c99, c100, c101, c102, c103, c104, c105, c106, c107, c108, c109, c110, c111, c112, c113, c114, c115, c116, c117, c118, c119], []⟩ W := by
    intro b42 W hB bT hX r42
    rw [hF.out]
    refine wpAnyH_ready (rs := [4]) (by kernel_rfl) (by simp) ?_
    refine AllReadyH.cons (o := _) rfl (fun K hK => ?_) ?_
    · go_simp
      refine (kz.out _ (hE.out.below hB.out)).mono ?_
      rintro e W2 ⟨rfl, hb⟩
      obtain ⟨t1, t2, t3, t4, t5, t6⟩ := (bT.out.below hb).facts
      refine hK.out _ _ ⟨t1, t2, t3⟩ (fun _ => ?_)
      clear hK K
      try simp only [List.setIfInBounds_toArray, List.set_cons_zero, List.set_cons_succ]
      rw [← hF.out]
      exact Lx0x1x2x3x4 b42 W2 (Lib.hid (trn hB.out hb)) (Lib.hid (bT.out.below hb)) (Lib.hid (hXa.out _ _ hX.out hb)) (Lib.hid (r42.out.up hb))
    exact AllReadyH.nil
  have Lx0x1x2 : ∀ (b42 : Nat) (W : World), Hid (Below w.heap.size w W) → Hid (B3 W (w.heap.size + 1) false ⟨#[49]⟩ ⟨#[51]⟩) → Hid (X W) → Hid (InRow W (some ⟨b42, 0, none⟩) [rq 0, rq 1]) → F 12 #[true, true, true, false, false, false, false, false, true, false, false, false, false, false, false, false] ⟨#[c0, c1, .pointer (some ⟨w.heap.size + 1, 0, none⟩), c3, c4, c5, c6, c7, c8, c9, c10, c11, c12, c13, c14, c15, c16, c17, c18, c19, c20, c21, c22, c23, c24, c25, c26, c27, c28, c29, c30, c31, c32, c33, c34, c35, c36, c37, c38, c39, .agg #[.bool (rq 0).1, .string (rq 0).2.1, .string (rq 0).2.2], .agg #[.bool (rq 1).1, .string (rq 1).2.1, .string (rq 1).2.2], .slice (some ⟨b42, 0, none⟩) 2 2, c43, c44, c45, c46, c47, .agg #[.bool false, .string ⟨#[49]⟩, .string ⟨#[51]⟩], c49, c50, c51, c52, c53, c54, c55, c56, c57, c58, c59, c60, c61, c62, c63, c64, c65, c66, c67, c68, c69, c70, c71, c72, c73, c74, c75, c76, c77, c78, c79, c80, c81, c82, c83, c84, c85, c86, c87, c88, c89, c90, c91, c92, c93, c94, c95, c96, c97, c98, c99, c100, c101, c102, c103, c104, c105, c106, c107, c108, c109, c110, c111, c112, c113, c114, c115, c116, c117, c118, c119], []⟩ W := by
    intro b42 W hB bT hX r42
    rw [hF.out]
    refine wpAnyH_ready (rs := [3]) (by kernel_rfl) (by simp) ?_
    refine AllReadyH.cons (o := _) rfl (fun K hK => ?_) ?_
    · go_simp
      refine (ka.out _ (hE.out.below hB.out)).mono ?_
      rintro e W2 ⟨rfl, hb⟩
      obtain ⟨t1, t2, t3, t4, t5, t6⟩ := (bT.out.below hb).facts
      refine hK.out _ _ ⟨t1, t2, t3⟩ (fun _ => ?_)
      clear hK K
      try simp only [List.setIfInBounds_toArray, List.set_cons_zero, List.set_cons_succ]
      rw [← hF.out]
      exact Lx0x1x2x3 b42 W2 (Lib.hid (trn hB.out hb)) (Lib.hid (bT.out.below hb)) (Lib.hid (hXa.out _ _ hX.out hb)) (Lib.hid (r42.out.up hb))
    exact AllReadyH.nil
  have Lx0x1x3x4x5x7x9 : ∀ (b45 : Nat) (b49 : Nat) (W : World), Hid (Below w.heap.size w W) → Hid (B3 W (w.heap.size + 1) false ⟨#[49]⟩ ⟨#[51]⟩) → Hid (X W) → Hid (InRow W (some ⟨b45, 0, none⟩) [rq 1, rq 0]) → Hid (InRow W (some ⟨b49, 0, none⟩) [rq 5, rq (1 / 3)]) → F 8 #[true, true, false, true, true, true, false, true, true, true, false, false, false, false, false, false] ⟨#[c0, c1, .pointer (some ⟨w.heap.size + 1, 0, none⟩), c3, c4, c5, c6, c7, c8, c9, c10, c11, c12, c13, c14, c15, c16, c17, c18, c19, c20, c21, c22, c23, c24, c25, c26, c27, c28, c29, c30, c31, c32, c33, c34, c35, c36, c37, c38, c39, .agg #[.bool (rq 0).1, .string (rq 0).2.1, .string (rq 0).2.2], .agg #[.bool (rq 1).1, .string (rq 1).2.1, .string (rq 1).2.2], c42, .agg #[.bool (rq 1).1, .string (rq 1).2.1, .string (rq 1).2.2], .agg #[.bool (rq 0).1, .string (rq 0).2.1, .string (rq 0).2.2], .slice (some ⟨b45, 0, none⟩) 2 2, c46, .agg #[.bool (rq 5).1, .string (rq 5).2.1, .string (rq 5).2.2], .agg #[.bool false, .string ⟨#[49]⟩, .string ⟨#[51]⟩], .slice (some ⟨b49, 0, none⟩) 2 2, c50, c51, c52, c53, c54, c55, c56, c57, c58, c59, c60, c61, c62, c63, c64, c65, c66, c67, c68, c69, c70, c71, c72, c73, c74, c75, c76, c77, c78, c79, c80, c81, c82, c83, c84, c85, c86, c87, c88, c89, c90, c91, c92, c93, c94, c95, c96, c97, c98, c99, c100, c101, c102, c103, c104, c105, c106, c107, c108, c109, c110, c111, c112, c113, c114, c115, c116, c117, c118, c119], []⟩ W := by
    intro b45 b49 W hB bT hX r45 r49
    rw [hF.out]
    refine wpAnyH_ready (rs := [2]) (by kernel_rfl) (by simp) ?_
    refine AllReadyH.cons (o := _) rfl (fun K hK => ?_) ?_
    · go_simp
      obtain ⟨t1, t2, t3, t4, t5, t6⟩ := (bT.out.alloc (.cells #[.bool (rq 0).1, .string (rq 0).2.1, .string (rq 0).2.2, .bool (rq 1).1, .string (rq 1).2.1, .string (rq 1).2.2] 31)).facts
      refine hK.out _ _ ⟨t1, t2, t3⟩ (fun _ => ?_)
      clear hK K
      try simp only [List.setIfInBounds_toArray, List.set_cons_zero, List.set_cons_succ]
      rw [← hF.out]
      exact Lx0x1x2x3x4x5x7x9 W.heap.size b45 b49 _ (Lib.hid (bal hB.out (.cells #[.bool (rq 0).1, .string (rq 0).2.1, .string (rq 0).2.2, .bool (rq 1).1, .string (rq 1).2.1, .string (rq 1).2.2] 31))) (Lib.hid (bT.out.alloc (.cells #[.bool (rq 0).1, .string (rq 0).2.1, .string (rq 0).2.2, .bool (rq 1).1, .string (rq 1).2.1, .string (rq 1).2.2] 31))) (Lib.hid (hXa.out _ _ hX.out (one_below _ (.cells #[.bool (rq 0).1, .string (rq 0).2.1, .string (rq 0).2.2, .bool (rq 1).1, .string (rq 1).2.1, .string (rq 1).2.2] 31)))) (Lib.hid (inRow2 W rfl (rq 0) (rq 1))) (Lib.hid (r45.out.alloc (.cells #[.bool (rq 0).1, .string (rq 0).2.1, .string (rq 0).2.2, .bool (rq 1).1, .string (rq 1).2.1, .string (rq 1).2.2] 31))) (Lib.hid (r49.out.alloc (.cells #[.bool (rq 0).1, .string (rq 0).2.1, .string (rq 0).2.2, .bool (rq 1).1, .string (rq 1).2.1, .string (rq 1).2.2] 31)))
    exact AllReadyH.nil
  have Lx0x1x3x4x5x7 : ∀ (b45 : Nat) (W : World), Hid (Below w.heap.size w W) → Hid (B3 W (w.heap.size + 1) false ⟨#[49]⟩ ⟨#[51]⟩) → Hid (X W) → Hid (InRow W (some ⟨b45, 0, none⟩) [rq 1, rq 0]) → F 9 #[true, true, false, true, true, true, false, true, true, false, false, false, false, false, false, false] ⟨#[c0, c1, .pointer (some ⟨w.heap.size + 1, 0, none⟩), c3, c4, c5, c6, c7, c8, c9, c10, c11, c12, c13, c14, c15, c16, c17, c18, c19, c20, c21, c22, c23, c24, c25, c26, c27, c28, c29, c30, c31, c32, c33, c34, c35, c36, c37, c38, c39, .agg #[.bool (rq 0).1, .string (rq 0).2.1, .string (rq 0).2.2], .agg #[.bool (rq 1).1, .string (rq 1).2.1, .string (rq 1).2.2], c42, .agg #[.bool (rq 1).1, .string (rq 1).2.1, .string (rq 1).2.2], .agg #[.bool (rq 0).1, .string (rq 0).2.1, .string (rq 0).2.2], .slice (some ⟨b45, 0, none⟩) 2 2, c46, .agg #[.bool (rq 5).1, .string (rq 5).2.1, .string (rq 5).2.2], .agg #[.bool false, .string ⟨#[49]⟩, .string ⟨#[51]⟩], c49, c50, c51, c52, c53, c54, c55, c56, c57, c58, c59, c60, c61, c62, c63, c64, c65, c66, c67, c68, c69, c70, c71, c72, c73, c74, c75, c76, c77, c78, c79, c80, c81, c82, c83, c84, c85, c86, c87, c88, c89, c90, c91, c92, c93, c94, c95, c96, c97, c98, c99, c100, c101, c102, c103, c104, c105, c106, c107, c108, c109, c110, c111, c112, c113, c114, c115, c116, c117, c118, c119], []⟩ W := by
    intro b45 W hB bT hX r45
    rw [hF.out]
    refine wpAnyH_ready (rs := [2, 9]) (by kernel_rfl) (by simp) ?_
    refine AllReadyH.cons (o := _) rfl (fun K hK => ?_) ?_
    · go_simp
      obtain ⟨t1, t2, t3, t4, t5, t6⟩ := (bT.out.alloc (.cells #[.bool (rq 0).1, .string (rq 0).2.1, .string (rq 0).2.2, .bool (rq 1).1, .string (rq 1).2.1, .string (rq 1).2.2] 31)).facts
      refine hK.out _ _ ⟨t1, t2, t3⟩ (fun _ => ?_)
      clear hK K
      try simp only [List.setIfInBounds_toArray, List.set_cons_zero, List.set_cons_succ]
      rw [← hF.out]
      exact Lx0x1x2x3x4x5x7 W.heap.size b45 _ (Lib.hid (bal hB.out (.cells #[.bool (rq 0).1, .string (rq 0).2.1, .string (rq 0).2.2, .bool (rq 1).1, .string (rq 1).2.1, .string (rq 1).2.2] 31))) (Lib.hid (bT.out.alloc (.cells #[.bool (rq 0).1, .string (rq 0).2.1, .string (rq 0).2.2, .bool (rq 1).1, .string (rq 1).2.1, .string (rq 1).2.2] 31))) (Lib.hid (hXa.out _ _ hX.out (one_below _ (.cells #[.bool (rq 0).1, .string (rq 0).2.1, .string (rq 0).2.2, .bool (rq 1).1, .string (rq 1).2.1, .string (rq 1).2.2] 31)))) (Lib.hid (inRow2 W rfl (rq 0) (rq 1))) (Lib.hid (r45.out.alloc (.cells #[.bool (rq 0).1, .string (rq 0).2.1, .string (rq 0).2.2, .bool (rq 1).1, .string (rq 1).2.1, .string (rq 1).2.2] 31)))
    refine AllReadyH.cons (o := _) rfl (fun K hK => ?_) ?_
    · go_simp
      obtain ⟨t1, t2, t3, t4, t5, t6⟩ := (bT.out.alloc (.cells #[.bool (rq 5).1, .string (rq 5).2.1, .string (rq 5).2.2, .bool false, .string ⟨#[49]⟩, .string ⟨#[51]⟩] 31)).facts
      refine hK.out _ _ ⟨t1, t2, t3⟩ (fun _ => ?_)
      clear hK K
      try simp only [List.setIfInBounds_toArray, List.set_cons_zero, List.set_cons_succ]
      rw [← hF.out]
      exact Lx0x1x3x4x5x7x9 b45 W.heap.size _ (Lib.hid (bal hB.out (.cells #[.bool (rq 5).1, .string (rq 5).2.1, .string (rq 5).2.2, .bool false, .string ⟨#[49]⟩, .string ⟨#[51]⟩] 31))) (Lib.hid (bT.out.alloc (.cells #[.bool (rq 5).1, .string (rq 5).2.1, .string (rq 5).2.2, .bool false, .string ⟨#[49]⟩, .string ⟨#[51]⟩] 31))) (Lib.hid (hXa.out _ _ hX.out (one_below _ (.cells #[.bool (rq 5).1, .string (rq 5).2.1, .string (rq 5).2.2, .bool false, .string ⟨#[49]⟩, .string ⟨#[51]⟩] 31)))) (Lib.hid (r45.out.alloc (.cells #[.bool (rq 5).1, .string (rq 5).2.1, .string (rq 5).2.2, .bool false, .string ⟨#[49]⟩, .string ⟨#[51]⟩] 31))) (Lib.hid (by have h9 := inRow2 W rfl (rq 5) (false, ⟨#[49]⟩, ⟨#[51]⟩); rw [← rq_third] at h9; rw [rq_third]; rw [rq_third] at h9; exact h9))
    exact AllReadyH.nil
  have Lx0x1x3x4x5 : ∀ (b45 : Nat) (W : World), Hid (Below w.heap.size w W) → Hid (B3 W (w.heap.size + 1) false ⟨#[49]⟩ ⟨#[51]⟩) → Hid (X W) → Hid (InRow W (some ⟨b45, 0, none⟩) [rq 1, rq 0]) → F 10 #[true, true, false, true, true, true, false, false, true, false, false, false, false, false, false, false] ⟨#[c0, c1, .pointer (some ⟨w.heap.size + 1, 0, none⟩), c3, c4, c5, c6, c7, c8, c9, c10, c11, c12, c13, c14, c15, c16, c17, c18, c19, c20, c21, c22, c23, c24, c25, c26, c27, c28, c29, c30, c31, c32, c33, c34, c35, c36, c37, c38, c39, .agg #[.bool (rq 0).1, .string (rq 0).2.1, .string (rq 0).2.2], .agg #[.bool (rq 1).1, .string (rq 1).2.1, .string (rq 1).2.2], c42, .agg #[.bool (rq 1).1, .string (rq 1).2.1, .string (rq 1).2.2], .agg #[.bool (rq 0).1, .string (rq 0).2.1, .string (rq 0).2.2], .slice (some ⟨b45, 0, none⟩) 2 2, c46, c47, .agg #[.bool false, .string ⟨#[49]⟩, .string ⟨#[51]⟩], c49, c50, c51, c52, c53, c54, c55, c56, c57, c58, c59, c60, c61, c62, c63, c64, c65, c66, c67, c68, c69, c70, c71, c72, c73, c74, c75, c76, c77, c78, c79, c80, c81, c82, c83, c84, c85, c86, c87, c88, c89, c90, c91, c92, c93, c94, c95, c96, c97, c98, c99, c100, c101, c102, c103, c104, c105, c106, c107, c108, c109, c110, c111, c112, c113, c114, c115, c116, c117, c118, c119], []⟩ W := by
    intro b45 W hB bT hX r45
    rw [hF.out]
    refine wpAnyH_ready (rs := [2, 7]) (by kernel_rfl) (by simp) ?_
    refine AllReadyH.cons (o := _) rfl (fun K hK => ?_) ?_
    · go_simp
      obtain ⟨t1, t2, t3, t4, t5, t6⟩ := (bT.out.alloc (.cells #[.bool (rq 0).1, .string (rq 0).2.1, .string (rq 0).2.2, .bool (rq 1).1, .string (rq 1).2.1, .string (rq 1).2.2] 31)).facts
      refine hK.out _ _ ⟨t1, t2, t3⟩ (fun _ => ?_)
      clear hK K
      try simp only [List.setIfInBounds_toArray, List.set_cons_zero, List.set_cons_succ]
      rw [← hF.out]
      exact Lx0x1x2x3x4x5 W.heap.size b45 _ (Lib.hid (bal hB.out (.cells #[.bool (rq 0).1, .string (rq 0).2.1, .string (rq 0).2.2, .bool (rq 1).1, .string (rq 1).2.1, .string (rq 1).2.2] 31))) (Lib.hid (bT.out.alloc (.cells #[.bool (rq 0).1, .string (rq 0).2.1, .string (rq 0).2.2, .bool (rq 1).1, .string (rq 1).2.1, .string (rq 1).2.2] 31))) (Lib.hid (hXa.out _ _ hX.out (one_below _ (.cells #[.bool (rq 0).1, .string (rq 0).2.1, .string (rq 0).2.2, .bool (rq 1).1, .string (rq 1).2.1, .string (rq 1).2.2] 31)))) (Lib.hid (inRow2 W rfl (rq 0) (rq 1))) (Lib.hid (r45.out.alloc (.cells #[.bool (rq 0).1, .string (rq 0).2.1, .string (rq 0).2.2, .bool (rq 1).1, .string (rq 1).2.1, .string (rq 1).2.2] 31)))
    refine AllReadyH.cons (o := _) rfl (fun K hK => ?_) ?_
    · go_simp
      refine (ke.out _ (hE.out.below hB.out)).mono ?_
      rintro e W2 ⟨rfl, hb⟩
      obtain ⟨t1, t2, t3, t4, t5, t6⟩ := (bT.out.below hb).facts
      refine hK.out _ _ ⟨t1, t2, t3⟩ (fun _ => ?_)
      clear hK K
      try simp only [List.setIfInBounds_toArray, List.set_cons_zero, List.set_cons_succ]
      rw [← hF.out]
      exact Lx0x1x3x4x5x7 b45 W2 (Lib.hid (trn hB.out hb)) (Lib.hid (bT.out.below hb)) (Lib.hid (hXa.out _ _ hX.out hb)) (Lib.hid (r45.out.up hb))
    exact AllReadyH.nil
  have Lx0x1x3x4x7x9 : ∀ (b49 : Nat) (W : World), Hid (Below w.heap.size w W) → Hid (B3 W (w.heap.size + 1) false ⟨#[49]⟩ ⟨#[51]⟩) → Hid (X W) → Hid (InRow W (some ⟨b49, 0, none⟩) [rq 5, rq (1 / 3)]) → F 9 #[true, true, false, true, true, false, false, true, true, true, false, false, false, false, false, false] ⟨#[c0, c1, .pointer (some ⟨w.heap.size + 1, 0, none⟩), c3, c4, c5, c6, c7, c8, c9, c10, c11, c12, c13, c14, c15, c16, c17, c18, c19, c20, c21, c22, c23, c24, c25, c26, c27, c28, c29, c30, c31, c32, c33, c34, c35, c36, c37, c38, c39, .agg #[.bool (rq 0).1, .string (rq 0).2.1, .string (rq 0).2.2], .agg #[.bool (rq 1).1, .string (rq 1).2.1, .string (rq 1).2.2], c42, .agg #[.bool (rq 1).1, .string (rq 1).2.1, .string (rq 1).2.2], .agg #[.bool (rq 0).1, .string (rq 0).2.1, .string (rq 0).2.2], c45, c46, .agg #[.bool (rq 5).1, .string (rq 5).2.1, .string (rq 5).2.2], .agg #[.bool false, .string ⟨#[49]⟩, .string ⟨#[51]⟩], .slice (some ⟨b49, 0, none⟩) 2 2, c50, c51, c52, c53, c54, c55, c56, c57, c58, c59, c60, c61, c62, c63, c64, c65, c66, c67, c68, c69, c70, c71, c72, c73, c74, c75, c76, c77, c78, c79, c80, c81, c82, c83, c84, c85, c86, c87, c88, c89, c90, c91, c92, c93, c94, c95, c96, c97, c98, c99, c100, c101, c102, c103, c104, c105, c106, c107, c108, c109, c110, c111, c112, c113, c114, c115, c116, c117, c118, c119], []⟩ W := by
    intro b49 W hB bT hX r49
    rw [hF.out]
    refine wpAnyH_ready (rs := [2, 5]) (by kernel_rfl) (by simp) ?_
    refine AllReadyH.cons (o := _) rfl (fun K hK => ?_) ?_
    · go_simp
      obtain ⟨t1, t2, t3, t4, t5, t6⟩ := (bT.out.alloc (.cells #[.bool (rq 0).1, .string (rq 0).2.1, .string (rq 0).2.2, .bool (rq 1).1, .string (rq 1).2.1, .string (rq 1).2.2] 31)).facts
      refine hK.out _ _ ⟨t1, t2, t3⟩ (fun _ => ?_)
      clear hK K
      try simp only [List.setIfInBounds_toArray, List.set_cons_zero, List.set_cons_succ]
      rw [← hF.out]
      exact Lx0x1x2x3x4x7x9 W.heap.size b49 _ (Lib.hid (bal hB.out (.cells #[.bool (rq 0).1, .string (rq 0).2.1, .string (rq 0).2.2, .bool (rq 1).1, .string (rq 1).2.1, .string (rq 1).2.2] 31))) (Lib.hid (bT.out.alloc (.cells #[.bool (rq 0).1, .string (rq 0).2.1, .string (rq 0).2.2, .bool (rq 1).1, .string (rq 1).2.1, .string (rq 1).2.2] 31))) (Lib.hid (hXa.out _ _ hX.out (one_below _ (.cells #[.bool (rq 0).1, .string (rq 0).2.1, .string (rq 0).2.2, .bool (rq 1).1, .string (rq 1).2.1, .string (rq 1).2.2] 31)))) (Lib.hid (inRow2 W rfl (rq 0) (rq 1))) (Lib.hid (r49.out.alloc (.cells #[.bool (rq 0).1, .string (rq 0).2.1, .string (rq 0).2.2, .bool (rq 1).1, .string (rq 1).2.1, .string (rq 1).2.2] 31)))
    refine AllReadyH.cons (o := _) rfl (fun K hK => ?_) ?_
    · go_simp
      obtain ⟨t1, t2, t3, t4, t5, t6⟩ := (bT.out.alloc (.cells #[.bool (rq 1).1, .string (rq 1).2.1, .string (rq 1).2.2, .bool (rq 0).1, .string (rq 0).2.1, .string (rq 0).2.2] 31)).facts
      refine hK.out _ _ ⟨t1, t2, t3⟩ (fun _ => ?_)
      clear hK K
      try simp only [List.setIfInBounds_toArray, List.set_cons_zero, List.set_cons_succ]
      rw [← hF.out]
      exact Lx0x1x3x4x5x7x9 W.heap.size b49 _ (Lib.hid (bal hB.out (.cells #[.bool (rq 1).1, .string (rq 1).2.1, .string (rq 1).2.2, .bool (rq 0).1, .string (rq 0).2.1, .string (rq 0).2.2] 31))) (Lib.hid (bT.out.alloc (.cells #[.bool (rq 1).1, .string (rq 1).2.1, .string (rq 1).2.2, .bool (rq 0).1, .string (rq 0).2.1, .string (rq 0).2.2] 31))) (Lib.hid (hXa.out _ _ hX.out (one_below _ (.cells #[.bool (rq 1).1, .string (rq 1).2.1, .string (rq 1).2.2, .bool (rq 0).1, .string (rq 0).2.1, .string (rq 0).2.2] 31)))) (Lib.hid (inRow2 W rfl (rq 1) (rq 0))) (Lib.hid (r49.out.alloc (.cells #[.bool (rq 1).1, .string (rq 1).2.1, .string (rq 1).2.2, .bool (rq 0).1, .string (rq 0).2.1, .string (rq 0).2.2] 31)))
    exact AllReadyH.nil
  have Lx0x1x3x4x7 : ∀ (W : World), Hid (Below w.heap.size w W) → Hid (B3 W (w.heap.size + 1) false ⟨#[49]⟩ ⟨#[51]⟩) → Hid (X W) → F 10 #[true, true, false, true, true, false, false, true, true, false, false, false, false, false, false, false] ⟨#[c0, c1, .pointer (some ⟨w.heap.size + 1, 0, none⟩), c3, c4, c5, c6, c7, c8, c9, c10, c11, c12, c13, c14, c15, c16, c17, c18, c19, c20, c21, c22, c23, c24, c25, c26, c27, c28, c29, c30, c31, c32, c33, c34, c35, c36, c37, c38, c39, .agg #[.bool (rq 0).1, .string (rq 0).2.1, .string (rq 0).2.2], .agg #[.bool (rq 1).1, .string (rq 1).2.1, .string (rq 1).2.2], c42, .agg #[.bool (rq 1).1, .string (rq 1).2.1, .string (rq 1).2.2], .agg #[.bool (rq 0).1, .string (rq 0).2.1, .string (rq 0).2.2], c45, c46, .agg #[.bool (rq 5).1, .string (rq 5).2.1, .string (rq 5).2.2], .agg #[.bool false, .string ⟨#[49]⟩, .string ⟨#[51]⟩], c49, c50, c51, c52, c53, c54, c55, c56, c57, c58, c59, c60, c61, c62, c63, c64, c65, c66, c67, c68, c69, c70, c71, c72, c73, c74, c75, c76, c77, c78, c79, c80, c81, c82, c83, c84, c85, c86, c87, c88, c89, c90, c91, c92, c93, c94, c95, c96, c97, c98, c99, c100, c101, c102, c103, c104, c105, c106, c107, c108, c109, c110, c111, c112, c113, c114, c115, c116, c117, c118, c119], []⟩ W := by
    intro  W hB bT hX
    rw [hF.out]
    refine wpAnyH_ready (rs := [2, 5, 9]) (by kernel_rfl) (by simp) ?_
    refine AllReadyH.cons (o := _) rfl (fun K hK => ?_) ?_
    · go_simp
      obtain ⟨t1, t2, t3, t4, t5, t6⟩ := (bT.out.alloc (.cells #[.bool (rq 0).1, .string (rq 0).2.1, .string (rq 0).2.2, .bool (rq 1).1, .string (rq 1).2.1, .string (rq 1).2.2] 31)).facts
      refine hK.out _ _ ⟨t1, t2, t3⟩ (fun _ => ?_)
      clear hK K
      try simp only [List.setIfInBounds_toArray, List.set_cons_zero, List.set_cons_succ]
      rw [← hF.out]
      exact Lx0x1x2x3x4x7 W.heap.size _ (Lib.hid (bal hB.out (.cells #[.bool (rq 0).1, .string (rq 0).2.1, .string (rq 0).2.2, .bool (rq 1).1, .string (rq 1).2.1, .string (rq 1).2.2] 31))) (Lib.hid (bT.out.alloc (.cells #[.bool (rq 0).1, .string (rq 0).2.1, .string (rq 0).2.2, .bool (rq 1).1, .string (rq 1).2.1, .string (rq 1).2.2] 31))) (Lib.hid (hXa.out _ _ hX.out (one_below _ (.cells #[.bool (rq 0).1, .string (rq 0).2.1, .string (rq 0).2.2, .bool (rq 1).1, .string (rq 1).2.1, .string (rq 1).2.2] 31)))) (Lib.hid (inRow2 W rfl (rq 0) (rq 1)))
    refine AllReadyH.cons (o := _) rfl (fun K hK => ?_) ?_
    · go_simp
      obtain ⟨t1, t2, t3, t4, t5, t6⟩ := (bT.out.alloc (.cells #[.bool (rq 1).1, .string (rq 1).2.1, .string (rq 1).2.2, .bool (rq 0).1, .string (rq 0).2.1, .string (rq 0).2.2] 31)).facts
      refine hK.out _ _ ⟨t1, t2, t3⟩ (fun _ => ?_)
      clear hK K
      try simp only [List.setIfInBounds_toArray, List.set_cons_zero, List.set_cons_succ]
      rw [← hF.out]
      exact Lx0x1x3x4x5x7 W.heap.size _ (Lib.hid (bal hB.out (.cells #[.bool (rq 1).1, .string (rq 1).2.1, .string (rq 1).2.2, .bool (rq 0).1, .string (rq 0).2.1, .string (rq 0).2.2] 31))) (Lib.hid (bT.out.alloc (.cells #[.bool (rq 1).1, .string (rq 1).2.1, .string (rq 1).2.2, .bool (rq 0).1, .string (rq 0).2.1, .string (rq 0).2.2] 31))) (Lib.hid (hXa.out _ _ hX.out (one_below _ (.cells #[.bool (rq 1).1, .string (rq 1).2.1, .string (rq 1).2.2, .bool (rq 0).1, .string (rq 0).2.1, .string (rq 0).2.2] 31)))) (Lib.hid (inRow2 W rfl (rq 1) (rq 0)))
    refine AllReadyH.cons (o := _) rfl (fun K hK => ?_) ?_
    · go_simp
      obtain ⟨t1, t2, t3, t4, t5, t6⟩ := (bT.out.alloc (.cells #[.bool (rq 5).1, .string (rq 5).2.1, .string (rq 5).2.2, .bool false, .string ⟨#[49]⟩, .string ⟨#[51]⟩] 31)).facts
      refine hK.out _ _ ⟨t1, t2, t3⟩ (fun _ => ?_)
      clear hK K
      try simp only [List.setIfInBounds_toArray, List.set_cons_zero, List.set_cons_succ]
      rw [← hF.out]
      exact Lx0x1x3x4x7x9 W.heap.size _ (Lib.hid (bal hB.out (.cells #[.bool (rq 5).1, .string (rq 5).2.1, .string (rq 5).2.2, .bool false, .string ⟨#[49]⟩, .string ⟨#[51]⟩] 31))) (Lib.hid (bT.out.alloc (.cells #[.bool (rq 5).1, .string (rq 5).2.1, .string (rq 5).2.2, .bool false, .string ⟨#[49]⟩, .string ⟨#[51]⟩] 31))) (Lib.hid (hXa.out _ _ hX.out (one_below _ (.cells #[.bool (rq 5).1, .string (rq 5).2.1, .string (rq 5).2.2, .bool false, .string ⟨#[49]⟩, .string ⟨#[51]⟩] 31)))) (Lib.hid (by have h9 := inRow2 W rfl (rq 5) (false, ⟨#[49]⟩, ⟨#[51]⟩); rw [← rq_third] at h9; rw [rq_third]; rw [rq_third] at h9; exact h9))
    exact AllReadyH.nil
  have Lx0x1x3x4 : ∀ (W : World), Hid (Below w.heap.size w W) → Hid (B3 W (w.heap.size + 1) false ⟨#[49]⟩ ⟨#[51]⟩) → Hid (X W) → F 11 #[true, true, false, true, true, false, false, false, true, false, false, false, false, false, false, false] ⟨#[c0, c1, .pointer (some ⟨w.heap.size + 1, 0, none⟩), c3, c4, c5, c6, c7, c8, c9, c10, c11, c12, c13, c14, c15, c16, c17, c18, c19, c20, c21, c22, c23, c24, c25, c26, c27, c28, c29, c30, c31, c32, c33, c34, c35, c36, c37, c38, c39, .agg #[.bool (rq 0).1, .string (rq 0).2.1, .string (rq 0).2.2], .agg #[.bool (rq 1).1, .string (rq 1).2.1, .string (rq 1).2.2], c42, .agg #[.bool (rq 1).1, .string (rq 1).2.1, .string (rq 1).2.2], .agg #[.bool (rq 0).1, .string (rq 0).2.1, .string (rq 0).2.2], c45, c46, c47, .agg #[.bool false, .string ⟨#[49]⟩, .string ⟨#[51]⟩], c49, c50, c51, c52, c53, c54, c55, c56, c57, c58, c59, c60, c61, c62, c63, c64, c65, c66, c67, c68, c69, c70, c71, c72, c73, c74, c75, c76, c77, c78, c79, c80, c81, c82, c83, c84, c85, c86, c87, c88, c89, c90, c91, c92, c93, c94, c95, c96, c97, c98, c99, c100, c101, c102, c103, c104, c105, c106, c107, c108, c109, c110, c111, c112, c113, c114, c115, c116, c117, c118, c119], []⟩ W := by
    intro  W hB bT hX
    rw [hF.out]
    refine wpAnyH_ready (rs := [2, 5, 7]) (by kernel_rfl) (by simp) ?_
    refine AllReadyH.cons (o := _) rfl (fun K hK => ?_) ?_
    · go_simp
      obtain ⟨t1, t2, t3, t4, t5, t6⟩ := (bT.out.alloc (.cells #[.bool (rq 0).1, .string (rq 0).2.1, .string (rq 0).2.2, .bool (rq 1).1, .string (rq 1).2.1, .string (rq 1).2.2] 31)).facts
      refine hK.out _ _ ⟨t1, t2, t3⟩ (fun _ => ?_)
      clear hK K
      try simp only [List.setIfInBounds_toArray, List.set_cons_zero, List.set_cons_succ]
      rw [← hF.out]
      exact Lx0x1x2x3x4 W.heap.size _ (Lib.hid (bal hB.out (.cells #[.bool (rq 0).1, .string (rq 0).2.1, .string (rq 0).2.2, .bool (rq 1).1, .string (rq 1).2.1, .string (rq 1).2.2] 31))) (Lib.hid (bT.out.alloc (.cells #[.bool (rq 0).1, .string (rq 0).2.1, .string (rq 0).2.2, .bool (rq 1).1, .string (rq 1).2.1, .string (rq 1).2.2] 31))) (Lib.hid (hXa.out _ _ hX.out (one_below _ (.cells #[.bool (rq 0).1, .string (rq 0).2.1, .string (rq 0).2.2, .bool (rq 1).1, .string (rq 1).2.1, .string (rq 1).2.2] 31)))) (Lib.hid (inRow2 W rfl (rq 0) (rq 1)))
    refine AllReadyH.cons (o := _) rfl (fun K hK => ?_) ?_
    · go_simp
      obtain ⟨t1, t2, t3, t4, t5, t6⟩ := (bT.out.alloc (.cells #[.bool (rq 1).1, .string (rq 1).2.1, .string (rq 1).2.2, .bool (rq 0).1, .string (rq 0).2.1, .string (rq 0).2.2] 31)).facts
      refine hK.out _ _ ⟨t1, t2, t3⟩ (fun _ => ?_)
      clear hK K
      try simp only [List.setIfInBounds_toArray, List.set_cons_zero, List.set_cons_succ]
      rw [← hF.out]
      exact Lx0x1x3x4x5 W.heap.size _ (Lib.hid (bal hB.out (.cells #[.bool (rq 1).1, .string (rq 1).2.1, .string (rq 1).2.2, .bool (rq 0).1, .string (rq 0).2.1, .string (rq 0).2.2] 31))) (Lib.hid (bT.out.alloc (.cells #[.bool (rq 1).1, .string (rq 1).2.1, .string (rq 1).2.2, .bool (rq 0).1, .string (rq 0).2.1, .string (rq 0).2.2] 31))) (Lib.hid (hXa.out _ _ hX.out (one_below _ (.cells #[.bool (rq 1).1, .string (rq 1).2.1, .string (rq 1).2.2, .bool (rq 0).1, .string (rq 0).2.1, .string (rq 0).2.2] 31)))) (Lib.hid (inRow2 W rfl (rq 1) (rq 0)))
    refine AllReadyH.cons (o := _) rfl (fun K hK => ?_) ?_
    · go_simp
      refine (ke.out _ (hE.out.below hB.out)).mono ?_
      rintro e W2 ⟨rfl, hb⟩
      obtain ⟨t1, t2, t3, t4, t5, t6⟩ := (bT.out.below hb).facts
      refine hK.out _ _ ⟨t1, t2, t3⟩ (fun _ => ?_)
      clear hK K
      try simp only [List.setIfInBounds_toArray, List.set_cons_zero, List.set_cons_succ]
      rw [← hF.out]
      exact Lx0x1x3x4x7  W2 (Lib.hid (trn hB.out hb)) (Lib.hid (bT.out.below hb)) (Lib.hid (hXa.out _ _ hX.out hb))
    exact AllReadyH.nil
  have Lx0x1x3 : ∀ (W : World), Hid (Below w.heap.size w W) → Hid (B3 W (w.heap.size + 1) false ⟨#[49]⟩ ⟨#[51]⟩) → Hid (X W) → F 12 #[true, true, false, true, false, false, false, false, true, false, false, false, false, false, false, false] ⟨#[c0, c1, .pointer (some ⟨w.heap.size + 1, 0, none⟩), c3, c4, c5, c6, c7, c8, c9, c10, c11, c12, c13, c14, c15, c16, c17, c18, c19, c20, c21, c22, c23, c24, c25, c26, c27, c28, c29, c30, c31, c32, c33, c34, c35, c36, c37, c38, c39, .agg #[.bool (rq 0).1, .string (rq 0).2.1, .string (rq 0).2.2], .agg #[.bool (rq 1).1, .string (rq 1).2.1, .string (rq 1).2.2], c42, .agg #[.bool (rq 1).1, .string (rq 1).2.1, .string (rq 1).2.2], c44, c45, c46, c47, .agg #[.bool false, .string ⟨#[49]⟩, .string ⟨#[51]⟩], c49, c50, c51, c52, c53, c54, c55, c56, c57, c58, c59, c60, c61, c62, c63, c64, c65, c66, c67, c68, c69, c70, c71, c72, c73, c74, c75, c76, c77, c78, c79, c80, c81, c82, c83, c84, c85, c86, c87, c88, c89, c90, c91, c92, c93, c94, c95, c96, c97, c98, c99, c100, c101, c102, c103, c104, c105, c106, c107, c108, c109, c110, c111, c112, c113, c114, c115, c116, c117, c118, c119], []⟩ W := by
    intro  W hB bT hX
    rw [hF.out]
    refine wpAnyH_ready (rs := [2, 4]) (by kernel_rfl) (by simp) ?_
    refine AllReadyH.cons (o := _) rfl (fun K hK => ?_) ?_
    · go_simp
      obtain ⟨t1, t2, t3, t4, t5, t6⟩ := (bT.out.alloc (.cells #[.bool (rq 0).1, .string (rq 0).2.1, .string (rq 0).2.2, .bool (rq 1).1, .string (rq 1).2.1, .string (rq 1).2.2] 31)).facts
      refine hK.out _ _ ⟨t1, t2, t3⟩ (fun _ => ?_)
      clear hK K
      try simp only [List.setIfInBounds_toArray, List.set_cons_zero, List.set_cons_succ]
      rw [← hF.out]
      exact Lx0x1x2x3 W.heap.size _ (Lib.hid (bal hB.out (.cells #[.bool (rq 0).1, .string (rq 0).2.1, .string (rq 0).2.2, .bool (rq 1).1, .string (rq 1).2.1, .string (rq 1).2.2] 31))) (Lib.hid (bT.out.alloc (.cells #[.bool (rq 0).1, .string (rq 0).2.1, .string (rq 0).2.2, .bool (rq 1).1, .string (rq 1).2.1, .string (rq 1).2.2] 31))) (Lib.hid (hXa.out _ _ hX.out (one_below _ (.cells #[.bool (rq 0).1, .string (rq 0).2.1, .string (rq 0).2.2, .bool (rq 1).1, .string (rq 1).2.1, .string (rq 1).2.2] 31)))) (Lib.hid (inRow2 W rfl (rq 0) (rq 1)))
    refine AllReadyH.cons (o := _) rfl (fun K hK => ?_) ?_
    · go_simp
      refine (kz.out _ (hE.out.below hB.out)).mono ?_
      rintro e W2 ⟨rfl, hb⟩
      obtain ⟨t1, t2, t3, t4, t5, t6⟩ := (bT.out.below hb).facts
      refine hK.out _ _ ⟨t1, t2, t3⟩ (fun _ => ?_)
      clear hK K
      try simp only [List.setIfInBounds_toArray, List.set_cons_zero, List.set_cons_succ]
      rw [← hF.out]
      exact Lx0x1x3x4  W2 (Lib.hid (trn hB.out hb)) (Lib.hid (bT.out.below hb)) (Lib.hid (hXa.out _ _ hX.out hb))
    exact AllReadyH.nil
  have Lx0x1 : ∀ (W : World), Hid (Below w.heap.size w W) → Hid (B3 W (w.heap.size + 1) false ⟨#[49]⟩ ⟨#[51]⟩) → Hid (X W) → F 13 #[true, true, false, false, false, false, false, false, true, false, false, false, false, false, false, false] ⟨#[c0, c1, .pointer (some ⟨w.heap.size + 1, 0, none⟩), c3, c4, c5, c6, c7, c8, c9, c10, c11, c12, c13, c14, c15, c16, c17, c18, c19, c20, c21, c22, c23, c24, c25, c26, c27, c28, c29, c30, c31, c32, c33, c34, c35, c36, c37, c38, c39, .agg #[.bool (rq 0).1, .string (rq 0).2.1, .string (rq 0).2.2], .agg #[.bool (rq 1).1, .string (rq 1).2.1, .string (rq 1).2.2], c42, c43, c44, c45, c46, c47, .agg #[.bool false, .string ⟨#[49]⟩, .string ⟨#[51]⟩], c49, c50, c51, c52, c53, c54, c55, c56, c57, c58, c59, c60, c61, c62, c63, c64, c65, c66, c67, c68, c69, c70, c71, c72, c73, c74, c75, c76, c77, c78, c79, c80, c81, c82, c83, c84, c85, c86, c87, c88, c89, c90, c91, c92, c93, c94, c95, c96, c97, c98, c99, c100, c101, c102, c103, c104, c105, c106, c107, c108, c109, c110, c111, c112, c113, c114, c115, c116, c117, c118, c119], []⟩ W := by
    intro  W hB bT hX
    rw [hF.out]
    refine wpAnyH_ready (rs := [2, 3]) (by kernel_rfl) (by simp) ?_
    refine AllReadyH.cons (o := _) rfl (fun K hK => ?_) ?_
    · go_simp
      obtain ⟨t1, t2, t3, t4, t5, t6⟩ := (bT.out.alloc (.cells #[.bool (rq 0).1, .string (rq 0).2.1, .string (rq 0).2.2, .bool (rq 1).1, .string (rq 1).2.1, .string (rq 1).2.2] 31)).facts
      refine hK.out _ _ ⟨t1, t2, t3⟩ (fun _ => ?_)
      clear hK K
      try simp only [List.setIfInBounds_toArray, List.set_cons_zero, List.set_cons_succ]
      rw [← hF.out]
      exact Lx0x1x2 W.heap.size _ (Lib.hid (bal hB.out (.cells #[.bool (rq 0).1, .string (rq 0).2.1, .string (rq 0).2.2, .bool (rq 1).1, .string (rq 1).2.1, .string (rq 1).2.2] 31))) (Lib.hid (bT.out.alloc (.cells #[.bool (rq 0).1, .string (rq 0).2.1, .string (rq 0).2.2, .bool (rq 1).1, .string (rq 1).2.1, .string (rq 1).2.2] 31))) (Lib.hid (hXa.out _ _ hX.out (one_below _ (.cells #[.bool (rq 0).1, .string (rq 0).2.1, .string (rq 0).2.2, .bool (rq 1).1, .string (rq 1).2.1, .string (rq 1).2.2] 31)))) (Lib.hid (inRow2 W rfl (rq 0) (rq 1)))
    refine AllReadyH.cons (o := _) rfl (fun K hK => ?_) ?_
    · go_simp
      refine (ka.out _ (hE.out.below hB.out)).mono ?_
      rintro e W2 ⟨rfl, hb⟩
      obtain ⟨t1, t2, t3, t4, t5, t6⟩ := (bT.out.below hb).facts
      refine hK.out _ _ ⟨t1, t2, t3⟩ (fun _ => ?_)
      clear hK K
      try simp only [List.setIfInBounds_toArray, List.set_cons_zero, List.set_cons_succ]
      rw [← hF.out]
      exact Lx0x1x3  W2 (Lib.hid (trn hB.out hb)) (Lib.hid (bT.out.below hb)) (Lib.hid (hXa.out _ _ hX.out hb))
    exact AllReadyH.nil
  have Lx0 : ∀ (W : World), Hid (Below w.heap.size w W) → Hid (B3 W (w.heap.size + 1) false ⟨#[49]⟩ ⟨#[51]⟩) → Hid (X W) → F 14 #[true, false, false, false, false, false, false, false, true, false, false, false, false, false, false, false] ⟨#[c0, c1, .pointer (some ⟨w.heap.size + 1, 0, none⟩), c3, c4, c5, c6, c7, c8, c9, c10, c11, c12, c13, c14, c15, c16, c17, c18, c19, c20, c21, c22, c23, c24, c25, c26, c27, c28, c29, c30, c31, c32, c33, c34, c35, c36, c37, c38, c39, .agg #[.bool (rq 0).1, .string (rq 0).2.1, .string (rq 0).2.2], c41, c42, c43, c44, c45, c46, c47, .agg #[.bool false, .string ⟨#[49]⟩, .string ⟨#[51]⟩], c49, c50, c51, c52, c53, c54, c55, c56, c57, c58, c59, c60, c61, c62, c63, c64, c65, c66, c67, c68, c69, c70, c71, c72, c73, c74, c75, c76, c77, c78, c79, c80, c81, c82, c83, c84, c85, c86, c87, c88, c89, c90, c91, c92, c93, c94, c95, c96, c97, c98, c99, c100, c101, c102, c103, c104, c105, c106, c107, c108, c109, c110, c111, c112, c113, c114, c115, c116, c117, c118, c119], []⟩ W := by
    intro  W hB bT hX
    rw [hF.out]
    refine wpAnyH_ready (rs := [1]) (by kernel_rfl) (by simp) ?_
    refine AllReadyH.cons (o := _) rfl (fun K hK => ?_) ?_
    · go_simp
      refine (ka.out _ (hE.out.below hB.out)).mono ?_
      rintro e W2 ⟨rfl, hb⟩
      obtain ⟨t1, t2, t3, t4, t5, t6⟩ := (bT.out.below hb).facts
      refine hK.out _ _ ⟨t1, t2, t3⟩ (fun _ => ?_)
      clear hK K
      try simp only [List.setIfInBounds_toArray, List.set_cons_zero, List.set_cons_succ]
      rw [← hF.out]
      exact Lx0x1  W2 (Lib.hid (trn hB.out hb)) (Lib.hid (bT.out.below hb)) (Lib.hid (hXa.out _ _ hX.out hb))
    exact AllReadyH.nil
  have L : ∀ (W : World), Hid (Below w.heap.size w W) → Hid (B3 W (w.heap.size + 1) false ⟨#[49]⟩ ⟨#[51]⟩) → Hid (X W) → F 15 #[false, false, false, false, false, false, false, false, true, false, false, false, false, false, false, false] ⟨#[c0, c1, .pointer (some ⟨w.heap.size + 1, 0, none⟩), c3, c4, c5, c6, c7, c8, c9, c10, c11, c12, c13, c14, c15, c16, c17, c18, c19, c20, c21, c22, c23, c24, c25, c26, c27, c28, c29, c30, c31, c32, c33, c34, c35, c36, c37, c38, c39, c40, c41, c42, c43, c44, c45, c46, c47, .agg #[.bool false, .string ⟨#[49]⟩, .string ⟨#[51]⟩], c49, c50, c51, c52, c53, c54, c55, c56, c57, c58, c59, c60, c61, c62, c63, c64, c65, c66, c67, c68, c69, c70, c71, c72, c73, c74, c75, c76, c77, c78, c79, c80, c81, c82, c83, c84, c85, c86, c87, c88, c89, c90, c91, c92, c93, c94, c95, c96, c97, c98, c99, c100, c101, c102, c103, c104, c105, c106, c107, c108, c109, c110, c111, c112, c113, c114, c115, c116, c117, c118, c119], []⟩ W := by
    intro  W hB bT hX
    rw [hF.out]
    refine wpAnyH_ready (rs := [0]) (by kernel_rfl) (by simp) ?_
    refine AllReadyH.cons (o := _) rfl (fun K hK => ?_) ?_
    · go_simp
      refine (kz.out _ (hE.out.below hB.out)).mono ?_
      rintro e W2 ⟨rfl, hb⟩
      obtain ⟨t1, t2, t3, t4, t5, t6⟩ := (bT.out.below hb).facts
      refine hK.out _ _ ⟨t1, t2, t3⟩ (fun _ => ?_)
      clear hK K
      try simp only [List.setIfInBounds_toArray, List.set_cons_zero]
      rw [← hF.out]
      exact Lx0  W2 (Lib.hid (trn hB.out hb)) (Lib.hid (bT.out.below hb)) (Lib.hid (hXa.out _ _ hX.out hb))
    exact AllReadyH.nil
  exact L W0.drew hB9 bT9 hX9

end Nt
end Go.Proofs.YtjjlnahipiinfaaGreatDoor

namespace Go.Proofs.YtjjlnahipiinfaaGreatDoor
open Go.RowKit Go.Shelf
namespace Nt

noncomputable def reg8 : Code := ((Tryz.f10.body.map regsOf).bind fun l => l[8]?).getD .skip
set_option maxRecDepth 1000000 in
set_option maxHeartbeats 16000000 in
theorem reg8_any {c0 c9 c10 c11 c12 c13 c14 c15 c16 c17 c18 c19 c20 c21 c22 c23 c24 c25 c26 c27 c28 c29 c30 c31 c32 c33 c34 c35 c36 c37 c38 c39 c40 c41 c42 c43 c44 c45 c46 c47 c48 c49 c50 c51 c52 c53 c54 c55 c56 c57 c58 c59 c60 c61 c62 c63 c64 c65 c66 c67 c68 c69 c70 c71 c72 c73 c74 c75 c76 c77 c78 c79 c80 c81 c82 c83 c84 c85 c86 c87 c88 c89 c90 c91 c92 c93 c94 c95 c96 c97 c98 c99 c100 c101 c102 c103 c104 c105 c106 c107 c108 c109 c110 c111 c112 c113 c114 c115 c116 c117 c118 c119 : Value} {Q : Exit → Act → World → Prop} {p1 p2 p3 : Option Addr} {d1 d2 d3 : Nat} (w W0 : World) (hE : Env w) (hB : Below w.heap.size w W0) (bH : B3 W0 w.heap.size false ⟨#[49]⟩ ⟨#[50]⟩) (bT : B3 W0 (w.heap.size + 1) false ⟨#[49]⟩ ⟨#[51]⟩)
    (s1 : InRow W0 p1 [rq (1 / 2)]) (s2 : InRow W0 p2 [rq 2, rq 1]) (s3 : InRow W0 p3 [rq (1 / 3), rq 5])
    (h : ∀ (u71 u72 u73 u74 u75 u76 u77 u78 u79 u80 u81 u82 u83 u84 u85 u86 u87 u88 u89 u90 u91 u92 u93 u94 u95 u96 u97 u98 u99 u100 : Value) (W : World), Hid (Below w.heap.size w W) → Q .normal ⟨#[c0, .pointer (some ⟨w.heap.size, 0, none⟩), .pointer (some ⟨w.heap.size + 1, 0, none⟩), .slice p1 1 d1, .int .i64 0, .slice p2 2 d2, .int .i64 0, .slice p3 2 d3, .int .i64 0, c9, c10, c11, c12, .bool true, c14, c15, c16, c17, c18, c19, c20, c21, c22, c23, c24, c25, c26, c27, c28, c29, c30, c31, c32, c33, c34, c35, c36, c37, c38, c39, c40, c41, c42, c43, c44, c45, c46, c47, c48, c49, c50, c51, c52, c53, c54, c55, c56, c57, c58, c59, c60, c61, c62, c63, c64, c65, c66, c67, c68, c69, c70, u71, u72, u73, u74, u75, u76, u77, u78, u79, u80, u81, u82, u83, u84, u85, u86, u87, u88, u89, u90, u91, u92, u93, u94, u95, u96, u97, u98, u99, u100, c101, c102, c103, c104, c105, c106, c107, c108, c109, c110, c111, c112, c113, c114, c115, c116, c117, c118, c119], []⟩ W) :
    Code.wp Tryz.prog reg8 Q ⟨#[c0, .pointer (some ⟨w.heap.size, 0, none⟩), .pointer (some ⟨w.heap.size + 1, 0, none⟩), .slice p1 1 d1, .int .i64 0, .slice p2 2 d2, .int .i64 0, .slice p3 2 d3, .int .i64 0, c9, c10, c11, c12, c13, c14, c15, c16, c17, c18, c19, c20, c21, c22, c23, c24, c25, c26, c27, c28, c29, c30, c31, c32, c33, c34, c35, c36, c37, c38, c39, c40, c41, c42, c43, c44, c45, c46, c47, c48, c49, c50, c51, c52, c53, c54, c55, c56, c57, c58, c59, c60, c61, c62, c63, c64, c65, c66, c67, c68, c69, c70, c71, c72, c73, c74, c75, c76, c77, c78, c79, c80, c81, c82, c83, c84, c85, c86, c87, c88, c89, c90, c91, c92, c93, c94, c95, c96, c97, c98, c99, c100, c101, c102, c103, c104, c105, c106, c107, c108, c109, c110, c111, c112, c113, c114, c115, c116, c117, c118, c119], []⟩ W0 := by
  conv => arg 2; whnf
  conv => arg 4; zeta
  replace h := Lib.hid h
  replace hE := Lib.hid hE
  have ka := Lib.hid fun W (hW : Env W) => number_q (1) (1) (by decide +kernel) (by omega) (by omega) W hW
  have kb := Lib.hid fun W (hW : Env W) => number_q (2) (2) (by decide +kernel) (by omega) (by omega) W hW
  have ke := Lib.hid fun W (hW : Env W) => number_q (5) (5) (by decide +kernel) (by omega) (by omega) W hW
  replace hB := Lib.hid hB
  replace bH := Lib.hid bH
  replace bT := Lib.hid bT
  replace s1 := Lib.hid s1
  replace s2 := Lib.hid s2
  replace s3 := Lib.hid s3
  replace bH : Hid (B3 W0.drew w.heap.size false ⟨#[49]⟩ ⟨#[50]⟩) := bH.out
  replace bT : Hid (B3 W0.drew (w.heap.size + 1) false ⟨#[49]⟩ ⟨#[51]⟩) := bT.out
  replace s1 : Hid (InRow W0.drew p1 [rq (1 / 2)]) := s1.out
  replace s2 : Hid (InRow W0.drew p2 [rq 2, rq 1]) := s2.out
  replace s3 : Hid (InRow W0.drew p3 [rq (1 / 3), rq 5]) := s3.out
  replace hB : Hid (Below w.heap.size w W0.drew) := hB.out.drew
  obtain ⟨t1, t2, t3, t4, t5, t6⟩ := bH.out.facts
  obtain ⟨y1, y2, y3, y4, y5, y6⟩ := bT.out.facts
  refine wp_region_noPanic ?_
  refine wp_region_held_drew (S := (fun w' => (w'.cell? ⟨w.heap.size, 0, none⟩ = some (.bool false) ∧ w'.cell? ⟨w.heap.size, 1, none⟩ = some (.string ⟨#[49]⟩) ∧ w'.cell? ⟨w.heap.size, 2, none⟩ = some (.string ⟨#[50]⟩)) ∧ w'.cell? ⟨w.heap.size + 1, 0, none⟩ = some (.bool false) ∧ w'.cell? ⟨w.heap.size + 1, 1, none⟩ = some (.string ⟨#[49]⟩) ∧ w'.cell? ⟨w.heap.size + 1, 2, none⟩ = some (.string ⟨#[51]⟩))) (by kernel_rfl) ⟨⟨t1, t2, t3⟩, y1, y2, y3⟩ (fun hHeld => ?_)
  refine wpAnyH_ready (rs := [0]) (by kernel_rfl) (by simp) ?_
  refine AllReadyH.cons (o := _) rfl (fun K hK => ?_) AllReadyH.nil
  go_simp
  refine hK.out _ _ ⟨⟨t1, t2, t3⟩, y1, y2, y3⟩ (fun hHeld2 => ?_)
  clear hK K hHeld
  have hHeld := hHeld2
  clear hHeld2
  try simp only [Act.put, List.setIfInBounds_toArray, List.set_cons_zero, List.set_cons_succ]
  refine wpAnyH_ready (rs := [1]) (by kernel_rfl) (by simp) ?_
  refine AllReadyH.cons (o := _) rfl (fun K hK => ?_) AllReadyH.nil
  go_simp
  refine hK.out _ _ ⟨⟨t1, t2, t3⟩, y1, y2, y3⟩ (fun hHeld2 => ?_)
  clear hK K hHeld
  have hHeld := hHeld2
  clear hHeld2
  try simp only [Act.put, List.setIfInBounds_toArray, List.set_cons_zero, List.set_cons_succ]
  refine wpAnyH_ready (rs := [2]) (by kernel_rfl) (by simp) ?_
  refine AllReadyH.cons (o := _) rfl (fun K hK => ?_) AllReadyH.nil
  go_simp
  refine hK.out _ _ ⟨⟨t1, t2, t3⟩, y1, y2, y3⟩ (fun hHeld2 => ?_)
  clear hK K hHeld
  have hHeld := hHeld2
  clear hHeld2
  try simp only [Act.put, List.setIfInBounds_toArray, List.set_cons_zero, List.set_cons_succ]
  refine wpAnyH_take (i := 3) (oi := _) (v := ?_) rfl (by kernel_rfl) (by kernel_rfl) (by kernel_rfl) (fun _ _ _ h => h) (Or.inl ⟨by rfl, ?_⟩) (by assumption) ?_
  rotate_left
  · (intro w hSw; (try dsimp only at hSw); go_simp <;> with_reducible rfl)
  try simp only [Act.put, List.setIfInBounds_toArray]
  refine wpAnyH_ready (rs := [4]) (by kernel_rfl) (by simp) ?_
  refine AllReadyH.cons (o := _) rfl (fun K hK => ?_) AllReadyH.nil
  go_simp
  refine hK.out _ _ ⟨⟨t1, t2, t3⟩, y1, y2, y3⟩ (fun hHeld2 => ?_)
  clear hK K hHeld
  have hHeld := hHeld2
  clear hHeld2
  try simp only [Act.put, List.setIfInBounds_toArray, List.set_cons_zero, List.set_cons_succ]
  refine wpAnyH_ready (rs := [5]) (by kernel_rfl) (by simp) ?_
  refine AllReadyH.cons (o := _) rfl (fun K hK => ?_) AllReadyH.nil
  go_simp
  replace bH := Lib.hid (bH.out.alloc (.cells #[.bool false, .string ⟨#[49]⟩, .string ⟨#[50]⟩] 31))
  replace bT := Lib.hid (bT.out.alloc (.cells #[.bool false, .string ⟨#[49]⟩, .string ⟨#[50]⟩] 31))
  replace s1 := Lib.hid (s1.out.alloc (.cells #[.bool false, .string ⟨#[49]⟩, .string ⟨#[50]⟩] 31))
  replace s2 := Lib.hid (s2.out.alloc (.cells #[.bool false, .string ⟨#[49]⟩, .string ⟨#[50]⟩] 31))
  replace s3 := Lib.hid (s3.out.alloc (.cells #[.bool false, .string ⟨#[49]⟩, .string ⟨#[50]⟩] 31))
  replace hB := Lib.hid (bal hB.out (.cells #[.bool false, .string ⟨#[49]⟩, .string ⟨#[50]⟩] 31))
  have q1 : Hid (InRow (W0.drew.alloc (.cells #[.bool false, .string ⟨#[49]⟩, .string ⟨#[50]⟩] 31)) (some ⟨W0.heap.size, 0, none⟩) [(false, ⟨#[49]⟩, ⟨#[50]⟩)]) := inRow1 W0.drew (by simp) (false, ⟨#[49]⟩, ⟨#[50]⟩)
  clear t1 t2 t3 t4 t5 t6 y1 y2 y3 y4 y5 y6 hHeld
  obtain ⟨t1, t2, t3, t4, t5, t6⟩ := bH.out.facts
  obtain ⟨y1, y2, y3, y4, y5, y6⟩ := bT.out.facts
  refine hK.out _ _ ⟨⟨t1, t2, t3⟩, y1, y2, y3⟩ (fun hHeld => ?_)
  clear hK K
  try simp only [Act.put, List.setIfInBounds_toArray, List.set_cons_zero, List.set_cons_succ]
  refine wpAnyH_ready (rs := [6]) (by kernel_rfl) (by simp) ?_
  refine AllReadyH.cons (o := _) rfl (fun K hK => ?_) AllReadyH.nil
  go_simp
  have hq1 := q1.out
  rw [← rq_half] at hq1
  refine (Same_eq _ _ _ _ [rq (1 / 2)] _ s1.out hq1 (by simp)).mono ?_
  clear q1 hq1
  rintro e w1 ⟨rfl, hb⟩
  replace bH := Lib.hid (bH.out.below hb)
  replace bT := Lib.hid (bT.out.below hb)
  replace s1 := Lib.hid (s1.out.up hb)
  replace s2 := Lib.hid (s2.out.up hb)
  replace s3 := Lib.hid (s3.out.up hb)
  replace hB := Lib.hid (trn hB.out hb)
  clear hb
  clear t1 t2 t3 t4 t5 t6 y1 y2 y3 y4 y5 y6 hHeld
  obtain ⟨t1, t2, t3, t4, t5, t6⟩ := bH.out.facts
  obtain ⟨y1, y2, y3, y4, y5, y6⟩ := bT.out.facts
  refine hK.out _ _ ⟨⟨t1, t2, t3⟩, y1, y2, y3⟩ (fun hHeld => ?_)
  clear hK K
  try simp only [Act.put, List.setIfInBounds_toArray, List.set_cons_zero, List.set_cons_succ]
  refine wpAnyH_ready (rs := [7]) (by kernel_rfl) (by simp) ?_
  refine AllReadyH.cons (o := _) rfl (fun K hK => ?_) AllReadyH.nil
  go_simp
  refine hK.out _ _ ⟨⟨t1, t2, t3⟩, y1, y2, y3⟩ (fun hHeld2 => ?_)
  clear hK K hHeld
  have hHeld := hHeld2
  clear hHeld2
  try simp only [Act.put, List.setIfInBounds_toArray, List.set_cons_zero, List.set_cons_succ]
  refine wpAnyH_ready (rs := [8]) (by kernel_rfl) (by simp) ?_
  refine AllReadyH.cons (o := _) rfl (fun K hK => ?_) AllReadyH.nil
  go_simp
  refine hK.out _ _ ⟨⟨t1, t2, t3⟩, y1, y2, y3⟩ (fun hHeld2 => ?_)
  clear hK K hHeld
  have hHeld := hHeld2
  clear hHeld2
  try simp only [Act.put, List.setIfInBounds_toArray, List.set_cons_zero, List.set_cons_succ]
  refine wpAnyH_ready (rs := [9]) (by kernel_rfl) (by simp) ?_
  refine AllReadyH.cons (o := _) rfl (fun K hK => ?_) AllReadyH.nil
  go_simp
  refine hK.out _ _ ⟨⟨t1, t2, t3⟩, y1, y2, y3⟩ (fun hHeld2 => ?_)
  clear hK K hHeld
  have hHeld := hHeld2
  clear hHeld2
  try simp only [Act.put, List.setIfInBounds_toArray, List.set_cons_zero, List.set_cons_succ]
  refine wpAnyH_ready (rs := [10]) (by kernel_rfl) (by simp) ?_
  refine AllReadyH.cons (o := _) rfl (fun K hK => ?_) AllReadyH.nil
  go_simp
  refine hK.out _ _ ⟨⟨t1, t2, t3⟩, y1, y2, y3⟩ (fun hHeld2 => ?_)
  clear hK K hHeld
  have hHeld := hHeld2
  clear hHeld2
  try simp only [Act.put, List.setIfInBounds_toArray, List.set_cons_zero, List.set_cons_succ]
  refine wpAnyH_ready (rs := [11]) (by kernel_rfl) (by simp) ?_
  refine AllReadyH.cons (o := _) rfl (fun K hK => ?_) AllReadyH.nil
  go_simp
  refine hK.out _ _ ⟨⟨t1, t2, t3⟩, y1, y2, y3⟩ (fun hHeld2 => ?_)
  clear hK K hHeld
  have hHeld := hHeld2
  clear hHeld2
  try simp only [Act.put, List.setIfInBounds_toArray, List.set_cons_zero, List.set_cons_succ]
  refine wpAnyH_ready (rs := [12]) (by kernel_rfl) (by simp) ?_
  refine AllReadyH.cons (o := _) rfl (fun K hK => ?_) AllReadyH.nil
  go_simp
  refine hK.out _ _ ⟨⟨t1, t2, t3⟩, y1, y2, y3⟩ (fun hHeld2 => ?_)
  clear hK K hHeld
  have hHeld := hHeld2
  clear hHeld2
  try simp only [Act.put, List.setIfInBounds_toArray, List.set_cons_zero, List.set_cons_succ]
  refine wpAnyH_take (i := 13) (oi := _) (v := ?_) rfl (by kernel_rfl) (by kernel_rfl) (by kernel_rfl) (fun _ _ _ h => h) (Or.inl ⟨by rfl, ?_⟩) (by assumption) ?_
  rotate_left
  · (intro w hSw; (try dsimp only at hSw); go_simp <;> with_reducible rfl)
  try simp only [Act.put, List.setIfInBounds_toArray]
  refine wpAnyH_ready (rs := [14]) (by kernel_rfl) (by simp) ?_
  refine AllReadyH.cons (o := _) rfl (fun K hK => ?_) AllReadyH.nil
  go_simp
  refine (kb.out _ (hE.out.below hB.out)).mono ?_
  rintro e w2 ⟨rfl, hb⟩
  replace bH := Lib.hid (bH.out.below hb)
  replace bT := Lib.hid (bT.out.below hb)
  replace s1 := Lib.hid (s1.out.up hb)
  replace s2 := Lib.hid (s2.out.up hb)
  replace s3 := Lib.hid (s3.out.up hb)
  replace hB := Lib.hid (trn hB.out hb)
  clear hb
  clear t1 t2 t3 t4 t5 t6 y1 y2 y3 y4 y5 y6 hHeld
  obtain ⟨t1, t2, t3, t4, t5, t6⟩ := bH.out.facts
  obtain ⟨y1, y2, y3, y4, y5, y6⟩ := bT.out.facts
  refine hK.out _ _ ⟨⟨t1, t2, t3⟩, y1, y2, y3⟩ (fun hHeld => ?_)
  clear hK K
  try simp only [Act.put, List.setIfInBounds_toArray, List.set_cons_zero, List.set_cons_succ]
  refine wpAnyH_ready (rs := [15]) (by kernel_rfl) (by simp) ?_
  refine AllReadyH.cons (o := _) rfl (fun K hK => ?_) AllReadyH.nil
  go_simp
  refine (ka.out _ (hE.out.below hB.out)).mono ?_
  rintro e w3 ⟨rfl, hb⟩
  replace bH := Lib.hid (bH.out.below hb)
  replace bT := Lib.hid (bT.out.below hb)
  replace s1 := Lib.hid (s1.out.up hb)
  replace s2 := Lib.hid (s2.out.up hb)
  replace s3 := Lib.hid (s3.out.up hb)
  replace hB := Lib.hid (trn hB.out hb)
  clear hb
  clear t1 t2 t3 t4 t5 t6 y1 y2 y3 y4 y5 y6 hHeld
  obtain ⟨t1, t2, t3, t4, t5, t6⟩ := bH.out.facts
  obtain ⟨y1, y2, y3, y4, y5, y6⟩ := bT.out.facts
  refine hK.out _ _ ⟨⟨t1, t2, t3⟩, y1, y2, y3⟩ (fun hHeld => ?_)
  clear hK K
  try simp only [Act.put, List.setIfInBounds_toArray, List.set_cons_zero, List.set_cons_succ]
  refine wpAnyH_ready (rs := [16]) (by kernel_rfl) (by simp) ?_
  refine AllReadyH.cons (o := _) rfl (fun K hK => ?_) AllReadyH.nil
  go_simp
  replace bH := Lib.hid (bH.out.alloc (.cells #[.bool (rq 2).1, .string (rq 2).2.1, .string (rq 2).2.2, .bool (rq 1).1, .string (rq 1).2.1, .string (rq 1).2.2] 31))
  replace bT := Lib.hid (bT.out.alloc (.cells #[.bool (rq 2).1, .string (rq 2).2.1, .string (rq 2).2.2, .bool (rq 1).1, .string (rq 1).2.1, .string (rq 1).2.2] 31))
  replace s1 := Lib.hid (s1.out.alloc (.cells #[.bool (rq 2).1, .string (rq 2).2.1, .string (rq 2).2.2, .bool (rq 1).1, .string (rq 1).2.1, .string (rq 1).2.2] 31))
  replace s2 := Lib.hid (s2.out.alloc (.cells #[.bool (rq 2).1, .string (rq 2).2.1, .string (rq 2).2.2, .bool (rq 1).1, .string (rq 1).2.1, .string (rq 1).2.2] 31))
  replace s3 := Lib.hid (s3.out.alloc (.cells #[.bool (rq 2).1, .string (rq 2).2.1, .string (rq 2).2.2, .bool (rq 1).1, .string (rq 1).2.1, .string (rq 1).2.2] 31))
  replace hB := Lib.hid (bal hB.out (.cells #[.bool (rq 2).1, .string (rq 2).2.1, .string (rq 2).2.2, .bool (rq 1).1, .string (rq 1).2.1, .string (rq 1).2.2] 31))
  have q1 : Hid (InRow (w3.alloc (.cells #[.bool (rq 2).1, .string (rq 2).2.1, .string (rq 2).2.2, .bool (rq 1).1, .string (rq 1).2.1, .string (rq 1).2.2] 31)) (some ⟨w3.heap.size, 0, none⟩) [(rq 2), (rq 1)]) := inRow2 w3 (by simp) (rq 2) (rq 1)
  clear t1 t2 t3 t4 t5 t6 y1 y2 y3 y4 y5 y6 hHeld
  obtain ⟨t1, t2, t3, t4, t5, t6⟩ := bH.out.facts
  obtain ⟨y1, y2, y3, y4, y5, y6⟩ := bT.out.facts
  refine hK.out _ _ ⟨⟨t1, t2, t3⟩, y1, y2, y3⟩ (fun hHeld => ?_)
  clear hK K
  try simp only [Act.put, List.setIfInBounds_toArray, List.set_cons_zero, List.set_cons_succ]
  refine wpAnyH_ready (rs := [17]) (by kernel_rfl) (by simp) ?_
  refine AllReadyH.cons (o := _) rfl (fun K hK => ?_) AllReadyH.nil
  go_simp
  have hq1 := q1.out
  refine (Same_eq _ _ _ _ [rq 2, rq 1] _ s2.out hq1 (by simp)).mono ?_
  clear q1 hq1
  rintro e w4 ⟨rfl, hb⟩
  replace bH := Lib.hid (bH.out.below hb)
  replace bT := Lib.hid (bT.out.below hb)
  replace s1 := Lib.hid (s1.out.up hb)
  replace s2 := Lib.hid (s2.out.up hb)
  replace s3 := Lib.hid (s3.out.up hb)
  replace hB := Lib.hid (trn hB.out hb)
  clear hb
  clear t1 t2 t3 t4 t5 t6 y1 y2 y3 y4 y5 y6 hHeld
  obtain ⟨t1, t2, t3, t4, t5, t6⟩ := bH.out.facts
  obtain ⟨y1, y2, y3, y4, y5, y6⟩ := bT.out.facts
  refine hK.out _ _ ⟨⟨t1, t2, t3⟩, y1, y2, y3⟩ (fun hHeld => ?_)
  clear hK K
  try simp only [Act.put, List.setIfInBounds_toArray, List.set_cons_zero, List.set_cons_succ]
  refine wpAnyH_ready (rs := [18]) (by kernel_rfl) (by simp) ?_
  refine AllReadyH.cons (o := _) rfl (fun K hK => ?_) AllReadyH.nil
  go_simp
  refine hK.out _ _ ⟨⟨t1, t2, t3⟩, y1, y2, y3⟩ (fun hHeld2 => ?_)
  clear hK K hHeld
  have hHeld := hHeld2
  clear hHeld2
  try simp only [Act.put, List.setIfInBounds_toArray, List.set_cons_zero, List.set_cons_succ]
  refine wpAnyH_ready (rs := [19]) (by kernel_rfl) (by simp) ?_
  refine AllReadyH.cons (o := _) rfl (fun K hK => ?_) AllReadyH.nil
  go_simp
  refine hK.out _ _ ⟨⟨t1, t2, t3⟩, y1, y2, y3⟩ (fun hHeld2 => ?_)
  clear hK K hHeld
  have hHeld := hHeld2
  clear hHeld2
  try simp only [Act.put, List.setIfInBounds_toArray, List.set_cons_zero, List.set_cons_succ]
  refine wpAnyH_ready (rs := [20]) (by kernel_rfl) (by simp) ?_
  refine AllReadyH.cons (o := _) rfl (fun K hK => ?_) AllReadyH.nil
  go_simp
  refine hK.out _ _ ⟨⟨t1, t2, t3⟩, y1, y2, y3⟩ (fun hHeld2 => ?_)
  clear hK K hHeld
  have hHeld := hHeld2
  clear hHeld2
  try simp only [Act.put, List.setIfInBounds_toArray, List.set_cons_zero, List.set_cons_succ]
  refine wpAnyH_ready (rs := [21]) (by kernel_rfl) (by simp) ?_
  refine AllReadyH.cons (o := _) rfl (fun K hK => ?_) AllReadyH.nil
  go_simp
  refine hK.out _ _ ⟨⟨t1, t2, t3⟩, y1, y2, y3⟩ (fun hHeld2 => ?_)
  clear hK K hHeld
  have hHeld := hHeld2
  clear hHeld2
  try simp only [Act.put, List.setIfInBounds_toArray, List.set_cons_zero, List.set_cons_succ]
  refine wpAnyH_ready (rs := [22]) (by kernel_rfl) (by simp) ?_
  refine AllReadyH.cons (o := _) rfl (fun K hK => ?_) AllReadyH.nil
  go_simp
  refine hK.out _ _ ⟨⟨t1, t2, t3⟩, y1, y2, y3⟩ (fun hHeld2 => ?_)
  clear hK K hHeld
  have hHeld := hHeld2
  clear hHeld2
  try simp only [Act.put, List.setIfInBounds_toArray, List.set_cons_zero, List.set_cons_succ]
  refine wpAnyH_ready (rs := [23]) (by kernel_rfl) (by simp) ?_
  refine AllReadyH.cons (o := _) rfl (fun K hK => ?_) AllReadyH.nil
  go_simp
  refine hK.out _ _ ⟨⟨t1, t2, t3⟩, y1, y2, y3⟩ (fun hHeld2 => ?_)
  clear hK K hHeld
  have hHeld := hHeld2
  clear hHeld2
  try simp only [Act.put, List.setIfInBounds_toArray, List.set_cons_zero, List.set_cons_succ]
  refine wpAnyH_take (i := 24) (oi := _) (v := ?_) rfl (by kernel_rfl) (by kernel_rfl) (by kernel_rfl) (fun _ _ _ h => h) (Or.inl ⟨by rfl, ?_⟩) (by assumption) ?_
  rotate_left
  · (intro w hSw; (try dsimp only at hSw); go_simp <;> with_reducible rfl)
  try simp only [Act.put, List.setIfInBounds_toArray]
  refine wpAnyH_take (i := 25) (oi := _) (v := ?_) rfl (by kernel_rfl) (by kernel_rfl) (by kernel_rfl) (fun _ _ _ h => h) (Or.inl ⟨by rfl, ?_⟩) (by assumption) ?_
  rotate_left
  · (intro w hSw; (try dsimp only at hSw); go_simp <;> with_reducible rfl)
  try simp only [Act.put]
  refine wpAnyH_ready (rs := [26]) (by kernel_rfl) (by simp) ?_
  refine AllReadyH.cons (o := _) rfl (fun K hK => ?_) AllReadyH.nil
  go_simp
  refine (ke.out _ (hE.out.below hB.out)).mono ?_
  rintro e w5 ⟨rfl, hb⟩
  replace bH := Lib.hid (bH.out.below hb)
  replace bT := Lib.hid (bT.out.below hb)
  replace s1 := Lib.hid (s1.out.up hb)
  replace s2 := Lib.hid (s2.out.up hb)
  replace s3 := Lib.hid (s3.out.up hb)
  replace hB := Lib.hid (trn hB.out hb)
  clear hb
  clear t1 t2 t3 t4 t5 t6 y1 y2 y3 y4 y5 y6 hHeld
  obtain ⟨t1, t2, t3, t4, t5, t6⟩ := bH.out.facts
  obtain ⟨y1, y2, y3, y4, y5, y6⟩ := bT.out.facts
  refine hK.out _ _ ⟨⟨t1, t2, t3⟩, y1, y2, y3⟩ (fun hHeld => ?_)
  clear hK K
  try simp only [Act.put, List.setIfInBounds_toArray, List.set_cons_zero, List.set_cons_succ]
  refine wpAnyH_ready (rs := [27]) (by kernel_rfl) (by simp) ?_
  refine AllReadyH.cons (o := _) rfl (fun K hK => ?_) AllReadyH.nil
  go_simp
  replace bH := Lib.hid (bH.out.alloc (.cells #[.bool false, .string ⟨#[49]⟩, .string ⟨#[51]⟩, .bool (rq 5).1, .string (rq 5).2.1, .string (rq 5).2.2] 31))
  replace bT := Lib.hid (bT.out.alloc (.cells #[.bool false, .string ⟨#[49]⟩, .string ⟨#[51]⟩, .bool (rq 5).1, .string (rq 5).2.1, .string (rq 5).2.2] 31))
  replace s1 := Lib.hid (s1.out.alloc (.cells #[.bool false, .string ⟨#[49]⟩, .string ⟨#[51]⟩, .bool (rq 5).1, .string (rq 5).2.1, .string (rq 5).2.2] 31))
  replace s2 := Lib.hid (s2.out.alloc (.cells #[.bool false, .string ⟨#[49]⟩, .string ⟨#[51]⟩, .bool (rq 5).1, .string (rq 5).2.1, .string (rq 5).2.2] 31))
  replace s3 := Lib.hid (s3.out.alloc (.cells #[.bool false, .string ⟨#[49]⟩, .string ⟨#[51]⟩, .bool (rq 5).1, .string (rq 5).2.1, .string (rq 5).2.2] 31))
  replace hB := Lib.hid (bal hB.out (.cells #[.bool false, .string ⟨#[49]⟩, .string ⟨#[51]⟩, .bool (rq 5).1, .string (rq 5).2.1, .string (rq 5).2.2] 31))
  have q1 : Hid (InRow (w5.alloc (.cells #[.bool false, .string ⟨#[49]⟩, .string ⟨#[51]⟩, .bool (rq 5).1, .string (rq 5).2.1, .string (rq 5).2.2] 31)) (some ⟨w5.heap.size, 0, none⟩) [(false, ⟨#[49]⟩, ⟨#[51]⟩), (rq 5)]) := inRow2 w5 (by simp) (false, ⟨#[49]⟩, ⟨#[51]⟩) (rq 5)
  clear t1 t2 t3 t4 t5 t6 y1 y2 y3 y4 y5 y6 hHeld
  obtain ⟨t1, t2, t3, t4, t5, t6⟩ := bH.out.facts
  obtain ⟨y1, y2, y3, y4, y5, y6⟩ := bT.out.facts
  refine hK.out _ _ ⟨⟨t1, t2, t3⟩, y1, y2, y3⟩ (fun hHeld => ?_)
  clear hK K
  try simp only [Act.put, List.setIfInBounds_toArray, List.set_cons_zero, List.set_cons_succ]
  refine wpAnyH_ready (rs := [28]) (by kernel_rfl) (by simp) ?_
  refine AllReadyH.cons (o := _) rfl (fun K hK => ?_) AllReadyH.nil
  go_simp
  have hq1 := q1.out
  rw [← rq_third] at hq1
  refine (Same_eq _ _ _ _ [rq (1 / 3), rq 5] _ s3.out hq1 (by simp)).mono ?_
  clear q1 hq1
  rintro e w6 ⟨rfl, hb⟩
  replace bH := Lib.hid (bH.out.below hb)
  replace bT := Lib.hid (bT.out.below hb)
  replace s1 := Lib.hid (s1.out.up hb)
  replace s2 := Lib.hid (s2.out.up hb)
  replace s3 := Lib.hid (s3.out.up hb)
  replace hB := Lib.hid (trn hB.out hb)
  clear hb
  clear t1 t2 t3 t4 t5 t6 y1 y2 y3 y4 y5 y6 hHeld
  obtain ⟨t1, t2, t3, t4, t5, t6⟩ := bH.out.facts
  obtain ⟨y1, y2, y3, y4, y5, y6⟩ := bT.out.facts
  refine hK.out _ _ ⟨⟨t1, t2, t3⟩, y1, y2, y3⟩ (fun hHeld => ?_)
  clear hK K
  try simp only [Act.put, List.setIfInBounds_toArray, List.set_cons_zero, List.set_cons_succ]
  refine wpAnyH_ready (rs := [29]) (by kernel_rfl) (by simp) ?_
  refine AllReadyH.cons (o := _) rfl (fun K hK => ?_) AllReadyH.nil
  go_simp
  refine hK.out _ _ ⟨⟨t1, t2, t3⟩, y1, y2, y3⟩ (fun hHeld2 => ?_)
  clear hK K hHeld
  have hHeld := hHeld2
  clear hHeld2
  try simp only [Act.put, List.setIfInBounds_toArray, List.set_cons_zero, List.set_cons_succ]
  refine wpAnyH_ready (rs := [30]) (by kernel_rfl) (by simp) ?_
  refine AllReadyH.cons (o := _) rfl (fun K hK => ?_) AllReadyH.nil
  go_simp
  refine hK.out _ _ ⟨⟨t1, t2, t3⟩, y1, y2, y3⟩ (fun hHeld2 => ?_)
  clear hK K hHeld
  have hHeld := hHeld2
  clear hHeld2
  try simp only [Act.put, List.setIfInBounds_toArray, List.set_cons_zero, List.set_cons_succ]
  refine wpAnyH_done (by kernel_rfl) ?_ _
  refine NoPanic.normal ?_
  exact h.out _ _ _ _ _ _ _ _ _ _ _ _ _ _ _ _ _ _ _ _ _ _ _ _ _ _ _ _ _ _ _ hB

set_option maxRecDepth 100000 in
set_option maxHeartbeats 8000000 in
theorem head_any : HeadC := by
  intro w hE
  have kz := Lib.hid fun W (hW : Env W) => number_q (0) (0) (by decide +kernel) (by omega) (by omega) W hW
  have ka := Lib.hid fun W (hW : Env W) => number_q (1) (1) (by decide +kernel) (by omega) (by omega) W hW
  have km := Lib.hid fun W (hW : Env W) => number_q (-1) (-1) (by decide +kernel) (by omega) (by omega) W hW
  have kb := Lib.hid fun W (hW : Env W) => number_q (2) (2) (by decide +kernel) (by omega) (by omega) W hW
  have kc := Lib.hid fun W (hW : Env W) => number_q (3) (3) (by decide +kernel) (by omega) (by omega) W hW
  have ke := Lib.hid fun W (hW : Env W) => number_q (5) (5) (by decide +kernel) (by omega) (by omega) W hW
  have kf := Lib.hid fun W (hW : Env W) => number_q (6) (6) (by decide +kernel) (by omega) (by omega) W hW
  replace hE := Lib.hid hE
  have hB := Lib.hid (Below.refl w.heap.size w)
  replace hB := Lib.hid (bal (bal hB.out (.cells #[.bool false, .string ⟨#[49]⟩, .string ⟨#[50]⟩] 31)) (.cells #[.bool false, .string ⟨#[49]⟩, .string ⟨#[51]⟩] 31))
  have bH : Hid (B3 ((w.alloc (.cells #[.bool false, .string ⟨#[49]⟩, .string ⟨#[50]⟩] 31)).alloc (.cells #[.bool false, .string ⟨#[49]⟩, .string ⟨#[51]⟩] 31)) w.heap.size false ⟨#[49]⟩ ⟨#[50]⟩) := (B3.new w _ _ _).alloc _
  have bT : Hid (B3 ((w.alloc (.cells #[.bool false, .string ⟨#[49]⟩, .string ⟨#[50]⟩] 31)).alloc (.cells #[.bool false, .string ⟨#[49]⟩, .string ⟨#[51]⟩] 31)) (w.heap.size + 1) false ⟨#[49]⟩ ⟨#[51]⟩) := by
    have h := B3.new (w.alloc (.cells #[.bool false, .string ⟨#[49]⟩, .string ⟨#[50]⟩] 31)) false ⟨#[49]⟩ ⟨#[51]⟩
    rwa [show (w.alloc (.cells #[.bool false, .string ⟨#[49]⟩, .string ⟨#[50]⟩] 31)).heap.size = w.heap.size + 1 by simp] at h
  go_enter Tryz.func10, Tryz.ntmps10
  go_wp2_with fail
  refine (kb.out _ (hE.out.below hB.out)).mono ?_
  rintro e w1 ⟨rfl, hb⟩
  replace bH := Lib.hid (bH.out.below hb)
  replace bT := Lib.hid (bT.out.below hb)
  replace hB := Lib.hid (trn hB.out hb)
  clear hb
  replace bH := Lib.hid (bH.out.alloc (.cells #[.bool (rq 2).1, .string (rq 2).2.1, .string (rq 2).2.2] 31))
  replace bT := Lib.hid (bT.out.alloc (.cells #[.bool (rq 2).1, .string (rq 2).2.1, .string (rq 2).2.2] 31))
  replace hB := Lib.hid (bal hB.out (.cells #[.bool (rq 2).1, .string (rq 2).2.1, .string (rq 2).2.2] 31))
  have r1 : Hid (InRow (w1.alloc (.cells #[.bool (rq 2).1, .string (rq 2).2.1, .string (rq 2).2.2] 31)) (some ⟨w1.heap.size, 0, none⟩) [(rq 2)]) := inRow1 w1 (by simp) (rq 2)
  have r10 := r1
  replace bH := Lib.hid (bH.out.alloc (.cells #[.slice (some ⟨w1.heap.size, 0, none⟩) 1 1] 23))
  replace bT := Lib.hid (bT.out.alloc (.cells #[.slice (some ⟨w1.heap.size, 0, none⟩) 1 1] 23))
  replace r1 := Lib.hid (r1.out.alloc (.cells #[.slice (some ⟨w1.heap.size, 0, none⟩) 1 1] 23))
  replace hB := Lib.hid (bal hB.out (.cells #[.slice (some ⟨w1.heap.size, 0, none⟩) 1 1] 23))
  have m1 : Hid (InMat ((w1.alloc (.cells #[.bool (rq 2).1, .string (rq 2).2.1, .string (rq 2).2.2] 31)).alloc (.cells #[.slice (some ⟨w1.heap.size, 0, none⟩) 1 1] 23)) (some ⟨w1.heap.size + 1, 0, none⟩) [(some ⟨w1.heap.size, 0, none⟩, 1, [(rq 2)])]) := inMat1 (w1.alloc (.cells #[.bool (rq 2).1, .string (rq 2).2.1, .string (rq 2).2.2] 31)) (by simp) _ _ _ _ rfl r10.out
  clear r10 r1
  go_wp2_with fail
  refine (ka.out _ (hE.out.below hB.out)).mono ?_
  rintro e w2 ⟨rfl, hb⟩
  replace bH := Lib.hid (bH.out.below hb)
  replace bT := Lib.hid (bT.out.below hb)
  replace m1 := Lib.hid (m1.out.up hb)
  replace hB := Lib.hid (trn hB.out hb)
  clear hb
  replace bH := Lib.hid (bH.out.alloc (.cells #[.bool (rq 1).1, .string (rq 1).2.1, .string (rq 1).2.2] 31))
  replace bT := Lib.hid (bT.out.alloc (.cells #[.bool (rq 1).1, .string (rq 1).2.1, .string (rq 1).2.2] 31))
  replace m1 := Lib.hid (m1.out.alloc (.cells #[.bool (rq 1).1, .string (rq 1).2.1, .string (rq 1).2.2] 31))
  replace hB := Lib.hid (bal hB.out (.cells #[.bool (rq 1).1, .string (rq 1).2.1, .string (rq 1).2.2] 31))
  have q1 : Hid (InRow (w2.alloc (.cells #[.bool (rq 1).1, .string (rq 1).2.1, .string (rq 1).2.2] 31)) (some ⟨w2.heap.size, 0, none⟩) [(rq 1)]) := inRow1 w2 (by simp) (rq 1)
  go_wp2_with fail
  refine (sys1_call (hE.out.below hB.out) m1.out q1.out).mono ?_
  clear m1 q1
  rintro e w3 ⟨⟨p1, d1, rfl, s1⟩, hb⟩
  replace bH := Lib.hid (bH.out.below hb)
  replace bT := Lib.hid (bT.out.below hb)
  replace hB := Lib.hid (trn hB.out hb)
  clear hb
  replace s1 := Lib.hid s1
  go_wp2_with fail
  refine (ka.out _ (hE.out.below hB.out)).mono ?_
  rintro e w4 ⟨rfl, hb⟩
  replace bH := Lib.hid (bH.out.below hb)
  replace bT := Lib.hid (bT.out.below hb)
  replace s1 := Lib.hid (s1.out.up hb)
  replace hB := Lib.hid (trn hB.out hb)
  clear hb
  go_wp2_with fail
  refine (ka.out _ (hE.out.below hB.out)).mono ?_
  rintro e w5 ⟨rfl, hb⟩
  replace bH := Lib.hid (bH.out.below hb)
  replace bT := Lib.hid (bT.out.below hb)
  replace s1 := Lib.hid (s1.out.up hb)
  replace hB := Lib.hid (trn hB.out hb)
  clear hb
  replace bH := Lib.hid (bH.out.alloc (.cells #[.bool (rq 1).1, .string (rq 1).2.1, .string (rq 1).2.2, .bool (rq 1).1, .string (rq 1).2.1, .string (rq 1).2.2] 31))
  replace bT := Lib.hid (bT.out.alloc (.cells #[.bool (rq 1).1, .string (rq 1).2.1, .string (rq 1).2.2, .bool (rq 1).1, .string (rq 1).2.1, .string (rq 1).2.2] 31))
  replace s1 := Lib.hid (s1.out.alloc (.cells #[.bool (rq 1).1, .string (rq 1).2.1, .string (rq 1).2.2, .bool (rq 1).1, .string (rq 1).2.1, .string (rq 1).2.2] 31))
  replace hB := Lib.hid (bal hB.out (.cells #[.bool (rq 1).1, .string (rq 1).2.1, .string (rq 1).2.2, .bool (rq 1).1, .string (rq 1).2.1, .string (rq 1).2.2] 31))
  have r1 : Hid (InRow (w5.alloc (.cells #[.bool (rq 1).1, .string (rq 1).2.1, .string (rq 1).2.2, .bool (rq 1).1, .string (rq 1).2.1, .string (rq 1).2.2] 31)) (some ⟨w5.heap.size, 0, none⟩) [(rq 1), (rq 1)]) := inRow2 w5 (by simp) (rq 1) (rq 1)
  go_wp2_with fail
  refine (ka.out _ (hE.out.below hB.out)).mono ?_
  rintro e w6 ⟨rfl, hb⟩
  replace bH := Lib.hid (bH.out.below hb)
  replace bT := Lib.hid (bT.out.below hb)
  replace s1 := Lib.hid (s1.out.up hb)
  replace r1 := Lib.hid (r1.out.up hb)
  replace hB := Lib.hid (trn hB.out hb)
  clear hb
  go_wp2_with fail
  refine (km.out _ (hE.out.below hB.out)).mono ?_
  rintro e w7 ⟨rfl, hb⟩
  replace bH := Lib.hid (bH.out.below hb)
  replace bT := Lib.hid (bT.out.below hb)
  replace s1 := Lib.hid (s1.out.up hb)
  replace r1 := Lib.hid (r1.out.up hb)
  replace hB := Lib.hid (trn hB.out hb)
  clear hb
  replace bH := Lib.hid (bH.out.alloc (.cells #[.bool (rq 1).1, .string (rq 1).2.1, .string (rq 1).2.2, .bool (rq (-1)).1, .string (rq (-1)).2.1, .string (rq (-1)).2.2] 31))
  replace bT := Lib.hid (bT.out.alloc (.cells #[.bool (rq 1).1, .string (rq 1).2.1, .string (rq 1).2.2, .bool (rq (-1)).1, .string (rq (-1)).2.1, .string (rq (-1)).2.2] 31))
  replace s1 := Lib.hid (s1.out.alloc (.cells #[.bool (rq 1).1, .string (rq 1).2.1, .string (rq 1).2.2, .bool (rq (-1)).1, .string (rq (-1)).2.1, .string (rq (-1)).2.2] 31))
  replace r1 := Lib.hid (r1.out.alloc (.cells #[.bool (rq 1).1, .string (rq 1).2.1, .string (rq 1).2.2, .bool (rq (-1)).1, .string (rq (-1)).2.1, .string (rq (-1)).2.2] 31))
  replace hB := Lib.hid (bal hB.out (.cells #[.bool (rq 1).1, .string (rq 1).2.1, .string (rq 1).2.2, .bool (rq (-1)).1, .string (rq (-1)).2.1, .string (rq (-1)).2.2] 31))
  have r2 : Hid (InRow (w7.alloc (.cells #[.bool (rq 1).1, .string (rq 1).2.1, .string (rq 1).2.2, .bool (rq (-1)).1, .string (rq (-1)).2.1, .string (rq (-1)).2.2] 31)) (some ⟨w7.heap.size, 0, none⟩) [(rq 1), (rq (-1))]) := inRow2 w7 (by simp) (rq 1) (rq (-1))
  have r10 := r1
  have r20 := r2
  replace bH := Lib.hid (bH.out.alloc (.cells #[.slice (some ⟨w5.heap.size, 0, none⟩) 2 2, .slice (some ⟨w7.heap.size, 0, none⟩) 2 2] 23))
  replace bT := Lib.hid (bT.out.alloc (.cells #[.slice (some ⟨w5.heap.size, 0, none⟩) 2 2, .slice (some ⟨w7.heap.size, 0, none⟩) 2 2] 23))
  replace s1 := Lib.hid (s1.out.alloc (.cells #[.slice (some ⟨w5.heap.size, 0, none⟩) 2 2, .slice (some ⟨w7.heap.size, 0, none⟩) 2 2] 23))
  replace r1 := Lib.hid (r1.out.alloc (.cells #[.slice (some ⟨w5.heap.size, 0, none⟩) 2 2, .slice (some ⟨w7.heap.size, 0, none⟩) 2 2] 23))
  replace r2 := Lib.hid (r2.out.alloc (.cells #[.slice (some ⟨w5.heap.size, 0, none⟩) 2 2, .slice (some ⟨w7.heap.size, 0, none⟩) 2 2] 23))
  replace hB := Lib.hid (bal hB.out (.cells #[.slice (some ⟨w5.heap.size, 0, none⟩) 2 2, .slice (some ⟨w7.heap.size, 0, none⟩) 2 2] 23))
  have m1 : Hid (InMat ((w7.alloc (.cells #[.bool (rq 1).1, .string (rq 1).2.1, .string (rq 1).2.2, .bool (rq (-1)).1, .string (rq (-1)).2.1, .string (rq (-1)).2.2] 31)).alloc (.cells #[.slice (some ⟨w5.heap.size, 0, none⟩) 2 2, .slice (some ⟨w7.heap.size, 0, none⟩) 2 2] 23)) (some ⟨w7.heap.size + 1, 0, none⟩) [(some ⟨w5.heap.size, 0, none⟩, 2, [(rq 1), (rq 1)]), (some ⟨w7.heap.size, 0, none⟩, 2, [(rq 1), (rq (-1))])]) := inMat2 (w7.alloc (.cells #[.bool (rq 1).1, .string (rq 1).2.1, .string (rq 1).2.2, .bool (rq (-1)).1, .string (rq (-1)).2.1, .string (rq (-1)).2.2] 31)) (by simp) _ _ _ _ _ _ _ _ rfl rfl r10.out r20.out
  clear r10 r1
  clear r20 r2
  go_wp2_with fail
  refine (kc.out _ (hE.out.below hB.out)).mono ?_
  rintro e w8 ⟨rfl, hb⟩
  replace bH := Lib.hid (bH.out.below hb)
  replace bT := Lib.hid (bT.out.below hb)
  replace s1 := Lib.hid (s1.out.up hb)
  replace m1 := Lib.hid (m1.out.up hb)
  replace hB := Lib.hid (trn hB.out hb)
  clear hb
  go_wp2_with fail
  refine (ka.out _ (hE.out.below hB.out)).mono ?_
  rintro e w9 ⟨rfl, hb⟩
  replace bH := Lib.hid (bH.out.below hb)
  replace bT := Lib.hid (bT.out.below hb)
  replace s1 := Lib.hid (s1.out.up hb)
  replace m1 := Lib.hid (m1.out.up hb)
  replace hB := Lib.hid (trn hB.out hb)
  clear hb
  replace bH := Lib.hid (bH.out.alloc (.cells #[.bool (rq 3).1, .string (rq 3).2.1, .string (rq 3).2.2, .bool (rq 1).1, .string (rq 1).2.1, .string (rq 1).2.2] 31))
  replace bT := Lib.hid (bT.out.alloc (.cells #[.bool (rq 3).1, .string (rq 3).2.1, .string (rq 3).2.2, .bool (rq 1).1, .string (rq 1).2.1, .string (rq 1).2.2] 31))
  replace s1 := Lib.hid (s1.out.alloc (.cells #[.bool (rq 3).1, .string (rq 3).2.1, .string (rq 3).2.2, .bool (rq 1).1, .string (rq 1).2.1, .string (rq 1).2.2] 31))
  replace m1 := Lib.hid (m1.out.alloc (.cells #[.bool (rq 3).1, .string (rq 3).2.1, .string (rq 3).2.2, .bool (rq 1).1, .string (rq 1).2.1, .string (rq 1).2.2] 31))
  replace hB := Lib.hid (bal hB.out (.cells #[.bool (rq 3).1, .string (rq 3).2.1, .string (rq 3).2.2, .bool (rq 1).1, .string (rq 1).2.1, .string (rq 1).2.2] 31))
  have q1 : Hid (InRow (w9.alloc (.cells #[.bool (rq 3).1, .string (rq 3).2.1, .string (rq 3).2.2, .bool (rq 1).1, .string (rq 1).2.1, .string (rq 1).2.2] 31)) (some ⟨w9.heap.size, 0, none⟩) [(rq 3), (rq 1)]) := inRow2 w9 (by simp) (rq 3) (rq 1)
  go_wp2_with fail
  refine (sys2_call (hE.out.below hB.out) m1.out q1.out).mono ?_
  clear m1 q1
  rintro e w10 ⟨⟨p2, d2, rfl, s2⟩, hb⟩
  replace bH := Lib.hid (bH.out.below hb)
  replace bT := Lib.hid (bT.out.below hb)
  replace s1 := Lib.hid (s1.out.up hb)
  replace hB := Lib.hid (trn hB.out hb)
  clear hb
  replace s2 := Lib.hid s2
  go_wp2_with fail
  refine reg5_any w _ hE.out hB.out bT.out (fun W => B3 W w.heap.size false ⟨#[49]⟩ ⟨#[50]⟩ ∧ InRow W p1 [rq (1 / 2)] ∧ InRow W p2 [rq 2, rq 1]) ⟨bH.out, s1.out, s2.out⟩ (fun W W2 h hb => ⟨h.1.below hb, h.2.1.up hb, h.2.2.up hb⟩) ?_
  clear hB bT
  intro u39 u40 u41 u42 u43 u44 u45 u46 u47 u48 u49 u50 u51 u52 p3 d3 wv hX hB bT s3
  clear bH s1 s2
  have bH := Lib.hid hX.out.1
  have s1 := Lib.hid hX.out.2.1
  have s2 := Lib.hid hX.out.2.2
  clear hX
  go_wp2_with fail
  refine (ka.out _ (hE.out.below hB.out)).mono ?_
  rintro e w11 ⟨rfl, hb⟩
  replace bH := Lib.hid (bH.out.below hb)
  replace bT := Lib.hid (bT.out.below hb)
  replace s1 := Lib.hid (s1.out.up hb)
  replace s2 := Lib.hid (s2.out.up hb)
  replace s3 := Lib.hid (s3.out.up hb)
  replace hB := Lib.hid (trn hB.out hb)
  clear hb
  go_wp2_with fail
  refine (ka.out _ (hE.out.below hB.out)).mono ?_
  rintro e w12 ⟨rfl, hb⟩
  replace bH := Lib.hid (bH.out.below hb)
  replace bT := Lib.hid (bT.out.below hb)
  replace s1 := Lib.hid (s1.out.up hb)
  replace s2 := Lib.hid (s2.out.up hb)
  replace s3 := Lib.hid (s3.out.up hb)
  replace hB := Lib.hid (trn hB.out hb)
  clear hb
  replace bH := Lib.hid (bH.out.alloc (.cells #[.bool (rq 1).1, .string (rq 1).2.1, .string (rq 1).2.2, .bool (rq 1).1, .string (rq 1).2.1, .string (rq 1).2.2] 31))
  replace bT := Lib.hid (bT.out.alloc (.cells #[.bool (rq 1).1, .string (rq 1).2.1, .string (rq 1).2.2, .bool (rq 1).1, .string (rq 1).2.1, .string (rq 1).2.2] 31))
  replace s1 := Lib.hid (s1.out.alloc (.cells #[.bool (rq 1).1, .string (rq 1).2.1, .string (rq 1).2.2, .bool (rq 1).1, .string (rq 1).2.1, .string (rq 1).2.2] 31))
  replace s2 := Lib.hid (s2.out.alloc (.cells #[.bool (rq 1).1, .string (rq 1).2.1, .string (rq 1).2.2, .bool (rq 1).1, .string (rq 1).2.1, .string (rq 1).2.2] 31))
  replace s3 := Lib.hid (s3.out.alloc (.cells #[.bool (rq 1).1, .string (rq 1).2.1, .string (rq 1).2.2, .bool (rq 1).1, .string (rq 1).2.1, .string (rq 1).2.2] 31))
  replace hB := Lib.hid (bal hB.out (.cells #[.bool (rq 1).1, .string (rq 1).2.1, .string (rq 1).2.2, .bool (rq 1).1, .string (rq 1).2.1, .string (rq 1).2.2] 31))
  have r1 : Hid (InRow (w12.alloc (.cells #[.bool (rq 1).1, .string (rq 1).2.1, .string (rq 1).2.2, .bool (rq 1).1, .string (rq 1).2.1, .string (rq 1).2.2] 31)) (some ⟨w12.heap.size, 0, none⟩) [(rq 1), (rq 1)]) := inRow2 w12 (by simp) (rq 1) (rq 1)
  go_wp2_with fail
  refine (kb.out _ (hE.out.below hB.out)).mono ?_
  rintro e w13 ⟨rfl, hb⟩
  replace bH := Lib.hid (bH.out.below hb)
  replace bT := Lib.hid (bT.out.below hb)
  replace s1 := Lib.hid (s1.out.up hb)
  replace s2 := Lib.hid (s2.out.up hb)
  replace s3 := Lib.hid (s3.out.up hb)
  replace r1 := Lib.hid (r1.out.up hb)
  replace hB := Lib.hid (trn hB.out hb)
  clear hb
  go_wp2_with fail
  refine (kb.out _ (hE.out.below hB.out)).mono ?_
  rintro e w14 ⟨rfl, hb⟩
  replace bH := Lib.hid (bH.out.below hb)
  replace bT := Lib.hid (bT.out.below hb)
  replace s1 := Lib.hid (s1.out.up hb)
  replace s2 := Lib.hid (s2.out.up hb)
  replace s3 := Lib.hid (s3.out.up hb)
  replace r1 := Lib.hid (r1.out.up hb)
  replace hB := Lib.hid (trn hB.out hb)
  clear hb
  replace bH := Lib.hid (bH.out.alloc (.cells #[.bool (rq 2).1, .string (rq 2).2.1, .string (rq 2).2.2, .bool (rq 2).1, .string (rq 2).2.1, .string (rq 2).2.2] 31))
  replace bT := Lib.hid (bT.out.alloc (.cells #[.bool (rq 2).1, .string (rq 2).2.1, .string (rq 2).2.2, .bool (rq 2).1, .string (rq 2).2.1, .string (rq 2).2.2] 31))
  replace s1 := Lib.hid (s1.out.alloc (.cells #[.bool (rq 2).1, .string (rq 2).2.1, .string (rq 2).2.2, .bool (rq 2).1, .string (rq 2).2.1, .string (rq 2).2.2] 31))
  replace s2 := Lib.hid (s2.out.alloc (.cells #[.bool (rq 2).1, .string (rq 2).2.1, .string (rq 2).2.2, .bool (rq 2).1, .string (rq 2).2.1, .string (rq 2).2.2] 31))
  replace s3 := Lib.hid (s3.out.alloc (.cells #[.bool (rq 2).1, .string (rq 2).2.1, .string (rq 2).2.2, .bool (rq 2).1, .string (rq 2).2.1, .string (rq 2).2.2] 31))
  replace r1 := Lib.hid (r1.out.alloc (.cells #[.bool (rq 2).1, .string (rq 2).2.1, .string (rq 2).2.2, .bool (rq 2).1, .string (rq 2).2.1, .string (rq 2).2.2] 31))
  replace hB := Lib.hid (bal hB.out (.cells #[.bool (rq 2).1, .string (rq 2).2.1, .string (rq 2).2.2, .bool (rq 2).1, .string (rq 2).2.1, .string (rq 2).2.2] 31))
  have r2 : Hid (InRow (w14.alloc (.cells #[.bool (rq 2).1, .string (rq 2).2.1, .string (rq 2).2.2, .bool (rq 2).1, .string (rq 2).2.1, .string (rq 2).2.2] 31)) (some ⟨w14.heap.size, 0, none⟩) [(rq 2), (rq 2)]) := inRow2 w14 (by simp) (rq 2) (rq 2)
  have r10 := r1
  have r20 := r2
  replace bH := Lib.hid (bH.out.alloc (.cells #[.slice (some ⟨w12.heap.size, 0, none⟩) 2 2, .slice (some ⟨w14.heap.size, 0, none⟩) 2 2] 23))
  replace bT := Lib.hid (bT.out.alloc (.cells #[.slice (some ⟨w12.heap.size, 0, none⟩) 2 2, .slice (some ⟨w14.heap.size, 0, none⟩) 2 2] 23))
  replace s1 := Lib.hid (s1.out.alloc (.cells #[.slice (some ⟨w12.heap.size, 0, none⟩) 2 2, .slice (some ⟨w14.heap.size, 0, none⟩) 2 2] 23))
  replace s2 := Lib.hid (s2.out.alloc (.cells #[.slice (some ⟨w12.heap.size, 0, none⟩) 2 2, .slice (some ⟨w14.heap.size, 0, none⟩) 2 2] 23))
  replace s3 := Lib.hid (s3.out.alloc (.cells #[.slice (some ⟨w12.heap.size, 0, none⟩) 2 2, .slice (some ⟨w14.heap.size, 0, none⟩) 2 2] 23))
  replace r1 := Lib.hid (r1.out.alloc (.cells #[.slice (some ⟨w12.heap.size, 0, none⟩) 2 2, .slice (some ⟨w14.heap.size, 0, none⟩) 2 2] 23))
  replace r2 := Lib.hid (r2.out.alloc (.cells #[.slice (some ⟨w12.heap.size, 0, none⟩) 2 2, .slice (some ⟨w14.heap.size, 0, none⟩) 2 2] 23))
  replace hB := Lib.hid (bal hB.out (.cells #[.slice (some ⟨w12.heap.size, 0, none⟩) 2 2, .slice (some ⟨w14.heap.size, 0, none⟩) 2 2] 23))
  have m1 : Hid (InMat ((w14.alloc (.cells #[.bool (rq 2).1, .string (rq 2).2.1, .string (rq 2).2.2, .bool (rq 2).1, .string (rq 2).2.1, .string (rq 2).2.2] 31)).alloc (.cells #[.slice (some ⟨w12.heap.size, 0, none⟩) 2 2, .slice (some ⟨w14.heap.size, 0, none⟩) 2 2] 23)) (some ⟨w14.heap.size + 1, 0, none⟩) [(some ⟨w12.heap.size, 0, none⟩, 2, [(rq 1), (rq 1)]), (some ⟨w14.heap.size, 0, none⟩, 2, [(rq 2), (rq 2)])]) := inMat2 (w14.alloc (.cells #[.bool (rq 2).1, .string (rq 2).2.1, .string (rq 2).2.2, .bool (rq 2).1, .string (rq 2).2.1, .string (rq 2).2.2] 31)) (by simp) _ _ _ _ _ _ _ _ rfl rfl r10.out r20.out
  clear r10 r1
  clear r20 r2
  go_wp2_with fail
  refine (kc.out _ (hE.out.below hB.out)).mono ?_
  rintro e w15 ⟨rfl, hb⟩
  replace bH := Lib.hid (bH.out.below hb)
  replace bT := Lib.hid (bT.out.below hb)
  replace s1 := Lib.hid (s1.out.up hb)
  replace s2 := Lib.hid (s2.out.up hb)
  replace s3 := Lib.hid (s3.out.up hb)
  replace m1 := Lib.hid (m1.out.up hb)
  replace hB := Lib.hid (trn hB.out hb)
  clear hb
  go_wp2_with fail
  refine (kf.out _ (hE.out.below hB.out)).mono ?_
  rintro e w16 ⟨rfl, hb⟩
  replace bH := Lib.hid (bH.out.below hb)
  replace bT := Lib.hid (bT.out.below hb)
  replace s1 := Lib.hid (s1.out.up hb)
  replace s2 := Lib.hid (s2.out.up hb)
  replace s3 := Lib.hid (s3.out.up hb)
  replace m1 := Lib.hid (m1.out.up hb)
  replace hB := Lib.hid (trn hB.out hb)
  clear hb
  replace bH := Lib.hid (bH.out.alloc (.cells #[.bool (rq 3).1, .string (rq 3).2.1, .string (rq 3).2.2, .bool (rq 6).1, .string (rq 6).2.1, .string (rq 6).2.2] 31))
  replace bT := Lib.hid (bT.out.alloc (.cells #[.bool (rq 3).1, .string (rq 3).2.1, .string (rq 3).2.2, .bool (rq 6).1, .string (rq 6).2.1, .string (rq 6).2.2] 31))
  replace s1 := Lib.hid (s1.out.alloc (.cells #[.bool (rq 3).1, .string (rq 3).2.1, .string (rq 3).2.2, .bool (rq 6).1, .string (rq 6).2.1, .string (rq 6).2.2] 31))
  replace s2 := Lib.hid (s2.out.alloc (.cells #[.bool (rq 3).1, .string (rq 3).2.1, .string (rq 3).2.2, .bool (rq 6).1, .string (rq 6).2.1, .string (rq 6).2.2] 31))
  replace s3 := Lib.hid (s3.out.alloc (.cells #[.bool (rq 3).1, .string (rq 3).2.1, .string (rq 3).2.2, .bool (rq 6).1, .string (rq 6).2.1, .string (rq 6).2.2] 31))
  replace m1 := Lib.hid (m1.out.alloc (.cells #[.bool (rq 3).1, .string (rq 3).2.1, .string (rq 3).2.2, .bool (rq 6).1, .string (rq 6).2.1, .string (rq 6).2.2] 31))
  replace hB := Lib.hid (bal hB.out (.cells #[.bool (rq 3).1, .string (rq 3).2.1, .string (rq 3).2.2, .bool (rq 6).1, .string (rq 6).2.1, .string (rq 6).2.2] 31))
  have q1 : Hid (InRow (w16.alloc (.cells #[.bool (rq 3).1, .string (rq 3).2.1, .string (rq 3).2.2, .bool (rq 6).1, .string (rq 6).2.1, .string (rq 6).2.2] 31)) (some ⟨w16.heap.size, 0, none⟩) [(rq 3), (rq 6)]) := inRow2 w16 (by simp) (rq 3) (rq 6)
  go_wp2_with fail
  refine (sys4_call (hE.out.below hB.out) m1.out q1.out).mono ?_
  clear m1 q1
  rintro e w17 ⟨rfl, hb⟩
  replace bH := Lib.hid (bH.out.below hb)
  replace bT := Lib.hid (bT.out.below hb)
  replace s1 := Lib.hid (s1.out.up hb)
  replace s2 := Lib.hid (s2.out.up hb)
  replace s3 := Lib.hid (s3.out.up hb)
  replace hB := Lib.hid (trn hB.out hb)
  clear hb
  go_wp2_with fail
  refine (sys5_call (hE.out.below hB.out)).mono ?_
  rintro e w18 ⟨⟨p5, d5, rfl⟩, hb⟩
  replace bH := Lib.hid (bH.out.below hb)
  replace bT := Lib.hid (bT.out.below hb)
  replace s1 := Lib.hid (s1.out.up hb)
  replace s2 := Lib.hid (s2.out.up hb)
  replace s3 := Lib.hid (s3.out.up hb)
  replace hB := Lib.hid (trn hB.out hb)
  clear hb
  go_wp2_with fail
  refine reg8_any w _ hE.out hB.out bH.out bT.out s1.out s2.out s3.out ?_
  intro v71 v72 v73 v74 v75 v76 v77 v78 v79 v80 v81 v82 v83 v84 v85 v86 v87 v88 v89 v90 v91 v92 v93 v94 v95 v96 v97 v98 v99 v100 wz hz
  clear hB bH bT s1 s2 s3
  go_wp2
  go_ret
  exact ⟨rfl, hz.out⟩
end Nt
end Go.Proofs.YtjjlnahipiinfaaGreatDoor

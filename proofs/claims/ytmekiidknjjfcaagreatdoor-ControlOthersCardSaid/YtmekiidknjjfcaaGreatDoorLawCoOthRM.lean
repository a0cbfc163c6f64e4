/- A region of ControlOthers. Printed by gen_lothers.py. -/
import Derived.Test.YtmekiidknjjfcaaGreatDoorCoD
import Derived.Deep.RegionHeld3
namespace Go.Proofs.YtmekiidknjjfcaaGreatDoor
open Go.RowKit Go.Shelf
namespace Co
open Nt Ci

noncomputable def otR (j : Nat) : Code := ((Tryz.f9.body.map regsOf).bind fun l => l.find? (isReg j)).getD .skip
set_option maxRecDepth 1000000 in
set_option maxHeartbeats 16000000 in
theorem ot15 {c0 c1 c3 c4 c5 c6 c7 c10 c11 c12 c13 c14 c15 c16 c17 c18 c19 c20 c21 c22 c23 c24 c25 c26 c27 c28 c29 c30 c31 c32 c33 c34 c35 c36 c37 c38 c39 c40 c41 c42 c43 c44 c45 c46 c47 c48 c49 c50 c51 c52 c53 c54 c55 c56 c57 c68 c69 c70 c71 c72 c73 c74 c75 c76 c77 c78 c79 c80 c81 c82 c83 a58 a59 a60 a61 a62 a63 a64 a65 a66 a67 : Value} {Q : Exit → Act → World → Prop} (xb ob vb off k len m c cp cv cc np nc : Nat) (Ap Ac A : Option Addr) (co ho : Int) (gg : Bool) (nn dd : ByteArray) (l : List Lk) (w w0 : World) (hk : k < len) (hm : m ≤ 1000) (hX : Bk w xb 25 [.slice Ap np cp, .slice Ac nc cc, .slice (some ⟨vb, off, none⟩) len cv]) (hO : Bk w ob 25 [.slice Ap np cp, .slice none 0 0, .slice A m c]) (hR : w.ownsRow (ob + 1) 51 5 (.slice A m c) m (lksL l)) (hK0 : Kp [ob] w0 w) (hw0 : w0.heap.size = ob + 1) (hxo0 : xb < ob) (hvo0 : vb < ob) (hvl : vb < w.heap.size) (e1 : w.cell? ⟨vb, off + k * 5, none⟩ = some (.int .i64 co)) (e2 : w.cell? ⟨vb, off + k * 5 + 1, none⟩ = some (.int .i64 ho)) (e3 : w.cell? ⟨vb, off + k * 5 + 2, none⟩ = some (.bool gg)) (e4 : w.cell? ⟨vb, off + k * 5 + 3, none⟩ = some (.string nn)) (e5 : w.cell? ⟨vb, off + k * 5 + 4, none⟩ = some (.string dd))
    (h : ∀ (u58 u59 u60 u61 u62 u63 u64 u65 u66 u67 : Value) (Az : Option Addr) (cz : Nat) (W : World) (_ : Hid (Bk W ob 25 [.slice Ap np cp, .slice none 0 0, .slice Az (m + 1) cz])) (_ : Hid (Kp [ob] w0 W)) (_ : Hid (W.ownsRow (ob + 1) 51 5 (.slice Az (m + 1) cz) (m + 1) (lksL (l ++ [(co, ho, gg, nn, dd)])))), Q .normal ⟨#[c0, c1, .pointer (some ⟨xb, 0, none⟩), c3, c4, c5, c6, c7, .pointer (some ⟨ob, 0, none⟩), .int .i64 (k : Int), c10, c11, c12, c13, c14, c15, c16, c17, c18, c19, c20, c21, c22, c23, c24, c25, c26, c27, c28, c29, c30, c31, c32, c33, c34, c35, c36, c37, c38, c39, c40, c41, c42, c43, c44, c45, c46, c47, c48, c49, c50, c51, c52, c53, c54, c55, c56, c57, u58, u59, u60, u61, u62, u63, u64, u65, u66, u67, c68, c69, c70, c71, c72, c73, c74, c75, c76, c77, c78, c79, c80, c81, c82, c83], []⟩ (W)) :
    Code.wp Tryz.prog (otR 15) Q ⟨#[c0, c1, .pointer (some ⟨xb, 0, none⟩), c3, c4, c5, c6, c7, .pointer (some ⟨ob, 0, none⟩), .int .i64 (k : Int), c10, c11, c12, c13, c14, c15, c16, c17, c18, c19, c20, c21, c22, c23, c24, c25, c26, c27, c28, c29, c30, c31, c32, c33, c34, c35, c36, c37, c38, c39, c40, c41, c42, c43, c44, c45, c46, c47, c48, c49, c50, c51, c52, c53, c54, c55, c56, c57, a58, a59, a60, a61, a62, a63, a64, a65, a66, a67, c68, c69, c70, c71, c72, c73, c74, c75, c76, c77, c78, c79, c80, c81, c82, c83], []⟩ w := by
  conv => arg 2; whnf
  conv => arg 4; zeta
  replace h := Lib.hid h
  have hO2 := hO.cell (j := 2) rfl
  have hol := hO.lt
  have hxl := hX.lt
  have HO : Hid (∀ W, Below w.heap.size w W → W.cell? ⟨xb, 2, none⟩ = some (.slice (some ⟨vb, off, none⟩) len cv) ∧ W.cell? ⟨vb, off + k * 5, none⟩ = some (.int .i64 co) ∧ W.cell? ⟨vb, off + k * 5 + 1, none⟩ = some (.int .i64 ho) ∧ W.cell? ⟨vb, off + k * 5 + 2, none⟩ = some (.bool gg) ∧ W.cell? ⟨vb, off + k * 5 + 3, none⟩ = some (.string nn) ∧ W.cell? ⟨vb, off + k * 5 + 4, none⟩ = some (.string dd)) := fun W h =>
    ⟨(hX.below h).cell (j := 2) rfl, (h.cell (p := ⟨vb, off + k * 5, none⟩) hvl).trans e1, (h.cell (p := ⟨vb, off + k * 5 + 1, none⟩) hvl).trans e2, (h.cell (p := ⟨vb, off + k * 5 + 2, none⟩) hvl).trans e3, (h.cell (p := ⟨vb, off + k * 5 + 3, none⟩) hvl).trans e4, (h.cell (p := ⟨vb, off + k * 5 + 4, none⟩) hvl).trans e5⟩
  have hno : Hid (some ob ≠ (Value.slice A m c).ownBlock) := fun e => by have := (hR.lt ob e.symm).1; omega
  have hrow : Hid (∀ b, (Value.slice A m c).ownBlock = some b → b ∈ [ob] ∨ w0.heap.size ≤ b) := fun b e => .inr (by have := (hR.lt b e).1; omega)
  have hnb9 : Hid (∀ x, x < ob → (Value.slice A m c).ownBlock ≠ some x) := fun x hx e => by have := (hR.lt x e).1; omega
  obtain ⟨i0, hi0, hzz⟩ := Option.map_eq_some_iff.1 infoL
  simp only [Prod.mk.injEq] at hzz
  obtain ⟨hz0, hz1, hz2⟩ := hzz
  obtain ⟨zl, hzl⟩ : ∃ z, z = zeroL := ⟨_, rfl⟩
  have hzc : Hid (zl.cells.size = 5) := by rw [hzl]; rfl
  rw [← hzl] at hz0
  clear hzl
  replace hi0 := Lib.hid hi0
  replace hz0 := Lib.hid hz0
  replace hz1 := Lib.hid hz1
  replace hz2 := Lib.hid hz2
  replace hX := Lib.hid hX
  replace hO := Lib.hid hO
  replace hK0 := Lib.hid hK0
  replace hR := Lib.hid hR
  have q0 : (0 : Int) ≤ (k : Int) := by omega
  have q1 : (k : Int) < (len : Int) := by omega
  clear e1 e2 e3 e4 e5
  have hxo : xb ≠ ob := Nat.ne_of_lt hxo0
  have hvo : vb ≠ ob := Nat.ne_of_lt hvo0
  refine wp_region_noPanic ?_
  refine wp_region_held_drew (S := fun W => W.cell? ⟨xb, 2, none⟩ = some (.slice (some ⟨vb, off, none⟩) len cv) ∧ W.cell? ⟨vb, off + k * 5, none⟩ = some (.int .i64 co) ∧ W.cell? ⟨vb, off + k * 5 + 1, none⟩ = some (.int .i64 ho) ∧ W.cell? ⟨vb, off + k * 5 + 2, none⟩ = some (.bool gg) ∧ W.cell? ⟨vb, off + k * 5 + 3, none⟩ = some (.string nn) ∧ W.cell? ⟨vb, off + k * 5 + 4, none⟩ = some (.string dd)) (by kernel_rfl) (HO.out _ (Below.refl _ _).drew) (fun hS0 => ?_)
  replace hS0 := Lib.hid hS0
  refine wpAnyH_take (i := 0) (oi := _) (v := ?_) rfl (by kernel_rfl) (by kernel_rfl) (by kernel_rfl) (fun _ _ _ h => h) (Or.inl ⟨by rfl, ?_⟩) (hS0.out) ?_
  rotate_left
  · (intro w hSw; obtain ⟨q0, q1, q2, q3, q4, q5⟩ := hSw; go_simp <;> with_reducible rfl)
  try simp only [Act.put, List.setIfInBounds_toArray]
  refine wpAnyH_take (i := 2) (oi := _) (v := ?_) rfl (by kernel_rfl) (by kernel_rfl) (by kernel_rfl) (fun _ _ _ h => h) (Or.inl ⟨by rfl, ?_⟩) (hS0.out) ?_
  rotate_left
  · (intro w hSw; obtain ⟨q0, q1, q2, q3, q4, q5⟩ := hSw; go_simp <;> with_reducible rfl)
  try simp only [Act.put]
  refine wpAnyH_take (i := 3) (oi := _) (v := ?_) rfl (by kernel_rfl) (by kernel_rfl) (by kernel_rfl) (fun _ _ _ h => h) (Or.inl ⟨by rfl, ?_⟩) (hS0.out) ?_
  rotate_left
  · (intro w hSw; obtain ⟨q0, q1, q2, q3, q4, q5⟩ := hSw; go_simp <;> with_reducible rfl)
  try simp only [Act.put]
  refine wpAnyH_take (i := 4) (oi := _) (v := ?_) rfl (by kernel_rfl) (by kernel_rfl) (by kernel_rfl) (fun _ _ _ h => h) (Or.inl ⟨by rfl, ?_⟩) (hS0.out) ?_
  rotate_left
  · (intro w hSw; obtain ⟨q0, q1, q2, q3, q4, q5⟩ := hSw; go_simp <;> with_reducible rfl)
  try simp only [Act.put]
  refine wpAnyH_take (i := 5) (oi := _) (v := ?_) rfl (by kernel_rfl) (by kernel_rfl) (by kernel_rfl) (fun _ _ _ h => h) (Or.inl ⟨by rfl, ?_⟩) (hS0.out) ?_
  rotate_left
  · (intro w hSw; obtain ⟨q0, q1, q2, q3, q4, q5⟩ := hSw; go_simp <;> with_reducible rfl)
  try simp only [Act.put]
  refine wpAnyH_take (i := 6) (oi := _) (v := ?_) rfl (by kernel_rfl) (by kernel_rfl) (by kernel_rfl) (fun _ _ _ h => h) (Or.inl ⟨by rfl, ?_⟩) (hS0.out) ?_
  rotate_left
  · (intro w hSw; obtain ⟨q0, q1, q2, q3, q4, q5⟩ := hSw; go_simp <;> with_reducible rfl)
  try simp only [Act.put]
  have hBe : Hid (Below w.heap.size w w.drew) := (Below.refl _ w).drew
  have hB3 : Hid (Below w.heap.size w (w.alloc (.cells #[.int .i64 co, .int .i64 ho, .bool gg, .string nn, .string dd] 51)).drew) := ((Below.refl _ w).alloc (Nat.le_refl _) _).drew
  refine wpAnyH_ready (rs := [1, 7]) (by kernel_rfl) (by simp) ?_
  refine AllReadyH.cons (o := _) rfl (fun K hK => ?_) ?_
  · have hh := (hBe.out.cell (p := ⟨ob, 2, none⟩) hol).trans hO2
    go_simp
    clear hh
    refine hK.out _ _ (HO.out _ hBe.out) (fun _ => ?_)
    clear hK K
    try simp only [Act.put, List.setIfInBounds_toArray, List.set_cons_zero, List.set_cons_succ]
    refine wpAnyH_ready (rs := [7]) (by kernel_rfl) (by simp) ?_
    refine AllReadyH.cons (o := _) rfl (fun K hK => ?_) ?_
    · go_simp
      refine hK.out _ _ (HO.out _ hB3.out) (fun _ => ?_)
      clear hK K
      try simp only [Act.put, List.setIfInBounds_toArray, List.set_cons_zero, List.set_cons_succ]
      refine wpAnyH_ready (rs := [8]) (by kernel_rfl) (by simp) ?_
      refine AllReadyH.cons (o := _) rfl (fun K hK => ?_) ?_
      · rw [if_pos (by rfl)]
        refine wp_append_new _ _ _ 23 rfl (ob + 1) 51 i0 zl 5 56 Tryz.underlying23 hi0.out hz0.out hz1.out hz2.out hzc.out (by decide) (.slice A m c) m (lksL l) rfl (own_below' hR.out hB3.out) ⟨w.heap.size, 0, none⟩ 1 1 (lkL (co, ho, gg, nn, dd)) rfl rfl (head_lk w (co, ho, gg, nn, dd) 51) (one_lk _) (by omega) (by unfold maxLen; omega) (by omega) (Nat.le_trans hol hB3.out.size) ?_
        intro vb7 wb hob hgb hnb
        have hO4 := Lib.hid ((hO.out.below hB3.out).grown hgb hno.out)
        have hK4 := Lib.hid ((hK0.out.below hB3.out).grown hgb hrow.out)
        have hS4 : Hid (wb.cell? ⟨xb, 2, none⟩ = some (.slice (some ⟨vb, off, none⟩) len cv) ∧ wb.cell? ⟨vb, off + k * 5, none⟩ = some (.int .i64 co) ∧ wb.cell? ⟨vb, off + k * 5 + 1, none⟩ = some (.int .i64 ho) ∧ wb.cell? ⟨vb, off + k * 5 + 2, none⟩ = some (.bool gg) ∧ wb.cell? ⟨vb, off + k * 5 + 3, none⟩ = some (.string nn) ∧ wb.cell? ⟨vb, off + k * 5 + 4, none⟩ = some (.string dd)) := ⟨(World.cell?_of_block (a := ⟨xb, 2, none⟩) (hgb.block xb (Nat.lt_of_lt_of_le hxl hB3.out.size) (fun e => hnb9.out xb hxo0 e.symm))).trans (HO.out _ hB3.out).1, (World.cell?_of_block (a := ⟨vb, off + k * 5, none⟩) (hgb.block vb (Nat.lt_of_lt_of_le hvl hB3.out.size) (fun e => hnb9.out vb hvo0 e.symm))).trans (HO.out _ hB3.out).2.1, (World.cell?_of_block (a := ⟨vb, off + k * 5 + 1, none⟩) (hgb.block vb (Nat.lt_of_lt_of_le hvl hB3.out.size) (fun e => hnb9.out vb hvo0 e.symm))).trans (HO.out _ hB3.out).2.2.1, (World.cell?_of_block (a := ⟨vb, off + k * 5 + 2, none⟩) (hgb.block vb (Nat.lt_of_lt_of_le hvl hB3.out.size) (fun e => hnb9.out vb hvo0 e.symm))).trans (HO.out _ hB3.out).2.2.2.1, (World.cell?_of_block (a := ⟨vb, off + k * 5 + 3, none⟩) (hgb.block vb (Nat.lt_of_lt_of_le hvl hB3.out.size) (fun e => hnb9.out vb hvo0 e.symm))).trans (HO.out _ hB3.out).2.2.2.2.1, (World.cell?_of_block (a := ⟨vb, off + k * 5 + 4, none⟩) (hgb.block vb (Nat.lt_of_lt_of_le hvl hB3.out.size) (fun e => hnb9.out vb hvo0 e.symm))).trans (HO.out _ hB3.out).2.2.2.2.2⟩
        obtain ⟨Az, cz, rfl⟩ := own_form5 hob
        rw [← lksL_snoc] at hob
        have y1 := hO4.out.cell (j := 2) rfl; have y2 := hO4.out.frozen 2; have y3 := hO4.out.lt
        have hO9 := Lib.hid (hO4.out.set 2 (.slice Az (m + 1) cz))
        have hK9 := Lib.hid (hK4.out.set (a := ⟨ob, 2, none⟩) (.slice Az (m + 1) cz) (.inl (by simp)))
        have hR9 : Hid ((wb.setCell ⟨ob, 2, none⟩ (.slice Az (m + 1) cz)).ownsRow (ob + 1) 51 5 (.slice Az (m + 1) cz) (m + 1) (lksL (l ++ [(co, ho, gg, nn, dd)]))) := hob.kept (grown_set wb ⟨ob, 2, none⟩ _) (.inr fun e => by have := (hob.lt ob e).1; omega)
        clear hob hgb hnb hB3
        refine hK.out _ _ hS4.out (fun _ => ?_)
        clear hK K
        try simp only [Act.put, List.setIfInBounds_toArray]
        refine wpAnyH_take (i := 9) (oi := _) (v := ?_) rfl (by kernel_rfl) (by kernel_rfl) (by kernel_rfl) (fun _ _ _ h => h) (Or.inl ⟨by rfl, ?_⟩) (hS4.out) ?_
        rotate_left
        · (intro w hSw; obtain ⟨q0, q1, q2, q3, q4, q5⟩ := hSw; go_simp <;> with_reducible rfl)
        try simp only [Act.put]
        refine wpAnyH_ready (rs := [10]) (by kernel_rfl) (by simp) ?_
        refine AllReadyH.cons (o := _) rfl (fun K hK => ?_) ?_
        · go_simp
          refine hK.out _ _ ⟨(World.cell?_setCell_other _ _ _ _ (fun e => by injection e with e1 _; first | exact hxo e1 | exact hxo e1.symm)).trans hS4.out.1, (World.cell?_setCell_other _ _ _ _ (fun e => by injection e with e1 _; first | exact hvo e1 | exact hvo e1.symm)).trans hS4.out.2.1, (World.cell?_setCell_other _ _ _ _ (fun e => by injection e with e1 _; first | exact hvo e1 | exact hvo e1.symm)).trans hS4.out.2.2.1, (World.cell?_setCell_other _ _ _ _ (fun e => by injection e with e1 _; first | exact hvo e1 | exact hvo e1.symm)).trans hS4.out.2.2.2.1, (World.cell?_setCell_other _ _ _ _ (fun e => by injection e with e1 _; first | exact hvo e1 | exact hvo e1.symm)).trans hS4.out.2.2.2.2.1, (World.cell?_setCell_other _ _ _ _ (fun e => by injection e with e1 _; first | exact hvo e1 | exact hvo e1.symm)).trans hS4.out.2.2.2.2.2⟩ (fun _ => ?_)
          clear hK K
          try simp only [Act.put, List.setIfInBounds_toArray, List.set_cons_zero, List.set_cons_succ]
          refine wpAnyH_done (by kernel_rfl) ?_ _
          refine NoPanic.normal ?_
          exact h.out _ _ _ _ _ _ _ _ _ _ Az cz _ hO9 hK9 hR9
        exact AllReadyH.nil
      exact AllReadyH.nil
    exact AllReadyH.nil
  refine AllReadyH.cons (o := _) rfl (fun K hK => ?_) ?_
  · go_simp
    refine hK.out _ _ (HO.out _ hB3.out) (fun _ => ?_)
    clear hK K
    try simp only [Act.put, List.setIfInBounds_toArray, List.set_cons_zero, List.set_cons_succ]
    refine wpAnyH_ready (rs := [1]) (by kernel_rfl) (by simp) ?_
    refine AllReadyH.cons (o := _) rfl (fun K hK => ?_) ?_
    · have hh := (hB3.out.cell (p := ⟨ob, 2, none⟩) hol).trans hO2
      go_simp
      clear hh
      refine hK.out _ _ (HO.out _ hB3.out) (fun _ => ?_)
      clear hK K
      try simp only [Act.put, List.setIfInBounds_toArray, List.set_cons_zero, List.set_cons_succ]
      refine wpAnyH_ready (rs := [8]) (by kernel_rfl) (by simp) ?_
      refine AllReadyH.cons (o := _) rfl (fun K hK => ?_) ?_
      · rw [if_pos (by rfl)]
        refine wp_append_new _ _ _ 23 rfl (ob + 1) 51 i0 zl 5 56 Tryz.underlying23 hi0.out hz0.out hz1.out hz2.out hzc.out (by decide) (.slice A m c) m (lksL l) rfl (own_below' hR.out hB3.out) ⟨w.heap.size, 0, none⟩ 1 1 (lkL (co, ho, gg, nn, dd)) rfl rfl (head_lk w (co, ho, gg, nn, dd) 51) (one_lk _) (by omega) (by unfold maxLen; omega) (by omega) (Nat.le_trans hol hB3.out.size) ?_
        intro vb7 wb hob hgb hnb
        have hO4 := Lib.hid ((hO.out.below hB3.out).grown hgb hno.out)
        have hK4 := Lib.hid ((hK0.out.below hB3.out).grown hgb hrow.out)
        have hS4 : Hid (wb.cell? ⟨xb, 2, none⟩ = some (.slice (some ⟨vb, off, none⟩) len cv) ∧ wb.cell? ⟨vb, off + k * 5, none⟩ = some (.int .i64 co) ∧ wb.cell? ⟨vb, off + k * 5 + 1, none⟩ = some (.int .i64 ho) ∧ wb.cell? ⟨vb, off + k * 5 + 2, none⟩ = some (.bool gg) ∧ wb.cell? ⟨vb, off + k * 5 + 3, none⟩ = some (.string nn) ∧ wb.cell? ⟨vb, off + k * 5 + 4, none⟩ = some (.string dd)) := ⟨(World.cell?_of_block (a := ⟨xb, 2, none⟩) (hgb.block xb (Nat.lt_of_lt_of_le hxl hB3.out.size) (fun e => hnb9.out xb hxo0 e.symm))).trans (HO.out _ hB3.out).1, (World.cell?_of_block (a := ⟨vb, off + k * 5, none⟩) (hgb.block vb (Nat.lt_of_lt_of_le hvl hB3.out.size) (fun e => hnb9.out vb hvo0 e.symm))).trans (HO.out _ hB3.out).2.1, (World.cell?_of_block (a := ⟨vb, off + k * 5 + 1, none⟩) (hgb.block vb (Nat.lt_of_lt_of_le hvl hB3.out.size) (fun e => hnb9.out vb hvo0 e.symm))).trans (HO.out _ hB3.out).2.2.1, (World.cell?_of_block (a := ⟨vb, off + k * 5 + 2, none⟩) (hgb.block vb (Nat.lt_of_lt_of_le hvl hB3.out.size) (fun e => hnb9.out vb hvo0 e.symm))).trans (HO.out _ hB3.out).2.2.2.1, (World.cell?_of_block (a := ⟨vb, off + k * 5 + 3, none⟩) (hgb.block vb (Nat.lt_of_lt_of_le hvl hB3.out.size) (fun e => hnb9.out vb hvo0 e.symm))).trans (HO.out _ hB3.out).2.2.2.2.1, (World.cell?_of_block (a := ⟨vb, off + k * 5 + 4, none⟩) (hgb.block vb (Nat.lt_of_lt_of_le hvl hB3.out.size) (fun e => hnb9.out vb hvo0 e.symm))).trans (HO.out _ hB3.out).2.2.2.2.2⟩
        obtain ⟨Az, cz, rfl⟩ := own_form5 hob
        rw [← lksL_snoc] at hob
        have y1 := hO4.out.cell (j := 2) rfl; have y2 := hO4.out.frozen 2; have y3 := hO4.out.lt
        have hO9 := Lib.hid (hO4.out.set 2 (.slice Az (m + 1) cz))
        have hK9 := Lib.hid (hK4.out.set (a := ⟨ob, 2, none⟩) (.slice Az (m + 1) cz) (.inl (by simp)))
        have hR9 : Hid ((wb.setCell ⟨ob, 2, none⟩ (.slice Az (m + 1) cz)).ownsRow (ob + 1) 51 5 (.slice Az (m + 1) cz) (m + 1) (lksL (l ++ [(co, ho, gg, nn, dd)]))) := hob.kept (grown_set wb ⟨ob, 2, none⟩ _) (.inr fun e => by have := (hob.lt ob e).1; omega)
        clear hob hgb hnb hB3
        refine hK.out _ _ hS4.out (fun _ => ?_)
        clear hK K
        try simp only [Act.put, List.setIfInBounds_toArray]
        refine wpAnyH_take (i := 9) (oi := _) (v := ?_) rfl (by kernel_rfl) (by kernel_rfl) (by kernel_rfl) (fun _ _ _ h => h) (Or.inl ⟨by rfl, ?_⟩) (hS4.out) ?_
        rotate_left
        · (intro w hSw; obtain ⟨q0, q1, q2, q3, q4, q5⟩ := hSw; go_simp <;> with_reducible rfl)
        try simp only [Act.put]
        refine wpAnyH_ready (rs := [10]) (by kernel_rfl) (by simp) ?_
        refine AllReadyH.cons (o := _) rfl (fun K hK => ?_) ?_
        · go_simp
          refine hK.out _ _ ⟨(World.cell?_setCell_other _ _ _ _ (fun e => by injection e with e1 _; first | exact hxo e1 | exact hxo e1.symm)).trans hS4.out.1, (World.cell?_setCell_other _ _ _ _ (fun e => by injection e with e1 _; first | exact hvo e1 | exact hvo e1.symm)).trans hS4.out.2.1, (World.cell?_setCell_other _ _ _ _ (fun e => by injection e with e1 _; first | exact hvo e1 | exact hvo e1.symm)).trans hS4.out.2.2.1, (World.cell?_setCell_other _ _ _ _ (fun e => by injection e with e1 _; first | exact hvo e1 | exact hvo e1.symm)).trans hS4.out.2.2.2.1, (World.cell?_setCell_other _ _ _ _ (fun e => by injection e with e1 _; first | exact hvo e1 | exact hvo e1.symm)).trans hS4.out.2.2.2.2.1, (World.cell?_setCell_other _ _ _ _ (fun e => by injection e with e1 _; first | exact hvo e1 | exact hvo e1.symm)).trans hS4.out.2.2.2.2.2⟩ (fun _ => ?_)
          clear hK K
          try simp only [Act.put, List.setIfInBounds_toArray, List.set_cons_zero, List.set_cons_succ]
          refine wpAnyH_done (by kernel_rfl) ?_ _
          refine NoPanic.normal ?_
          exact h.out _ _ _ _ _ _ _ _ _ _ Az cz _ hO9 hK9 hR9
        exact AllReadyH.nil
      exact AllReadyH.nil
    exact AllReadyH.nil
  exact AllReadyH.nil
end Co
end Go.Proofs.YtmekiidknjjfcaaGreatDoor

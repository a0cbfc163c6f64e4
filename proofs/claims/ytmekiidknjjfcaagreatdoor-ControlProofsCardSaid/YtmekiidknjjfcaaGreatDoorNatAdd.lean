/- The walk of natural's add. -/
import Derived.Test.YtmekiidknjjfcaaGreatDoorNatSub
namespace Go.Proofs.YtmekiidknjjfcaaGreatDoor
open Go.RowKit
namespace Nt

def RelAdd (B : Nat) (w : World) (xs ys : List Nat) (v : Value) (k c : Nat) (wr : World) : Prop :=
  ∃ zs, InR zs ∧ Own 45 B wr v k zs ∧ c ≤ 1 ∧ lv zs + c * 1000000000 ^ k = lo xs k + lo ys k ∧ Below B w wr

theorem add_step {Z X Y P c c' x y : Nat} (h : Z + c * P = X + Y) (hc : c' = (x + c + y) / 1000000000) :
    Z + P * ((x + c + y) % 1000000000) + c' * (P * 1000000000) = X + P * x + (Y + P * y) := by
  have e1 : P * (x + c + y) = P * x + P * c + P * y := by rw [Nat.mul_add, Nat.mul_add]
  have e2 : P * (x + c + y) = P * ((x + c + y) % 1000000000) + P * (1000000000 * ((x + c + y) / 1000000000)) := by rw [← Nat.mul_add, Nat.mod_add_div]
  have e3 : c' * (P * 1000000000) = P * (1000000000 * ((x + c + y) / 1000000000)) := by rw [hc, Nat.mul_comm, Nat.mul_assoc]
  have e4 : c * P = P * c := Nat.mul_comm _ _
  omega

theorem add_rel {B : Nat} {w wr w' : World} {xs ys zs : List Nat} {v v' : Value} {k c : Nat} {x : Int} (h1 : InR zs) (h2 : Own 45 B wr v k zs) (h3 : c ≤ 1)
    (h4 : lv zs + c * 1000000000 ^ k = lo xs k + lo ys k) (h5 : Below B w wr) (hx : InR xs) (hy : InR ys) (hB : B ≤ wr.heap.size) {o : Obj}
    (hown : w'.ownsRow B 45 1 v' (k + 1) (lvals zs ++ [Value.int .u64 x])) (hg : (wr.alloc o).grownBy w' v.ownBlock) (hvB : ∀ b, v.ownBlock = some b → B ≤ b)
    (hxe : x = (((lim xs k + c + lim ys k) % 1000000000 : Nat) : Int)) :
    RelAdd B w xs ys v' (k + 1) ((lim xs k + c + lim ys k) / 1000000000) w' := by
  have b1 := hx.lim k
  have b2 := hy.lim k
  subst hxe
  rw [lvals_snoc] at hown
  have hl := h2.len
  refine ⟨zs ++ [(lim xs k + c + lim ys k) % 1000000000], ?_, hown, by omega, ?_, (h5.alloc hB o).grown hg (by simp; omega) (fun b e => hvB b e)⟩
  · intro y hy
    rcases List.mem_append.1 hy with h | h
    · exact h1 y h
    · simp at h; subst h; exact Nat.mod_lt _ (by omega)
  · rw [lv_append, hl, lo_succ, lo_succ, Nat.pow_succ]
    simp only [lv, Nat.mul_zero, Nat.add_zero]
    exact add_step h4 rfl

theorem cast_rem3 (a b c : Nat) : ((a : Int) + b + c) % 1000000000 = (((a + b + c) % 1000000000 : Nat) : Int) := by
  rw [Int.natCast_emod, Int.natCast_add, Int.natCast_add]; rfl
theorem cast_quo3 (a b c : Nat) : ((a : Int) + b + c) / 1000000000 = (((a + b + c) / 1000000000 : Nat) : Int) := by
  rw [Int.natCast_ediv, Int.natCast_add, Int.natCast_add]; rfl
theorem cast_rem2 (a b : Nat) : ((a : Int) + b) % 1000000000 = (((a + b) % 1000000000 : Nat) : Int) := by
  rw [Int.natCast_emod, Int.natCast_add]; rfl
theorem cast_quo2 (a b : Nat) : ((a : Int) + b) / 1000000000 = (((a + b) / 1000000000 : Nat) : Int) := by
  rw [Int.natCast_ediv, Int.natCast_add]; rfl

theorem add_end {B : Nat} {w wr w' : World} {xs ys zs : List Nat} {v v' : Value} {c : Nat} {x : Int} (h1 : InR zs) (h2 : Own 45 B wr v xs.length zs) (h3 : c ≤ 1)
    (h4 : lv zs + c * 1000000000 ^ xs.length = lo xs xs.length + lo ys xs.length) (h5 : Below B w wr) (hyl : ys.length ≤ xs.length) (hB : B ≤ wr.heap.size) {o : Obj}
    (hown : w'.ownsRow B 45 1 v' (xs.length + 1) (lvals zs ++ [Value.int .u64 x])) (hg : (wr.alloc o).grownBy w' v.ownBlock) (hvB : ∀ b, v.ownBlock = some b → B ≤ b) (hxe : x = (c : Int)) :
    ∃ us, InR us ∧ Sl w' v' us ∧ us.length = xs.length + 1 ∧ lv us = lv xs + lv ys ∧ Below B w w' := by
  subst hxe
  rw [lvals_snoc] at hown
  have hl := h2.len
  have ho : Own 45 B w' v' (xs.length + 1) (zs ++ [c]) := hown
  refine ⟨zs ++ [c], ?_, ho.sl, ho.len, ?_, (h5.alloc hB o).grown hg (by simp; omega) (fun b e => hvB b e)⟩
  · intro y hy
    rcases List.mem_append.1 hy with h | h
    · exact h1 y h
    · simp at h; omega
  · rw [lo_all _ _ (Nat.le_refl _), lo_all _ _ hyl] at h4
    rw [lv_append, hl]
    simp only [lv, Nat.mul_zero, Nat.add_zero]
    have : c * 1000000000 ^ xs.length = 1000000000 ^ xs.length * c := Nat.mul_comm _ _
    omega

def RelAddAt (B : Nat) (w : World) (xs ys : List Nat) (g cap : Nat) (out carry i : Value) (wr : World) : Prop :=
  ∃ k c : Nat, k ≤ xs.length ∧ i = .int .i64 k ∧ carry = .int .u64 c ∧ out = .slice (some ⟨g, 0, none⟩) k cap ∧ RelAdd B w xs ys out k c wr

set_option maxHeartbeats 2000000 in
theorem add_walk (w : World) (a : Option Addr) (cap : Nat) (xs : List Nat) (c : Option Addr) (cap' : Nat) (ys : List Nat) (hl : xs.length ≤ 1000) (hyl : ys.length ≤ xs.length)
    (hx : InR xs) (hy : InR ys)
    (ha : xs ≠ [] → ∃ b off, a = some ⟨b, off, none⟩ ∧ b < w.heap.size ∧ ∀ i, i < xs.length → w.cell? ⟨b, off + i, none⟩ = some (.int .u64 (lim xs i)))
    (hc : ys ≠ [] → ∃ b off, c = some ⟨b, off, none⟩ ∧ b < w.heap.size ∧ ∀ i, i < ys.length → w.cell? ⟨b, off + i, none⟩ = some (.int .u64 (lim ys i))) :
    Calls Tryz.prog 95 #[.slice a xs.length cap, .slice c ys.length cap'] w (PostNumV w.heap.size w (lv xs + lv ys)) := by
  obtain ⟨i0, hi, hz0, hz1, hz2⟩ := info_parts infoU
  have hlt : ¬ xs.length < ys.length := by omega
  go_enter Tryz.func95, Tryz.ntmps95
  go_wp2_with (at_make; refine wpList_make_own _ rfl _ _ 124 rfl w.heap.size 45 i0 (.int .u64 0) 1 Tryz.underlying124 hi hz0 hz1 _ _ _ (xs.length + 1) rfl rfl (by omega) (by rw [hz2]; omega) (by unfold maxLen; omega) (Nat.le_refl _) ?_; intro w1 hown1 hgr1)
  go_loopw [5, 6, 22] (fun out carry i wr => RelAddAt w.heap.size w xs ys w.heap.size (xs.length + 1) out carry i wr)
    (fun _ _ i _ => xs.length - (intOf i).toNat)
  case atStart => exact ⟨0, 0, Nat.zero_le _, rfl, rfl, rfl, [], (fun x hx => absurd hx (by simp)), hown1, Nat.zero_le _, by simp [lo_zero, lv], (Below.refl _ _).grown hgr1 (Nat.le_refl _) (fun k h => by cases h)⟩
  case round =>
    obtain ⟨k, b, hk, rfl, rfl, rfl, zs, z1, z2, z3, z4, z5⟩ := hrel
    have hsz := z5.size
    by_cases hkn : k < xs.length
    · obtain ⟨bx, ox, hax, hbx, hcx⟩ := ha (by intro e; simp [e] at hkn)
      have hcxk := (z5.cell (p := ⟨bx, ox + k, none⟩) hbx).trans (hcx k hkn)
      have hxk := hx.lim k
      have hyk := hy.lim k
      subst hax
      clear hcx ha hown1 hgr1
      by_cases hky : k < ys.length
      · obtain ⟨b2, oy, hay, hby, hcy⟩ := hc (by intro e; simp [e] at hky)
        subst hay
        have hcyk := z5.cell (p := ⟨b2, oy + k, none⟩) hby |>.trans (hcy k hky)
        replace z1 := Lib.hid z1
        replace z4 := Lib.hid z4
        replace z5 := Lib.hid z5
        replace hx := Lib.hid hx
        replace hy := Lib.hid hy
        have HO := z2
        clear hc hcy
        go_wp2_with (at_builtin; refine wpList_append_fits _ rfl _ _ 124 rfl w.heap.size 45 i0 1 Tryz.underlying124 hi hz1 w.heap.size k (xs.length + 1) (lvals zs) rfl (HO.alloc _) ⟨wr.heap.size, 0, none⟩ 1 1 [.int .u64 (((lim xs k : Int) + b + lim ys k) % 1000000000)] rfl rfl (one_new _ _ _) (one_cell _ _) (by omega) ?_; intro w2 hown2 hgr2)
        refine ⟨⟨k + 1, (lim xs k + b + lim ys k) / 1000000000, by omega, by go_num, congrArg (Value.int .u64) (cast_quo3 _ _ _), rfl, ?_⟩, by simp only [intOf]; omega⟩
        exact add_rel z1.out z2 z3 z4.out z5.out hx.out hy.out hsz hown2 hgr2 (fun b e => by cases e; exact Nat.le_refl _) (cast_rem3 _ _ _)
      · have HY0 := Lib.hid (lim_ge ys k (by omega))
        replace z1 := Lib.hid z1
        replace z4 := Lib.hid z4
        replace z5 := Lib.hid z5
        replace hx := Lib.hid hx
        replace hy := Lib.hid hy
        have HO := z2
        clear hc hyk
        go_wp2_with (at_builtin; refine wpList_append_fits _ rfl _ _ 124 rfl w.heap.size 45 i0 1 Tryz.underlying124 hi hz1 w.heap.size k (xs.length + 1) (lvals zs) rfl (HO.alloc _) ⟨wr.heap.size, 0, none⟩ 1 1 [.int .u64 (((lim xs k : Int) + b) % 1000000000)] rfl rfl (one_new _ _ _) (one_cell _ _) (by omega) ?_; intro w2 hown2 hgr2)
        have e0 := HY0.out
        refine ⟨⟨k + 1, (lim xs k + b + lim ys k) / 1000000000, by omega, by go_num, ?_, rfl, ?_⟩, by simp only [intOf]; omega⟩
        · rw [e0, Nat.add_zero]; exact congrArg (Value.int .u64) (cast_quo2 _ _)
        · exact add_rel z1.out z2 z3 z4.out z5.out hx.out hy.out hsz hown2 hgr2 (fun b e => by cases e; exact Nat.le_refl _) (by rw [e0, Nat.add_zero]; exact cast_rem2 _ _)
    · obtain rfl : k = xs.length := by omega
      replace z1 := Lib.hid z1
      replace z4 := Lib.hid z4
      replace z5 := Lib.hid z5
      have HO := z2
      clear ha hc hx hy hown1 hgr1
      go_wp2_with (at_builtin; refine wpList_append_fits _ rfl _ _ 124 rfl w.heap.size 45 i0 1 Tryz.underlying124 hi hz1 w.heap.size xs.length (xs.length + 1) (lvals zs) rfl (HO.alloc _) ⟨wr.heap.size, 0, none⟩ 1 1 [.int .u64 (b : Int)] rfl rfl (one_new _ _ _) (one_cell _ _) (by omega) ?_; intro w2 hown2 hgr2)
      obtain ⟨us, u1, u2, u3, u4, u5⟩ := add_end z1.out z2 z3 z4.out z5.out (by omega) hsz hown2 hgr2 (fun b e => by cases e; exact Nat.le_refl _) rfl
      have U3 := Lib.hid u3
      have U4 := Lib.hid u4
      clear u3 u4 hown2 hgr2
      refine (trim_any _ _ us (by have := U3.out; omega) u2).mono ?_
      rintro e w' ⟨v, k, rfl, ht, hs, hf, rfl⟩
      go_wp2
      go_ret
      exact ⟨v, rfl, ⟨us.take k, ht.canon u1, by rw [ht.lv, U4.out], hs⟩, hf _ (Nat.le_refl _), u5⟩

set_option maxHeartbeats 2000000 in
theorem add_walk_swap (w : World) (a : Option Addr) (cap : Nat) (xs : List Nat) (c : Option Addr) (cap' : Nat) (ys : List Nat) (hl : xs.length ≤ 1000) (hyl : ys.length < xs.length)
    (hx : InR xs) (hy : InR ys)
    (ha : xs ≠ [] → ∃ b off, a = some ⟨b, off, none⟩ ∧ b < w.heap.size ∧ ∀ i, i < xs.length → w.cell? ⟨b, off + i, none⟩ = some (.int .u64 (lim xs i)))
    (hc : ys ≠ [] → ∃ b off, c = some ⟨b, off, none⟩ ∧ b < w.heap.size ∧ ∀ i, i < ys.length → w.cell? ⟨b, off + i, none⟩ = some (.int .u64 (lim ys i))) :
    Calls Tryz.prog 95 #[.slice c ys.length cap', .slice a xs.length cap] w (PostNumV w.heap.size w (lv xs + lv ys)) := by
  obtain ⟨i0, hi, hz0, hz1, hz2⟩ := info_parts infoU
  have hlt : ys.length < xs.length := hyl
  go_enter Tryz.func95, Tryz.ntmps95
  go_wp2_with (at_make; refine wpList_make_own _ rfl _ _ 124 rfl w.heap.size 45 i0 (.int .u64 0) 1 Tryz.underlying124 hi hz0 hz1 _ _ _ (xs.length + 1) rfl rfl (by omega) (by rw [hz2]; omega) (by unfold maxLen; omega) (Nat.le_refl _) ?_; intro w1 hown1 hgr1)
  go_loopw [5, 6, 22] (fun out carry i wr => RelAddAt w.heap.size w xs ys w.heap.size (xs.length + 1) out carry i wr)
    (fun _ _ i _ => xs.length - (intOf i).toNat)
  case atStart => exact ⟨0, 0, Nat.zero_le _, rfl, rfl, rfl, [], (fun x hx => absurd hx (by simp)), hown1, Nat.zero_le _, by simp [lo_zero, lv], (Below.refl _ _).grown hgr1 (Nat.le_refl _) (fun k h => by cases h)⟩
  case round =>
    obtain ⟨k, b, hk, rfl, rfl, rfl, zs, z1, z2, z3, z4, z5⟩ := hrel
    have hsz := z5.size
    by_cases hkn : k < xs.length
    · obtain ⟨bx, ox, hax, hbx, hcx⟩ := ha (by intro e; simp [e] at hkn)
      have hcxk := (z5.cell (p := ⟨bx, ox + k, none⟩) hbx).trans (hcx k hkn)
      have hxk := hx.lim k
      have hyk := hy.lim k
      subst hax
      clear hcx ha hown1 hgr1
      by_cases hky : k < ys.length
      · obtain ⟨b2, oy, hay, hby, hcy⟩ := hc (by intro e; simp [e] at hky)
        subst hay
        have hcyk := z5.cell (p := ⟨b2, oy + k, none⟩) hby |>.trans (hcy k hky)
        replace z1 := Lib.hid z1
        replace z4 := Lib.hid z4
        replace z5 := Lib.hid z5
        replace hx := Lib.hid hx
        replace hy := Lib.hid hy
        have HO := z2
        clear hc hcy
        go_wp2_with (at_builtin; refine wpList_append_fits _ rfl _ _ 124 rfl w.heap.size 45 i0 1 Tryz.underlying124 hi hz1 w.heap.size k (xs.length + 1) (lvals zs) rfl (HO.alloc _) ⟨wr.heap.size, 0, none⟩ 1 1 [.int .u64 (((lim xs k : Int) + b + lim ys k) % 1000000000)] rfl rfl (one_new _ _ _) (one_cell _ _) (by omega) ?_; intro w2 hown2 hgr2)
        refine ⟨⟨k + 1, (lim xs k + b + lim ys k) / 1000000000, by omega, by go_num, congrArg (Value.int .u64) (cast_quo3 _ _ _), rfl, ?_⟩, by simp only [intOf]; omega⟩
        exact add_rel z1.out z2 z3 z4.out z5.out hx.out hy.out hsz hown2 hgr2 (fun b e => by cases e; exact Nat.le_refl _) (cast_rem3 _ _ _)
      · have HY0 := Lib.hid (lim_ge ys k (by omega))
        replace z1 := Lib.hid z1
        replace z4 := Lib.hid z4
        replace z5 := Lib.hid z5
        replace hx := Lib.hid hx
        replace hy := Lib.hid hy
        have HO := z2
        clear hc hyk
        go_wp2_with (at_builtin; refine wpList_append_fits _ rfl _ _ 124 rfl w.heap.size 45 i0 1 Tryz.underlying124 hi hz1 w.heap.size k (xs.length + 1) (lvals zs) rfl (HO.alloc _) ⟨wr.heap.size, 0, none⟩ 1 1 [.int .u64 (((lim xs k : Int) + b) % 1000000000)] rfl rfl (one_new _ _ _) (one_cell _ _) (by omega) ?_; intro w2 hown2 hgr2)
        have e0 := HY0.out
        refine ⟨⟨k + 1, (lim xs k + b + lim ys k) / 1000000000, by omega, by go_num, ?_, rfl, ?_⟩, by simp only [intOf]; omega⟩
        · rw [e0, Nat.add_zero]; exact congrArg (Value.int .u64) (cast_quo2 _ _)
        · exact add_rel z1.out z2 z3 z4.out z5.out hx.out hy.out hsz hown2 hgr2 (fun b e => by cases e; exact Nat.le_refl _) (by rw [e0, Nat.add_zero]; exact cast_rem2 _ _)
    · obtain rfl : k = xs.length := by omega
      replace z1 := Lib.hid z1
      replace z4 := Lib.hid z4
      replace z5 := Lib.hid z5
      have HO := z2
      clear ha hc hx hy hown1 hgr1
      go_wp2_with (at_builtin; refine wpList_append_fits _ rfl _ _ 124 rfl w.heap.size 45 i0 1 Tryz.underlying124 hi hz1 w.heap.size xs.length (xs.length + 1) (lvals zs) rfl (HO.alloc _) ⟨wr.heap.size, 0, none⟩ 1 1 [.int .u64 (b : Int)] rfl rfl (one_new _ _ _) (one_cell _ _) (by omega) ?_; intro w2 hown2 hgr2)
      obtain ⟨us, u1, u2, u3, u4, u5⟩ := add_end z1.out z2 z3 z4.out z5.out (by omega) hsz hown2 hgr2 (fun b e => by cases e; exact Nat.le_refl _) rfl
      have U3 := Lib.hid u3
      have U4 := Lib.hid u4
      clear u3 u4 hown2 hgr2
      refine (trim_any _ _ us (by have := U3.out; omega) u2).mono ?_
      rintro e w' ⟨v, k, rfl, ht, hs, hf, rfl⟩
      go_wp2
      go_ret
      exact ⟨v, rfl, ⟨us.take k, ht.canon u1, by rw [ht.lv, U4.out], hs⟩, hf _ (Nat.le_refl _), u5⟩

/-- add, at every two numbers. -/
theorem add_any (w : World) (v u : Value) (n m : Nat) (hn : Num w v n) (hm : Num w u m) (hbn : Small n) (hbm : Small m) :
    Calls Tryz.prog 95 #[v, u] w (PostNumV w.heap.size w (n + m)) := by
  obtain ⟨xs, hx, rfl, hsx⟩ := hn
  obtain ⟨ys, hy, rfl, hsy⟩ := hm
  have hl := hx.len_le (k := 200) hbn
  have hyl := hy.len_le (k := 200) hbm
  obtain ⟨a, cap, rfl, ha⟩ := hsx.addr
  obtain ⟨c, cap', rfl, hc⟩ := hsy.addr
  by_cases h : ys.length ≤ xs.length
  · exact add_walk w a cap xs c cap' ys (by omega) h hx.1 hy.1 ha hc
  · rw [Nat.add_comm]
    exact add_walk_swap w c cap' ys a cap xs (by omega) (by omega) hy.1 hx.1 hc ha

end Nt
end Go.Proofs.YtmekiidknjjfcaaGreatDoor

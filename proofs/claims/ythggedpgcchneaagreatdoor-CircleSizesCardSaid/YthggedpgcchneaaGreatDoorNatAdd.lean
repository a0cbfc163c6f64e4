/- The walk of natural's add. -/
import Derived.Test.YthggedpgcchneaaGreatDoorNatSub
namespace Go.Proofs.YthggedpgcchneaaGreatDoor
open Go.RowKit
namespace Nt

def RelAdd (B : Nat) (w : World) (xs ys : List Nat) (v : Value) (k c : Nat) (wr : World) : Prop :=
  ∃ zs, InR zs ∧ Own 79 B wr v k zs ∧ c ≤ 1 ∧ lv zs + c * 1000000000 ^ k = lo xs k + lo ys k ∧ Below B w wr

theorem add_step {Z X Y P c c' x y : Nat} (h : Z + c * P = X + Y) (hc : c' = (x + c + y) / 1000000000) :
    Z + P * ((x + c + y) % 1000000000) + c' * (P * 1000000000) = X + P * x + (Y + P * y) := by
  have e1 : P * (x + c + y) = P * x + P * c + P * y := by rw [Nat.mul_add, Nat.mul_add]
  have e2 : P * (x + c + y) = P * ((x + c + y) % 1000000000) + P * (1000000000 * ((x + c + y) / 1000000000)) := by rw [← Nat.mul_add, Nat.mod_add_div]
  have e3 : c' * (P * 1000000000) = P * (1000000000 * ((x + c + y) / 1000000000)) := by rw [hc, Nat.mul_comm, Nat.mul_assoc]
  have e4 : c * P = P * c := Nat.mul_comm _ _
  omega

theorem add_rel {B : Nat} {w wr w' : World} {xs ys zs : List Nat} {v v' : Value} {k c : Nat} {x : Int} (h1 : InR zs) (h2 : Own 79 B wr v k zs) (h3 : c ≤ 1)
    (h4 : lv zs + c * 1000000000 ^ k = lo xs k + lo ys k) (h5 : Below B w wr) (hx : InR xs) (hy : InR ys) (hB : B ≤ wr.heap.size) {o : Obj}
    (hown : w'.ownsRow B 79 1 v' (k + 1) (lvals zs ++ [Value.int .u64 x])) (hg : (wr.alloc o).grownBy w' v.ownBlock) (hvB : ∀ b, v.ownBlock = some b → B ≤ b)
    (hxe : x = (((lim xs k + c + lim ys k) % 1000000000 : Nat) : Int)) :
    RelAdd B w xs ys v' (k + 1) ((lim xs k + c + lim ys k) / 1000000000) w' := by
  have b1 := hx.lim k
  have b2 := hy.lim k
  subst hxe
  rw [lvals_snoc] at hown
  have hl := h2.len
  refine ⟨zs ++ [(lim xs k + c + lim ys k) % 1000000000], ?_, hown, by omega, ?_, (h5.alloc hB o).grown hg (by simp; omega) (fun b e => hvB b e)⟩
  · intro y hy
    rcases List.mem_append.1 hy with h | h
    · exact h1 y h
    · simp at h; subst h; exact Nat.mod_lt _ (by omega)
  · rw [lv_append, hl, lo_succ, lo_succ, Nat.pow_succ]
    simp only [lv, Nat.mul_zero, Nat.add_zero]
    exact add_step h4 rfl

theorem cast_rem3 (a b c : Nat) : ((a : Int) + b + c) % 1000000000 = (((a + b + c) % 1000000000 : Nat) : Int) := by
  rw [Int.natCast_emod, Int.natCast_add, Int.natCast_add]; rfl
theorem cast_quo3 (a b c : Nat) : ((a : Int) + b + c) / 1000000000 = (((a + b + c) / 1000000000 : Nat) : Int) := by
  rw [Int.natCast_ediv, Int.natCast_add, Int.natCast_add]; rfl
theorem cast_rem2 (a b : Nat) : ((a : Int) + b) % 1000000000 = (((a + b) % 1000000000 : Nat) : Int) := by
  rw [Int.natCast_emod, Int.natCast_add]; rfl
theorem cast_quo2 (a b : Nat) : ((a : Int) + b) / 1000000000 = (((a + b) / 1000000000 : Nat) : Int) := by
  rw [Int.natCast_ediv, Int.natCast_add]; rfl

theorem add_end {B : Nat} {w wr w' : World} {xs ys zs : List Nat} {v v' : Value} {c : Nat} {x : Int} (h1 : InR zs) (h2 : Own 79 B wr v xs.length zs) (h3 : c ≤ 1)
    (h4 : lv zs + c * 1000000000 ^ xs.length = lo xs xs.length + lo ys xs.length) (h5 : Below B w wr) (hyl : ys.length ≤ xs.length) (hB : B ≤ wr.heap.size) {o : Obj}
    (hown : w'.ownsRow B 79 1 v' (xs.length + 1) (lvals zs ++ [Value.int .u64 x])) (hg : (wr.alloc o).grownBy w' v.ownBlock) (hvB : ∀ b, v.ownBlock = some b → B ≤ b) (hxe : x = (c : Int)) :
    ∃ us, InR us ∧ Sl w' v' us ∧ us.length = xs.length + 1 ∧ lv us = lv xs + lv ys ∧ Below B w w' := by
  subst hxe
  rw [lvals_snoc] at hown
  have hl := h2.len
  have ho : Own 79 B w' v' (xs.length + 1) (zs ++ [c]) := hown
  refine ⟨zs ++ [c], ?_, ho.sl, ho.len, ?_, (h5.alloc hB o).grown hg (by simp; omega) (fun b e => hvB b e)⟩
  · intro y hy
    rcases List.mem_append.1 hy with h | h
    · exact h1 y h
    · simp at h; omega
  · rw [lo_all _ _ (Nat.le_refl _), lo_all _ _ hyl] at h4
    rw [lv_append, hl]
    simp only [lv, Nat.mul_zero, Nat.add_zero]
    have : c * 1000000000 ^ xs.length = 1000000000 ^ xs.length * c := Nat.mul_comm _ _
    omega

def RelAddAt (B : Nat) (w : World) (xs ys : List Nat) (g cap : Nat) (out carry i : Value) (wr : World) : Prop :=
  ∃ k c : Nat, k ≤ xs.length ∧ i = .int .i64 k ∧ carry = .int .u64 c ∧ out = .slice (some ⟨g, 0, none⟩) k cap ∧ RelAdd B w xs ys out k c wr

end Nt
end Go.Proofs.YthggedpgcchneaaGreatDoor

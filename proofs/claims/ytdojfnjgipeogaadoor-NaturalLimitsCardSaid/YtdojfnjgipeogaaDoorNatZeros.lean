/- The walk of zeros: a power of ten. -/
import Derived.Test.YtdojfnjgipeogaaDoorNatBytes
import Derived.Test.YtdojfnjgipeogaaDoorNatO2
namespace Go.Proofs.YtdojfnjgipeogaaDoor
open Go.RowKit Go.Shelf
namespace Nt

/-- A power of ten, kept folded. -/
@[irreducible] def pw (n : Nat) : Nat := 10 ^ n
theorem pw_eq (n : Nat) : pw n = 10 ^ n := by unfold pw; rfl
theorem pw_pos (n : Nat) : 0 < pw n := by rw [pw_eq]; exact Nat.pow_pos (by omega)
theorem pw_lim (n : Nat) : pw n < Lim ↔ n < 300 := by
  unfold Lim
  rw [pw_eq, Nat.pow_lt_pow_iff_right (by omega), mxd_eq]
theorem pw_add (i j : Nat) : pw i * pw j = pw (i + j) := by rw [pw_eq, pw_eq, pw_eq, Nat.pow_add]
def zlist (n : Nat) : List UInt8 := 49 :: List.replicate n 48
theorem zlist_dec (n : Nat) : zlist n = Lib.decDigits (pw n) := by
  have hv : dval (zlist n) = pw n := by
    unfold zlist
    have h := dval_zeros n []
    rw [List.append_nil] at h
    rw [dval_cons, h, pw_eq]
    simp [dval]
  rw [← hv]
  refine (decDigits_dval _ _ rfl (by simp [zlist]) (fun c hc => ?_) (.inr (by simp [zlist]))).symm
  unfold zlist at hc
  rcases List.mem_cons.1 hc with h | h
  · subst h; exact ⟨by decide, by decide⟩
  · rw [List.eq_of_mem_replicate h]; exact ⟨by decide, by decide⟩
theorem zlist_T (n : Nat) : (⟨(zlist n).toArray⟩ : ByteArray) = T (some (pw n)) := by rw [zlist_dec]; rfl
theorem zlist_succ (n : Nat) : zlist n ++ [48] = zlist (n + 1) := by unfold zlist; rw [List.replicate_succ']; rfl
theorem zlist_len (n : Nat) : (zlist n).length = n + 1 := by simp [zlist]

def ZRel (w : World) (k : Nat) (v : Value) (wr : World) : Prop := OwnB w.heap.size wr v (zlist k) ∧ Below w.heap.size w wr

set_option maxRecDepth 100000 in
set_option maxHeartbeats 1000000 in
theorem zeros_any (n : Nat) (w : World) (hn : n ≤ 1000) :
    Calls Tryd.prog 21 #[.int .i64 (n : Int)] w fun e w' => e = .returned (.string (T (some (pw n)))) ∧ Below w.heap.size w w' := by
  obtain ⟨i0, hi, hz0, hz1, hz2⟩ := info_parts infoB
  have hT := Lib.hid (zlist_T n)
  go_enter Tryd.func21, Tryd.ntmps21
  go_wp2
  go_loopw [3, 4] (fun v i wr => ∃ k : Nat, k ≤ n ∧ i = .int .i64 (k : Int) ∧ ZRel w k v wr) (fun _ i _ => n - (intOf i).toNat)
  case atStart => exact ⟨0, Nat.zero_le _, rfl, OwnB.lit _ w 49 (Nat.le_refl _), (Below.refl _ w).alloc (Nat.le_refl _) _⟩
  case round =>
    obtain ⟨k, hk, rfl, z1, z2⟩ := hrel
    have hsz := z2.size
    by_cases hlt : k < n
    · have hown : wr.ownsRow w.heap.size 5 1 u3 (zlist k).length (Lib.byteCells (zlist k)) := z1
      have HL := Lib.hid (zlist_len k)
      have HO := Lib.hid hown
      have HB := Lib.hid z2
      clear z1 z2 hown
      go_wp2_with (at_builtin; refine wpList_append_own _ rfl _ _ 56 rfl w.heap.size 5 i0 (.int .u8 0) 1 1 Tryd.underlying56 hi hz0 hz1 hz2 rfl (by decide) u3 (zlist k).length (Lib.byteCells (zlist k)) rfl (HO.out.alloc _) ⟨wr.heap.size, 0, none⟩ 1 1 [.int .u8 48] rfl rfl (one_new _ _ _) (one_cell _ _) (by have := HL.out; unfold maxLen; omega) (by have := HL.out; omega) (by simp; omega) ?_; intro v2 w2 hown2 hgr2 _)
      have h2 : OwnB w.heap.size w2 v2 (zlist (k + 1)) := by
        unfold OwnB
        rw [← zlist_succ, ← byteCells_snoc, List.length_append]
        exact hown2
      refine ⟨⟨k + 1, by omega, by go_num, h2, (HB.out.alloc (by omega) _).grown hgr2 (by simp; omega) (fun b e => (HO.out.lt b e).1)⟩, by simp only [intOf]; omega⟩
    · obtain rfl : k = n := by omega
      have ht := z1.text
      rw [hT.out] at ht
      replace z2 := Lib.hid z2
      clear z1 hT
      go_wp2
      go_ret
      exact ⟨rfl, z2.out⟩

end Nt
end Go.Proofs.YtdojfnjgipeogaaDoor

/- The walk of natural's sub. -/
import Derived.Test.YtmekiidknjjfcaaGreatDoorNatTrim
import Derived.Deep.OwnRows
namespace Go.Proofs.YtmekiidknjjfcaaGreatDoor
open Go.RowKit
namespace Nt

theorem infoU : (Tryz.prog.info? 45).map (fun i => (i.zero, i.size, i.bytes)) = some (some (.int .u64 0), 1, 8) := by kernel_rfl

/-- make(number, n) -/
theorem run_make_num (n : Nat) (hn : n ≤ 1000000) (w : World) :
    (Instr.makeSlice 124 (.int .i64 (n : Int)) (.int .i64 (n : Int))).run Tryz.prog w =
      .ok (.slice (some ⟨w.heap.size, 0, none⟩) n n) (w.alloc (.cells (madeCells #[.int .u64 0] n) 45)) :=
  run_make_row' 124 45 (.int .u64 0) 8 Tryz.underlying124 infoU rfl .i64 .i64 n (by omega) (by omega) w

/-- One step of a subtraction. -/
theorem sub_step {X Y Z B x y br z br' : Nat} (h : Z + Y = X + br * B) (e : z + (y + br) = x + br' * 1000000000) :
    (Z + B * z) + (Y + B * y) = (X + B * x) + br' * (B * 1000000000) := by
  have e2 : B * z + (B * y + B * br) = B * x + B * (br' * 1000000000) := by
    rw [← Nat.mul_add, ← Nat.mul_add, ← Nat.mul_add, e]
  have e3 : br * B = B * br := Nat.mul_comm _ _
  have e4 : B * (br' * 1000000000) = br' * (B * 1000000000) := by rw [← Nat.mul_assoc, Nat.mul_comm B br', Nat.mul_assoc]
  omega

def RelSub (B : Nat) (w : World) (xs ys : List Nat) (g : Nat) (k br : Nat) (wr : World) : Prop :=
  ∃ zs, zs.length = xs.length ∧ InR zs ∧ Row 45 wr g zs ∧ br ≤ 1 ∧ lo zs k + lo ys k = lo xs k + br * 1000000000 ^ k ∧ Below B w wr

theorem RelSub.step {B : Nat} {w wr : World} {xs ys : List Nat} {g k br : Nat} (h : RelSub B w xs ys g k br wr) (hB : B ≤ g) (hk : k < xs.length) {z br' : Nat}
    (hz : z < 1000000000) (hbr : br' ≤ 1) (e : z + (lim ys k + br) = lim xs k + br' * 1000000000) :
    RelSub B w xs ys g (k + 1) br' (wr.setCell ⟨g, k, none⟩ (.int .u64 (z : Int))) := by
  obtain ⟨zs, h1, h2, h3, h4, h5, h6⟩ := h
  refine ⟨zs.set k z, by simpa using h1, h2.set k z hz, h3.set k z, hbr, ?_, h6.setCell hB _⟩
  rw [lo_succ, lo_succ, lo_succ, lo_set, lim_set _ _ _ (by omega), Nat.pow_succ]
  exact sub_step h5 e

theorem RelSub.step' {B : Nat} {w wr : World} {xs ys : List Nat} {g k br : Nat} (h : RelSub B w xs ys g k br wr) (hB : B ≤ g) (hk : k < xs.length) {z br' : Nat} {y : Int}
    (hz : z < 1000000000) (hbr : br' ≤ 1) (e : z + (lim ys k + br) = lim xs k + br' * 1000000000) (hy : y = (z : Int)) :
    RelSub B w xs ys g (k + 1) br' (wr.setCell ⟨g, k, none⟩ (.int .u64 y)) := by
  subst hy; exact h.step hB hk hz hbr e

def PostNumV (B : Nat) (w : World) (n : Nat) (e : Ending) (w' : World) : Prop :=
  ∃ v, e = .returned v ∧ Num w' v n ∧ From B v ∧ Below B w w'

set_option maxHeartbeats 1000000 in
theorem sub_walk (w : World) (a : Option Addr) (cap : Nat) (xs : List Nat) (c : Option Addr) (cap' : Nat) (ys : List Nat) (hl : xs.length ≤ 100000) (hyl : ys.length ≤ xs.length)
    (hx : InR xs) (hy : InR ys) (hle : lv ys ≤ lv xs)
    (ha : xs ≠ [] → ∃ b off, a = some ⟨b, off, none⟩ ∧ b < w.heap.size ∧ ∀ i, i < xs.length → w.cell? ⟨b, off + i, none⟩ = some (.int .u64 (lim xs i)))
    (hc : ys ≠ [] → ∃ b off, c = some ⟨b, off, none⟩ ∧ b < w.heap.size ∧ ∀ i, i < ys.length → w.cell? ⟨b, off + i, none⟩ = some (.int .u64 (lim ys i))) :
    Calls Tryz.prog 98 #[.slice a xs.length cap, .slice c ys.length cap'] w (PostNumV w.heap.size w (lv xs - lv ys)) := by
  have hmk := run_make_num xs.length (by omega)
  go_enter Tryz.func98, Tryz.ntmps98
  go_wp2
  go_loopw [6, 15] (fun br i wr => ∃ k b : Nat, k ≤ xs.length ∧ i = .int .i64 k ∧ br = .int .u64 b ∧ RelSub w.heap.size w xs ys w.heap.size k b wr)
    (fun _ i _ => xs.length - (intOf i).toNat)
  case atStart => exact ⟨0, 0, Nat.zero_le _, rfl, rfl, List.replicate xs.length 0, by simp, InR.zeros _, Row.made0 _ _ _, Nat.zero_le _, by simp [lo_zero], (Below.refl _ _).alloc (Nat.le_refl _) _⟩
  case round =>
    obtain ⟨k, b, hk, rfl, rfl, hrel⟩ := hrel
    by_cases hkn : k < xs.length
    · obtain ⟨bx, ox, hax, hbx, hcx⟩ := ha (by intro e; simp [e] at hkn)
      obtain ⟨zs, z1, z2, z3, z4, z5, z6⟩ := id hrel
      have hcxk := (z6.cell (p := ⟨bx, ox + k, none⟩) hbx).trans (hcx k hkn)
      have hxk := hx.lim k
      have hyk := hy.lim k
      have hzf := z3.frozen k
      have hzc := z3.cell (i := k) (by omega)
      subst hax
      clear hcx ha z2 z3 z5 hx hy hmk
      replace z6 := Lib.hid z6
      by_cases hky : k < ys.length
      · obtain ⟨b2, oy, hay, hby, hcy⟩ := hc (by intro e; simp [e] at hky)
        subst hay
        have hcyk := (Hid.out z6).cell (p := ⟨b2, oy + k, none⟩) hby |>.trans (hcy k hky)
        have HR := Lib.hid hrel
        clear hrel hc hcy z6
        by_cases hlt : lim xs k < b + lim ys k
        · go_wp2
          exact ⟨⟨k + 1, 1, by omega, by go_num, rfl, HR.out.step' (Nat.le_refl _) hkn (z := lim xs k + 1000000000 - (b + lim ys k)) (by omega) (by omega) (by omega) (by omega)⟩, by simp only [intOf]; omega⟩
        · go_wp2
          exact ⟨⟨k + 1, 0, by omega, by go_num, rfl, HR.out.step' (Nat.le_refl _) hkn (z := lim xs k - (b + lim ys k)) (by omega) (by omega) (by omega) (by omega)⟩, by simp only [intOf]; omega⟩
      · clear hc z6
        have hyk0 := lim_ge ys k (by omega)
        have HR := Lib.hid hrel
        have HY := Lib.hid hyk0
        clear hrel hyk hyk0
        by_cases hlt : lim xs k < b
        · go_wp2
          have := HY.out
          exact ⟨⟨k + 1, 1, by omega, by go_num, rfl, HR.out.step' (Nat.le_refl _) hkn (z := lim xs k + 1000000000 - b) (by omega) (by omega) (by omega) (by omega)⟩, by simp only [intOf]; omega⟩
        · go_wp2
          have := HY.out
          exact ⟨⟨k + 1, 0, by omega, by go_num, rfl, HR.out.step' (Nat.le_refl _) hkn (z := lim xs k - b) (by omega) (by omega) (by omega) (by omega)⟩, by simp only [intOf]; omega⟩
    · obtain rfl : k = xs.length := by omega
      obtain ⟨zs, z1, z2, z3, z4, z5, z6⟩ := id hrel
      have Z1 := Lib.hid z1
      have Z5 := Lib.hid z5
      have hsl := z3.sl
      rw [z1] at hsl
      clear z1 z5 hrel ha hc hmk
      go_wp2_with (go_at_call 117; refine (trim_any _ _ _ (by have := Z1.out; omega) hsl).mono ?_; rintro e w' ⟨v, k, rfl, ht, hs, hf, rfl⟩)
      go_ret
      have e5 := Z5.out
      have e1 := Z1.out
      rw [lo_all _ _ (by omega), lo_all _ _ (by omega), lo_all _ _ (by omega)] at e5
      have hlt := lv_lt z2
      rw [e1] at hlt
      have hb : b = 0 := by
        rcases Nat.eq_zero_or_pos b with h | h
        · exact h
        · have : 1 * 1000000000 ^ xs.length ≤ b * 1000000000 ^ xs.length := Nat.mul_le_mul_right _ h
          omega
      rw [hb, Nat.zero_mul] at e5
      exact ⟨v, rfl, ⟨zs.take k, ht.canon z2, by rw [ht.lv]; omega, hs⟩, hf _ (Nat.le_refl _), z6⟩

/-- sub, at every two numbers, the second one of which is not greater. -/
theorem sub_any (w : World) (v u : Value) (n m : Nat) (hn : Num w v n) (hm : Num w u m) (hle : m ≤ n) (hb : Small n) :
    Calls Tryz.prog 98 #[v, u] w (PostNumV w.heap.size w (n - m)) := by
  obtain ⟨xs, hx, rfl, hsx⟩ := hn
  obtain ⟨ys, hy, rfl, hsy⟩ := hm
  have hl := hx.len_le (k := 200) hb
  have hyl := hy.len_mono hx hle
  obtain ⟨a, cap, rfl, ha⟩ := hsx.addr
  obtain ⟨c, cap', rfl, hc⟩ := hsy.addr
  exact sub_walk w a cap xs c cap' ys (by omega) hyl hx.1 hy.1 hle ha hc

end Nt
end Go.Proofs.YtmekiidknjjfcaaGreatDoor

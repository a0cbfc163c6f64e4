/- The walk of natural's mul. -/
import Derived.Test.YtmekiidknjjfcaaGreatDoorNatSub
namespace Go.Proofs.YtmekiidknjjfcaaGreatDoor
open Go.RowKit
namespace Nt

/-- Between two rounds of the outer loop of a product. -/
def RelMul (B : Nat) (w : World) (xs ys : List Nat) (g : Nat) (i : Nat) (wr : World) : Prop :=
  ∃ zs, zs.length = xs.length + ys.length ∧ InR zs ∧ Row 45 wr g zs ∧ lv zs = lo xs i * lv ys ∧ (∀ j, i + ys.length ≤ j → lim zs j = 0) ∧ Below B w wr

/-- Between two rounds of the inner loop. -/
def RelMulIn (B : Nat) (w : World) (xs ys : List Nat) (g : Nat) (i j c : Nat) (wr : World) : Prop :=
  ∃ zs, zs.length = xs.length + ys.length ∧ InR zs ∧ Row 45 wr g zs ∧ c < 1000000000 ∧
    lv zs + c * 1000000000 ^ (i + j) = lo xs i * lv ys + 1000000000 ^ i * (lim xs i * lo ys j) ∧ (∀ j, i + ys.length ≤ j → lim zs j = 0) ∧ Below B w wr

theorem mul_step {Z Z' R P x z c c' : Nat} {T : Nat} (h : Z + c * P = R) (hs : Z' + P * z = Z + P * (x % 1000000000)) (hc : c' = x / 1000000000) (hx : x = z + T + c) :
    Z' + c' * (P * 1000000000) = R + P * T := by
  have e1 : P * x = P * z + P * T + P * c := by rw [hx, Nat.mul_add, Nat.mul_add]
  have e2 : P * x = P * (x % 1000000000) + P * (1000000000 * (x / 1000000000)) := by rw [← Nat.mul_add, Nat.mod_add_div]
  have e3 : c' * (P * 1000000000) = P * (1000000000 * (x / 1000000000)) := by
    rw [hc, Nat.mul_comm, Nat.mul_assoc]
  have e4 : c * P = P * c := Nat.mul_comm _ _
  omega

theorem RelMulIn.step {B : Nat} {w wr : World} {xs ys : List Nat} {g i j c : Nat} (h : RelMulIn B w xs ys g i j c wr) (hB : B ≤ g) (hi : i < xs.length) (hj : j < ys.length) (hx : InR xs) (hy : InR ys)
    {z T : Nat} {y : Int} (hz : wr.cell? ⟨g, i + j, none⟩ = some (.int .u64 (z : Int))) (hT : T = lim xs i * lim ys j) (he : y = (((z + T + c) % 1000000000 : Nat) : Int)) :
    RelMulIn B w xs ys g i (j + 1) ((z + T + c) / 1000000000) (wr.setCell ⟨g, i + j, none⟩ (.int .u64 y)) := by
  subst he hT
  obtain ⟨zs, h1, h2, h3, h4, h5, h6, h7⟩ := h
  have hzc := h3.cell (i := i + j) (by omega)
  rw [hz] at hzc
  have hzz : z = lim zs (i + j) := by simp at hzc; omega
  have b1 := h2.lim (i + j)
  have b2 := hx.lim i
  have b3 := hy.lim j
  have b4 : lim xs i * lim ys j ≤ 999999999 * 999999999 := Nat.mul_le_mul (by omega) (by omega)
  refine ⟨zs.set (i + j) ((z + lim xs i * lim ys j + c) % 1000000000), by simpa using h1, h2.set _ _ (Nat.mod_lt _ (by omega)), h3.set _ _, by omega, ?_, fun p hp => ?_, h7.setCell hB _⟩
  · have hs := lv_set zs (i + j) ((z + lim xs i * lim ys j + c) % 1000000000) (by omega)
    rw [← hzz] at hs
    have := mul_step h5 hs rfl rfl
    rw [lo_succ, show i + (j + 1) = i + j + 1 from rfl, Nat.pow_succ, this, Nat.mul_add, Nat.mul_add]
    have e : 1000000000 ^ (i + j) * (lim xs i * lim ys j) = 1000000000 ^ i * (lim xs i * (1000000000 ^ j * lim ys j)) := by
      rw [Nat.pow_add, Nat.mul_assoc, Nat.mul_left_comm (1000000000 ^ j)]
    omega
  · rw [lim_set_ne _ _ _ _ (by omega)]; exact h6 p hp

theorem RelMul.start {B : Nat} {w wr : World} {xs ys : List Nat} {g i : Nat} (h : RelMul B w xs ys g i wr) : RelMulIn B w xs ys g i 0 0 wr := by
  obtain ⟨zs, h1, h2, h3, h4, h5, h6⟩ := h
  exact ⟨zs, h1, h2, h3, by omega, by simp [h4, lo_zero], h5, h6⟩

theorem RelMulIn.done {B : Nat} {w wr : World} {xs ys : List Nat} {g i c : Nat} (h : RelMulIn B w xs ys g i ys.length c wr) (hB : B ≤ g) (hi : i < xs.length) :
    RelMul B w xs ys g (i + 1) (wr.setCell ⟨g, i + ys.length, none⟩ (.int .u64 (c : Int))) := by
  obtain ⟨zs, h1, h2, h3, h4, h5, h6, h7⟩ := h
  refine ⟨zs.set (i + ys.length) c, by simpa using h1, h2.set _ _ h4, h3.set _ _, ?_, fun p hp => ?_, h7.setCell hB _⟩
  · have hs := lv_set zs (i + ys.length) c (by omega)
    rw [h6 _ (Nat.le_refl _)] at hs
    rw [lo_all ys _ (Nat.le_refl _)] at h5
    rw [lo_succ, Nat.add_mul, Nat.mul_assoc]
    have : c * 1000000000 ^ (i + ys.length) = 1000000000 ^ (i + ys.length) * c := Nat.mul_comm _ _
    omega
  · rw [lim_set_ne _ _ _ _ (by omega)]; exact h6 p (by omega)

theorem cast_quo (z a b c : Nat) : ((z : Int) + a * b + c) / 1000000000 = (((z + a * b + c) / 1000000000 : Nat) : Int) := by
  rw [Int.natCast_ediv, Int.natCast_add, Int.natCast_add, Int.natCast_mul]; rfl
theorem cast_rem (z a b c : Nat) : ((z : Int) + a * b + c) % 1000000000 = (((z + a * b + c) % 1000000000 : Nat) : Int) := by
  rw [Int.natCast_emod, Int.natCast_add, Int.natCast_add, Int.natCast_mul]; rfl

theorem RelMulIn.at {B : Nat} {w wr : World} {xs ys : List Nat} {g i j c : Nat} (h : RelMulIn B w xs ys g i j c wr) (hi : i < xs.length) (hj : j < ys.length) :
    ∃ z : Nat, z < 1000000000 ∧ wr.cell? ⟨g, i + j, none⟩ = some (.int .u64 (z : Int)) ∧ wr.frozen? ⟨g, i + j, none⟩ = false ∧ c < 1000000000 ∧ Below B w wr := by
  obtain ⟨zs, h1, h2, h3, h4, h5, h6, h7⟩ := h
  exact ⟨lim zs (i + j), h2.lim _, h3.cell (by omega), h3.frozen _, h4, h7⟩

set_option maxHeartbeats 1000000 in
theorem mul_walk (w : World) (a : Option Addr) (cap : Nat) (xs : List Nat) (c : Option Addr) (cap' : Nat) (ys : List Nat) (hl : xs.length ≤ 1000) (hyl : ys.length ≤ 1000)
    (hx : InR xs) (hy : InR ys)
    (ha : xs ≠ [] → ∃ b off, a = some ⟨b, off, none⟩ ∧ b < w.heap.size ∧ ∀ i, i < xs.length → w.cell? ⟨b, off + i, none⟩ = some (.int .u64 (lim xs i)))
    (hc : ys ≠ [] → ∃ b off, c = some ⟨b, off, none⟩ ∧ b < w.heap.size ∧ ∀ i, i < ys.length → w.cell? ⟨b, off + i, none⟩ = some (.int .u64 (lim ys i))) :
    Calls Tryz.prog 116 #[.slice a xs.length cap, .slice c ys.length cap'] w (PostNumV w.heap.size w (lv xs * lv ys)) := by
  have hmk := run_make_num (xs.length + ys.length) (by omega)
  rw [Int.natCast_add] at hmk
  go_enter Tryz.func116, Tryz.ntmps116
  go_wp2
  go_loopw [20] (fun i wr => ∃ k : Nat, k ≤ xs.length ∧ i = .int .i64 k ∧ RelMul w.heap.size w xs ys w.heap.size k wr)
    (fun i _ => xs.length - (intOf i).toNat)
  case atStart => exact ⟨0, Nat.zero_le _, rfl, List.replicate (xs.length + ys.length) 0, by simp, InR.zeros _, Row.made0 _ _ _, by rw [lo_zero, Nat.zero_mul]; exact lv_zeros _ (fun j hj => lim_zeros _ _), (fun j hj => lim_zeros _ _), (Below.refl _ _).alloc (Nat.le_refl _) _⟩
  case round =>
    obtain ⟨k, hk, rfl, hrel⟩ := hrel
    by_cases hkn : k < xs.length
    · obtain ⟨bx, ox, hax, hbx, hcx⟩ := ha (by intro e; simp [e] at hkn)
      obtain ⟨zs, z1, z2, z3, z4, z5, z6⟩ := id hrel
      have hcxk := (z6.cell (p := ⟨bx, ox + k, none⟩) hbx).trans (hcx k hkn)
      have hxk := hx.lim k
      subst hax
      have HC := Lib.hid hc
      clear hcx ha z1 z2 z3 z4 z5 z6 hmk hc
      have HR := Lib.hid hrel
      clear hrel
      go_wp2
      obtain ⟨wo, rfl⟩ : ∃ wo : World, wo = wr := ⟨_, rfl⟩
      go_loopw [8, 27] (fun cc j wr => ∃ q c : Nat, q ≤ ys.length ∧ j = .int .i64 q ∧ cc = .int .u64 c ∧ RelMulIn w.heap.size w xs ys w.heap.size k q c wr)
        (fun _ j _ => ys.length - (intOf j).toNat)
      case atStart => exact ⟨0, 0, Nat.zero_le _, rfl, rfl, HR.out.start⟩
      case round =>
        obtain ⟨q, c2, hq, rfl, rfl, hrel⟩ := hrel
        by_cases hqn : q < ys.length
        · obtain ⟨b2, oy, hay, hby, hcy⟩ := HC.out (by intro e; simp [e] at hqn)
          subst hay
          obtain ⟨z, hz, hzc, hzf, hc2, hbel⟩ := hrel.at hkn hqn
          have hcyk := hbel.cell (p := ⟨b2, oy + q, none⟩) hby |>.trans (hcy q hqn)
          have hyk := hy.lim q
          have hprod : (lim xs k : Int) * (lim ys q : Int) ≤ 999999998000000001 := by
            have : lim xs k * lim ys q ≤ 999999999 * 999999999 := Nat.mul_le_mul (by omega) (by omega)
            have : ((lim xs k * lim ys q : Nat) : Int) ≤ ((999999999 * 999999999 : Nat) : Int) := by exact_mod_cast this
            simpa using this
          have hprod0 : 0 ≤ (lim xs k : Int) * (lim ys q : Int) := Int.mul_nonneg (by omega) (by omega)
          replace hrel := Lib.hid hrel
          replace hx := Lib.hid hx
          replace hy := Lib.hid hy
          clear hcy hbel HC
          go_wp2
          exact ⟨⟨q + 1, (z + lim xs k * lim ys q + c2) / 1000000000, by omega, by go_num, congrArg (Value.int .u64) (cast_quo _ _ _ _),
            hrel.out.step (Nat.le_refl _) hkn hqn hx.out hy.out hzc rfl (cast_rem _ _ _ _)⟩, by simp only [intOf]; omega⟩
        · obtain rfl : q = ys.length := by omega
          have HR' := Lib.hid (hrel.done (Nat.le_refl _) hkn)
          obtain ⟨zs, z1, z2, z3, z4, z5, z6, z7⟩ := hrel
          have hzc := z3.cell (i := k + ys.length) (by omega)
          have hzf := z3.frozen (k + ys.length)
          replace hx := Lib.hid hx
          replace hy := Lib.hid hy
          clear z1 z2 z3 z5 z6 z7 HC
          go_wp2
          exact ⟨⟨k + 1, by omega, by go_num, HR'.out⟩, by simp only [intOf]; omega⟩
    · obtain rfl : k = xs.length := by omega
      obtain ⟨zs, z1, z2, z3, z4, z5, z6⟩ := id hrel
      have Z1 := Lib.hid z1
      have Z4 := Lib.hid z4
      have hsl := z3.sl
      rw [z1] at hsl
      clear z1 z4 hrel ha hc hmk z5
      go_wp2_with (go_at_call 117; refine (trim_any _ _ _ (by have := Z1.out; omega) hsl).mono ?_; rintro e w' ⟨v, k, rfl, ht, hs, hf, rfl⟩)
      go_ret
      exact ⟨v, rfl, ⟨zs.take k, ht.canon z2, by rw [ht.lv, Z4.out, lo_all _ _ (Nat.le_refl _)], hs⟩, hf _ (Nat.le_refl _), z6⟩

/-- mul, at every two numbers. -/
theorem mul_any (w : World) (v u : Value) (n m : Nat) (hn : Num w v n) (hm : Num w u m) (hbn : Small n) (hbm : Small m) :
    Calls Tryz.prog 116 #[v, u] w (PostNumV w.heap.size w (n * m)) := by
  obtain ⟨xs, hx, rfl, hsx⟩ := hn
  obtain ⟨ys, hy, rfl, hsy⟩ := hm
  have hl := hx.len_le (k := 200) hbn
  have hyl := hy.len_le (k := 200) hbm
  obtain ⟨a, cap, rfl, ha⟩ := hsx.addr
  obtain ⟨c, cap', rfl, hc⟩ := hsy.addr
  exact mul_walk w a cap xs c cap' ys (by omega) (by omega) hx.1 hy.1 ha hc

end Nt
end Go.Proofs.YtmekiidknjjfcaaGreatDoor

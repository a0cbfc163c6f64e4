/- The reference's Times. -/
import Derived.Test.YtjahnkeafaebdaaGreatDoorRefPlus
import Derived.StillTailTactics
import Derived.RegionTactic
namespace Go.Proofs.YtjahnkeafaebdaaGreatDoor
open Go.RowKit Go.Shelf
namespace Nt

/-- A block of memory that holds ints, all of it. -/
def RowI (w : World) (g : Nat) (zs : List Nat) : Prop := w.heap[g]? = some (.cells (ivals zs).toArray 3 (0, 0))
theorem RowI.lt {w : World} {g : Nat} {zs : List Nat} (h : RowI w g zs) : g < w.heap.size := (Array.getElem?_eq_some_iff.1 h).1
theorem RowI.frozen {w : World} {g : Nat} {zs : List Nat} (h : RowI w g zs) (i : Nat) : w.frozen? ⟨g, i, none⟩ = false := by
  unfold RowI at h
  simp [World.frozen?, h]
theorem RowI.cell {w : World} {g : Nat} {zs : List Nat} (h : RowI w g zs) {i : Nat} (hi : i < zs.length) : w.cell? ⟨g, i, none⟩ = some (.int .i64 (lim zs i)) := by
  unfold RowI at h
  simp only [World.cell?, h]
  simp [ivals, lim, hi]
theorem RowI.set {w : World} {g : Nat} {zs : List Nat} (h : RowI w g zs) (i : Nat) (y : Nat) : RowI (w.setCell ⟨g, i, none⟩ (.int .i64 (y : Int))) g (zs.set i y) := by
  unfold RowI at h ⊢
  simp only [World.setCell, Array.getElem?_modify, h]
  simp [ivals, List.map_set]
theorem madeZeroI (n : Nat) : madeCells #[.int .i64 0] n = (ivals (List.replicate n 0)).toArray := by
  unfold madeCells ivals
  apply Array.ext
  · simp
  · intro i h1 h2
    have e : i % 1 = 0 := Nat.mod_one i
    simp [e]
theorem RowI.made0 (w : World) (n : Nat) : RowI (w.alloc (.cells (madeCells #[.int .i64 0] n) 3)) w.heap.size (List.replicate n 0) := by
  unfold RowI
  rw [heap_alloc_new, madeZeroI]
theorem RowI.at {w : World} {g : Nat} {zs : List Nat} (h : RowI w g zs) : IntsAt w (.slice (some ⟨g, 0, none⟩) zs.length zs.length) zs :=
  ⟨g, 0, zs.length, rfl, h.lt, fun i hi => by rw [Nat.zero_add]; exact h.cell hi⟩
theorem run_make_ints (n : Nat) (hn : n ≤ 1000000) (w : World) :
    (Instr.makeSlice 118 (.int .i64 (n : Int)) (.int .i64 (n : Int))).run Tryz.prog w =
      .ok (.slice (some ⟨w.heap.size, 0, none⟩) n n) (w.alloc (.cells (madeCells #[.int .i64 0] n) 3)) :=
  run_make_row' 118 3 (.int .i64 0) 8 Tryz.underlying118 infoI rfl .i64 .i64 n (by omega) (by omega) w

theorem digit_still (n i : Nat) (w : World) (hs : (num n).size ≤ 140737488355328) (hi : i ≤ 140737488355328) :
    Calls Tryz.prog 120 #[.string (num n), .int .i64 (i : Int)] w fun e w' => e = .returned (.int .i64 ((n / 10 ^ i % 10 : Nat) : Int)) ∧ w' = w :=
  (digit_any n i w hs hi).mono fun _ _ h => ⟨h.1, h.2.symm⟩

def TOut (w : World) (a b L g i : Nat) (wr : World) : Prop :=
  ∃ zs, zs.length = L ∧ RowI wr g zs ∧ (∀ p, lim zs p ≤ 81 * i) ∧ dv zs = (a % 10 ^ i) * b ∧ Below w.heap.size w wr
def TIn (w : World) (a b L g i j : Nat) (wr : World) : Prop :=
  ∃ zs, zs.length = L ∧ RowI wr g zs ∧ (∀ p, lim zs p ≤ 81 * (i + 1)) ∧ (∀ p, i + j ≤ p → lim zs p ≤ 81 * i) ∧ dv zs = (a % 10 ^ i) * b + 10 ^ i * ((a / 10 ^ i % 10) * (b % 10 ^ j)) ∧ Below w.heap.size w wr
theorem TOut.start {w wr : World} {a b L g i : Nat} (h : TOut w a b L g i wr) : TIn w a b L g i 0 wr := by
  obtain ⟨zs, h1, h2, h3, h4, h5⟩ := h
  exact ⟨zs, h1, h2, fun p => by have := h3 p; omega, fun p _ => h3 p, by simp [h4, Nat.mod_one], h5⟩
theorem TIn.done {w wr : World} {a b L g i : Nat} (h : TIn w a b L g i (num b).size wr) : TOut w a b L g (i + 1) wr := by
  obtain ⟨zs, h1, h2, h3, h4, h5, h6⟩ := h
  refine ⟨zs, h1, h2, h3, ?_, h6⟩
  rw [h5, mod_size (Nat.le_refl _), mod_pow_succ, Nat.add_mul, Nat.mul_assoc]
theorem TIn.at {w wr : World} {a b L g i j : Nat} (h : TIn w a b L g i j wr) (hl : i + j < L) :
    ∃ z : Nat, z ≤ 81 * i ∧ wr.cell? ⟨g, i + j, none⟩ = some (.int .i64 (z : Int)) ∧ wr.frozen? ⟨g, i + j, none⟩ = false := by
  obtain ⟨zs, h1, h2, h3, h4, h5, h6⟩ := h
  exact ⟨lim zs (i + j), h4 _ (Nat.le_refl _), h2.cell (by omega), h2.frozen _⟩
theorem TIn.step {w wr : World} {a b L g i j : Nat} (h : TIn w a b L g i j wr) (hl : i + j < L) (hg : w.heap.size ≤ g) {z x y : Nat} {d : Int} (hz : wr.cell? ⟨g, i + j, none⟩ = some (.int .i64 (z : Int)))
    (hx : x = a / 10 ^ i % 10) (hy : y = b / 10 ^ j % 10) (hd : d = ((z + x * y : Nat) : Int)) : TIn w a b L g i (j + 1) (wr.drew.setCell ⟨g, i + j, none⟩ (.int .i64 d)) := by
  subst hd
  obtain ⟨zs, h1, h2, h3, h4, h5, h6⟩ := h
  have hc := h2.cell (i := i + j) (by omega)
  rw [hz] at hc
  have hzz : z = lim zs (i + j) := by simp at hc; omega
  have hxy : x * y ≤ 9 * 9 := Nat.mul_le_mul (by omega) (by omega)
  have hzl := h4 (i + j) (Nat.le_refl _)
  have h2' : RowI wr.drew g zs := h2
  refine ⟨zs.set (i + j) (z + x * y), by simpa using h1, h2'.set _ _, fun p => ?_, fun p hp => ?_, ?_, h6.drew.setCell hg _⟩
  · by_cases e : p = i + j
    · subst e; rw [lim_set _ _ _ (by omega)]; omega
    · rw [lim_set_ne _ _ _ _ e]; exact h3 p
  · rw [lim_set_ne _ _ _ _ (by omega)]; exact h4 p (by omega)
  · have hs := dv_set zs (i + j) (z + x * y) (by omega)
    rw [← hzz, Nat.mul_add] at hs
    rw [mod_pow_succ b j, ← hy, ← hx, Nat.mul_add, Nat.mul_add]
    have e : 10 ^ (i + j) * (x * y) = 10 ^ i * (x * (10 ^ j * y)) := by rw [Nat.pow_add, Nat.mul_assoc, Nat.mul_left_comm (10 ^ j)]
    rw [← hx] at h5
    omega

/-- While the carries are moved on. -/
def TCar (w : World) (a b L g i : Nat) (wr : World) : Prop :=
  ∃ zs, zs.length = L ∧ RowI wr g zs ∧ (∀ p, p < i → lim zs p < 10) ∧ lim zs i ≤ 900000 ∧ (∀ p, i < p → lim zs p ≤ 810000) ∧ dv zs = a * b ∧ Below w.heap.size w wr
theorem TOut.car {w wr : World} {a b L g : Nat} (h : TOut w a b L g (num a).size wr) (ha : (num a).size ≤ 10000) : TCar w a b L g 0 wr := by
  obtain ⟨zs, h1, h2, h3, h4, h5⟩ := h
  exact ⟨zs, h1, h2, fun p hp => absurd hp (by omega), by have := h3 0; omega, fun p _ => by have := h3 p; omega, by rw [h4, mod_size (Nat.le_refl _)], h5⟩
theorem TCar.at {w wr : World} {a b L g i : Nat} (h : TCar w a b L g i wr) (hl : i + 1 < L) :
    ∃ z y : Nat, z ≤ 900000 ∧ y ≤ 810000 ∧ wr.cell? ⟨g, i, none⟩ = some (.int .i64 (z : Int)) ∧ wr.cell? ⟨g, i + 1, none⟩ = some (.int .i64 (y : Int)) ∧ wr.frozen? ⟨g, i, none⟩ = false ∧ wr.frozen? ⟨g, i + 1, none⟩ = false := by
  obtain ⟨zs, h1, h2, h3, h4, h5, h6, h7⟩ := h
  exact ⟨lim zs i, lim zs (i + 1), h4, h5 _ (by omega), h2.cell (by omega), h2.cell (by omega), h2.frozen _, h2.frozen _⟩
theorem TCar.step {w wr : World} {a b L g i : Nat} (h : TCar w a b L g i wr) (hl : i + 1 < L) (hg : w.heap.size ≤ g) {z y : Nat} {d1 d2 : Int} (hz : wr.cell? ⟨g, i, none⟩ = some (.int .i64 (z : Int))) (hy : wr.cell? ⟨g, i + 1, none⟩ = some (.int .i64 (y : Int)))
    (e1 : d1 = ((y + z / 10 : Nat) : Int)) (e2 : d2 = ((z % 10 : Nat) : Int)) : TCar w a b L g (i + 1) ((wr.drew.setCell ⟨g, i + 1, none⟩ (.int .i64 d1)).setCell ⟨g, i, none⟩ (.int .i64 d2)) := by
  subst e1 e2
  obtain ⟨zs, h1, h2, h3, h4, h5, h6, h7⟩ := h
  have hc := h2.cell (i := i) (by omega)
  rw [hz] at hc
  have hzz : z = lim zs i := by simp at hc; omega
  have hc2 := h2.cell (i := i + 1) (by omega)
  rw [hy] at hc2
  have hyy : y = lim zs (i + 1) := by simp at hc2; omega
  have h2' : RowI wr.drew g zs := h2
  have hb := h5 (i + 1) (by omega)
  refine ⟨(zs.set (i + 1) (y + z / 10)).set i (z % 10), by simpa using h1, (h2'.set _ _).set _ _, fun p hp => ?_, ?_, fun p hp => ?_, ?_, (h7.drew.setCell hg _).setCell hg _⟩
  · by_cases e : p = i
    · subst e; rw [lim_set _ _ _ (by simp; omega)]; omega
    · rw [lim_set_ne _ _ _ _ e, lim_set_ne _ _ _ _ (by omega)]; exact h3 p (by omega)
  · rw [lim_set_ne _ _ _ _ (by omega), lim_set _ _ _ (by omega)]; omega
  · rw [lim_set_ne _ _ _ _ (by omega), lim_set_ne _ _ _ _ (by omega)]; exact h5 p (by omega)
  · have s1 := dv_set zs (i + 1) (y + z / 10) (by omega)
    have s2 := dv_set (zs.set (i + 1) (y + z / 10)) i (z % 10) (by simp; omega)
    rw [lim_set_ne _ _ _ _ (by omega), ← hzz] at s2
    rw [← hyy, Nat.pow_succ] at s1
    rw [← h6]
    generalize 10 ^ i = P at s1 s2
    have e3 : P * z = P * (z % 10) + P * 10 * (z / 10) := by rw [Nat.mul_assoc, ← Nat.mul_add, Nat.mod_add_div]
    rw [Nat.mul_add] at s1
    omega
theorem TCar.end {w wr : World} {a b L g : Nat} (h : TCar w a b (L + 1) g L wr) (hL : a * b < 10 ^ L) : ∃ zs, zs.length = L + 1 ∧ RowI wr g zs ∧ (∀ d ∈ zs, d < 10) ∧ dv zs = a * b ∧ Below w.heap.size w wr := by
  obtain ⟨zs, h1, h2, h3, h4, h5, h6, h7⟩ := h
  refine ⟨zs, h1, h2, fun d hd => ?_, h6, h7⟩
  obtain ⟨p, hp, rfl⟩ := List.getElem_of_mem hd
  rw [← lim_lt _ _ hp]
  by_cases e : p < L
  · exact h3 p e
  · obtain rfl : p = L := by omega
    have h8 := dv_ge zs p hp
    rcases Nat.eq_zero_or_pos (lim zs p) with h0 | h0
    · omega
    · have : 10 ^ p * 1 ≤ 10 ^ p * lim zs p := Nat.mul_le_mul_left _ h0
      omega

theorem Times_small (a b : Nat) (w : World) (ha : (num a).size ≤ 9) (hb : (num b).size ≤ 9) :
    Calls Tryz.prog 81 #[.string (num a), .string (num b)] w fun e w' => e = .returned (.string (num (a * b))) ∧ w = w' := by
  have h1 := pow9 ha
  have h2 := pow9 hb
  have hp : a * b ≤ 999999999 * 999999999 := Nat.mul_le_mul (by omega) (by omega)
  have c1 := value_num a w (by omega)
  have c2 := value_num b w (by omega)
  have c3 := Decimal_any (a * b) w (by omega)
  have e : ((a * b : Nat) : Int) = (a : Int) * (b : Int) := Int.natCast_mul _ _
  have hp1 : (a : Int) * (b : Int) ≤ 999999998000000001 := by rw [← e]; omega
  have hp0 : 0 ≤ (a : Int) * (b : Int) := by rw [← e]; omega
  rw [e] at c3
  clear e hp
  go_enter Tryz.func81, Tryz.ntmps81
  go_wp2_with fail
  refine c1.mono ?_
  rintro e w1 ⟨rfl, rfl⟩
  go_wp2_with fail
  refine c2.mono ?_
  rintro e w1 ⟨rfl, rfl⟩
  go_wp2_with fail
  refine c3.mono ?_
  rintro e w1 ⟨rfl, rfl⟩
  go_wp2
  go_ret
  exact ⟨rfl, rfl⟩

set_option maxRecDepth 100000 in
set_option maxHeartbeats 4000000 in
theorem Times_big (a b : Nat) (w : World) (ha : (num a).size ≤ 10000) (hb : (num b).size ≤ 10000) (hbig : ¬ ((num a).size ≤ 9 ∧ (num b).size ≤ 9)) :
    Calls Tryz.prog 81 #[.string (num a), .string (num b)] w fun e w' => e = .returned (.string (num (a * b))) ∧ Below w.heap.size w w' := by
  have hmk := run_make_ints ((num a).size + (num b).size + 1) (by omega)
  rw [Int.natCast_add, Int.natCast_add, Int.natCast_one] at hmk
  have HL : Hid (a * b < 10 ^ ((num a).size + (num b).size)) := by
    unfold Hid
    rw [Nat.pow_add]
    exact Nat.mul_lt_mul'' (lt_pow_size a) (lt_pow_size b)
  have hcs : 9 < (num a).size ∨ ((num a).size ≤ 9 ∧ 9 < (num b).size) := by omega
  clear hbig
  rcases hcs with h18 | ⟨h18, h19⟩
  all_goals
    go_enter Tryz.func81, Tryz.ntmps81
    go_wp2
    go_loopw [6] (fun i wr => ∃ k : Nat, k ≤ (num a).size ∧ i = .int .i64 (k : Int) ∧ TOut w a b ((num a).size + (num b).size + 1) w.heap.size k wr) (fun i _ => (num a).size - (intOf i).toNat)
    case atStart => exact ⟨0, Nat.zero_le _, rfl, List.replicate ((num a).size + (num b).size + 1) 0, by simp, RowI.made0 _ _, fun p => by rw [lim_zeros]; omega, by rw [dv_zeros]; simp [Nat.mod_one], (Below.refl _ _).alloc (Nat.le_refl _) _⟩
    case round =>
      obtain ⟨k, hk, rfl, hrel⟩ := hrel
      by_cases hkn : k < (num a).size
      · have HR := Lib.hid hrel
        clear hrel hmk
        go_wp2
        obtain ⟨wo, rfl⟩ : ∃ wo : World, wo = wr := ⟨_, rfl⟩
        go_loopw [7] (fun j wr => ∃ q : Nat, q ≤ (num b).size ∧ j = .int .i64 (q : Int) ∧ TIn w a b ((num a).size + (num b).size + 1) w.heap.size k q wr) (fun j _ => (num b).size - (intOf j).toNat)
        case atStart => exact ⟨0, Nat.zero_le _, rfl, HR.out.start⟩
        case round =>
          obtain ⟨q, hq, rfl, hrel⟩ := hrel
          by_cases hqn : q < (num b).size
          · obtain ⟨z, hz, hzc, hzf⟩ := hrel.at (by omega)
            obtain ⟨x, hx⟩ : ∃ x, x = a / 10 ^ k % 10 := ⟨_, rfl⟩
            obtain ⟨y, hy⟩ : ∃ y, y = b / 10 ^ q % 10 := ⟨_, rfl⟩
            have cx := fun W => digit_still a k W (by omega) (by omega)
            have cy := fun W => digit_still b q W (by omega) (by omega)
            rw [← hx] at cx
            rw [← hy] at cy
            have hx9 : x < 10 := by omega
            have hy9 : y < 10 := by omega
            have hxy : x * y ≤ 9 * 9 := Nat.mul_le_mul (by omega) (by omega)
            have exy : ((x * y : Nat) : Int) = (x : Int) * (y : Int) := Int.natCast_mul _ _
            have hxy1 : (x : Int) * (y : Int) ≤ 81 := by rw [← exy]; omega
            have hxy0 : 0 ≤ (x : Int) * (y : Int) := by rw [← exy]; omega
            have HS := Lib.hid (fun d hd => hrel.step (d := d) (by omega) (Nat.le_refl _) hzc hx hy hd)
            have s1 : IntKind.i64.wrap ((k : Int) + (q : Int)) = (k : Int) + (q : Int) := IntWalk.i64_in _ (by omega)
            have s2 : (0 : Int) ≤ (k : Int) + (q : Int) := by omega
            have s3 : (k : Int) + (q : Int) < ((num a).size : Int) + ((num b).size : Int) + 1 := by omega
            have s4 : ((k : Int) + (q : Int)).toNat = k + q := by omega
            have s5 : IntKind.i64.wrap ((x : Int) * (y : Int)) = (x : Int) * (y : Int) := IntWalk.i64_in _ (by omega)
            have s6 : IntKind.i64.wrap ((z : Int) + (x : Int) * (y : Int)) = (z : Int) + (x : Int) * (y : Int) := IntWalk.i64_in _ (by omega)
            clear hx hy hrel hxy exy HR
            go_wp2
            refine wp_region_still_tail 15 (by kernel_rfl) (by kernel_rfl) ?_
            simp only [List.take_succ_cons, List.take_zero, List.drop_succ_cons, List.drop_zero]
            repeat still_step
            still_call (cx _)
            repeat still_step
            still_call (cy _)
            repeat still_step
            refine wpStill_nil ?_
            change wpList _ _ _ _ _ wr.drew
            go_wp2
            exact ⟨⟨q + 1, by omega, by go_num, HS.out _ (by simp)⟩, by simp only [intOf]; omega⟩
          · obtain rfl : q = (num b).size := by omega
            have HT := Lib.hid hrel.done
            clear hrel HR
            go_wp2
            exact ⟨⟨k + 1, by omega, by go_num, HT.out⟩, by simp only [intOf]; omega⟩
      · obtain rfl : k = (num a).size := by omega
        have HT := Lib.hid (hrel.car ha)
        clear hrel hmk
        go_wp2
        go_loopw [8] (fun i wr => ∃ k : Nat, k ≤ (num a).size + (num b).size ∧ i = .int .i64 (k : Int) ∧ TCar w a b ((num a).size + (num b).size + 1) w.heap.size k wr) (fun i _ => (num a).size + (num b).size - (intOf i).toNat)
        case atStart => exact ⟨0, Nat.zero_le _, rfl, HT.out⟩
        case round =>
          obtain ⟨k, hk, rfl, hrel⟩ := hrel
          by_cases hkn : k < (num a).size + (num b).size
          · obtain ⟨z, y, hz, hy, hzc, hyc, hzf, hyf⟩ := hrel.at (by omega)
            have HS := Lib.hid (fun d1 d2 e1 e2 => hrel.step (d1 := d1) (d2 := d2) (by omega) (Nat.le_refl _) hzc hyc e1 e2)
            have s1 : IntKind.i64.wrap ((k : Int) + 1) = (k : Int) + 1 := IntWalk.i64_in _ (by omega)
            have s2 : (0 : Int) ≤ (k : Int) + 1 := by omega
            have s3 : (k : Int) < ((num a).size : Int) + ((num b).size : Int) := by omega
            have s4 : ((k : Int) + 1).toNat = k + 1 := by omega
            have s8 : (k : Int) < ((num a).size : Int) + ((num b).size : Int) + 1 := by omega
            have s5 : (z : Int).tdiv 10 = ((z / 10 : Nat) : Int) := by rw [Int.tdiv_eq_ediv_of_nonneg (by omega)]; rfl
            have s6 : IntKind.i64.wrap ((z / 10 : Nat) : Int) = ((z / 10 : Nat) : Int) := IntWalk.i64_in _ (by omega)
            have s7 : IntKind.i64.wrap ((y : Int) + ((z / 10 : Nat) : Int)) = (y : Int) + ((z / 10 : Nat) : Int) := IntWalk.i64_in _ (by omega)
            clear hrel HT
            go_wp2
            refine wp_region_still_tail 12 (by kernel_rfl) (by kernel_rfl) ?_
            simp only [List.take_succ_cons, List.take_zero, List.drop_succ_cons, List.drop_zero]
            repeat still_step
            refine wpStill_nil ?_
            change wpList _ _ _ _ _ wr.drew
            go_wp2
            exact ⟨⟨k + 1, by omega, by go_num, HS.out _ _ (by omega) (by omega)⟩, by simp only [intOf]; omega⟩
          · obtain rfl : k = (num a).size + (num b).size := by omega
            obtain ⟨zs, z1, z2, z3, z4, z5⟩ := hrel.end HL.out
            have hat := z2.at
            have ct := reftext_any wr _ zs hat (by omega) (by omega) z3
            rw [z1, z4] at ct
            have hsz := z5.size
            replace z5 := Lib.hid z5
            clear hrel HT z1 z2 z3 z4 hat
            go_wp2_with fail
            refine ct.mono ?_
            rintro e w1 ⟨rfl, hb⟩
            have hB := Lib.hid (z5.out.trans (hb.mono hsz))
            clear hb ct
            go_wp2
            go_ret
            exact ⟨rfl, hB.out⟩

theorem Times_any (a b : Nat) (w : World) (ha : (num a).size ≤ 10000) (hb : (num b).size ≤ 10000) :
    Calls Tryz.prog 81 #[.string (num a), .string (num b)] w fun e w' => e = .returned (.string (num (a * b))) ∧ Below w.heap.size w w' := by
  by_cases h : (num a).size ≤ 9 ∧ (num b).size ≤ 9
  · refine (Times_small a b w h.1 h.2).mono ?_
    rintro e w' ⟨rfl, rfl⟩
    exact ⟨rfl, Below.refl _ _⟩
  · exact Times_big a b w ha hb h

end Nt
end Go.Proofs.YtjahnkeafaebdaaGreatDoor

/- The walks of cmp.Compare at uint64 and of natural's compare. -/
import Derived.Test.YtmekiidknjjfcaaGreatDoorNatBack
import Derived.Outline
namespace Go.Proofs.YtmekiidknjjfcaaGreatDoor
open Go.RowKit Go.Shelf
attribute [local go_sem] Oper.semAt_some
namespace Nt

/-- -1, 0 or 1 -/
def cmpN (x y : Nat) : Int := if x < y then -1 else if y < x then 1 else 0

theorem cmpU (x y : Nat) (w : World) :
    Calls Tryz.prog 120 #[.int .u64 (x : Int), .int .u64 (y : Int)] w fun e w' => e = .returned (.int .i64 (cmpN x y)) ∧ w = w' := by
  have h : x < y ∨ (¬ x < y ∧ y < x) ∨ (¬ x < y ∧ ¬ y < x) := by omega
  unfold cmpN
  rcases h with h | ⟨h, h'⟩ | ⟨h, h'⟩
  all_goals
    go_enter Tryz.func120, Tryz.ntmps120
    go_wp2
    go_ret
    simp_all

theorem cmpI (x y : Nat) (w : World) :
    Calls Tryz.prog 32 #[.int .i64 (x : Int), .int .i64 (y : Int)] w fun e w' => e = .returned (.int .i64 (cmpN x y)) ∧ w = w' := by
  have h : x < y ∨ (¬ x < y ∧ y < x) ∨ (¬ x < y ∧ ¬ y < x) := by omega
  unfold cmpN
  rcases h with h | ⟨h, h'⟩ | ⟨h, h'⟩
  all_goals
    go_enter Tryz.func32, Tryz.ntmps32
    go_wp2
    go_ret
    simp_all

theorem cmpI_same (x : Nat) (w : World) :
    Calls Tryz.prog 32 #[.int .i64 (x : Int), .int .i64 (x : Int)] w fun e w' => e = .returned (.int .i64 0) ∧ w = w' := by
  go_enter Tryz.func32, Tryz.ntmps32
  go_wp2
  go_ret
  exact ⟨rfl, rfl⟩

theorem cmpU_same (x : Nat) (w : World) :
    Calls Tryz.prog 120 #[.int .u64 (x : Int), .int .u64 (x : Int)] w fun e w' => e = .returned (.int .i64 0) ∧ w = w' := by
  go_enter Tryz.func120, Tryz.ntmps120
  go_wp2
  go_ret
  exact ⟨rfl, rfl⟩

theorem cmpN_lt {x y : Nat} (h : x < y) : cmpN x y = -1 := by simp [cmpN, h]
theorem cmpN_gt {x y : Nat} (h : y < x) : cmpN x y = 1 := by unfold cmpN; rw [if_neg (by omega), if_pos h]
theorem cmpN_eq (x : Nat) : cmpN x x = 0 := by simp [cmpN]
theorem cmpN_zero {x y : Nat} (h : cmpN x y = 0) : x = y := by
  unfold cmpN at h
  split at h
  · cases h
  · split at h
    · cases h
    · omega

theorem KeepsOthers.of_below {W W' : World} (h : Below W.heap.size W W') : KeepsOthers W W' :=
  ⟨h.size, fun k _ hk _ => (h.block k (Array.getElem?_eq_some_iff.1 hk).1).trans hk⟩

/-- compare, where the lengths are different -/
theorem compare_len (w : World) (a : Option Addr) (n cap : Nat) (c : Option Addr) (m cap' : Nat) (hne : n ≠ m) :
    Calls Tryz.prog 97 #[.slice a n cap, .slice c m cap'] w fun e w' => e = .returned (.int .i64 (cmpN n m)) ∧ Below w.heap.size w w' := by
  have hc0 : (cmpN n m != 0) = true := by
    rw [bne_iff_ne]
    intro h
    exact hne (cmpN_zero h)
  go_enter Tryz.func97, Tryz.ntmps97
  go_wp2_with (go_at_call 32; refine (cmpI n m _).mono ?_; rintro e w' ⟨rfl, rfl⟩)
  refine bodyPost_ret (v := .int .i64 (cmpN n m)) (by simp [results, Tryz.results97, go_sem]) rfl ⟨rfl, ?_⟩
  exact ((Below.refl _ w).alloc (Nat.le_refl _) _).alloc (by simp) _

theorem mem_back {n : Nat} (k : Nat) (hk : k ≤ n) (p : Place n) : p ∈ back n k ↔ n - k ≤ p.1 := by
  induction k with
  | zero => simp [back_zero]; omega
  | succ k ih =>
    rw [back_succ n k (by omega), List.mem_append, ih (by omega)]
    simp only [List.mem_cons, List.not_mem_nil, or_false]
    constructor
    · rintro (h | h)
      · omega
      · have hv := congrArg Subtype.val h; dsimp only at hv; omega
    · intro h
      by_cases e : p.1 = n - 1 - k
      · right; exact Subtype.ext e
      · left; omega

theorem lv_above {xs ys : List Nat} (he : xs.length = ys.length) (k : Nat) (hk : k ≤ xs.length) (h : ∀ j, k ≤ j → j < xs.length → lim xs j = lim ys j) : lv xs + lo ys k = lv ys + lo xs k := by
  obtain ⟨d, hd⟩ : ∃ d, k + d = xs.length := ⟨xs.length - k, by omega⟩
  induction d generalizing k with
  | zero => rw [lo_all ys k (by omega), lo_all xs k (by omega)]; omega
  | succ d ih =>
    have := ih (k + 1) (by omega) (fun j h1 h2 => h j (by omega) h2) (by omega)
    rw [lo_succ, lo_succ, h k (Nat.le_refl _) (by omega)] at this
    omega

theorem eq_of_back {xs ys : List Nat} (he : xs.length = ys.length) (h : ∀ p : Place xs.length, p ∈ back xs.length xs.length → lim xs p.1 = lim ys p.1) : lv xs = lv ys := by
  have := lv_above he 0 (Nat.zero_le _) (fun j _ hj => h ⟨j, hj⟩ ((mem_back _ (Nat.le_refl _) _).2 (by simp)))
  rw [lo_zero, lo_zero] at this
  omega

theorem lt_of_limb {A a B b P x y : Nat} (h : A + (b + P * y) = B + (a + P * x)) (ha : a < P) (hxy : x < y) : A < B := by
  have : P * (x + 1) ≤ P * y := Nat.mul_le_mul_left _ hxy
  rw [Nat.mul_add] at this
  omega

theorem cmp_of_back {xs ys : List Nat} (he : xs.length = ys.length) (hx : InR xs) (hy : InR ys) {k : Nat} (hk : k ≤ xs.length) {pre : List (Place xs.length)} {x : Place xs.length} (hp : back xs.length k = pre ++ [x])
    (hall : ∀ p : Place xs.length, p ∈ pre → lim xs p.1 = lim ys p.1) (hne : lim xs x.1 ≠ lim ys x.1) : cmpN (lv xs) (lv ys) = cmpN (lim xs x.1) (lim ys x.1) := by
  cases k with
  | zero => rw [back_zero] at hp; simp at hp
  | succ k =>
    rw [back_succ _ _ (by omega)] at hp
    obtain ⟨h1, h2⟩ := List.append_inj' hp rfl
    simp only [List.cons.injEq, and_true] at h2
    subst h1
    have hv : xs.length - 1 - k = x.1 := congrArg Subtype.val h2
    rw [← hv] at hne ⊢
    clear h2 hp hv
    have := lv_above he (xs.length - 1 - k + 1) (by omega) (fun j h1 h2 => hall ⟨j, h2⟩ ((mem_back k (by omega) _).2 (by simp; omega)))
    rw [lo_succ, lo_succ] at this
    have a1 := lo_lt hx (xs.length - 1 - k)
    have a2 := lo_lt hy (xs.length - 1 - k)
    rcases Nat.lt_or_ge (lim xs (xs.length - 1 - k)) (lim ys (xs.length - 1 - k)) with h | h
    · rw [cmpN_lt h, cmpN_lt (lt_of_limb this a1 h)]
    · have h' : lim ys (xs.length - 1 - k) < lim xs (xs.length - 1 - k) := by omega
      rw [cmpN_gt h', cmpN_gt (lt_of_limb this.symm a2 h')]

set_option maxRecDepth 100000 in
set_option maxHeartbeats 1000000 in
theorem compare_eq (w : World) (a : Option Addr) (cap : Nat) (xs : List Nat) (c : Option Addr) (cap' : Nat) (ys : List Nat) (he : xs.length = ys.length) (hl : xs.length ≤ 1000000) (hx : Hid (InR xs)) (hy : Hid (InR ys)) (b : Nat) (hb : b < w.heap.size)
    (ha : SlAt w b (.slice a xs.length cap) xs)
    (hc : ys ≠ [] → ∃ b off, c = some ⟨b, off, none⟩ ∧ b < w.heap.size ∧ ∀ i, i < ys.length → w.cell? ⟨b, off + i, none⟩ = some (.int .u64 (lim ys i))) :
    Calls Tryz.prog 97 #[.slice a xs.length cap, .slice c ys.length cap'] w fun e w' => e = .returned (.int .i64 (cmpN (lv xs) (lv ys))) ∧ Below w.heap.size w w' := by
  have HEQ := Lib.hid he
  refine (callsIn_wide (n := 9)).1 ?_
  refine callsIn_of_wp_marks Tryz.func97 rfl trivial ?_ rfl
  simp only [Tryz.ntmps97, List.size_toArray, List.length_cons, List.length_nil, Nat.reduceAdd, Nat.reduceSub, Array.replicate_succ, Array.replicate_zero, List.push_toArray, List.append_toArray, List.nil_append, List.cons_append]
  rw [← he]
  have HE := Lib.hid he
  clear he
  gi_wp2_with (first
    | (refine ⟨trivial, ?_⟩; gi_at_call 32; refine (callsIn_wide.2 (cmpI_same xs.length _)).mono ?_; rintro e w' ⟨rfl, rfl⟩)
    | (gi_at_call 32; refine (callsIn_wide.2 (cmpI_same xs.length _)).mono ?_; rintro e w' ⟨rfl, rfl⟩)
    | (refine ⟨trivial, ?_⟩; gi_at_call 119; refine (back_make Fence.wide _ trivial rfl _ _ _ _).mono ?_; rintro e w' ⟨rfl, rfl⟩)
    | (gi_at_call 119; refine (back_make Fence.wide _ trivial rfl _ _ _ _).mono ?_; rintro e w' ⟨rfl, rfl⟩))
  have hB1 : Below w.heap.size w (((w.alloc (.cells #[.slice c xs.length cap'] 124)).alloc (.cells #[.int .i64 0] 3)).alloc (.cells #[.slice a xs.length cap] 124)) :=
    (((Below.refl _ w).alloc (Nat.le_refl _) _).alloc (by simp) _).alloc (by simp; omega) _
  have hm : (((w.alloc (.cells #[.slice c xs.length cap'] 124)).alloc (.cells #[.int .i64 0] 3)).alloc (.cells #[.slice a xs.length cap] 124)).cell? ⟨w.heap.size, 0, none⟩ = some (.slice c xs.length cap') := by go_simp
  have hr : (((w.alloc (.cells #[.slice c xs.length cap'] 124)).alloc (.cells #[.int .i64 0] 3)).alloc (.cells #[.slice a xs.length cap] 124)).cell? ⟨w.heap.size + 1, 0, none⟩ = some (.int .i64 0) := by go_simp
  have hrf : (((w.alloc (.cells #[.slice c xs.length cap'] 124)).alloc (.cells #[.int .i64 0] 3)).alloc (.cells #[.slice a xs.length cap] 124)).frozen? ⟨w.heap.size + 1, 0, none⟩ = false := by go_simp
  have hbx : (((w.alloc (.cells #[.slice c xs.length cap'] 124)).alloc (.cells #[.int .i64 0] 3)).alloc (.cells #[.slice a xs.length cap] 124)).cell? ⟨w.heap.size + 1 + 1, 0, none⟩ = some (.slice a xs.length cap) := by go_simp
  have hsz : (((w.alloc (.cells #[.slice c xs.length cap'] 124)).alloc (.cells #[.int .i64 0] 3)).alloc (.cells #[.slice a xs.length cap] 124)).heap.size = w.heap.size + 3 := by simp
  generalize (((w.alloc (.cells #[.slice c xs.length cap'] 124)).alloc (.cells #[.int .i64 0] 3)).alloc (.cells #[.slice a xs.length cap] 124)) = W1 at hB1 hm hr hrf hbx hsz ⊢
  have hcs : ∀ i, i < xs.length → ∃ b off, c = some ⟨b, off, none⟩ ∧ W1.cell? ⟨b, off + i, none⟩ = some (.int .u64 (lim ys i)) ∧ b < W1.heap.size := fun i hi => by
    have e := HE.out
    obtain ⟨b2, o2, h1, h2, h3⟩ := hc (by intro e2; rw [e2] at e; simp only [List.length_nil] at e; omega)
    exact ⟨b2, o2, h1, (hB1.cell (p := ⟨b2, o2 + i, none⟩) h2).trans (h3 i (by omega)), by omega⟩
  have hsl : SlAt W1 b (.slice a xs.length cap) xs := ha.keep (c := b) (Keep2.of_below hB1 hb hb)
  clear hc ha HE
  refine wpIn_rangeFunc_ownF rfl (by decide) (gf := 139) (lb := #[.pointer (some ⟨w.heap.size + 1 + 1, 0, none⟩)]) rfl trivial (enters_of Tryz.func139 (by kernel_rfl) rfl)
    (back_stops Fence.wide _ trivial rfl (by decide) (w.heap.size + 1 + 1) b _ xs hl W1 (by omega) (by omega) hbx hsl) (fun h k => h.trans k)
    (fun W l o o' hl h ho hw => ?kb) (Below.refl _ _) (fun _ => rfl)
    (fun pre W => (∀ p ∈ pre, lim xs p.1 = lim ys p.1) ∧ Below W1.heap.size W1 W)
    (fun c pre W => c = .ret ∧ ∃ x pre', pre = pre' ++ [x] ∧ (∀ p ∈ pre', lim xs p.1 = lim ys p.1) ∧ lim xs x.1 ≠ lim ys x.1 ∧ W.cell? ⟨w.heap.size + 1, 0, none⟩ = some (.int .i64 (cmpN (lim xs x.1) (lim ys x.1))) ∧ Below w.heap.size w W)
    (OwnFrom.and (ownFrom_pure _ _) (ownFrom_below (Nat.le_refl _) (Nat.le_refl _)))
    (fun c s A B row hs hg hr' => ?ix)
    ⟨by simp, Below.refl _ _⟩
    (fun x => { tmps := #[.slice a xs.length cap, .slice c xs.length cap', undef, .pointer (some ⟨w.heap.size, 0, none⟩), .pointer (some ⟨w.heap.size + 1, 0, none⟩), .int .i64 0, .int .i64 (x.1 : Int), .int .u64 (lim xs x.1), undef,
      .slice a xs.length cap, .int .i64 xs.length, .slice c xs.length cap', .int .i64 xs.length, .int .i64 0, .int .i64 0, .bool false, undef, .slice a xs.length cap,
      .func (.func 139) #[] #[.pointer (some ⟨w.heap.size + 1 + 1, 0, none⟩)], .int .i64 (x.1 : Int), .int .u64 (lim xs x.1), undef, undef, undef, undef, undef, undef, undef, undef, undef], defers := [] })
    ?assign ?body ?done ?stop
  case kb =>
    have h1 := (Array.getElem?_eq_some_iff.1 h).1
    exact ⟨World.putObj_heap_other (by omega), World.putObj_heap_other (by omega)⟩
  case ix =>
    obtain ⟨e, x, pre', e1, e2, e3, e4, e5⟩ := hs
    refine ⟨e, x, pre', e1, e2, e3, cell_kept e4 hg (fun r e => (hr' r e).2), e5.grown hg e5.size (fun k e => ?_)⟩
    have := (hr' k e).1
    omega
  case assign =>
    intro l x W K hK
    gi_wp2
    exact hK
  case body =>
    rintro l pre x W ⟨hpre, hbW⟩ hlen
    have hmW := (hbW.cell (p := ⟨w.heap.size, 0, none⟩) (by simp; omega)).trans hm
    have hrW := (hbW.cell (p := ⟨w.heap.size + 1, 0, none⟩) (by simp; omega)).trans hr
    have hrfW := (hbW.frozen (p := ⟨w.heap.size + 1, 0, none⟩) (by simp; omega)).trans hrf
    obtain ⟨b2, o2, hc2, hcc, hb2⟩ := hcs x.1 x.2
    have hccW := (hbW.cell (p := ⟨b2, o2 + x.1, none⟩) hb2).trans hcc
    obtain ⟨i, hi⟩ := x
    dsimp only at hccW ⊢
    subst hc2
    have HP := Lib.hid hpre
    have HB := Lib.hid hbW
    have HB1 := Lib.hid hB1
    clear hpre hbW hB1 hcs hsl hm hr hrf hbx hcc
    by_cases hq : lim xs i = lim ys i
    · have HQ := Lib.hid hq
      rw [← hq] at hccW
      clear hq
      gi_wp2_with (first
        | (refine ⟨trivial, ?_⟩; gi_at_call 120; refine (CallsIn.inRound l (callsIn_wide.2 (cmpU_same (lim xs i) _))).mono ?_; rintro e w' ⟨rfl, rfl⟩)
        | (gi_at_call 120; refine (CallsIn.inRound l (callsIn_wide.2 (cmpU_same (lim xs i) _))).mono ?_; rintro e w' ⟨rfl, rfl⟩))
      refine ⟨KeepsOthers.of_below (Below.refl _ _), Keep2.refl _ _ _, ?_, HB.out⟩
      intro p hp
      rcases List.mem_append.1 hp with h | h
      · exact HP.out p h
      · simp only [List.mem_cons, List.not_mem_nil, or_false] at h; subst h; exact HQ.out
    · have hc0 : (cmpN (lim xs i) (lim ys i) != 0) = true := by rw [bne_iff_ne]; intro h; exact hq (cmpN_zero h)
      have HQ := Lib.hid hq
      clear hq
      gi_wp2_with (first
        | (refine ⟨trivial, ?_⟩; gi_at_call 120; refine (CallsIn.inRound l (callsIn_wide.2 (cmpU (lim xs i) (lim ys i) _))).mono ?_; rintro e w' ⟨rfl, rfl⟩)
        | (gi_at_call 120; refine (CallsIn.inRound l (callsIn_wide.2 (cmpU (lim xs i) (lim ys i) _))).mono ?_; rintro e w' ⟨rfl, rfl⟩))
      exact ⟨KeepsOthers.setCell _ _ _, rfl, ⟨i, hi⟩, pre, rfl, HP.out, HQ.out, World.cell?_setCell_same' _ _ _ (by rw [hrW]; rfl), (HB1.out.trans (HB.out.mono (by omega))).setCell (by simp) _⟩
  case done =>
    rintro D zs W hD rfl ⟨hall, hbW⟩ hK
    have hrW := (hbW.cell (p := ⟨w.heap.size + 1, 0, none⟩) (by simp; omega)).trans hr
    have hrfW := (hbW.frozen (p := ⟨w.heap.size + 1, 0, none⟩) (by simp; omega)).trans hrf
    have HA := Lib.hid hall
    have HB := Lib.hid (hB1.trans (hbW.mono (by omega)))
    clear hall hbW hB1 hcs hsl hm hr hrf hbx
    gi_wp2
    refine ⟨by simp, .inl ⟨_, _, rfl, run_takeDeferred (((KeepsOthers.setCell W ⟨w.heap.size + 1, 0, none⟩ (.int .i64 0)).same D _ hK rfl)), ?_⟩⟩
    have hcR : ((W.setCell ⟨w.heap.size + 1, 0, none⟩ (.int .i64 0)).putObj D (.deferred none)).cell? ⟨w.heap.size + 1, 0, none⟩ = some (.int .i64 0) :=
      cell_kept (World.cell?_setCell_same' _ _ _ (by rw [hrW]; rfl)) (grownBy_putObj' _ D (.deferred none)) (fun r e => by cases e; exact ⟨_, (KeepsOthers.setCell W ⟨w.heap.size + 1, 0, none⟩ (.int .i64 0)).same D _ hK rfl, rfl⟩)
    have hall : lv xs = lv ys := eq_of_back HEQ.out HA.out
    rw [hall, cmpN_eq]
    refine ⟨.int .i64 0, by simp [results, Tryz.results97, go_sem, hcR], rfl, ?_⟩
    exact (HB.out.setCell (p := ⟨w.heap.size + 1, 0, none⟩) (by simp) _).grown (grownBy_putObj' _ D _) (by have := HB.out.size; simp [World.setCell]; omega) (fun k e => by cases e; omega)
  case stop =>
    rintro D c pre W hD ⟨k, hk, hpre⟩ ⟨rfl, x, pre', h1, h2, h3, h4, h5⟩ hK
    have H2 := Lib.hid h2
    have H3 := Lib.hid h3
    have H5 := Lib.hid h5
    have HPR := Lib.hid (hpre.symm.trans h1)
    clear h2 h3 h5 hpre h1 hB1 hcs hsl hm hr hrf hbx
    gi_wp2
    refine ⟨by simp, .inl ⟨_, _, rfl, run_takeDeferred hK, ?_⟩⟩
    have hcR : (W.putObj D (.deferred none)).cell? ⟨w.heap.size + 1, 0, none⟩ = some (.int .i64 (cmpN (lim xs x.1) (lim ys x.1))) :=
      cell_kept h4 (grownBy_putObj' _ D (.deferred none)) (fun r e => by cases e; exact ⟨_, hK, rfl⟩)
    rw [cmp_of_back HEQ.out hx.out hy.out hk HPR.out H2.out H3.out]
    refine ⟨.int .i64 (cmpN (lim xs x.1) (lim ys x.1)), by simp [results, Tryz.results97, go_sem, hcR], rfl, ?_⟩
    exact H5.out.grown (grownBy_putObj' _ D _) H5.out.size (fun k e => by cases e; omega)

theorem SlAt.of {w : World} {v : Value} {xs : List Nat} (h : Sl w v xs) (h0 : 0 < w.heap.size) : ∃ b, b < w.heap.size ∧ SlAt w b v xs := by
  rcases h.shape with ⟨rfl, rfl⟩ | ⟨b, off, cap, rfl, hb, _, hc⟩
  · exact ⟨0, h0, .inl ⟨rfl, 0, rfl⟩⟩
  · exact ⟨b, hb, .inr ⟨off, cap, rfl, hc⟩⟩

/-- compare, at every two numbers -/
theorem compare_any (w : World) (v u : Value) (n m : Nat) (hn : Num w v n) (hm : Num w u m) (hbn : Small n) (h0 : 0 < w.heap.size) :
    Calls Tryz.prog 97 #[v, u] w fun e w' => e = .returned (.int .i64 (cmpN n m)) ∧ Below w.heap.size w w' := by
  obtain ⟨xs, hx, rfl, hsx⟩ := hn
  obtain ⟨ys, hy, rfl, hsy⟩ := hm
  have hl := hx.len_le (k := 200) hbn
  by_cases he : xs.length = ys.length
  · obtain ⟨b, hb, hat⟩ := SlAt.of hsx h0
    obtain ⟨a, cap, rfl, _⟩ := hsx.addr
    obtain ⟨c, cap', rfl, hc⟩ := hsy.addr
    exact compare_eq w a cap xs c cap' ys he (by omega) hx.1 hy.1 b hb hat hc
  · obtain ⟨a, cap, rfl, _⟩ := hsx.addr
    obtain ⟨c, cap', rfl, hc⟩ := hsy.addr
    refine (compare_len w a xs.length cap c ys.length cap' he).mono ?_
    rintro e w' ⟨rfl, hb⟩
    refine ⟨?_, hb⟩
    rcases Nat.lt_or_ge xs.length ys.length with h | h
    · have h1 := lv_lt hx.1
      have h2 := hy.ge (by intro e; simp [e] at h)
      have h3 : 1000000000 ^ xs.length ≤ 1000000000 ^ (ys.length - 1) := Nat.pow_le_pow_right (by omega) (by omega)
      rw [cmpN_lt h, cmpN_lt (by omega)]
    · have h' : ys.length < xs.length := by omega
      have h1 := lv_lt hy.1
      have h2 := hx.ge (by intro e; simp [e] at h')
      have h3 : 1000000000 ^ ys.length ≤ 1000000000 ^ (xs.length - 1) := Nat.pow_le_pow_right (by omega) (by omega)
      rw [cmpN_gt h', cmpN_gt (by omega)]

end Nt
end Go.Proofs.YtmekiidknjjfcaaGreatDoor

/- Texts that the proof needs: NatCmp, NatSearch, NatMul, NatDiv, NatDivB, NatGcd, NatPub, NatApi, NatApi2, NatWrap. -/
import Derived.Outline
import Derived.Deep.RegionWith
import Derived.BigRegion
import Derived.Deep.RegionHeld3
import Derived.Maps.AppendAt
import Derived.RangeFuncBox
import Derived.Laws.AppendOwnNone
import Derived.OneCell
import Derived.Deep.LoopGhost
import Derived.LaidEql
import Derived.Test.YtpmlhgmmobpilaaGreatDoorCards
import Derived.Test.YtpmlhgmmobpilaaGreatDoorTie
import Derived.ProofKit
import Derived.OpenShut
import Derived.Deep.DeepHandedRow
import Derived.Deep.DeepWitnessRowRef
import Derived.Deep.DeepLaidRun
import Derived.Lib.LaidTab
import Derived.Stop.LaidErr
import Derived.LaidMore
import Derived.LaidSub
import Derived.Test.YtpmlhgmmobpilaaGreatDoorKtA
namespace Go.Proofs.YtpmlhgmmobpilaaGreatDoor
open Go.RowKit Go.Shelf
attribute [local go_sem] Oper.semAt_some
namespace Nt
/-- -1, 0 or 1 -/
def cmpN (x y : Nat) : Int := if x < y then -1 else if y < x then 1 else 0
theorem cmpU (x y : Nat) (w : World) :
    Calls Tryz.prog 186 #[.int .u64 (x : Int), .int .u64 (y : Int)] w fun e w' => e = .returned (.int .i64 (cmpN x y)) ∧ w = w' := by
  have h : x < y ∨ (¬ x < y ∧ y < x) ∨ (¬ x < y ∧ ¬ y < x) := by omega
  unfold cmpN
  rcases h with h | ⟨h, h'⟩ | ⟨h, h'⟩
  all_goals
    go_enter Tryz.func186, Tryz.ntmps186
    go_wp2
    go_ret
    simp_all
theorem cmpI (x y : Nat) (w : World) :
    Calls Tryz.prog 78 #[.int .i64 (x : Int), .int .i64 (y : Int)] w fun e w' => e = .returned (.int .i64 (cmpN x y)) ∧ w = w' := by
  have h : x < y ∨ (¬ x < y ∧ y < x) ∨ (¬ x < y ∧ ¬ y < x) := by omega
  unfold cmpN
  rcases h with h | ⟨h, h'⟩ | ⟨h, h'⟩
  all_goals
    go_enter Tryz.func78, Tryz.ntmps78
    go_wp2
    go_ret
    simp_all
theorem cmpI_same (x : Nat) (w : World) :
    Calls Tryz.prog 78 #[.int .i64 (x : Int), .int .i64 (x : Int)] w fun e w' => e = .returned (.int .i64 0) ∧ w = w' := by
  go_enter Tryz.func78, Tryz.ntmps78
  go_wp2
  go_ret
  exact ⟨rfl, rfl⟩
theorem cmpU_same (x : Nat) (w : World) :
    Calls Tryz.prog 186 #[.int .u64 (x : Int), .int .u64 (x : Int)] w fun e w' => e = .returned (.int .i64 0) ∧ w = w' := by
  go_enter Tryz.func186, Tryz.ntmps186
  go_wp2
  go_ret
  exact ⟨rfl, rfl⟩
theorem cmpN_lt {x y : Nat} (h : x < y) : cmpN x y = -1 := by simp [cmpN, h]
theorem cmpN_gt {x y : Nat} (h : y < x) : cmpN x y = 1 := by unfold cmpN; rw [if_neg (by omega), if_pos h]
theorem cmpN_eq (x : Nat) : cmpN x x = 0 := by simp [cmpN]
theorem cmpN_zero {x y : Nat} (h : cmpN x y = 0) : x = y := by
  unfold cmpN at h
  split at h
  · cases h
  · split at h
    · cases h
    · omega
theorem KeepsOthers.of_below {W W' : World} (h : Below W.heap.size W W') : KeepsOthers W W' :=
  ⟨h.size, fun k _ hk _ => (h.block k (Array.getElem?_eq_some_iff.1 hk).1).trans hk⟩
/-- compare, where the lengths are different -/
theorem compare_len (w : World) (a : Option Addr) (n cap : Nat) (c : Option Addr) (m cap' : Nat) (hne : n ≠ m) :
    Calls Tryz.prog 146 #[.slice a n cap, .slice c m cap'] w fun e w' => e = .returned (.int .i64 (cmpN n m)) ∧ Below w.heap.size w w' := by
  have hc0 : (cmpN n m != 0) = true := by
    rw [bne_iff_ne]
    intro h
    exact hne (cmpN_zero h)
  go_enter Tryz.func146, Tryz.ntmps146
  go_wp2_with (go_at_call 78; refine (cmpI n m _).mono ?_; rintro e w' ⟨rfl, rfl⟩)
  refine bodyPost_ret (v := .int .i64 (cmpN n m)) (by simp [results, Tryz.results146, go_sem]) rfl ⟨rfl, ?_⟩
  exact ((Below.refl _ w).alloc (Nat.le_refl _) _).alloc (by simp) _
theorem mem_back {n : Nat} (k : Nat) (hk : k ≤ n) (p : Place n) : p ∈ back n k ↔ n - k ≤ p.1 := by
  induction k with
  | zero => simp [back_zero]; omega
  | succ k ih =>
    rw [back_succ n k (by omega), List.mem_append, ih (by omega)]
    simp only [List.mem_cons, List.not_mem_nil, or_false]
    constructor
    · rintro (h | h)
      · omega
      · have hv := congrArg Subtype.val h; dsimp only at hv; omega
    · intro h
      by_cases e : p.1 = n - 1 - k
      · right; exact Subtype.ext e
      · left; omega
theorem lv_above {xs ys : List Nat} (he : xs.length = ys.length) (k : Nat) (hk : k ≤ xs.length) (h : ∀ j, k ≤ j → j < xs.length → lim xs j = lim ys j) : lv xs + lo ys k = lv ys + lo xs k := by
  obtain ⟨d, hd⟩ : ∃ d, k + d = xs.length := ⟨xs.length - k, by omega⟩
  induction d generalizing k with
  | zero => rw [lo_all ys k (by omega), lo_all xs k (by omega)]; omega
  | succ d ih =>
    have := ih (k + 1) (by omega) (fun j h1 h2 => h j (by omega) h2) (by omega)
    rw [lo_succ, lo_succ, h k (Nat.le_refl _) (by omega)] at this
    omega
theorem eq_of_back {xs ys : List Nat} (he : xs.length = ys.length) (h : ∀ p : Place xs.length, p ∈ back xs.length xs.length → lim xs p.1 = lim ys p.1) : lv xs = lv ys := by
  have := lv_above he 0 (Nat.zero_le _) (fun j _ hj => h ⟨j, hj⟩ ((mem_back _ (Nat.le_refl _) _).2 (by simp)))
  rw [lo_zero, lo_zero] at this
  omega
theorem lt_of_limb {A a B b P x y : Nat} (h : A + (b + P * y) = B + (a + P * x)) (ha : a < P) (hxy : x < y) : A < B := by
  have : P * (x + 1) ≤ P * y := Nat.mul_le_mul_left _ hxy
  rw [Nat.mul_add] at this
  omega
theorem cmp_of_back {xs ys : List Nat} (he : xs.length = ys.length) (hx : InR xs) (hy : InR ys) {k : Nat} (hk : k ≤ xs.length) {pre : List (Place xs.length)} {x : Place xs.length} (hp : back xs.length k = pre ++ [x])
    (hall : ∀ p : Place xs.length, p ∈ pre → lim xs p.1 = lim ys p.1) (hne : lim xs x.1 ≠ lim ys x.1) : cmpN (lv xs) (lv ys) = cmpN (lim xs x.1) (lim ys x.1) := by
  cases k with
  | zero => rw [back_zero] at hp; simp at hp
  | succ k =>
    rw [back_succ _ _ (by omega)] at hp
    obtain ⟨h1, h2⟩ := List.append_inj' hp rfl
    simp only [List.cons.injEq, and_true] at h2
    subst h1
    have hv : xs.length - 1 - k = x.1 := congrArg Subtype.val h2
    rw [← hv] at hne ⊢
    clear h2 hp hv
    have := lv_above he (xs.length - 1 - k + 1) (by omega) (fun j h1 h2 => hall ⟨j, h2⟩ ((mem_back k (by omega) _).2 (by simp; omega)))
    rw [lo_succ, lo_succ] at this
    have a1 := lo_lt hx (xs.length - 1 - k)
    have a2 := lo_lt hy (xs.length - 1 - k)
    rcases Nat.lt_or_ge (lim xs (xs.length - 1 - k)) (lim ys (xs.length - 1 - k)) with h | h
    · rw [cmpN_lt h, cmpN_lt (lt_of_limb this a1 h)]
    · have h' : lim ys (xs.length - 1 - k) < lim xs (xs.length - 1 - k) := by omega
      rw [cmpN_gt h', cmpN_gt (lt_of_limb this.symm a2 h')]
set_option maxRecDepth 100000 in
set_option maxHeartbeats 1000000 in
theorem compare_eq (w : World) (a : Option Addr) (cap : Nat) (xs : List Nat) (c : Option Addr) (cap' : Nat) (ys : List Nat) (he : xs.length = ys.length) (hl : xs.length ≤ 1000000) (hx : Hid (InR xs)) (hy : Hid (InR ys)) (b : Nat) (hb : b < w.heap.size)
    (ha : SlAt w b (.slice a xs.length cap) xs)
    (hc : ys ≠ [] → ∃ b off, c = some ⟨b, off, none⟩ ∧ b < w.heap.size ∧ ∀ i, i < ys.length → w.cell? ⟨b, off + i, none⟩ = some (.int .u64 (lim ys i))) :
    Calls Tryz.prog 146 #[.slice a xs.length cap, .slice c ys.length cap'] w fun e w' => e = .returned (.int .i64 (cmpN (lv xs) (lv ys))) ∧ Below w.heap.size w w' := by
  have HEQ := Lib.hid he
  refine (callsIn_wide (n := 9)).1 ?_
  refine callsIn_of_wp_marks Tryz.func146 rfl trivial ?_ rfl
  simp only [Tryz.ntmps146, List.size_toArray, List.length_cons, List.length_nil, Nat.reduceAdd, Nat.reduceSub, Array.replicate_succ, Array.replicate_zero, List.push_toArray, List.append_toArray, List.nil_append, List.cons_append]
  rw [← he]
  have HE := Lib.hid he
  clear he
  gi_wp2_with (first
    | (refine ⟨trivial, ?_⟩; gi_at_call 78; refine (callsIn_wide.2 (cmpI_same xs.length _)).mono ?_; rintro e w' ⟨rfl, rfl⟩)
    | (gi_at_call 78; refine (callsIn_wide.2 (cmpI_same xs.length _)).mono ?_; rintro e w' ⟨rfl, rfl⟩)
    | (refine ⟨trivial, ?_⟩; gi_at_call 170; refine (back_make Fence.wide _ trivial rfl _ _ _ _).mono ?_; rintro e w' ⟨rfl, rfl⟩)
    | (gi_at_call 170; refine (back_make Fence.wide _ trivial rfl _ _ _ _).mono ?_; rintro e w' ⟨rfl, rfl⟩))
  have hB1 : Below w.heap.size w (((w.alloc (.cells #[.slice c xs.length cap'] 132)).alloc (.cells #[.int .i64 0] 3)).alloc (.cells #[.slice a xs.length cap] 132)) :=
    (((Below.refl _ w).alloc (Nat.le_refl _) _).alloc (by simp) _).alloc (by simp; omega) _
  have hm : (((w.alloc (.cells #[.slice c xs.length cap'] 132)).alloc (.cells #[.int .i64 0] 3)).alloc (.cells #[.slice a xs.length cap] 132)).cell? ⟨w.heap.size, 0, none⟩ = some (.slice c xs.length cap') := by go_simp
  have hr : (((w.alloc (.cells #[.slice c xs.length cap'] 132)).alloc (.cells #[.int .i64 0] 3)).alloc (.cells #[.slice a xs.length cap] 132)).cell? ⟨w.heap.size + 1, 0, none⟩ = some (.int .i64 0) := by go_simp
  have hrf : (((w.alloc (.cells #[.slice c xs.length cap'] 132)).alloc (.cells #[.int .i64 0] 3)).alloc (.cells #[.slice a xs.length cap] 132)).frozen? ⟨w.heap.size + 1, 0, none⟩ = false := by go_simp
  have hbx : (((w.alloc (.cells #[.slice c xs.length cap'] 132)).alloc (.cells #[.int .i64 0] 3)).alloc (.cells #[.slice a xs.length cap] 132)).cell? ⟨w.heap.size + 1 + 1, 0, none⟩ = some (.slice a xs.length cap) := by go_simp
  have hsz : (((w.alloc (.cells #[.slice c xs.length cap'] 132)).alloc (.cells #[.int .i64 0] 3)).alloc (.cells #[.slice a xs.length cap] 132)).heap.size = w.heap.size + 3 := by simp
  generalize (((w.alloc (.cells #[.slice c xs.length cap'] 132)).alloc (.cells #[.int .i64 0] 3)).alloc (.cells #[.slice a xs.length cap] 132)) = W1 at hB1 hm hr hrf hbx hsz ⊢
  have hcs : ∀ i, i < xs.length → ∃ b off, c = some ⟨b, off, none⟩ ∧ W1.cell? ⟨b, off + i, none⟩ = some (.int .u64 (lim ys i)) ∧ b < W1.heap.size := fun i hi => by
    have e := HE.out
    obtain ⟨b2, o2, h1, h2, h3⟩ := hc (by intro e2; rw [e2] at e; simp only [List.length_nil] at e; omega)
    exact ⟨b2, o2, h1, (hB1.cell (p := ⟨b2, o2 + i, none⟩) h2).trans (h3 i (by omega)), by omega⟩
  have hsl : SlAt W1 b (.slice a xs.length cap) xs := ha.keep (c := b) (Keep2.of_below hB1 hb hb)
  clear hc ha HE
  refine wpIn_rangeFunc_ownF rfl (by decide) (gf := 204) (lb := #[.pointer (some ⟨w.heap.size + 1 + 1, 0, none⟩)]) rfl trivial (enters_of Tryz.func204 (by kernel_rfl) rfl)
    (back_stops Fence.wide _ trivial rfl (by decide) (w.heap.size + 1 + 1) b _ xs hl W1 (by omega) (by omega) hbx hsl) (fun h k => h.trans k)
    (fun W l o o' hl h ho hw => ?kb) (Below.refl _ _) (fun _ => rfl)
    (fun pre W => (∀ p ∈ pre, lim xs p.1 = lim ys p.1) ∧ Below W1.heap.size W1 W)
    (fun c pre W => c = .ret ∧ ∃ x pre', pre = pre' ++ [x] ∧ (∀ p ∈ pre', lim xs p.1 = lim ys p.1) ∧ lim xs x.1 ≠ lim ys x.1 ∧ W.cell? ⟨w.heap.size + 1, 0, none⟩ = some (.int .i64 (cmpN (lim xs x.1) (lim ys x.1))) ∧ Below w.heap.size w W)
    (OwnFrom.and (ownFrom_pure _ _) (ownFrom_below (Nat.le_refl _) (Nat.le_refl _)))
    (fun c s A B row hs hg hr' => ?ix)
    ⟨by simp, Below.refl _ _⟩
    (fun x => { tmps := #[.slice a xs.length cap, .slice c xs.length cap', undef, .pointer (some ⟨w.heap.size, 0, none⟩), .pointer (some ⟨w.heap.size + 1, 0, none⟩), .int .i64 0, .int .i64 (x.1 : Int), .int .u64 (lim xs x.1), undef,
      .slice a xs.length cap, .int .i64 xs.length, .slice c xs.length cap', .int .i64 xs.length, .int .i64 0, .int .i64 0, .bool false, undef, .slice a xs.length cap,
      .func (.func 204) #[] #[.pointer (some ⟨w.heap.size + 1 + 1, 0, none⟩)], .int .i64 (x.1 : Int), .int .u64 (lim xs x.1), undef, undef, undef, undef, undef, undef, undef, undef, undef], defers := [] })
    ?assign ?body ?done ?stop
  case kb =>
    have h1 := (Array.getElem?_eq_some_iff.1 h).1
    exact ⟨World.putObj_heap_other (by omega), World.putObj_heap_other (by omega)⟩
  case ix =>
    obtain ⟨e, x, pre', e1, e2, e3, e4, e5⟩ := hs
    refine ⟨e, x, pre', e1, e2, e3, cell_kept e4 hg (fun r e => (hr' r e).2), e5.grown hg e5.size (fun k e => ?_)⟩
    have := (hr' k e).1
    omega
  case assign =>
    intro l x W K hK
    gi_wp2
    exact hK
  case body =>
    rintro l pre x W ⟨hpre, hbW⟩ hlen
    have hmW := (hbW.cell (p := ⟨w.heap.size, 0, none⟩) (by simp; omega)).trans hm
    have hrW := (hbW.cell (p := ⟨w.heap.size + 1, 0, none⟩) (by simp; omega)).trans hr
    have hrfW := (hbW.frozen (p := ⟨w.heap.size + 1, 0, none⟩) (by simp; omega)).trans hrf
    obtain ⟨b2, o2, hc2, hcc, hb2⟩ := hcs x.1 x.2
    have hccW := (hbW.cell (p := ⟨b2, o2 + x.1, none⟩) hb2).trans hcc
    obtain ⟨i, hi⟩ := x
    dsimp only at hccW ⊢
    subst hc2
    have HP := Lib.hid hpre
    have HB := Lib.hid hbW
    have HB1 := Lib.hid hB1
    clear hpre hbW hB1 hcs hsl hm hr hrf hbx hcc
    by_cases hq : lim xs i = lim ys i
    · have HQ := Lib.hid hq
      rw [← hq] at hccW
      clear hq
      gi_wp2_with (first
        | (refine ⟨trivial, ?_⟩; gi_at_call 186; refine (CallsIn.inRound l (callsIn_wide.2 (cmpU_same (lim xs i) _))).mono ?_; rintro e w' ⟨rfl, rfl⟩)
        | (gi_at_call 186; refine (CallsIn.inRound l (callsIn_wide.2 (cmpU_same (lim xs i) _))).mono ?_; rintro e w' ⟨rfl, rfl⟩))
      refine ⟨KeepsOthers.of_below (Below.refl _ _), Keep2.refl _ _ _, ?_, HB.out⟩
      intro p hp
      rcases List.mem_append.1 hp with h | h
      · exact HP.out p h
      · simp only [List.mem_cons, List.not_mem_nil, or_false] at h; subst h; exact HQ.out
    · have hc0 : (cmpN (lim xs i) (lim ys i) != 0) = true := by rw [bne_iff_ne]; intro h; exact hq (cmpN_zero h)
      have HQ := Lib.hid hq
      clear hq
      gi_wp2_with (first
        | (refine ⟨trivial, ?_⟩; gi_at_call 186; refine (CallsIn.inRound l (callsIn_wide.2 (cmpU (lim xs i) (lim ys i) _))).mono ?_; rintro e w' ⟨rfl, rfl⟩)
        | (gi_at_call 186; refine (CallsIn.inRound l (callsIn_wide.2 (cmpU (lim xs i) (lim ys i) _))).mono ?_; rintro e w' ⟨rfl, rfl⟩))
      exact ⟨KeepsOthers.setCell _ _ _, rfl, ⟨i, hi⟩, pre, rfl, HP.out, HQ.out, World.cell?_setCell_same' _ _ _ (by rw [hrW]; rfl), (HB1.out.trans (HB.out.mono (by omega))).setCell (by simp) _⟩
  case done =>
    rintro D zs W hD rfl ⟨hall, hbW⟩ hK
    have hrW := (hbW.cell (p := ⟨w.heap.size + 1, 0, none⟩) (by simp; omega)).trans hr
    have hrfW := (hbW.frozen (p := ⟨w.heap.size + 1, 0, none⟩) (by simp; omega)).trans hrf
    have HA := Lib.hid hall
    have HB := Lib.hid (hB1.trans (hbW.mono (by omega)))
    clear hall hbW hB1 hcs hsl hm hr hrf hbx
    gi_wp2
    refine ⟨by simp, .inl ⟨_, _, rfl, run_takeDeferred (((KeepsOthers.setCell W ⟨w.heap.size + 1, 0, none⟩ (.int .i64 0)).same D _ hK rfl)), ?_⟩⟩
    have hcR : ((W.setCell ⟨w.heap.size + 1, 0, none⟩ (.int .i64 0)).putObj D (.deferred none)).cell? ⟨w.heap.size + 1, 0, none⟩ = some (.int .i64 0) :=
      cell_kept (World.cell?_setCell_same' _ _ _ (by rw [hrW]; rfl)) (grownBy_putObj' _ D (.deferred none)) (fun r e => by cases e; exact ⟨_, (KeepsOthers.setCell W ⟨w.heap.size + 1, 0, none⟩ (.int .i64 0)).same D _ hK rfl, rfl⟩)
    have hall : lv xs = lv ys := eq_of_back HEQ.out HA.out
    rw [hall, cmpN_eq]
    refine ⟨.int .i64 0, by simp [results, Tryz.results146, go_sem, hcR], rfl, ?_⟩
    exact (HB.out.setCell (p := ⟨w.heap.size + 1, 0, none⟩) (by simp) _).grown (grownBy_putObj' _ D _) (by have := HB.out.size; simp [World.setCell]; omega) (fun k e => by cases e; omega)
  case stop =>
    rintro D c pre W hD ⟨k, hk, hpre⟩ ⟨rfl, x, pre', h1, h2, h3, h4, h5⟩ hK
    have H2 := Lib.hid h2
    have H3 := Lib.hid h3
    have H5 := Lib.hid h5
    have HPR := Lib.hid (hpre.symm.trans h1)
    clear h2 h3 h5 hpre h1 hB1 hcs hsl hm hr hrf hbx
    gi_wp2
    refine ⟨by simp, .inl ⟨_, _, rfl, run_takeDeferred hK, ?_⟩⟩
    have hcR : (W.putObj D (.deferred none)).cell? ⟨w.heap.size + 1, 0, none⟩ = some (.int .i64 (cmpN (lim xs x.1) (lim ys x.1))) :=
      cell_kept h4 (grownBy_putObj' _ D (.deferred none)) (fun r e => by cases e; exact ⟨_, hK, rfl⟩)
    rw [cmp_of_back HEQ.out hx.out hy.out hk HPR.out H2.out H3.out]
    refine ⟨.int .i64 (cmpN (lim xs x.1) (lim ys x.1)), by simp [results, Tryz.results146, go_sem, hcR], rfl, ?_⟩
    exact H5.out.grown (grownBy_putObj' _ D _) H5.out.size (fun k e => by cases e; omega)
theorem SlAt.of {w : World} {v : Value} {xs : List Nat} (h : Sl w v xs) (h0 : 0 < w.heap.size) : ∃ b, b < w.heap.size ∧ SlAt w b v xs := by
  rcases h.shape with ⟨rfl, rfl⟩ | ⟨b, off, cap, rfl, hb, _, hc⟩
  · exact ⟨0, h0, .inl ⟨rfl, 0, rfl⟩⟩
  · exact ⟨b, hb, .inr ⟨off, cap, rfl, hc⟩⟩
/-- compare, at every two numbers -/
theorem compare_any (w : World) (v u : Value) (n m : Nat) (hn : Num w v n) (hm : Num w u m) (hbn : Small n) (h0 : 0 < w.heap.size) :
    Calls Tryz.prog 146 #[v, u] w fun e w' => e = .returned (.int .i64 (cmpN n m)) ∧ Below w.heap.size w w' := by
  obtain ⟨xs, hx, rfl, hsx⟩ := hn
  obtain ⟨ys, hy, rfl, hsy⟩ := hm
  have hl := hx.len_le (k := 200) hbn
  by_cases he : xs.length = ys.length
  · obtain ⟨b, hb, hat⟩ := SlAt.of hsx h0
    obtain ⟨a, cap, rfl, _⟩ := hsx.addr
    obtain ⟨c, cap', rfl, hc⟩ := hsy.addr
    exact compare_eq w a cap xs c cap' ys he (by omega) hx.1 hy.1 b hb hat hc
  · obtain ⟨a, cap, rfl, _⟩ := hsx.addr
    obtain ⟨c, cap', rfl, hc⟩ := hsy.addr
    refine (compare_len w a xs.length cap c ys.length cap' he).mono ?_
    rintro e w' ⟨rfl, hb⟩
    refine ⟨?_, hb⟩
    rcases Nat.lt_or_ge xs.length ys.length with h | h
    · have h1 := lv_lt hx.1
      have h2 := hy.ge (by intro e; simp [e] at h)
      have h3 : 1000000000 ^ xs.length ≤ 1000000000 ^ (ys.length - 1) := Nat.pow_le_pow_right (by omega) (by omega)
      rw [cmpN_lt h, cmpN_lt (by omega)]
    · have h' : ys.length < xs.length := by omega
      have h1 := lv_lt hy.1
      have h2 := hx.ge (by intro e; simp [e] at h')
      have h3 : 1000000000 ^ ys.length ≤ 1000000000 ^ (xs.length - 1) := Nat.pow_le_pow_right (by omega) (by omega)
      rw [cmpN_gt h', cmpN_gt (by omega)]
end Nt
end Go.Proofs.YtpmlhgmmobpilaaGreatDoor

namespace Go.Proofs.YtpmlhgmmobpilaaGreatDoor
open Go.RowKit Go.Shelf
namespace Nt
def SearchPost (n : Nat) (p : Nat → Bool) (w : World) (e : Ending) (w' : World) : Prop :=
  ∃ r : Nat, e = .returned (.int .i64 (r : Int)) ∧ r ≤ n ∧ (∀ i, i < r → p i = false) ∧ (r < n → p r = true) ∧ Below w.heap.size w w'
set_option maxHeartbeats 1000000 in
theorem search_any (n : Nat) (hn : n ≤ 1000000000) (p : Nat → Bool) (c1 c2 : Value) (w : World)
    (hmono : Hid (∀ a b, a ≤ b → b < n → p a = true → p b = true))
    (H : Hid (∀ W i, Below w.heap.size w W → i < n → Calls Tryz.prog 172 #[.int .i64 (i : Int), c1, c2] W fun e W' => e = .returned (.bool (p i)) ∧ Below W.heap.size W W')) :
    Calls Tryz.prog 171 #[.int .i64 (n : Int), .func (.func 172) #[] #[c1, c2]] w (SearchPost n p w) := by
  go_enter Tryz.func171, Tryz.ntmps171
  go_wp2
  go_loopw [5, 6] (fun i j wr => ∃ a b : Nat, a ≤ b ∧ b ≤ n ∧ i = .int .i64 a ∧ j = .int .i64 b ∧ Hid ((∀ k, k < a → p k = false) ∧ (b < n → p b = true)) ∧ Below w.heap.size w wr)
    (fun i j _ => (intOf j - intOf i).toNat)
  case atStart => exact ⟨0, n, Nat.zero_le _, Nat.le_refl _, rfl, rfl, ⟨fun k h => by omega, fun h => by omega⟩, Below.refl _ _⟩
  case round =>
    obtain ⟨a, b, hab, hbn, rfl, rfl, hinv, hbel⟩ := hrel
    replace hbel := Lib.hid hbel
    by_cases hlt : a < b
    · go_wp2_with fail
      obtain ⟨q, hq⟩ : ∃ q : Nat, q = (a + b) / 2 := ⟨_, rfl⟩
      have e : ((a : Int) + b) / 2 = (q : Int) := by rw [hq]; omega
      rw [e]
      have haq : a ≤ q := by omega
      have hqb : q < b := by omega
      clear hq e
      refine (H.out _ q hbel.out (by omega)).mono ?_
      rintro e w' ⟨rfl, hb'⟩
      have hbel' := Lib.hid (hbel.out.trans (hb'.mono hbel.out.size))
      clear hb' hbel
      by_cases hp : p q = true
      · have HP := Lib.hid hp
        rw [hp]
        clear hp
        go_wp2
        exact ⟨⟨a, q, haq, by omega, rfl, rfl, ⟨hinv.out.1, fun _ => HP.out⟩, hbel'.out⟩, by simp only [intOf]; omega⟩
      · replace hp : p q = false := by simpa using hp
        have HP := Lib.hid hp
        rw [hp]
        clear hp
        go_wp2
        refine ⟨⟨q + 1, b, by omega, hbn, by go_num, rfl, ⟨fun k hk => ?_, hinv.out.2⟩, hbel'.out⟩, by simp only [intOf]; omega⟩
        cases hk' : p k with
        | false => rfl
        | true => rw [← HP.out]; exact (hmono.out k q (by omega) (by omega) hk').symm
    · obtain rfl : a = b := by omega
      go_wp2
      go_ret
      exact ⟨a, rfl, hbn, hinv.out.1, hinv.out.2, hbel.out⟩
end Nt
end Go.Proofs.YtpmlhgmmobpilaaGreatDoor

namespace Go.Proofs.YtpmlhgmmobpilaaGreatDoor
open Go.RowKit
namespace Nt
/-- Between two rounds of the outer loop of a product. -/
def RelMul (B : Nat) (w : World) (xs ys : List Nat) (g : Nat) (i : Nat) (wr : World) : Prop :=
  ∃ zs, zs.length = xs.length + ys.length ∧ InR zs ∧ Row 177 wr g zs ∧ lv zs = lo xs i * lv ys ∧ (∀ j, i + ys.length ≤ j → lim zs j = 0) ∧ Below B w wr
/-- Between two rounds of the inner loop. -/
def RelMulIn (B : Nat) (w : World) (xs ys : List Nat) (g : Nat) (i j c : Nat) (wr : World) : Prop :=
  ∃ zs, zs.length = xs.length + ys.length ∧ InR zs ∧ Row 177 wr g zs ∧ c < 1000000000 ∧
    lv zs + c * 1000000000 ^ (i + j) = lo xs i * lv ys + 1000000000 ^ i * (lim xs i * lo ys j) ∧ (∀ j, i + ys.length ≤ j → lim zs j = 0) ∧ Below B w wr
theorem mul_step {Z Z' R P x z c c' : Nat} {T : Nat} (h : Z + c * P = R) (hs : Z' + P * z = Z + P * (x % 1000000000)) (hc : c' = x / 1000000000) (hx : x = z + T + c) :
    Z' + c' * (P * 1000000000) = R + P * T := by
  have e1 : P * x = P * z + P * T + P * c := by rw [hx, Nat.mul_add, Nat.mul_add]
  have e2 : P * x = P * (x % 1000000000) + P * (1000000000 * (x / 1000000000)) := by rw [← Nat.mul_add, Nat.mod_add_div]
  have e3 : c' * (P * 1000000000) = P * (1000000000 * (x / 1000000000)) := by
    rw [hc, Nat.mul_comm, Nat.mul_assoc]
  have e4 : c * P = P * c := Nat.mul_comm _ _
  omega
theorem RelMulIn.step {B : Nat} {w wr : World} {xs ys : List Nat} {g i j c : Nat} (h : RelMulIn B w xs ys g i j c wr) (hB : B ≤ g) (hi : i < xs.length) (hj : j < ys.length) (hx : InR xs) (hy : InR ys)
    {z T : Nat} {y : Int} (hz : wr.cell? ⟨g, i + j, none⟩ = some (.int .u64 (z : Int))) (hT : T = lim xs i * lim ys j) (he : y = (((z + T + c) % 1000000000 : Nat) : Int)) :
    RelMulIn B w xs ys g i (j + 1) ((z + T + c) / 1000000000) (wr.setCell ⟨g, i + j, none⟩ (.int .u64 y)) := by
  subst he hT
  obtain ⟨zs, h1, h2, h3, h4, h5, h6, h7⟩ := h
  have hzc := h3.cell (i := i + j) (by omega)
  rw [hz] at hzc
  have hzz : z = lim zs (i + j) := by simp at hzc; omega
  have b1 := h2.lim (i + j)
  have b2 := hx.lim i
  have b3 := hy.lim j
  have b4 : lim xs i * lim ys j ≤ 999999999 * 999999999 := Nat.mul_le_mul (by omega) (by omega)
  refine ⟨zs.set (i + j) ((z + lim xs i * lim ys j + c) % 1000000000), by simpa using h1, h2.set _ _ (Nat.mod_lt _ (by omega)), h3.set _ _, by omega, ?_, fun p hp => ?_, h7.setCell hB _⟩
  · have hs := lv_set zs (i + j) ((z + lim xs i * lim ys j + c) % 1000000000) (by omega)
    rw [← hzz] at hs
    have := mul_step h5 hs rfl rfl
    rw [lo_succ, show i + (j + 1) = i + j + 1 from rfl, Nat.pow_succ, this, Nat.mul_add, Nat.mul_add]
    have e : 1000000000 ^ (i + j) * (lim xs i * lim ys j) = 1000000000 ^ i * (lim xs i * (1000000000 ^ j * lim ys j)) := by
      rw [Nat.pow_add, Nat.mul_assoc, Nat.mul_left_comm (1000000000 ^ j)]
    omega
  · rw [lim_set_ne _ _ _ _ (by omega)]; exact h6 p hp
theorem RelMul.start {B : Nat} {w wr : World} {xs ys : List Nat} {g i : Nat} (h : RelMul B w xs ys g i wr) : RelMulIn B w xs ys g i 0 0 wr := by
  obtain ⟨zs, h1, h2, h3, h4, h5, h6⟩ := h
  exact ⟨zs, h1, h2, h3, by omega, by simp [h4, lo_zero], h5, h6⟩
theorem RelMulIn.done {B : Nat} {w wr : World} {xs ys : List Nat} {g i c : Nat} (h : RelMulIn B w xs ys g i ys.length c wr) (hB : B ≤ g) (hi : i < xs.length) :
    RelMul B w xs ys g (i + 1) (wr.setCell ⟨g, i + ys.length, none⟩ (.int .u64 (c : Int))) := by
  obtain ⟨zs, h1, h2, h3, h4, h5, h6, h7⟩ := h
  refine ⟨zs.set (i + ys.length) c, by simpa using h1, h2.set _ _ h4, h3.set _ _, ?_, fun p hp => ?_, h7.setCell hB _⟩
  · have hs := lv_set zs (i + ys.length) c (by omega)
    rw [h6 _ (Nat.le_refl _)] at hs
    rw [lo_all ys _ (Nat.le_refl _)] at h5
    rw [lo_succ, Nat.add_mul, Nat.mul_assoc]
    have : c * 1000000000 ^ (i + ys.length) = 1000000000 ^ (i + ys.length) * c := Nat.mul_comm _ _
    omega
  · rw [lim_set_ne _ _ _ _ (by omega)]; exact h6 p (by omega)
theorem cast_quo (z a b c : Nat) : ((z : Int) + a * b + c) / 1000000000 = (((z + a * b + c) / 1000000000 : Nat) : Int) := by
  rw [Int.natCast_ediv, Int.natCast_add, Int.natCast_add, Int.natCast_mul]; rfl
theorem cast_rem (z a b c : Nat) : ((z : Int) + a * b + c) % 1000000000 = (((z + a * b + c) % 1000000000 : Nat) : Int) := by
  rw [Int.natCast_emod, Int.natCast_add, Int.natCast_add, Int.natCast_mul]; rfl
theorem RelMulIn.at {B : Nat} {w wr : World} {xs ys : List Nat} {g i j c : Nat} (h : RelMulIn B w xs ys g i j c wr) (hi : i < xs.length) (hj : j < ys.length) :
    ∃ z : Nat, z < 1000000000 ∧ wr.cell? ⟨g, i + j, none⟩ = some (.int .u64 (z : Int)) ∧ wr.frozen? ⟨g, i + j, none⟩ = false ∧ c < 1000000000 ∧ Below B w wr := by
  obtain ⟨zs, h1, h2, h3, h4, h5, h6, h7⟩ := h
  exact ⟨lim zs (i + j), h2.lim _, h3.cell (by omega), h3.frozen _, h4, h7⟩
set_option maxHeartbeats 1000000 in
theorem mul_walk (w : World) (a : Option Addr) (cap : Nat) (xs : List Nat) (c : Option Addr) (cap' : Nat) (ys : List Nat) (hl : xs.length ≤ 1000) (hyl : ys.length ≤ 1000)
    (hx : InR xs) (hy : InR ys)
    (ha : xs ≠ [] → ∃ b off, a = some ⟨b, off, none⟩ ∧ b < w.heap.size ∧ ∀ i, i < xs.length → w.cell? ⟨b, off + i, none⟩ = some (.int .u64 (lim xs i)))
    (hc : ys ≠ [] → ∃ b off, c = some ⟨b, off, none⟩ ∧ b < w.heap.size ∧ ∀ i, i < ys.length → w.cell? ⟨b, off + i, none⟩ = some (.int .u64 (lim ys i))) :
    Calls Tryz.prog 173 #[.slice a xs.length cap, .slice c ys.length cap'] w (PostNumV w.heap.size w (lv xs * lv ys)) := by
  have hmk := run_make_num (xs.length + ys.length) (by omega)
  rw [Int.natCast_add] at hmk
  go_enter Tryz.func173, Tryz.ntmps173
  go_wp2
  go_loopw [20] (fun i wr => ∃ k : Nat, k ≤ xs.length ∧ i = .int .i64 k ∧ RelMul w.heap.size w xs ys w.heap.size k wr)
    (fun i _ => xs.length - (intOf i).toNat)
  case atStart => exact ⟨0, Nat.zero_le _, rfl, List.replicate (xs.length + ys.length) 0, by simp, InR.zeros _, Row.made0 _ _ _, by rw [lo_zero, Nat.zero_mul]; exact lv_zeros _ (fun j hj => lim_zeros _ _), (fun j hj => lim_zeros _ _), (Below.refl _ _).alloc (Nat.le_refl _) _⟩
  case round =>
    obtain ⟨k, hk, rfl, hrel⟩ := hrel
    by_cases hkn : k < xs.length
    · obtain ⟨bx, ox, hax, hbx, hcx⟩ := ha (by intro e; simp [e] at hkn)
      obtain ⟨zs, z1, z2, z3, z4, z5, z6⟩ := id hrel
      have hcxk := (z6.cell (p := ⟨bx, ox + k, none⟩) hbx).trans (hcx k hkn)
      have hxk := hx.lim k
      subst hax
      have HC := Lib.hid hc
      clear hcx ha z1 z2 z3 z4 z5 z6 hmk hc
      have HR := Lib.hid hrel
      clear hrel
      go_wp2
      obtain ⟨wo, rfl⟩ : ∃ wo : World, wo = wr := ⟨_, rfl⟩
      go_loopw [8, 27] (fun cc j wr => ∃ q c : Nat, q ≤ ys.length ∧ j = .int .i64 q ∧ cc = .int .u64 c ∧ RelMulIn w.heap.size w xs ys w.heap.size k q c wr)
        (fun _ j _ => ys.length - (intOf j).toNat)
      case atStart => exact ⟨0, 0, Nat.zero_le _, rfl, rfl, HR.out.start⟩
      case round =>
        obtain ⟨q, c2, hq, rfl, rfl, hrel⟩ := hrel
        by_cases hqn : q < ys.length
        · obtain ⟨b2, oy, hay, hby, hcy⟩ := HC.out (by intro e; simp [e] at hqn)
          subst hay
          obtain ⟨z, hz, hzc, hzf, hc2, hbel⟩ := hrel.at hkn hqn
          have hcyk := hbel.cell (p := ⟨b2, oy + q, none⟩) hby |>.trans (hcy q hqn)
          have hyk := hy.lim q
          have hprod : (lim xs k : Int) * (lim ys q : Int) ≤ 999999998000000001 := by
            have : lim xs k * lim ys q ≤ 999999999 * 999999999 := Nat.mul_le_mul (by omega) (by omega)
            have : ((lim xs k * lim ys q : Nat) : Int) ≤ ((999999999 * 999999999 : Nat) : Int) := by exact_mod_cast this
            simpa using this
          have hprod0 : 0 ≤ (lim xs k : Int) * (lim ys q : Int) := Int.mul_nonneg (by omega) (by omega)
          replace hrel := Lib.hid hrel
          replace hx := Lib.hid hx
          replace hy := Lib.hid hy
          clear hcy hbel HC
          go_wp2
          exact ⟨⟨q + 1, (z + lim xs k * lim ys q + c2) / 1000000000, by omega, by go_num, congrArg (Value.int .u64) (cast_quo _ _ _ _),
            hrel.out.step (Nat.le_refl _) hkn hqn hx.out hy.out hzc rfl (cast_rem _ _ _ _)⟩, by simp only [intOf]; omega⟩
        · obtain rfl : q = ys.length := by omega
          have HR' := Lib.hid (hrel.done (Nat.le_refl _) hkn)
          obtain ⟨zs, z1, z2, z3, z4, z5, z6, z7⟩ := hrel
          have hzc := z3.cell (i := k + ys.length) (by omega)
          have hzf := z3.frozen (k + ys.length)
          replace hx := Lib.hid hx
          replace hy := Lib.hid hy
          clear z1 z2 z3 z5 z6 z7 HC
          go_wp2
          exact ⟨⟨k + 1, by omega, by go_num, HR'.out⟩, by simp only [intOf]; omega⟩
    · obtain rfl : k = xs.length := by omega
      obtain ⟨zs, z1, z2, z3, z4, z5, z6⟩ := id hrel
      have Z1 := Lib.hid z1
      have Z4 := Lib.hid z4
      have hsl := z3.sl
      rw [z1] at hsl
      clear z1 z4 hrel ha hc hmk z5
      go_wp2_with (go_at_call 169; refine (trim_any _ _ _ (by have := Z1.out; omega) hsl).mono ?_; rintro e w' ⟨v, k, rfl, ht, hs, hf, rfl⟩)
      go_ret
      exact ⟨v, rfl, ⟨zs.take k, ht.canon z2, by rw [ht.lv, Z4.out, lo_all _ _ (Nat.le_refl _)], hs⟩, hf _ (Nat.le_refl _), z6⟩
/-- mul, at every two numbers. -/
theorem mul_any (w : World) (v u : Value) (n m : Nat) (hn : Num w v n) (hm : Num w u m) (hbn : Small n) (hbm : Small m) :
    Calls Tryz.prog 173 #[v, u] w (PostNumV w.heap.size w (n * m)) := by
  obtain ⟨xs, hx, rfl, hsx⟩ := hn
  obtain ⟨ys, hy, rfl, hsy⟩ := hm
  have hl := hx.len_le (k := 200) hbn
  have hyl := hy.len_le (k := 200) hbm
  obtain ⟨a, cap, rfl, ha⟩ := hsx.addr
  obtain ⟨c, cap', rfl, hc⟩ := hsy.addr
  exact mul_walk w a cap xs c cap' ys (by omega) (by omega) hx.1 hy.1 ha hc
end Nt
end Go.Proofs.YtpmlhgmmobpilaaGreatDoor

namespace Go.Proofs.YtpmlhgmmobpilaaGreatDoor
open Go.RowKit Go.Shelf
namespace Nt
theorem num_one (w : World) (x : Nat) (h0 : 0 < x) (h : x < 1000000000) {X : Int} (hX : X = (x : Int)) :
    Num (w.alloc (.cells #[.int .u64 X] 177)) (.slice (some ⟨w.heap.size, 0, none⟩) 1 1) x := by
  subst hX
  refine ⟨[x], ⟨fun y hy => ?_, ?_⟩, by simp [lv], ?_⟩
  · simp at hy; omega
  · simp; omega
  · refine Sl.mk (xs := [x]) (by simp) (Nat.le_refl _) (fun i hi => ?_)
    have hi : i < 1 := hi
    obtain rfl : i = 0 := by omega
    rw [Nat.zero_add, World.cell?_alloc_new]
    rfl
theorem small_of_le {a b : Nat} (h : Small b) (hab : a ≤ b) : Small a := Nat.lt_of_le_of_lt hab h
theorem small_limb {a : Nat} (h : a < 1000000000) : Small a := by
  have h1 : 1000000000 ^ 1 ≤ 1000000000 ^ 200 := Nat.pow_le_pow_right (by omega) (by omega)
  rw [Nat.pow_one] at h1
  exact Nat.lt_of_lt_of_le h h1
theorem cmpN_pos (x y : Nat) : decide (0 < cmpN x y) = decide (y < x) := by
  unfold cmpN
  split
  · simp; omega
  · split
    · simp; omega
    · simp; omega
set_option maxHeartbeats 2000000 in
theorem closure_any (W : World) (k : Nat) (hk : k < 999999999) (bm br : Nat) (mv rv : Value) (M R : Nat) (hm : W.cell? ⟨bm, 0, none⟩ = some mv) (hr : W.cell? ⟨br, 0, none⟩ = some rv)
    (hM : Hid (Num W mv M)) (hR : Hid (Num W rv R)) (hbM : Hid (Small (M * 1000000000))) :
    Calls Tryz.prog 172 #[.int .i64 (k : Int), .pointer (some ⟨bm, 0, none⟩), .pointer (some ⟨br, 0, none⟩)] W fun e W' => e = .returned (.bool (decide (R < M * (k + 1)))) ∧ Below W.heap.size W W' := by
  have hbr : br < W.heap.size := block_lt_of_cell hr
  have hbm : bm < W.heap.size := block_lt_of_cell hm
  have s1 : IntKind.i64.wrap ((k : Int) + 1) = (k : Int) + 1 := IntWalk.i64_in _ (by omega)
  have s2 : IntKind.u64.wrap ((k : Int) + 1) = (k : Int) + 1 := IntWalk.u64_in _ (by omega)
  have hone := num_one W (k + 1) (by omega) (by omega) (X := (k : Int) + 1) (by omega)
  have cM := mul_any (W.alloc (.cells #[.int .u64 ((k : Int) + 1)] 177)).drew mv (.slice (some ⟨W.heap.size, 0, none⟩) 1 1) M (k + 1) (hM.out.below ((Below.refl _ _).alloc (Nat.le_refl _) _).drew) hone (small_of_le hbM.out (by omega)) (small_limb (by omega))
  go_enter Tryz.func172, Tryz.ntmps172
  go_wp2
  go_region_held3 (fun w' => w'.cell? ⟨bm, 0, none⟩ = some mv ∧ w'.cell? ⟨br, 0, none⟩ = some rv)
    (first
      | go_keep
      | (go_split_ands
         refine ⟨?_, ?_⟩
         · assumption
         · assumption))
    (first
    | (go_at_call 173; refine cM.mono ?_; rintro e w' ⟨v, rfl, hv, _, hb⟩; have hbW : Below W.heap.size W w' := ((Below.refl W.heap.size W).alloc (Nat.le_refl _) _).drew.trans (hb.mono (by simp)); have hcm := (hbW.cell (p := ⟨bm, 0, none⟩) hbm).trans hm; have hcr := (hbW.cell (p := ⟨br, 0, none⟩) hbr).trans hr; replace hb := Lib.hid hb; replace hbW := Lib.hid hbW)
    | (go_at_call 146; refine (compare_any _ _ _ (M * (k + 1)) R (by assumption) (by exact hR.out.below (Hid.out (by assumption))) (small_of_le hbM.out (Nat.mul_le_mul_left _ (by omega))) (by have := (Hid.out (p := Below W.heap.size W _) (by assumption)).size; omega)).mono ?_; rintro e w2 ⟨rfl, hb2⟩; have hbW2 : Below W.heap.size W w2 := hbW.out.trans (hb2.mono hbW.out.size); have hcm2 := (hbW2.cell (p := ⟨bm, 0, none⟩) hbm).trans hm; have hcr2 := (hbW2.cell (p := ⟨br, 0, none⟩) hbr).trans hr; replace hbW2 := Lib.hid hbW2; clear hcm hcr hb2))
  go_wp2
  go_ret
  exact ⟨congrArg (fun b => Ending.returned (.bool b)) (cmpN_pos _ _), hbW2.out⟩
end Nt
end Go.Proofs.YtpmlhgmmobpilaaGreatDoor

namespace Go.Proofs.YtpmlhgmmobpilaaGreatDoor
open Go.RowKit Go.Shelf
attribute [local go_sem] Oper.semAt_some
namespace Nt
theorem alloc_at_old (w : World) (o : Obj) {k : Nat} {x : Obj} (h : w.heap[k]? = some x) : (w.alloc o).heap[k]? = some x :=
  (Below.heap_alloc w o k (Array.getElem?_eq_some_iff.1 h).1).trans h
theorem alloc_at_new (w : World) (o : Obj) {k : Nat} (h : k = w.heap.size) : (w.alloc o).heap[k]? = some o := by
  subst h; exact heap_alloc_new w o
theorem five (w : World) (o1 o2 o3 o4 o5 : Obj) :
    (((((w.alloc o1).alloc o2).alloc o3).alloc o4).alloc o5).heap[w.heap.size]? = some o1 ∧ (((((w.alloc o1).alloc o2).alloc o3).alloc o4).alloc o5).heap[w.heap.size + 1]? = some o2 ∧
    (((((w.alloc o1).alloc o2).alloc o3).alloc o4).alloc o5).heap[w.heap.size + 1 + 1]? = some o3 ∧ (((((w.alloc o1).alloc o2).alloc o3).alloc o4).alloc o5).heap[w.heap.size + 1 + 1 + 1]? = some o4 ∧
    (((((w.alloc o1).alloc o2).alloc o3).alloc o4).alloc o5).heap[w.heap.size + 1 + 1 + 1 + 1]? = some o5 ∧ (((((w.alloc o1).alloc o2).alloc o3).alloc o4).alloc o5).heap.size = w.heap.size + 5 ∧
    Below w.heap.size w (((((w.alloc o1).alloc o2).alloc o3).alloc o4).alloc o5) := by
  refine ⟨?_, ?_, ?_, ?_, ?_, by simp, ?_⟩
  · exact alloc_at_old _ _ (alloc_at_old _ _ (alloc_at_old _ _ (alloc_at_old _ _ (alloc_at_new _ _ rfl))))
  · exact alloc_at_old _ _ (alloc_at_old _ _ (alloc_at_old _ _ (alloc_at_new _ _ (by simp))))
  · exact alloc_at_old _ _ (alloc_at_old _ _ (alloc_at_new _ _ (by simp)))
  · exact alloc_at_old _ _ (alloc_at_new _ _ (by simp))
  · exact alloc_at_new _ _ (by simp)
  · exact (((((Below.refl _ w).alloc (Nat.le_refl _) _).alloc (by simp) _).alloc (by simp; omega) _).alloc (by simp; omega) _).alloc (by simp; omega) _
/-- w' is w but for new blocks, and for some of the old ones. -/
structure KeptBut (S : Nat → Prop) (w w' : World) : Prop where
  os : w'.os = w.os
  tape : w'.tape = w.tape
  output : w'.output = w.output
  size : w.heap.size ≤ w'.heap.size
  block : ∀ k, k < w.heap.size → ¬ S k → w'.heap[k]? = w.heap[k]?
theorem KeptBut.refl (S : Nat → Prop) (w : World) : KeptBut S w w := ⟨rfl, rfl, rfl, Nat.le_refl _, fun _ _ _ => rfl⟩
theorem KeptBut.below {S : Nat → Prop} {w w' w'' : World} (h : KeptBut S w w') (hb : Below w'.heap.size w' w'') : KeptBut S w w'' :=
  ⟨hb.os.trans h.os, hb.tape.trans h.tape, hb.output.trans h.output, Nat.le_trans h.size hb.size, fun k hk hs => (hb.block k (Nat.lt_of_lt_of_le hk h.size)).trans (h.block k hk hs)⟩
theorem KeptBut.setCell {S : Nat → Prop} {w w' : World} (h : KeptBut S w w') {p : Addr} (hp : w.heap.size ≤ p.block ∨ S p.block) (v : Value) : KeptBut S w (w'.setCell p v) :=
  ⟨h.os, h.tape, h.output, by simpa [World.setCell] using h.size, fun k hk hs => (Below.heap_setCell _ _ _ _ (fun e => by subst e; rcases hp with hp | hp; (· omega); (· exact hs hp))).trans (h.block k hk hs)⟩
theorem KeptBut.grown {S : Nat → Prop} {w w' w'' : World} {row : Option Nat} (h : KeptBut S w w') (hg : w'.grownBy w'' row) (hr : ∀ k, row = some k → w.heap.size ≤ k ∨ S k) : KeptBut S w w'' :=
  ⟨hg.os.trans h.os, hg.tape.trans h.tape, hg.output.trans h.output, Nat.le_trans h.size hg.size, fun k hk hs =>
    (hg.block k (Nat.lt_of_lt_of_le hk h.size) (fun e => by rcases hr k e.symm with h1 | h1; (· omega); (· exact hs h1))).trans (h.block k hk hs)⟩
theorem KeptBut.to {S : Nat → Prop} {B : Nat} {w0 w w' : World} (h : KeptBut S w w') (h0 : Below B w0 w) (hB : B ≤ w.heap.size) (hS : ∀ k, S k → B ≤ k) : Below B w0 w' :=
  h0.trans ⟨h.os, h.tape, h.output, h.size, fun k hk => h.block k (by omega) (fun hs => by have := hS k hs; omega)⟩
/-- A box: one cell in a block of its own. -/
def Box (t : TypeId) (W : World) (b : Nat) (v : Value) : Prop := W.heap[b]? = some (.cells #[v] t (0, 0))
theorem Box.cell {t : TypeId} {W : World} {b : Nat} {v : Value} (h : Box t W b v) : W.cell? ⟨b, 0, none⟩ = some v := by
  unfold Box at h; simp [World.cell?, h]
theorem Box.frozen {t : TypeId} {W : World} {b : Nat} {v : Value} (h : Box t W b v) : W.frozen? ⟨b, 0, none⟩ = false := by
  unfold Box at h; simp [World.frozen?, h]
theorem Box.lt {t : TypeId} {W : World} {b : Nat} {v : Value} (h : Box t W b v) : b < W.heap.size := (Array.getElem?_eq_some_iff.1 h).1
theorem Box.set {t : TypeId} {W : World} {b : Nat} {v : Value} (h : Box t W b v) (u : Value) : Box t (W.setCell ⟨b, 0, none⟩ u) b u := by
  unfold Box at h ⊢
  simp [World.setCell, Array.getElem?_modify, h]
theorem Box.other {t : TypeId} {W : World} {b : Nat} {v : Value} (h : Box t W b v) (p : Addr) (u : Value) (hp : b ≠ p.block) : Box t (W.setCell p u) b v := by
  unfold Box at h ⊢; rw [Below.heap_setCell _ _ _ _ hp]; exact h
theorem Box.below {t : TypeId} {W W' : World} {b n : Nat} {v : Value} (h : Box t W b v) (hb : Below n W W') (hn : b < n) : Box t W' b v := by
  unfold Box at h ⊢; rw [hb.block b hn]; exact h
theorem Row.other {t : TypeId} {W : World} {g : Nat} {zs : List Nat} (h : Row t W g zs) (p : Addr) (u : Value) (hp : g ≠ p.block) : Row t (W.setCell p u) g zs := by
  unfold Row at h ⊢; rw [Below.heap_setCell _ _ _ _ hp]; exact h
theorem Row.below {t : TypeId} {W W' : World} {g n : Nat} {zs : List Nat} (h : Row t W g zs) (hb : Below n W W') (hn : g < n) : Row t W' g zs := by
  unfold Row at h ⊢; rw [hb.block g hn]; exact h
theorem run_append_sl (t ty e : TypeId) (i : TypeInfo) (B : Nat) (w : World) (ht : Tryz.prog.underlying t = some (.slice e)) (hi : Tryz.prog.info? e = some i) (hz : i.zero = some (.int .u64 0)) (hs : i.size = 1) (hby : i.bytes = 8)
    (v sv : Value) (n : Nat) (xs ys : List Nat) (hown : Own e B w v n xs) (hsl : Sl w sv ys) (hb : n + ys.length ≤ 1000000) (hB : B ≤ w.heap.size) :
    ∃ v' w', (Builtin.append_ #[t, t] ty #[v, sv]).run Tryz.prog w = .ok v' w' ∧ Own e B w' v' (n + ys.length) (xs ++ ys) ∧ w.grownBy w' v.ownBlock := by
  rcases hsl.shape with ⟨rfl, rfl⟩ | ⟨b, off, cap, rfl, hb', _, hc⟩
  · refine ⟨v, w, run_append_owned_none w B t ty e i 1 ht hi v n _ hown, ?_, World.grownBy.refl _ _⟩
    simpa using hown
  · obtain ⟨v', w', h1, h2, h3, _⟩ := run_append_own w B t ty e i (.int .u64 0) 1 8 ht hi hz hs hby rfl (by decide) v n _ hown ⟨b, off, none⟩ ys.length cap (lvals ys) (by simp [lvals])
      (fun j u hj => by
        simp only [lvals, List.getElem?_map, Option.map_eq_some_iff] at hj
        obtain ⟨y, hy, rfl⟩ := hj
        have hjl := (List.getElem?_eq_some_iff.1 hy).1
        have := hc j hjl
        rw [lim_lt _ _ hjl, (List.getElem?_eq_some_iff.1 hy).2] at this
        rw [Lib.add_plain]; exact this)
      (fun u hu => by simp only [lvals, List.mem_map] at hu; obtain ⟨y, _, rfl⟩ := hu; rfl) (by unfold maxLen; omega) (by omega) hB
    refine ⟨v', w', h1, ?_, h3⟩
    unfold Own
    rw [lvals, List.map_append]
    exact h2
/-- append of a slice of limbs to a row of the call's own, in a round -/
theorem wpListIn_append_sl {F : Fence} {N : Nat} (w : World) {ops : Array Oper} {rest : List Oper} {o : Oper} {a : Act} {Q : Exit → Act → World → Prop}
    (hg : o.guard = none) (s x : Operand) (t : TypeId) (hop : o.op = Op.call { callee := Callee.builtin Builtin.append, args := #[s, x], argTypes := #[t, t] }) (e : TypeId) (i : TypeInfo) (B : Nat)
    (ht : Tryz.prog.underlying t = some (.slice e)) (hi : Tryz.prog.info? e = some i) (hz : i.zero = some (.int .u64 0)) (hsz : i.size = 1) (hby : i.bytes = 8)
    (v sv : Value) (n : Nat) (xs ys : List Nat) (hs : a.eval s = v) (hx : a.eval x = sv) (hown : Own e B w v n xs) (hsl : Sl w sv ys) (hb : n + ys.length ≤ 1000000) (hB : B ≤ w.heap.size)
    (hK : ∀ v' w', Own e B w' v' (n + ys.length) (xs ++ ys) → w.grownBy w' v.ownBlock → wpListIn F N Tryz.prog ops Q rest (a.put o.dst v') w') :
    wpListIn F N Tryz.prog ops Q (o :: rest) a w := by
  refine wpListIn_plain hg fun K hK' => ?_
  obtain ⟨v', w', hrun, r1, r2⟩ := run_append_sl t o.type e i B w ht hi hz hsz hby v sv n xs ys hown hsl hb hB
  unfold Oper.wpIn
  refine ⟨?_, ?_⟩
  · simp [Oper.about, hop, resolve, Target.leads, Sem.run_pure]
  · rw [Oper.semAt_plain F _ _ (by rw [hop]; intro c hc'; cases hc')]
    simp [execOp, hop, resolve, invoke, builtin, hs, hx, hrun, Result.andThen]
    exact hK' _ _ (hK v' w' r1 r2)
theorem Sl.kept {A B : World} {row : Option Nat} {v : Value} {xs : List Nat} (h : Sl A v xs) (hg : A.grownBy B row) (hr : ∀ r, row = some r → ∃ o : Obj, A.heap[r]? = some o ∧ o.isCells = false) : Sl B v xs := by
  obtain ⟨a, cap, rfl, hn, hs⟩ := h
  refine ⟨a, cap, rfl, hn, fun ad e => ?_⟩
  obtain ⟨h1, h2, h3, h4⟩ := hs ad e
  exact ⟨h1, Nat.lt_of_lt_of_le h2 hg.size, h3, fun i hi => cell_kept (h4 i hi) hg hr⟩
theorem Num.kept {A B : World} {row : Option Nat} {v : Value} {n : Nat} (h : Num A v n) (hg : A.grownBy B row) (hr : ∀ r, row = some r → ∃ o : Obj, A.heap[r]? = some o ∧ o.isCells = false) : Num B v n := by
  obtain ⟨xs, h1, h2, h3⟩ := h
  exact ⟨xs, h1, h2, h3.kept hg hr⟩
theorem Sl.setCell {W : World} {v : Value} {xs : List Nat} {B : Nat} (h : Sl W v xs) (hf : From B v) (p : Addr) (hp : p.block < B) (u : Value) : Sl (W.setCell p u) v xs := by
  obtain ⟨a, cap, rfl, hn, hs⟩ := h
  refine ⟨a, cap, rfl, hn, fun ad e => ?_⟩
  obtain ⟨h1, h2, h3, h4⟩ := hs ad e
  subst e
  have hB : B ≤ ad.block := hf
  refine ⟨h1, by simpa [World.setCell] using h2, h3, fun i hi => ?_⟩
  rw [← h4 i hi]
  exact World.cell?_of_block (w := W) (a := ⟨ad.block, ad.off + i, none⟩) (Below.heap_setCell _ _ _ _ (by show ad.block ≠ p.block; omega))
theorem Num.setCell {W : World} {v : Value} {n B : Nat} (h : Num W v n) (hf : From B v) (p : Addr) (hp : p.block < B) (u : Value) : Num (W.setCell p u) v n := by
  obtain ⟨xs, h1, h2, h3⟩ := h
  exact ⟨xs, h1, h2, h3.setCell hf p hp u⟩
theorem From.mono {B B' : Nat} {v : Value} (h : From B v) (hb : B' ≤ B) : From B' v := by
  unfold From at h ⊢
  split
  · exact Nat.le_trans hb h
  · trivial
theorem Num.shape {W : World} {v : Value} {n : Nat} (h : Num W v n) : ∃ a l c, v = .slice a l c := by
  obtain ⟨xs, _, _, a, c, h, _⟩ := h
  exact ⟨a, _, c, h⟩
/-- One step of a division: the rest and the quotient's limbs. -/
def divStep (xs : List Nat) (M : Nat) (s : Nat × List Nat) (x : Place xs.length) : Nat × List Nat :=
  if lim xs x.1 + 1000000000 * s.1 < M then (lim xs x.1 + 1000000000 * s.1, s.2)
  else ((lim xs x.1 + 1000000000 * s.1) % M, s.2.set x.1 ((lim xs x.1 + 1000000000 * s.1) / M))
def divSt (xs : List Nat) (M : Nat) (pre : List (Place xs.length)) : Nat × List Nat := pre.foldl (divStep xs M) (0, List.replicate xs.length 0)
theorem divSt_snoc (xs : List Nat) (M : Nat) (pre : List (Place xs.length)) (x : Place xs.length) : divSt xs M (pre ++ [x]) = divStep xs M (divSt xs M pre) x := by
  simp [divSt, List.foldl_append]
def DivI (w W1 : World) (xs : List Nat) (M : Nat) (pre : List (Place xs.length)) (W : World) : Prop :=
  (∃ rv, Box 132 W (w.heap.size + 1 + 1 + 1) rv ∧ Num W rv (divSt xs M pre).1 ∧ From W1.heap.size rv) ∧ Row 177 W (w.heap.size + 1) (divSt xs M pre).2 ∧
  (divSt xs M pre).1 < M ∧ (divSt xs M pre).2.length = xs.length ∧ InR (divSt xs M pre).2 ∧ KeptBut (fun k => k = w.heap.size + 1 ∨ k = w.heap.size + 1 + 1 + 1) W1 W
theorem divStep_plain (xs : List Nat) (M : Nat) (p : Nat) (hp : p < xs.length) (s : Nat × List Nat) (hM : 0 < M) (hz : s.2.length = xs.length) (h0 : ∀ j, j ≤ p → lim s.2 j = 0)
    (h4 : lv s.2 * M + 1000000000 ^ (p + 1) * s.1 + lo xs (p + 1) = lv xs) :
    (divStep xs M s ⟨p, hp⟩).1 < M ∧ (divStep xs M s ⟨p, hp⟩).2.length = xs.length ∧ (∀ j, j < p → lim (divStep xs M s ⟨p, hp⟩).2 j = 0) ∧
    lv (divStep xs M s ⟨p, hp⟩).2 * M + 1000000000 ^ p * (divStep xs M s ⟨p, hp⟩).1 + lo xs p = lv xs := by
  obtain ⟨r, zs⟩ := s
  dsimp only at hz h0 h4
  rw [lo_succ, Nat.pow_succ] at h4
  unfold divStep
  dsimp only
  generalize lim xs p = x at h4 ⊢
  have key : 1000000000 ^ p * (x + 1000000000 * r) = 1000000000 ^ p * x + 1000000000 ^ p * 1000000000 * r := by rw [Nat.mul_add, Nat.mul_assoc]
  split
  · rename_i hlt
    exact ⟨hlt, hz, fun j hj => h0 j (by omega), by dsimp only; omega⟩
  · rename_i hge
    have hs := lv_set zs p ((x + 1000000000 * r) / M) (by omega)
    rw [h0 p (Nat.le_refl _)] at hs
    refine ⟨Nat.mod_lt _ hM, by simpa using hz, fun j hj => by rw [lim_set_ne _ _ _ _ (by omega)]; exact h0 j (by omega), ?_⟩
    dsimp only
    have e1 : lv (zs.set p ((x + 1000000000 * r) / M)) = lv zs + 1000000000 ^ p * ((x + 1000000000 * r) / M) := by omega
    have e2 : 1000000000 ^ p * (x + 1000000000 * r) = 1000000000 ^ p * (M * ((x + 1000000000 * r) / M)) + 1000000000 ^ p * ((x + 1000000000 * r) % M) := by rw [← Nat.mul_add, Nat.div_add_mod]
    have e3 : 1000000000 ^ p * ((x + 1000000000 * r) / M) * M = 1000000000 ^ p * (M * ((x + 1000000000 * r) / M)) := by rw [Nat.mul_assoc, Nat.mul_comm M]
    rw [e1, Nat.add_mul, e3]
    omega
/-- What the steps from the last limb on come to. -/
theorem divSt_back (xs : List Nat) (M : Nat) (hM : 0 < M) (k : Nat) (hk : k ≤ xs.length) :
    (divSt xs M (back xs.length k)).1 < M ∧ (divSt xs M (back xs.length k)).2.length = xs.length ∧ (∀ j, j < xs.length - k → lim (divSt xs M (back xs.length k)).2 j = 0) ∧
    lv (divSt xs M (back xs.length k)).2 * M + 1000000000 ^ (xs.length - k) * (divSt xs M (back xs.length k)).1 + lo xs (xs.length - k) = lv xs := by
  induction k with
  | zero =>
    refine ⟨hM, by simp [divSt, back_zero], fun j hj => by simp only [divSt, back_zero, List.foldl_nil]; exact lim_zeros _ _, ?_⟩
    simp only [divSt, back_zero, List.foldl_nil, Nat.sub_zero]
    rw [lv_zeros _ (fun j hj => lim_zeros _ _), lo_all _ _ (Nat.le_refl _)]
    omega
  | succ k ih =>
    obtain ⟨_, h2, h3, h4⟩ := ih (by omega)
    rw [back_succ _ _ (by omega), divSt_snoc]
    have e1 : xs.length - (k + 1) = xs.length - 1 - k := by omega
    have e2 : xs.length - k = xs.length - 1 - k + 1 := by omega
    rw [e1]
    rw [e2] at h3 h4
    exact divStep_plain xs M _ _ _ hM h2 (fun j hj => h3 j (by omega)) h4
theorem divSt_end (xs : List Nat) (M : Nat) (hM : 0 < M) : lv (divSt xs M (back xs.length xs.length)).2 = lv xs / M ∧ (divSt xs M (back xs.length xs.length)).1 = lv xs % M := by
  obtain ⟨h1, _, _, h4⟩ := divSt_back xs M hM xs.length (Nat.le_refl _)
  rw [Nat.sub_self, Nat.pow_zero, Nat.one_mul, lo_zero, Nat.add_zero] at h4
  constructor
  · rw [← h4, Nat.mul_comm, Nat.mul_add_div hM, Nat.div_eq_of_lt h1, Nat.add_zero]
  · rw [← h4, Nat.mul_comm, Nat.mul_add_mod, Nat.mod_eq_of_lt h1]
set_option maxRecDepth 100000 in
set_option maxHeartbeats 1000000 in
theorem div_walk (w : World) (a : Option Addr) (cap : Nat) (xs : List Nat) (mc : Option Addr) (ml mcap M : Nat) (hl : xs.length ≤ 200) (hx : Hid (InR xs)) (b : Nat) (hb : b < w.heap.size)
    (ha : Hid (SlAt w b (.slice a xs.length cap) xs)) (hM : Hid (Num w (.slice mc ml mcap) M)) (hM0 : 0 < M) (hsM : Hid (Small (M * 1000000000))) :
    Calls Tryz.prog 130 #[.slice a xs.length cap, .slice mc ml mcap] w fun e w' =>
      (∃ v u, e = .returned (.tuple #[v, u]) ∧ Num w' v (lv xs / M) ∧ Num w' u (lv xs % M)) ∧ Below w.heap.size w w' := by
  have hmk := run_make_num xs.length (by omega)
  refine (callsIn_wide (n := 9)).1 ?_
  refine callsIn_of_wp_marks Tryz.func130 rfl trivial ?_ rfl
  simp only [Tryz.ntmps130, List.size_toArray, List.length_cons, List.length_nil, Nat.reduceAdd, Nat.reduceSub, Array.replicate_succ, Array.replicate_zero, List.push_toArray, List.append_toArray, List.nil_append, List.cons_append]
  gi_wp2_with (first
    | (refine ⟨trivial, ?_⟩; gi_at_call 170; refine (back_make Fence.wide _ trivial rfl _ _ _ _).mono ?_; rintro e w' ⟨rfl, rfl⟩)
    | (gi_at_call 170; refine (back_make Fence.wide _ trivial rfl _ _ _ _).mono ?_; rintro e w' ⟨rfl, rfl⟩))
  obtain ⟨f1, f2, f3, f4, f5, f6, f7⟩ := five w (.cells #[.slice mc ml mcap] 132) (.cells (madeCells #[.int .u64 0] xs.length) 177) (.cells #[.slice (some ⟨w.heap.size + 1, 0, none⟩) xs.length xs.length] 132) (.cells #[.slice none 0 0] 132) (.cells #[.slice a xs.length cap] 132)
  generalize ((((w.alloc (.cells #[.slice mc ml mcap] 132)).alloc (.cells (madeCells #[.int .u64 0] xs.length) 177)).alloc (.cells #[.slice (some ⟨w.heap.size + 1, 0, none⟩) xs.length xs.length] 132)).alloc (.cells #[.slice none 0 0] 132)).alloc (.cells #[.slice a xs.length cap] 132) = W1 at f1 f2 f3 f4 f5 f6 f7 ⊢
  rw [madeZero] at f2
  have hbx : W1.cell? ⟨w.heap.size + 1 + 1 + 1 + 1, 0, none⟩ = some (.slice a xs.length cap) := Box.cell f5
  have hsl : SlAt W1 b (.slice a xs.length cap) xs := ha.out.keep (c := b) (Keep2.of_below f7 hb hb)
  have hMW : Num W1 (.slice mc ml mcap) M := hM.out.below f7
  refine wpIn_rangeFunc_ownF rfl (by decide) (gf := 204) (lb := #[.pointer (some ⟨w.heap.size + 1 + 1 + 1 + 1, 0, none⟩)]) rfl trivial (enters_of Tryz.func204 (by kernel_rfl) rfl)
    (back_stops Fence.wide _ trivial rfl (by decide) (w.heap.size + 1 + 1 + 1 + 1) b _ xs (by omega) W1 (by omega) (by omega) hbx hsl) (fun h k => h.trans k)
    (fun W l o o' hl h ho hw => ?kb) (Below.refl _ _) (fun _ => rfl)
    (DivI w W1 xs M) (fun _ _ _ => False)
    (fun s A B row hs hg hr => ?own)
    (fun _ _ _ _ _ hs _ _ => hs)
    ⟨⟨_, f4, ⟨[], ⟨fun x hx => absurd hx (by simp), by simp⟩, rfl, Sl.nil _⟩, trivial⟩, f2, hM0, by simp [divSt], InR.zeros _, KeptBut.refl _ _⟩
    (fun x => { tmps := #[.slice a xs.length cap, .slice mc ml mcap, undef, .pointer (some ⟨w.heap.size, 0, none⟩), .slice none 0 0, .slice none 0 0, .pointer (some ⟨w.heap.size + 1 + 1, 0, none⟩), .pointer (some ⟨w.heap.size + 1 + 1 + 1, 0, none⟩),
      .int .i64 (x.1 : Int), .int .u64 (lim xs x.1), undef, .slice a xs.length cap, .int .i64 xs.length, .slice (some ⟨w.heap.size + 1, 0, none⟩) xs.length xs.length, .slice a xs.length cap,
      .func (.func 204) #[] #[.pointer (some ⟨w.heap.size + 1 + 1 + 1 + 1, 0, none⟩)], .int .i64 (x.1 : Int), .int .u64 (lim xs x.1),
      undef, undef, undef, undef, undef, undef, undef, undef, undef, undef, undef, undef, undef, undef, undef, undef, undef, undef, undef, undef, undef, undef, undef, undef, undef, undef], defers := [] })
    ?assign ?body ?done ?stop
  case kb =>
    have h1 := (Array.getElem?_eq_some_iff.1 h).1
    exact ⟨World.putObj_heap_other (by omega), World.putObj_heap_other (by omega)⟩
  case own =>
    obtain ⟨⟨rv, s1, s2, s2f⟩, s3, s4, s5, s6, s7⟩ := hs
    have hr' := fun r e => (hr r e).2
    exact ⟨⟨rv, block_kept s1 hg hr', s2.kept hg hr', s2f⟩, block_kept s3 hg hr', s4, s5, s6, s7.grown hg (fun k e => .inl (hr k e).1)⟩
  case assign =>
    intro l x W K hK
    gi_wp2
    exact hK
  case body =>
    rintro l pre x W ⟨⟨rv, s1, ⟨rs, c1, c2, c3⟩, s2f⟩, s3, s4, s5, s6, s7⟩ hlen
    obtain ⟨i0, hi, hz0, hz1, hz2⟩ := info_parts infoU
    have hsz := s7.size
    have hb0 : w.heap.size < W.heap.size := by omega
    have hb1 : w.heap.size + 1 < W.heap.size := by omega
    have hb2 : w.heap.size + 1 + 1 < W.heap.size := by omega
    have hb3 : w.heap.size + 1 + 1 + 1 < W.heap.size := by omega
    have hcr := Box.cell s1
    have hfr := Box.frozen s1
    have hlim := hx.out.lim x.1
    have hbxM : Box 132 W w.heap.size (.slice mc ml mcap) := (s7.block w.heap.size (by omega) (by omega)).trans f1
    have hbxQ : Box 132 W (w.heap.size + 1 + 1) (.slice (some ⟨w.heap.size + 1, 0, none⟩) xs.length xs.length) := (s7.block (w.heap.size + 1 + 1) (by omega) (by omega)).trans f3
    have hcM := Box.cell (show Box 132 W w.heap.size (.slice mc ml mcap) from (s7.block w.heap.size (by omega) (by omega)).trans f1)
    have hown : Own 177 W.heap.size (W.alloc (.cells #[.int .u64 (lim xs x.1)] 177)) (.slice (some ⟨W.heap.size, 0, none⟩) 1 1) 1 [lim xs x.1] := World.ownsRow_lit W #[.int .u64 (lim xs x.1)] 1 (Nat.le_refl _) (by unfold maxLen; omega) rfl
    have hslr : Sl (W.alloc (.cells #[.int .u64 (lim xs x.1)] 177)) rv rs := c3.below ((Below.refl _ _).alloc (Nat.le_refl _) _)
    obtain ⟨ar, capr, hrv, _⟩ := c3.addr
    subst hrv
    have C1 := Lib.hid c1
    have C2 := Lib.hid c2
    have S3 := Lib.hid s3
    have S4 := Lib.hid s4
    have S5 := Lib.hid s5
    have S6 := Lib.hid s6
    have S7 := Lib.hid s7
    have hrl : rs.length ≤ 200 := c1.len_le (small_of_le hsM.out (by omega))
    have F6 := Lib.hid f6
    replace hsz := Lib.hid hsz
    clear c1 c2 s3 s4 s5 s6 s7 hsl hMW hmk f1 f2 f3 f4 f5 f6 hbx c3
    gi_wp2_with (gi_at_builtin; refine wpListIn_append_sl _ rfl _ _ 132 rfl 177 i0 W.heap.size Tryz.underlying132 hi hz0 hz1 hz2 _ _ 1 [lim xs x.1] rs rfl rfl hown hslr (by omega) (by simp) ?_; intro v1 w1 hown1 hgr1)
    refine ⟨trivial, ?_⟩
    refine (CallsIn.inRound l (callsIn_wide.2 (trim_any w1 v1 (lim xs x.1 :: rs) (by simp; omega) hown1.sl))).mono ?_
    rintro e w2 ⟨v2, k2, rfl, ht2, hs2, hf2, rfl⟩
    have F2 := hf2 _ hown1.from
    have N2 : Num w1 v2 (lim xs x.1 + 1000000000 * (divSt xs M pre).1) := ⟨_, ht2.canon (fun y hy => by
      rcases List.mem_cons.1 hy with h | h
      · rw [h]; exact hlim
      · exact C1.out.1 y h), by rw [ht2.lv, lv, C2.out], hs2⟩
    have hB1 : Below W.heap.size W w1 := ((Below.refl W.heap.size W).alloc (Nat.le_refl _) _).grown hgr1 (by simp) (fun k e => by cases e; exact Nat.le_refl _)
    have s1' : Box 132 w1 (w.heap.size + 1 + 1 + 1) (.slice ar rs.length capr) := s1.below hB1 hb3
    have hxM1 := hbxM.below hB1 hb0
    have hcM1 := hxM1.cell
    have hcr1 := s1'.cell
    have hfr1 := s1'.frozen
    obtain ⟨a2, n2, cap2, e2⟩ : ∃ a n c, v2 = .slice a n c := by
      obtain ⟨a, c, h, _⟩ := hs2
      exact ⟨a, _, c, h⟩
    subst e2
    generalize hr1 : lim xs x.1 + 1000000000 * (divSt xs M pre).1 = r1 at N2
    have hsR : Small r1 := by
      rw [← hr1]
      exact small_of_le hsM.out (by have := S4.out; omega)
    have hrM : r1 < M * 1000000000 := by rw [← hr1]; have := S4.out; omega
    have HR1 := Lib.hid hr1
    replace hrM := Lib.hid hrM
    have HB1 := Lib.hid hB1
    replace N2 := Lib.hid N2
    replace F2 := Lib.hid F2
    clear hr1 hB1 hs2 hf2 ht2 hown1 hgr1 hown hslr hcr hfr C1 C2 hi hz0 hz1 hz2 s1
    gi_wp2
    -- the world behind the store of the rest
    have hsz1 := HB1.out.size
    have s1'' := s1'.set (.slice a2 n2 cap2)
    have hB3 : Below w.heap.size w (w1.setCell ⟨w.heap.size + 1 + 1 + 1, 0, none⟩ (.slice a2 n2 cap2)) := ((S7.out.to f7 f7.size (fun k h => by omega)).trans (HB1.out.mono (by omega))).setCell (by simp; omega) _
    have N3 : Num (w1.setCell ⟨w.heap.size + 1 + 1 + 1, 0, none⟩ (.slice a2 n2 cap2)) (.slice a2 n2 cap2) r1 := N2.out.setCell F2.out _ hb3 _
    have K3 : KeptBut (fun k => k = w.heap.size + 1 ∨ k = w.heap.size + 1 + 1 + 1) W1 (w1.setCell ⟨w.heap.size + 1 + 1 + 1, 0, none⟩ (.slice a2 n2 cap2)) := (S7.out.below HB1.out).setCell (.inr (.inr rfl)) _
    have R3 := ((S3.out.below HB1.out hb1).other ⟨w.heap.size + 1 + 1 + 1, 0, none⟩ (.slice a2 n2 cap2) (by simp))
    have hsz3 : W.heap.size ≤ (w1.setCell ⟨w.heap.size + 1 + 1 + 1, 0, none⟩ (.slice a2 n2 cap2)).heap.size := by simpa [World.setCell] using hsz1
    have hxM3 := hxM1.other ⟨w.heap.size + 1 + 1 + 1, 0, none⟩ (.slice a2 n2 cap2) (by simp; omega)
    have hxQ3 := (hbxQ.below HB1.out hb2).other ⟨w.heap.size + 1 + 1 + 1, 0, none⟩ (.slice a2 n2 cap2) (by simp)
    have KO3 : KeepsOthers W (w1.setCell ⟨w.heap.size + 1 + 1 + 1, 0, none⟩ (.slice a2 n2 cap2)) := (KeepsOthers.of_below HB1.out).trans (KeepsOthers.setCell _ _ _)
    have KK3 : Keep2 b (w.heap.size + 1 + 1 + 1 + 1) W (w1.setCell ⟨w.heap.size + 1 + 1 + 1, 0, none⟩ (.slice a2 n2 cap2)) := (Keep2.of_below HB1.out (by omega) (by have := F6.out; have := hsz.out; omega)).trans (Keep2.setCell _ _ _ (by simp; omega) (by simp))
    generalize w1.setCell ⟨w.heap.size + 1 + 1 + 1, 0, none⟩ (.slice a2 n2 cap2) = w3 at s1'' hB3 N3 K3 R3 hsz3 hxM3 hxQ3 KO3 KK3 ⊢
    clear hxM1 hcM1 s1' hcr1 hfr1 N2 hbxM hbxQ hcM HB1 hsz1
    refine ⟨trivial, ?_⟩
    refine (CallsIn.inRound l (callsIn_wide.2 (compare_any w3 _ _ r1 M N3 (hM.out.below hB3) ?sm1 ?sm2))).mono ?_
    case sm1 => exact hsR
    case sm2 => omega
    rintro e w4 ⟨rfl, hb4⟩
    by_cases hlt : r1 < M
    · rw [cmpN_lt hlt]
      gi_wp2
      have e : divSt xs M (pre ++ [x]) = (r1, (divSt xs M pre).2) := by rw [divSt_snoc, divStep, HR1.out, if_pos hlt]
      refine ⟨KO3.trans (KeepsOthers.of_below hb4), KK3.trans (Keep2.of_below hb4 (by omega) (by have := F6.out; have := hsz.out; omega)), ?_⟩
      unfold DivI
      rw [e]
      exact ⟨⟨_, s1''.below hb4 (by omega), N3.below hb4, F2.out.mono hsz.out⟩, R3.below hb4 (by omega), hlt, S5.out, S6.out, K3.below hb4⟩
    · rw [show cmpN r1 M = cmpN r1 M from rfl]
      have hc0 : decide (cmpN r1 M < 0) = false := by
        rcases Nat.lt_or_ge M r1 with h | h
        · rw [cmpN_gt h]; rfl
        · rw [show r1 = M by omega, cmpN_eq]; rfl
      generalize cmpN r1 M = cr at hc0 ⊢
      have hc1 : ¬ cr < 0 := by simpa using hc0
      clear hc0
      gi_wp2
      refine ⟨trivial, ?_⟩
      have hsz4 := hb4.size
      have M4 := (hM.out.below hB3).below hb4
      have N4 := N3.below hb4
      have hcM4 := (hxM3.below hb4 (by omega)).cell
      have hcR4 := (s1''.below hb4 (by omega)).cell
      refine (CallsIn.inRound l (callsIn_wide.2 (search_any 999999999 (by omega) (fun k => decide (r1 < M * (k + 1))) (.pointer (some ⟨w.heap.size, 0, none⟩)) (.pointer (some ⟨w.heap.size + 1 + 1 + 1, 0, none⟩)) w4
        (fun a b hab hbn h => by
          have h1 : M * (a + 1) ≤ M * (b + 1) := Nat.mul_le_mul_left _ (by omega)
          simp only [decide_eq_true_eq] at h ⊢
          omega)
        (fun W' i hW' hi => closure_any W' i hi w.heap.size (w.heap.size + 1 + 1 + 1) _ _ M r1 ((hW'.cell (p := ⟨w.heap.size, 0, none⟩) (by simp; omega)).trans hcM4) ((hW'.cell (p := ⟨w.heap.size + 1 + 1 + 1, 0, none⟩) (by simp; omega)).trans hcR4) (M4.below hW') (N4.below hW') hsM)))).mono ?_
      rintro e w5 ⟨d, rfl, hd1, hd2, hd3, hb5⟩
      have hd : d = r1 / M := by
        have hrM' := hrM.out
        refine (Nat.div_eq_of_lt_le ?_ ?_).symm
        · cases d with
          | zero => simp
          | succ d => have := hd2 d (by omega); simp only [decide_eq_false_iff_not] at this; rw [Nat.mul_comm]; omega
        · by_cases h : d < 999999999
          · have := hd3 h; simp only [decide_eq_true_eq] at this; rw [Nat.mul_comm]; exact this
          · obtain rfl : d = 999999999 := by omega
            rw [Nat.mul_comm]; exact hrM'
      have hsz5 := hb5.size
      have M5 := M4.below hb5
      have N5 := N4.below hb5
      have hxM5 := (hxM3.below hb4 (by omega)).below hb5 (by omega)
      have hxQ5 := (hxQ3.below hb4 (by omega)).below hb5 (by omega)
      have hxR5 := (s1''.below hb4 (by omega)).below hb5 (by omega)
      have R5 := (R3.below hb4 (by omega)).below hb5 (by omega)
      have K5 := (K3.below hb4).below hb5
      have KO5 := (KO3.trans (KeepsOthers.of_below hb4)).trans (KeepsOthers.of_below hb5)
      have KK5 := (KK3.trans (Keep2.of_below hb4 (by omega) (by have := F6.out; have := hsz.out; omega))).trans (Keep2.of_below hb5 (by omega) (by have := F6.out; have := hsz.out; omega))
      have hB5 := (hB3.trans (hb4.mono (by omega))).trans (hb5.mono (by omega))
      have hsW5 : W.heap.size ≤ w5.heap.size := by omega
      clear hsz4 M4 N4 hcM4 hcR4 hd1 hd2 hd3 hb5 hb4 hsz5 N3 R3 K3 s1'' hxM3 hxQ3 KO3 KK3 hB3 hsz3
      have hcQ5 := hxQ5.cell
      have hcG5 := R5.cell (i := x.1) (by have := S5.out; have := x.2; omega)
      have hfG5 := R5.frozen x.1
      have hxl : x.1 < xs.length := x.2
      have hd9 : d ≤ 999999999 := by rw [hd]; have := hrM.out; exact Nat.le_of_lt_succ (Nat.div_lt_of_lt_mul (by omega))
      have HD := Lib.hid hd
      clear hd
      gi_wp2
      have hsG : (w5.setCell ⟨w.heap.size + 1, x.1, none⟩ (.int .u64 (d : Int))).heap.size = w5.heap.size := by simp [World.setCell]
      have M6 : Num (w5.setCell ⟨w.heap.size + 1, x.1, none⟩ (.int .u64 (d : Int))) (.slice mc ml mcap) M := hM.out.below (hB5.setCell (Nat.le_succ _) _)
      have N6 := N5.setCell F2.out ⟨w.heap.size + 1, x.1, none⟩ hb1 (.int .u64 (d : Int))
      have hxM6 := hxM5.other ⟨w.heap.size + 1, x.1, none⟩ (.int .u64 (d : Int)) (Nat.ne_of_lt (Nat.lt_succ_self _))
      have hxR6 := hxR5.other ⟨w.heap.size + 1, x.1, none⟩ (.int .u64 (d : Int)) (by show w.heap.size + 1 + 1 + 1 ≠ w.heap.size + 1; omega)
      have R6 := R5.set x.1 d
      have K6 := K5.setCell (p := ⟨w.heap.size + 1, x.1, none⟩) (.inr (.inl rfl)) (.int .u64 (d : Int))
      have KO6 := KO5.trans (KeepsOthers.setCell w5 ⟨w.heap.size + 1, x.1, none⟩ (.int .u64 (d : Int)))
      have KK6 := KK5.trans (Keep2.setCell w5 ⟨w.heap.size + 1, x.1, none⟩ (.int .u64 (d : Int)) (by simp; omega) (by simp; omega))
      have hsW6 : W.heap.size ≤ (w5.setCell ⟨w.heap.size + 1, x.1, none⟩ (.int .u64 (d : Int))).heap.size := by omega
      generalize w5.setCell ⟨w.heap.size + 1, x.1, none⟩ (.int .u64 (d : Int)) = w6 at M6 N6 hxM6 hxR6 R6 K6 KO6 KK6 hsW6 ⊢
      have hd1 : 1 ≤ d := by rw [HD.out]; exact (Nat.one_le_div_iff hM0).2 (by omega)
      have hMd : M * d ≤ r1 := by rw [HD.out]; exact Nat.mul_div_le r1 M
      have hone := num_one w6 d (by omega) (by omega) (X := (d : Int)) rfl
      have cM := mul_any (w6.alloc (.cells #[.int .u64 (d : Int)] 177)).drew (.slice mc ml mcap) (.slice (some ⟨w6.heap.size, 0, none⟩) 1 1) M d (M6.below ((Below.refl _ _).alloc (Nat.le_refl _) _).drew) hone (small_of_le hsM.out (by omega)) (small_limb (by omega))
      have hcM6 := hxM6.cell
      have hcR6 := hxR6.cell
      have hfR6 := hxR6.frozen
      have hm6 : w.heap.size < w6.heap.size := by omega
      have hr6 : w.heap.size + 1 + 1 + 1 < w6.heap.size := by omega
      have s1 : IntKind.u64.wrap (d : Int) = (d : Int) := IntWalk.u64_in _ (by omega)
      replace hMd := Lib.hid hMd
      replace N6 := Lib.hid N6
      replace hone := Lib.hid hone
      replace R6 := Lib.hid R6
      replace K6 := Lib.hid K6
      replace KO6 := Lib.hid KO6
      replace KK6 := Lib.hid KK6
      replace hxR6 := Lib.hid hxR6
      clear M6 hxM6 hsG N5 hxM5 hxR5 hxQ5 hcQ5 hcG5 hfG5 R5 K5 KO5 KK5 hB5 hsW5 M5
      gi_region_with (first
        | (refine ⟨trivial, ?_⟩; gi_at_call 173; refine (CallsIn.inRound l (callsIn_wide.2 cM)).mono ?_; rintro e w7 ⟨v7, rfl, hv7, _, hb7⟩; have hbW7 : Below w6.heap.size w6 w7 := ((Below.refl w6.heap.size w6).alloc (Nat.le_refl _) _).drew.trans (hb7.mono (by simp)); have hcR7 := (hbW7.cell (p := ⟨w.heap.size + 1 + 1 + 1, 0, none⟩) hr6).trans hcR6; replace hb7 := Lib.hid hb7; replace hbW7 := Lib.hid hbW7)
        | (refine ⟨trivial, ?_⟩; gi_at_call 147; refine (CallsIn.inRound l (callsIn_wide.2 (sub_any w7 (.slice a2 n2 cap2) v7 r1 (M * d) (N6.out.below hbW7.out) hv7 hMd.out hsR))).mono ?_; rintro e w8 ⟨v8, rfl, hv8, hf8, hb8⟩; have hbW8 : Below w6.heap.size w6 w8 := hbW7.out.trans (hb8.mono hbW7.out.size); have hcR8 := (hbW8.cell (p := ⟨w.heap.size + 1 + 1 + 1, 0, none⟩) hr6).trans hcR6; have hfR8 := (hbW8.frozen (p := ⟨w.heap.size + 1 + 1 + 1, 0, none⟩) hr6).trans hfR6; obtain ⟨a8, n8, cap8, e8⟩ : ∃ a n c, v8 = .slice a n c := hv8.shape; subst e8; replace hf8 := Lib.hid (From.mono hf8 hbW7.out.size); replace hb8 := Lib.hid hb8; replace hbW8 := Lib.hid hbW8; clear hcR7))
      all_goals
        have hbW := Hid.out (p := Below w6.heap.size w6 w8) (by assumption)
        have hf8' := Hid.out (p := From w6.heap.size (.slice a8 n8 cap8)) (by assumption)
        gi_wp2
        have hq : (d : Nat) < 1000000000 := by omega
        have e : divSt xs M (pre ++ [x]) = (r1 - M * d, (divSt xs M pre).2.set x.1 d) := by
          rw [divSt_snoc, divStep, HR1.out, if_neg hlt, HD.out, Nat.mod_eq_sub]
        refine ⟨(KO6.out.trans (KeepsOthers.of_below hbW)).trans (KeepsOthers.setCell _ _ _), (KK6.out.trans (Keep2.of_below hbW (by omega) (by have := F6.out; have := hsz.out; omega))).trans (Keep2.setCell _ _ _ (by show b ≠ w.heap.size + 1 + 1 + 1; omega) (by show w.heap.size + 1 + 1 + 1 + 1 ≠ w.heap.size + 1 + 1 + 1; omega)), ?_⟩
        unfold DivI
        rw [e]
        refine ⟨⟨_, (hxR6.out.below hbW (by omega)).set _, hv8.setCell hf8' _ hr6 _, hf8'.mono (by have := hsz.out; omega)⟩, (R6.out.below hbW (by omega)).other _ _ (by show w.heap.size + 1 ≠ w.heap.size + 1 + 1 + 1; omega), ?_, by simpa using S5.out, S6.out.set _ _ hq, (K6.out.below hbW).setCell (.inr (.inr rfl)) _⟩
        rw [HD.out, ← Nat.mod_eq_sub]; exact Nat.mod_lt _ hM0
  case done =>
    rintro D zs W hD rfl ⟨⟨rv, s1, s2, s2f⟩, s3, s4, s5, s6, s7⟩ hK
    have hbxQ : Box 132 W (w.heap.size + 1 + 1) (.slice (some ⟨w.heap.size + 1, 0, none⟩) xs.length xs.length) := (s7.block (w.heap.size + 1 + 1) (by omega) (by omega)).trans f3
    have hcQ := hbxQ.cell
    have hcR := s1.cell
    have hBW : Below w.heap.size w W := s7.to f7 f7.size (fun k h => by omega)
    have hst := divSt_end xs M hM0
    have hslq := s3.sl
    rw [s5] at hslq
    obtain ⟨ar, lr, cr, erv⟩ := s2.shape
    subst erv
    have hlq : (divSt xs M (back xs.length xs.length)).2.length ≤ 1000000 := by rw [s5]; omega
    replace hst := Lib.hid hst
    replace s2 := Lib.hid s2
    replace s6 := Lib.hid s6
    replace hBW := Lib.hid hBW
    have HK := Lib.hid hK
    clear s1 s3 s4 s5 s7 f1 f2 f3 f4 f5 f6 hsl hMW hmk hbx hbxQ hK
    gi_wp2
    refine wpIn_wide.2 ?_
    go_region_held3 (fun w' => w'.cell? ⟨w.heap.size + 1 + 1, 0, none⟩ = some (.slice (some ⟨w.heap.size + 1, 0, none⟩) xs.length xs.length) ∧ w'.cell? ⟨w.heap.size + 1 + 1 + 1, 0, none⟩ = some (.slice ar lr cr))
      (first
        | go_keep
        | (go_split_ands
           refine ⟨?_, ?_⟩
           · assumption
           · assumption))
      ((go_at_call 169; refine (trim_any W.drew (.slice (some ⟨w.heap.size + 1, 0, none⟩) xs.length xs.length) _ hlq hslq).mono ?_; rintro e w' ⟨v, k, rfl, ht, hs, hf, rfl⟩))
    gi_wp2
    refine ⟨by simp, .inl ⟨_, _, rfl, run_takeDeferred (show W.drew.heap[D]? = _ from HK.out), ?_⟩⟩
    have hr' : ∀ r, (some D) = some r → ∃ o : Obj, W.drew.heap[r]? = some o ∧ o.isCells = false := fun r e => by cases e; exact ⟨_, HK.out, rfl⟩
    have hg := grownBy_putObj' W.drew D (.deferred none)
    have hN1 : Num (W.drew.putObj D (.deferred none)) v (lv xs / M) := by
      rw [← hst.out.1]
      exact ⟨_, ht.canon s6.out, ht.lv, Sl.kept hs hg hr'⟩
    have hN2 : Num (W.drew.putObj D (.deferred none)) (.slice ar lr cr) (lv xs % M) := by
      rw [← hst.out.2]
      exact Num.kept (show Num W.drew _ _ from s2.out) hg hr'
    obtain ⟨av, lv', cv, ev⟩ := hN1.shape
    subst ev
    refine ⟨.tuple #[.slice av lv' cv, .slice ar lr cr], by simp [results, Tryz.results130, go_sem], ⟨_, _, rfl, hN1, hN2⟩, ?_⟩
    exact (hBW.out.drew).grown hg hBW.out.size (fun k e => by cases e; exact Nat.le_trans f7.size hD)
  case stop =>
    rintro D c pre W _ _ h _
    exact h.elim
/-- div, at every two numbers, the second one of which is not 0 -/
theorem div_any (w : World) (v u : Value) (n m : Nat) (hn : Num w v n) (hm : Num w u m) (hbn : Small n) (hbm : Small (m * 1000000000)) (hm0 : 0 < m) (h0 : 0 < w.heap.size) :
    Calls Tryz.prog 130 #[v, u] w fun e w' =>
      (∃ q r, e = .returned (.tuple #[q, r]) ∧ Num w' q (n / m) ∧ Num w' r (n % m)) ∧ Below w.heap.size w w' := by
  obtain ⟨xs, hx, rfl, hsx⟩ := hn
  obtain ⟨mc, ml, mcap, rfl⟩ := hm.shape
  have hl := hx.len_le (k := 200) hbn
  obtain ⟨b, hb, hat⟩ := SlAt.of hsx h0
  obtain ⟨a, cap, rfl, _⟩ := hsx.addr
  exact div_walk w a cap xs mc ml mcap m hl hx.1 b hb hat hm hm0 hbm
end Nt
end Go.Proofs.YtpmlhgmmobpilaaGreatDoor

namespace Go.Proofs.YtpmlhgmmobpilaaGreatDoor
open Go.RowKit Go.Shelf
namespace Nt
theorem lv_nil_iff {xs : List Nat} (h : Canon xs) : xs.length = 0 ↔ lv xs = 0 := by
  constructor
  · intro e
    rw [List.length_eq_zero_iff.1 e]; rfl
  · intro e
    have := h.len_le (k := 0) (by rw [e]; decide)
    omega
theorem Num.open {W : World} {v : Value} {n : Nat} (h : Num W v n) : ∃ a l c, v = .slice a l c ∧ (l = 0 ↔ n = 0) := by
  obtain ⟨xs, h1, h2, a, c, h3, _⟩ := h
  exact ⟨a, _, c, h3, by rw [← h2]; exact lv_nil_iff h1⟩
def GcdRel (w : World) (N G : Nat) (g : Nat) (v u : Value) (wr : World) : Prop :=
  ∃ n, Num wr v n ∧ Num wr u g ∧ Nat.gcd n g = G ∧ n ≤ N ∧ g ≤ N ∧ Below w.heap.size w wr
set_option maxHeartbeats 1000000 in
theorem gcd_any (w : World) (v u : Value) (n m N : Nat) (hn : Num w v n) (hm : Num w u m) (hnN : n ≤ N) (hmN : m ≤ N) (hN : Small (N * 1000000000)) (h0 : 0 < w.heap.size) :
    Calls Tryz.prog 114 #[v, u] w fun e w' => (∃ q, e = .returned q ∧ Num w' q (Nat.gcd n m)) ∧ Below w.heap.size w w' := by
  have hrel0 : GcdRel w N (Nat.gcd n m) m v u w := ⟨n, hn, hm, rfl, hnN, hmN, Below.refl _ _⟩
  obtain ⟨a, l, c, rfl, hl0⟩ := hn.open
  obtain ⟨a2, l2, c2, rfl, hl2⟩ := hm.open
  replace hl0 := Lib.hid hl0
  replace hl2 := Lib.hid hl2
  clear hn hm
  go_enter Tryz.func114, Tryz.ntmps114
  go_wp2
  go_loopg [0, 1] m (fun g v u wr => GcdRel w N (Nat.gcd n m) g v u wr)
  case atStart => exact hrel0
  case round =>
    clear hl0 hl2 hrel0
    obtain ⟨k, h1, h2, h3, h4, h5, h6⟩ := hrel
    obtain ⟨a1, l1, c1, rfl, _⟩ := h1.open
    obtain ⟨a2, l2, c2, rfl, hl2⟩ := h2.open
    by_cases hg : gk = 0
    · have hl := hl2.2 hg
      subst hl
      replace h1 := Lib.hid h1
      replace h3 := Lib.hid h3
      replace hg := Lib.hid hg
      replace h6 := Lib.hid h6
      clear h2 hl2
      go_wp2
      go_ret
      refine ⟨⟨_, rfl, ?_⟩, h6.out⟩
      rw [← h3.out, hg.out, Nat.gcd_zero_right]
      exact h1.out
    · have hl : 0 < l2 := by
        rcases Nat.eq_zero_or_pos l2 with h | h
        · exact absurd (hl2.1 h) hg
        · exact h
      have hsz := h6.size
      have hc := div_any wr _ _ k gk h1 h2 (small_of_le hN (by omega)) (small_of_le hN (Nat.mul_le_mul_right _ h5)) (by omega) (by omega)
      replace h1 := Lib.hid h1
      replace h2 := Lib.hid h2
      replace h3 := Lib.hid h3
      replace hg := Lib.hid hg
      replace h6 := Lib.hid h6
      clear hl2
      go_wp2_with (go_at_call 130; refine hc.mono ?_; rintro e w2 ⟨⟨q, r, rfl, hq, hr⟩, hb⟩; replace hq := Lib.hid hq; replace hr := Lib.hid hr; replace hb := Lib.hid hb)
      go_roundg (k % gk)
      case measure => exact Nat.mod_lt _ (by have := hg.out; omega)
      case rel =>
        refine ⟨gk, h2.out.below hb.out, hr.out, ?_, h5, ?_, h6.out.trans (hb.out.mono hsz)⟩
        · rw [← h3.out, Nat.gcd_comm gk, ← Nat.gcd_rec, Nat.gcd_comm]
        · have := Nat.mod_lt k (show gk > 0 by have := hg.out; omega); omega
end Nt
end Go.Proofs.YtpmlhgmmobpilaaGreatDoor

namespace Go.Proofs.YtpmlhgmmobpilaaGreatDoor
open Go.RowKit Go.Shelf
namespace Nt
def val (s : ByteArray) : Nat := dval s.data.toList
theorem val_num (n : Nat) : val (num n) = n := dval_decDigits n
theorem num_val {s : ByteArray} (h : isN s = true) : num (val s) = s := by
  obtain ⟨n, _, rfl⟩ := num_of_isN h
  rw [val_num]
theorem val_lt {s : ByteArray} (h : isN s = true) : val s < Lim := by
  obtain ⟨n, hn, rfl⟩ := num_of_isN h
  rw [val_num]; exact hn
theorem dig_of_isN {s : ByteArray} (h : isN s = true) : ∀ c ∈ s.data.toList, isDig c := ((isNL_iff _).1 h).2.2.1
theorem size_of_isN {s : ByteArray} (h : isN s = true) : s.size ≤ 300 := by
  have := ((isNL_iff _).1 h).2.1
  simpa using this
theorem pow_sq (a b : Nat) (h : a + a ≤ 9 * b) : 10 ^ a * 10 ^ a ≤ 1000000000 ^ b := by
  have e : (1000000000 : Nat) = 10 ^ 9 := rfl
  rw [← Nat.pow_add, e, ← Nat.pow_mul]
  exact Nat.pow_le_pow_right (by omega) h
theorem lim_sq : Lim * Lim ≤ 1000000000 ^ 67 := by
  unfold Lim
  exact pow_sq mxd 67 (by rw [mxd_eq]; omega)
theorem small_of_sq {n : Nat} (h : n < 1000000000 ^ 67 * 1000000000) : Small n := by
  have : 1000000000 ^ 67 * 1000000000 ≤ 1000000000 ^ 200 := by
    rw [← Nat.pow_succ]; exact Nat.pow_le_pow_right (by omega) (by omega)
  exact Nat.lt_of_lt_of_le h this
theorem lim_le : Lim ≤ Lim * Lim := Nat.le_mul_of_pos_left _ (Nat.pow_pos (by omega))
theorem small_lim {n : Nat} (h : n < Lim) : Small n := small_of_sq (by have := lim_sq; have := lim_le; omega)
theorem small_lim9 {n : Nat} (h : n < Lim) : Small (n * 1000000000) := small_of_sq (by have := lim_sq; have := lim_le; omega)
theorem small_add {n m : Nat} (h : n < Lim) (k : m < Lim) : Small (n + m) := small_of_sq (by have := lim_sq; have := lim_le; omega)
theorem small_mul {n m : Nat} (h : n < Lim) (k : m < Lim) : Small (n * m) := small_of_sq (by
  have := lim_sq
  have h1 : n * m ≤ Lim * Lim := Nat.mul_le_mul (by omega) (by omega)
  omega)
/-- A number as a text; the empty one where it is too great. -/
def strL (k : Nat) : ByteArray := if k < Lim then num k else ⟨#[]⟩
/-- .. and the error beside it. -/
def errL (k : Nat) : Int := if k < Lim then 0 else 2
theorem limited_eq (k : Nat) : limited (Lib.decDigits k) = .tuple #[.string (strL k), .int .i64 (errL k)] := by
  have h : 300 < (Lib.decDigits k).length ↔ ¬ k < Lim := by
    have e : (Lib.decDigits k).length ≤ 300 ↔ k < Lim := by
      have := decDigits_len_iff k mxd (by rw [mxd_eq]; omega)
      rw [← mxd_eq]
      exact this
    omega
  unfold limited strL errL
  by_cases hk : k < Lim
  · rw [if_neg (by rw [h]; exact fun c => c hk), if_pos hk, if_pos hk]; rfl
  · rw [if_pos (h.2 hk), if_neg hk, if_neg hk]
def opS (k : Nat) (s t : ByteArray) : ByteArray := if isN s = true ∧ isN t = true then strL k else ⟨#[]⟩
def opE (k : Nat) (s t : ByteArray) : Int := if isN s = true ∧ isN t = true then errL k else 1
def OpPost (k : Nat) (s t : ByteArray) (w : World) (e : Ending) (w' : World) : Prop := e = .returned (.tuple #[.string (opS k s t), .int .i64 (opE k s t)]) ∧ Below w.heap.size w w'
theorem op_bad {k : Nat} {s t : ByteArray} (h : isN s = false ∨ isN t = false) : opS k s t = ⟨#[]⟩ ∧ opE k s t = 1 := by
  have : ¬ (isN s = true ∧ isN t = true) := by rintro ⟨h1, h2⟩; rcases h with h | h <;> simp_all
  unfold opS opE
  rw [if_neg this, if_neg this]
  exact ⟨rfl, rfl⟩
theorem op_good {k : Nat} {s t : ByteArray} (h1 : isN s = true) (h2 : isN t = true) : opS k s t = strL k ∧ opE k s t = errL k := by
  unfold opS opE
  rw [if_pos ⟨h1, h2⟩, if_pos ⟨h1, h2⟩]
  exact ⟨rfl, rfl⟩
theorem parse_num (s : ByteArray) (w : World) (h : isN s = true) : Calls Tryz.prog 129 #[.string s] w (PostNumV w.heap.size w (val s)) :=
  parse_any s w (by have := size_of_isN h; omega) (dig_of_isN h)
theorem gcd_lt {n m : Nat} (hn : n < Lim) (hm : m < Lim) : Nat.gcd n m < Lim := by
  rcases Nat.eq_zero_or_pos n with h | h
  · rw [h, Nat.gcd_zero_left]; exact hm
  · exact Nat.lt_of_le_of_lt (Nat.gcd_le_left m h) hn
theorem small_sum9 {n m : Nat} (h : n < Lim) (k : m < Lim) : Small ((n + m) * 1000000000) := by
  have : 1000000000 ^ 68 * 1000000000 ≤ 1000000000 ^ 200 := by
    rw [← Nat.pow_succ]; exact Nat.pow_le_pow_right (by omega) (by omega)
  have h1 := lim_sq
  have h2 := lim_le
  have h3 : 1000000000 ^ 68 = 1000000000 ^ 67 * 1000000000 := Nat.pow_succ ..
  unfold Small
  omega
set_option maxHeartbeats 1000000 in
theorem apply_add (s t : ByteArray) (w : World) (hE : Env w) (hs : isN s = true) (ht : isN t = true) :
    Calls Tryz.prog 113 #[.string s, .string t, .func (.func 132) #[] #[]] w (OpPost (val s + val t) s t w) := by
  have hss := size_of_isN hs
  have hts := size_of_isN ht
  have hEnv := Lib.hid hE
  have HG := Lib.hid (op_good (k := val s + val t) hs ht)
  have c1 := is_any s w (by omega)
  rw [hs] at c1
  have HS := Lib.hid hs
  have HT := Lib.hid ht
  clear hs ht
  have hs := HS.out
  have ht := HT.out
  replace hs := Lib.hid hs
  replace ht := Lib.hid ht
  replace hE := Lib.hid hE
  go_enter Tryz.func113, Tryz.ntmps113
  go_wp2_with fail
  refine c1.mono ?_
  rintro e w1 ⟨rfl, hb1⟩
  have hbA1 := Lib.hid hb1
  clear hb1
  go_wp2_with fail
  have c2 := is_any t w1 (by omega)
  rw [ht.out] at c2
  refine c2.mono ?_
  rintro e w2 ⟨rfl, hb2⟩
  have hbA2 := Lib.hid (hbA1.out.trans (hb2.mono hbA1.out.size))
  clear hb2 c1 c2 hbA1
  go_wp2_with fail
  refine (parse_num s w2 hs.out).mono ?_
  rintro e w3 ⟨v1, rfl, hn1, _, hb3⟩
  have hbA3 := Lib.hid (hbA2.out.trans (hb3.mono hbA2.out.size))
  replace hn1 := Lib.hid hn1
  clear hb3 hbA2
  go_wp2_with fail
  refine (parse_num t w3 ht.out).mono ?_
  rintro e w4 ⟨v2, rfl, hn2, _, hb2⟩
  have hbA2 := Lib.hid (hbA3.out.trans (hb2.mono hbA3.out.size))
  replace hb2 := Lib.hid hb2
  replace hn2 := Lib.hid hn2
  clear hbA3
  go_wp2_with fail
  have hs' := hs.out
  have ht' := ht.out
  refine (add_any _ v1 v2 (val s) (val t) (hn1.out.below hb2.out) hn2.out (small_lim (val_lt hs.out)) (small_lim (val_lt ht.out))).mono ?_
  rintro e w5 ⟨v3, rfl, hn3, _, hb3⟩
  have hbA5 := Lib.hid (hbA2.out.trans (hb3.mono hbA2.out.size))
  replace hn3 := Lib.hid hn3
  clear hb3 hbA2 hb2 hn1 hn2 hs' ht'
  go_wp2_with fail
  have ct := text_any w5 v3 _ hn3.out (small_add (val_lt hs.out) (val_lt ht.out)) (hE.out.below hbA5.out)
  refine ct.mono ?_
  rintro e w6 ⟨rfl, hb6⟩
  rw [limited_eq]
  have hbA6 := Lib.hid (hbA5.out.trans (hb6.mono hbA5.out.size))
  clear ct hb6 hbA5 hn3
  go_wp2
  go_ret2
  exact ⟨by rw [HG.out.1, HG.out.2]; rfl, hbA6.out⟩
set_option maxHeartbeats 1000000 in
theorem apply_sub (s t : ByteArray) (w : World) (hE : Env w) (hs : isN s = true) (ht : isN t = true) (hle : val t ≤ val s) :
    Calls Tryz.prog 113 #[.string s, .string t, .func (.func 147) #[] #[]] w (OpPost (val s - val t) s t w) := by
  have hss := size_of_isN hs
  have hts := size_of_isN ht
  have hEnv := Lib.hid hE
  have HG := Lib.hid (op_good (k := val s - val t) hs ht)
  have c1 := is_any s w (by omega)
  rw [hs] at c1
  have HS := Lib.hid hs
  have HT := Lib.hid ht
  clear hs ht
  have hs := HS.out
  have ht := HT.out
  replace hs := Lib.hid hs
  replace ht := Lib.hid ht
  replace hE := Lib.hid hE
  go_enter Tryz.func113, Tryz.ntmps113
  go_wp2_with fail
  refine c1.mono ?_
  rintro e w1 ⟨rfl, hb1⟩
  have hbA1 := Lib.hid hb1
  clear hb1
  go_wp2_with fail
  have c2 := is_any t w1 (by omega)
  rw [ht.out] at c2
  refine c2.mono ?_
  rintro e w2 ⟨rfl, hb2⟩
  have hbA2 := Lib.hid (hbA1.out.trans (hb2.mono hbA1.out.size))
  clear hb2 c1 c2 hbA1
  go_wp2_with fail
  refine (parse_num s w2 hs.out).mono ?_
  rintro e w3 ⟨v1, rfl, hn1, _, hb3⟩
  have hbA3 := Lib.hid (hbA2.out.trans (hb3.mono hbA2.out.size))
  replace hn1 := Lib.hid hn1
  clear hb3 hbA2
  go_wp2_with fail
  refine (parse_num t w3 ht.out).mono ?_
  rintro e w4 ⟨v2, rfl, hn2, _, hb2⟩
  have hbA2 := Lib.hid (hbA3.out.trans (hb2.mono hbA3.out.size))
  replace hb2 := Lib.hid hb2
  replace hn2 := Lib.hid hn2
  clear hbA3
  go_wp2_with fail
  have hs' := hs.out
  have ht' := ht.out
  refine (sub_any _ v1 v2 (val s) (val t) (hn1.out.below hb2.out) hn2.out hle (small_lim (val_lt hs.out))).mono ?_
  rintro e w5 ⟨v3, rfl, hn3, _, hb3⟩
  have hbA5 := Lib.hid (hbA2.out.trans (hb3.mono hbA2.out.size))
  replace hn3 := Lib.hid hn3
  clear hb3 hbA2 hb2 hn1 hn2 hs' ht'
  go_wp2_with fail
  have ct := text_any w5 v3 _ hn3.out (small_lim (by have := val_lt hs.out; omega)) (hE.out.below hbA5.out)
  refine ct.mono ?_
  rintro e w6 ⟨rfl, hb6⟩
  rw [limited_eq]
  have hbA6 := Lib.hid (hbA5.out.trans (hb6.mono hbA5.out.size))
  clear ct hb6 hbA5 hn3
  go_wp2
  go_ret2
  exact ⟨by rw [HG.out.1, HG.out.2]; rfl, hbA6.out⟩
set_option maxHeartbeats 1000000 in
theorem apply_mul (s t : ByteArray) (w : World) (hE : Env w) (hs : isN s = true) (ht : isN t = true) :
    Calls Tryz.prog 113 #[.string s, .string t, .func (.func 173) #[] #[]] w (OpPost (val s * val t) s t w) := by
  have hss := size_of_isN hs
  have hts := size_of_isN ht
  have hEnv := Lib.hid hE
  have HG := Lib.hid (op_good (k := val s * val t) hs ht)
  have c1 := is_any s w (by omega)
  rw [hs] at c1
  have HS := Lib.hid hs
  have HT := Lib.hid ht
  clear hs ht
  have hs := HS.out
  have ht := HT.out
  replace hs := Lib.hid hs
  replace ht := Lib.hid ht
  replace hE := Lib.hid hE
  go_enter Tryz.func113, Tryz.ntmps113
  go_wp2_with fail
  refine c1.mono ?_
  rintro e w1 ⟨rfl, hb1⟩
  have hbA1 := Lib.hid hb1
  clear hb1
  go_wp2_with fail
  have c2 := is_any t w1 (by omega)
  rw [ht.out] at c2
  refine c2.mono ?_
  rintro e w2 ⟨rfl, hb2⟩
  have hbA2 := Lib.hid (hbA1.out.trans (hb2.mono hbA1.out.size))
  clear hb2 c1 c2 hbA1
  go_wp2_with fail
  refine (parse_num s w2 hs.out).mono ?_
  rintro e w3 ⟨v1, rfl, hn1, _, hb3⟩
  have hbA3 := Lib.hid (hbA2.out.trans (hb3.mono hbA2.out.size))
  replace hn1 := Lib.hid hn1
  clear hb3 hbA2
  go_wp2_with fail
  refine (parse_num t w3 ht.out).mono ?_
  rintro e w4 ⟨v2, rfl, hn2, _, hb2⟩
  have hbA2 := Lib.hid (hbA3.out.trans (hb2.mono hbA3.out.size))
  replace hb2 := Lib.hid hb2
  replace hn2 := Lib.hid hn2
  clear hbA3
  go_wp2_with fail
  have hs' := hs.out
  have ht' := ht.out
  refine (mul_any _ v1 v2 (val s) (val t) (hn1.out.below hb2.out) hn2.out (small_lim (val_lt hs.out)) (small_lim (val_lt ht.out))).mono ?_
  rintro e w5 ⟨v3, rfl, hn3, _, hb3⟩
  have hbA5 := Lib.hid (hbA2.out.trans (hb3.mono hbA2.out.size))
  replace hn3 := Lib.hid hn3
  clear hb3 hbA2 hb2 hn1 hn2 hs' ht'
  go_wp2_with fail
  have ct := text_any w5 v3 _ hn3.out (small_mul (val_lt hs.out) (val_lt ht.out)) (hE.out.below hbA5.out)
  refine ct.mono ?_
  rintro e w6 ⟨rfl, hb6⟩
  rw [limited_eq]
  have hbA6 := Lib.hid (hbA5.out.trans (hb6.mono hbA5.out.size))
  clear ct hb6 hbA5 hn3
  go_wp2
  go_ret2
  exact ⟨by rw [HG.out.1, HG.out.2]; rfl, hbA6.out⟩
set_option maxHeartbeats 1000000 in
theorem apply_gcd (s t : ByteArray) (w : World) (hE : Env w) (hs : isN s = true) (ht : isN t = true) :
    Calls Tryz.prog 113 #[.string s, .string t, .func (.func 114) #[] #[]] w (OpPost (Nat.gcd (val s) (val t)) s t w) := by
  have hss := size_of_isN hs
  have hts := size_of_isN ht
  have hEnv := Lib.hid hE
  have HG := Lib.hid (op_good (k := Nat.gcd (val s) (val t)) hs ht)
  have c1 := is_any s w (by omega)
  rw [hs] at c1
  have HS := Lib.hid hs
  have HT := Lib.hid ht
  clear hs ht
  have hs := HS.out
  have ht := HT.out
  replace hs := Lib.hid hs
  replace ht := Lib.hid ht
  replace hE := Lib.hid hE
  go_enter Tryz.func113, Tryz.ntmps113
  go_wp2_with fail
  refine c1.mono ?_
  rintro e w1 ⟨rfl, hb1⟩
  have hbA1 := Lib.hid hb1
  clear hb1
  go_wp2_with fail
  have c2 := is_any t w1 (by omega)
  rw [ht.out] at c2
  refine c2.mono ?_
  rintro e w2 ⟨rfl, hb2⟩
  have hbA2 := Lib.hid (hbA1.out.trans (hb2.mono hbA1.out.size))
  clear hb2 c1 c2 hbA1
  go_wp2_with fail
  refine (parse_num s w2 hs.out).mono ?_
  rintro e w3 ⟨v1, rfl, hn1, _, hb3⟩
  have hbA3 := Lib.hid (hbA2.out.trans (hb3.mono hbA2.out.size))
  replace hn1 := Lib.hid hn1
  clear hb3 hbA2
  go_wp2_with fail
  refine (parse_num t w3 ht.out).mono ?_
  rintro e w4 ⟨v2, rfl, hn2, _, hb2⟩
  have hbA2 := Lib.hid (hbA3.out.trans (hb2.mono hbA3.out.size))
  replace hb2 := Lib.hid hb2
  replace hn2 := Lib.hid hn2
  clear hbA3
  go_wp2_with fail
  have hs' := hs.out
  have ht' := ht.out
  refine (gcd_any _ v1 v2 (val s) (val t) (val s + val t) (hn1.out.below hb2.out) hn2.out (Nat.le_add_right _ _) (Nat.le_add_left _ _) (small_sum9 (val_lt hs.out) (val_lt ht.out)) (by have := hbA2.out.size; have := hE.out.pos; omega)).mono ?_
  rintro e w5 ⟨⟨v3, rfl, hn3⟩, hb3⟩
  have hbA5 := Lib.hid (hbA2.out.trans (hb3.mono hbA2.out.size))
  replace hn3 := Lib.hid hn3
  clear hb3 hbA2 hb2 hn1 hn2 hs' ht'
  go_wp2_with fail
  have ct := text_any w5 v3 _ hn3.out (small_lim (gcd_lt (val_lt hs.out) (val_lt ht.out))) (hE.out.below hbA5.out)
  refine ct.mono ?_
  rintro e w6 ⟨rfl, hb6⟩
  rw [limited_eq]
  have hbA6 := Lib.hid (hbA5.out.trans (hb6.mono hbA5.out.size))
  clear ct hb6 hbA5 hn3
  go_wp2
  go_ret2
  exact ⟨by rw [HG.out.1, HG.out.2]; rfl, hbA6.out⟩
end Nt
end Go.Proofs.YtpmlhgmmobpilaaGreatDoor

namespace Go.Proofs.YtpmlhgmmobpilaaGreatDoor
open Go.RowKit Go.Shelf
namespace Nt
theorem apply_bad (f : Nat) (k : Nat) (s t : ByteArray) (w : World) (hs : s.size ≤ 140737488355328) (ht : t.size ≤ 140737488355328) (hb : isN s = false ∨ isN t = false) :
    Calls Tryz.prog 113 #[.string s, .string t, .func (.func f) #[] #[]] w (OpPost k s t w) := by
  have HG := Lib.hid (op_bad (k := k) hb)
  have c1 := is_any s w (by omega)
  cases h1 : isN s with
  | false =>
    rw [h1] at c1
    clear hb h1
    go_enter Tryz.func113, Tryz.ntmps113
    go_wp2_with (go_at_call 65; refine c1.mono ?_; rintro e w1 ⟨rfl, hb1⟩)
    go_ret2
    exact ⟨by rw [HG.out.1, HG.out.2]; rfl, hb1⟩
  | true =>
    have h2 : isN t = false := by rcases hb with h | h; (· rw [h1] at h; cases h); (· exact h)
    rw [h1] at c1
    have H2 := Lib.hid h2
    clear hb h1 h2
    go_enter Tryz.func113, Tryz.ntmps113
    go_wp2_with fail
    refine c1.mono ?_
    rintro e w1 ⟨rfl, hb1⟩
    replace hb1 := Lib.hid hb1
    go_wp2_with fail
    have c2 := is_any t w1 (by omega)
    rw [H2.out] at c2
    refine c2.mono ?_
    rintro e w2 ⟨rfl, hb2⟩
    replace hb2 := Lib.hid hb2
    go_wp2
    go_ret2
    exact ⟨by rw [HG.out.1, HG.out.2]; rfl, hb1.out.trans (hb2.out.mono hb1.out.size)⟩
theorem Add_any (s t : ByteArray) (w : World) (hE : Env w) (hs : s.size ≤ 140737488355328) (ht : t.size ≤ 140737488355328) :
    Calls Tryz.prog 94 #[.string s, .string t] w (OpPost (val s + val t) s t w) := by
  have hc : Calls Tryz.prog 113 #[.string s, .string t, .func (.func 132) #[] #[]] w (OpPost (val s + val t) s t w) := by
    cases h1 : isN s with
    | false => exact apply_bad _ _ s t w hs ht (.inl h1)
    | true =>
      cases h2 : isN t with
      | false => exact apply_bad _ _ s t w hs ht (.inr h2)
      | true => exact apply_add s t w hE h1 h2
  go_enter Tryz.func94, Tryz.ntmps94
  go_wp2_with (go_at_call 113; refine hc.mono ?_; rintro e w1 ⟨rfl, hb1⟩)
  go_ret2
  exact ⟨rfl, hb1⟩
theorem Mul_any (s t : ByteArray) (w : World) (hE : Env w) (hs : s.size ≤ 140737488355328) (ht : t.size ≤ 140737488355328) :
    Calls Tryz.prog 145 #[.string s, .string t] w (OpPost (val s * val t) s t w) := by
  have hc : Calls Tryz.prog 113 #[.string s, .string t, .func (.func 173) #[] #[]] w (OpPost (val s * val t) s t w) := by
    cases h1 : isN s with
    | false => exact apply_bad _ _ s t w hs ht (.inl h1)
    | true =>
      cases h2 : isN t with
      | false => exact apply_bad _ _ s t w hs ht (.inr h2)
      | true => exact apply_mul s t w hE h1 h2
  go_enter Tryz.func145, Tryz.ntmps145
  go_wp2_with (go_at_call 113; refine hc.mono ?_; rintro e w1 ⟨rfl, hb1⟩)
  go_ret2
  exact ⟨rfl, hb1⟩
theorem Gcd_any (s t : ByteArray) (w : World) (hE : Env w) (hs : s.size ≤ 140737488355328) (ht : t.size ≤ 140737488355328) :
    Calls Tryz.prog 66 #[.string s, .string t] w (OpPost (Nat.gcd (val s) (val t)) s t w) := by
  have hc : Calls Tryz.prog 113 #[.string s, .string t, .func (.func 114) #[] #[]] w (OpPost (Nat.gcd (val s) (val t)) s t w) := by
    cases h1 : isN s with
    | false => exact apply_bad _ _ s t w hs ht (.inl h1)
    | true =>
      cases h2 : isN t with
      | false => exact apply_bad _ _ s t w hs ht (.inr h2)
      | true => exact apply_gcd s t w hE h1 h2
  go_enter Tryz.func66, Tryz.ntmps66
  go_wp2_with (go_at_call 113; refine hc.mono ?_; rintro e w1 ⟨rfl, hb1⟩)
  go_ret2
  exact ⟨rfl, hb1⟩
def cmpV (s t : ByteArray) : Int := if isN s = true ∧ isN t = true then cmpN (val s) (val t) else 0
def cmpE (s t : ByteArray) : Int := if isN s = true ∧ isN t = true then 0 else 1
theorem Compare_any (s t : ByteArray) (w : World) (hE : Env w) (hs : s.size ≤ 140737488355328) (ht : t.size ≤ 140737488355328) :
    Calls Tryz.prog 110 #[.string s, .string t] w fun e w' => e = .returned (.tuple #[.int .i64 (cmpV s t), .int .i64 (cmpE s t)]) ∧ Below w.heap.size w w' := by
  have c1 := is_any s w (by omega)
  replace hE := Lib.hid hE
  cases h1 : isN s with
  | false =>
    have HG : Hid (cmpV s t = 0 ∧ cmpE s t = 1) := by unfold Hid cmpV cmpE; simp [h1]
    rw [h1] at c1
    clear h1
    go_enter Tryz.func110, Tryz.ntmps110
    go_wp2_with (go_at_call 65; refine c1.mono ?_; rintro e w1 ⟨rfl, hb1⟩)
    go_ret2
    exact ⟨by rw [HG.out.1, HG.out.2]; rfl, hb1⟩
  | true =>
    cases h2 : isN t with
    | false =>
      have HG : Hid (cmpV s t = 0 ∧ cmpE s t = 1) := by unfold Hid cmpV cmpE; simp [h2]
      rw [h1] at c1
      have H2 := Lib.hid h2
      clear h1 h2
      go_enter Tryz.func110, Tryz.ntmps110
      go_wp2_with fail
      refine c1.mono ?_
      rintro e w1 ⟨rfl, hb1⟩
      replace hb1 := Lib.hid hb1
      go_wp2_with fail
      have c2 := is_any t w1 (by omega)
      rw [H2.out] at c2
      refine c2.mono ?_
      rintro e w2 ⟨rfl, hb2⟩
      replace hb2 := Lib.hid hb2
      go_wp2
      go_ret2
      exact ⟨by rw [HG.out.1, HG.out.2]; rfl, hb1.out.trans (hb2.out.mono hb1.out.size)⟩
    | true =>
      have HG : Hid (cmpV s t = cmpN (val s) (val t) ∧ cmpE s t = 0) := by unfold Hid cmpV cmpE; simp [h1, h2]
      rw [h1] at c1
      have H1 := Lib.hid h1
      have H2 := Lib.hid h2
      clear h1 h2
      go_enter Tryz.func110, Tryz.ntmps110
      go_wp2_with fail
      refine c1.mono ?_
      rintro e w1 ⟨rfl, hb1⟩
      have hbA1 := Lib.hid hb1
      clear hb1
      go_wp2_with fail
      have c2 := is_any t w1 (by omega)
      rw [H2.out] at c2
      refine c2.mono ?_
      rintro e w2 ⟨rfl, hb2⟩
      have hbA2 := Lib.hid (hbA1.out.trans (hb2.mono hbA1.out.size))
      clear hb2 c1 c2 hbA1
      go_wp2_with fail
      refine (parse_num s w2 H1.out).mono ?_
      rintro e w3 ⟨v1, rfl, hn1, _, hb3⟩
      have hbA3 := Lib.hid (hbA2.out.trans (hb3.mono hbA2.out.size))
      replace hn1 := Lib.hid hn1
      clear hb3 hbA2
      go_wp2_with fail
      refine (parse_num t w3 H2.out).mono ?_
      rintro e w4 ⟨v2, rfl, hn2, _, hb2⟩
      have hbA2 := Lib.hid (hbA3.out.trans (hb2.mono hbA3.out.size))
      replace hb2 := Lib.hid hb2
      replace hn2 := Lib.hid hn2
      clear hbA3
      go_wp2_with fail
      refine (compare_any w4 v1 v2 (val s) (val t) (hn1.out.below hb2.out) hn2.out (small_lim (val_lt H1.out)) (by have := hbA2.out.size; have := hE.out.pos; omega)).mono ?_
      rintro e w5 ⟨rfl, hb5⟩
      have hbA5 := Lib.hid (hbA2.out.trans (hb5.mono hbA2.out.size))
      clear hb5 hbA2 hb2 hn1 hn2
      go_wp2
      go_ret2
      exact ⟨by rw [HG.out.1, HG.out.2]; rfl, hbA5.out⟩
def subS (s t : ByteArray) : ByteArray := if isN s = true ∧ isN t = true ∧ val t ≤ val s then num (val s - val t) else ⟨#[]⟩
def subE (s t : ByteArray) : Int := if isN s = true ∧ isN t = true then (if val t ≤ val s then 0 else 10) else 1
theorem Sub_any (s t : ByteArray) (w : World) (hE : Env w) (hs : s.size ≤ 140737488355328) (ht : t.size ≤ 140737488355328) :
    Calls Tryz.prog 111 #[.string s, .string t] w fun e w' => e = .returned (.tuple #[.string (subS s t), .int .i64 (subE s t)]) ∧ Below w.heap.size w w' := by
  have cc := Compare_any s t w hE hs ht
  by_cases hg : isN s = true ∧ isN t = true
  · have e1 : cmpV s t = cmpN (val s) (val t) := by unfold cmpV; rw [if_pos hg]
    have e2 : cmpE s t = 0 := by unfold cmpE; rw [if_pos hg]
    rw [e1, e2] at cc
    by_cases hle : val t ≤ val s
    · have HG : Hid (subS s t = strL (val s - val t) ∧ subE s t = errL (val s - val t)) := by
        have := val_lt hg.1
        unfold Hid subS subE strL errL
        rw [if_pos ⟨hg.1, hg.2, hle⟩, if_pos hg, if_pos hle, if_pos (by omega), if_pos (by omega)]
        exact ⟨rfl, rfl⟩
      have hc : ¬ cmpN (val s) (val t) < 0 := by unfold cmpN; rw [if_neg (by omega)]; split <;> omega
      have HO := Lib.hid (op_good (k := val s - val t) hg.1 hg.2)
      have ha : Hid (∀ w1, Env w1 → Calls Tryz.prog 113 #[.string s, .string t, .func (.func 147) #[] #[]] w1 (OpPost (val s - val t) s t w1)) := fun w1 h => apply_sub s t w1 h hg.1 hg.2 hle
      replace hE := Lib.hid hE
      generalize cmpN (val s) (val t) = c at cc hc
      clear e1 e2 hg hle
      go_enter Tryz.func111, Tryz.ntmps111
      go_wp2_with (first
        | (go_at_call 110; refine cc.mono ?_; rintro e w1 ⟨rfl, hb1⟩; replace hb1 := Lib.hid hb1)
        | (go_at_call 113; refine (ha.out _ (by exact hE.out.below hb1.out)).mono ?_; rintro e w2 ⟨rfl, hb2⟩; replace hb2 := Lib.hid hb2))
      go_ret2
      exact ⟨by rw [HG.out.1, HG.out.2]; exact congrArg Ending.returned (by simp [HO.out.1, HO.out.2]), hb1.out.trans (hb2.out.mono hb1.out.size)⟩
    · have HG : Hid (subS s t = ⟨#[]⟩ ∧ subE s t = 10) := by
        unfold Hid subS subE
        rw [if_neg (fun h => hle h.2.2), if_pos hg, if_neg hle]
        exact ⟨rfl, rfl⟩
      rw [cmpN_lt (by omega)] at cc
      replace hE := Lib.hid hE
      clear e1 e2 hg hle
      go_enter Tryz.func111, Tryz.ntmps111
      go_wp2_with (go_at_call 110; refine cc.mono ?_; rintro e w1 ⟨rfl, hb1⟩; replace hb1 := Lib.hid hb1)
      go_ret2
      exact ⟨by rw [HG.out.1, HG.out.2]; rfl, hb1.out⟩
  · have e1 : cmpV s t = 0 := by unfold cmpV; rw [if_neg hg]
    have e2 : cmpE s t = 1 := by unfold cmpE; rw [if_neg hg]
    rw [e1, e2] at cc
    have hbad : isN s = false ∨ isN t = false := by
      cases h1 : isN s with
      | false => exact .inl rfl
      | true => right; cases h2 : isN t with
        | false => rfl
        | true => exact absurd ⟨h1, h2⟩ hg
    have HG : Hid (subS s t = ⟨#[]⟩ ∧ subE s t = 1) := by
      unfold Hid subS subE
      rw [if_neg (fun h => hg ⟨h.1, h.2.1⟩), if_neg hg]
      exact ⟨rfl, rfl⟩
    have HO := Lib.hid (op_bad (k := 0) hbad)
    have ha : Hid (∀ w1, Calls Tryz.prog 113 #[.string s, .string t, .func (.func 147) #[] #[]] w1 (OpPost 0 s t w1)) := fun w1 => apply_bad _ _ s t w1 hs ht hbad
    replace hE := Lib.hid hE
    clear e1 e2 hg hbad
    go_enter Tryz.func111, Tryz.ntmps111
    go_wp2_with (first
      | (go_at_call 110; refine cc.mono ?_; rintro e w1 ⟨rfl, hb1⟩; replace hb1 := Lib.hid hb1)
      | (go_at_call 113; refine (ha.out _).mono ?_; rintro e w2 ⟨rfl, hb2⟩; replace hb2 := Lib.hid hb2))
    go_ret2
    exact ⟨by rw [HG.out.1, HG.out.2]; exact congrArg Ending.returned (by simp [HO.out.1, HO.out.2]), hb1.out.trans (hb2.out.mono hb1.out.size)⟩
end Nt
end Go.Proofs.YtpmlhgmmobpilaaGreatDoor

namespace Go.Proofs.YtpmlhgmmobpilaaGreatDoor
open Go.RowKit Go.Shelf
namespace Nt
def divQ (s t : ByteArray) : ByteArray := if isN s = true ∧ isN t = true ∧ val t ≠ 0 then num (val s / val t) else ⟨#[]⟩
def divR (s t : ByteArray) : ByteArray := if isN s = true ∧ isN t = true ∧ val t ≠ 0 then num (val s % val t) else ⟨#[]⟩
def divE (s t : ByteArray) : Int := if isN s = true ∧ isN t = true then (if val t = 0 then 15 else 0) else 1
def DivPost (s t : ByteArray) (w : World) (e : Ending) (w' : World) : Prop := e = .returned (.tuple #[.string (divQ s t), .string (divR s t), .int .i64 (divE s t)]) ∧ Below w.heap.size w w'
theorem zero_iff {t : ByteArray} (h : isN t = true) : t.toList = [48] ↔ val t = 0 := by
  obtain ⟨n, _, rfl⟩ := num_of_isN h
  rw [val_num, Lib.toList_data]
  constructor
  · intro e
    have h := val_num n
    unfold val at h
    rw [e] at h
    rw [← h]
    rfl
  · intro e
    subst e
    show Lib.decDigits 0 = [48]
    rw [Lib.decDigits_one (by omega)]
    rfl
set_option maxHeartbeats 1000000 in
theorem Div_any (s t : ByteArray) (w : World) (hE : Env w) (hs : s.size ≤ 140737488355328) (ht : t.size ≤ 140737488355328) :
    Calls Tryz.prog 93 #[.string s, .string t] w (DivPost s t w) := by
  have c1 := is_any s w (by omega)
  replace hE := Lib.hid hE
  cases h1 : isN s with
  | false =>
    have HG : Hid (divQ s t = ⟨#[]⟩ ∧ divR s t = ⟨#[]⟩ ∧ divE s t = 1) := by unfold Hid divQ divR divE; simp [h1]
    rw [h1] at c1
    clear h1
    go_enter Tryz.func93, Tryz.ntmps93
    go_wp2_with (go_at_call 65; refine c1.mono ?_; rintro e w1 ⟨rfl, hb1⟩)
    go_ret3
    exact ⟨by rw [HG.out.1, HG.out.2.1, HG.out.2.2]; rfl, hb1⟩
  | true =>
    cases h2 : isN t with
    | false =>
      have HG : Hid (divQ s t = ⟨#[]⟩ ∧ divR s t = ⟨#[]⟩ ∧ divE s t = 1) := by unfold Hid divQ divR divE; simp [h2]
      rw [h1] at c1
      have H2 := Lib.hid h2
      clear h1 h2
      go_enter Tryz.func93, Tryz.ntmps93
      go_wp2_with fail
      refine c1.mono ?_
      rintro e w1 ⟨rfl, hb1⟩
      replace hb1 := Lib.hid hb1
      go_wp2_with fail
      have c2 := is_any t w1 (by omega)
      rw [H2.out] at c2
      refine c2.mono ?_
      rintro e w2 ⟨rfl, hb2⟩
      replace hb2 := Lib.hid hb2
      go_wp2
      go_ret3
      exact ⟨by rw [HG.out.1, HG.out.2.1, HG.out.2.2]; rfl, hb1.out.trans (hb2.out.mono hb1.out.size)⟩
    | true =>
      rw [h1] at c1
      have H1 := Lib.hid h1
      have H2 := Lib.hid h2
      by_cases hz : val t = 0
      · have HG : Hid (divQ s t = ⟨#[]⟩ ∧ divR s t = ⟨#[]⟩ ∧ divE s t = 15) := by unfold Hid divQ divR divE; simp [h1, h2, hz]
        have hb : (t.toList == [48]) = true := by rw [beq_iff_eq]; exact (zero_iff h2).2 hz
        clear h1 h2 hz
        go_enter Tryz.func93, Tryz.ntmps93
        go_wp2_with fail
        refine c1.mono ?_
        rintro e w1 ⟨rfl, hb1⟩
        replace hb1 := Lib.hid hb1
        go_wp2_with fail
        have c2 := is_any t w1 (by omega)
        rw [H2.out] at c2
        refine c2.mono ?_
        rintro e w2 ⟨rfl, hb2⟩
        replace hb2 := Lib.hid hb2
        go_wp2
        go_ret3
        exact ⟨by rw [HG.out.1, HG.out.2.1, HG.out.2.2]; rfl, hb1.out.trans (hb2.out.mono hb1.out.size)⟩
      · have hq : val s / val t < Lim := Nat.lt_of_le_of_lt (Nat.div_le_self _ _) (val_lt h1)
        have hr : val s % val t < Lim := Nat.lt_of_le_of_lt (Nat.mod_le _ _) (val_lt h1)
        have HG : Hid (divQ s t = num (val s / val t) ∧ divR s t = num (val s % val t) ∧ divE s t = 0) := by unfold Hid divQ divR divE; simp [h1, h2, hz]
        have HL : Hid (limited (Lib.decDigits (val s / val t)) = .tuple #[.string (num (val s / val t)), .int .i64 0] ∧ limited (Lib.decDigits (val s % val t)) = .tuple #[.string (num (val s % val t)), .int .i64 0]) := by
          unfold Hid
          rw [limited_eq, limited_eq]
          unfold strL errL
          rw [if_pos hq, if_pos hr, if_pos hq, if_pos hr]
          exact ⟨rfl, rfl⟩
        have hb : (t.toList == [48]) = false := by rw [beq_eq_false_iff_ne]; exact fun h => hz ((zero_iff h2).1 h)
        replace hz := Lib.hid hz
        replace hq := Lib.hid hq
        replace hr := Lib.hid hr
        clear h1 h2
        go_enter Tryz.func93, Tryz.ntmps93
        go_wp2_with fail
        refine c1.mono ?_
        rintro e w1 ⟨rfl, hb1⟩
        have hbA1 := Lib.hid hb1
        clear hb1
        go_wp2_with fail
        have c2 := is_any t w1 (by omega)
        rw [H2.out] at c2
        refine c2.mono ?_
        rintro e w2 ⟨rfl, hb2⟩
        have hbA2 := Lib.hid (hbA1.out.trans (hb2.mono hbA1.out.size))
        clear hb2 c1 c2 hbA1
        go_wp2_with fail
        refine (parse_num s w2 H1.out).mono ?_
        rintro e w3 ⟨v1, rfl, hn1, _, hb3⟩
        have hbA3 := Lib.hid (hbA2.out.trans (hb3.mono hbA2.out.size))
        replace hn1 := Lib.hid hn1
        clear hb3 hbA2
        go_wp2_with fail
        refine (parse_num t w3 H2.out).mono ?_
        rintro e w4 ⟨v2, rfl, hn2, _, hb2⟩
        have hbA2 := Lib.hid (hbA3.out.trans (hb2.mono hbA3.out.size))
        replace hb2 := Lib.hid hb2
        replace hn2 := Lib.hid hn2
        clear hbA3
        go_wp2_with fail
        refine (div_any w4 v1 v2 (val s) (val t) (hn1.out.below hb2.out) hn2.out (small_lim (val_lt H1.out)) (small_lim9 (val_lt H2.out)) (Nat.pos_of_ne_zero hz.out) (by have := hbA2.out.size; have := hE.out.pos; omega)).mono ?_
        rintro e w5 ⟨⟨q, r, rfl, hnq, hnr⟩, hb5⟩
        have hbA5 := Lib.hid (hbA2.out.trans (hb5.mono hbA2.out.size))
        replace hnq := Lib.hid hnq
        replace hnr := Lib.hid hnr
        clear hb5 hbA2 hb2 hn1 hn2
        go_wp2_with fail
        refine (text_any w5 q _ hnq.out (small_lim hq.out) (hE.out.below hbA5.out)).mono ?_
        rintro e w6 ⟨rfl, hb6⟩
        rw [HL.out.1]
        have hbA6 := Lib.hid (hbA5.out.trans (hb6.mono hbA5.out.size))
        replace hb6 := Lib.hid hb6
        clear hbA5
        go_wp2_with fail
        refine (text_any w6 r _ (hnr.out.below hb6.out) (small_lim hr.out) (hE.out.below hbA6.out)).mono ?_
        rintro e w7 ⟨rfl, hb7⟩
        rw [HL.out.2]
        have hbA7 := Lib.hid (hbA6.out.trans (hb7.mono hbA6.out.size))
        clear hb7 hb6 hbA6
        go_wp2
        go_ret3
        exact ⟨by rw [HG.out.1, HG.out.2.1, HG.out.2.2]; rfl, hbA7.out⟩
theorem parse10 : ∀ (l : List UInt8) (a : Nat), (∀ c ∈ l, isDig c) → a < 18446744073709551616 → Lib.parseUint10 a l = if a * 10 ^ l.length + dval l < 18446744073709551616 then .ok (a * 10 ^ l.length + dval l) else .range := by
  intro l
  induction l with
  | nil =>
    intro a _ ha
    simp only [Lib.parseUint10, List.length_nil, Nat.pow_zero, Nat.mul_one, dval_nil, Nat.add_zero]
    rw [if_pos ha]
  | cons c l ih =>
    intro a h ha
    have h1 := h c (by simp)
    have hp : 1 ≤ 10 ^ l.length := Nat.pow_pos (by omega)
    have e : a * 10 ^ (c :: l).length + dval (c :: l) = (a * 10 + (c.toNat - 48)) * 10 ^ l.length + dval l := by
      rw [dval_cons, List.length_cons, Nat.pow_succ, Nat.add_mul, Nat.mul_assoc a 10, Nat.mul_comm 10]
      omega
    rw [e]
    have hge : a * 10 + (c.toNat - 48) ≤ (a * 10 + (c.toNat - 48)) * 10 ^ l.length := Nat.le_mul_of_pos_right _ hp
    rw [Lib.parseUint10, if_pos (show 48 ≤ c.toNat ∧ c.toNat ≤ 57 from h1)]
    by_cases c1 : 1844674407370955162 ≤ a
    · rw [if_pos c1, if_neg (by omega)]
    · rw [if_neg c1]
      by_cases c2 : 18446744073709551616 ≤ a * 10 + (c.toNat - 48)
      · rw [if_pos c2, if_neg (by omega)]
      · rw [if_neg c2]
        exact ih _ (fun d hd => h d (by simp [hd])) (by omega)
theorem atoi_num (n : Nat) : Lib.atoiAll (num n).data.toList = if n ≤ 9223372036854775807 then .ok (n : Int) else .range := by
  have hd := decDigits_dig n
  have hv := dval_decDigits n
  show Lib.atoiAll (Lib.decDigits n) = _
  cases hl : Lib.decDigits n with
  | nil => exact absurd hl (decDigits_ne n)
  | cons c r =>
    rw [hl] at hd hv
    have h1 := hd c (by simp)
    have h2 := h1.1
    have hp := parse10 (c :: r) 0 hd (by omega)
    rw [Nat.zero_mul, Nat.zero_add, hv] at hp
    unfold Lib.atoiAll
    simp only [Lib.parseMag]
    have hneg : ¬ c.toNat = 45 := by omega
    have hneg2 : ¬ (c.toNat = 43 ∨ c.toNat = 45) := by omega
    rw [if_neg hneg2, if_neg (by simp), hp]
    by_cases hle : n ≤ 9223372036854775807
    · rw [if_pos (by omega), if_pos hle]
      simp only [hneg]
      rw [if_neg (by omega), if_neg (by simp), if_neg (by simp)]
    · rw [if_neg hle]
      by_cases h64 : n < 18446744073709551616
      · rw [if_pos h64]
        simp only [hneg]
        rw [if_pos ⟨by simp, by omega⟩]
      · rw [if_neg h64]
theorem num_lit (l : List UInt8) (n : Nat) (h : isNL l = true) (hv : dval l = n) : num n = ⟨l.toArray⟩ := by
  have := num_val (s := ⟨l.toArray⟩) h
  rw [← this]
  exact congrArg num hv.symm
end Nt
end Go.Proofs.YtpmlhgmmobpilaaGreatDoor

namespace Go.Proofs.YtpmlhgmmobpilaaGreatDoor
open Go.ChangeShapes Go.WideShapes Go.ChangeAt Go.RowKit Go.Shelf
namespace Nt
/-- The list that every row of this seat bears. -/
def laidL : List (String × DataW Unit) := Rows.moneyRoundsRow.laid
theorem gt_tab : (Tryz.prog.globals[3]?).map (·.type) = some 222 := by kernel_rfl
theorem gt_syn : (Tryz.prog.globals[1]?).map (·.type) = some 116 := by kernel_rfl
theorem gt_rng : (Tryz.prog.globals[2]?).map (·.type) = some 116 := by kernel_rfl
theorem cells_u64 : Tryz.prog.cellsOf 177 = 1 := by kernel_rfl
theorem cells_tab : Tryz.prog.cellsOf 222 = 20 := by kernel_rfl
theorem cells_str : Tryz.prog.cellsOf 9 = 1 := by kernel_rfl
theorem cells_es : Tryz.prog.cellsOf 229 = 1 := by kernel_rfl
theorem star : "*" ++ "errors.errorString" = "*errors.errorString" := by decide
theorem row_es (u : TypeId) (h : Tryz.prog.typeName? 3 u = some "*errors.errorString") : u = 227 :=
  typeName_ptr_named (nm := "errors.errorString") (by rw [star]; kernel_rfl) (by kernel_rfl) (by decide) u (by rw [star]; exact h)
theorem env_of {W : World} (h : laidMetH Tryz.prog laidL W) : Env W := by
  have h0 := (laidMetH_iff.1 h).1
  have hT : laidMet Tryz.prog [("internal/strconv.uint64pow10", Lib.tabData .u64 Lib.pow10Tab)] W := by
    have := h0.filter (fun x => x.1 == "internal/strconv.uint64pow10")
    rwa [show (laidL.filter fun x => x.2.handleName?.isNone).filter (fun x => x.1 == "internal/strconv.uint64pow10") = [("internal/strconv.uint64pow10", Lib.tabData .u64 Lib.pow10Tab)] by kernel_rfl] at this
  have hS : laidMet Tryz.prog [("strconv.ErrSyntax", .iface "*errors.errorString" (.ptr (.agg [.lit (.string [105, 110, 118, 97, 108, 105, 100, 32, 115, 121, 110, 116, 97, 120])])))] W := by
    have := h0.filter (fun x => x.1 == "strconv.ErrSyntax")
    rwa [show (laidL.filter fun x => x.2.handleName?.isNone).filter (fun x => x.1 == "strconv.ErrSyntax") = [("strconv.ErrSyntax", .iface "*errors.errorString" (.ptr (.agg [.lit (.string [105, 110, 118, 97, 108, 105, 100, 32, 115, 121, 110, 116, 97, 120])])))] by kernel_rfl] at this
  have hR : laidMet Tryz.prog [("strconv.ErrRange", .iface "*errors.errorString" (.ptr (.agg [.lit (.string [118, 97, 108, 117, 101, 32, 111, 117, 116, 32, 111, 102, 32, 114, 97, 110, 103, 101])])))] W := by
    have := h0.filter (fun x => x.1 == "strconv.ErrRange")
    rwa [show (laidL.filter fun x => x.2.handleName?.isNone).filter (fun x => x.1 == "strconv.ErrRange") = [("strconv.ErrRange", .iface "*errors.errorString" (.ptr (.agg [.lit (.string [118, 97, 108, 117, 101, 32, 111, 117, 116, 32, 111, 102, 32, 114, 97, 110, 103, 101])])))] by kernel_rfl] at this
  refine ⟨Lib.tabIs_of_head g_tab gt_tab Tryz.underlying222 Tryz.underlying177 cells_u64 cells_tab hT, ?_, ?_⟩
  · obtain ⟨a0, s0, hv0, -, -, -⟩ := laid_sentinel hS g_syn gt_syn Tryz.underlying116 row_es Tryz.underlying227 Tryz.underlying229 rfl rfl Tryz.underlying9 cells_es cells_str
    exact ⟨_, _, hv0⟩
  · obtain ⟨a0, s0, hv0, -, -, -⟩ := laid_sentinel hR g_rng gt_rng Tryz.underlying116 row_es Tryz.underlying227 Tryz.underlying229 rfl rfl Tryz.underlying9 cells_es cells_str
    exact ⟨_, _, hv0⟩
/-- A world for the witness: what the door's run leaves, and the pinned table. -/
noncomputable def laidWorld (os : Os) : World :=
  { World.doorLaid Tryz.prog 72 os with heap := (World.doorLaid Tryz.prog 72 os).heap.modify 4 fun
      | .cells _ t frozen => .cells (Go.Pinned.utf8FirstZ.map fun (z : Nat) => Value.int .u8 z).toArray t frozen
      | o => o }
theorem own : ownKnob Tryz.prog.godebug = none := by kernel_rfl
set_option maxRecDepth 100000 in
theorem laid_met (os : Os) (args : Array Value) : laidMetH Tryz.prog laidL ((laidWorld os).forCall (fun _ _ => 0) ⟨#[], args, []⟩).memory :=
  laidMet_of_run3 8 (by kernel_rfl) (by kernel_rfl) (by kernel_rfl)
theorem vars_ok (os : Os) (args : Array Value) : ((laidWorld os).forCall (fun _ _ => 0) ⟨#[], args, []⟩).variablesRefB Tryz.prog = true := by kernel_rfl
theorem rest_ok (os : Os) (args : Array Value) : (((laidWorld os).forCall (fun _ _ => 0) ⟨#[], args, []⟩).heap.toList.drop Tryz.prog.globals.size).take ((begin Tryz.prog (fun _ _ => 0) default).world.heap.size - Tryz.prog.globals.size) =
      (begin Tryz.prog (fun _ _ => 0) default).world.heap.toList.drop Tryz.prog.globals.size := by kernel_rfl
end Nt
end Go.Proofs.YtpmlhgmmobpilaaGreatDoor

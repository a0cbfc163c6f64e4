/- The walk of natural's div. -/
import Derived.Test.YtmekiidknjjfcaaGreatDoorNatDiv
import Derived.Maps.AppendAt
import Derived.Deep.RegionHeld3
import Derived.RangeFuncBox
import Derived.Laws.AppendOwnNone
import Derived.OneCell
namespace Go.Proofs.YtmekiidknjjfcaaGreatDoor
open Go.RowKit Go.Shelf
attribute [local go_sem] Oper.semAt_some
namespace Nt

theorem alloc_at_old (w : World) (o : Obj) {k : Nat} {x : Obj} (h : w.heap[k]? = some x) : (w.alloc o).heap[k]? = some x :=
  (Below.heap_alloc w o k (Array.getElem?_eq_some_iff.1 h).1).trans h
theorem alloc_at_new (w : World) (o : Obj) {k : Nat} (h : k = w.heap.size) : (w.alloc o).heap[k]? = some o := by
  subst h; exact heap_alloc_new w o

theorem five (w : World) (o1 o2 o3 o4 o5 : Obj) :
    (((((w.alloc o1).alloc o2).alloc o3).alloc o4).alloc o5).heap[w.heap.size]? = some o1 ∧ (((((w.alloc o1).alloc o2).alloc o3).alloc o4).alloc o5).heap[w.heap.size + 1]? = some o2 ∧
    (((((w.alloc o1).alloc o2).alloc o3).alloc o4).alloc o5).heap[w.heap.size + 1 + 1]? = some o3 ∧ (((((w.alloc o1).alloc o2).alloc o3).alloc o4).alloc o5).heap[w.heap.size + 1 + 1 + 1]? = some o4 ∧
    (((((w.alloc o1).alloc o2).alloc o3).alloc o4).alloc o5).heap[w.heap.size + 1 + 1 + 1 + 1]? = some o5 ∧ (((((w.alloc o1).alloc o2).alloc o3).alloc o4).alloc o5).heap.size = w.heap.size + 5 ∧
    Below w.heap.size w (((((w.alloc o1).alloc o2).alloc o3).alloc o4).alloc o5) := by
  refine ⟨?_, ?_, ?_, ?_, ?_, by simp, ?_⟩
  · exact alloc_at_old _ _ (alloc_at_old _ _ (alloc_at_old _ _ (alloc_at_old _ _ (alloc_at_new _ _ rfl))))
  · exact alloc_at_old _ _ (alloc_at_old _ _ (alloc_at_old _ _ (alloc_at_new _ _ (by simp))))
  · exact alloc_at_old _ _ (alloc_at_old _ _ (alloc_at_new _ _ (by simp)))
  · exact alloc_at_old _ _ (alloc_at_new _ _ (by simp))
  · exact alloc_at_new _ _ (by simp)
  · exact (((((Below.refl _ w).alloc (Nat.le_refl _) _).alloc (by simp) _).alloc (by simp; omega) _).alloc (by simp; omega) _).alloc (by simp; omega) _

/-- w' is w but for new blocks, and for some of the old ones. -/
structure KeptBut (S : Nat → Prop) (w w' : World) : Prop where
  os : w'.os = w.os
  tape : w'.tape = w.tape
  output : w'.output = w.output
  size : w.heap.size ≤ w'.heap.size
  block : ∀ k, k < w.heap.size → ¬ S k → w'.heap[k]? = w.heap[k]?

theorem KeptBut.refl (S : Nat → Prop) (w : World) : KeptBut S w w := ⟨rfl, rfl, rfl, Nat.le_refl _, fun _ _ _ => rfl⟩
theorem KeptBut.below {S : Nat → Prop} {w w' w'' : World} (h : KeptBut S w w') (hb : Below w'.heap.size w' w'') : KeptBut S w w'' :=
  ⟨hb.os.trans h.os, hb.tape.trans h.tape, hb.output.trans h.output, Nat.le_trans h.size hb.size, fun k hk hs => (hb.block k (Nat.lt_of_lt_of_le hk h.size)).trans (h.block k hk hs)⟩
theorem KeptBut.setCell {S : Nat → Prop} {w w' : World} (h : KeptBut S w w') {p : Addr} (hp : w.heap.size ≤ p.block ∨ S p.block) (v : Value) : KeptBut S w (w'.setCell p v) :=
  ⟨h.os, h.tape, h.output, by simpa [World.setCell] using h.size, fun k hk hs => (Below.heap_setCell _ _ _ _ (fun e => by subst e; rcases hp with hp | hp; (· omega); (· exact hs hp))).trans (h.block k hk hs)⟩
theorem KeptBut.grown {S : Nat → Prop} {w w' w'' : World} {row : Option Nat} (h : KeptBut S w w') (hg : w'.grownBy w'' row) (hr : ∀ k, row = some k → w.heap.size ≤ k ∨ S k) : KeptBut S w w'' :=
  ⟨hg.os.trans h.os, hg.tape.trans h.tape, hg.output.trans h.output, Nat.le_trans h.size hg.size, fun k hk hs =>
    (hg.block k (Nat.lt_of_lt_of_le hk h.size) (fun e => by rcases hr k e.symm with h1 | h1; (· omega); (· exact hs h1))).trans (h.block k hk hs)⟩
theorem KeptBut.to {S : Nat → Prop} {B : Nat} {w0 w w' : World} (h : KeptBut S w w') (h0 : Below B w0 w) (hB : B ≤ w.heap.size) (hS : ∀ k, S k → B ≤ k) : Below B w0 w' :=
  h0.trans ⟨h.os, h.tape, h.output, h.size, fun k hk => h.block k (by omega) (fun hs => by have := hS k hs; omega)⟩

/-- A box: one cell in a block of its own. -/
def Box (t : TypeId) (W : World) (b : Nat) (v : Value) : Prop := W.heap[b]? = some (.cells #[v] t (0, 0))
theorem Box.cell {t : TypeId} {W : World} {b : Nat} {v : Value} (h : Box t W b v) : W.cell? ⟨b, 0, none⟩ = some v := by
  unfold Box at h; simp [World.cell?, h]
theorem Box.frozen {t : TypeId} {W : World} {b : Nat} {v : Value} (h : Box t W b v) : W.frozen? ⟨b, 0, none⟩ = false := by
  unfold Box at h; simp [World.frozen?, h]
theorem Box.lt {t : TypeId} {W : World} {b : Nat} {v : Value} (h : Box t W b v) : b < W.heap.size := (Array.getElem?_eq_some_iff.1 h).1
theorem Box.set {t : TypeId} {W : World} {b : Nat} {v : Value} (h : Box t W b v) (u : Value) : Box t (W.setCell ⟨b, 0, none⟩ u) b u := by
  unfold Box at h ⊢
  simp [World.setCell, Array.getElem?_modify, h]
theorem Box.other {t : TypeId} {W : World} {b : Nat} {v : Value} (h : Box t W b v) (p : Addr) (u : Value) (hp : b ≠ p.block) : Box t (W.setCell p u) b v := by
  unfold Box at h ⊢; rw [Below.heap_setCell _ _ _ _ hp]; exact h
theorem Box.below {t : TypeId} {W W' : World} {b n : Nat} {v : Value} (h : Box t W b v) (hb : Below n W W') (hn : b < n) : Box t W' b v := by
  unfold Box at h ⊢; rw [hb.block b hn]; exact h
theorem Row.other {t : TypeId} {W : World} {g : Nat} {zs : List Nat} (h : Row t W g zs) (p : Addr) (u : Value) (hp : g ≠ p.block) : Row t (W.setCell p u) g zs := by
  unfold Row at h ⊢; rw [Below.heap_setCell _ _ _ _ hp]; exact h
theorem Row.below {t : TypeId} {W W' : World} {g n : Nat} {zs : List Nat} (h : Row t W g zs) (hb : Below n W W') (hn : g < n) : Row t W' g zs := by
  unfold Row at h ⊢; rw [hb.block g hn]; exact h

theorem run_append_sl (t ty e : TypeId) (i : TypeInfo) (B : Nat) (w : World) (ht : Tryz.prog.underlying t = some (.slice e)) (hi : Tryz.prog.info? e = some i) (hz : i.zero = some (.int .u64 0)) (hs : i.size = 1) (hby : i.bytes = 8)
    (v sv : Value) (n : Nat) (xs ys : List Nat) (hown : Own e B w v n xs) (hsl : Sl w sv ys) (hb : n + ys.length ≤ 1000000) (hB : B ≤ w.heap.size) :
    ∃ v' w', (Builtin.append_ #[t, t] ty #[v, sv]).run Tryz.prog w = .ok v' w' ∧ Own e B w' v' (n + ys.length) (xs ++ ys) ∧ w.grownBy w' v.ownBlock := by
  rcases hsl.shape with ⟨rfl, rfl⟩ | ⟨b, off, cap, rfl, hb', _, hc⟩
  · refine ⟨v, w, run_append_owned_none w B t ty e i 1 ht hi v n _ hown, ?_, World.grownBy.refl _ _⟩
    simpa using hown
  · obtain ⟨v', w', h1, h2, h3, _⟩ := run_append_own w B t ty e i (.int .u64 0) 1 8 ht hi hz hs hby rfl (by decide) v n _ hown ⟨b, off, none⟩ ys.length cap (lvals ys) (by simp [lvals])
      (fun j u hj => by
        simp only [lvals, List.getElem?_map, Option.map_eq_some_iff] at hj
        obtain ⟨y, hy, rfl⟩ := hj
        have hjl := (List.getElem?_eq_some_iff.1 hy).1
        have := hc j hjl
        rw [lim_lt _ _ hjl, (List.getElem?_eq_some_iff.1 hy).2] at this
        rw [Lib.add_plain]; exact this)
      (fun u hu => by simp only [lvals, List.mem_map] at hu; obtain ⟨y, _, rfl⟩ := hu; rfl) (by unfold maxLen; omega) (by omega) hB
    refine ⟨v', w', h1, ?_, h3⟩
    unfold Own
    rw [lvals, List.map_append]
    exact h2

/-- append of a slice of limbs to a row of the call's own, in a round -/
theorem wpListIn_append_sl {F : Fence} {N : Nat} (w : World) {ops : Array Oper} {rest : List Oper} {o : Oper} {a : Act} {Q : Exit → Act → World → Prop}
    (hg : o.guard = none) (s x : Operand) (t : TypeId) (hop : o.op = Op.call { callee := Callee.builtin Builtin.append, args := #[s, x], argTypes := #[t, t] }) (e : TypeId) (i : TypeInfo) (B : Nat)
    (ht : Tryz.prog.underlying t = some (.slice e)) (hi : Tryz.prog.info? e = some i) (hz : i.zero = some (.int .u64 0)) (hsz : i.size = 1) (hby : i.bytes = 8)
    (v sv : Value) (n : Nat) (xs ys : List Nat) (hs : a.eval s = v) (hx : a.eval x = sv) (hown : Own e B w v n xs) (hsl : Sl w sv ys) (hb : n + ys.length ≤ 1000000) (hB : B ≤ w.heap.size)
    (hK : ∀ v' w', Own e B w' v' (n + ys.length) (xs ++ ys) → w.grownBy w' v.ownBlock → wpListIn F N Tryz.prog ops Q rest (a.put o.dst v') w') :
    wpListIn F N Tryz.prog ops Q (o :: rest) a w := by
  refine wpListIn_plain hg fun K hK' => ?_
  obtain ⟨v', w', hrun, r1, r2⟩ := run_append_sl t o.type e i B w ht hi hz hsz hby v sv n xs ys hown hsl hb hB
  unfold Oper.wpIn
  refine ⟨?_, ?_⟩
  · simp [Oper.about, hop, resolve, Target.leads, Sem.run_pure]
  · rw [Oper.semAt_plain F _ _ (by rw [hop]; intro c hc'; cases hc')]
    simp [execOp, hop, resolve, invoke, builtin, hs, hx, hrun, Result.andThen]
    exact hK' _ _ (hK v' w' r1 r2)

theorem Sl.kept {A B : World} {row : Option Nat} {v : Value} {xs : List Nat} (h : Sl A v xs) (hg : A.grownBy B row) (hr : ∀ r, row = some r → ∃ o : Obj, A.heap[r]? = some o ∧ o.isCells = false) : Sl B v xs := by
  obtain ⟨a, cap, rfl, hn, hs⟩ := h
  refine ⟨a, cap, rfl, hn, fun ad e => ?_⟩
  obtain ⟨h1, h2, h3, h4⟩ := hs ad e
  exact ⟨h1, Nat.lt_of_lt_of_le h2 hg.size, h3, fun i hi => cell_kept (h4 i hi) hg hr⟩
theorem Num.kept {A B : World} {row : Option Nat} {v : Value} {n : Nat} (h : Num A v n) (hg : A.grownBy B row) (hr : ∀ r, row = some r → ∃ o : Obj, A.heap[r]? = some o ∧ o.isCells = false) : Num B v n := by
  obtain ⟨xs, h1, h2, h3⟩ := h
  exact ⟨xs, h1, h2, h3.kept hg hr⟩
theorem block_kept {A B : World} {row : Option Nat} {b : Nat} {c : Array Value} {t : TypeId} {f : Nat × Nat} (h : A.heap[b]? = some (.cells c t f)) (hg : A.grownBy B row) (hr : ∀ r, row = some r → ∃ o : Obj, A.heap[r]? = some o ∧ o.isCells = false) :
    B.heap[b]? = some (.cells c t f) := by
  rw [hg.block b (Array.getElem?_eq_some_iff.1 h).1 (fun e => ?_)]
  · exact h
  · obtain ⟨o, ho, hc⟩ := hr b e.symm
    rw [h] at ho
    cases ho
    cases hc

theorem Sl.setCell {W : World} {v : Value} {xs : List Nat} {B : Nat} (h : Sl W v xs) (hf : From B v) (p : Addr) (hp : p.block < B) (u : Value) : Sl (W.setCell p u) v xs := by
  obtain ⟨a, cap, rfl, hn, hs⟩ := h
  refine ⟨a, cap, rfl, hn, fun ad e => ?_⟩
  obtain ⟨h1, h2, h3, h4⟩ := hs ad e
  subst e
  have hB : B ≤ ad.block := hf
  refine ⟨h1, by simpa [World.setCell] using h2, h3, fun i hi => ?_⟩
  rw [← h4 i hi]
  exact World.cell?_of_block (w := W) (a := ⟨ad.block, ad.off + i, none⟩) (Below.heap_setCell _ _ _ _ (by show ad.block ≠ p.block; omega))
theorem Num.setCell {W : World} {v : Value} {n B : Nat} (h : Num W v n) (hf : From B v) (p : Addr) (hp : p.block < B) (u : Value) : Num (W.setCell p u) v n := by
  obtain ⟨xs, h1, h2, h3⟩ := h
  exact ⟨xs, h1, h2, h3.setCell hf p hp u⟩
theorem From.mono {B B' : Nat} {v : Value} (h : From B v) (hb : B' ≤ B) : From B' v := by
  unfold From at h ⊢
  split
  · exact Nat.le_trans hb h
  · trivial

theorem Num.shape {W : World} {v : Value} {n : Nat} (h : Num W v n) : ∃ a l c, v = .slice a l c := by
  obtain ⟨xs, _, _, a, c, h, _⟩ := h
  exact ⟨a, _, c, h⟩

/-- One step of a division: the rest and the quotient's limbs. -/
def divStep (xs : List Nat) (M : Nat) (s : Nat × List Nat) (x : Place xs.length) : Nat × List Nat :=
  if lim xs x.1 + 1000000000 * s.1 < M then (lim xs x.1 + 1000000000 * s.1, s.2)
  else ((lim xs x.1 + 1000000000 * s.1) % M, s.2.set x.1 ((lim xs x.1 + 1000000000 * s.1) / M))
def divSt (xs : List Nat) (M : Nat) (pre : List (Place xs.length)) : Nat × List Nat := pre.foldl (divStep xs M) (0, List.replicate xs.length 0)
theorem divSt_snoc (xs : List Nat) (M : Nat) (pre : List (Place xs.length)) (x : Place xs.length) : divSt xs M (pre ++ [x]) = divStep xs M (divSt xs M pre) x := by
  simp [divSt, List.foldl_append]

def DivI (w W1 : World) (xs : List Nat) (M : Nat) (pre : List (Place xs.length)) (W : World) : Prop :=
  (∃ rv, Box 124 W (w.heap.size + 1 + 1 + 1) rv ∧ Num W rv (divSt xs M pre).1 ∧ From W1.heap.size rv) ∧ Row 45 W (w.heap.size + 1) (divSt xs M pre).2 ∧
  (divSt xs M pre).1 < M ∧ (divSt xs M pre).2.length = xs.length ∧ InR (divSt xs M pre).2 ∧ KeptBut (fun k => k = w.heap.size + 1 ∨ k = w.heap.size + 1 + 1 + 1) W1 W

theorem divStep_plain (xs : List Nat) (M : Nat) (p : Nat) (hp : p < xs.length) (s : Nat × List Nat) (hM : 0 < M) (hz : s.2.length = xs.length) (h0 : ∀ j, j ≤ p → lim s.2 j = 0)
    (h4 : lv s.2 * M + 1000000000 ^ (p + 1) * s.1 + lo xs (p + 1) = lv xs) :
    (divStep xs M s ⟨p, hp⟩).1 < M ∧ (divStep xs M s ⟨p, hp⟩).2.length = xs.length ∧ (∀ j, j < p → lim (divStep xs M s ⟨p, hp⟩).2 j = 0) ∧
    lv (divStep xs M s ⟨p, hp⟩).2 * M + 1000000000 ^ p * (divStep xs M s ⟨p, hp⟩).1 + lo xs p = lv xs := by
  obtain ⟨r, zs⟩ := s
  dsimp only at hz h0 h4
  rw [lo_succ, Nat.pow_succ] at h4
  unfold divStep
  dsimp only
  generalize lim xs p = x at h4 ⊢
  have key : 1000000000 ^ p * (x + 1000000000 * r) = 1000000000 ^ p * x + 1000000000 ^ p * 1000000000 * r := by rw [Nat.mul_add, Nat.mul_assoc]
  split
  · rename_i hlt
    exact ⟨hlt, hz, fun j hj => h0 j (by omega), by dsimp only; omega⟩
  · rename_i hge
    have hs := lv_set zs p ((x + 1000000000 * r) / M) (by omega)
    rw [h0 p (Nat.le_refl _)] at hs
    refine ⟨Nat.mod_lt _ hM, by simpa using hz, fun j hj => by rw [lim_set_ne _ _ _ _ (by omega)]; exact h0 j (by omega), ?_⟩
    dsimp only
    have e1 : lv (zs.set p ((x + 1000000000 * r) / M)) = lv zs + 1000000000 ^ p * ((x + 1000000000 * r) / M) := by omega
    have e2 : 1000000000 ^ p * (x + 1000000000 * r) = 1000000000 ^ p * (M * ((x + 1000000000 * r) / M)) + 1000000000 ^ p * ((x + 1000000000 * r) % M) := by rw [← Nat.mul_add, Nat.div_add_mod]
    have e3 : 1000000000 ^ p * ((x + 1000000000 * r) / M) * M = 1000000000 ^ p * (M * ((x + 1000000000 * r) / M)) := by rw [Nat.mul_assoc, Nat.mul_comm M]
    rw [e1, Nat.add_mul, e3]
    omega

/-- What the steps from the last limb on come to. -/
theorem divSt_back (xs : List Nat) (M : Nat) (hM : 0 < M) (k : Nat) (hk : k ≤ xs.length) :
    (divSt xs M (back xs.length k)).1 < M ∧ (divSt xs M (back xs.length k)).2.length = xs.length ∧ (∀ j, j < xs.length - k → lim (divSt xs M (back xs.length k)).2 j = 0) ∧
    lv (divSt xs M (back xs.length k)).2 * M + 1000000000 ^ (xs.length - k) * (divSt xs M (back xs.length k)).1 + lo xs (xs.length - k) = lv xs := by
  induction k with
  | zero =>
    refine ⟨hM, by simp [divSt, back_zero], fun j hj => by simp only [divSt, back_zero, List.foldl_nil]; exact lim_zeros _ _, ?_⟩
    simp only [divSt, back_zero, List.foldl_nil, Nat.sub_zero]
    rw [lv_zeros _ (fun j hj => lim_zeros _ _), lo_all _ _ (Nat.le_refl _)]
    omega
  | succ k ih =>
    obtain ⟨_, h2, h3, h4⟩ := ih (by omega)
    rw [back_succ _ _ (by omega), divSt_snoc]
    have e1 : xs.length - (k + 1) = xs.length - 1 - k := by omega
    have e2 : xs.length - k = xs.length - 1 - k + 1 := by omega
    rw [e1]
    rw [e2] at h3 h4
    exact divStep_plain xs M _ _ _ hM h2 (fun j hj => h3 j (by omega)) h4

theorem divSt_end (xs : List Nat) (M : Nat) (hM : 0 < M) : lv (divSt xs M (back xs.length xs.length)).2 = lv xs / M ∧ (divSt xs M (back xs.length xs.length)).1 = lv xs % M := by
  obtain ⟨h1, _, _, h4⟩ := divSt_back xs M hM xs.length (Nat.le_refl _)
  rw [Nat.sub_self, Nat.pow_zero, Nat.one_mul, lo_zero, Nat.add_zero] at h4
  constructor
  · rw [← h4, Nat.mul_comm, Nat.mul_add_div hM, Nat.div_eq_of_lt h1, Nat.add_zero]
  · rw [← h4, Nat.mul_comm, Nat.mul_add_mod, Nat.mod_eq_of_lt h1]

set_option maxRecDepth 100000 in
set_option maxHeartbeats 1000000 in
theorem div_walk (w : World) (a : Option Addr) (cap : Nat) (xs : List Nat) (mc : Option Addr) (ml mcap M : Nat) (hl : xs.length ≤ 200) (hx : Hid (InR xs)) (b : Nat) (hb : b < w.heap.size)
    (ha : Hid (SlAt w b (.slice a xs.length cap) xs)) (hM : Hid (Num w (.slice mc ml mcap) M)) (hM0 : 0 < M) (hsM : Hid (Small (M * 1000000000))) :
    Calls Tryz.prog 101 #[.slice a xs.length cap, .slice mc ml mcap] w fun e w' =>
      (∃ v u, e = .returned (.tuple #[v, u]) ∧ Num w' v (lv xs / M) ∧ Num w' u (lv xs % M)) ∧ Below w.heap.size w w' := by
  have hmk := run_make_num xs.length (by omega)
  refine (callsIn_wide (n := 9)).1 ?_
  refine callsIn_of_wp_marks Tryz.func101 rfl trivial ?_ rfl
  simp only [Tryz.ntmps101, List.size_toArray, List.length_cons, List.length_nil, Nat.reduceAdd, Nat.reduceSub, Array.replicate_succ, Array.replicate_zero, List.push_toArray, List.append_toArray, List.nil_append, List.cons_append]
  gi_wp2_with (first
    | (refine ⟨trivial, ?_⟩; gi_at_call 119; refine (back_make Fence.wide _ trivial rfl _ _ _ _).mono ?_; rintro e w' ⟨rfl, rfl⟩)
    | (gi_at_call 119; refine (back_make Fence.wide _ trivial rfl _ _ _ _).mono ?_; rintro e w' ⟨rfl, rfl⟩))
  obtain ⟨f1, f2, f3, f4, f5, f6, f7⟩ := five w (.cells #[.slice mc ml mcap] 124) (.cells (madeCells #[.int .u64 0] xs.length) 45) (.cells #[.slice (some ⟨w.heap.size + 1, 0, none⟩) xs.length xs.length] 124) (.cells #[.slice none 0 0] 124) (.cells #[.slice a xs.length cap] 124)
  generalize ((((w.alloc (.cells #[.slice mc ml mcap] 124)).alloc (.cells (madeCells #[.int .u64 0] xs.length) 45)).alloc (.cells #[.slice (some ⟨w.heap.size + 1, 0, none⟩) xs.length xs.length] 124)).alloc (.cells #[.slice none 0 0] 124)).alloc (.cells #[.slice a xs.length cap] 124) = W1 at f1 f2 f3 f4 f5 f6 f7 ⊢
  rw [madeZero] at f2
  have hbx : W1.cell? ⟨w.heap.size + 1 + 1 + 1 + 1, 0, none⟩ = some (.slice a xs.length cap) := Box.cell f5
  have hsl : SlAt W1 b (.slice a xs.length cap) xs := ha.out.keep (c := b) (Keep2.of_below f7 hb hb)
  have hMW : Num W1 (.slice mc ml mcap) M := hM.out.below f7
  refine wpIn_rangeFunc_ownF rfl (by decide) (gf := 139) (lb := #[.pointer (some ⟨w.heap.size + 1 + 1 + 1 + 1, 0, none⟩)]) rfl trivial (enters_of Tryz.func139 (by kernel_rfl) rfl)
    (back_stops Fence.wide _ trivial rfl (by decide) (w.heap.size + 1 + 1 + 1 + 1) b _ xs (by omega) W1 (by omega) (by omega) hbx hsl) (fun h k => h.trans k)
    (fun W l o o' hl h ho hw => ?kb) (Below.refl _ _) (fun _ => rfl)
    (DivI w W1 xs M) (fun _ _ _ => False)
    (fun s A B row hs hg hr => ?own)
    (fun _ _ _ _ _ hs _ _ => hs)
    ⟨⟨_, f4, ⟨[], ⟨fun x hx => absurd hx (by simp), by simp⟩, rfl, Sl.nil _⟩, trivial⟩, f2, hM0, by simp [divSt], InR.zeros _, KeptBut.refl _ _⟩
    (fun x => { tmps := #[.slice a xs.length cap, .slice mc ml mcap, undef, .pointer (some ⟨w.heap.size, 0, none⟩), .slice none 0 0, .slice none 0 0, .pointer (some ⟨w.heap.size + 1 + 1, 0, none⟩), .pointer (some ⟨w.heap.size + 1 + 1 + 1, 0, none⟩),
      .int .i64 (x.1 : Int), .int .u64 (lim xs x.1), undef, .slice a xs.length cap, .int .i64 xs.length, .slice (some ⟨w.heap.size + 1, 0, none⟩) xs.length xs.length, .slice a xs.length cap,
      .func (.func 139) #[] #[.pointer (some ⟨w.heap.size + 1 + 1 + 1 + 1, 0, none⟩)], .int .i64 (x.1 : Int), .int .u64 (lim xs x.1),
      undef, undef, undef, undef, undef, undef, undef, undef, undef, undef, undef, undef, undef, undef, undef, undef, undef, undef, undef, undef, undef, undef, undef, undef, undef, undef], defers := [] })
    ?assign ?body ?done ?stop
  case kb =>
    have h1 := (Array.getElem?_eq_some_iff.1 h).1
    exact ⟨World.putObj_heap_other (by omega), World.putObj_heap_other (by omega)⟩
  case own =>
    obtain ⟨⟨rv, s1, s2, s2f⟩, s3, s4, s5, s6, s7⟩ := hs
    have hr' := fun r e => (hr r e).2
    exact ⟨⟨rv, block_kept s1 hg hr', s2.kept hg hr', s2f⟩, block_kept s3 hg hr', s4, s5, s6, s7.grown hg (fun k e => .inl (hr k e).1)⟩
  case assign =>
    intro l x W K hK
    gi_wp2
    exact hK
  case body =>
    rintro l pre x W ⟨⟨rv, s1, ⟨rs, c1, c2, c3⟩, s2f⟩, s3, s4, s5, s6, s7⟩ hlen
    obtain ⟨i0, hi, hz0, hz1, hz2⟩ := info_parts infoU
    have hsz := s7.size
    have hb0 : w.heap.size < W.heap.size := by omega
    have hb1 : w.heap.size + 1 < W.heap.size := by omega
    have hb2 : w.heap.size + 1 + 1 < W.heap.size := by omega
    have hb3 : w.heap.size + 1 + 1 + 1 < W.heap.size := by omega
    have hcr := Box.cell s1
    have hfr := Box.frozen s1
    have hlim := hx.out.lim x.1
    have hbxM : Box 124 W w.heap.size (.slice mc ml mcap) := (s7.block w.heap.size (by omega) (by omega)).trans f1
    have hbxQ : Box 124 W (w.heap.size + 1 + 1) (.slice (some ⟨w.heap.size + 1, 0, none⟩) xs.length xs.length) := (s7.block (w.heap.size + 1 + 1) (by omega) (by omega)).trans f3
    have hcM := Box.cell (show Box 124 W w.heap.size (.slice mc ml mcap) from (s7.block w.heap.size (by omega) (by omega)).trans f1)
    have hown : Own 45 W.heap.size (W.alloc (.cells #[.int .u64 (lim xs x.1)] 45)) (.slice (some ⟨W.heap.size, 0, none⟩) 1 1) 1 [lim xs x.1] := World.ownsRow_lit W #[.int .u64 (lim xs x.1)] 1 (Nat.le_refl _) (by unfold maxLen; omega) rfl
    have hslr : Sl (W.alloc (.cells #[.int .u64 (lim xs x.1)] 45)) rv rs := c3.below ((Below.refl _ _).alloc (Nat.le_refl _) _)
    obtain ⟨ar, capr, hrv, _⟩ := c3.addr
    subst hrv
    have C1 := Lib.hid c1
    have C2 := Lib.hid c2
    have S3 := Lib.hid s3
    have S4 := Lib.hid s4
    have S5 := Lib.hid s5
    have S6 := Lib.hid s6
    have S7 := Lib.hid s7
    have hrl : rs.length ≤ 200 := c1.len_le (small_of_le hsM.out (by omega))
    have F6 := Lib.hid f6
    replace hsz := Lib.hid hsz
    clear c1 c2 s3 s4 s5 s6 s7 hsl hMW hmk f1 f2 f3 f4 f5 f6 hbx c3
    gi_wp2_with (gi_at_builtin; refine wpListIn_append_sl _ rfl _ _ 124 rfl 45 i0 W.heap.size Tryz.underlying124 hi hz0 hz1 hz2 _ _ 1 [lim xs x.1] rs rfl rfl hown hslr (by omega) (by simp) ?_; intro v1 w1 hown1 hgr1)
    refine ⟨trivial, ?_⟩
    refine (CallsIn.inRound l (callsIn_wide.2 (trim_any w1 v1 (lim xs x.1 :: rs) (by simp; omega) hown1.sl))).mono ?_
    rintro e w2 ⟨v2, k2, rfl, ht2, hs2, hf2, rfl⟩
    have F2 := hf2 _ hown1.from
    have N2 : Num w1 v2 (lim xs x.1 + 1000000000 * (divSt xs M pre).1) := ⟨_, ht2.canon (fun y hy => by
      rcases List.mem_cons.1 hy with h | h
      · rw [h]; exact hlim
      · exact C1.out.1 y h), by rw [ht2.lv, lv, C2.out], hs2⟩
    have hB1 : Below W.heap.size W w1 := ((Below.refl W.heap.size W).alloc (Nat.le_refl _) _).grown hgr1 (by simp) (fun k e => by cases e; exact Nat.le_refl _)
    have s1' : Box 124 w1 (w.heap.size + 1 + 1 + 1) (.slice ar rs.length capr) := s1.below hB1 hb3
    have hxM1 := hbxM.below hB1 hb0
    have hcM1 := hxM1.cell
    have hcr1 := s1'.cell
    have hfr1 := s1'.frozen
    obtain ⟨a2, n2, cap2, e2⟩ : ∃ a n c, v2 = .slice a n c := by
      obtain ⟨a, c, h, _⟩ := hs2
      exact ⟨a, _, c, h⟩
    subst e2
    generalize hr1 : lim xs x.1 + 1000000000 * (divSt xs M pre).1 = r1 at N2
    have hsR : Small r1 := by
      rw [← hr1]
      exact small_of_le hsM.out (by have := S4.out; omega)
    have hrM : r1 < M * 1000000000 := by rw [← hr1]; have := S4.out; omega
    have HR1 := Lib.hid hr1
    replace hrM := Lib.hid hrM
    have HB1 := Lib.hid hB1
    replace N2 := Lib.hid N2
    replace F2 := Lib.hid F2
    clear hr1 hB1 hs2 hf2 ht2 hown1 hgr1 hown hslr hcr hfr C1 C2 hi hz0 hz1 hz2 s1
    gi_wp2
    -- the world behind the store of the rest
    have hsz1 := HB1.out.size
    have s1'' := s1'.set (.slice a2 n2 cap2)
    have hB3 : Below w.heap.size w (w1.setCell ⟨w.heap.size + 1 + 1 + 1, 0, none⟩ (.slice a2 n2 cap2)) := ((S7.out.to f7 f7.size (fun k h => by omega)).trans (HB1.out.mono (by omega))).setCell (by simp; omega) _
    have N3 : Num (w1.setCell ⟨w.heap.size + 1 + 1 + 1, 0, none⟩ (.slice a2 n2 cap2)) (.slice a2 n2 cap2) r1 := N2.out.setCell F2.out _ hb3 _
    have K3 : KeptBut (fun k => k = w.heap.size + 1 ∨ k = w.heap.size + 1 + 1 + 1) W1 (w1.setCell ⟨w.heap.size + 1 + 1 + 1, 0, none⟩ (.slice a2 n2 cap2)) := (S7.out.below HB1.out).setCell (.inr (.inr rfl)) _
    have R3 := ((S3.out.below HB1.out hb1).other ⟨w.heap.size + 1 + 1 + 1, 0, none⟩ (.slice a2 n2 cap2) (by simp))
    have hsz3 : W.heap.size ≤ (w1.setCell ⟨w.heap.size + 1 + 1 + 1, 0, none⟩ (.slice a2 n2 cap2)).heap.size := by simpa [World.setCell] using hsz1
    have hxM3 := hxM1.other ⟨w.heap.size + 1 + 1 + 1, 0, none⟩ (.slice a2 n2 cap2) (by simp; omega)
    have hxQ3 := (hbxQ.below HB1.out hb2).other ⟨w.heap.size + 1 + 1 + 1, 0, none⟩ (.slice a2 n2 cap2) (by simp)
    have KO3 : KeepsOthers W (w1.setCell ⟨w.heap.size + 1 + 1 + 1, 0, none⟩ (.slice a2 n2 cap2)) := (KeepsOthers.of_below HB1.out).trans (KeepsOthers.setCell _ _ _)
    have KK3 : Keep2 b (w.heap.size + 1 + 1 + 1 + 1) W (w1.setCell ⟨w.heap.size + 1 + 1 + 1, 0, none⟩ (.slice a2 n2 cap2)) := (Keep2.of_below HB1.out (by omega) (by have := F6.out; have := hsz.out; omega)).trans (Keep2.setCell _ _ _ (by simp; omega) (by simp))
    generalize w1.setCell ⟨w.heap.size + 1 + 1 + 1, 0, none⟩ (.slice a2 n2 cap2) = w3 at s1'' hB3 N3 K3 R3 hsz3 hxM3 hxQ3 KO3 KK3 ⊢
    clear hxM1 hcM1 s1' hcr1 hfr1 N2 hbxM hbxQ hcM HB1 hsz1
    refine ⟨trivial, ?_⟩
    refine (CallsIn.inRound l (callsIn_wide.2 (compare_any w3 _ _ r1 M N3 (hM.out.below hB3) ?sm1 ?sm2))).mono ?_
    case sm1 => exact hsR
    case sm2 => omega
    rintro e w4 ⟨rfl, hb4⟩
    by_cases hlt : r1 < M
    · rw [cmpN_lt hlt]
      gi_wp2
      have e : divSt xs M (pre ++ [x]) = (r1, (divSt xs M pre).2) := by rw [divSt_snoc, divStep, HR1.out, if_pos hlt]
      refine ⟨KO3.trans (KeepsOthers.of_below hb4), KK3.trans (Keep2.of_below hb4 (by omega) (by have := F6.out; have := hsz.out; omega)), ?_⟩
      unfold DivI
      rw [e]
      exact ⟨⟨_, s1''.below hb4 (by omega), N3.below hb4, F2.out.mono hsz.out⟩, R3.below hb4 (by omega), hlt, S5.out, S6.out, K3.below hb4⟩
    · rw [show cmpN r1 M = cmpN r1 M from rfl]
      have hc0 : decide (cmpN r1 M < 0) = false := by
        rcases Nat.lt_or_ge M r1 with h | h
        · rw [cmpN_gt h]; rfl
        · rw [show r1 = M by omega, cmpN_eq]; rfl
      generalize cmpN r1 M = cr at hc0 ⊢
      have hc1 : ¬ cr < 0 := by simpa using hc0
      clear hc0
      gi_wp2
      refine ⟨trivial, ?_⟩
      have hsz4 := hb4.size
      have M4 := (hM.out.below hB3).below hb4
      have N4 := N3.below hb4
      have hcM4 := (hxM3.below hb4 (by omega)).cell
      have hcR4 := (s1''.below hb4 (by omega)).cell
      refine (CallsIn.inRound l (callsIn_wide.2 (search_any 999999999 (by omega) (fun k => decide (r1 < M * (k + 1))) (.pointer (some ⟨w.heap.size, 0, none⟩)) (.pointer (some ⟨w.heap.size + 1 + 1 + 1, 0, none⟩)) w4
        (fun a b hab hbn h => by
          have h1 : M * (a + 1) ≤ M * (b + 1) := Nat.mul_le_mul_left _ (by omega)
          simp only [decide_eq_true_eq] at h ⊢
          omega)
        (fun W' i hW' hi => closure_any W' i hi w.heap.size (w.heap.size + 1 + 1 + 1) _ _ M r1 ((hW'.cell (p := ⟨w.heap.size, 0, none⟩) (by simp; omega)).trans hcM4) ((hW'.cell (p := ⟨w.heap.size + 1 + 1 + 1, 0, none⟩) (by simp; omega)).trans hcR4) (M4.below hW') (N4.below hW') hsM)))).mono ?_
      rintro e w5 ⟨d, rfl, hd1, hd2, hd3, hb5⟩
      have hd : d = r1 / M := by
        have hrM' := hrM.out
        refine (Nat.div_eq_of_lt_le ?_ ?_).symm
        · cases d with
          | zero => simp
          | succ d => have := hd2 d (by omega); simp only [decide_eq_false_iff_not] at this; rw [Nat.mul_comm]; omega
        · by_cases h : d < 999999999
          · have := hd3 h; simp only [decide_eq_true_eq] at this; rw [Nat.mul_comm]; exact this
          · obtain rfl : d = 999999999 := by omega
            rw [Nat.mul_comm]; exact hrM'
      have hsz5 := hb5.size
      have M5 := M4.below hb5
      have N5 := N4.below hb5
      have hxM5 := (hxM3.below hb4 (by omega)).below hb5 (by omega)
      have hxQ5 := (hxQ3.below hb4 (by omega)).below hb5 (by omega)
      have hxR5 := (s1''.below hb4 (by omega)).below hb5 (by omega)
      have R5 := (R3.below hb4 (by omega)).below hb5 (by omega)
      have K5 := (K3.below hb4).below hb5
      have KO5 := (KO3.trans (KeepsOthers.of_below hb4)).trans (KeepsOthers.of_below hb5)
      have KK5 := (KK3.trans (Keep2.of_below hb4 (by omega) (by have := F6.out; have := hsz.out; omega))).trans (Keep2.of_below hb5 (by omega) (by have := F6.out; have := hsz.out; omega))
      have hB5 := (hB3.trans (hb4.mono (by omega))).trans (hb5.mono (by omega))
      have hsW5 : W.heap.size ≤ w5.heap.size := by omega
      clear hsz4 M4 N4 hcM4 hcR4 hd1 hd2 hd3 hb5 hb4 hsz5 N3 R3 K3 s1'' hxM3 hxQ3 KO3 KK3 hB3 hsz3
      have hcQ5 := hxQ5.cell
      have hcG5 := R5.cell (i := x.1) (by have := S5.out; have := x.2; omega)
      have hfG5 := R5.frozen x.1
      have hxl : x.1 < xs.length := x.2
      have hd9 : d ≤ 999999999 := by rw [hd]; have := hrM.out; exact Nat.le_of_lt_succ (Nat.div_lt_of_lt_mul (by omega))
      have HD := Lib.hid hd
      clear hd
      gi_wp2
      have hsG : (w5.setCell ⟨w.heap.size + 1, x.1, none⟩ (.int .u64 (d : Int))).heap.size = w5.heap.size := by simp [World.setCell]
      have M6 : Num (w5.setCell ⟨w.heap.size + 1, x.1, none⟩ (.int .u64 (d : Int))) (.slice mc ml mcap) M := hM.out.below (hB5.setCell (Nat.le_succ _) _)
      have N6 := N5.setCell F2.out ⟨w.heap.size + 1, x.1, none⟩ hb1 (.int .u64 (d : Int))
      have hxM6 := hxM5.other ⟨w.heap.size + 1, x.1, none⟩ (.int .u64 (d : Int)) (Nat.ne_of_lt (Nat.lt_succ_self _))
      have hxR6 := hxR5.other ⟨w.heap.size + 1, x.1, none⟩ (.int .u64 (d : Int)) (by show w.heap.size + 1 + 1 + 1 ≠ w.heap.size + 1; omega)
      have R6 := R5.set x.1 d
      have K6 := K5.setCell (p := ⟨w.heap.size + 1, x.1, none⟩) (.inr (.inl rfl)) (.int .u64 (d : Int))
      have KO6 := KO5.trans (KeepsOthers.setCell w5 ⟨w.heap.size + 1, x.1, none⟩ (.int .u64 (d : Int)))
      have KK6 := KK5.trans (Keep2.setCell w5 ⟨w.heap.size + 1, x.1, none⟩ (.int .u64 (d : Int)) (by simp; omega) (by simp; omega))
      have hsW6 : W.heap.size ≤ (w5.setCell ⟨w.heap.size + 1, x.1, none⟩ (.int .u64 (d : Int))).heap.size := by omega
      generalize w5.setCell ⟨w.heap.size + 1, x.1, none⟩ (.int .u64 (d : Int)) = w6 at M6 N6 hxM6 hxR6 R6 K6 KO6 KK6 hsW6 ⊢
      have hd1 : 1 ≤ d := by rw [HD.out]; exact (Nat.one_le_div_iff hM0).2 (by omega)
      have hMd : M * d ≤ r1 := by rw [HD.out]; exact Nat.mul_div_le r1 M
      have hone := num_one w6 d (by omega) (by omega) (X := (d : Int)) rfl
      have cM := mul_any (w6.alloc (.cells #[.int .u64 (d : Int)] 45)).drew (.slice mc ml mcap) (.slice (some ⟨w6.heap.size, 0, none⟩) 1 1) M d (M6.below ((Below.refl _ _).alloc (Nat.le_refl _) _).drew) hone (small_of_le hsM.out (by omega)) (small_limb (by omega))
      have hcM6 := hxM6.cell
      have hcR6 := hxR6.cell
      have hfR6 := hxR6.frozen
      have hm6 : w.heap.size < w6.heap.size := by omega
      have hr6 : w.heap.size + 1 + 1 + 1 < w6.heap.size := by omega
      have s1 : IntKind.u64.wrap (d : Int) = (d : Int) := IntWalk.u64_in _ (by omega)
      replace hMd := Lib.hid hMd
      replace N6 := Lib.hid N6
      replace hone := Lib.hid hone
      replace R6 := Lib.hid R6
      replace K6 := Lib.hid K6
      replace KO6 := Lib.hid KO6
      replace KK6 := Lib.hid KK6
      replace hxR6 := Lib.hid hxR6
      clear M6 hxM6 hsG N5 hxM5 hxR5 hxQ5 hcQ5 hcG5 hfG5 R5 K5 KO5 KK5 hB5 hsW5 M5
      gi_region_with (first
        | (refine ⟨trivial, ?_⟩; gi_at_call 116; refine (CallsIn.inRound l (callsIn_wide.2 cM)).mono ?_; rintro e w7 ⟨v7, rfl, hv7, _, hb7⟩; have hbW7 : Below w6.heap.size w6 w7 := ((Below.refl w6.heap.size w6).alloc (Nat.le_refl _) _).drew.trans (hb7.mono (by simp)); have hcR7 := (hbW7.cell (p := ⟨w.heap.size + 1 + 1 + 1, 0, none⟩) hr6).trans hcR6; replace hb7 := Lib.hid hb7; replace hbW7 := Lib.hid hbW7)
        | (refine ⟨trivial, ?_⟩; gi_at_call 98; refine (CallsIn.inRound l (callsIn_wide.2 (sub_any w7 (.slice a2 n2 cap2) v7 r1 (M * d) (N6.out.below hbW7.out) hv7 hMd.out hsR))).mono ?_; rintro e w8 ⟨v8, rfl, hv8, hf8, hb8⟩; have hbW8 : Below w6.heap.size w6 w8 := hbW7.out.trans (hb8.mono hbW7.out.size); have hcR8 := (hbW8.cell (p := ⟨w.heap.size + 1 + 1 + 1, 0, none⟩) hr6).trans hcR6; have hfR8 := (hbW8.frozen (p := ⟨w.heap.size + 1 + 1 + 1, 0, none⟩) hr6).trans hfR6; obtain ⟨a8, n8, cap8, e8⟩ : ∃ a n c, v8 = .slice a n c := hv8.shape; subst e8; replace hf8 := Lib.hid (From.mono hf8 hbW7.out.size); replace hb8 := Lib.hid hb8; replace hbW8 := Lib.hid hbW8; clear hcR7))
      all_goals
        have hbW := Hid.out (p := Below w6.heap.size w6 w8) (by assumption)
        have hf8' := Hid.out (p := From w6.heap.size (.slice a8 n8 cap8)) (by assumption)
        gi_wp2
        have hq : (d : Nat) < 1000000000 := by omega
        have e : divSt xs M (pre ++ [x]) = (r1 - M * d, (divSt xs M pre).2.set x.1 d) := by
          rw [divSt_snoc, divStep, HR1.out, if_neg hlt, HD.out, Nat.mod_eq_sub]
        refine ⟨(KO6.out.trans (KeepsOthers.of_below hbW)).trans (KeepsOthers.setCell _ _ _), (KK6.out.trans (Keep2.of_below hbW (by omega) (by have := F6.out; have := hsz.out; omega))).trans (Keep2.setCell _ _ _ (by show b ≠ w.heap.size + 1 + 1 + 1; omega) (by show w.heap.size + 1 + 1 + 1 + 1 ≠ w.heap.size + 1 + 1 + 1; omega)), ?_⟩
        unfold DivI
        rw [e]
        refine ⟨⟨_, (hxR6.out.below hbW (by omega)).set _, hv8.setCell hf8' _ hr6 _, hf8'.mono (by have := hsz.out; omega)⟩, (R6.out.below hbW (by omega)).other _ _ (by show w.heap.size + 1 ≠ w.heap.size + 1 + 1 + 1; omega), ?_, by simpa using S5.out, S6.out.set _ _ hq, (K6.out.below hbW).setCell (.inr (.inr rfl)) _⟩
        rw [HD.out, ← Nat.mod_eq_sub]; exact Nat.mod_lt _ hM0
  case done =>
    rintro D zs W hD rfl ⟨⟨rv, s1, s2, s2f⟩, s3, s4, s5, s6, s7⟩ hK
    have hbxQ : Box 124 W (w.heap.size + 1 + 1) (.slice (some ⟨w.heap.size + 1, 0, none⟩) xs.length xs.length) := (s7.block (w.heap.size + 1 + 1) (by omega) (by omega)).trans f3
    have hcQ := hbxQ.cell
    have hcR := s1.cell
    have hBW : Below w.heap.size w W := s7.to f7 f7.size (fun k h => by omega)
    have hst := divSt_end xs M hM0
    have hslq := s3.sl
    rw [s5] at hslq
    obtain ⟨ar, lr, cr, erv⟩ := s2.shape
    subst erv
    have hlq : (divSt xs M (back xs.length xs.length)).2.length ≤ 1000000 := by rw [s5]; omega
    replace hst := Lib.hid hst
    replace s2 := Lib.hid s2
    replace s6 := Lib.hid s6
    replace hBW := Lib.hid hBW
    have HK := Lib.hid hK
    clear s1 s3 s4 s5 s7 f1 f2 f3 f4 f5 f6 hsl hMW hmk hbx hbxQ hK
    gi_wp2
    refine wpIn_wide.2 ?_
    go_region_held3 (fun w' => w'.cell? ⟨w.heap.size + 1 + 1, 0, none⟩ = some (.slice (some ⟨w.heap.size + 1, 0, none⟩) xs.length xs.length) ∧ w'.cell? ⟨w.heap.size + 1 + 1 + 1, 0, none⟩ = some (.slice ar lr cr))
      (first
        | go_keep
        | (go_split_ands
           refine ⟨?_, ?_⟩
           · assumption
           · assumption))
      ((go_at_call 117; refine (trim_any W.drew (.slice (some ⟨w.heap.size + 1, 0, none⟩) xs.length xs.length) _ hlq hslq).mono ?_; rintro e w' ⟨v, k, rfl, ht, hs, hf, rfl⟩))
    gi_wp2
    refine ⟨by simp, .inl ⟨_, _, rfl, run_takeDeferred (show W.drew.heap[D]? = _ from HK.out), ?_⟩⟩
    have hr' : ∀ r, (some D) = some r → ∃ o : Obj, W.drew.heap[r]? = some o ∧ o.isCells = false := fun r e => by cases e; exact ⟨_, HK.out, rfl⟩
    have hg := grownBy_putObj' W.drew D (.deferred none)
    have hN1 : Num (W.drew.putObj D (.deferred none)) v (lv xs / M) := by
      rw [← hst.out.1]
      exact ⟨_, ht.canon s6.out, ht.lv, Sl.kept hs hg hr'⟩
    have hN2 : Num (W.drew.putObj D (.deferred none)) (.slice ar lr cr) (lv xs % M) := by
      rw [← hst.out.2]
      exact Num.kept (show Num W.drew _ _ from s2.out) hg hr'
    obtain ⟨av, lv', cv, ev⟩ := hN1.shape
    subst ev
    refine ⟨.tuple #[.slice av lv' cv, .slice ar lr cr], by simp [results, Tryz.results101, go_sem], ⟨_, _, rfl, hN1, hN2⟩, ?_⟩
    exact (hBW.out.drew).grown hg hBW.out.size (fun k e => by cases e; exact Nat.le_trans f7.size hD)
  case stop =>
    rintro D c pre W _ _ h _
    exact h.elim

/-- div, at every two numbers, the second one of which is not 0 -/
theorem div_any (w : World) (v u : Value) (n m : Nat) (hn : Num w v n) (hm : Num w u m) (hbn : Small n) (hbm : Small (m * 1000000000)) (hm0 : 0 < m) (h0 : 0 < w.heap.size) :
    Calls Tryz.prog 101 #[v, u] w fun e w' =>
      (∃ q r, e = .returned (.tuple #[q, r]) ∧ Num w' q (n / m) ∧ Num w' r (n % m)) ∧ Below w.heap.size w w' := by
  obtain ⟨xs, hx, rfl, hsx⟩ := hn
  obtain ⟨mc, ml, mcap, rfl⟩ := hm.shape
  have hl := hx.len_le (k := 200) hbn
  obtain ⟨b, hb, hat⟩ := SlAt.of hsx h0
  obtain ⟨a, cap, rfl, _⟩ := hsx.addr
  exact div_walk w a cap xs mc ml mcap m hl hx.1 b hb hat hm hm0 hbm

end Nt
end Go.Proofs.YtmekiidknjjfcaaGreatDoor

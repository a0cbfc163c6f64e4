/- Plain facts on limbs and digits: no program in sight. -/
import Derived.WalkKit
namespace Go.Proofs.YtmekiidknjjfcaaGreatDoor
open Go.RowKit
namespace Nt

/-- The value of limbs, the least significant one first. -/
def lv : List Nat → Nat
  | [] => 0
  | x :: xs => x + 1000000000 * lv xs

/-- The limb at a place; 0 beyond the last one. A plain definition, so that the walk leaves it. -/
def lim (xs : List Nat) (i : Nat) : Nat := xs.getD i 0

/-- The length of a slice. -/
def slen : Value → Nat
  | .slice _ n _ => n
  | _ => 0

/-- Limbs in range, without leading zeros. -/
def Canon (xs : List Nat) : Prop := (∀ x ∈ xs, x < 1000000000) ∧ xs.getLast? ≠ some 0

theorem lv_append (xs ys : List Nat) : lv (xs ++ ys) = lv xs + 1000000000 ^ xs.length * lv ys := by
  induction xs with
  | nil => simp [lv]
  | cons x xs ih =>
    simp only [List.cons_append, lv, ih, List.length_cons, Nat.pow_succ, Nat.mul_add]
    rw [Nat.mul_comm (1000000000 ^ xs.length) 1000000000, Nat.mul_assoc]
    omega

/-- A slice of limbs: where it lies and what its cells hold. -/
def Sl (w : World) (v : Value) (xs : List Nat) : Prop :=
  ∃ a cap, v = .slice a xs.length cap ∧ (a = none → xs = [] ∧ cap = 0) ∧
    ∀ ad, a = some ad → ad.spot = none ∧ ad.block < w.heap.size ∧ xs.length ≤ cap ∧ ∀ i, i < xs.length → w.cell? ⟨ad.block, ad.off + i, none⟩ = some (.int .u64 (lim xs i))

theorem Sl.shape {w : World} {v : Value} {xs : List Nat} (h : Sl w v xs) :
    (xs = [] ∧ v = .slice none 0 0) ∨
    ∃ b off cap, v = .slice (some ⟨b, off, none⟩) xs.length cap ∧ b < w.heap.size ∧ xs.length ≤ cap ∧ ∀ i, i < xs.length → w.cell? ⟨b, off + i, none⟩ = some (.int .u64 (lim xs i)) := by
  obtain ⟨a, cap, rfl, hn, hs⟩ := h
  cases a with
  | none => exact .inl ⟨(hn rfl).1, by rw [(hn rfl).1, (hn rfl).2]; rfl⟩
  | some ad =>
    obtain ⟨hsp, hb, hcap, hc⟩ := hs ad rfl
    obtain ⟨b, off, sp⟩ := ad
    cases hsp
    exact .inr ⟨b, off, cap, rfl, hb, hcap, hc⟩

theorem Sl.addr {w : World} {v : Value} {xs : List Nat} (h : Sl w v xs) :
    ∃ a cap, v = .slice a xs.length cap ∧ (xs ≠ [] → ∃ b off, a = some ⟨b, off, none⟩ ∧ b < w.heap.size ∧ ∀ i, i < xs.length → w.cell? ⟨b, off + i, none⟩ = some (.int .u64 (lim xs i))) := by
  obtain ⟨a, cap, rfl, hn, hs⟩ := h
  refine ⟨a, cap, rfl, fun hne => ?_⟩
  cases a with
  | none => exact absurd (hn rfl).1 hne
  | some ad =>
    obtain ⟨hsp, hb, hcap, hc⟩ := hs ad rfl
    obtain ⟨b, off, sp⟩ := ad
    cases hsp
    exact ⟨b, off, rfl, hb, hc⟩

theorem Sl.mk {w : World} {b off cap : Nat} {xs : List Nat} (hb : b < w.heap.size) (hcap : xs.length ≤ cap)
    (hc : ∀ i, i < xs.length → w.cell? ⟨b, off + i, none⟩ = some (.int .u64 (lim xs i))) : Sl w (.slice (some ⟨b, off, none⟩) xs.length cap) xs :=
  ⟨some ⟨b, off, none⟩, cap, rfl, (fun h => by cases h), (fun ad h => by cases h; exact ⟨rfl, hb, hcap, hc⟩)⟩

theorem Sl.nil (w : World) : Sl w (.slice none 0 0) [] := ⟨none, 0, rfl, (fun _ => ⟨rfl, rfl⟩), (fun ad h => by cases h)⟩

theorem Sl.below {w w' : World} {v : Value} {xs : List Nat} (h : Sl w v xs) (hb : Below w.heap.size w w') : Sl w' v xs := by
  obtain ⟨a, cap, rfl, hn, hs⟩ := h
  refine ⟨a, cap, rfl, hn, fun ad e => ?_⟩
  obtain ⟨h1, h2, h3, h4⟩ := hs ad e
  exact ⟨h1, Nat.lt_of_lt_of_le h2 hb.size, h3, fun i hi => (hb.cell (p := ⟨ad.block, ad.off + i, none⟩) h2).trans (h4 i hi)⟩

/-- A slice that lies in a block from B on, if it lies anywhere. -/
def From (B : Nat) : Value → Prop
  | .slice (some ad) _ _ => B ≤ ad.block
  | _ => True

/-- Leading zeros removed: the shortest prefix beyond which all limbs are 0. -/
def Trimmed (xs : List Nat) (k : Nat) : Prop := k ≤ xs.length ∧ (∀ j, k ≤ j → j < xs.length → lim xs j = 0) ∧ (0 < k → lim xs (k - 1) ≠ 0)

theorem lv_zeros (xs : List Nat) (h : ∀ j, j < xs.length → lim xs j = 0) : lv xs = 0 := by
  induction xs with
  | nil => rfl
  | cons x xs ih =>
    have h0 := h 0 (by simp)
    have := ih (fun j hj => by have := h (j + 1) (by simp; omega); simpa [lim] using this)
    simp [lim] at h0
    simp [lv, h0, this]

theorem lim_take (xs : List Nat) (k i : Nat) (h : i < k) : lim (xs.take k) i = lim xs i := by
  simp [lim, h]

theorem lim_drop (xs : List Nat) (k i : Nat) : lim (xs.drop k) i = lim xs (k + i) := by
  simp [lim, List.getElem?_drop]

theorem lim_lt (xs : List Nat) (i : Nat) (h : i < xs.length) : lim xs i = xs[i] := by
  simp [lim, h]

theorem Trimmed.lv {xs : List Nat} {k : Nat} (h : Trimmed xs k) : lv (xs.take k) = lv xs := by
  obtain ⟨h1, h2, _⟩ := h
  have e : xs = xs.take k ++ xs.drop k := (List.take_append_drop k xs).symm
  have : Nt.lv (xs.drop k) = 0 := lv_zeros _ (fun j hj => by rw [lim_drop]; simp at hj; exact h2 _ (by omega) (by omega))
  conv => rhs; rw [e]
  rw [lv_append, this]; simp

theorem Trimmed.canon {xs : List Nat} {k : Nat} (h : Trimmed xs k) (hr : ∀ x ∈ xs, x < 1000000000) : Canon (xs.take k) := by
  obtain ⟨h1, h2, h3⟩ := h
  refine ⟨fun x hx => hr x (List.mem_of_mem_take hx), ?_⟩
  rw [List.getLast?_eq_getElem?]
  by_cases hk : k = 0
  · subst hk; simp
  · have hlen : (xs.take k).length = k := by simp; omega
    rw [hlen]
    have := h3 (by omega)
    rw [lim_lt _ _ (by omega)] at this
    rw [List.getElem?_take, if_pos (by omega), List.getElem?_eq_getElem (by omega)]
    intro e
    exact this (Option.some.inj e)

/-- A block of memory that holds limbs, all of it. -/
def Row (t : TypeId) (w : World) (g : Nat) (zs : List Nat) : Prop :=
  w.heap[g]? = some (.cells (zs.map fun x : Nat => Value.int .u64 (x : Int)).toArray t (0, 0))

theorem Row.lt {t : TypeId} {w : World} {g : Nat} {zs : List Nat} (h : Row t w g zs) : g < w.heap.size :=
  (Array.getElem?_eq_some_iff.1 h).1

theorem Row.cell {t : TypeId} {w : World} {g : Nat} {zs : List Nat} (h : Row t w g zs) {i : Nat} (hi : i < zs.length) :
    w.cell? ⟨g, i, none⟩ = some (.int .u64 (lim zs i)) := by
  unfold Row at h
  simp only [World.cell?, h]
  simp [lim, hi]

theorem Row.frozen {t : TypeId} {w : World} {g : Nat} {zs : List Nat} (h : Row t w g zs) (i : Nat) : w.frozen? ⟨g, i, none⟩ = false := by
  unfold Row at h
  simp [World.frozen?, h]

theorem Row.set {t : TypeId} {w : World} {g : Nat} {zs : List Nat} (h : Row t w g zs) (i : Nat) (y : Nat) :
    Row t (w.setCell ⟨g, i, none⟩ (.int .u64 (y : Int))) g (zs.set i y) := by
  unfold Row at h ⊢
  simp only [World.setCell, Array.getElem?_modify, h]
  simp [List.map_set]

theorem madeZero (n : Nat) : madeCells #[.int .u64 0] n = ((List.replicate n 0).map fun x : Nat => Value.int .u64 (x : Int)).toArray := by
  unfold madeCells
  apply Array.ext
  · simp
  · intro i h1 h2
    have e : i % 1 = 0 := Nat.mod_one i
    simp [e]

theorem Row.made0 (t : TypeId) (w : World) (n : Nat) : Row t (w.alloc (.cells (madeCells #[.int .u64 0] n) t)) w.heap.size (List.replicate n 0) := by
  unfold Row
  rw [heap_alloc_new, madeZero]

theorem Row.sl {t : TypeId} {w : World} {g : Nat} {zs : List Nat} (h : Row t w g zs) : Sl w (.slice (some ⟨g, 0, none⟩) zs.length zs.length) zs :=
  Sl.mk h.lt (Nat.le_refl _) (fun i hi => by rw [Nat.zero_add]; exact h.cell hi)

/-- The first limbs of a number, zeros beyond its last one. -/
def lo (xs : List Nat) (k : Nat) : Nat := lv (xs.take k)

theorem lim_ge (xs : List Nat) (i : Nat) (h : xs.length ≤ i) : lim xs i = 0 := by
  simp [lim, h]

theorem lo_succ (xs : List Nat) (k : Nat) : lo xs (k + 1) = lo xs k + 1000000000 ^ k * lim xs k := by
  unfold lo
  by_cases h : k < xs.length
  · rw [List.take_succ_eq_append_getElem h, lv_append]
    simp only [lv, List.length_take, Nat.min_eq_left (Nat.le_of_lt h), lim_lt _ _ h, Nat.mul_zero, Nat.add_zero]
  · rw [List.take_of_length_le (by omega), List.take_of_length_le (by omega), lim_ge _ _ (by omega)]
    simp

theorem lo_zero (xs : List Nat) : lo xs 0 = 0 := by simp [lo, lv]
theorem lo_all (xs : List Nat) (k : Nat) (h : xs.length ≤ k) : lo xs k = lv xs := by
  unfold lo; rw [List.take_of_length_le h]

theorem lo_set (xs : List Nat) (k y : Nat) : lo (xs.set k y) k = lo xs k := by
  unfold lo; rw [List.take_set_of_le (Nat.le_refl _)]

theorem lim_set (xs : List Nat) (k y : Nat) (h : k < xs.length) : lim (xs.set k y) k = y := by
  simp [lim, h]
theorem lim_set_ne (xs : List Nat) (k j y : Nat) (h : j ≠ k) : lim (xs.set k y) j = lim xs j := by
  simp [lim, Ne.symm h]

theorem lim_zeros (n j : Nat) : lim (List.replicate n 0) j = 0 := by
  by_cases h : j < n
  · simp [lim, h]
  · exact lim_ge _ _ (by simp; omega)

/-- Every limb is in range. -/
def InR (xs : List Nat) : Prop := ∀ x ∈ xs, x < 1000000000
theorem InR.lim {xs : List Nat} (h : InR xs) (i : Nat) : lim xs i < 1000000000 := by
  by_cases hi : i < xs.length
  · rw [lim_lt _ _ hi]; exact h _ (List.getElem_mem hi)
  · rw [lim_ge _ _ (by omega)]; omega
theorem InR.set {xs : List Nat} (h : InR xs) (k y : Nat) (hy : y < 1000000000) : InR (xs.set k y) := by
  intro x hx
  rcases List.mem_or_eq_of_mem_set hx with h' | rfl
  · exact h x h'
  · exact hy
theorem InR.zeros (n : Nat) : InR (List.replicate n 0) := by
  intro x hx; rw [List.eq_of_mem_replicate hx]; omega

theorem lv_lt {xs : List Nat} (h : InR xs) : lv xs < 1000000000 ^ xs.length := by
  induction xs with
  | nil => simp [lv]
  | cons x xs ih =>
    have h1 := h x (by simp)
    have h2 := ih (fun y hy => h y (by simp [hy]))
    simp only [lv, List.length_cons, Nat.pow_succ]
    generalize 1000000000 ^ xs.length = B at *
    omega

theorem lo_lt {xs : List Nat} (h : InR xs) (k : Nat) : lo xs k < 1000000000 ^ k := by
  have := lv_lt (xs := xs.take k) (fun x hx => h x (List.mem_of_mem_take hx))
  unfold lo
  have h2 : (xs.take k).length ≤ k := by simp; omega
  exact Nat.lt_of_lt_of_le this (Nat.pow_le_pow_right (by omega) h2)

theorem Canon.ge {xs : List Nat} (h : Canon xs) (h0 : xs ≠ []) : 1000000000 ^ (xs.length - 1) ≤ lv xs := by
  obtain ⟨ys, y, rfl⟩ : ∃ ys y, xs = ys ++ [y] := ⟨xs.dropLast, xs.getLast h0, (List.dropLast_concat_getLast h0).symm⟩
  have hy : y ≠ 0 := by have := h.2; simp at this; exact this
  rw [lv_append]
  simp only [List.length_append, List.length_cons, List.length_nil, lv]
  have : 1000000000 ^ ys.length * 1 ≤ 1000000000 ^ ys.length * (y + 1000000000 * 0) := Nat.mul_le_mul_left _ (by omega)
  simp at this ⊢
  omega

theorem Canon.len_le {xs : List Nat} (h : Canon xs) {k : Nat} (hk : lv xs < 1000000000 ^ k) : xs.length ≤ k := by
  by_cases h0 : xs = []
  · simp [h0]
  · have := h.ge h0
    have h1 : 1000000000 ^ (xs.length - 1) < 1000000000 ^ k := by omega
    have := (Nat.pow_lt_pow_iff_right (by omega : 1 < 1000000000)).1 h1
    omega

theorem Canon.len_mono {xs ys : List Nat} (h : Canon xs) (hy : Canon ys) (hle : lv xs ≤ lv ys) : xs.length ≤ ys.length :=
  h.len_le (Nat.lt_of_le_of_lt hle (lv_lt hy.1))

/-- A row of limbs of the call's own, which may grow. -/
def lvals (xs : List Nat) : List Value := xs.map fun x : Nat => Value.int .u64 (x : Int)
def Own (t : TypeId) (B : Nat) (w : World) (v : Value) (n : Nat) (xs : List Nat) : Prop := w.ownsRow B t 1 v n (lvals xs)

theorem lvals_snoc (xs : List Nat) (x : Nat) : lvals xs ++ [Value.int .u64 (x : Int)] = lvals (xs ++ [x]) := by simp [lvals]

theorem Own.len {t : TypeId} {B : Nat} {w : World} {v : Value} {n : Nat} {xs : List Nat} (h : Own t B w v n xs) : xs.length = n := by
  have := h.1
  simpa [lvals] using this

theorem Own.sl {t : TypeId} {B : Nat} {w : World} {v : Value} {n : Nat} {xs : List Nat} (h : Own t B w v n xs) : Sl w v xs := by
  have hl := h.len
  subst hl
  rcases h.2 with ⟨rfl, h0⟩ | ⟨g, cap, cur, rfl, hg, hh, hn, hcm, hcs, ht⟩
  · have : xs = [] := List.length_eq_zero_iff.1 h0
    subst this
    exact Sl.nil _
  · refine Sl.mk (Array.getElem?_eq_some_iff.1 hh).1 hn (fun i hi => ?_)
    have := World.ownsRow.cellAt h i (by omega)
    rw [Nat.zero_add, this]
    simp [lvals, lim, hi]

theorem Own.from {t : TypeId} {B : Nat} {w : World} {v : Value} {n : Nat} {xs : List Nat} (h : Own t B w v n xs) : From B v := by
  rcases h.2 with ⟨rfl, h0⟩ | ⟨g, cap, cur, rfl, hg, _⟩
  · trivial
  · exact hg

theorem Own.below {t : TypeId} {B : Nat} {w w' : World} {v : Value} {n : Nat} {xs : List Nat} (h : Own t B w v n xs) (hb : Below w.heap.size w w') : Own t B w' v n xs := by
  obtain ⟨h1, h2⟩ := h
  refine ⟨h1, ?_⟩
  rcases h2 with h2 | ⟨g, cap, cur, hv, hg, hh, r⟩
  · exact Or.inl h2
  · exact Or.inr ⟨g, cap, cur, hv, hg, by rw [hb.block g (Array.getElem?_eq_some_iff.1 hh).1]; exact hh, r⟩

theorem one_new (w : World) (v : Value) (t : TypeId) : ∀ j u, [v][j]? = some u → (w.alloc (.cells #[v] t)).cell? (Addr.add ⟨w.heap.size, 0, none⟩ j) = some u := by
  intro j u hj
  match j, hj with
  | 0, hj =>
    simp at hj
    subst hj
    simp [Addr.add]

theorem one_cell (k : IntKind) (x : Int) : ∀ u ∈ [Value.int k x], u.oneCell' = true := by
  intro u hu; simp at hu; subst hu; rfl

/-- Numbers of at most 200 limbs. -/
def Small (n : Nat) : Prop := n < 1000000000 ^ 200

theorem lv_set (zs : List Nat) (p y : Nat) (h : p < zs.length) : lv (zs.set p y) + 1000000000 ^ p * lim zs p = lv zs + 1000000000 ^ p * y := by
  induction zs generalizing p with
  | nil => simp at h
  | cons z zs ih =>
    cases p with
    | zero => simp [lv, lim]; omega
    | succ p =>
      have := ih p (by simpa using h)
      have e : lim (z :: zs) (p + 1) = lim zs p := by simp [lim]
      rw [e]
      simp only [List.set_cons_succ, lv, Nat.pow_succ]
      rw [Nat.mul_comm (1000000000 ^ p) 1000000000, Nat.mul_assoc, Nat.mul_assoc]
      omega

/-- The number of a slice. -/
def Num (w : World) (v : Value) (n : Nat) : Prop := ∃ xs, Canon xs ∧ lv xs = n ∧ Sl w v xs

theorem Num.below {w w' : World} {v : Value} {n : Nat} (h : Num w v n) (hb : Below w.heap.size w w') : Num w' v n := by
  obtain ⟨xs, h1, h2, h3⟩ := h
  exact ⟨xs, h1, h2, h3.below hb⟩


end Nt
end Go.Proofs.YtmekiidknjjfcaaGreatDoor

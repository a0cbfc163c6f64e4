/- Ways, components and ranks: plain laws. -/
import Derived.WalkKit
namespace Go.Proofs.YtmekiidknjjfcaaGreatDoor
namespace Ci

/-- A way of k links. -/
inductive Way (E : List (Nat × Nat)) : Nat → Nat → Nat → Prop
  | here (p : Nat) : Way E p p 0
  | step {p q r k : Nat} (h : Way E p q k) (e : (q, r) ∈ E) : Way E p r (k + 1)
def Reach (E : List (Nat × Nat)) (p q : Nat) : Prop := ∃ k, Way E p q k
def WayF (E : List (Nat × Nat)) (F : List Nat) (p k : Nat) : Prop := ∃ f, f ∈ F ∧ Way E f p k
/-- All links lie among n parties. -/
def InN (n : Nat) (E : List (Nat × Nat)) : Prop := ∀ x, x ∈ E → x.1 < n ∧ x.2 < n
section
variable {E : List (Nat × Nat)} {F : List Nat} {n p q r j k : Nat}
theorem Way.trans (h : Way E p q j) (h2 : Way E q r k) : Way E p r (j + k) := by
  induction h2 with
  | here => exact h
  | step _ e ih => exact ih.step e
theorem Way.one (e : (p, q) ∈ E) : Way E p q 1 := (Way.here p).step e
theorem Way.front (e : (p, q) ∈ E) (h : Way E q r k) : Way E p r (k + 1) := by
  have := (Way.one e).trans h
  rwa [Nat.add_comm] at this
theorem Way.zero (h : Way E p q 0) : p = q := by cases h; rfl
theorem Way.last (h : Way E p r (k + 1)) : ∃ q, Way E p q k ∧ (q, r) ∈ E := by
  cases h with
  | step h e => exact ⟨_, h, e⟩
theorem Way.first (h : Way E p r (k + 1)) : ∃ q, (p, q) ∈ E ∧ Way E q r k := by
  induction k generalizing r with
  | zero =>
    obtain ⟨q, h1, e⟩ := h.last
    obtain rfl := h1.zero
    exact ⟨r, e, .here r⟩
  | succ k ih =>
    obtain ⟨q, h1, e⟩ := h.last
    obtain ⟨x, e1, h2⟩ := ih h1
    exact ⟨x, e1, h2.step e⟩
theorem Way.lt (hE : InN n E) (h : Way E p q k) (hp : p < n) : q < n := by
  cases h with
  | here => exact hp
  | step _ e => exact (hE _ e).2
theorem Way.lt' (hE : InN n E) (h : Way E p q k) (hq : q < n) : p < n := by
  cases k with
  | zero => rw [h.zero]; exact hq
  | succ k =>
    obtain ⟨x, e, _⟩ := h.first
    exact (hE _ e).1
theorem Way.mono {E' : List (Nat × Nat)} (hs : ∀ x, x ∈ E → x ∈ E') (h : Way E p q k) : Way E' p q k := by
  induction h with
  | here => exact .here _
  | step _ e ih => exact ih.step (hs _ e)
theorem Reach.refl (p : Nat) : Reach E p p := ⟨0, .here p⟩
theorem Reach.trans (h : Reach E p q) (h2 : Reach E q r) : Reach E p r := by
  obtain ⟨j, a⟩ := h
  obtain ⟨k, b⟩ := h2
  exact ⟨_, a.trans b⟩
theorem Reach.one (e : (p, q) ∈ E) : Reach E p q := ⟨1, .one e⟩
theorem Reach.lt (hE : InN n E) (h : Reach E p q) (hp : p < n) : q < n := by obtain ⟨k, a⟩ := h; exact a.lt hE hp
theorem Reach.lt' (hE : InN n E) (h : Reach E p q) (hq : q < n) : p < n := by obtain ⟨k, a⟩ := h; exact a.lt' hE hq
/-- What holds at the start and goes on along links holds of all that is reached. -/
theorem Reach.closed {C : Nat → Prop} (h : Reach E p q) (h0 : C p) (hc : ∀ a b, C a → (a, b) ∈ E → C b) : C q := by
  obtain ⟨k, a⟩ := h
  induction a with
  | here => exact h0
  | step _ e ih => exact hc _ _ ih e
theorem wayF_zero : WayF E F p 0 ↔ p ∈ F := ⟨fun ⟨_, h, w⟩ => by rw [← w.zero]; exact h, fun h => ⟨p, h, .here p⟩⟩
theorem wayF_succ : WayF E F p (k + 1) ↔ ∃ q, WayF E F q k ∧ (q, p) ∈ E := by
  constructor
  · rintro ⟨f, h, w⟩
    obtain ⟨q, a, e⟩ := w.last
    exact ⟨q, ⟨f, h, a⟩, e⟩
  · rintro ⟨q, ⟨f, h, a⟩, e⟩
    exact ⟨f, h, a.step e⟩

/-- The least number of links of a way from the list; -1 if there is none. -/
def IsRk (E : List (Nat × Nat)) (F : List Nat) (p : Nat) (r : Int) : Prop :=
  (r = -1 ∧ ∀ k, ¬ WayF E F p k) ∨ ∃ k : Nat, r = (k : Int) ∧ WayF E F p k ∧ ∀ j, j < k → ¬ WayF E F p j
theorem least_ex {P : Nat → Prop} : ∀ k, P k → ∃ j, j ≤ k ∧ P j ∧ ∀ i, i < j → ¬ P i := by
  intro k
  induction k using Nat.strongRecOn with
  | ind k ih =>
    intro h
    by_cases h2 : ∃ i, i < k ∧ P i
    · obtain ⟨i, hi, hp⟩ := h2
      obtain ⟨j, h3, h4⟩ := ih i hi hp
      exact ⟨j, by omega, h4⟩
    · exact ⟨k, Nat.le_refl _, h, fun i hi hp => h2 ⟨i, hi, hp⟩⟩
theorem isRk_ex (E : List (Nat × Nat)) (F : List Nat) (p : Nat) : ∃ r, IsRk E F p r := by
  by_cases h : ∃ k, WayF E F p k
  · obtain ⟨k, hk⟩ := h
    obtain ⟨j, _, h1, h2⟩ := least_ex k hk
    exact ⟨j, .inr ⟨j, rfl, h1, h2⟩⟩
  · exact ⟨-1, .inl ⟨rfl, fun k hk => h ⟨k, hk⟩⟩⟩
theorem isRk_one {a b : Int} (h : IsRk E F p a) (h2 : IsRk E F p b) : a = b := by
  rcases h with ⟨rfl, h⟩ | ⟨k, rfl, h, hm⟩
  · rcases h2 with ⟨rfl, _⟩ | ⟨j, rfl, h3, _⟩
    · rfl
    · exact absurd h3 (h j)
  · rcases h2 with ⟨rfl, h3⟩ | ⟨j, rfl, h3, hm2⟩
    · exact absurd h (h3 k)
    · have h4 : ¬ k < j := fun c => hm2 k c h
      have h5 : ¬ j < k := fun c => hm j c h3
      omega
noncomputable def rk (E : List (Nat × Nat)) (F : List Nat) (p : Nat) : Int := Classical.choose (isRk_ex E F p)
theorem rk_is (E : List (Nat × Nat)) (F : List Nat) (p : Nat) : IsRk E F p (rk E F p) := Classical.choose_spec (isRk_ex E F p)
theorem rk_eq {a : Int} (h : IsRk E F p a) : rk E F p = a := isRk_one (rk_is E F p) h
theorem rk_ge : -1 ≤ rk E F p := by
  rcases rk_is E F p with ⟨h, _⟩ | ⟨k, h, _⟩ <;> omega
theorem rk_neg : rk E F p < 0 ↔ ∀ k, ¬ WayF E F p k := by
  rcases rk_is E F p with ⟨h, h2⟩ | ⟨k, h, h2, _⟩
  · exact ⟨fun _ => h2, fun _ => by omega⟩
  · exact ⟨fun h3 => by omega, fun h3 => absurd h2 (h3 k)⟩
theorem rk_le (h : WayF E F p k) : 0 ≤ rk E F p ∧ rk E F p ≤ k := by
  rcases rk_is E F p with ⟨_, h2⟩ | ⟨j, h1, _, h2⟩
  · exact absurd h (h2 k)
  · have : ¬ k < j := fun c => h2 k c h
    omega
theorem rk_way (h : rk E F p = k) : WayF E F p k := by
  rcases rk_is E F p with ⟨h1, _⟩ | ⟨j, h1, h2, _⟩
  · omega
  · obtain rfl : j = k := by omega
    exact h2
theorem rk_zero : rk E F p = 0 ↔ p ∈ F := by
  constructor
  · intro h
    exact wayF_zero.1 (rk_way (k := 0) (by omega))
  · intro h
    have := rk_le (wayF_zero.2 h : WayF E F p 0)
    omega
/-- Along a link a rank grows by at most one. -/
theorem rk_edge (h : 0 ≤ rk E F q) (e : (q, p) ∈ E) : 0 ≤ rk E F p ∧ rk E F p ≤ rk E F q + 1 := by
  obtain ⟨k, hk⟩ : ∃ k : Nat, rk E F q = k := ⟨(rk E F q).toNat, by omega⟩
  have := rk_le (wayF_succ.2 ⟨q, rk_way hk, e⟩ : WayF E F p (k + 1))
  omega
theorem rk_pred (h : rk E F p = ((k + 1 : Nat) : Int)) : ∃ q, rk E F q = (k : Int) ∧ (q, p) ∈ E := by
  obtain ⟨q, h1, e⟩ := wayF_succ.1 (rk_way h)
  have h2 := rk_le h1
  have h3 := rk_edge h2.1 e
  exact ⟨q, by omega, e⟩

theorem nodup_len : ∀ (n : Nat) (l : List Nat), l.Nodup → (∀ x, x ∈ l → x < n) → l.length ≤ n := by
  intro n
  induction n with
  | zero =>
    intro l _ h
    cases l with
    | nil => exact Nat.le_refl _
    | cons a l => exact absurd (h a (List.mem_cons_self ..)) (Nat.not_lt_zero _)
  | succ n ih =>
    intro l hd h
    have h1 := ih (l.erase n) (hd.erase n) fun x hx => by
      have h2 := (hd.mem_erase_iff).1 hx
      have := h x h2.2
      omega
    by_cases hm : n ∈ l
    · rw [List.length_erase_of_mem hm] at h1
      omega
    · rw [List.erase_of_not_mem hm] at h1
      omega
/-- Below each rank there are parties of all lesser ones. -/
theorem rk_chain : ∀ (k : Nat) (p : Nat), rk E F p = (k : Int) → ∃ l : List Nat, l.length = k + 1 ∧ l.Nodup ∧ (∀ x, x ∈ l → ∃ j : Nat, j ≤ k ∧ rk E F x = (j : Int)) ∧ ∀ x, x ∈ l → x = p ∨ ∃ y, (x, y) ∈ E := by
  intro k
  induction k with
  | zero => exact fun p h => ⟨[p], rfl, by simp, fun x hx => ⟨0, Nat.le_refl _, by rw [List.mem_singleton.1 hx]; exact h⟩, fun x hx => .inl (List.mem_singleton.1 hx)⟩
  | succ k ih =>
    intro p h
    obtain ⟨q, h1, e⟩ := rk_pred h
    obtain ⟨l, h2, h3, h4, h5⟩ := ih q h1
    refine ⟨p :: l, by simp [h2], List.nodup_cons.2 ⟨fun hm => ?_, h3⟩, fun x hx => ?_, fun x hx => ?_⟩
    · obtain ⟨j, hj, e2⟩ := h4 p hm
      omega
    · rcases List.mem_cons.1 hx with rfl | hx
      · exact ⟨k + 1, Nat.le_refl _, h⟩
      · obtain ⟨j, hj, e2⟩ := h4 x hx
        exact ⟨j, by omega, e2⟩
    · rcases List.mem_cons.1 hx with rfl | hx
      · exact .inl rfl
      · rcases h5 x hx with rfl | h6
        · exact .inr ⟨p, e⟩
        · exact .inr h6
theorem rk_lt (hE : InN n E) (hp : p < n) : rk E F p < n := by
  by_cases h : 0 ≤ rk E F p
  · obtain ⟨k, hk⟩ : ∃ k : Nat, rk E F p = k := ⟨(rk E F p).toNat, by omega⟩
    obtain ⟨l, h1, h2, _, h4⟩ := rk_chain k p hk
    have := nodup_len n l h2 fun x hx => by
      rcases h4 x hx with rfl | ⟨y, e⟩
      · exact hp
      · exact (hE _ e).1
    omega
  · omega
/-- All the ranks. -/
noncomputable def rkL (n : Nat) (E : List (Nat × Nat)) (F : List Nat) : List Int := (List.range n).map (rk E F)

/-- What is laid when all ranks below r are right: a party of a greater rank, or none, is at -1. -/
def upTo (r : Int) (x : Int) : Int := if x ≤ r then x else -1
end
end Ci
end Go.Proofs.YtmekiidknjjfcaaGreatDoor

namespace Go.Proofs.YtmekiidknjjfcaaGreatDoor
namespace Ci
open Classical

def Mut (E : List (Nat × Nat)) (p q : Nat) : Prop := Reach E p q ∧ Reach E q p
section
variable {E : List (Nat × Nat)} {n p q r : Nat} {left : List Nat}
theorem Mut.refl (p : Nat) : Mut E p p := ⟨.refl p, .refl p⟩
theorem Mut.symm (h : Mut E p q) : Mut E q p := ⟨h.2, h.1⟩
theorem Mut.trans (h : Mut E p q) (h2 : Mut E q r) : Mut E p r := ⟨h.1.trans h2.1, h2.2.trans h.2⟩
theorem fst_ex (E : List (Nat × Nat)) (p : Nat) : ∃ q, Mut E p q ∧ ∀ r, Mut E p r → q ≤ r := by
  obtain ⟨q, _, h1, h2⟩ := least_ex (P := Mut E p) p (.refl p)
  exact ⟨q, h1, fun r hr => Nat.le_of_not_lt fun c => h2 r c hr⟩
/-- The least party of a component. -/
noncomputable def fst (E : List (Nat × Nat)) (p : Nat) : Nat := Classical.choose (fst_ex E p)
theorem fst_mut : Mut E p (fst E p) := (Classical.choose_spec (fst_ex E p)).1
theorem fst_le (h : Mut E p q) : fst E p ≤ q := (Classical.choose_spec (fst_ex E p)).2 q h
theorem fst_eq (h : Mut E p q) : fst E p = fst E q := Nat.le_antisymm (fst_le (h.trans fst_mut)) (fst_le (h.symm.trans fst_mut))
theorem fst_iff : fst E p = fst E q ↔ Mut E p q := ⟨fun h => (h ▸ fst_mut (p := p)).trans fst_mut.symm, fst_eq⟩
theorem fst_fst : fst E (fst E p) = fst E p := (fst_eq fst_mut).symm
theorem fst_lt (h : p < n) : fst E p < n := Nat.lt_of_le_of_lt (fst_le (.refl p)) h
noncomputable def comp (n : Nat) (E : List (Nat × Nat)) (p : Nat) : List Nat := (List.range n).filter fun q => decide (Mut E p q)
theorem mem_comp : q ∈ comp n E p ↔ q < n ∧ Mut E p q := by simp [comp]
theorem comp_nodup : (comp n E p).Nodup := List.nodup_range.filter _
theorem comp_sorted : (comp n E p).Pairwise (· < ·) := List.pairwise_lt_range.filter _
noncomputable def leasts (n : Nat) (E : List (Nat × Nat)) : List Nat := (List.range n).filter fun p => decide (fst E p = p)
theorem mem_leasts : p ∈ leasts n E ↔ p < n ∧ fst E p = p := by simp [leasts]

/-- No link comes from another component that is left. -/
def Free (E : List (Nat × Nat)) (left : List Nat) (p : Nat) : Prop := ∀ h q, Mut E p q → (h, q) ∈ E → fst E h ∈ left → fst E h = p
noncomputable def pick (E : List (Nat × Nat)) (left : List Nat) : Option Nat := left.find? fun p => decide (Free E left p)
noncomputable def ord (E : List (Nat × Nat)) : Nat → List Nat → List Nat
  | 0, _ => []
  | k + 1, left => match pick E left with
    | none => []
    | some p => p :: ord E k (left.erase p)
/-- What is left is closed along links; each is the least of its component. -/
structure Left (n : Nat) (E : List (Nat × Nat)) (left : List Nat) : Prop where
  own : ∀ x, x ∈ left → x < n ∧ fst E x = x
  up : ∀ x y, x ∈ left → Reach E x y → fst E y ∈ left
  sorted : left.Pairwise (· < ·)
theorem Left.start (hE : InN n E) : Left n E (leasts n E) :=
  ⟨fun _ h => mem_leasts.1 h, fun _ _ h hr => mem_leasts.2 ⟨fst_lt (hr.lt hE (mem_leasts.1 h).1), fst_fst⟩, List.pairwise_lt_range.filter _⟩
theorem Left.nodup (h : Left n E left) : left.Nodup := h.sorted.imp fun hab => Nat.ne_of_lt hab
/-- A way into a component has a link that enters it. -/
theorem enter (h : Reach E p q) : ¬ Mut E p q → ∃ a b, Reach E p a ∧ (a, b) ∈ E ∧ Mut E q b ∧ ¬ Mut E q a := by
  obtain ⟨k, w⟩ := h
  intro hn
  have key : ∀ x, (∃ j, Way E x q j) → Reach E p x → ¬ Mut E q x → ∃ a b, Reach E p a ∧ (a, b) ∈ E ∧ Mut E q b ∧ ¬ Mut E q a := by
    rintro x ⟨j, hw⟩
    induction j generalizing x with
    | zero => exact fun _ h2 => absurd (by rw [hw.zero]; exact .refl q) h2
    | succ j ih =>
      intro hx h2
      obtain ⟨y, e, hw2⟩ := hw.first
      by_cases hy : Mut E q y
      · exact ⟨x, y, hx, e, hy, h2⟩
      · exact ih y hw2 (hx.trans (.one e)) hy
  exact key p ⟨k, w⟩ (.refl p) fun h => hn h.symm
theorem Left.erase (h : Left n E left) (hp : p ∈ left) (hf : Free E left p) : Left n E (left.erase p) := by
  have hd := h.nodup
  refine ⟨fun x hx => h.own x (List.mem_of_mem_erase hx), fun x y hx hr => ?_, h.sorted.sublist List.erase_sublist⟩
  obtain ⟨hxp, hxl⟩ := hd.mem_erase_iff.1 hx
  refine hd.mem_erase_iff.2 ⟨fun e => ?_, h.up x y hxl hr⟩
  have hyp : Mut E p y := fst_iff.1 (by rw [(h.own p hp).2, e])
  have hrp : Reach E x p := hr.trans hyp.2
  obtain ⟨a, b, h1, h2, h3, h4⟩ := enter hrp fun hm => hxp (by rw [← (h.own x hxl).2, fst_eq hm, (h.own p hp).2])
  have h5 := hf a b h3 h2 (h.up x a hxl h1)
  exact h4 (fst_iff.1 (by rw [(h.own p hp).2, h5]))
theorem filter_lt {f g : Nat → Bool} : ∀ {l : List Nat}, (∀ x, x ∈ l → f x = true → g x = true) → (∃ x, x ∈ l ∧ f x = false ∧ g x = true) → (l.filter f).length < (l.filter g).length := by
  intro l
  induction l with
  | nil => rintro _ ⟨x, h, _⟩; cases h
  | cons a l ih =>
    intro hs hx
    have hle : (l.filter f).length ≤ (l.filter g).length := by
      have : ∀ m : List Nat, (∀ x, x ∈ m → f x = true → g x = true) → (m.filter f).length ≤ (m.filter g).length := by
        intro m
        induction m with
        | nil => intro _; exact Nat.le_refl _
        | cons b m ihm =>
          intro hm
          have h1 := ihm fun x h => hm x (List.mem_cons_of_mem _ h)
          have h2 := hm b (List.mem_cons_self ..)
          cases hf : f b <;> cases hg : g b <;> simp [hf, hg] <;> simp_all <;> omega
      exact this l fun x h => hs x (List.mem_cons_of_mem _ h)
    by_cases ha : f a = false ∧ g a = true
    · simp [ha.1, ha.2]; omega
    · have hex : ∃ x, x ∈ l ∧ f x = false ∧ g x = true := by
        obtain ⟨x, h1, h2, h3⟩ := hx
        rcases List.mem_cons.1 h1 with rfl | h1
        · exact absurd ⟨h2, h3⟩ ha
        · exact ⟨x, h1, h2, h3⟩
      have h1 := ih (fun x h => hs x (List.mem_cons_of_mem _ h)) hex
      have h2 := hs a (List.mem_cons_self ..)
      cases hf : f a <;> cases hg : g a <;> simp [hf, hg] <;> simp_all
theorem least_of (f : Nat → Nat) : ∀ l : List Nat, l ≠ [] → ∃ x, x ∈ l ∧ ∀ y, y ∈ l → f x ≤ f y := by
  intro l
  induction l with
  | nil => intro h; exact absurd rfl h
  | cons a l ih =>
    intro _
    by_cases h : l = []
    · exact ⟨a, List.mem_cons_self .., fun y hy => by rw [h] at hy; rw [List.mem_singleton.1 hy]; exact Nat.le_refl _⟩
    · obtain ⟨x, h1, h2⟩ := ih h
      by_cases hc : f a ≤ f x
      · exact ⟨a, List.mem_cons_self .., fun y hy => by
          rcases List.mem_cons.1 hy with rfl | hy
          · exact Nat.le_refl _
          · exact Nat.le_trans hc (h2 y hy)⟩
      · exact ⟨x, List.mem_cons_of_mem _ h1, fun y hy => by
          rcases List.mem_cons.1 hy with rfl | hy
          · omega
          · exact h2 y hy⟩
/-- A component with the fewest parties ahead of it is free. -/
theorem Left.free (h : Left n E left) (hne : left ≠ []) : ∃ p, p ∈ left ∧ Free E left p := by
  obtain ⟨p, hp, hm⟩ := least_of (fun p => ((List.range n).filter fun q => decide (Reach E q p)).length) left hne
  refine ⟨p, hp, fun a b h1 h2 h3 => Classical.byContradiction fun hc => ?_⟩
  have h4 := hm _ h3
  have h5 : Reach E (fst E a) p := (fst_mut.2.trans (.one h2)).trans h1.2
  have h6 : ((List.range n).filter fun q => decide (Reach E q (fst E a))).length < ((List.range n).filter fun q => decide (Reach E q p)).length :=
    filter_lt (fun x _ hx => decide_eq_true ((of_decide_eq_true hx).trans h5)) ⟨p, List.mem_range.2 (h.own p hp).1, decide_eq_false fun hr => hc (by
      have := fst_eq (E := E) (p := fst E a) (q := p) ⟨h5, hr⟩
      rwa [fst_fst, (h.own p hp).2] at this), decide_eq_true (.refl p)⟩
  omega
theorem pick_ex (h : Left n E left) (hne : left ≠ []) : ∃ p, pick E left = some p := by
  obtain ⟨p, h1, h2⟩ := h.free hne
  cases hp : pick E left with
  | some q => exact ⟨q, rfl⟩
  | none =>
    unfold pick at hp
    rw [List.find?_eq_none] at hp
    exact absurd (decide_eq_true h2) (hp p h1)
theorem pick_says (h : Left n E left) (hp : pick E left = some p) : p ∈ left ∧ Free E left p ∧ ∀ q, q ∈ left → Free E left q → p ≤ q := by
  unfold pick at hp
  obtain ⟨h1, as, bs, h2, h3⟩ := List.find?_eq_some_iff_append.1 hp
  refine ⟨by rw [h2]; simp, of_decide_eq_true h1, fun q hq hf => ?_⟩
  have hs := h.sorted
  rw [h2] at hq hs
  rcases List.mem_append.1 hq with hq | hq
  · have := h3 q hq
    rw [decide_eq_true hf] at this
    cases this
  · rcases List.mem_cons.1 hq with rfl | hq
    · exact Nat.le_refl _
    · exact Nat.le_of_lt ((List.pairwise_cons.1 (List.pairwise_append.1 hs).2.1).1 q hq)
theorem pick_of (h : Left n E left) (h1 : p ∈ left) (h2 : Free E left p) (h3 : ∀ q, q ∈ left → Free E left q → p ≤ q) : pick E left = some p := by
  cases hp : pick E left with
  | none =>
    unfold pick at hp
    rw [List.find?_eq_none] at hp
    exact absurd (decide_eq_true h2) (hp p h1)
  | some q =>
    obtain ⟨a, b, c⟩ := pick_says h hp
    have := h3 q a b
    have := c p h1 h2
    rw [show q = p by omega]

/-! ### The order -/
theorem ord_mem : ∀ (k : Nat) (left : List Nat), Left n E left → left.length ≤ k → ∀ p, p ∈ ord E k left ↔ p ∈ left := by
  intro k
  induction k with
  | zero =>
    intro left _ hk p
    rw [List.length_eq_zero_iff.1 (Nat.le_zero.1 hk)]
    exact Iff.rfl
  | succ k ih =>
    intro left h hk p
    by_cases hne : left = []
    · subst hne
      simp [ord, pick]
    · obtain ⟨q, hq⟩ := pick_ex h hne
      obtain ⟨h1, h2, _⟩ := pick_says h hq
      have h3 := ih _ (h.erase h1 h2) (by rw [List.length_erase_of_mem h1]; omega) p
      unfold ord
      rw [hq]
      dsimp only
      rw [List.mem_cons, h3, h.nodup.mem_erase_iff]
      constructor
      · rintro (rfl | h4)
        · exact h1
        · exact h4.2
      · intro h4
        by_cases e : p = q
        · exact .inl e
        · exact .inr ⟨e, h4⟩
theorem ord_nodup : ∀ (k : Nat) (left : List Nat), Left n E left → left.length ≤ k → (ord E k left).Nodup ∧ (ord E k left).length = left.length := by
  intro k
  induction k with
  | zero =>
    intro left _ hk
    rw [List.length_eq_zero_iff.1 (Nat.le_zero.1 hk)]
    exact ⟨List.nodup_nil, rfl⟩
  | succ k ih =>
    intro left h hk
    by_cases hne : left = []
    · subst hne
      simp [ord, pick]
    · obtain ⟨q, hq⟩ := pick_ex h hne
      obtain ⟨h1, h2, _⟩ := pick_says h hq
      have hk2 : (left.erase q).length ≤ k := by rw [List.length_erase_of_mem h1]; omega
      have h3 := ih _ (h.erase h1 h2) hk2
      have h4 := ord_mem k _ (h.erase h1 h2) hk2 q
      have h5 := List.length_pos_of_mem h1
      unfold ord
      rw [hq]
      dsimp only
      refine ⟨List.nodup_cons.2 ⟨fun hm => ?_, h3.1⟩, ?_⟩
      · exact (h.nodup.mem_erase_iff.1 (h4.1 hm)).1 rfl
      · rw [List.length_cons, h3.2, List.length_erase_of_mem h1]
        omega
/-- Links lead to the same component or to a later one. -/
theorem ord_links : ∀ (k : Nat) (left : List Nat), Left n E left → left.length ≤ k → ∀ (i j : Nat) (hi : i < (ord E k left).length) (hj : j < (ord E k left).length) (a b : Nat),
    (a, b) ∈ E → fst E a = (ord E k left)[i] → fst E b = (ord E k left)[j] → i ≤ j := by
  intro k
  induction k with
  | zero => intro left _ _ i j hi; simp [ord] at hi
  | succ k ih =>
    intro left h hk i j hi hj a b e ha hb
    by_cases hne : left = []
    · subst hne
      simp [ord, pick] at hi
    · obtain ⟨q, hq⟩ := pick_ex h hne
      obtain ⟨h1, h2, _⟩ := pick_says h hq
      have hk2 : (left.erase q).length ≤ k := by rw [List.length_erase_of_mem h1]; omega
      have hu : ord E (k + 1) left = q :: ord E k (left.erase q) := by conv => lhs; unfold ord; rw [hq]
      simp only [hu] at hi hj ha hb
      cases i with
      | zero => exact Nat.zero_le _
      | succ i =>
        cases j with
        | zero =>
          simp only [List.getElem_cons_succ, List.getElem_cons_zero] at ha hb
          have hm := (ord_mem k _ (h.erase h1 h2) hk2 _).1 (List.getElem_mem (by simpa using hi : i < (ord E k (left.erase q)).length))
          rw [← ha] at hm
          obtain ⟨h3, h4⟩ := h.nodup.mem_erase_iff.1 hm
          exact absurd (h2 a b (fst_iff.1 (by rw [hb, (h.own q h1).2])) e h4) h3
        | succ j =>
          simp only [List.getElem_cons_succ] at ha hb
          have := ih _ (h.erase h1 h2) hk2 i j (by simpa using hi) (by simpa using hj) a b e ha hb
          omega
/-- One directly behind another: the first is less, or leads to it. -/
theorem ord_next : ∀ (k : Nat) (left : List Nat), Left n E left → left.length ≤ k → ∀ (i : Nat) (hi : i + 1 < (ord E k left).length),
    (∀ a b, (a, b) ∈ E → fst E a = (ord E k left)[i]'(by omega) → fst E b ≠ (ord E k left)[i + 1]) → (ord E k left)[i]'(by omega) < (ord E k left)[i + 1] := by
  intro k
  induction k with
  | zero => intro left _ _ i hi; simp [ord] at hi
  | succ k ih =>
    intro left h hk i hi hno
    by_cases hne : left = []
    · subst hne
      simp [ord, pick] at hi
    · obtain ⟨q, hq⟩ := pick_ex h hne
      obtain ⟨h1, h2, h3⟩ := pick_says h hq
      have hk2 : (left.erase q).length ≤ k := by rw [List.length_erase_of_mem h1]; omega
      have hu : ord E (k + 1) left = q :: ord E k (left.erase q) := by conv => lhs; unfold ord; rw [hq]
      simp only [hu] at hi hno ⊢
      cases i with
      | succ i =>
        simp only [List.getElem_cons_succ] at hno ⊢
        exact ih _ (h.erase h1 h2) hk2 i (by simpa using hi) hno
      | zero =>
        have h4 : left.erase q ≠ [] := fun e => by
          rw [e] at hi
          cases k <;> simp [ord, pick] at hi
        obtain ⟨b, hb⟩ := pick_ex (h.erase h1 h2) h4
        obtain ⟨h5, h6, _⟩ := pick_says (h.erase h1 h2) hb
        obtain ⟨h7, h8⟩ := h.nodup.mem_erase_iff.1 h5
        have hk3 : 0 < k := by have := List.length_pos_of_mem h5; omega
        obtain ⟨k, rfl⟩ : ∃ j, k = j + 1 := ⟨k - 1, by omega⟩
        have hu2 : ord E (k + 1) (left.erase q) = b :: ord E k ((left.erase q).erase b) := by conv => lhs; unfold ord; rw [hb]
        simp only [hu2, List.getElem_cons_succ, List.getElem_cons_zero] at hno ⊢
        have h9 : Free E left b := fun x y m e hl => by
          by_cases hx : fst E x = q
          · exact absurd ((fst_eq m).symm.trans (h.own b h8).2) (hno x y e hx)
          · exact h6 x y m e (h.nodup.mem_erase_iff.2 ⟨hx, hl⟩)
        have := h3 b h8 h9
        omega
end
/-- The components in their order. -/
noncomputable def ords (n : Nat) (E : List (Nat × Nat)) : List Nat := ord E n (leasts n E)
noncomputable def comps (n : Nat) (E : List (Nat × Nat)) : List (List Nat) := (ords n E).map (comp n E)
end Ci
end Go.Proofs.YtmekiidknjjfcaaGreatDoor

namespace Go.Proofs.YtmekiidknjjfcaaGreatDoor
namespace Ci

/-- One value of a table turned. -/
def setI (o : Nat → Int) (q : Nat) (v : Int) : Nat → Int := fun x => if x = q then v else o x
section
variable {E : List (Nat × Nat)} {F : List Nat} {n p q r i : Nat} {out : Nat → Int}
theorem setI_same (o : Nat → Int) (q : Nat) (v : Int) : setI o q v q = v := if_pos rfl
theorem setI_other {o : Nat → Int} {q x : Nat} {v : Int} (h : x ≠ q) : setI o q v x = o x := if_neg h
/-- Level by level: what holds ahead of link i in the round of rank r. -/
structure Lv (n : Nat) (E : List (Nat × Nat)) (F : List Nat) (r i : Nat) (out : Nat → Int) : Prop where
  low : ∀ x, x < n → rk E F x ≤ r → out x = rk E F x
  mid : ∀ x, x < n → rk E F x = (r : Int) + 1 → out x = (r : Int) + 1 ∨ (out x = -1 ∧ ∀ h, (h, x) ∈ E.take i → rk E F h ≠ r)
  high : ∀ x, x < n → (r : Int) + 1 < rk E F x → out x = -1
theorem Lv.start (h0 : ∀ x, x < n → out x = if x ∈ F then 0 else -1) : Lv n E F 0 0 out := by
  refine ⟨fun x hx h => ?_, fun x hx h => .inr ⟨?_, fun _ hm => by simp at hm⟩, fun x hx h => ?_⟩
  · rw [h0 x hx]
    split
    · rename_i hf
      exact (rk_zero.2 hf).symm
    · rename_i hf
      have h1 : rk E F x ≠ 0 := fun e => hf (rk_zero.1 e)
      have h2 := rk_ge (E := E) (F := F) (p := x)
      omega
  · rw [h0 x hx, if_neg fun hf => by have := rk_zero (E := E) |>.2 hf; omega]
  · rw [h0 x hx, if_neg fun hf => by have := rk_zero (E := E) |>.2 hf; omega]
theorem Lv.right (h : Lv n E F r i out) {x : Nat} (hx : x < n) (h0 : 0 ≤ out x) : out x = rk E F x := by
  by_cases h1 : rk E F x ≤ r
  · exact h.low x hx h1
  · by_cases h2 : rk E F x = (r : Int) + 1
    · rcases h.mid x hx h2 with h3 | h3
      · rw [h3, h2]
      · omega
    · have := h.high x hx (by omega)
      omega
theorem Lv.ge (h : Lv n E F r i out) {x : Nat} (hx : x < n) : -1 ≤ out x ∧ out x ≤ (r : Int) + 1 := by
  have h3 := rk_ge (E := E) (F := F) (p := x)
  by_cases h1 : rk E F x ≤ r
  · have := h.low x hx h1; omega
  · by_cases h2 : rk E F x = (r : Int) + 1
    · rcases h.mid x hx h2 with h3 | h3 <;> omega
    · have := h.high x hx (by omega); omega
theorem take_snoc {α : Type} {l : List α} {i : Nat} (h : i < l.length) : l.take (i + 1) = l.take i ++ [l[i]] := by
  rw [List.take_succ_eq_append_getElem h]
/-- A link that lays a rank. -/
theorem Lv.set (h : Lv n E F r i out) (hi : i < E.length) (hE : InN n E) (h1 : out E[i].1 = r) (h2 : out E[i].2 < 0) : Lv n E F r (i + 1) (setI out E[i].2 ((r : Int) + 1)) := by
  obtain ⟨a1, a2⟩ := hE _ (List.getElem_mem hi)
  have b1 : rk E F E[i].1 = r := by rw [← h.right a1 (by omega), h1]
  have b2 := rk_edge (E := E) (F := F) (q := E[i].1) (p := E[i].2) (by omega) (List.getElem_mem hi)
  have b3 : rk E F E[i].2 = (r : Int) + 1 := by
    by_cases c : rk E F E[i].2 ≤ r
    · have := h.low _ a2 c; omega
    · omega
  refine ⟨fun x hx hl => ?_, fun x hx hl => ?_, fun x hx hl => ?_⟩
  · rw [setI_other fun e => by rw [e] at hl; omega]
    exact h.low x hx hl
  · by_cases e : x = E[i].2
    · exact .inl (by rw [e, setI_same])
    · rw [setI_other e]
      rcases h.mid x hx hl with h3 | ⟨h3, h4⟩
      · exact .inl h3
      · refine .inr ⟨h3, fun y hy => ?_⟩
        rw [take_snoc hi] at hy
        rcases List.mem_append.1 hy with hy | hy
        · exact h4 y hy
        · exact absurd (by rw [← List.mem_singleton.1 hy]) e
  · rw [setI_other fun e => by rw [e] at hl; omega]
    exact h.high x hx hl
/-- A link that lays none. -/
theorem Lv.skip (h : Lv n E F r i out) (hi : i < E.length) (hE : InN n E) (h1 : ¬ (out E[i].1 = r ∧ out E[i].2 < 0)) : Lv n E F r (i + 1) out := by
  obtain ⟨a1, a2⟩ := hE _ (List.getElem_mem hi)
  refine ⟨h.low, fun x hx hl => ?_, h.high⟩
  rcases h.mid x hx hl with h3 | ⟨h3, h4⟩
  · exact .inl h3
  · refine .inr ⟨h3, fun y hy hr => ?_⟩
    rw [take_snoc hi] at hy
    rcases List.mem_append.1 hy with hy | hy
    · exact h4 y hy hr
    · have e := List.mem_singleton.1 hy
      have e1 : E[i].1 = y := by rw [← e]
      have e2 : E[i].2 = x := by rw [← e]
      refine h1 ⟨?_, by rw [e2, h3]; omega⟩
      rw [e1, h.low y (by rw [← e1]; exact a1) (by omega), hr]
theorem Lv.next (h : Lv n E F r E.length out) : Lv n E F (r + 1) 0 out := by
  have hm : ∀ x, x < n → rk E F x = (r : Int) + 1 → out x = (r : Int) + 1 := fun x hx hl => by
    rcases h.mid x hx hl with h3 | ⟨_, h4⟩
    · exact h3
    · obtain ⟨q, h5, h6⟩ := rk_pred (k := r) (p := x) (E := E) (F := F) (by omega)
      exact absurd h5 (h4 q (by rw [List.take_length]; exact h6))
  refine ⟨fun x hx hl => ?_, fun x hx hl => .inr ⟨h.high x hx (by omega), fun y hy => by simp at hy⟩, fun x hx hl => h.high x hx (by omega)⟩
  by_cases c : rk E F x ≤ r
  · exact h.low x hx c
  · rw [hm x hx (by omega)]; omega
theorem Lv.whole (h : Lv n E F r i out) (hr : n ≤ r) (hE : InN n E) {x : Nat} (hx : x < n) : out x = rk E F x := by
  have := rk_lt (F := F) hE hx
  exact h.low x hx (by omega)
/-- Where a rank is laid, or all rounds are over, it is right. -/
theorem Lv.at (h : Lv n E F r i out) (hE : InN n E) {x : Nat} (hx : x < n) (hr : n ≤ r ∨ 0 ≤ out x) : out x = rk E F x := by
  rcases hr with hr | hr
  · exact h.whole hr hE hx
  · exact h.right hx hr

/-! ### By a queue -/
structure Bf (n : Nat) (E : List (Nat × Nat)) (F : List Nat) (ex : Nat → Prop) (out : Nat → Int) (queue : List Nat) : Prop where
  way : ∀ x, x < n → 0 ≤ out x → WayF E F x (out x).toNat
  neg : ∀ x, x < n → -1 ≤ out x
  src : ∀ f, f ∈ F → out f = 0
  edge : ∀ x y, x < n → (x, y) ∈ E → 0 ≤ out x → x ∉ queue → ¬ ex x → 0 ≤ out y ∧ out y ≤ out x + 1
  pos : ∀ x, x ∈ queue → x < n ∧ 0 ≤ out x
  sorted : queue.Pairwise fun a b => out a ≤ out b ∧ out b ≤ out a + 1
  done : ∀ x, x < n → 0 ≤ out x → x ∉ queue → ∀ y, y ∈ queue → out x ≤ out y
  nodup : queue.Nodup
theorem Bf.start (hF : F.Nodup) (hn : ∀ f, f ∈ F → f < n) (h0 : ∀ x, x < n → out x = if x ∈ F then 0 else -1) : Bf n E F (fun _ => False) out F := by
  have hs : ∀ f, f ∈ F → out f = 0 := fun f hf => by rw [h0 f (hn f hf), if_pos hf]
  have hr : ∀ x, x < n → 0 ≤ out x → x ∈ F := fun x hx h => by
    rw [h0 x hx] at h
    split at h
    · assumption
    · omega
  refine ⟨fun x hx h => ?_, fun x hx => ?_, hs, fun x y hx _ h hq => absurd (hr x hx h) hq, fun x hx => ⟨hn x hx, by rw [hs x hx]; omega⟩, ?_, fun x hx h hq => absurd (hr x hx h) hq, hF⟩
  · rw [hs x (hr x hx h)]
    exact wayF_zero.2 (hr x hx h)
  · rw [h0 x hx]; split <;> omega
  · exact List.Pairwise.imp_of_mem (R := fun _ _ => True) (fun ha hb _ => by rw [hs _ ha, hs _ hb]; omega) (List.pairwise_of_forall fun _ _ => trivial)
theorem Bf.end (h : Bf n E F (fun _ => False) out []) (hn : ∀ f, f ∈ F → f < n) (hE : InN n E) {x : Nat} (hx : x < n) : out x = rk E F x := by
  have key : ∀ k y, WayF E F y k → y < n ∧ 0 ≤ out y ∧ out y ≤ k := by
    intro k
    induction k with
    | zero =>
      intro y hy
      have hm := wayF_zero.1 hy
      have := h.src y hm
      exact ⟨hn y hm, by omega, by omega⟩
    | succ k ih =>
      intro y hy
      obtain ⟨z, hz, e⟩ := wayF_succ.1 hy
      obtain ⟨a, b, c⟩ := ih z hz
      have := h.edge z y a e b (by simp) (fun h => h)
      exact ⟨(hE _ e).2, by omega, by omega⟩
  have h1 := h.neg x hx
  refine (rk_eq ?_).symm
  by_cases h0 : 0 ≤ out x
  · refine .inr ⟨(out x).toNat, by omega, h.way x hx h0, fun j hj hw => ?_⟩
    have := key j x hw
    omega
  · refine .inl ⟨by omega, fun k hk => ?_⟩
    have := key k x hk
    omega
/-- The first of the queue is taken out. -/
theorem Bf.pop {queue : List Nat} (h : Bf n E F (fun _ => False) out (p :: queue)) : Bf n E F (· = p) out queue ∧ p < n ∧ 0 ≤ out p ∧ (∀ y, y ∈ queue → out p ≤ out y ∧ out y ≤ out p + 1) ∧ ∀ x, x < n → out x ≤ out p + 1 := by
  have hp := h.pos p (List.mem_cons_self ..)
  have hs := List.pairwise_cons.1 h.sorted
  have hd := List.nodup_cons.1 h.nodup
  refine ⟨⟨h.way, h.neg, h.src, fun x y hx e h0 hq hx2 => h.edge x y hx e h0 (fun hm => (List.mem_cons.1 hm).elim hx2 hq) (fun h => h), fun x hx => h.pos x (List.mem_cons_of_mem _ hx), hs.2, fun x hx h0 hq y hy => ?_, hd.2⟩, hp.1, hp.2, fun y hy => hs.1 y hy, fun x hx => ?_⟩
  · by_cases e : x = p
    · rw [e]; exact (hs.1 y hy).1
    · exact h.done x hx h0 (fun hm => (List.mem_cons.1 hm).elim e hq) y (List.mem_cons_of_mem _ hy)
  · by_cases h0 : 0 ≤ out x
    · by_cases hm : x ∈ p :: queue
      · rcases List.mem_cons.1 hm with rfl | hm
        · omega
        · exact (hs.1 x hm).2
      · have := h.done x hx h0 hm p (List.mem_cons_self ..)
        omega
    · omega
/-- What holds while the links of p are looked through; ns are those that were. -/
structure Bq (n : Nat) (E : List (Nat × Nat)) (F : List Nat) (p : Nat) (v : Int) (ns : List Nat) (out : Nat → Int) (queue : List Nat) : Prop where
  inv : Bf n E F (· = p) out queue
  cur : out p = v
  here : p < n
  v0 : 0 ≤ v
  seen : ∀ y, y ∈ ns → 0 ≤ out y ∧ out y ≤ v + 1
  rest : ∀ y, y ∈ queue → v ≤ out y ∧ out y ≤ v + 1
  all : ∀ x, x < n → out x ≤ v + 1
  off : p ∉ queue
theorem Bq.start {queue : List Nat} (h : Bf n E F (fun _ => False) out (p :: queue)) : Bq n E F p (out p) [] out queue := by
  obtain ⟨a, b, c, d, e⟩ := h.pop
  exact ⟨a, rfl, b, c, fun y hy => by simp at hy, d, e, (List.nodup_cons.1 h.nodup).1⟩
theorem Bq.skip {v : Int} {ns queue : List Nat} (h : Bq n E F p v ns out queue) (hq : q < n) (h0 : 0 ≤ out q) : Bq n E F p v (ns ++ [q]) out queue :=
  ⟨h.inv, h.cur, h.here, h.v0, fun y hy => by
    rcases List.mem_append.1 hy with hy | hy
    · exact h.seen y hy
    · rw [List.mem_singleton.1 hy]; exact ⟨h0, h.all q hq⟩, h.rest, h.all, h.off⟩
theorem Bq.set {v : Int} {ns queue : List Nat} (h : Bq n E F p v ns out queue) (hq : q < n) (e : (p, q) ∈ E) (h0 : out q < 0) : Bq n E F p v (ns ++ [q]) (setI out q (v + 1)) (queue ++ [q]) := by
  have hpq : p ≠ q := fun c => by have := h.cur; have := h.v0; rw [c] at *; omega
  have hqq : q ∉ queue := fun c => by have := (h.inv.pos q c).2; omega
  have ho : ∀ x, 0 ≤ out x → setI out q (v + 1) x = out x := fun x hx => setI_other fun c => by rw [c] at hx; omega
  have hv := h.v0
  refine ⟨⟨fun x hx hx0 => ?_, fun x hx => ?_, fun f hf => ?_, fun x y hx e2 hx0 hxq hx2 => ?_, fun x hx => ?_, ?_, fun x hx hx0 hxq y hy => ?_, ?_⟩, ?_, h.here, h.v0, fun y hy => ?_, fun y hy => ?_, fun x hx => ?_, fun c => ?_⟩
  · by_cases c : x = q
    · rw [c, setI_same]
      have h1 := h.inv.way p h.here (by rw [h.cur]; exact hv)
      rw [h.cur] at h1
      have h2 := wayF_succ.2 ⟨p, h1, e⟩
      rwa [show v.toNat + 1 = (v + 1).toNat by omega] at h2
    · rw [setI_other c] at hx0 ⊢
      exact h.inv.way x hx hx0
  · by_cases c : x = q
    · rw [c, setI_same]; omega
    · rw [setI_other c]; exact h.inv.neg x hx
  · have := h.inv.src f hf
    rw [ho f (by omega)]; exact this
  · have c : x ≠ q := fun c => hxq (by rw [c]; simp)
    rw [setI_other c] at hx0 ⊢
    have h1 := h.inv.edge x y hx e2 hx0 (fun c2 => hxq (List.mem_append_left _ c2)) hx2
    rw [ho y h1.1]
    exact h1
  · rcases List.mem_append.1 hx with hx | hx
    · have := h.inv.pos x hx
      rw [ho x this.2]; exact this
    · rw [List.mem_singleton.1 hx, setI_same]; exact ⟨hq, by omega⟩
  · refine List.pairwise_append.2 ⟨?_, List.pairwise_singleton .., fun a ha b hb => ?_⟩
    · refine List.Pairwise.imp_of_mem (fun ha hb hab => ?_) h.inv.sorted
      rw [ho _ (h.inv.pos _ ha).2, ho _ (h.inv.pos _ hb).2]
      exact hab
    · rw [List.mem_singleton.1 hb, setI_same, ho a (h.inv.pos a ha).2]
      have := h.rest a ha
      omega
  · have c : x ≠ q := fun c => hxq (by rw [c]; simp)
    rw [setI_other c] at hx0 ⊢
    rcases List.mem_append.1 hy with hy | hy
    · rw [ho y (h.inv.pos y hy).2]
      exact h.inv.done x hx hx0 (fun c2 => hxq (List.mem_append_left _ c2)) y hy
    · rw [List.mem_singleton.1 hy, setI_same]
      exact h.all x hx
  · exact List.nodup_append.2 ⟨h.inv.nodup, by simp, fun a ha b hb c => hqq (by rw [← List.mem_singleton.1 hb, ← c]; exact ha)⟩
  · rw [setI_other hpq]; exact h.cur
  · rcases List.mem_append.1 hy with hy | hy
    · have := h.seen y hy
      rw [ho y this.1]; exact this
    · rw [List.mem_singleton.1 hy, setI_same]; omega
  · rcases List.mem_append.1 hy with hy | hy
    · have := h.rest y hy
      rw [ho y (h.inv.pos y hy).2]; exact this
    · rw [List.mem_singleton.1 hy, setI_same]; omega
  · by_cases c : x = q
    · rw [c, setI_same]; omega
    · rw [setI_other c]; exact h.all x hx
  · rcases List.mem_append.1 c with c | c
    · exact h.off c
    · exact hpq (List.mem_singleton.1 c)
theorem Bq.end {v : Int} {ns queue : List Nat} (h : Bq n E F p v ns out queue) (hall : ∀ q, (p, q) ∈ E → q ∈ ns) : Bf n E F (fun _ => False) out queue :=
  ⟨h.inv.way, h.inv.neg, h.inv.src, fun x y hx e hx0 hxq _ => by
    by_cases c : x = p
    · rw [c] at e ⊢
      rw [h.cur]
      exact h.seen y (hall y e)
    · exact h.inv.edge x y hx e hx0 hxq c, h.inv.pos, h.inv.sorted, h.inv.done, h.inv.nodup⟩
/-- How many parties have no rank yet. -/
def negs (n : Nat) (out : Nat → Int) : Nat := ((List.range n).filter fun x => decide (out x < 0)).length
theorem negs_set (hq : q < n) (h0 : out q < 0) {v : Int} (hv : 0 ≤ v) : negs n (setI out q v) + 1 ≤ negs n out := by
  refine filter_lt (fun x _ hx => ?_) ⟨q, List.mem_range.2 hq, ?_, decide_eq_true h0⟩
  · have h1 := of_decide_eq_true hx
    refine decide_eq_true ?_
    by_cases c : x = q
    · rw [c]; exact h0
    · rwa [setI_other c] at h1
  · rw [setI_same]; exact decide_eq_false (by omega)
end
end Ci
end Go.Proofs.YtmekiidknjjfcaaGreatDoor

namespace Go.Proofs.YtmekiidknjjfcaaGreatDoor
namespace Ci
section
variable {E : List (Nat × Nat)} {n p q r : Nat} {V V1 V2 : Nat → Prop}
/-- What a search from p makes of what was visited. -/
def Vis (E : List (Nat × Nat)) (p : Nat) (V V' : Nat → Prop) : Prop :=
  (∀ x, V x → V' x) ∧ V' p ∧ (∀ x, V' x → ¬ V x → Reach E p x) ∧ ∀ x y, V' x → ¬ V x → (x, y) ∈ E → V' y
def VisL (E : List (Nat × Nat)) (p : Nat) (ns : List Nat) (V V' : Nat → Prop) : Prop :=
  (∀ x, V x → V' x) ∧ V' p ∧ (∀ x, V' x → ¬ V x → Reach E p x) ∧ (∀ x y, V' x → ¬ V x → x ≠ p → (x, y) ∈ E → V' y) ∧ ∀ y, y ∈ ns → V' y
theorem Vis.had (h : V p) : Vis E p V V := ⟨fun _ h => h, h, fun _ a b => absurd a b, fun _ _ a b => absurd a b⟩
theorem VisL.start (E : List (Nat × Nat)) (p : Nat) (V : Nat → Prop) : VisL E p [] V fun x => V x ∨ x = p :=
  ⟨fun _ h => .inl h, .inr rfl, fun x a b => by rcases a with a | rfl
                                                · exact absurd a b
                                                · exact .refl _, fun x y a b c => by rcases a with a | a
                                                                                     · exact absurd a b
                                                                                     · exact absurd a c, fun y hy => by simp at hy⟩
theorem VisL.step {ns : List Nat} (h : VisL E p ns V V1) (e : (p, q) ∈ E) (h2 : Vis E q V1 V2) : VisL E p (ns ++ [q]) V V2 := by
  obtain ⟨a1, a2, a3, a4, a5⟩ := h
  obtain ⟨b1, b2, b3, b4⟩ := h2
  refine ⟨fun x hx => b1 x (a1 x hx), b1 p a2, fun x hx hv => ?_, fun x y hx hv hp he => ?_, fun y hy => ?_⟩
  · by_cases c : V1 x
    · exact a3 x c hv
    · exact (Reach.one e).trans (b3 x hx c)
  · by_cases c : V1 x
    · exact b1 y (a4 x y c hv hp he)
    · exact b4 x y hx c he
  · rcases List.mem_append.1 hy with hy | hy
    · exact b1 y (a5 y hy)
    · rw [List.mem_singleton.1 hy]; exact b2
theorem VisL.end {ns : List Nat} (h : VisL E p ns V V1) (hall : ∀ q, (p, q) ∈ E → q ∈ ns) : Vis E p V V1 := by
  obtain ⟨a1, a2, a3, a4, a5⟩ := h
  refine ⟨a1, a2, a3, fun x y hx hv he => ?_⟩
  by_cases c : x = p
  · rw [c] at he
    exact a5 y (hall y he)
  · exact a4 x y hx hv c he
theorem Vis.reach (h : Vis E p (fun _ => False) V1) (x : Nat) : V1 x ↔ Reach E p x := by
  obtain ⟨_, a2, a3, a4⟩ := h
  exact ⟨fun hx => a3 x hx fun h => h, fun hr => hr.closed a2 fun a b ha he => a4 a b ha (fun h => h) he⟩

/-! ### Stages of the order -/
open Classical
theorem ord_nil (k : Nat) : ord E k [] = [] := by cases k <;> simp [ord, pick]
theorem ord_fuel : ∀ (k j : Nat) (left : List Nat), Left n E left → left.length ≤ k → left.length ≤ j → ord E k left = ord E j left := by
  intro k
  induction k with
  | zero =>
    intro j left _ hk _
    rw [List.length_eq_zero_iff.1 (Nat.le_zero.1 hk), ord_nil, ord_nil]
  | succ k ih =>
    intro j left h hk hj
    by_cases hne : left = []
    · rw [hne, ord_nil, ord_nil]
    · obtain ⟨p, hp⟩ := pick_ex h hne
      obtain ⟨h1, h2, _⟩ := pick_says h hp
      have h3 := List.length_pos_of_mem h1
      obtain ⟨j, rfl⟩ : ∃ i, j = i + 1 := ⟨j - 1, by omega⟩
      have h4 := List.length_erase_of_mem h1
      conv => lhs; unfold ord; rw [hp]
      conv => rhs; unfold ord; rw [hp]
      dsimp only
      rw [ih j _ (h.erase h1 h2) (by omega) (by omega)]
/-- What was chosen, and what is left. -/
structure Stage (n : Nat) (E : List (Nat × Nat)) (pre left : List Nat) : Prop where
  ok : Left n E left
  all : ∀ x, x < n → (fst E x ∈ pre ↔ fst E x ∉ left)
  had : ∀ x, x ∈ pre → x < n ∧ fst E x = x ∧ x ∉ left
  eq : ords n E = pre ++ ord E left.length left
theorem leasts_len : (leasts n E).length ≤ n := by
  have := List.length_filter_le (fun p => decide (fst E p = p)) (List.range n)
  rw [List.length_range] at this
  exact this
theorem Stage.start (hE : InN n E) : Stage n E [] (leasts n E) :=
  ⟨Left.start hE, fun x hx => ⟨fun h => by simp at h, fun h => absurd (mem_leasts.2 ⟨fst_lt hx, fst_fst⟩) h⟩, fun x hx => by simp at hx, by
    rw [List.nil_append]; exact ord_fuel _ _ _ (Left.start hE) leasts_len (Nat.le_refl _)⟩
theorem Stage.step {pre left : List Nat} (h : Stage n E pre left) (hp : pick E left = some p) : Stage n E (pre ++ [p]) (left.erase p) := by
  obtain ⟨h1, h2, _⟩ := pick_says h.ok hp
  have hd := h.ok.nodup
  refine ⟨h.ok.erase h1 h2, fun x hx => ?_, fun x hx => ?_, ?_⟩
  · rw [hd.mem_erase_iff, List.mem_append, h.all x hx, List.mem_singleton]
    constructor
    · rintro (c | c)
      · exact fun c2 => c c2.2
      · exact fun c2 => c2.1 c
    · intro c
      by_cases c2 : fst E x = p
      · exact .inr c2
      · exact .inl fun c3 => c ⟨c2, c3⟩
  · rcases List.mem_append.1 hx with hx | hx
    · obtain ⟨a, b, c⟩ := h.had x hx
      exact ⟨a, b, fun d => c (List.mem_of_mem_erase d)⟩
    · rw [List.mem_singleton.1 hx]
      exact ⟨(h.ok.own p h1).1, (h.ok.own p h1).2, fun d => (hd.mem_erase_iff.1 d).1 rfl⟩
  · have h3 := List.length_pos_of_mem h1
    have h4 := List.length_erase_of_mem h1
    rw [h.eq, List.append_assoc]
    congr 1
    obtain ⟨k, hk⟩ : ∃ k, left.length = k + 1 := ⟨left.length - 1, by omega⟩
    rw [hk]
    conv => lhs; unfold ord; rw [hp]
    dsimp only
    rw [ord_fuel k _ _ (h.ok.erase h1 h2) (by omega) (Nat.le_refl _)]
    rfl
theorem Stage.end {pre : List Nat} (h : Stage n E pre []) : ords n E = pre := by
  have := h.eq
  rwa [ord_nil, List.append_nil] at this
/-- Free, as the search through a component's parties sees it. -/
theorem free_iff {left : List Nat} (hE : InN n E) : Free E left p ↔ ∀ q, q ∈ comp n E p → ∀ h, (h, q) ∈ E → fst E h ∈ left → fst E h = p := by
  constructor
  · exact fun h q hq x e hl => h x q (mem_comp.1 hq).2 e hl
  · exact fun h x q hm e hl => h q (mem_comp.2 ⟨(hE _ e).2, hm⟩) x e hl
/-- Free, as the reference sees it. -/
def RFree (n : Nat) (E : List (Nat × Nat)) (left : List Nat) (p : Nat) : Prop := fst E p ∈ left ∧ ∀ q, q < n → Reach E q p → ¬ Reach E p q → fst E q ∉ left
theorem rfree_iff {left : List Nat} (hE : InN n E) (h : Left n E left) : RFree n E left p ↔ fst E p ∈ left ∧ Free E left (fst E p) := by
  constructor
  · rintro ⟨h1, h2⟩
    refine ⟨h1, fun a b hm e hl => ?_⟩
    have h3 : Reach E a p := (Reach.one e).trans (fst_mut.trans hm).2
    by_cases c : Reach E p a
    · exact fst_eq ⟨h3, c⟩
    · exact absurd hl (h2 a (hE _ e).1 h3 c)
  · rintro ⟨h1, h2⟩
    refine ⟨h1, fun q hq hr hn hl => ?_⟩
    obtain ⟨a, b, h3, h4, h5, h6⟩ := enter hr fun hm => hn hm.2
    have h7 := h2 a b (fst_mut.symm.trans h5) h4 (by have := h.up _ a hl (fst_mut.2.trans h3); exact this)
    exact h6 (fst_iff.1 (by rw [h7]))
theorem rfree_own {left : List Nat} (hE : InN n E) (h : Left n E left) (hp : p ∈ left) : RFree n E left p ↔ Free E left p := by
  obtain ⟨_, h2⟩ := h.own p hp
  rw [rfree_iff hE h, h2]
  exact ⟨fun h => h.2, fun h => ⟨hp, h⟩⟩
/-- The least free party is the one that is picked. -/
theorem rfree_pick {left : List Nat} (hE : InN n E) (h : Left n E left) (h1 : RFree n E left p) (h2 : ∀ q, q < p → ¬ RFree n E left q) : pick E left = some p := by
  obtain ⟨h3, h4⟩ := (rfree_iff hE h).1 h1
  have h5 : fst E p = p := by
    have h6 := fst_le (E := E) (.refl p)
    by_cases c : fst E p = p
    · exact c
    · exact absurd ((rfree_own hE h h3).2 h4) (h2 _ (by omega))
  rw [h5] at h3 h4
  refine pick_of h h3 h4 fun q hq hf => ?_
  by_cases c : p ≤ q
  · exact c
  · exact absurd ((rfree_own hE h hq).2 hf) (h2 q (by omega))
theorem rfree_none {left : List Nat} (hE : InN n E) (h : Left n E left) (h2 : ∀ q, q < n → ¬ RFree n E left q) : left = [] := by
  apply Classical.byContradiction
  intro c
  obtain ⟨p, h3, h4⟩ := h.free c
  exact h2 p (h.own p h3).1 ((rfree_own hE h h3).2 h4)
end
end Ci
end Go.Proofs.YtmekiidknjjfcaaGreatDoor

namespace Go.Proofs.YtmekiidknjjfcaaGreatDoor
namespace Ci
section
variable {E : List (Nat × Nat)} {n p q : Nat}
theorem nodup_inj {l : List Nat} (h : l.Nodup) {i j : Nat} {hi : i < l.length} {hj : j < l.length} (e : l[i] = l[j]) : i = j := by
  have hp := List.pairwise_iff_getElem.1 h
  rcases Nat.lt_trichotomy i j with c | c | c
  · exact absurd e (hp i j hi hj c)
  · exact c
  · exact absurd e.symm (hp j i hj hi c)
theorem mem_ords (hE : InN n E) : p ∈ ords n E ↔ p < n ∧ fst E p = p := by
  unfold ords
  rw [ord_mem n _ (Left.start hE) leasts_len]
  exact mem_leasts
theorem ords_nodup (hE : InN n E) : (ords n E).Nodup := (ord_nodup n _ (Left.start hE) leasts_len).1
theorem ords_len (hE : InN n E) : (ords n E).length ≤ n := by
  have := (ord_nodup n _ (Left.start hE) leasts_len).2
  have h2 := leasts_len (n := n) (E := E)
  unfold ords
  omega
theorem comps_len : (comps n E).length = (ords n E).length := by simp [comps]
theorem comps_get {k : Nat} (hk : k < (comps n E).length) : (comps n E)[k] = comp n E ((ords n E)[k]'(by simpa [comps] using hk)) := by simp [comps]
/-- The place of a party's component. -/
noncomputable def at' (n : Nat) (E : List (Nat × Nat)) (p : Nat) : Nat := (ords n E).idxOf (fst E p)
theorem at_lt (hE : InN n E) (hp : p < n) : at' n E p < (ords n E).length := List.idxOf_lt_length_iff.2 ((mem_ords hE).2 ⟨fst_lt hp, fst_fst⟩)
theorem at_get (hE : InN n E) (hp : p < n) : (ords n E)[at' n E p]'(at_lt hE hp) = fst E p := List.getElem_idxOf (at_lt hE hp)
/-- A party lies in the component at its place, and in no other. -/
theorem at_iff (hE : InN n E) (hp : p < n) {k : Nat} (hk : k < (comps n E).length) : p ∈ (comps n E)[k] ↔ k = at' n E p := by
  have hk2 : k < (ords n E).length := by rwa [comps_len] at hk
  have ho := (mem_ords hE).1 (List.getElem_mem hk2)
  rw [comps_get, mem_comp]
  constructor
  · rintro ⟨_, hm⟩
    have h1 : (ords n E)[k] = (ords n E)[at' n E p]'(at_lt hE hp) := by
      rw [at_get hE hp, ← ho.2]
      exact fst_eq hm
    exact nodup_inj (ords_nodup hE) h1
  · intro e
    subst e
    refine ⟨hp, ?_⟩
    rw [at_get hE hp]
    exact fst_mut.symm
theorem comps_ne (hE : InN n E) {k : Nat} (hk : k < (comps n E).length) : ∃ l, (comps n E)[k] = (ords n E)[k]'(by simpa [comps] using hk) :: l := by
  have hk2 : k < (ords n E).length := by rwa [comps_len] at hk
  have ho := (mem_ords hE).1 (List.getElem_mem hk2)
  rw [comps_get]
  have hm : (ords n E)[k] ∈ comp n E (ords n E)[k] := mem_comp.2 ⟨ho.1, .refl _⟩
  have hs := comp_sorted (n := n) (E := E) (p := (ords n E)[k])
  cases hc : comp n E (ords n E)[k] with
  | nil => rw [hc] at hm; cases hm
  | cons a l =>
    rw [hc] at hm hs
    have ha : a ∈ comp n E (ords n E)[k] := by rw [hc]; exact List.mem_cons_self ..
    have h1 := fst_le (mem_comp.1 ha).2
    rw [ho.2] at h1
    rcases List.mem_cons.1 hm with h2 | h2
    · exact ⟨l, by rw [h2]⟩
    · have := (List.pairwise_cons.1 hs).1 _ h2
      omega
theorem at_edge (hE : InN n E) (e : (p, q) ∈ E) : at' n E p ≤ at' n E q := by
  obtain ⟨hp, hq⟩ := hE _ e
  exact ord_links n _ (Left.start hE) leasts_len _ _ (at_lt hE hp) (at_lt hE hq) p q e (at_get hE hp).symm (at_get hE hq).symm
/-- Of two components, one directly behind the other, the first has the least party, or leads to the second. -/
theorem at_next (hE : InN n E) {k : Nat} (hk : k + 1 < (ords n E).length) (h : ∀ a b, (a, b) ∈ E → ¬ (at' n E a = k ∧ at' n E b = k + 1)) : (ords n E)[k] < (ords n E)[k + 1] := by
  refine ord_next n _ (Left.start hE) leasts_len k hk fun a b e ha hb => h a b e ?_
  obtain ⟨h1, h2⟩ := hE _ e
  have ha' : fst E a = (ords n E)[k] := ha
  have hb' : fst E b = (ords n E)[k + 1] := hb
  rw [← at_get hE h1] at ha'
  rw [← at_get hE h2] at hb'
  exact ⟨nodup_inj (ords_nodup hE) ha', nodup_inj (ords_nodup hE) hb'⟩
theorem at_same (hE : InN n E) (hp : p < n) (hq : q < n) : at' n E p = at' n E q ↔ Reach E p q ∧ Reach E q p := by
  constructor
  · intro h
    refine fst_iff.1 ?_
    rw [← at_get hE hp, ← at_get hE hq]
    simp only [h]
  · intro h
    unfold at'
    rw [fst_eq h]
theorem rk_one : 0 ≤ rk E [p] q ↔ Reach E p q := by
  have hw : ∀ k, WayF E [p] q k ↔ Way E p q k := fun k => ⟨fun ⟨f, hf, h⟩ => by rw [List.mem_singleton.1 hf] at h; exact h, fun h => ⟨p, List.mem_singleton.2 rfl, h⟩⟩
  constructor
  · intro h
    apply Classical.byContradiction
    intro c
    have := rk_neg.2 fun k hk => c ⟨k, (hw k).1 hk⟩
    omega
  · rintro ⟨k, h⟩
    exact (rk_le ((hw k).2 h)).1

/-! ### Ranks of more parties -/
variable {F F' : List Nat}
theorem rk_mono (hs : ∀ f, f ∈ F → f ∈ F') (h : 0 ≤ rk E F q) : 0 ≤ rk E F' q ∧ rk E F' q ≤ rk E F q := by
  obtain ⟨k, hk⟩ : ∃ k : Nat, rk E F q = k := ⟨(rk E F q).toNat, by omega⟩
  obtain ⟨f, hf, hw⟩ := rk_way hk
  have := rk_le (⟨f, hs f hf, hw⟩ : WayF E F' q k)
  omega
theorem rk_more (hs : ∀ f, f ∈ F' ↔ f ∈ F ∨ f = p) (h : rk E F q < 0) : 0 ≤ rk E F' q ↔ Reach E p q := by
  constructor
  · intro h0
    obtain ⟨k, hk⟩ : ∃ k : Nat, rk E F' q = k := ⟨(rk E F' q).toNat, by omega⟩
    obtain ⟨f, hf, hw⟩ := rk_way hk
    rcases (hs f).1 hf with hf | rfl
    · exact absurd ⟨f, hf, hw⟩ (rk_neg.1 h k)
    · exact ⟨k, hw⟩
  · rintro ⟨k, hw⟩
    exact (rk_le (⟨p, (hs p).2 (.inr rfl), hw⟩ : WayF E F' q k)).1
/-- The rank is the least distance from the list. -/
theorem rk_least (h : 0 ≤ rk E F q) : ∃ f, f ∈ F ∧ rk E [f] q = rk E F q := by
  obtain ⟨k, hk⟩ : ∃ k : Nat, rk E F q = k := ⟨(rk E F q).toNat, by omega⟩
  obtain ⟨f, hf, hw⟩ := rk_way hk
  have h1 := rk_le (⟨f, List.mem_singleton.2 rfl, hw⟩ : WayF E [f] q k)
  have h2 := rk_mono (F := [f]) (F' := F) (E := E) (q := q) (fun x hx => by rw [List.mem_singleton.1 hx]; exact hf) h1.1
  exact ⟨f, hf, by omega⟩
/-- What lies at the list's parties, grows by one at most along links, and comes from somewhere, is the rank. -/
theorem rk_of_local {out : Nat → Int} (hF : ∀ f, f ∈ F → f < n ∧ out f = 0) (hE : InN n E) (he : ∀ e, e ∈ E → 0 ≤ out e.1 → 0 ≤ out e.2 ∧ out e.2 ≤ out e.1 + 1)
    (hd : ∀ x, x < n → out x = -1 ∨ (out x = 0 ∧ x ∈ F) ∨ ∃ e, e ∈ E ∧ e.2 = x ∧ 0 ≤ out e.1 ∧ out x = out e.1 + 1) {x : Nat} (hx : x < n) : rk E F x = out x := by
  have up : ∀ k y, WayF E F y k → 0 ≤ out y ∧ out y ≤ k := by
    intro k
    induction k with
    | zero => intro y hy; have := (hF y (wayF_zero.1 hy)).2; omega
    | succ k ih =>
      intro y hy
      obtain ⟨z, hz, e⟩ := wayF_succ.1 hy
      have h1 := ih z hz
      have h2 := he _ e h1.1
      simp only [] at h2
      omega
  have dn : ∀ (k : Nat) y, y < n → out y = k → WayF E F y k := by
    intro k
    induction k with
    | zero =>
      intro y hy h0
      rcases hd y hy with h1 | ⟨_, h1⟩ | ⟨e, _, _, h2, h3⟩
      · omega
      · exact wayF_zero.2 h1
      · omega
    | succ k ih =>
      intro y hy h0
      rcases hd y hy with h1 | ⟨h1, _⟩ | ⟨e, h1, h4, h2, h3⟩
      · omega
      · omega
      · exact wayF_succ.2 ⟨e.1, ih _ (hE _ h1).1 (by omega), by rw [← h4]; exact h1⟩
  refine rk_eq ?_
  rcases hd x hx with h1 | h1
  · exact .inl ⟨h1, fun k hk => by have := up k x hk; omega⟩
  · have h0 : 0 ≤ out x := by
      rcases h1 with ⟨h2, _⟩ | ⟨e, _, _, h2, h3⟩ <;> omega
    exact .inr ⟨(out x).toNat, by omega, dn _ x hx (by omega), fun j hj hw => by have := up j x hw; omega⟩
/-! ### Small examples -/
theorem reach_mono {g : Nat → Nat} (hg : ∀ e, e ∈ E → g e.1 ≤ g e.2) (h : Reach E p q) : g p ≤ g q := h.closed (C := fun x => g p ≤ g x) (Nat.le_refl _) fun a b h1 h2 => Nat.le_trans h1 (hg (a, b) h2)
/-- The least parties of components, where levels tell the components apart. -/
theorem fst_of {f g : Nat → Nat} (hE : InN n E) (hm : ∀ x, x < n → Mut E x (f x)) (hg : ∀ e, e ∈ E → g e.1 ≤ g e.2) (hl : ∀ x, x < n → ∀ y, y < n → g x = g y → f x ≤ y) {x : Nat} (hx : x < n) : fst E x = f x := by
  have h1 := fst_le (hm x hx)
  have h2 := fst_mut (E := E) (p := x)
  have h3 := hl x hx (fst E x) (h2.1.lt hE hx) (Nat.le_antisymm (reach_mono hg h2.1) (reach_mono hg h2.2))
  omega
def freeC (f : Nat → Nat) (E : List (Nat × Nat)) (left : List Nat) (p : Nat) : Bool := E.all fun e => !(f e.2 == p) || (!(left.contains (f e.1)) || f e.1 == p)
def ordC (f : Nat → Nat) (E : List (Nat × Nat)) : Nat → List Nat → List Nat
  | 0, _ => []
  | k + 1, left => match left.find? (freeC f E left) with
    | none => []
    | some p => p :: ordC f E k (left.erase p)
open Classical in
theorem ord_of {f : Nat → Nat} (hE : InN n E) (hf : ∀ x, x < n → fst E x = f x) : ∀ (k : Nat) (left : List Nat), (∀ x, x ∈ left → x < n ∧ fst E x = x) → ord E k left = ordC f E k left := by
  intro k
  induction k with
  | zero => intro left _; rfl
  | succ k ih =>
    intro left h
    have hp : pick E left = left.find? (freeC f E left) := by
      unfold pick
      have key : ∀ m : List Nat, (∀ x, x ∈ m → x ∈ left) → (m.find? fun p => @decide (Free E left p) (Classical.propDecidable _)) = m.find? (freeC f E left) := by
        intro m
        induction m with
        | nil => intro _; rfl
        | cons a m ihm =>
          intro hm
          obtain ⟨ha, hfa⟩ := h a (hm a (List.mem_cons_self ..))
          have hiff : Free E left a ↔ freeC f E left a = true := by
            unfold freeC
            rw [List.all_eq_true]
            constructor
            · intro hF e he
              obtain ⟨e1, e2⟩ := hE _ he
              by_cases c : f e.2 = a
              · by_cases c2 : f e.1 ∈ left
                · have := hF e.1 e.2 (fst_iff.1 (by rw [hf _ e2, c, hfa])) he (by rw [hf _ e1]; exact c2)
                  rw [hf _ e1] at this
                  simp [this]
                · simp [c2]
              · simp [c]
            · intro hF x q hmq he hl
              obtain ⟨e1, e2⟩ := hE _ he
              have h1 := hF _ he
              have h2 : f q = a := by rw [← hf _ e2, ← fst_eq hmq, hfa]
              rw [hf _ e1] at hl ⊢
              simpa [h2, hl] using h1
          have hb : @decide (Free E left a) (Classical.propDecidable _) = freeC f E left a := by
            cases hc : freeC f E left a
            · exact decide_eq_false fun c => by rw [hiff.1 c] at hc; cases hc
            · exact decide_eq_true (hiff.2 hc)
          rw [List.find?_cons, List.find?_cons, hb, ihm fun x hx => hm x (List.mem_cons_of_mem _ hx)]
      exact key left fun _ h => h
    unfold ord ordC
    rw [hp]
    cases left.find? (freeC f E left) with
    | none => rfl
    | some p =>
      dsimp only
      rw [ih _ fun x hx => h x (List.mem_of_mem_erase hx)]
def compsC (n : Nat) (f : Nat → Nat) (E : List (Nat × Nat)) : List (List Nat) := (ordC f E n ((List.range n).filter fun p => f p == p)).map fun p => (List.range n).filter fun q => f q == f p
open Classical in
theorem comps_of {f : Nat → Nat} (hE : InN n E) (hf : ∀ x, x < n → fst E x = f x) : comps n E = compsC n f E := by
  unfold comps ords compsC
  have h1 : leasts n E = (List.range n).filter fun p => f p == p := by
    unfold leasts
    refine List.filter_congr fun x hx => ?_
    rw [hf x (List.mem_range.1 hx)]
    cases hc : f x == x
    · exact decide_eq_false fun c => by rw [c] at hc; simp at hc
    · exact decide_eq_true (by simpa using hc)
  have h2 : ord E n (leasts n E) = ordC f E n ((List.range n).filter fun p => f p == p) := by
    rw [ord_of hE hf n (leasts n E) fun x hx => mem_leasts.1 hx, h1]
  rw [← h2]
  refine List.map_congr_left fun p hp => ?_
  have hp2 := (mem_ords hE (p := p)).1 hp
  unfold comp
  refine List.filter_congr fun q hq => ?_
  have hq2 := List.mem_range.1 hq
  cases hc : f q == f p
  · exact decide_eq_false fun c => by
      have := fst_eq c
      rw [hf _ hp2.1, hf _ hq2] at this
      rw [this] at hc
      simp at hc
  · exact decide_eq_true (fst_iff.1 (by rw [hf _ hp2.1, hf _ hq2]; simpa using (beq_iff_eq.1 hc).symm))
end
end Ci
end Go.Proofs.YtmekiidknjjfcaaGreatDoor

namespace Go.Proofs.YtmekiidknjjfcaaGreatDoor
namespace Ci
/-- A way whose inner parties are less than k. -/
def Thru (E : List (Nat × Nat)) : Nat → Nat → Nat → Prop
  | 0, i, j => i = j ∨ (i, j) ∈ E
  | k + 1, i, j => Thru E k i j ∨ (Thru E k i k ∧ Thru E k k j)
section
variable {E : List (Nat × Nat)} {n i j k m : Nat}
theorem thru_refl : ∀ k, Thru E k i i
  | 0 => .inl rfl
  | k + 1 => .inl (thru_refl k)
theorem thru_in : Thru E (k + 1) i k ↔ Thru E k i k := ⟨fun h => h.elim id fun h => h.1, .inl⟩
theorem thru_out : Thru E (k + 1) k j ↔ Thru E k k j := ⟨fun h => h.elim id fun h => h.2, .inl⟩
theorem thru_trans : ∀ k m i j, m < k → Thru E k i m → Thru E k m j → Thru E k i j := by
  intro k
  induction k with
  | zero => intro m i j h; omega
  | succ k ih =>
    intro m i j hm h1 h2
    by_cases e : m = k
    · subst e
      exact .inr ⟨thru_in.1 h1, thru_out.1 h2⟩
    · have hmk : m < k := by omega
      rcases h1 with h1 | ⟨h1, h3⟩
      · rcases h2 with h2 | ⟨h2, h4⟩
        · exact .inl (ih m i j hmk h1 h2)
        · exact .inr ⟨ih m i k hmk h1 h2, h4⟩
      · rcases h2 with h2 | ⟨_, h4⟩
        · exact .inr ⟨h1, ih m k j hmk h3 h2⟩
        · exact .inr ⟨h1, h4⟩
theorem thru_reach : ∀ k i j, Thru E k i j → Reach E i j := by
  intro k
  induction k with
  | zero =>
    rintro i j (rfl | h)
    · exact .refl _
    · exact .one h
  | succ k ih =>
    rintro i j (h | ⟨h1, h2⟩)
    · exact ih i j h
    · exact (ih i k h1).trans (ih k j h2)
theorem thru_mono (h : Thru E 0 i j) : ∀ k, Thru E k i j
  | 0 => h
  | k + 1 => .inl (thru_mono h k)
theorem thru_all (hE : InN n E) : Thru E n i j ↔ Reach E i j := by
  constructor
  · exact thru_reach n i j
  · intro h
    refine h.closed (C := fun x => Thru E n i x) (thru_refl n) fun a b ha e => ?_
    exact thru_trans n a i b (hE _ e).1 ha (thru_mono (.inr e) n)
/-- The table of the reference, ahead of cell (i, j) in the round of party k. -/
def Tab (E : List (Nat × Nat)) (n k i j : Nat) (T : Nat → Nat → Prop) : Prop :=
  ∀ a b, a < n → b < n → (T a b ↔ if a < i ∨ (a = i ∧ b < j) then Thru E (k + 1) a b else Thru E k a b)
theorem Tab.row {T : Nat → Nat → Prop} (h : Tab E n k i j T) (hk : k < n) {a : Nat} (ha : a < n) : T a k ↔ Thru E k a k := by
  rw [h a k ha hk]
  split
  · exact thru_in
  · exact Iff.rfl
theorem Tab.col {T : Nat → Nat → Prop} (h : Tab E n k i j T) (hk : k < n) {b : Nat} (hb : b < n) : T k b ↔ Thru E k k b := by
  rw [h k b hk hb]
  split
  · exact thru_out
  · exact Iff.rfl
/-- A cell is set where both are. -/
theorem Tab.step {T T' : Nat → Nat → Prop} (h : Tab E n k i j T) (hk : k < n) (hi : i < n) (hj : j < n) (hT : ∀ a b, T' a b ↔ T a b ∨ (a = i ∧ b = j ∧ T i k ∧ T k j)) : Tab E n k i (j + 1) T' := by
  intro a b ha hb
  rw [hT]
  by_cases e : a = i ∧ b = j
  · obtain ⟨rfl, rfl⟩ := e
    rw [if_pos (by omega), h.row hk ha, h.col hk hb, h a b ha hb, if_neg (by omega)]
    exact ⟨fun c => c.elim .inl fun c => .inr c.2.2, fun c => c.elim .inl fun c => .inr ⟨rfl, rfl, c⟩⟩
  · rw [h a b ha hb]
    have e2 : ¬ (a = i ∧ b = j ∧ T i k ∧ T k j) := fun c => e ⟨c.1, c.2.1⟩
    by_cases c : a < i ∨ (a = i ∧ b < j)
    · rw [if_pos c, if_pos (by omega)]
      exact ⟨fun x => x.elim id fun y => absurd y e2, .inl⟩
    · rw [if_neg c, if_neg (by omega)]
      exact ⟨fun x => x.elim id fun y => absurd y e2, .inl⟩
theorem Tab.next {T : Nat → Nat → Prop} (h : Tab E n k i n T) : Tab E n k (i + 1) 0 T := by
  intro a b ha hb
  rw [h a b ha hb]
  by_cases c : a < i ∨ (a = i ∧ b < n)
  · rw [if_pos c, if_pos (by omega)]
  · rw [if_neg c, if_neg (by omega)]
theorem Tab.round {T : Nat → Nat → Prop} (h : Tab E n k n 0 T) : Tab E n (k + 1) 0 0 T := by
  intro a b ha hb
  rw [h a b ha hb, if_pos (.inl ha), if_neg (by omega)]
theorem Tab.end {T : Nat → Nat → Prop} (h : Tab E n n 0 0 T) (hE : InN n E) {a b : Nat} (ha : a < n) (hb : b < n) : T a b ↔ Reach E a b := by
  rw [h a b ha hb, if_neg (by omega)]
  exact thru_all hE
end
end Ci
end Go.Proofs.YtmekiidknjjfcaaGreatDoor

namespace Go.Proofs.YtmekiidknjjfcaaGreatDoor
namespace Ci
open Classical
section
variable {E : List (Nat × Nat)} {n p q x : Nat}
/-- Ways through the links turned round. -/
def revE (E : List (Nat × Nat)) : List (Nat × Nat) := E.map fun e => (e.2, e.1)
theorem mem_revE : (p, q) ∈ revE E ↔ (q, p) ∈ E := by
  unfold revE
  rw [List.mem_map]
  constructor
  · rintro ⟨⟨a, b⟩, h, e⟩
    simp only [Prod.mk.injEq] at e
    rw [← e.1, ← e.2]
    exact h
  · exact fun h => ⟨(q, p), h, rfl⟩
theorem revE_in (h : InN n E) : InN n (revE E) := fun x hx => by
  obtain ⟨a, b⟩ := x
  have := h _ (mem_revE.1 hx)
  exact ⟨this.2, this.1⟩
theorem reach_turn (h : Reach E p q) : Reach (revE E) q p :=
  h.closed (C := fun x => Reach (revE E) x p) (.refl p) fun _ _ ha e => (Reach.one (mem_revE.2 e)).trans ha
theorem reach_rev : Reach (revE E) p q ↔ Reach E q p := ⟨fun h => h.closed (C := fun x => Reach E x p) (.refl p) fun _ _ ha e => (Reach.one (mem_revE.1 e)).trans ha, reach_turn⟩

/-- What was placed ahead of party q in the round of party p. -/
def PL (E : List (Nat × Nat)) (p q x : Nat) : Prop := fst E x < p ∨ (Mut E p x ∧ x < q)
/-- The components gathered so far, by their least parties. -/
noncomputable def lsO (E : List (Nat × Nat)) (n p x : Nat) : List Nat := if x < p ∧ fst E x = x then comp n E x else []
noncomputable def part (E : List (Nat × Nat)) (p q : Nat) : List Nat := (List.range q).filter fun y => decide (Mut E p y)
noncomputable def lsQ (E : List (Nat × Nat)) (n p q x : Nat) : List Nat := if x = p then part E p q else lsO E n p x
noncomputable def cO (E : List (Nat × Nat)) (p : Nat) : Nat := ((List.range p).filter fun y => decide (fst E y = y)).length
noncomputable def cQ (E : List (Nat × Nat)) (p q : Nat) : Nat := if part E p q = [] then cO E p else cO E p + 1
theorem comp_ne (hp : p < n) : comp n E p ≠ [] := fun h => by
  have := mem_comp.2 ⟨hp, Mut.refl (E := E) p⟩
  rw [h] at this
  cases this
theorem part_zero : part E p 0 = [] := rfl
theorem part_succ : part E p (q + 1) = if Mut E p q then part E p q ++ [q] else part E p q := by
  unfold part
  rw [List.range_succ, List.filter_append, List.filter_cons]
  by_cases h : Mut E p q
  · rw [if_pos h, if_pos (decide_eq_true h)]; rfl
  · rw [if_neg h, if_neg (by rw [decide_eq_false h]; simp)]; simp
theorem part_all : part E p n = comp n E p := rfl
theorem lsQ_zero : lsQ E n p 0 x = lsO E n p x := by
  unfold lsQ
  by_cases e : x = p
  · rw [if_pos e, part_zero]
    unfold lsO
    rw [if_neg (by omega)]
  · rw [if_neg e]
theorem lsQ_skip (h : ¬ Mut E p q) : lsQ E n p (q + 1) x = lsQ E n p q x := by
  unfold lsQ
  rw [part_succ, if_neg h]
theorem lsQ_step (h : Mut E p q) : lsQ E n p (q + 1) x = if x = p then lsQ E n p q x ++ [q] else lsQ E n p q x := by
  unfold lsQ
  rw [part_succ, if_pos h]
  by_cases e : x = p
  · rw [if_pos e, if_pos e, if_pos e]
  · rw [if_neg e, if_neg e, if_neg e]
theorem cQ_zero : cQ E p 0 = cO E p := if_pos rfl
theorem cQ_skip (h : ¬ Mut E p q) : cQ E p (q + 1) = cQ E p q := by unfold cQ; rw [part_succ, if_neg h]
theorem cQ_step (h : Mut E p q) : cQ E p (q + 1) = if lsQ E n p q p = [] then cQ E p q + 1 else cQ E p q := by
  unfold cQ lsQ
  rw [part_succ, if_pos h, if_neg (by simp), if_pos rfl]
  by_cases e : part E p q = []
  · rw [if_pos e, if_pos e]
  · rw [if_neg e, if_neg e]
theorem PL_skip (h : ¬ Mut E p q) : PL E p (q + 1) x ↔ PL E p q x := by
  unfold PL
  constructor
  · rintro (a | ⟨a, b⟩)
    · exact .inl a
    · by_cases e : x = q
      · subst e; exact absurd a h
      · exact .inr ⟨a, by omega⟩
  · rintro (a | ⟨a, b⟩)
    · exact .inl a
    · exact .inr ⟨a, by omega⟩
theorem PL_step (h : Mut E p q) : PL E p (q + 1) x ↔ PL E p q x ∨ x = q := by
  unfold PL
  constructor
  · rintro (a | ⟨a, b⟩)
    · exact .inl (.inl a)
    · by_cases e : x = q
      · exact .inr e
      · exact .inl (.inr ⟨a, by omega⟩)
  · rintro ((a | ⟨a, b⟩) | e)
    · exact .inl a
    · exact .inr ⟨a, by omega⟩
    · subst e; exact .inr ⟨h, by omega⟩
theorem PL_zero : PL E p 0 x ↔ fst E x < p := ⟨fun h => h.elim id fun h => absurd h.2 (Nat.not_lt_zero _), .inl⟩
theorem PL_own : PL E p 0 p ↔ fst E p ≠ p := by
  have := fst_le (Mut.refl (E := E) p)
  rw [PL_zero]
  omega
/-- The round of a party that was placed before. -/
theorem PL_had (h : fst E p ≠ p) : PL E (p + 1) 0 x ↔ PL E p 0 x := by
  rw [PL_zero, PL_zero]
  constructor
  · intro h1
    by_cases e : fst E x = p
    · exact absurd (by rw [← e, fst_fst]) h
    · omega
  · omega
theorem PL_next (h : fst E p = p) (hx : x < n) : PL E (p + 1) 0 x ↔ PL E p n x := by
  rw [PL_zero]
  unfold PL
  constructor
  · intro h1
    by_cases e : fst E x = p
    · exact .inr ⟨fst_iff.1 (by rw [e, h]), hx⟩
    · exact .inl (by omega)
  · rintro (a | ⟨a, _⟩)
    · omega
    · have := fst_eq a
      omega
theorem lsO_had (h : fst E p ≠ p) : lsO E n (p + 1) x = lsO E n p x := by
  unfold lsO
  by_cases e : x < p ∧ fst E x = x
  · rw [if_pos e, if_pos ⟨by omega, e.2⟩]
  · rw [if_neg e, if_neg]
    rintro ⟨a, b⟩
    by_cases c : x = p
    · subst c; exact h b
    · exact e ⟨by omega, b⟩
theorem lsO_next (h : fst E p = p) : lsO E n (p + 1) x = lsQ E n p n x := by
  unfold lsO lsQ
  by_cases e : x = p
  · subst e
    rw [if_pos rfl, if_pos ⟨by omega, h⟩, part_all]
  · rw [if_neg e]
    unfold lsO
    by_cases c : x < p ∧ fst E x = x
    · rw [if_pos c, if_pos ⟨by omega, c.2⟩]
    · rw [if_neg c, if_neg fun d => c ⟨by omega, d.2⟩]
theorem cO_succ : cO E (p + 1) = if fst E p = p then cO E p + 1 else cO E p := by
  unfold cO
  rw [List.range_succ, List.filter_append, List.length_append, List.filter_cons]
  by_cases h : fst E p = p
  · rw [if_pos h, if_pos (decide_eq_true h)]; rfl
  · rw [if_neg h, if_neg (by rw [decide_eq_false h]; simp)]; simp
theorem cO_next (h : fst E p = p) (hp : p < n) : cQ E p n = cO E (p + 1) := by
  rw [cO_succ, if_pos h]
  unfold cQ
  rw [part_all, if_neg (comp_ne hp)]
theorem cO_all : cO E n = (leasts n E).length := rfl
theorem cO_le : cO E p ≤ p := by
  have := List.length_filter_le (fun y => decide (fst E y = y)) (List.range p)
  rw [List.length_range] at this
  exact this
theorem cQ_le : cQ E p q ≤ p + 1 := by
  unfold cQ
  have := cO_le (E := E) (p := p)
  split <;> omega
/-- What is left when all are gathered. -/
theorem lsO_all (hx : x < n) : lsO E n n x = if x ∈ leasts n E then comp n E x else [] := by
  unfold lsO
  by_cases h : fst E x = x
  · rw [if_pos ⟨hx, h⟩, if_pos (mem_leasts.2 ⟨hx, h⟩)]
  · rw [if_neg fun c => h c.2, if_neg fun c => h (mem_leasts.1 c).2]
theorem PL_all (hx : x < n) : PL E n 0 x := PL_zero.2 (fst_lt hx)
end
end Ci
end Go.Proofs.YtmekiidknjjfcaaGreatDoor

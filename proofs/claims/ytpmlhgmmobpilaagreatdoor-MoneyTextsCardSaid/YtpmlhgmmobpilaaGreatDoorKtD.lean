/- Texts that the proof needs: CirA, CirB, MonRateP. -/
import Derived.WalkKit
import Derived.Maps.OwnSet
import Derived.Maps.Views
import Derived.IntWalk
import Derived.Deep.RegionHeld3
import Derived.Laws.AppendOwn
import Derived.Deep.OwnRows
import Derived.Test.YtpmlhgmmobpilaaGreatDoorKtA
import Derived.Test.YtpmlhgmmobpilaaGreatDoorKtB
import Derived.Test.YtpmlhgmmobpilaaGreatDoorKtC
namespace Go.Proofs.YtpmlhgmmobpilaaGreatDoor
namespace Ci
/-- A way of k links. -/
inductive Way (E : List (Nat × Nat)) : Nat → Nat → Nat → Prop
  | here (p : Nat) : Way E p p 0
  | step {p q r k : Nat} (h : Way E p q k) (e : (q, r) ∈ E) : Way E p r (k + 1)
def Reach (E : List (Nat × Nat)) (p q : Nat) : Prop := ∃ k, Way E p q k
def WayF (E : List (Nat × Nat)) (F : List Nat) (p k : Nat) : Prop := ∃ f, f ∈ F ∧ Way E f p k
/-- All links lie among n parties. -/
def InN (n : Nat) (E : List (Nat × Nat)) : Prop := ∀ x, x ∈ E → x.1 < n ∧ x.2 < n
section
variable {E : List (Nat × Nat)} {F : List Nat} {n p q r j k : Nat}
theorem Way.trans (h : Way E p q j) (h2 : Way E q r k) : Way E p r (j + k) := by
  induction h2 with
  | here => exact h
  | step _ e ih => exact ih.step e
theorem Way.one (e : (p, q) ∈ E) : Way E p q 1 := (Way.here p).step e
theorem Way.zero (h : Way E p q 0) : p = q := by cases h; rfl
theorem Way.last (h : Way E p r (k + 1)) : ∃ q, Way E p q k ∧ (q, r) ∈ E := by
  cases h with
  | step h e => exact ⟨_, h, e⟩
theorem Way.first (h : Way E p r (k + 1)) : ∃ q, (p, q) ∈ E ∧ Way E q r k := by
  induction k generalizing r with
  | zero =>
    obtain ⟨q, h1, e⟩ := h.last
    obtain rfl := h1.zero
    exact ⟨r, e, .here r⟩
  | succ k ih =>
    obtain ⟨q, h1, e⟩ := h.last
    obtain ⟨x, e1, h2⟩ := ih h1
    exact ⟨x, e1, h2.step e⟩
theorem Way.lt (hE : InN n E) (h : Way E p q k) (hp : p < n) : q < n := by
  cases h with
  | here => exact hp
  | step _ e => exact (hE _ e).2
theorem Way.lt' (hE : InN n E) (h : Way E p q k) (hq : q < n) : p < n := by
  cases k with
  | zero => rw [h.zero]; exact hq
  | succ k =>
    obtain ⟨x, e, _⟩ := h.first
    exact (hE _ e).1
theorem Way.mono {E' : List (Nat × Nat)} (hs : ∀ x, x ∈ E → x ∈ E') (h : Way E p q k) : Way E' p q k := by
  induction h with
  | here => exact .here _
  | step _ e ih => exact ih.step (hs _ e)
theorem Reach.refl (p : Nat) : Reach E p p := ⟨0, .here p⟩
theorem Reach.trans (h : Reach E p q) (h2 : Reach E q r) : Reach E p r := by
  obtain ⟨j, a⟩ := h
  obtain ⟨k, b⟩ := h2
  exact ⟨_, a.trans b⟩
theorem Reach.one (e : (p, q) ∈ E) : Reach E p q := ⟨1, .one e⟩
theorem Reach.lt (hE : InN n E) (h : Reach E p q) (hp : p < n) : q < n := by obtain ⟨k, a⟩ := h; exact a.lt hE hp
theorem Reach.lt' (hE : InN n E) (h : Reach E p q) (hq : q < n) : p < n := by obtain ⟨k, a⟩ := h; exact a.lt' hE hq
/-- What holds at the start and goes on along links holds of all that is reached. -/
theorem Reach.closed {C : Nat → Prop} (h : Reach E p q) (h0 : C p) (hc : ∀ a b, C a → (a, b) ∈ E → C b) : C q := by
  obtain ⟨k, a⟩ := h
  induction a with
  | here => exact h0
  | step _ e ih => exact hc _ _ ih e
theorem wayF_zero : WayF E F p 0 ↔ p ∈ F := ⟨fun ⟨_, h, w⟩ => by rw [← w.zero]; exact h, fun h => ⟨p, h, .here p⟩⟩
theorem wayF_succ : WayF E F p (k + 1) ↔ ∃ q, WayF E F q k ∧ (q, p) ∈ E := by
  constructor
  · rintro ⟨f, h, w⟩
    obtain ⟨q, a, e⟩ := w.last
    exact ⟨q, ⟨f, h, a⟩, e⟩
  · rintro ⟨q, ⟨f, h, a⟩, e⟩
    exact ⟨f, h, a.step e⟩
/-- The least number of links of a way from the list; -1 if there is none. -/
def IsRk (E : List (Nat × Nat)) (F : List Nat) (p : Nat) (r : Int) : Prop :=
  (r = -1 ∧ ∀ k, ¬ WayF E F p k) ∨ ∃ k : Nat, r = (k : Int) ∧ WayF E F p k ∧ ∀ j, j < k → ¬ WayF E F p j
theorem least_ex {P : Nat → Prop} : ∀ k, P k → ∃ j, j ≤ k ∧ P j ∧ ∀ i, i < j → ¬ P i := by
  intro k
  induction k using Nat.strongRecOn with
  | ind k ih =>
    intro h
    by_cases h2 : ∃ i, i < k ∧ P i
    · obtain ⟨i, hi, hp⟩ := h2
      obtain ⟨j, h3, h4⟩ := ih i hi hp
      exact ⟨j, by omega, h4⟩
    · exact ⟨k, Nat.le_refl _, h, fun i hi hp => h2 ⟨i, hi, hp⟩⟩
theorem isRk_ex (E : List (Nat × Nat)) (F : List Nat) (p : Nat) : ∃ r, IsRk E F p r := by
  by_cases h : ∃ k, WayF E F p k
  · obtain ⟨k, hk⟩ := h
    obtain ⟨j, _, h1, h2⟩ := least_ex k hk
    exact ⟨j, .inr ⟨j, rfl, h1, h2⟩⟩
  · exact ⟨-1, .inl ⟨rfl, fun k hk => h ⟨k, hk⟩⟩⟩
theorem isRk_one {a b : Int} (h : IsRk E F p a) (h2 : IsRk E F p b) : a = b := by
  rcases h with ⟨rfl, h⟩ | ⟨k, rfl, h, hm⟩
  · rcases h2 with ⟨rfl, _⟩ | ⟨j, rfl, h3, _⟩
    · rfl
    · exact absurd h3 (h j)
  · rcases h2 with ⟨rfl, h3⟩ | ⟨j, rfl, h3, hm2⟩
    · exact absurd h (h3 k)
    · have h4 : ¬ k < j := fun c => hm2 k c h
      have h5 : ¬ j < k := fun c => hm j c h3
      omega
noncomputable def rk (E : List (Nat × Nat)) (F : List Nat) (p : Nat) : Int := Classical.choose (isRk_ex E F p)
theorem rk_is (E : List (Nat × Nat)) (F : List Nat) (p : Nat) : IsRk E F p (rk E F p) := Classical.choose_spec (isRk_ex E F p)
theorem rk_eq {a : Int} (h : IsRk E F p a) : rk E F p = a := isRk_one (rk_is E F p) h
theorem rk_ge : -1 ≤ rk E F p := by
  rcases rk_is E F p with ⟨h, _⟩ | ⟨k, h, _⟩ <;> omega
theorem rk_le (h : WayF E F p k) : 0 ≤ rk E F p ∧ rk E F p ≤ k := by
  rcases rk_is E F p with ⟨_, h2⟩ | ⟨j, h1, _, h2⟩
  · exact absurd h (h2 k)
  · have : ¬ k < j := fun c => h2 k c h
    omega
theorem rk_way (h : rk E F p = k) : WayF E F p k := by
  rcases rk_is E F p with ⟨h1, _⟩ | ⟨j, h1, h2, _⟩
  · omega
  · obtain rfl : j = k := by omega
    exact h2
theorem rk_zero : rk E F p = 0 ↔ p ∈ F := by
  constructor
  · intro h
    exact wayF_zero.1 (rk_way (k := 0) (by omega))
  · intro h
    have := rk_le (wayF_zero.2 h : WayF E F p 0)
    omega
/-- Along a link a rank grows by at most one. -/
theorem rk_edge (h : 0 ≤ rk E F q) (e : (q, p) ∈ E) : 0 ≤ rk E F p ∧ rk E F p ≤ rk E F q + 1 := by
  obtain ⟨k, hk⟩ : ∃ k : Nat, rk E F q = k := ⟨(rk E F q).toNat, by omega⟩
  have := rk_le (wayF_succ.2 ⟨q, rk_way hk, e⟩ : WayF E F p (k + 1))
  omega
theorem rk_pred (h : rk E F p = ((k + 1 : Nat) : Int)) : ∃ q, rk E F q = (k : Int) ∧ (q, p) ∈ E := by
  obtain ⟨q, h1, e⟩ := wayF_succ.1 (rk_way h)
  have h2 := rk_le h1
  have h3 := rk_edge h2.1 e
  exact ⟨q, by omega, e⟩
theorem nodup_len : ∀ (n : Nat) (l : List Nat), l.Nodup → (∀ x, x ∈ l → x < n) → l.length ≤ n := by
  intro n
  induction n with
  | zero =>
    intro l _ h
    cases l with
    | nil => exact Nat.le_refl _
    | cons a l => exact absurd (h a (List.mem_cons_self ..)) (Nat.not_lt_zero _)
  | succ n ih =>
    intro l hd h
    have h1 := ih (l.erase n) (hd.erase n) fun x hx => by
      have h2 := (hd.mem_erase_iff).1 hx
      have := h x h2.2
      omega
    by_cases hm : n ∈ l
    · rw [List.length_erase_of_mem hm] at h1
      omega
    · rw [List.erase_of_not_mem hm] at h1
      omega
/-- Below each rank there are parties of all lesser ones. -/
theorem rk_chain : ∀ (k : Nat) (p : Nat), rk E F p = (k : Int) → ∃ l : List Nat, l.length = k + 1 ∧ l.Nodup ∧ (∀ x, x ∈ l → ∃ j : Nat, j ≤ k ∧ rk E F x = (j : Int)) ∧ ∀ x, x ∈ l → x = p ∨ ∃ y, (x, y) ∈ E := by
  intro k
  induction k with
  | zero => exact fun p h => ⟨[p], rfl, by simp, fun x hx => ⟨0, Nat.le_refl _, by rw [List.mem_singleton.1 hx]; exact h⟩, fun x hx => .inl (List.mem_singleton.1 hx)⟩
  | succ k ih =>
    intro p h
    obtain ⟨q, h1, e⟩ := rk_pred h
    obtain ⟨l, h2, h3, h4, h5⟩ := ih q h1
    refine ⟨p :: l, by simp [h2], List.nodup_cons.2 ⟨fun hm => ?_, h3⟩, fun x hx => ?_, fun x hx => ?_⟩
    · obtain ⟨j, hj, e2⟩ := h4 p hm
      omega
    · rcases List.mem_cons.1 hx with rfl | hx
      · exact ⟨k + 1, Nat.le_refl _, h⟩
      · obtain ⟨j, hj, e2⟩ := h4 x hx
        exact ⟨j, by omega, e2⟩
    · rcases List.mem_cons.1 hx with rfl | hx
      · exact .inl rfl
      · rcases h5 x hx with rfl | h6
        · exact .inr ⟨p, e⟩
        · exact .inr h6
theorem rk_lt (hE : InN n E) (hp : p < n) : rk E F p < n := by
  by_cases h : 0 ≤ rk E F p
  · obtain ⟨k, hk⟩ : ∃ k : Nat, rk E F p = k := ⟨(rk E F p).toNat, by omega⟩
    obtain ⟨l, h1, h2, _, h4⟩ := rk_chain k p hk
    have := nodup_len n l h2 fun x hx => by
      rcases h4 x hx with rfl | ⟨y, e⟩
      · exact hp
      · exact (hE _ e).1
    omega
  · omega
end
end Ci
end Go.Proofs.YtpmlhgmmobpilaaGreatDoor
namespace Go.Proofs.YtpmlhgmmobpilaaGreatDoor
namespace Ci
open Classical
def Mut (E : List (Nat × Nat)) (p q : Nat) : Prop := Reach E p q ∧ Reach E q p
section
variable {E : List (Nat × Nat)} {n p q r : Nat} {left : List Nat}
theorem Mut.refl (p : Nat) : Mut E p p := ⟨.refl p, .refl p⟩
theorem Mut.symm (h : Mut E p q) : Mut E q p := ⟨h.2, h.1⟩
theorem Mut.trans (h : Mut E p q) (h2 : Mut E q r) : Mut E p r := ⟨h.1.trans h2.1, h2.2.trans h.2⟩
theorem fst_ex (E : List (Nat × Nat)) (p : Nat) : ∃ q, Mut E p q ∧ ∀ r, Mut E p r → q ≤ r := by
  obtain ⟨q, _, h1, h2⟩ := least_ex (P := Mut E p) p (.refl p)
  exact ⟨q, h1, fun r hr => Nat.le_of_not_lt fun c => h2 r c hr⟩
/-- The least party of a component. -/
noncomputable def fst (E : List (Nat × Nat)) (p : Nat) : Nat := Classical.choose (fst_ex E p)
theorem fst_mut : Mut E p (fst E p) := (Classical.choose_spec (fst_ex E p)).1
theorem fst_le (h : Mut E p q) : fst E p ≤ q := (Classical.choose_spec (fst_ex E p)).2 q h
theorem fst_eq (h : Mut E p q) : fst E p = fst E q := Nat.le_antisymm (fst_le (h.trans fst_mut)) (fst_le (h.symm.trans fst_mut))
theorem fst_iff : fst E p = fst E q ↔ Mut E p q := ⟨fun h => (h ▸ fst_mut (p := p)).trans fst_mut.symm, fst_eq⟩
theorem fst_fst : fst E (fst E p) = fst E p := (fst_eq fst_mut).symm
theorem fst_lt (h : p < n) : fst E p < n := Nat.lt_of_le_of_lt (fst_le (.refl p)) h
noncomputable def comp (n : Nat) (E : List (Nat × Nat)) (p : Nat) : List Nat := (List.range n).filter fun q => decide (Mut E p q)
theorem mem_comp : q ∈ comp n E p ↔ q < n ∧ Mut E p q := by simp [comp]
noncomputable def leasts (n : Nat) (E : List (Nat × Nat)) : List Nat := (List.range n).filter fun p => decide (fst E p = p)
theorem mem_leasts : p ∈ leasts n E ↔ p < n ∧ fst E p = p := by simp [leasts]
/-- No link comes from another component that is left. -/
def Free (E : List (Nat × Nat)) (left : List Nat) (p : Nat) : Prop := ∀ h q, Mut E p q → (h, q) ∈ E → fst E h ∈ left → fst E h = p
noncomputable def pick (E : List (Nat × Nat)) (left : List Nat) : Option Nat := left.find? fun p => decide (Free E left p)
noncomputable def ord (E : List (Nat × Nat)) : Nat → List Nat → List Nat
  | 0, _ => []
  | k + 1, left => match pick E left with
    | none => []
    | some p => p :: ord E k (left.erase p)
/-- What is left is closed along links; each is the least of its component. -/
structure Left (n : Nat) (E : List (Nat × Nat)) (left : List Nat) : Prop where
  own : ∀ x, x ∈ left → x < n ∧ fst E x = x
  up : ∀ x y, x ∈ left → Reach E x y → fst E y ∈ left
  sorted : left.Pairwise (· < ·)
theorem Left.start (hE : InN n E) : Left n E (leasts n E) :=
  ⟨fun _ h => mem_leasts.1 h, fun _ _ h hr => mem_leasts.2 ⟨fst_lt (hr.lt hE (mem_leasts.1 h).1), fst_fst⟩, List.pairwise_lt_range.filter _⟩
theorem Left.nodup (h : Left n E left) : left.Nodup := h.sorted.imp fun hab => Nat.ne_of_lt hab
/-- A way into a component has a link that enters it. -/
theorem enter (h : Reach E p q) : ¬ Mut E p q → ∃ a b, Reach E p a ∧ (a, b) ∈ E ∧ Mut E q b ∧ ¬ Mut E q a := by
  obtain ⟨k, w⟩ := h
  intro hn
  have key : ∀ x, (∃ j, Way E x q j) → Reach E p x → ¬ Mut E q x → ∃ a b, Reach E p a ∧ (a, b) ∈ E ∧ Mut E q b ∧ ¬ Mut E q a := by
    rintro x ⟨j, hw⟩
    induction j generalizing x with
    | zero => exact fun _ h2 => absurd (by rw [hw.zero]; exact .refl q) h2
    | succ j ih =>
      intro hx h2
      obtain ⟨y, e, hw2⟩ := hw.first
      by_cases hy : Mut E q y
      · exact ⟨x, y, hx, e, hy, h2⟩
      · exact ih y hw2 (hx.trans (.one e)) hy
  exact key p ⟨k, w⟩ (.refl p) fun h => hn h.symm
theorem Left.erase (h : Left n E left) (hp : p ∈ left) (hf : Free E left p) : Left n E (left.erase p) := by
  have hd := h.nodup
  refine ⟨fun x hx => h.own x (List.mem_of_mem_erase hx), fun x y hx hr => ?_, h.sorted.sublist List.erase_sublist⟩
  obtain ⟨hxp, hxl⟩ := hd.mem_erase_iff.1 hx
  refine hd.mem_erase_iff.2 ⟨fun e => ?_, h.up x y hxl hr⟩
  have hyp : Mut E p y := fst_iff.1 (by rw [(h.own p hp).2, e])
  have hrp : Reach E x p := hr.trans hyp.2
  obtain ⟨a, b, h1, h2, h3, h4⟩ := enter hrp fun hm => hxp (by rw [← (h.own x hxl).2, fst_eq hm, (h.own p hp).2])
  have h5 := hf a b h3 h2 (h.up x a hxl h1)
  exact h4 (fst_iff.1 (by rw [(h.own p hp).2, h5]))
theorem filter_lt {f g : Nat → Bool} : ∀ {l : List Nat}, (∀ x, x ∈ l → f x = true → g x = true) → (∃ x, x ∈ l ∧ f x = false ∧ g x = true) → (l.filter f).length < (l.filter g).length := by
  intro l
  induction l with
  | nil => rintro _ ⟨x, h, _⟩; cases h
  | cons a l ih =>
    intro hs hx
    have hle : (l.filter f).length ≤ (l.filter g).length := by
      have : ∀ m : List Nat, (∀ x, x ∈ m → f x = true → g x = true) → (m.filter f).length ≤ (m.filter g).length := by
        intro m
        induction m with
        | nil => intro _; exact Nat.le_refl _
        | cons b m ihm =>
          intro hm
          have h1 := ihm fun x h => hm x (List.mem_cons_of_mem _ h)
          have h2 := hm b (List.mem_cons_self ..)
          cases hf : f b <;> cases hg : g b <;> simp [hf, hg] <;> simp_all <;> omega
      exact this l fun x h => hs x (List.mem_cons_of_mem _ h)
    by_cases ha : f a = false ∧ g a = true
    · simp [ha.1, ha.2]; omega
    · have hex : ∃ x, x ∈ l ∧ f x = false ∧ g x = true := by
        obtain ⟨x, h1, h2, h3⟩ := hx
        rcases List.mem_cons.1 h1 with rfl | h1
        · exact absurd ⟨h2, h3⟩ ha
        · exact ⟨x, h1, h2, h3⟩
      have h1 := ih (fun x h => hs x (List.mem_cons_of_mem _ h)) hex
      have h2 := hs a (List.mem_cons_self ..)
      cases hf : f a <;> cases hg : g a <;> simp [hf, hg] <;> simp_all
theorem least_of (f : Nat → Nat) : ∀ l : List Nat, l ≠ [] → ∃ x, x ∈ l ∧ ∀ y, y ∈ l → f x ≤ f y := by
  intro l
  induction l with
  | nil => intro h; exact absurd rfl h
  | cons a l ih =>
    intro _
    by_cases h : l = []
    · exact ⟨a, List.mem_cons_self .., fun y hy => by rw [h] at hy; rw [List.mem_singleton.1 hy]; exact Nat.le_refl _⟩
    · obtain ⟨x, h1, h2⟩ := ih h
      by_cases hc : f a ≤ f x
      · exact ⟨a, List.mem_cons_self .., fun y hy => by
          rcases List.mem_cons.1 hy with rfl | hy
          · exact Nat.le_refl _
          · exact Nat.le_trans hc (h2 y hy)⟩
      · exact ⟨x, List.mem_cons_of_mem _ h1, fun y hy => by
          rcases List.mem_cons.1 hy with rfl | hy
          · omega
          · exact h2 y hy⟩
/-- A component with the fewest parties ahead of it is free. -/
theorem Left.free (h : Left n E left) (hne : left ≠ []) : ∃ p, p ∈ left ∧ Free E left p := by
  obtain ⟨p, hp, hm⟩ := least_of (fun p => ((List.range n).filter fun q => decide (Reach E q p)).length) left hne
  refine ⟨p, hp, fun a b h1 h2 h3 => Classical.byContradiction fun hc => ?_⟩
  have h4 := hm _ h3
  have h5 : Reach E (fst E a) p := (fst_mut.2.trans (.one h2)).trans h1.2
  have h6 : ((List.range n).filter fun q => decide (Reach E q (fst E a))).length < ((List.range n).filter fun q => decide (Reach E q p)).length :=
    filter_lt (fun x _ hx => decide_eq_true ((of_decide_eq_true hx).trans h5)) ⟨p, List.mem_range.2 (h.own p hp).1, decide_eq_false fun hr => hc (by
      have := fst_eq (E := E) (p := fst E a) (q := p) ⟨h5, hr⟩
      rwa [fst_fst, (h.own p hp).2] at this), decide_eq_true (.refl p)⟩
  omega
theorem pick_ex (h : Left n E left) (hne : left ≠ []) : ∃ p, pick E left = some p := by
  obtain ⟨p, h1, h2⟩ := h.free hne
  cases hp : pick E left with
  | some q => exact ⟨q, rfl⟩
  | none =>
    unfold pick at hp
    rw [List.find?_eq_none] at hp
    exact absurd (decide_eq_true h2) (hp p h1)
theorem pick_says (h : Left n E left) (hp : pick E left = some p) : p ∈ left ∧ Free E left p ∧ ∀ q, q ∈ left → Free E left q → p ≤ q := by
  unfold pick at hp
  obtain ⟨h1, us, bs, h2, h3⟩ := List.find?_eq_some_iff_append.1 hp
  refine ⟨by rw [h2]; simp, of_decide_eq_true h1, fun q hq hf => ?_⟩
  have hs := h.sorted
  rw [h2] at hq hs
  rcases List.mem_append.1 hq with hq | hq
  · have := h3 q hq
    rw [decide_eq_true hf] at this
    cases this
  · rcases List.mem_cons.1 hq with rfl | hq
    · exact Nat.le_refl _
    · exact Nat.le_of_lt ((List.pairwise_cons.1 (List.pairwise_append.1 hs).2.1).1 q hq)
end
/-- The components in their order. -/
noncomputable def ords (n : Nat) (E : List (Nat × Nat)) : List Nat := ord E n (leasts n E)
end Ci
end Go.Proofs.YtpmlhgmmobpilaaGreatDoor
namespace Go.Proofs.YtpmlhgmmobpilaaGreatDoor
namespace Ci
/-- One value of a table turned. -/
def setI (o : Nat → Int) (q : Nat) (v : Int) : Nat → Int := fun x => if x = q then v else o x
section
variable {E : List (Nat × Nat)} {F : List Nat} {n p q r i : Nat} {out : Nat → Int}
theorem setI_same (o : Nat → Int) (q : Nat) (v : Int) : setI o q v q = v := if_pos rfl
theorem setI_other {o : Nat → Int} {q x : Nat} {v : Int} (h : x ≠ q) : setI o q v x = o x := if_neg h
/-- Level by level: what holds ahead of link i in the round of rank r. -/
structure Lv (n : Nat) (E : List (Nat × Nat)) (F : List Nat) (r i : Nat) (out : Nat → Int) : Prop where
  low : ∀ x, x < n → rk E F x ≤ r → out x = rk E F x
  mid : ∀ x, x < n → rk E F x = (r : Int) + 1 → out x = (r : Int) + 1 ∨ (out x = -1 ∧ ∀ h, (h, x) ∈ E.take i → rk E F h ≠ r)
  high : ∀ x, x < n → (r : Int) + 1 < rk E F x → out x = -1
theorem Lv.start (h0 : ∀ x, x < n → out x = if x ∈ F then 0 else -1) : Lv n E F 0 0 out := by
  refine ⟨fun x hx h => ?_, fun x hx h => .inr ⟨?_, fun _ hm => by simp at hm⟩, fun x hx h => ?_⟩
  · rw [h0 x hx]
    split
    · rename_i hf
      exact (rk_zero.2 hf).symm
    · rename_i hf
      have h1 : rk E F x ≠ 0 := fun e => hf (rk_zero.1 e)
      have h2 := rk_ge (E := E) (F := F) (p := x)
      omega
  · rw [h0 x hx, if_neg fun hf => by have := rk_zero (E := E) |>.2 hf; omega]
  · rw [h0 x hx, if_neg fun hf => by have := rk_zero (E := E) |>.2 hf; omega]
theorem Lv.right (h : Lv n E F r i out) {x : Nat} (hx : x < n) (h0 : 0 ≤ out x) : out x = rk E F x := by
  by_cases h1 : rk E F x ≤ r
  · exact h.low x hx h1
  · by_cases h2 : rk E F x = (r : Int) + 1
    · rcases h.mid x hx h2 with h3 | h3
      · rw [h3, h2]
      · omega
    · have := h.high x hx (by omega)
      omega
theorem Lv.ge (h : Lv n E F r i out) {x : Nat} (hx : x < n) : -1 ≤ out x ∧ out x ≤ (r : Int) + 1 := by
  have h3 := rk_ge (E := E) (F := F) (p := x)
  by_cases h1 : rk E F x ≤ r
  · have := h.low x hx h1; omega
  · by_cases h2 : rk E F x = (r : Int) + 1
    · rcases h.mid x hx h2 with h3 | h3 <;> omega
    · have := h.high x hx (by omega); omega
theorem take_snoc {α : Type} {l : List α} {i : Nat} (h : i < l.length) : l.take (i + 1) = l.take i ++ [l[i]] := by
  rw [List.take_succ_eq_append_getElem h]
/-- A link that lays a rank. -/
theorem Lv.set (h : Lv n E F r i out) (hi : i < E.length) (hE : InN n E) (h1 : out E[i].1 = r) (h2 : out E[i].2 < 0) : Lv n E F r (i + 1) (setI out E[i].2 ((r : Int) + 1)) := by
  obtain ⟨a1, a2⟩ := hE _ (List.getElem_mem hi)
  have b1 : rk E F E[i].1 = r := by rw [← h.right a1 (by omega), h1]
  have b2 := rk_edge (E := E) (F := F) (q := E[i].1) (p := E[i].2) (by omega) (List.getElem_mem hi)
  have b3 : rk E F E[i].2 = (r : Int) + 1 := by
    by_cases c : rk E F E[i].2 ≤ r
    · have := h.low _ a2 c; omega
    · omega
  refine ⟨fun x hx hl => ?_, fun x hx hl => ?_, fun x hx hl => ?_⟩
  · rw [setI_other fun e => by rw [e] at hl; omega]
    exact h.low x hx hl
  · by_cases e : x = E[i].2
    · exact .inl (by rw [e, setI_same])
    · rw [setI_other e]
      rcases h.mid x hx hl with h3 | ⟨h3, h4⟩
      · exact .inl h3
      · refine .inr ⟨h3, fun y hy => ?_⟩
        rw [take_snoc hi] at hy
        rcases List.mem_append.1 hy with hy | hy
        · exact h4 y hy
        · exact absurd (by rw [← List.mem_singleton.1 hy]) e
  · rw [setI_other fun e => by rw [e] at hl; omega]
    exact h.high x hx hl
/-- A link that lays none. -/
theorem Lv.skip (h : Lv n E F r i out) (hi : i < E.length) (hE : InN n E) (h1 : ¬ (out E[i].1 = r ∧ out E[i].2 < 0)) : Lv n E F r (i + 1) out := by
  obtain ⟨a1, a2⟩ := hE _ (List.getElem_mem hi)
  refine ⟨h.low, fun x hx hl => ?_, h.high⟩
  rcases h.mid x hx hl with h3 | ⟨h3, h4⟩
  · exact .inl h3
  · refine .inr ⟨h3, fun y hy hr => ?_⟩
    rw [take_snoc hi] at hy
    rcases List.mem_append.1 hy with hy | hy
    · exact h4 y hy hr
    · have e := List.mem_singleton.1 hy
      have e1 : E[i].1 = y := by rw [← e]
      have e2 : E[i].2 = x := by rw [← e]
      refine h1 ⟨?_, by rw [e2, h3]; omega⟩
      rw [e1, h.low y (by rw [← e1]; exact a1) (by omega), hr]
theorem Lv.next (h : Lv n E F r E.length out) : Lv n E F (r + 1) 0 out := by
  have hm : ∀ x, x < n → rk E F x = (r : Int) + 1 → out x = (r : Int) + 1 := fun x hx hl => by
    rcases h.mid x hx hl with h3 | ⟨_, h4⟩
    · exact h3
    · obtain ⟨q, h5, h6⟩ := rk_pred (k := r) (p := x) (E := E) (F := F) (by omega)
      exact absurd h5 (h4 q (by rw [List.take_length]; exact h6))
  refine ⟨fun x hx hl => ?_, fun x hx hl => .inr ⟨h.high x hx (by omega), fun y hy => by simp at hy⟩, fun x hx hl => h.high x hx (by omega)⟩
  by_cases c : rk E F x ≤ r
  · exact h.low x hx c
  · rw [hm x hx (by omega)]; omega
theorem Lv.whole (h : Lv n E F r i out) (hr : n ≤ r) (hE : InN n E) {x : Nat} (hx : x < n) : out x = rk E F x := by
  have := rk_lt (F := F) hE hx
  exact h.low x hx (by omega)
/-- Where a rank is laid, or all rounds are over, it is right. -/
theorem Lv.at (h : Lv n E F r i out) (hE : InN n E) {x : Nat} (hx : x < n) (hr : n ≤ r ∨ 0 ≤ out x) : out x = rk E F x := by
  rcases hr with hr | hr
  · exact h.whole hr hE hx
  · exact h.right hx hr
structure Bf (n : Nat) (E : List (Nat × Nat)) (F : List Nat) (ex : Nat → Prop) (out : Nat → Int) (queue : List Nat) : Prop where
  way : ∀ x, x < n → 0 ≤ out x → WayF E F x (out x).toNat
  neg : ∀ x, x < n → -1 ≤ out x
  src : ∀ f, f ∈ F → out f = 0
  edge : ∀ x y, x < n → (x, y) ∈ E → 0 ≤ out x → x ∉ queue → ¬ ex x → 0 ≤ out y ∧ out y ≤ out x + 1
  pos : ∀ x, x ∈ queue → x < n ∧ 0 ≤ out x
  sorted : queue.Pairwise fun a b => out a ≤ out b ∧ out b ≤ out a + 1
  done : ∀ x, x < n → 0 ≤ out x → x ∉ queue → ∀ y, y ∈ queue → out x ≤ out y
  nodup : queue.Nodup
theorem Bf.start (hF : F.Nodup) (hn : ∀ f, f ∈ F → f < n) (h0 : ∀ x, x < n → out x = if x ∈ F then 0 else -1) : Bf n E F (fun _ => False) out F := by
  have hs : ∀ f, f ∈ F → out f = 0 := fun f hf => by rw [h0 f (hn f hf), if_pos hf]
  have hr : ∀ x, x < n → 0 ≤ out x → x ∈ F := fun x hx h => by
    rw [h0 x hx] at h
    split at h
    · assumption
    · omega
  refine ⟨fun x hx h => ?_, fun x hx => ?_, hs, fun x y hx _ h hq => absurd (hr x hx h) hq, fun x hx => ⟨hn x hx, by rw [hs x hx]; omega⟩, ?_, fun x hx h hq => absurd (hr x hx h) hq, hF⟩
  · rw [hs x (hr x hx h)]
    exact wayF_zero.2 (hr x hx h)
  · rw [h0 x hx]; split <;> omega
  · exact List.Pairwise.imp_of_mem (R := fun _ _ => True) (fun ha hb _ => by rw [hs _ ha, hs _ hb]; omega) (List.pairwise_of_forall fun _ _ => trivial)
theorem Bf.end (h : Bf n E F (fun _ => False) out []) (hn : ∀ f, f ∈ F → f < n) (hE : InN n E) {x : Nat} (hx : x < n) : out x = rk E F x := by
  have key : ∀ k y, WayF E F y k → y < n ∧ 0 ≤ out y ∧ out y ≤ k := by
    intro k
    induction k with
    | zero =>
      intro y hy
      have hm := wayF_zero.1 hy
      have := h.src y hm
      exact ⟨hn y hm, by omega, by omega⟩
    | succ k ih =>
      intro y hy
      obtain ⟨z, hz, e⟩ := wayF_succ.1 hy
      obtain ⟨a, b, c⟩ := ih z hz
      have := h.edge z y a e b (by simp) (fun h => h)
      exact ⟨(hE _ e).2, by omega, by omega⟩
  have h1 := h.neg x hx
  refine (rk_eq ?_).symm
  by_cases h0 : 0 ≤ out x
  · refine .inr ⟨(out x).toNat, by omega, h.way x hx h0, fun j hj hw => ?_⟩
    have := key j x hw
    omega
  · refine .inl ⟨by omega, fun k hk => ?_⟩
    have := key k x hk
    omega
/-- The first of the queue is taken out. -/
theorem Bf.pop {queue : List Nat} (h : Bf n E F (fun _ => False) out (p :: queue)) : Bf n E F (· = p) out queue ∧ p < n ∧ 0 ≤ out p ∧ (∀ y, y ∈ queue → out p ≤ out y ∧ out y ≤ out p + 1) ∧ ∀ x, x < n → out x ≤ out p + 1 := by
  have hp := h.pos p (List.mem_cons_self ..)
  have hs := List.pairwise_cons.1 h.sorted
  have hd := List.nodup_cons.1 h.nodup
  refine ⟨⟨h.way, h.neg, h.src, fun x y hx e h0 hq hx2 => h.edge x y hx e h0 (fun hm => (List.mem_cons.1 hm).elim hx2 hq) (fun h => h), fun x hx => h.pos x (List.mem_cons_of_mem _ hx), hs.2, fun x hx h0 hq y hy => ?_, hd.2⟩, hp.1, hp.2, fun y hy => hs.1 y hy, fun x hx => ?_⟩
  · by_cases e : x = p
    · rw [e]; exact (hs.1 y hy).1
    · exact h.done x hx h0 (fun hm => (List.mem_cons.1 hm).elim e hq) y (List.mem_cons_of_mem _ hy)
  · by_cases h0 : 0 ≤ out x
    · by_cases hm : x ∈ p :: queue
      · rcases List.mem_cons.1 hm with rfl | hm
        · omega
        · exact (hs.1 x hm).2
      · have := h.done x hx h0 hm p (List.mem_cons_self ..)
        omega
    · omega
/-- What holds while the links of p are looked through; ns are those that were. -/
structure Bq (n : Nat) (E : List (Nat × Nat)) (F : List Nat) (p : Nat) (v : Int) (ns : List Nat) (out : Nat → Int) (queue : List Nat) : Prop where
  inv : Bf n E F (· = p) out queue
  cur : out p = v
  here : p < n
  v0 : 0 ≤ v
  seen : ∀ y, y ∈ ns → 0 ≤ out y ∧ out y ≤ v + 1
  rest : ∀ y, y ∈ queue → v ≤ out y ∧ out y ≤ v + 1
  all : ∀ x, x < n → out x ≤ v + 1
  off : p ∉ queue
theorem Bq.start {queue : List Nat} (h : Bf n E F (fun _ => False) out (p :: queue)) : Bq n E F p (out p) [] out queue := by
  obtain ⟨a, b, c, d, e⟩ := h.pop
  exact ⟨a, rfl, b, c, fun y hy => by simp at hy, d, e, (List.nodup_cons.1 h.nodup).1⟩
theorem Bq.skip {v : Int} {ns queue : List Nat} (h : Bq n E F p v ns out queue) (hq : q < n) (h0 : 0 ≤ out q) : Bq n E F p v (ns ++ [q]) out queue :=
  ⟨h.inv, h.cur, h.here, h.v0, fun y hy => by
    rcases List.mem_append.1 hy with hy | hy
    · exact h.seen y hy
    · rw [List.mem_singleton.1 hy]; exact ⟨h0, h.all q hq⟩, h.rest, h.all, h.off⟩
theorem Bq.set {v : Int} {ns queue : List Nat} (h : Bq n E F p v ns out queue) (hq : q < n) (e : (p, q) ∈ E) (h0 : out q < 0) : Bq n E F p v (ns ++ [q]) (setI out q (v + 1)) (queue ++ [q]) := by
  have hpq : p ≠ q := fun c => by have := h.cur; have := h.v0; rw [c] at *; omega
  have hqq : q ∉ queue := fun c => by have := (h.inv.pos q c).2; omega
  have ho : ∀ x, 0 ≤ out x → setI out q (v + 1) x = out x := fun x hx => setI_other fun c => by rw [c] at hx; omega
  have hv := h.v0
  refine ⟨⟨fun x hx hx0 => ?_, fun x hx => ?_, fun f hf => ?_, fun x y hx e2 hx0 hxq hx2 => ?_, fun x hx => ?_, ?_, fun x hx hx0 hxq y hy => ?_, ?_⟩, ?_, h.here, h.v0, fun y hy => ?_, fun y hy => ?_, fun x hx => ?_, fun c => ?_⟩
  · by_cases c : x = q
    · rw [c, setI_same]
      have h1 := h.inv.way p h.here (by rw [h.cur]; exact hv)
      rw [h.cur] at h1
      have h2 := wayF_succ.2 ⟨p, h1, e⟩
      rwa [show v.toNat + 1 = (v + 1).toNat by omega] at h2
    · rw [setI_other c] at hx0 ⊢
      exact h.inv.way x hx hx0
  · by_cases c : x = q
    · rw [c, setI_same]; omega
    · rw [setI_other c]; exact h.inv.neg x hx
  · have := h.inv.src f hf
    rw [ho f (by omega)]; exact this
  · have c : x ≠ q := fun c => hxq (by rw [c]; simp)
    rw [setI_other c] at hx0 ⊢
    have h1 := h.inv.edge x y hx e2 hx0 (fun c2 => hxq (List.mem_append_left _ c2)) hx2
    rw [ho y h1.1]
    exact h1
  · rcases List.mem_append.1 hx with hx | hx
    · have := h.inv.pos x hx
      rw [ho x this.2]; exact this
    · rw [List.mem_singleton.1 hx, setI_same]; exact ⟨hq, by omega⟩
  · refine List.pairwise_append.2 ⟨?_, List.pairwise_singleton .., fun a ha b hb => ?_⟩
    · refine List.Pairwise.imp_of_mem (fun ha hb hab => ?_) h.inv.sorted
      rw [ho _ (h.inv.pos _ ha).2, ho _ (h.inv.pos _ hb).2]
      exact hab
    · rw [List.mem_singleton.1 hb, setI_same, ho a (h.inv.pos a ha).2]
      have := h.rest a ha
      omega
  · have c : x ≠ q := fun c => hxq (by rw [c]; simp)
    rw [setI_other c] at hx0 ⊢
    rcases List.mem_append.1 hy with hy | hy
    · rw [ho y (h.inv.pos y hy).2]
      exact h.inv.done x hx hx0 (fun c2 => hxq (List.mem_append_left _ c2)) y hy
    · rw [List.mem_singleton.1 hy, setI_same]
      exact h.all x hx
  · exact List.nodup_append.2 ⟨h.inv.nodup, by simp, fun a ha b hb c => hqq (by rw [← List.mem_singleton.1 hb, ← c]; exact ha)⟩
  · rw [setI_other hpq]; exact h.cur
  · rcases List.mem_append.1 hy with hy | hy
    · have := h.seen y hy
      rw [ho y this.1]; exact this
    · rw [List.mem_singleton.1 hy, setI_same]; omega
  · rcases List.mem_append.1 hy with hy | hy
    · have := h.rest y hy
      rw [ho y (h.inv.pos y hy).2]; exact this
    · rw [List.mem_singleton.1 hy, setI_same]; omega
  · by_cases c : x = q
    · rw [c, setI_same]; omega
    · rw [setI_other c]; exact h.all x hx
  · rcases List.mem_append.1 c with c | c
    · exact h.off c
    · exact hpq (List.mem_singleton.1 c)
theorem Bq.end {v : Int} {ns queue : List Nat} (h : Bq n E F p v ns out queue) (hall : ∀ q, (p, q) ∈ E → q ∈ ns) : Bf n E F (fun _ => False) out queue :=
  ⟨h.inv.way, h.inv.neg, h.inv.src, fun x y hx e hx0 hxq _ => by
    by_cases c : x = p
    · rw [c] at e ⊢
      rw [h.cur]
      exact h.seen y (hall y e)
    · exact h.inv.edge x y hx e hx0 hxq c, h.inv.pos, h.inv.sorted, h.inv.done, h.inv.nodup⟩
/-- How many parties have no rank yet. -/
def negs (n : Nat) (out : Nat → Int) : Nat := ((List.range n).filter fun x => decide (out x < 0)).length
theorem negs_set (hq : q < n) (h0 : out q < 0) {v : Int} (hv : 0 ≤ v) : negs n (setI out q v) + 1 ≤ negs n out := by
  refine filter_lt (fun x _ hx => ?_) ⟨q, List.mem_range.2 hq, ?_, decide_eq_true h0⟩
  · have h1 := of_decide_eq_true hx
    refine decide_eq_true ?_
    by_cases c : x = q
    · rw [c]; exact h0
    · rwa [setI_other c] at h1
  · rw [setI_same]; exact decide_eq_false (by omega)
end
end Ci
end Go.Proofs.YtpmlhgmmobpilaaGreatDoor
namespace Go.Proofs.YtpmlhgmmobpilaaGreatDoor
namespace Ci
section
variable {E : List (Nat × Nat)} {n p q r : Nat} {V V1 V2 : Nat → Prop}
/-- What a search from p makes of what was visited. -/
def Vis (E : List (Nat × Nat)) (p : Nat) (V V' : Nat → Prop) : Prop :=
  (∀ x, V x → V' x) ∧ V' p ∧ (∀ x, V' x → ¬ V x → Reach E p x) ∧ ∀ x y, V' x → ¬ V x → (x, y) ∈ E → V' y
def VisL (E : List (Nat × Nat)) (p : Nat) (ns : List Nat) (V V' : Nat → Prop) : Prop :=
  (∀ x, V x → V' x) ∧ V' p ∧ (∀ x, V' x → ¬ V x → Reach E p x) ∧ (∀ x y, V' x → ¬ V x → x ≠ p → (x, y) ∈ E → V' y) ∧ ∀ y, y ∈ ns → V' y
theorem Vis.had (h : V p) : Vis E p V V := ⟨fun _ h => h, h, fun _ a b => absurd a b, fun _ _ a b => absurd a b⟩
theorem VisL.start (E : List (Nat × Nat)) (p : Nat) (V : Nat → Prop) : VisL E p [] V fun x => V x ∨ x = p :=
  ⟨fun _ h => .inl h, .inr rfl, fun x a b => by rcases a with a | rfl
                                                · exact absurd a b
                                                · exact .refl _, fun x y a b c => by rcases a with a | a
                                                                                     · exact absurd a b
                                                                                     · exact absurd a c, fun y hy => by simp at hy⟩
theorem VisL.step {ns : List Nat} (h : VisL E p ns V V1) (e : (p, q) ∈ E) (h2 : Vis E q V1 V2) : VisL E p (ns ++ [q]) V V2 := by
  obtain ⟨a1, a2, a3, a4, a5⟩ := h
  obtain ⟨b1, b2, b3, b4⟩ := h2
  refine ⟨fun x hx => b1 x (a1 x hx), b1 p a2, fun x hx hv => ?_, fun x y hx hv hp he => ?_, fun y hy => ?_⟩
  · by_cases c : V1 x
    · exact a3 x c hv
    · exact (Reach.one e).trans (b3 x hx c)
  · by_cases c : V1 x
    · exact b1 y (a4 x y c hv hp he)
    · exact b4 x y hx c he
  · rcases List.mem_append.1 hy with hy | hy
    · exact b1 y (a5 y hy)
    · rw [List.mem_singleton.1 hy]; exact b2
theorem VisL.end {ns : List Nat} (h : VisL E p ns V V1) (hall : ∀ q, (p, q) ∈ E → q ∈ ns) : Vis E p V V1 := by
  obtain ⟨a1, a2, a3, a4, a5⟩ := h
  refine ⟨a1, a2, a3, fun x y hx hv he => ?_⟩
  by_cases c : x = p
  · rw [c] at he
    exact a5 y (hall y he)
  · exact a4 x y hx hv c he
open Classical
theorem ord_nil (k : Nat) : ord E k [] = [] := by cases k <;> simp [ord, pick]
theorem ord_fuel : ∀ (k j : Nat) (left : List Nat), Left n E left → left.length ≤ k → left.length ≤ j → ord E k left = ord E j left := by
  intro k
  induction k with
  | zero =>
    intro j left _ hk _
    rw [List.length_eq_zero_iff.1 (Nat.le_zero.1 hk), ord_nil, ord_nil]
  | succ k ih =>
    intro j left h hk hj
    by_cases hne : left = []
    · rw [hne, ord_nil, ord_nil]
    · obtain ⟨p, hp⟩ := pick_ex h hne
      obtain ⟨h1, h2, _⟩ := pick_says h hp
      have h3 := List.length_pos_of_mem h1
      obtain ⟨j, rfl⟩ : ∃ i, j = i + 1 := ⟨j - 1, by omega⟩
      have h4 := List.length_erase_of_mem h1
      conv => lhs; unfold ord; rw [hp]
      conv => rhs; unfold ord; rw [hp]
      dsimp only
      rw [ih j _ (h.erase h1 h2) (by omega) (by omega)]
/-- What was chosen, and what is left. -/
structure Stage (n : Nat) (E : List (Nat × Nat)) (pre left : List Nat) : Prop where
  ok : Left n E left
  all : ∀ x, x < n → (fst E x ∈ pre ↔ fst E x ∉ left)
  had : ∀ x, x ∈ pre → x < n ∧ fst E x = x ∧ x ∉ left
  eq : ords n E = pre ++ ord E left.length left
theorem leasts_len : (leasts n E).length ≤ n := by
  have := List.length_filter_le (fun p => decide (fst E p = p)) (List.range n)
  rw [List.length_range] at this
  exact this
theorem Stage.start (hE : InN n E) : Stage n E [] (leasts n E) :=
  ⟨Left.start hE, fun x hx => ⟨fun h => by simp at h, fun h => absurd (mem_leasts.2 ⟨fst_lt hx, fst_fst⟩) h⟩, fun x hx => by simp at hx, by
    rw [List.nil_append]; exact ord_fuel _ _ _ (Left.start hE) leasts_len (Nat.le_refl _)⟩
theorem Stage.step {pre left : List Nat} (h : Stage n E pre left) (hp : pick E left = some p) : Stage n E (pre ++ [p]) (left.erase p) := by
  obtain ⟨h1, h2, _⟩ := pick_says h.ok hp
  have hd := h.ok.nodup
  refine ⟨h.ok.erase h1 h2, fun x hx => ?_, fun x hx => ?_, ?_⟩
  · rw [hd.mem_erase_iff, List.mem_append, h.all x hx, List.mem_singleton]
    constructor
    · rintro (c | c)
      · exact fun c2 => c c2.2
      · exact fun c2 => c2.1 c
    · intro c
      by_cases c2 : fst E x = p
      · exact .inr c2
      · exact .inl fun c3 => c ⟨c2, c3⟩
  · rcases List.mem_append.1 hx with hx | hx
    · obtain ⟨a, b, c⟩ := h.had x hx
      exact ⟨a, b, fun d => c (List.mem_of_mem_erase d)⟩
    · rw [List.mem_singleton.1 hx]
      exact ⟨(h.ok.own p h1).1, (h.ok.own p h1).2, fun d => (hd.mem_erase_iff.1 d).1 rfl⟩
  · have h3 := List.length_pos_of_mem h1
    have h4 := List.length_erase_of_mem h1
    rw [h.eq, List.append_assoc]
    congr 1
    obtain ⟨k, hk⟩ : ∃ k, left.length = k + 1 := ⟨left.length - 1, by omega⟩
    rw [hk]
    conv => lhs; unfold ord; rw [hp]
    dsimp only
    rw [ord_fuel k _ _ (h.ok.erase h1 h2) (by omega) (Nat.le_refl _)]
    rfl
theorem Stage.end {pre : List Nat} (h : Stage n E pre []) : ords n E = pre := by
  have := h.eq
  rwa [ord_nil, List.append_nil] at this
end
end Ci
end Go.Proofs.YtpmlhgmmobpilaaGreatDoor
namespace Go.Proofs.YtpmlhgmmobpilaaGreatDoor
namespace Ci
section
variable {E : List (Nat × Nat)} {n p q : Nat}
variable {F F' : List Nat}
end
end Ci
end Go.Proofs.YtpmlhgmmobpilaaGreatDoor
namespace Go.Proofs.YtpmlhgmmobpilaaGreatDoor
namespace Ci
/-- A way whose inner parties are less than k. -/
def Thru (E : List (Nat × Nat)) : Nat → Nat → Nat → Prop
  | 0, i, j => i = j ∨ (i, j) ∈ E
  | k + 1, i, j => Thru E k i j ∨ (Thru E k i k ∧ Thru E k k j)
section
variable {E : List (Nat × Nat)} {n i j k m : Nat}
theorem thru_refl : ∀ k, Thru E k i i
  | 0 => .inl rfl
  | k + 1 => .inl (thru_refl k)
theorem thru_in : Thru E (k + 1) i k ↔ Thru E k i k := ⟨fun h => h.elim id fun h => h.1, .inl⟩
theorem thru_out : Thru E (k + 1) k j ↔ Thru E k k j := ⟨fun h => h.elim id fun h => h.2, .inl⟩
theorem thru_trans : ∀ k m i j, m < k → Thru E k i m → Thru E k m j → Thru E k i j := by
  intro k
  induction k with
  | zero => intro m i j h; omega
  | succ k ih =>
    intro m i j hm h1 h2
    by_cases e : m = k
    · subst e
      exact .inr ⟨thru_in.1 h1, thru_out.1 h2⟩
    · have hmk : m < k := by omega
      rcases h1 with h1 | ⟨h1, h3⟩
      · rcases h2 with h2 | ⟨h2, h4⟩
        · exact .inl (ih m i j hmk h1 h2)
        · exact .inr ⟨ih m i k hmk h1 h2, h4⟩
      · rcases h2 with h2 | ⟨_, h4⟩
        · exact .inr ⟨h1, ih m k j hmk h3 h2⟩
        · exact .inr ⟨h1, h4⟩
theorem thru_reach : ∀ k i j, Thru E k i j → Reach E i j := by
  intro k
  induction k with
  | zero =>
    rintro i j (rfl | h)
    · exact .refl _
    · exact .one h
  | succ k ih =>
    rintro i j (h | ⟨h1, h2⟩)
    · exact ih i j h
    · exact (ih i k h1).trans (ih k j h2)
theorem thru_mono (h : Thru E 0 i j) : ∀ k, Thru E k i j
  | 0 => h
  | k + 1 => .inl (thru_mono h k)
theorem thru_all (hE : InN n E) : Thru E n i j ↔ Reach E i j := by
  constructor
  · exact thru_reach n i j
  · intro h
    refine h.closed (C := fun x => Thru E n i x) (thru_refl n) fun a b ha e => ?_
    exact thru_trans n a i b (hE _ e).1 ha (thru_mono (.inr e) n)
/-- The table of the reference, ahead of cell (i, j) in the round of party k. -/
def Tab (E : List (Nat × Nat)) (n k i j : Nat) (T : Nat → Nat → Prop) : Prop :=
  ∀ a b, a < n → b < n → (T a b ↔ if a < i ∨ (a = i ∧ b < j) then Thru E (k + 1) a b else Thru E k a b)
theorem Tab.row {T : Nat → Nat → Prop} (h : Tab E n k i j T) (hk : k < n) {a : Nat} (ha : a < n) : T a k ↔ Thru E k a k := by
  rw [h a k ha hk]
  split
  · exact thru_in
  · exact Iff.rfl
theorem Tab.col {T : Nat → Nat → Prop} (h : Tab E n k i j T) (hk : k < n) {b : Nat} (hb : b < n) : T k b ↔ Thru E k k b := by
  rw [h k b hk hb]
  split
  · exact thru_out
  · exact Iff.rfl
/-- A cell is set where both are. -/
theorem Tab.step {T T' : Nat → Nat → Prop} (h : Tab E n k i j T) (hk : k < n) (hi : i < n) (hj : j < n) (hT : ∀ a b, T' a b ↔ T a b ∨ (a = i ∧ b = j ∧ T i k ∧ T k j)) : Tab E n k i (j + 1) T' := by
  intro a b ha hb
  rw [hT]
  by_cases e : a = i ∧ b = j
  · obtain ⟨rfl, rfl⟩ := e
    rw [if_pos (by omega), h.row hk ha, h.col hk hb, h a b ha hb, if_neg (by omega)]
    exact ⟨fun c => c.elim .inl fun c => .inr c.2.2, fun c => c.elim .inl fun c => .inr ⟨rfl, rfl, c⟩⟩
  · rw [h a b ha hb]
    have e2 : ¬ (a = i ∧ b = j ∧ T i k ∧ T k j) := fun c => e ⟨c.1, c.2.1⟩
    by_cases c : a < i ∨ (a = i ∧ b < j)
    · rw [if_pos c, if_pos (by omega)]
      exact ⟨fun x => x.elim id fun y => absurd y e2, .inl⟩
    · rw [if_neg c, if_neg (by omega)]
      exact ⟨fun x => x.elim id fun y => absurd y e2, .inl⟩
theorem Tab.next {T : Nat → Nat → Prop} (h : Tab E n k i n T) : Tab E n k (i + 1) 0 T := by
  intro a b ha hb
  rw [h a b ha hb]
  by_cases c : a < i ∨ (a = i ∧ b < n)
  · rw [if_pos c, if_pos (by omega)]
  · rw [if_neg c, if_neg (by omega)]
theorem Tab.round {T : Nat → Nat → Prop} (h : Tab E n k n 0 T) : Tab E n (k + 1) 0 0 T := by
  intro a b ha hb
  rw [h a b ha hb, if_pos (.inl ha), if_neg (by omega)]
theorem Tab.end {T : Nat → Nat → Prop} (h : Tab E n n 0 0 T) (hE : InN n E) {a b : Nat} (ha : a < n) (hb : b < n) : T a b ↔ Reach E a b := by
  rw [h a b ha hb, if_neg (by omega)]
  exact thru_all hE
end
end Ci
end Go.Proofs.YtpmlhgmmobpilaaGreatDoor
namespace Go.Proofs.YtpmlhgmmobpilaaGreatDoor
namespace Ci
open Classical
section
variable {E : List (Nat × Nat)} {n p q x : Nat}
/-- What was placed ahead of party q in the round of party p. -/
def PL (E : List (Nat × Nat)) (p q x : Nat) : Prop := fst E x < p ∨ (Mut E p x ∧ x < q)
/-- The components gathered so far, by their least parties. -/
noncomputable def lsO (E : List (Nat × Nat)) (n p x : Nat) : List Nat := if x < p ∧ fst E x = x then comp n E x else []
noncomputable def part (E : List (Nat × Nat)) (p q : Nat) : List Nat := (List.range q).filter fun y => decide (Mut E p y)
noncomputable def lsQ (E : List (Nat × Nat)) (n p q x : Nat) : List Nat := if x = p then part E p q else lsO E n p x
noncomputable def cO (E : List (Nat × Nat)) (p : Nat) : Nat := ((List.range p).filter fun y => decide (fst E y = y)).length
noncomputable def cQ (E : List (Nat × Nat)) (p q : Nat) : Nat := if part E p q = [] then cO E p else cO E p + 1
theorem comp_ne (hp : p < n) : comp n E p ≠ [] := fun h => by
  have := mem_comp.2 ⟨hp, Mut.refl (E := E) p⟩
  rw [h] at this
  cases this
theorem part_zero : part E p 0 = [] := rfl
theorem part_succ : part E p (q + 1) = if Mut E p q then part E p q ++ [q] else part E p q := by
  unfold part
  rw [List.range_succ, List.filter_append, List.filter_cons]
  by_cases h : Mut E p q
  · rw [if_pos h, if_pos (decide_eq_true h)]; rfl
  · rw [if_neg h, if_neg (by rw [decide_eq_false h]; simp)]; simp
theorem part_all : part E p n = comp n E p := rfl
theorem lsQ_zero : lsQ E n p 0 x = lsO E n p x := by
  unfold lsQ
  by_cases e : x = p
  · rw [if_pos e, part_zero]
    unfold lsO
    rw [if_neg (by omega)]
  · rw [if_neg e]
theorem lsQ_skip (h : ¬ Mut E p q) : lsQ E n p (q + 1) x = lsQ E n p q x := by
  unfold lsQ
  rw [part_succ, if_neg h]
theorem cQ_zero : cQ E p 0 = cO E p := if_pos rfl
theorem cQ_skip (h : ¬ Mut E p q) : cQ E p (q + 1) = cQ E p q := by unfold cQ; rw [part_succ, if_neg h]
theorem PL_skip (h : ¬ Mut E p q) : PL E p (q + 1) x ↔ PL E p q x := by
  unfold PL
  constructor
  · rintro (a | ⟨a, b⟩)
    · exact .inl a
    · by_cases e : x = q
      · subst e; exact absurd a h
      · exact .inr ⟨a, by omega⟩
  · rintro (a | ⟨a, b⟩)
    · exact .inl a
    · exact .inr ⟨a, by omega⟩
theorem PL_zero : PL E p 0 x ↔ fst E x < p := ⟨fun h => h.elim id fun h => absurd h.2 (Nat.not_lt_zero _), .inl⟩
/-- The round of a party that was placed before. -/
theorem PL_had (h : fst E p ≠ p) : PL E (p + 1) 0 x ↔ PL E p 0 x := by
  rw [PL_zero, PL_zero]
  constructor
  · intro h1
    by_cases e : fst E x = p
    · exact absurd (by rw [← e, fst_fst]) h
    · omega
  · omega
theorem PL_next (h : fst E p = p) (hx : x < n) : PL E (p + 1) 0 x ↔ PL E p n x := by
  rw [PL_zero]
  unfold PL
  constructor
  · intro h1
    by_cases e : fst E x = p
    · exact .inr ⟨fst_iff.1 (by rw [e, h]), hx⟩
    · exact .inl (by omega)
  · rintro (a | ⟨a, _⟩)
    · omega
    · have := fst_eq a
      omega
theorem lsO_had (h : fst E p ≠ p) : lsO E n (p + 1) x = lsO E n p x := by
  unfold lsO
  by_cases e : x < p ∧ fst E x = x
  · rw [if_pos e, if_pos ⟨by omega, e.2⟩]
  · rw [if_neg e, if_neg]
    rintro ⟨a, b⟩
    by_cases c : x = p
    · subst c; exact h b
    · exact e ⟨by omega, b⟩
theorem lsO_next (h : fst E p = p) : lsO E n (p + 1) x = lsQ E n p n x := by
  unfold lsO lsQ
  by_cases e : x = p
  · subst e
    rw [if_pos rfl, if_pos ⟨by omega, h⟩, part_all]
  · rw [if_neg e]
    unfold lsO
    by_cases c : x < p ∧ fst E x = x
    · rw [if_pos c, if_pos ⟨by omega, c.2⟩]
    · rw [if_neg c, if_neg fun d => c ⟨by omega, d.2⟩]
theorem cO_succ : cO E (p + 1) = if fst E p = p then cO E p + 1 else cO E p := by
  unfold cO
  rw [List.range_succ, List.filter_append, List.length_append, List.filter_cons]
  by_cases h : fst E p = p
  · rw [if_pos h, if_pos (decide_eq_true h)]; rfl
  · rw [if_neg h, if_neg (by rw [decide_eq_false h]; simp)]; simp
theorem cO_next (h : fst E p = p) (hp : p < n) : cQ E p n = cO E (p + 1) := by
  rw [cO_succ, if_pos h]
  unfold cQ
  rw [part_all, if_neg (comp_ne hp)]
theorem cO_all : cO E n = (leasts n E).length := rfl
/-- What is left when all are gathered. -/
theorem lsO_all (hx : x < n) : lsO E n n x = if x ∈ leasts n E then comp n E x else [] := by
  unfold lsO
  by_cases h : fst E x = x
  · rw [if_pos ⟨hx, h⟩, if_pos (mem_leasts.2 ⟨hx, h⟩)]
  · rw [if_neg fun c => h c.2, if_neg fun c => h (mem_leasts.1 c).2]
end
end Ci
end Go.Proofs.YtpmlhgmmobpilaaGreatDoor

namespace Go.Proofs.YtpmlhgmmobpilaaGreatDoor
open Go.Maps (Keyed)
open Go.RowKit
namespace Ci
/-- An element reads as itself. -/
def tokR (v : Value) : Option (DataW Value × List MemPlace) := some (.held v, [])
/-- One value of a table of entries. -/
def putF {α : Type} [DecidableEq α] (f : α → Option Value) (x : α) (v : Option Value) : α → Option Value := fun y => if y = x then v else f y
theorem putF_same {α : Type} [DecidableEq α] (f : α → Option Value) (x : α) (v : Option Value) : putF f x v x = v := if_pos rfl
theorem putF_other {α : Type} [DecidableEq α] {f : α → Option Value} {x y : α} {v : Option Value} (h : y ≠ x) : putF f x v y = f y := if_neg h
/-- Block b is a map of c entries, which holds f x at the key that reads as κ x. -/
def MapK {α : Type} (P : Program) (k : TypeId) (κ : α → Lit) (w : World) (b c : Nat) (f : α → Option Value) : Prop :=
  ∃ D : DataW Value, w.ownsMap P k tokR b c D ∧ Maps.size D = c ∧ ∀ x, Maps.has D (κ x) = (f x).isSome ∧ ∀ z, D.atKey (κ x) z = match f x with | some v => .held v | none => z
section
variable {α : Type} {P : Program} {k t e : TypeId} {κ : α → Lit} {w w' : World} {b c : Nat} {f : α → Option Value}
theorem own_exact {R : Value → Option (DataW Value × List MemPlace)} {n : Nat} {D : DataW Value} (h : w.ownsMap P k R b n D) : w.ownsMap P k R b (Maps.size D) D := by
  obtain ⟨es, clock, hb, F, _, rfl⟩ := h
  refine ⟨es, clock, hb, F, ?_, rfl⟩
  simp [Maps.size, length_sorted]
theorem MapK.made (w : World) (P : Program) (k : TypeId) (κ : α → Lit) : MapK P k κ (w.alloc (.map #[] 0)) w.heap.size 0 fun _ => none :=
  ⟨.map [], World.ownsMap_made w P k tokR, rfl, fun _ => ⟨rfl, fun _ => rfl⟩⟩
theorem MapK.lt (h : MapK P k κ w b c f) : b < w.heap.size := by obtain ⟨D, h, _⟩ := h; exact h.lt
theorem MapK.kept {row : Option Nat} (h : MapK P k κ w b c f) (hg : w.grownBy w' row) (hne : some b ≠ row) : MapK P k κ w' b c f := by
  obtain ⟨D, h, r⟩ := h
  exact ⟨D, h.kept hg hne, r⟩
theorem MapK.block (h : MapK P k κ w b c f) (hb : w'.heap[b]? = w.heap[b]?) : MapK P k κ w' b c f := by
  obtain ⟨D, ⟨es, clock, h1, h2⟩, r⟩ := h
  exact ⟨D, ⟨es, clock, hb.trans h1, h2⟩, r⟩
theorem MapK.below (h : MapK P k κ w b c f) (hb : Below w.heap.size w w') : MapK P k κ w' b c f := h.block (hb.block b h.lt)
theorem MapK.alloc (h : MapK P k κ w b c f) (o : Obj) : MapK P k κ (w.alloc o) b c f := by
  obtain ⟨D, h, r⟩ := h
  exact ⟨D, h.alloc o, r⟩
theorem MapK.drew (h : MapK P k κ w b c f) : MapK P k κ w.drew b c f := h
theorem MapK.set (h : MapK P k κ w b c f) {a : Addr} (ha : b ≠ a.block) (u : Value) : MapK P k κ (w.setCell a u) b c f := by
  obtain ⟨D, h, r⟩ := h
  exact ⟨D, h.setCell ha u, r⟩
theorem MapK.congr {g : α → Option Value} (h : MapK P k κ w b c f) (e : ∀ x, f x = g x) : MapK P k κ w b c g := by rwa [← funext e]
theorem MapK.look (h : MapK P k κ w b c f) (K : Keyed P k) (ht : P.underlying t = some (.map k e)) {z : Value} (hz : (zeroValue e).run P w = .ok z w) {key : Value} {x : α} (hkey : keyOf P k key = some (κ x)) :
    (Instr.lookup t (.map (some b)) key false).run P w = .ok ((f x).getD z) w := by
  obtain ⟨D, h, _, hv⟩ := h
  obtain ⟨v, ps, hrun, hR⟩ := h.lookup K ht hz (zd := .held z) (zp := []) rfl hkey
  rw [hrun]
  rw [(hv x).2] at hR
  simp only [tokR, Option.some.injEq, Prod.mk.injEq] at hR
  cases hf : f x with
  | none => rw [hf] at hR; simp only [DataW.held.injEq] at hR; rw [hR.1]; rfl
  | some u => rw [hf] at hR; simp only [DataW.held.injEq] at hR; rw [hR.1]; rfl
theorem MapK.put [DecidableEq α] (h : MapK P k κ w b c f) (hκ : ∀ x y, κ x = κ y → x = y) (K : Keyed P k) (ht : P.underlying t = some (.map k e)) (hn : c < maxLen) {key : Value} {x : α} (hkey : keyOf P k key = some (κ x)) (v : Value) :
    ∃ w', (Instr.mapUpdate t (.map (some b)) key v).run P w = .ok () w' ∧ MapK P k κ w' b (if (f x).isSome then c else c + 1) (putF f x (some v)) ∧ w.grownBy w' (some b) := by
  obtain ⟨D, h, hs, hv⟩ := h
  obtain ⟨w', hrun, h2, hg⟩ := h.update K ht hn hkey (R := tokR) (val := v) rfl
  have hsz : Maps.size (D.put (κ x) (.held v)) = if (f x).isSome then c else c + 1 := by
    rw [Maps.size_put (h.tidy K), hs, (hv x).1]
  refine ⟨w', hrun, ⟨_, by have := own_exact h2; rwa [hsz] at this, hsz, fun y => ?_⟩, hg⟩
  by_cases hy : y = x
  · subst hy
    rw [putF_same]
    exact ⟨Maps.has_put_same h.isMap (K.key hkey) _, fun z => Maps.atKey_put_same h.isMap (K.key hkey) _ z⟩
  · have hne : κ y ≠ κ x := fun e => hy (hκ _ _ e)
    rw [putF_other hy, Maps.has_put_other hne]
    refine ⟨(hv y).1, fun z => ?_⟩
    rw [Maps.atKey_put_other hne]
    exact (hv y).2 z
theorem MapK.len (h : MapK P k κ w b c f) (ht : P.underlying t = some (.map k e)) (ty : TypeId) : (Builtin.len_ #[t] ty #[.map (some b)]).run P w = .ok (.int .i64 c) w := by
  obtain ⟨D, h, hs, _⟩ := h
  rw [h.len ht, hs]
end
/-- The keys of an int map. -/
def κi (a : Int) : Lit := .int .i64 a
end Ci
end Go.Proofs.YtpmlhgmmobpilaaGreatDoor
namespace Go.Proofs.YtpmlhgmmobpilaaGreatDoor
open Go.RowKit Go.Shelf
namespace Ci
open Nt
/-- A link: company, holder, part. -/
abbrev Lk := Int × Int × Bool × ByteArray × ByteArray
def lkL (x : Lk) : List Value := [.int .i64 x.1, .int .i64 x.2.1, .bool x.2.2.1, .string x.2.2.2.1, .string x.2.2.2.2]
def InLk (W : World) (A : Option Addr) (l : List Lk) : Prop :=
  0 < l.length → ∃ b off, A = some ⟨b, off, none⟩ ∧ b < W.heap.size ∧ ∀ j (h : j < l.length), W.cell? ⟨b, off + j * 5, none⟩ = some (.int .i64 l[j].1) ∧ W.cell? ⟨b, off + j * 5 + 1, none⟩ = some (.int .i64 l[j].2.1) ∧
    W.cell? ⟨b, off + j * 5 + 2, none⟩ = some (.bool l[j].2.2.1) ∧ W.cell? ⟨b, off + j * 5 + 3, none⟩ = some (.string l[j].2.2.2.1) ∧ W.cell? ⟨b, off + j * 5 + 4, none⟩ = some (.string l[j].2.2.2.2)
def InStr (W : World) (A : Option Addr) (l : List ByteArray) : Prop :=
  0 < l.length → ∃ b off, A = some ⟨b, off, none⟩ ∧ b < W.heap.size ∧ ∀ j (h : j < l.length), W.cell? ⟨b, off + j, none⟩ = some (.string l[j])
def InInt (W : World) (A : Option Addr) (l : List Int) : Prop :=
  0 < l.length → ∃ b off, A = some ⟨b, off, none⟩ ∧ b < W.heap.size ∧ ∀ j (h : j < l.length), W.cell? ⟨b, off + j, none⟩ = some (.int .i64 l[j])
theorem InLk.below {W W' : World} {A : Option Addr} {l : List Lk} (h : InLk W A l) (hb : Below W.heap.size W W') : InLk W' A l := fun h0 => by
  obtain ⟨b, off, e, hl, hc⟩ := h h0
  refine ⟨b, off, e, Nat.lt_of_lt_of_le hl hb.size, fun j hj => ?_⟩
  obtain ⟨c1, c2, c3, c4, c5⟩ := hc j hj
  exact ⟨(hb.cell (p := ⟨b, _, none⟩) hl).trans c1, (hb.cell (p := ⟨b, _, none⟩) hl).trans c2, (hb.cell (p := ⟨b, _, none⟩) hl).trans c3, (hb.cell (p := ⟨b, _, none⟩) hl).trans c4, (hb.cell (p := ⟨b, _, none⟩) hl).trans c5⟩
theorem InStr.below {W W' : World} {A : Option Addr} {l : List ByteArray} (h : InStr W A l) (hb : Below W.heap.size W W') : InStr W' A l := fun h0 => by
  obtain ⟨b, off, e, hl, hc⟩ := h h0
  exact ⟨b, off, e, Nat.lt_of_lt_of_le hl hb.size, fun j hj => (hb.cell (p := ⟨b, _, none⟩) hl).trans (hc j hj)⟩
theorem InInt.below {W W' : World} {A : Option Addr} {l : List Int} (h : InInt W A l) (hb : Below W.heap.size W W') : InInt W' A l := fun h0 => by
  obtain ⟨b, off, e, hl, hc⟩ := h h0
  exact ⟨b, off, e, Nat.lt_of_lt_of_le hl hb.size, fun j hj => (hb.cell (p := ⟨b, _, none⟩) hl).trans (hc j hj)⟩
def OkAt (i c : Nat) : Prop := (97 ≤ c ∧ c ≤ 122) ∨ (65 ≤ c ∧ c ≤ 90) ∨ (i ≠ 0 ∧ (c = 95 ∨ (48 ≤ c ∧ c ≤ 57)))
instance (i c : Nat) : Decidable (OkAt i c) := inferInstanceAs (Decidable (_ ∨ _))
def identB (s : ByteArray) : Bool := decide (∀ i (h : i < s.size), OkAt i s[i].toNat) && (decide (0 < s.size) && decide (s.size ≤ 24))
theorem ident_bad {s : ByteArray} {i : Nat} (h : i < s.size) (hb : ¬ OkAt i s[i].toNat) : identB s = false := by
  unfold identB
  rw [decide_eq_false fun hc => hb (hc i h)]
  rfl
theorem ident_all {s : ByteArray} (h : ∀ i (h : i < s.size), OkAt i s[i].toNat) : identB s = (decide (0 < s.size) && decide (s.size ≤ 24)) := by
  unfold identB
  rw [decide_eq_true h]
  rfl
abbrev Rw := Bool × ByteArray × ByteArray
/-- How many 6000ths a part is; 0 if it is not allowed. -/
def unitsN (x : Rw) : Nat :=
  if validB x.1 x.2.1 x.2.2 = false ∨ x.1 = true ∨ 4 < x.2.1.size ∨ 4 < x.2.2.size then 0
  else if val x.2.2 < val x.2.1 ∨ 6000 % val x.2.2 ≠ 0 then 0 else val x.2.1 * (6000 / val x.2.2)
def lkP (x : Lk) : Rw := (x.2.2.1, x.2.2.2.1, x.2.2.2.2)
def sumU (l : List Lk) (c : Int) : Nat := ((l.filter fun x => decide (x.1 = c)).map fun x => unitsN (lkP x)).sum
/-- Behind another one. -/
def Rise (a b : Lk) : Prop := a.1 < b.1 ∨ (a.1 = b.1 ∧ a.2.1 < b.2.1)
instance (a b : Lk) : Decidable (Rise a b) := inferInstanceAs (Decidable (_ ∨ _))
/-- A link by itself. -/
def Own (n : Nat) (x : Lk) : Prop := (0 ≤ x.1 ∧ x.1 < n) ∧ (0 ≤ x.2.1 ∧ x.2.1 < n) ∧ x.1 ≠ x.2.1 ∧ unitsN (lkP x) ≠ 0
instance (n : Nat) (x : Lk) : Decidable (Own n x) := inferInstanceAs (Decidable (_ ∧ _))
def LinkAt (n : Nat) (l : List Lk) (i : Nat) (h : i < l.length) : Prop := Own n l[i] ∧ (0 < i → Rise (l[i - 1]'(by omega)) l[i]) ∧ sumU (l.take (i + 1)) l[i].1 ≤ 6000
instance (n : Nat) (l : List Lk) (i : Nat) (h : i < l.length) : Decidable (LinkAt n l i h) := inferInstanceAs (Decidable (_ ∧ _))
/-- A structure by what it holds. -/
structure SR where
  ps : List ByteArray
  cap : List Lk
  vot : List Lk
/-- The links of capital, from holder to company. -/
def edges (s : SR) : List (Nat × Nat) := s.cap.map fun x => (x.2.1.toNat, x.1.toNat)
end Ci
end Go.Proofs.YtpmlhgmmobpilaaGreatDoor
namespace Go.Proofs.YtpmlhgmmobpilaaGreatDoor
open Go.RowKit Go.Shelf
namespace Ci
open Nt
end Ci
end Go.Proofs.YtpmlhgmmobpilaaGreatDoor
namespace Go.Proofs.YtpmlhgmmobpilaaGreatDoor
open Go.RowKit Go.Shelf
namespace Ci
open Nt
theorem valid_parts {g : Bool} {n d : ByteArray} (h : validB g n d = true) : isN n = true ∧ isN d = true ∧ val d ≠ 0 := by
  unfold validB at h
  simp only [Bool.and_eq_true] at h
  obtain ⟨h1, h2, h3, _⟩ := h
  exact ⟨h1, h2, by simpa using h3⟩
end Ci
end Go.Proofs.YtpmlhgmmobpilaaGreatDoor
namespace Go.Proofs.YtpmlhgmmobpilaaGreatDoor
open Go.RowKit Go.Shelf
namespace Ci
open Nt
def regsOf : Code → List Code
  | .loop c => regsOf c
  | .seq a b => regsOf a ++ regsOf b
  | .block _ c => regsOf c
  | .scope c => regsOf c
  | .cond _ a b => regsOf a ++ regsOf b
  | .region a b c => [.region a b c]
  | _ => []
end Ci
end Go.Proofs.YtpmlhgmmobpilaaGreatDoor
namespace Go.Proofs.YtpmlhgmmobpilaaGreatDoor
open Go.RowKit Go.Shelf
namespace Ci
open Nt
/-- A block that is a row of cells, and nothing else. -/
def Bk (W : World) (b : Nat) (t : TypeId) (l : List Value) : Prop := W.heap[b]? = some (.cells l.toArray t (0, 0))
section
variable {W W' : World} {b : Nat} {t : TypeId} {l : List Value}
theorem Bk.lt (h : Bk W b t l) : b < W.heap.size := (Array.getElem?_eq_some_iff.1 h).1
theorem Bk.cell (h : Bk W b t l) {j : Nat} {v : Value} (hj : l[j]? = some v) : W.cell? ⟨b, j, none⟩ = some v := by
  unfold Bk at h
  simp [World.cell?, h, hj]
theorem Bk.frozen (h : Bk W b t l) (j : Nat) : W.frozen? ⟨b, j, none⟩ = false := by
  unfold Bk at h
  simp [World.frozen?, h]
theorem Bk.new (w : World) (t : TypeId) (l : List Value) : Bk (w.alloc (.cells l.toArray t)) w.heap.size t l := heap_alloc_new _ _
theorem Bk.below (h : Bk W b t l) (hb : Below W.heap.size W W') : Bk W' b t l := (hb.block b h.lt).trans h
theorem Bk.alloc (h : Bk W b t l) (o : Obj) : Bk (W.alloc o) b t l := (Below.heap_alloc W o b h.lt).trans h
theorem Bk.grown {row : Option Nat} (h : Bk W b t l) (hg : W.grownBy W' row) (hne : some b ≠ row) : Bk W' b t l := (hg.block b h.lt hne).trans h
theorem Bk.far (h : Bk W b t l) {p : Addr} (hp : b ≠ p.block) (v : Value) : Bk (W.setCell p v) b t l := (Below.heap_setCell _ _ _ _ hp).trans h
theorem Bk.set (h : Bk W b t l) (j : Nat) (v : Value) : Bk (W.setCell ⟨b, j, none⟩ v) b t (l.set j v) := by
  unfold Bk at h ⊢
  simp [World.setCell, Array.getElem?_modify, h]
end
end Ci
end Go.Proofs.YtpmlhgmmobpilaaGreatDoor
namespace Go.Proofs.YtpmlhgmmobpilaaGreatDoor
open Go.RowKit Go.Shelf
namespace Ci
open Nt
/-- A structure in memory. -/
structure StIn (w : World) (s : SR) (Ap Ac Av : Option Addr) : Prop where
  ps : InStr w Ap s.ps
  cap : InLk w Ac s.cap
  vot : InLk w Av s.vot
  np : s.ps.length ≤ 140737488355328
  nc : s.cap.length ≤ 140737488355328
  nv : s.vot.length ≤ 140737488355328
  zp : ∀ x, x ∈ s.ps → x.size ≤ 140737488355328
  zc : ∀ x, x ∈ s.cap → x.2.2.2.1.size ≤ 140737488355328 ∧ x.2.2.2.2.size ≤ 140737488355328
  zv : ∀ x, x ∈ s.vot → x.2.2.2.1.size ≤ 140737488355328 ∧ x.2.2.2.2.size ≤ 140737488355328
  ic : ∀ x, x ∈ s.cap → (-9223372036854775808 ≤ x.1 ∧ x.1 ≤ 9223372036854775807) ∧ (-9223372036854775808 ≤ x.2.1 ∧ x.2.1 ≤ 9223372036854775807)
  iv : ∀ x, x ∈ s.vot → (-9223372036854775808 ≤ x.1 ∧ x.1 ≤ 9223372036854775807) ∧ (-9223372036854775808 ≤ x.2.1 ∧ x.2.1 ≤ 9223372036854775807)
theorem StIn.below {w w' : World} {s : SR} {Ap Ac Av : Option Addr} (h : StIn w s Ap Ac Av) (hb : Below w.heap.size w w') : StIn w' s Ap Ac Av :=
  ⟨h.ps.below hb, h.cap.below hb, h.vot.below hb, h.np, h.nc, h.nv, h.zp, h.zc, h.zv, h.ic, h.iv⟩
abbrev SC (s : SR) (Ap Ac Av : Option Addr) (cp cc cv : Nat) : List Value := [.slice Ap s.ps.length cp, .slice Ac s.cap.length cc, .slice Av s.vot.length cv]
end Ci
end Go.Proofs.YtpmlhgmmobpilaaGreatDoor
namespace Go.Proofs.YtpmlhgmmobpilaaGreatDoor
open Go.RowKit Go.Shelf
namespace Ci
def intsL (l : List Nat) : List Value := l.map fun (q : Nat) => .int .i64 (q : Int)
theorem intsL_snoc (l : List Nat) (q : Nat) : intsL (l ++ [q]) = intsL l ++ [.int .i64 (q : Int)] := by simp [intsL]
def OffB (u v : Value) : Prop := ∀ b, u.ownBlock = some b → v.ownBlock ≠ some b
/-- Block R has the headers of n slices of ints. -/
structure Gr (W : World) (B R n : Nat) (v : Nat → Value) (adj : Nat → List Nat) : Prop where
  lt : R < W.heap.size
  hd : ∀ i, i < n → W.cell? ⟨R, i, none⟩ = some (v i)
  fr : ∀ i, W.frozen? ⟨R, i, none⟩ = false
  rows : ∀ i, i < n → W.ownsRow B 3 1 (v i) (adj i).length (intsL (adj i))
  apart : ∀ i j, i < n → j < n → i ≠ j → OffB (v i) (v j)
  ne : ∀ i, i < n → (v i).ownBlock ≠ some R
  lowR : B ≤ R
section
variable {W W' : World} {B R n i : Nat} {v : Nat → Value} {adj : Nat → List Nat}
theorem own_below' {base : Nat} {e : TypeId} {size m : Nat} {u : Value} {xs : List Value} (h : W.ownsRow base e size u m xs) (hb : Below W.heap.size W W') : W'.ownsRow base e size u m xs :=
  h.kept (row := none) ⟨hb.os, hb.tape, hb.output, hb.size, fun k hk _ => hb.block k hk⟩ (by
    cases hu : u.ownBlock with
    | none => exact .inl rfl
    | some b => exact .inr (by simp))
theorem Gr.below (h : Gr W B R n v adj) (hb : Below W.heap.size W W') : Gr W' B R n v adj :=
  ⟨Nat.lt_of_lt_of_le h.lt hb.size, fun i hi => (hb.cell (p := ⟨R, i, none⟩) h.lt).trans (h.hd i hi), fun i => (hb.frozen (p := ⟨R, i, none⟩) h.lt).trans (h.fr i), fun i hi => own_below' (h.rows i hi) hb, h.apart, h.ne, h.lowR⟩
theorem Gr.alloc (h : Gr W B R n v adj) (o : Obj) : Gr (W.alloc o) B R n v adj := h.below ((Below.refl _ W).alloc (Nat.le_refl _) o)
theorem Gr.drew (h : Gr W B R n v adj) : Gr W.drew B R n v adj := h.below (Below.refl _ W).drew
theorem Gr.mono {B' : Nat} (h : Gr W B R n v adj) (hb : B' ≤ B) : Gr W B' R n v adj :=
  ⟨h.lt, h.hd, h.fr, fun i hi => by
    obtain ⟨h1, h2⟩ := h.rows i hi
    refine ⟨h1, ?_⟩
    rcases h2 with h2 | ⟨g, cap, cur, hv, hg, hh⟩
    · exact .inl h2
    · exact .inr ⟨g, cap, cur, hv, Nat.le_trans hb hg, hh⟩, h.apart, h.ne, Nat.le_trans hb h.lowR⟩
theorem Gr.start (w : World) {B : Nat} (hB : B ≤ w.heap.size) (n : Nat) (t : TypeId) : Gr (w.alloc (.cells (madeCells #[.slice none 0 0] n) t)) B w.heap.size n (fun _ => .slice none 0 0) fun _ => [] := by
  have h := heap_alloc_new w (.cells (madeCells #[(.slice none 0 0 : Value)] n) t)
  refine ⟨by simp, fun x hx => ?_, fun x => by simp only [World.frozen?, h]; simp, fun _ _ => World.ownsRow_nil _ _ _ _, fun _ _ _ _ _ b hb => (by cases hb), fun _ _ hb => (by cases hb), hB⟩
  simp only [World.cell?, h]
  simp [madeCells, hx]
  rw [Nat.mod_one]
  rfl
def setL (adj : Nat → List Nat) (x q : Nat) : Nat → List Nat := fun i => if i = x then adj i ++ [q] else adj i
/-- A row has grown, and its header is stored anew. -/
theorem Gr.step (h : Gr W B R n v adj) {x q : Nat} (hx : x < n) {u : Value} (hg : W.grownBy W' (v x).ownBlock) (ho : W'.ownsRow B 3 1 u ((adj x).length + 1) (intsL (adj x) ++ [.int .i64 (q : Int)])) (hn : u.ownBlock = (v x).ownBlock ∨ u.ownBlock = some W.heap.size) :
    Gr (W'.setCell ⟨R, x, none⟩ u) B R n (fun i => if i = x then u else v i) (setL adj x q) := by
  have hRx : some R ≠ (v x).ownBlock := fun e => h.ne x hx e.symm
  have hbR : W'.heap[R]? = W.heap[R]? := hg.block R h.lt hRx
  have hcell : ∀ i, W'.cell? ⟨R, i, none⟩ = W.cell? ⟨R, i, none⟩ := fun i => World.cell?_of_block (a := ⟨R, i, none⟩) hbR
  have hfr : ∀ i, W'.frozen? ⟨R, i, none⟩ = W.frozen? ⟨R, i, none⟩ := fun i => World.frozen?_of_block (a := ⟨R, i, none⟩) hbR
  have huR : u.ownBlock ≠ some R := fun e => by
    rcases hn with hn | hn
    · exact h.ne x hx (by rw [← hn, e])
    · rw [e] at hn
      have := h.lt
      simp only [Option.some.injEq] at hn
      omega
  have hne : ∀ a b : Nat, a ≠ b → (⟨R, a, none⟩ : Addr) ≠ ⟨R, b, none⟩ := fun a b e1 e2 => by injection e2 with _ e3; exact e1 e3
  have far : ∀ {m : Nat} {z : Value} {xs : List Value}, W'.ownsRow B 3 1 z m xs → z.ownBlock ≠ some R → (W'.setCell ⟨R, x, none⟩ u).ownsRow B 3 1 z m xs := fun h hz =>
    h.kept (row := some R) ⟨rfl, rfl, rfl, by simp, fun k _ hk => Below.heap_setCell _ _ _ _ (fun e => hk (by rw [e]))⟩ (.inr hz)
  have hoff : ∀ i, i < n → i ≠ x → OffB (v i) u := fun i hi hix b hb e => by
    rcases hn with hn | hn
    · exact h.apart i x hi hx hix b hb (by rw [← hn, e])
    · have := ((h.rows i hi).lt b hb).2
      rw [e] at hn
      simp only [Option.some.injEq] at hn
      omega
  refine ⟨by have := hg.size; have := h.lt; simp; omega, fun i hi => ?_, fun i => by simpa [hfr] using h.fr i, fun i hi => ?_, fun i j hi hj e => ?_, fun i hi => ?_, h.lowR⟩
  · by_cases e : i = x
    · subst e
      rw [if_pos rfl]
      exact World.cell?_setCell_same _ _ _ ((hcell i).trans (h.hd i hi))
    · rw [if_neg e, World.cell?_setCell_other _ _ _ _ (by first | exact hne _ _ e | exact hne _ _ fun c => e c.symm), hcell]
      exact h.hd i hi
  · by_cases e : i = x
    · subst e
      rw [if_pos rfl]
      have : setL adj i q i = adj i ++ [q] := if_pos rfl
      rw [this, List.length_append, intsL_snoc]
      exact far ho huR
    · rw [if_neg e]
      have : setL adj x q i = adj i := if_neg e
      rw [this]
      refine far ((h.rows i hi).kept hg ?_) (h.ne i hi)
      cases hv : (v i).ownBlock with
      | none => exact .inl rfl
      | some b => exact .inr fun c => h.apart i x hi hx e b hv c.symm
  · by_cases e1 : i = x
    · have e2 : j ≠ x := fun c => e (by rw [e1, c])
      rw [if_pos e1, if_neg e2]
      exact fun b hb hc => hoff j hj e2 b hc hb
    · rw [if_neg e1]
      by_cases e2 : j = x
      · rw [if_pos e2]
        exact hoff i hi e1
      · rw [if_neg e2]
        exact h.apart i j hi hj e
  · by_cases e : i = x
    · rw [if_pos e]; exact huR
    · rw [if_neg e]; exact h.ne i hi
theorem Gr.congr {a' : Nat → List Nat} (h : Gr W B R n v adj) (e : ∀ i, i < n → adj i = a' i) : Gr W B R n v a' :=
  ⟨h.lt, h.hd, h.fr, fun i hi => by rw [← e i hi]; exact h.rows i hi, h.apart, h.ne, h.lowR⟩
end
end Ci
end Go.Proofs.YtpmlhgmmobpilaaGreatDoor
namespace Go.Proofs.YtpmlhgmmobpilaaGreatDoor
open Go.RowKit Go.Shelf
namespace Ci
section
variable {w w' : World} {base : Nat} {e : TypeId} {size : Nat} {u v v' : Value} {n : Nat} {xs : List Value}
theorem run_append_at {P : Program} (t ty e : TypeId) (i : TypeInfo) (z : Value) (size bytes : Nat) (ht : P.underlying t = some (.slice e)) (hi : P.info? e = some i) (hz : i.zero = some z)
    (hsize : i.size = size) (hby : i.bytes = bytes) (v : Value) (n : Nat) (xs : List Value) (hown : w.ownsRow base e size v n xs)
    (a : Addr) (m c : Nat) (news : List Value) (hl : news.length = m * size) (hnews : ∀ j u, news[j]? = some u → w.cell? (a.add j) = some u) (h1 : ∀ u ∈ news, u.oneCell' = true) (hm : 0 < m)
    (h63 : n + m ≤ maxLen) (hbytes : (n + m) * bytes ≤ 140737488355328) {v' : Value} {w' : World} (hr : (Builtin.append_ #[t, t] ty #[v, .slice (some a) m c]).run P w = .ok v' w') :
    v'.ownBlock = v.ownBlock ∨ v'.ownBlock = some w.heap.size := by
  subst hsize
  subst hby
  have hsmall : n + m ≤ 9223372036854775807 := by simp only [maxLen] at h63; omega
  rcases hown.2 with ⟨rfl, rfl⟩ | ⟨g, cap, cur, rfl, _, hg, _, hcm, hcs, _⟩
  · have hr2 := run_append_nil (P := P) w t ty e i z ht hi hz a m c news hl hnews (by omega) (by omega) (by have hb := hbytes; simp only [Nat.zero_add] at hb; omega)
    rw [hr2] at hr
    simp only [Result.ok.injEq] at hr
    rw [← hr.1]
    exact .inr rfl
  · by_cases hroom : n + m ≤ cap
    · have hfit : n * i.size + news.length ≤ cur.size := by rw [hl, hcs, ← Nat.add_mul]; exact Nat.mul_le_mul_right _ hroom
      have hr2 := run_append_room (P := P) w t ty e i ht hi g n cap cur hg a m c news hl hnews h1 hroom hfit
      rw [hr2] at hr
      simp only [Result.ok.injEq] at hr
      rw [← hr.1]
      exact .inl rfl
    · have holds : ∀ j u, xs[j]? = some u → w.cell? ((⟨g, 0, none⟩ : Addr).add j) = some u := hown.cells (g := g) rfl
      have hr2 := run_append_grow (P := P) w t ty e i z ht hi hz ⟨g, 0, none⟩ n cap xs hown.1 holds a m c news hl hnews (by omega) (by omega) (growslice_fits (by omega) hbytes)
      rw [hr2] at hr
      simp only [Result.ok.injEq] at hr
      rw [← hr.1]
      exact .inr rfl
end
theorem one_cell1 (v : Value) (h : v.oneCell' = true) : ∀ u ∈ [v], u.oneCell' = true := fun u hu => by rw [List.mem_singleton.1 hu]; exact h
theorem head_new (w : World) (v : Value) (t : TypeId) : ∀ j u, [v][j]? = some u → (w.alloc (.cells #[v] t)).cell? (Addr.add ⟨w.heap.size, 0, none⟩ j) = some u := by
  intro j u hj
  match j, hj with
  | 0, hj => simp at hj; subst hj; simp [Addr.add]
  | j + 1, hj => simp at hj
theorem wp_append_new {P : Program} (w : World) {o : Oper} {a : Act} {K : Act → World → Prop} {Q : Exit → Act → World → Prop} (s x : Operand) (t : TypeId)
    (ho : o.op = .call { callee := .builtin .append, args := #[s, x], argTypes := #[t, t] })
    (base : Nat) (e : TypeId) (i : TypeInfo) (z : Value) (size bytes : Nat) (ht : P.underlying t = some (.slice e)) (hi : P.info? e = some i) (hz : i.zero = some z)
    (hsize : i.size = size) (hby : i.bytes = bytes) (hzs : z.cells.size = size) (hsz : 0 < size)
    (v : Value) (n : Nat) (xs : List Value) (hs : a.eval s = v) (hown : w.ownsRow base e size v n xs)
    (ad : Addr) (m c : Nat) (news : List Value) (hx : a.eval x = .slice (some ad) m c) (hl : news.length = m * size) (hnews : ∀ j u, news[j]? = some u → w.cell? (ad.add j) = some u) (h1 : ∀ u ∈ news, u.oneCell' = true) (hm : 0 < m)
    (h63 : n + m ≤ maxLen) (hbytes : (n + m) * bytes ≤ 140737488355328) (hbase : base ≤ w.heap.size)
    (h : ∀ v' w', w'.ownsRow base e size v' (n + m) (xs ++ news) → w.grownBy w' v.ownBlock → (v'.ownBlock = v.ownBlock ∨ v'.ownBlock = some w.heap.size) → K (a.put o.dst v') w') : o.wp P a w K Q := by
  obtain ⟨v', w', hr, h2, h3, _⟩ := run_append_own (P := P) w base t o.type e i z size bytes ht hi hz hsize hby hzs hsz v n xs hown ad m c news hl hnews h1 h63 hbytes hbase
  have h5 := run_append_at (P := P) t o.type e i z size bytes ht hi hz hsize hby v n xs hown ad m c news hl hnews h1 hm h63 hbytes hr
  unfold Oper.wp execOp
  simp only [ho, resolve, invoke, builtin, Sem.run_bind, Sem.run_pure, Result.andThen_ok, List.map_toArray, List.map_cons, List.map_nil, hs, hx, hr]
  exact h v' w' h2 h3 h5
end Ci
end Go.Proofs.YtpmlhgmmobpilaaGreatDoor
namespace Go.Proofs.YtpmlhgmmobpilaaGreatDoor
open Go.RowKit Go.Shelf
namespace Ci
open Nt
theorem infoG : (Tryz.prog.info? 24).map (fun i => (i.zero, i.size, i.bytes)) = some (some (.slice none 0 0), 1, 24) := by kernel_rfl
theorem infoI : (Tryz.prog.info? 3).map (fun i => (i.zero, i.size, i.bytes)) = some (some (.int .i64 0), 1, 8) := by kernel_rfl
/-- Whom party p leads to, by the first k links. -/
def adjO (E : List (Nat × Nat)) (k p : Nat) : List Nat := ((E.take k).filter fun x => decide (x.1 = p)).map (·.2)
theorem adjO_succ {E : List (Nat × Nat)} {k : Nat} (h : k < E.length) (p : Nat) : adjO E (k + 1) p = setL (adjO E k) E[k].1 E[k].2 p := by
  unfold adjO setL
  rw [List.take_succ_eq_append_getElem h, List.filter_append, List.map_append]
  by_cases e : E[k].1 = p
  · rw [if_pos e.symm, List.filter_cons, if_pos (by simpa using e)]; rfl
  · rw [if_neg (fun c => e c.symm), List.filter_cons, if_neg (by simpa using e)]; simp
set_option maxRecDepth 100000 in
set_option maxHeartbeats 16000000 in
theorem of_any (s : SR) (Ap Ac Av : Option Addr) (cp cc cv : Nat) (w : World) (hs : StIn w s Ap Ac Av) (hn : s.ps.length ≤ 100) (hc3 : s.cap.length ≤ 300) (hin : ∀ x, x ∈ s.cap → (0 ≤ x.1 ∧ x.1 < s.ps.length) ∧ (0 ≤ x.2.1 ∧ x.2.1 < s.ps.length)) :
    Calls Tryz.prog 121 #[.agg #[.slice Ap s.ps.length cp, .slice Ac s.cap.length cc, .slice Av s.vot.length cv]] w fun e w' => (∃ R v, e = .returned (.slice (some ⟨R, 0, none⟩) s.ps.length s.ps.length) ∧ Gr w' w.heap.size R s.ps.length v (adjO (edges s) (edges s).length)) ∧ Below w.heap.size w w' := by
  have hmk := run_make_row' (P := Tryz.prog) 137 24 (.slice none 0 0) 24 Tryz.underlying137 infoG rfl .i64 .i64 s.ps.length (by omega) (by omega)
  have hX0 : Hid (Bk (w.alloc (.cells #[.slice Ap s.ps.length cp, .slice Ac s.cap.length cc, .slice Av s.vot.length cv] 54)) w.heap.size 54 (SC s Ap Ac Av cp cc cv)) := Bk.new w _ _
  have hB0 : Hid (Below w.heap.size w (w.alloc (.cells #[.slice Ap s.ps.length cp, .slice Ac s.cap.length cc, .slice Av s.vot.length cv] 54))) := (Below.refl _ w).alloc (Nat.le_refl _) _
  have u0 := hX0.out.cell (j := 0) rfl
  have u1 := hX0.out.cell (j := 1) rfl
  have u9 := hX0.out.lt
  have hG0 : Hid (Gr ((w.alloc (.cells #[.slice Ap s.ps.length cp, .slice Ac s.cap.length cc, .slice Av s.vot.length cv] 54)).alloc (.cells (madeCells #[(.slice none 0 0 : Value)] s.ps.length) 24)) w.heap.size (w.heap.size + 1) s.ps.length (fun _ => .slice none 0 0) (adjO (edges s) 0)) := by
    have h := Gr.start (w.alloc (.cells #[.slice Ap s.ps.length cp, .slice Ac s.cap.length cc, .slice Av s.vot.length cv] 54)) (B := w.heap.size) (by simp) s.ps.length 24
    rw [World.size_alloc] at h
    exact h.congr fun i _ => rfl
  have hB1 : Hid (Below w.heap.size w ((w.alloc (.cells #[.slice Ap s.ps.length cp, .slice Ac s.cap.length cc, .slice Av s.vot.length cv] 54)).alloc (.cells (madeCells #[(.slice none 0 0 : Value)] s.ps.length) 24))) := hB0.out.alloc hB0.out.size _
  have hX1 := Lib.hid (hX0.out.alloc (.cells (madeCells #[(.slice none 0 0 : Value)] s.ps.length) 24))
  have v1 := hX1.out.cell (j := 1) rfl
  have v9 := hX1.out.lt
  obtain ⟨i0, hi0, hzz⟩ := Option.map_eq_some_iff.1 infoI
  simp only [Prod.mk.injEq] at hzz
  obtain ⟨hz0, hz1, hz2⟩ := hzz
  replace hi0 := Lib.hid hi0
  replace hz0 := Lib.hid hz0
  replace hz1 := Lib.hid hz1
  replace hz2 := Lib.hid hz2
  have hel : Hid ((edges s).length = s.cap.length) := by unfold Hid edges; simp
  have hap : Hid (∀ k p, (adjO (edges s) k p).length ≤ 300) := fun k p => by
    unfold adjO
    rw [List.length_map]
    have h1 := List.length_filter_le (fun x : Nat × Nat => decide (x.1 = p)) ((edges s).take k)
    have h2 : ((edges s).take k).length ≤ (edges s).length := List.length_take_le' _ _
    have := hel.out
    omega
  replace hs := Lib.hid hs
  replace hin := Lib.hid hin
  go_enter Tryz.func121, Tryz.ntmps121
  go_wp2
  clear hmk u0 u1 u9 v1 v9
  go_loopw [13] (fun i wr => ∃ (k : Nat) (v : Nat → Value), k ≤ s.cap.length ∧ i = .int .i64 (k : Int) ∧ Hid (Below w.heap.size w wr) ∧ Hid (Gr wr w.heap.size (w.heap.size + 1) s.ps.length v (adjO (edges s) k))) (fun i _ => s.cap.length - (intOf i).toNat)
  case atStart => exact ⟨0, _, Nat.zero_le _, rfl, hB1, hG0⟩
  case round =>
    obtain ⟨k, v, hk, rfl, hB, hG⟩ := hrel
    clear hX0 hB0 hG0 hB1 hX1
    by_cases hlt : k < s.cap.length
    · obtain ⟨b, o, rfl, hbl, hcc⟩ := (hs.out.below hB.out).cap (by omega)
      obtain ⟨e1, e2, e3, e4, e5⟩ := hcc k hlt
      have hix := hin.out s.cap[k] (List.getElem_mem hlt)
      have hek : Hid (∀ p, adjO (edges s) (k + 1) p = setL (adjO (edges s) k) s.cap[k].2.1.toNat s.cap[k].1.toNat p) := fun p => by
        have h := adjO_succ (E := edges s) (k := k) (by rw [hel.out]; exact hlt) p
        have h2 : (edges s)[k]'(by rw [hel.out]; exact hlt) = (s.cap[k].2.1.toNat, s.cap[k].1.toNat) := by unfold edges; simp
        rw [h2] at h
        exact h
      obtain ⟨x, hx⟩ : ∃ x, x = s.cap[k] := ⟨_, rfl⟩
      rw [← hx] at e1 e2 e3 e4 e5 hix hek
      obtain ⟨coI, hoI, g, nn, dd⟩ := x
      obtain ⟨⟨i1, i2⟩, i3, i4⟩ := hix
      replace i1 : 0 ≤ coI := i1
      replace i2 : coI < s.ps.length := i2
      replace i3 : 0 ≤ hoI := i3
      replace i4 : hoI < s.ps.length := i4
      obtain ⟨co, rfl⟩ : ∃ c : Nat, coI = (c : Int) := ⟨coI.toNat, by omega⟩
      obtain ⟨ho, rfl⟩ : ∃ c : Nat, hoI = (c : Int) := ⟨hoI.toNat, by omega⟩
      replace e1 : wr.cell? ⟨b, o + k * 5, none⟩ = some (.int .i64 (co : Int)) := e1
      replace e2 : wr.cell? ⟨b, o + k * 5 + 1, none⟩ = some (.int .i64 (ho : Int)) := e2
      replace e3 : wr.cell? ⟨b, o + k * 5 + 2, none⟩ = some (.bool g) := e3
      replace e4 : wr.cell? ⟨b, o + k * 5 + 3, none⟩ = some (.string nn) := e4
      replace e5 : wr.cell? ⟨b, o + k * 5 + 4, none⟩ = some (.string dd) := e5
      replace hek : Hid (∀ p, adjO (edges s) (k + 1) p = setL (adjO (edges s) k) ho co p) := fun p => by have h := hek.out p; simpa using h
      replace hx := Lib.hid hx
      have j0 : (0 : Int) ≤ (k : Int) := by omega
      have j1 : (k : Int) < (s.cap.length : Int) := by omega
      have hho : ho < s.ps.length := by omega
      have hx1 : Hid (Bk (wr.alloc (.cells #[.int .i64 (co : Int), .int .i64 (ho : Int), .bool g, .string nn, .string dd] 94)) wr.heap.size 94 [.int .i64 (co : Int), .int .i64 (ho : Int), .bool g, .string nn, .string dd]) := Bk.new wr _ _
      have hBw := Lib.hid (hB.out.alloc hB.out.size (.cells #[.int .i64 (co : Int), .int .i64 (ho : Int), .bool g, .string nn, .string dd] 94))
      have hGw := Lib.hid (hG.out.alloc (.cells #[.int .i64 (co : Int), .int .i64 (ho : Int), .bool g, .string nn, .string dd] 94))
      have hxw : w.heap.size + 1 < wr.heap.size := hG.out.lt
      clear hcc
      go_wp2_with fail
      obtain ⟨W1, hW1⟩ : ∃ W, W = wr.alloc (.cells #[.int .i64 (co : Int), .int .i64 (ho : Int), .bool g, .string nn, .string dd] 94) := ⟨_, rfl⟩
      rw [← hW1] at hx1 hBw hGw ⊢
      obtain ⟨xb, hxb⟩ : ∃ b, b = wr.heap.size := ⟨_, rfl⟩
      rw [← hxb] at hx1 hxw ⊢
      obtain ⟨vh, hvh⟩ : ∃ x, x = v ho := ⟨_, rfl⟩
      have hhd := hGw.out.hd ho hho
      have hrow := Lib.hid (hGw.out.rows ho hho)
      rw [← hvh] at hhd hrow
      have hnx : Hid (vh.ownBlock ≠ some xb) := fun e => by
        have h1 := (hG.out.rows ho hho).lt xb (by rw [← hvh]; exact e)
        omega
      have hnR : Hid (vh.ownBlock ≠ some (w.heap.size + 1)) := by rw [hvh]; exact hG.out.ne ho hho
      replace hvh := Lib.hid hvh
      clear hxb
      clear hW1 hB hG e1 e2 e3 e4 e5 hbl
      have hlR := hGw.out.lt
      have hlx := hx1.out.lt
      have HO : Hid (∀ W, Below W1.heap.size W1 W → W.cell? ⟨xb, 0, none⟩ = some (.int .i64 (co : Int)) ∧ W.cell? ⟨xb, 1, none⟩ = some (.int .i64 (ho : Int))) := fun W h =>
        ⟨(hx1.out.below h).cell (j := 0) rfl, (hx1.out.below h).cell (j := 1) rfl⟩
      have hal := hap.out k ho
      have q0 : (0 : Int) ≤ (ho : Int) := by omega
      have q1 : (ho : Int) < (s.ps.length : Int) := by omega
      refine wp_region_noPanic ?_
      refine wp_region_held_drew (S := fun W => W.cell? ⟨xb, 0, none⟩ = some (.int .i64 (co : Int)) ∧ W.cell? ⟨xb, 1, none⟩ = some (.int .i64 (ho : Int))) (by kernel_rfl) (HO.out _ (Below.refl _ _).drew) (fun hS0 => ?_)
      replace hS0 := Lib.hid hS0
      refine wpAnyH_take (i := 0) (oi := _) (v := ?_) rfl (by kernel_rfl) (by kernel_rfl) (by kernel_rfl) (fun _ _ _ h => h) (Or.inl ⟨by rfl, ?_⟩) (hS0.out) ?_
      rotate_left
      · (intro w hSw; obtain ⟨q1, q2⟩ := hSw; go_simp <;> with_reducible rfl)
      try simp only [Act.put, List.setIfInBounds_toArray]
      refine wpAnyH_take (i := 1) (oi := _) (v := ?_) rfl (by kernel_rfl) (by kernel_rfl) (by kernel_rfl) (fun _ _ _ h => h) (Or.inl ⟨by rfl, ?_⟩) (hS0.out) ?_
      rotate_left
      · (intro w hSw; obtain ⟨q1, q2⟩ := hSw; go_simp <;> with_reducible rfl)
      try simp only [Act.put]
      refine wpAnyH_take (i := 2) (oi := _) (v := ?_) rfl (by kernel_rfl) (by kernel_rfl) (by kernel_rfl) (fun _ _ _ h => h) (Or.inl ⟨by rfl, ?_⟩) (hS0.out) ?_
      rotate_left
      · (intro w hSw; obtain ⟨q1, q2⟩ := hSw; go_simp <;> with_reducible rfl)
      try simp only [Act.put]
      refine wpAnyH_take (i := 3) (oi := _) (v := ?_) rfl (by kernel_rfl) (by kernel_rfl) (by kernel_rfl) (fun _ _ _ h => h) (Or.inl ⟨by rfl, ?_⟩) (hS0.out) ?_
      rotate_left
      · (intro w hSw; obtain ⟨q1, q2⟩ := hSw; go_simp <;> with_reducible rfl)
      try simp only [Act.put]
      refine wpAnyH_take (i := 4) (oi := _) (v := ?_) rfl (by kernel_rfl) (by kernel_rfl) (by kernel_rfl) (fun _ _ _ h => h) (Or.inl ⟨by rfl, ?_⟩) (hS0.out) ?_
      rotate_left
      · (intro w hSw; obtain ⟨q1, q2⟩ := hSw; go_simp <;> with_reducible rfl)
      try simp only [Act.put]
      refine wpAnyH_take (i := 5) (oi := _) (v := ?_) rfl (by kernel_rfl) (by kernel_rfl) (by kernel_rfl) (fun _ _ _ h => h) (Or.inl ⟨by rfl, ?_⟩) (hS0.out) ?_
      rotate_left
      · (intro w hSw; obtain ⟨q1, q2⟩ := hSw; go_simp <;> with_reducible rfl)
      try simp only [Act.put]
      refine wpAnyH_take (i := 6) (oi := _) (v := ?_) rfl (by kernel_rfl) (by kernel_rfl) (by kernel_rfl) (fun _ _ _ h => h) (Or.inl ⟨by rfl, ?_⟩) (hS0.out) ?_
      rotate_left
      · (intro w hSw; obtain ⟨q1, q2⟩ := hSw; go_simp <;> with_reducible rfl)
      try simp only [Act.put]
      refine wpAnyH_take (i := 8) (oi := _) (v := ?_) rfl (by kernel_rfl) (by kernel_rfl) (by kernel_rfl) (fun _ _ _ h => h) (Or.inl ⟨by rfl, ?_⟩) (hS0.out) ?_
      rotate_left
      · (intro w hSw; obtain ⟨q1, q2⟩ := hSw; go_simp <;> with_reducible rfl)
      try simp only [Act.put]
      refine wpAnyH_take (i := 9) (oi := _) (v := ?_) rfl (by kernel_rfl) (by kernel_rfl) (by kernel_rfl) (fun _ _ _ h => h) (Or.inl ⟨by rfl, ?_⟩) (hS0.out) ?_
      rotate_left
      · (intro w hSw; obtain ⟨q1, q2⟩ := hSw; go_simp <;> with_reducible rfl)
      try simp only [Act.put]
      have hBe : Hid (Below W1.heap.size W1 W1.drew) := (Below.refl _ W1).drew
      have hB3 : Hid (Below W1.heap.size W1 (W1.alloc (.cells #[.int .i64 (co : Int)] 3)).drew) := ((Below.refl _ W1).alloc (Nat.le_refl _) _).drew
      refine wpAnyH_ready (rs := [7, 10]) (by kernel_rfl) (by simp) ?_
      refine AllReadyH.cons (o := _) rfl (fun K hK => ?_) ?_
      · have hh := (hBe.out.cell (p := ⟨w.heap.size + 1, ho, none⟩) hlR).trans hhd
        go_simp
        clear hh
        refine hK.out _ _ (HO.out _ hBe.out) (fun _ => ?_)
        clear hK K
        try simp only [Act.put, List.setIfInBounds_toArray, List.set_cons_zero, List.set_cons_succ]
        refine wpAnyH_ready (rs := [10]) (by kernel_rfl) (by simp) ?_
        refine AllReadyH.cons (o := _) rfl (fun K hK => ?_) ?_
        · go_simp
          refine hK.out _ _ (HO.out _ hB3.out) (fun _ => ?_)
          clear hK K
          try simp only [Act.put, List.setIfInBounds_toArray, List.set_cons_zero, List.set_cons_succ]
          refine wpAnyH_ready (rs := [11]) (by kernel_rfl) (by simp) ?_
          refine AllReadyH.cons (o := _) rfl (fun K hK => ?_) ?_
          · rw [if_pos (by rfl)]
            refine wp_append_new _ _ _ 24 rfl w.heap.size 3 i0 (.int .i64 0) 1 8 Tryz.underlying24 hi0.out hz0.out hz1.out hz2.out rfl (by decide) vh (adjO (edges s) k ho).length (intsL (adjO (edges s) k ho)) rfl (own_below' hrow.out hB3.out) ⟨W1.heap.size, 0, none⟩ 1 1 [.int .i64 (co : Int)] rfl rfl (head_new W1 _ _) (one_cell1 _ rfl) (by omega) (by unfold maxLen; omega) (by omega) (hBw.out.trans (hB3.out.mono hBw.out.size)).size ?_
            intro vb wb hob hgb hnb
            have hx4 : Hid (Bk wb xb 94 [.int .i64 (co : Int), .int .i64 (ho : Int), .bool g, .string nn, .string dd]) := (hx1.out.below hB3.out).grown hgb (fun e => hnx.out e.symm)
            have hB2 := Lib.hid (hBw.out.trans (hB3.out.mono hBw.out.size))
            have hB4 : Hid (Below w.heap.size w wb) := hB2.out.grown hgb hB2.out.size (fun b e => (hrow.out.lt b e).1)
            have hG9 : Hid (Gr (wb.setCell ⟨w.heap.size + 1, ho, none⟩ vb) w.heap.size (w.heap.size + 1) s.ps.length (fun i => if i = ho then vb else v i) (adjO (edges s) (k + 1))) := by
              have h := ((hGw.out.alloc (.cells #[.int .i64 (co : Int)] 3)).drew).step (q := co) hho (u := vb) (W' := wb) (by rw [← hvh.out]; exact hgb) hob (by rw [← hvh.out]; exact hnb)
              exact h.congr fun i _ => (hek.out i).symm
            have hB9 : Hid (Below w.heap.size w (wb.setCell ⟨w.heap.size + 1, ho, none⟩ vb)) := hB4.out.setCell (p := ⟨w.heap.size + 1, ho, none⟩) (Nat.le_succ _) _
            have hbk := hgb.block (w.heap.size + 1) (Nat.lt_of_lt_of_le hlR hB3.out.size) (fun e => hnR.out e.symm)
            have y1 := (World.cell?_of_block (a := ⟨w.heap.size + 1, ho, none⟩) hbk).trans ((hB3.out.cell (p := ⟨w.heap.size + 1, ho, none⟩) hlR).trans hhd)
            have y2 := (World.frozen?_of_block (a := ⟨w.heap.size + 1, ho, none⟩) hbk).trans ((hB3.out.frozen (p := ⟨w.heap.size + 1, ho, none⟩) hlR).trans (hGw.out.fr ho))
            have y3 : w.heap.size + 1 < wb.heap.size := Nat.lt_of_lt_of_le (Nat.lt_of_lt_of_le hlR hB3.out.size) hgb.size
            rcases hob.2 with ⟨_, hnil⟩ | ⟨g9, cap9, cur9, rfl, _⟩
            · exact absurd hnil (by omega)
            clear hob hgb hnb hek hB3 hbk hB2
            refine hK.out _ _ ⟨hx4.out.cell (j := 0) rfl, hx4.out.cell (j := 1) rfl⟩ (fun _ => ?_)
            clear hK K
            try simp only [Act.put, List.setIfInBounds_toArray]
            refine wpAnyH_take (i := 12) (oi := _) (v := ?_) rfl (by kernel_rfl) (by kernel_rfl) (by kernel_rfl) (fun _ _ _ h => h) (Or.inl ⟨by rfl, ?_⟩) (⟨hx4.out.cell (j := 0) rfl, hx4.out.cell (j := 1) rfl⟩) ?_
            rotate_left
            · (intro w hSw; obtain ⟨q1, q2⟩ := hSw; go_simp <;> with_reducible rfl)
            try simp only [Act.put]
            refine wpAnyH_ready (rs := [13]) (by kernel_rfl) (by simp) ?_
            refine AllReadyH.cons (o := _) rfl (fun K hK => ?_) ?_
            · go_simp
              refine hK.out _ _ ⟨(hx4.out.far (p := ⟨w.heap.size + 1, ho, none⟩) (Nat.ne_of_gt hxw) _).cell (j := 0) rfl, (hx4.out.far (p := ⟨w.heap.size + 1, ho, none⟩) (Nat.ne_of_gt hxw) _).cell (j := 1) rfl⟩ (fun _ => ?_)
              clear hK K
              try simp only [Act.put, List.setIfInBounds_toArray, List.set_cons_zero, List.set_cons_succ]
              refine wpAnyH_done (by kernel_rfl) ?_ _
              refine NoPanic.normal ?_
              clear y1 y2 y3 HO hal
              go_wp2
              go_roundw
              case rel => exact ⟨k + 1, _, by omega, by go_num, hB9, hG9⟩
              case measure => simp [intOf]; omega
            exact AllReadyH.nil
          exact AllReadyH.nil
        exact AllReadyH.nil
      refine AllReadyH.cons (o := _) rfl (fun K hK => ?_) ?_
      · go_simp
        refine hK.out _ _ (HO.out _ hB3.out) (fun _ => ?_)
        clear hK K
        try simp only [Act.put, List.setIfInBounds_toArray, List.set_cons_zero, List.set_cons_succ]
        refine wpAnyH_ready (rs := [7]) (by kernel_rfl) (by simp) ?_
        refine AllReadyH.cons (o := _) rfl (fun K hK => ?_) ?_
        · have hh := (hB3.out.cell (p := ⟨w.heap.size + 1, ho, none⟩) hlR).trans hhd
          go_simp
          clear hh
          refine hK.out _ _ (HO.out _ hB3.out) (fun _ => ?_)
          clear hK K
          try simp only [Act.put, List.setIfInBounds_toArray, List.set_cons_zero, List.set_cons_succ]
          refine wpAnyH_ready (rs := [11]) (by kernel_rfl) (by simp) ?_
          refine AllReadyH.cons (o := _) rfl (fun K hK => ?_) ?_
          · rw [if_pos (by rfl)]
            refine wp_append_new _ _ _ 24 rfl w.heap.size 3 i0 (.int .i64 0) 1 8 Tryz.underlying24 hi0.out hz0.out hz1.out hz2.out rfl (by decide) vh (adjO (edges s) k ho).length (intsL (adjO (edges s) k ho)) rfl (own_below' hrow.out hB3.out) ⟨W1.heap.size, 0, none⟩ 1 1 [.int .i64 (co : Int)] rfl rfl (head_new W1 _ _) (one_cell1 _ rfl) (by omega) (by unfold maxLen; omega) (by omega) (hBw.out.trans (hB3.out.mono hBw.out.size)).size ?_
            intro vb wb hob hgb hnb
            have hx4 : Hid (Bk wb xb 94 [.int .i64 (co : Int), .int .i64 (ho : Int), .bool g, .string nn, .string dd]) := (hx1.out.below hB3.out).grown hgb (fun e => hnx.out e.symm)
            have hB2 := Lib.hid (hBw.out.trans (hB3.out.mono hBw.out.size))
            have hB4 : Hid (Below w.heap.size w wb) := hB2.out.grown hgb hB2.out.size (fun b e => (hrow.out.lt b e).1)
            have hG9 : Hid (Gr (wb.setCell ⟨w.heap.size + 1, ho, none⟩ vb) w.heap.size (w.heap.size + 1) s.ps.length (fun i => if i = ho then vb else v i) (adjO (edges s) (k + 1))) := by
              have h := ((hGw.out.alloc (.cells #[.int .i64 (co : Int)] 3)).drew).step (q := co) hho (u := vb) (W' := wb) (by rw [← hvh.out]; exact hgb) hob (by rw [← hvh.out]; exact hnb)
              exact h.congr fun i _ => (hek.out i).symm
            have hB9 : Hid (Below w.heap.size w (wb.setCell ⟨w.heap.size + 1, ho, none⟩ vb)) := hB4.out.setCell (p := ⟨w.heap.size + 1, ho, none⟩) (Nat.le_succ _) _
            have hbk := hgb.block (w.heap.size + 1) (Nat.lt_of_lt_of_le hlR hB3.out.size) (fun e => hnR.out e.symm)
            have y1 := (World.cell?_of_block (a := ⟨w.heap.size + 1, ho, none⟩) hbk).trans ((hB3.out.cell (p := ⟨w.heap.size + 1, ho, none⟩) hlR).trans hhd)
            have y2 := (World.frozen?_of_block (a := ⟨w.heap.size + 1, ho, none⟩) hbk).trans ((hB3.out.frozen (p := ⟨w.heap.size + 1, ho, none⟩) hlR).trans (hGw.out.fr ho))
            have y3 : w.heap.size + 1 < wb.heap.size := Nat.lt_of_lt_of_le (Nat.lt_of_lt_of_le hlR hB3.out.size) hgb.size
            rcases hob.2 with ⟨_, hnil⟩ | ⟨g9, cap9, cur9, rfl, _⟩
            · exact absurd hnil (by omega)
            clear hob hgb hnb hek hB3 hbk hB2
            refine hK.out _ _ ⟨hx4.out.cell (j := 0) rfl, hx4.out.cell (j := 1) rfl⟩ (fun _ => ?_)
            clear hK K
            try simp only [Act.put, List.setIfInBounds_toArray]
            refine wpAnyH_take (i := 12) (oi := _) (v := ?_) rfl (by kernel_rfl) (by kernel_rfl) (by kernel_rfl) (fun _ _ _ h => h) (Or.inl ⟨by rfl, ?_⟩) (⟨hx4.out.cell (j := 0) rfl, hx4.out.cell (j := 1) rfl⟩) ?_
            rotate_left
            · (intro w hSw; obtain ⟨q1, q2⟩ := hSw; go_simp <;> with_reducible rfl)
            try simp only [Act.put]
            refine wpAnyH_ready (rs := [13]) (by kernel_rfl) (by simp) ?_
            refine AllReadyH.cons (o := _) rfl (fun K hK => ?_) ?_
            · go_simp
              refine hK.out _ _ ⟨(hx4.out.far (p := ⟨w.heap.size + 1, ho, none⟩) (Nat.ne_of_gt hxw) _).cell (j := 0) rfl, (hx4.out.far (p := ⟨w.heap.size + 1, ho, none⟩) (Nat.ne_of_gt hxw) _).cell (j := 1) rfl⟩ (fun _ => ?_)
              clear hK K
              try simp only [Act.put, List.setIfInBounds_toArray, List.set_cons_zero, List.set_cons_succ]
              refine wpAnyH_done (by kernel_rfl) ?_ _
              refine NoPanic.normal ?_
              clear y1 y2 y3 HO hal
              go_wp2
              go_roundw
              case rel => exact ⟨k + 1, _, by omega, by go_num, hB9, hG9⟩
              case measure => simp [intOf]; omega
            exact AllReadyH.nil
          exact AllReadyH.nil
        exact AllReadyH.nil
      exact AllReadyH.nil
    · obtain rfl : k = s.cap.length := by omega
      have hG2 : Hid (Gr wr w.heap.size (w.heap.size + 1) s.ps.length v (adjO (edges s) (edges s).length)) := by rw [hel.out]; exact hG.out
      go_wp2
      go_ret
      exact ⟨⟨_, v, rfl, hG2.out⟩, hB.out⟩
end Ci
end Go.Proofs.YtpmlhgmmobpilaaGreatDoor

namespace Go.Proofs.YtpmlhgmmobpilaaGreatDoor
namespace Mo
open Nt Ci
/-- A rate: currency, day, numerator, denominator. -/
abbrev Rt := ByteArray × Int × Int × Int
def dayB (n : Int) : Bool := decide (0 ≤ n ∧ n ≤ 100000)
def posB (n : Int) : Bool := decide (1 ≤ n ∧ n ≤ 1000000)
def okR (base : ByteArray) (x : Rt) : Bool := identB x.1 && !decide (x.1 = base) && dayB x.2.1 && posB x.2.2.1 && posB x.2.2.2
/-- Two rates of one currency on one day. -/
def sameK (x y : Rt) : Bool := decide (x.1 = y.1) && decide (x.2.1 = y.2.1)
def validR (l : List Rt) (base : ByteArray) : Bool := identB base && decide (l.length ≤ 400) && l.all (okR base) && decide (l.Pairwise fun x y => sameK x y = false)
/-- What is asked of rate k. -/
def RtAt (base : ByteArray) (l : List Rt) (k : Nat) (h : k < l.length) : Prop := okR base l[k] = true ∧ ∀ j (hj : j < k), sameK (l[j]'(Nat.lt_trans hj h)) l[k] = false
section
variable {base cur : ByteArray} {day : Int} {l : List Rt} {x y : Rt} {k : Nat}
theorem valid_iff : validR l base = true ↔ identB base = true ∧ l.length ≤ 400 ∧ ∀ k (h : k < l.length), RtAt base l k h := by
  unfold validR
  rw [Bool.and_eq_true, Bool.and_eq_true, Bool.and_eq_true, decide_eq_true_iff, decide_eq_true_iff, List.all_eq_true, List.pairwise_iff_getElem]
  constructor
  · rintro ⟨⟨⟨h1, h2⟩, h3⟩, h4⟩
    exact ⟨h1, h2, fun k h => ⟨h3 _ (List.getElem_mem h), fun j hj => h4 j k (Nat.lt_trans hj h) h hj⟩⟩
  · rintro ⟨h1, h2, h3⟩
    refine ⟨⟨⟨h1, h2⟩, fun x hx => ?_⟩, fun i j hi hj hij => (h3 j hj).2 i hij⟩
    obtain ⟨k, hk, rfl⟩ := List.getElem_of_mem hx
    exact (h3 k hk).1
theorem valid_bad (h : k < l.length) (hb : ¬ RtAt base l k h) : validR l base = false := by
  cases c : validR l base
  · rfl
  · exact absurd ((valid_iff.1 c).2.2 k h) hb
/-- The rate is of the currency, and not of a later day. -/
def knownB (cur : ByteArray) (day : Int) (x : Rt) : Bool := decide (x.1 = cur) && decide (x.2.1 ≤ day)
def stepB (cur : ByteArray) (day : Int) (acc : Option Rt) (x : Rt) : Option Rt :=
  match acc with
  | none => if knownB cur day x = true then some x else none
  | some y => if knownB cur day x = true ∧ y.2.1 < x.2.1 then some x else some y
def bestR (l : List Rt) (cur : ByteArray) (day : Int) : Option Rt := l.foldl (stepB cur day) none
theorem best_take (h : k < l.length) : bestR (l.take (k + 1)) cur day = stepB cur day (bestR (l.take k) cur day) l[k] := by
  unfold bestR
  rw [List.take_succ_eq_append_getElem h, List.foldl_append]
  rfl
/-- What bestR finds. -/
def BestIs (l : List Rt) (cur : ByteArray) (day : Int) : Option Rt → Prop
  | none => ∀ y, y ∈ l → knownB cur day y = false
  | some x => x ∈ l ∧ knownB cur day x = true ∧ ∀ y, y ∈ l → knownB cur day y = true → y.2.1 ≤ x.2.1
theorem best_is : ∀ (m l0 : List Rt) (acc : Option Rt), BestIs l0 cur day acc → BestIs (l0 ++ m) cur day (m.foldl (stepB cur day) acc) := by
  intro m
  induction m with
  | nil => intro l0 acc h; rwa [List.append_nil]
  | cons a m ih =>
    intro l0 acc h
    have := ih (l0 ++ [a]) (stepB cur day acc a) ?_
    · rwa [List.append_assoc, List.singleton_append] at this
    cases acc with
    | none =>
      unfold stepB
      by_cases c : knownB cur day a = true
      · simp only [if_pos c]
        refine ⟨by simp, c, fun y hy hk => ?_⟩
        rcases List.mem_append.1 hy with hy | hy
        · rw [h y hy] at hk; cases hk
        · rw [List.mem_singleton.1 hy]; exact Int.le_refl _
      · simp only [if_neg c]
        intro y hy
        rcases List.mem_append.1 hy with hy | hy
        · exact h y hy
        · rw [List.mem_singleton.1 hy]; simpa using c
    | some b =>
      obtain ⟨h1, h2, h3⟩ := h
      unfold stepB
      by_cases c : knownB cur day a = true ∧ b.2.1 < a.2.1
      · simp only [if_pos c]
        refine ⟨by simp, c.1, fun y hy hk => ?_⟩
        rcases List.mem_append.1 hy with hy | hy
        · have := h3 y hy hk; omega
        · rw [List.mem_singleton.1 hy]; exact Int.le_refl _
      · simp only [if_neg c]
        refine ⟨List.mem_append.2 (.inl h1), h2, fun y hy hk => ?_⟩
        rcases List.mem_append.1 hy with hy | hy
        · exact h3 y hy hk
        · rw [List.mem_singleton.1 hy] at hk ⊢
          by_cases d : b.2.1 < a.2.1
          · exact absurd ⟨hk, d⟩ c
          · omega
theorem best_spec : BestIs l cur day (bestR l cur day) := by
  have := best_is (cur := cur) (day := day) l [] none (fun y hy => by cases hy)
  exact this
theorem valid_parts (h : validR l base = true) : identB base = true ∧ l.length ≤ 400 ∧ (∀ x, x ∈ l → okR base x = true) ∧ l.Pairwise fun x y => sameK x y = false := by
  unfold validR at h
  rw [Bool.and_eq_true, Bool.and_eq_true, Bool.and_eq_true, decide_eq_true_iff, decide_eq_true_iff, List.all_eq_true] at h
  exact ⟨h.1.1.1, h.1.1.2, h.1.2, h.2⟩
def noR : Rt := (⟨#[]⟩, 0, 0, 0)
/-- What Find returns. -/
def findR (l : List Rt) (base cur : ByteArray) (day : Int) : Rt × Int :=
  if validR l base = true ∧ identB cur = true ∧ dayB day = true then
    (if cur = base then ((base, 0, 1, 1), 0) else match bestR l cur day with
      | some x => (x, 0)
      | none => (noR, 11))
  else (noR, 1)
/-- What Find gives is a rate within the limits. -/
theorem find_ok {x : Rt} (h : findR l base cur day = (x, 0)) : (1 ≤ x.2.2.1 ∧ x.2.2.1 ≤ 1000000) ∧ (1 ≤ x.2.2.2 ∧ x.2.2.2 ≤ 1000000) ∧ validR l base = true ∧ identB cur = true ∧ dayB day = true := by
  unfold findR at h
  split at h
  · rename_i c
    split at h
    · simp only [Prod.mk.injEq, and_true] at h
      obtain rfl := h.symm
      exact ⟨⟨Int.le_refl _, by show (1 : Int) ≤ 1000000; decide⟩, ⟨Int.le_refl _, by show (1 : Int) ≤ 1000000; decide⟩, c⟩
    · split at h
      · rename_i y hy
        simp only [Prod.mk.injEq, and_true] at h
        obtain rfl := h.symm
        have hb := best_spec (l := l) (cur := cur) (day := day)
        rw [hy] at hb
        have h2 := (valid_parts c.1).2.2.1 _ hb.1
        unfold okR at h2
        simp only [Bool.and_eq_true] at h2
        exact ⟨of_decide_eq_true h2.1.2, of_decide_eq_true h2.2, c⟩
      · simp at h
  · simp at h
end
end Mo
end Go.Proofs.YtpmlhgmmobpilaaGreatDoor

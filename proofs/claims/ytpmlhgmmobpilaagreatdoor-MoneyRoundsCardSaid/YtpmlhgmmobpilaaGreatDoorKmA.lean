/- Texts that the proof needs: CirA, NatLib, NatPlain, NatDigits, NatIs, NatTrim, NatBack, NatFormat. -/
import Derived.WalkKit
import Derived.Test.YtpmlhgmmobpilaaGreatDoorShelf
import Derived.Lib.SmallJoins
import Derived.Lib.QuietBelow
import Derived.WalkSmall
import Derived.Shelf.Strings.BuilderK
import Derived.Lib.ItoaNum
import Derived.Lib.ParseIntB
import Derived.Lib.SlTrimSet
import Derived.Outline
import Derived.Test.YtpmlhgmmobpilaaGreatDoorProg
import Derived.BigQuiet
import Derived.Lib.Hide
import Derived.RangeFuncNested
import Derived.RangeFuncBound
import Derived.RangeFuncCalls
import Derived.RangeFuncLeaves
import Derived.Shelf.Abstract
import Derived.Shelf.RegionOpen
import Derived.OwnWalkIn
import Derived.TacticsInMore
import Derived.LoopNIn
import Derived.LoopIn
import Derived.Lib.ItoaMem
namespace Go.Proofs.YtpmlhgmmobpilaaGreatDoor
namespace Ci
/-- A way of k links. -/
inductive Way (E : List (Nat × Nat)) : Nat → Nat → Nat → Prop
  | here (p : Nat) : Way E p p 0
  | step {p q r k : Nat} (h : Way E p q k) (e : (q, r) ∈ E) : Way E p r (k + 1)
def Reach (E : List (Nat × Nat)) (p q : Nat) : Prop := ∃ k, Way E p q k
def WayF (E : List (Nat × Nat)) (F : List Nat) (p k : Nat) : Prop := ∃ f, f ∈ F ∧ Way E f p k
/-- All links lie among n parties. -/
def InN (n : Nat) (E : List (Nat × Nat)) : Prop := ∀ x, x ∈ E → x.1 < n ∧ x.2 < n
section
variable {E : List (Nat × Nat)} {F : List Nat} {n p q r j k : Nat}
theorem Way.trans (h : Way E p q j) (h2 : Way E q r k) : Way E p r (j + k) := by
  induction h2 with
  | here => exact h
  | step _ e ih => exact ih.step e
theorem Way.one (e : (p, q) ∈ E) : Way E p q 1 := (Way.here p).step e
theorem Way.zero (h : Way E p q 0) : p = q := by cases h; rfl
theorem Way.last (h : Way E p r (k + 1)) : ∃ q, Way E p q k ∧ (q, r) ∈ E := by
  cases h with
  | step h e => exact ⟨_, h, e⟩
theorem Way.first (h : Way E p r (k + 1)) : ∃ q, (p, q) ∈ E ∧ Way E q r k := by
  induction k generalizing r with
  | zero =>
    obtain ⟨q, h1, e⟩ := h.last
    obtain rfl := h1.zero
    exact ⟨r, e, .here r⟩
  | succ k ih =>
    obtain ⟨q, h1, e⟩ := h.last
    obtain ⟨x, e1, h2⟩ := ih h1
    exact ⟨x, e1, h2.step e⟩
theorem Way.lt (hE : InN n E) (h : Way E p q k) (hp : p < n) : q < n := by
  cases h with
  | here => exact hp
  | step _ e => exact (hE _ e).2
theorem Way.lt' (hE : InN n E) (h : Way E p q k) (hq : q < n) : p < n := by
  cases k with
  | zero => rw [h.zero]; exact hq
  | succ k =>
    obtain ⟨x, e, _⟩ := h.first
    exact (hE _ e).1
theorem Way.mono {E' : List (Nat × Nat)} (hs : ∀ x, x ∈ E → x ∈ E') (h : Way E p q k) : Way E' p q k := by
  induction h with
  | here => exact .here _
  | step _ e ih => exact ih.step (hs _ e)
theorem Reach.refl (p : Nat) : Reach E p p := ⟨0, .here p⟩
theorem Reach.trans (h : Reach E p q) (h2 : Reach E q r) : Reach E p r := by
  obtain ⟨j, a⟩ := h
  obtain ⟨k, b⟩ := h2
  exact ⟨_, a.trans b⟩
theorem Reach.one (e : (p, q) ∈ E) : Reach E p q := ⟨1, .one e⟩
theorem Reach.lt (hE : InN n E) (h : Reach E p q) (hp : p < n) : q < n := by obtain ⟨k, a⟩ := h; exact a.lt hE hp
theorem Reach.lt' (hE : InN n E) (h : Reach E p q) (hq : q < n) : p < n := by obtain ⟨k, a⟩ := h; exact a.lt' hE hq
/-- What holds at the start and goes on along links holds of all that is reached. -/
theorem Reach.closed {C : Nat → Prop} (h : Reach E p q) (h0 : C p) (hc : ∀ a b, C a → (a, b) ∈ E → C b) : C q := by
  obtain ⟨k, a⟩ := h
  induction a with
  | here => exact h0
  | step _ e ih => exact hc _ _ ih e
theorem wayF_zero : WayF E F p 0 ↔ p ∈ F := ⟨fun ⟨_, h, w⟩ => by rw [← w.zero]; exact h, fun h => ⟨p, h, .here p⟩⟩
theorem wayF_succ : WayF E F p (k + 1) ↔ ∃ q, WayF E F q k ∧ (q, p) ∈ E := by
  constructor
  · rintro ⟨f, h, w⟩
    obtain ⟨q, a, e⟩ := w.last
    exact ⟨q, ⟨f, h, a⟩, e⟩
  · rintro ⟨q, ⟨f, h, a⟩, e⟩
    exact ⟨f, h, a.step e⟩
/-- The least number of links of a way from the list; -1 if there is none. -/
def IsRk (E : List (Nat × Nat)) (F : List Nat) (p : Nat) (r : Int) : Prop :=
  (r = -1 ∧ ∀ k, ¬ WayF E F p k) ∨ ∃ k : Nat, r = (k : Int) ∧ WayF E F p k ∧ ∀ j, j < k → ¬ WayF E F p j
theorem least_ex {P : Nat → Prop} : ∀ k, P k → ∃ j, j ≤ k ∧ P j ∧ ∀ i, i < j → ¬ P i := by
  intro k
  induction k using Nat.strongRecOn with
  | ind k ih =>
    intro h
    by_cases h2 : ∃ i, i < k ∧ P i
    · obtain ⟨i, hi, hp⟩ := h2
      obtain ⟨j, h3, h4⟩ := ih i hi hp
      exact ⟨j, by omega, h4⟩
    · exact ⟨k, Nat.le_refl _, h, fun i hi hp => h2 ⟨i, hi, hp⟩⟩
theorem isRk_ex (E : List (Nat × Nat)) (F : List Nat) (p : Nat) : ∃ r, IsRk E F p r := by
  by_cases h : ∃ k, WayF E F p k
  · obtain ⟨k, hk⟩ := h
    obtain ⟨j, _, h1, h2⟩ := least_ex k hk
    exact ⟨j, .inr ⟨j, rfl, h1, h2⟩⟩
  · exact ⟨-1, .inl ⟨rfl, fun k hk => h ⟨k, hk⟩⟩⟩
theorem isRk_one {a b : Int} (h : IsRk E F p a) (h2 : IsRk E F p b) : a = b := by
  rcases h with ⟨rfl, h⟩ | ⟨k, rfl, h, hm⟩
  · rcases h2 with ⟨rfl, _⟩ | ⟨j, rfl, h3, _⟩
    · rfl
    · exact absurd h3 (h j)
  · rcases h2 with ⟨rfl, h3⟩ | ⟨j, rfl, h3, hm2⟩
    · exact absurd h (h3 k)
    · have h4 : ¬ k < j := fun c => hm2 k c h
      have h5 : ¬ j < k := fun c => hm j c h3
      omega
noncomputable def rk (E : List (Nat × Nat)) (F : List Nat) (p : Nat) : Int := Classical.choose (isRk_ex E F p)
theorem rk_is (E : List (Nat × Nat)) (F : List Nat) (p : Nat) : IsRk E F p (rk E F p) := Classical.choose_spec (isRk_ex E F p)
theorem rk_eq {a : Int} (h : IsRk E F p a) : rk E F p = a := isRk_one (rk_is E F p) h
theorem rk_ge : -1 ≤ rk E F p := by
  rcases rk_is E F p with ⟨h, _⟩ | ⟨k, h, _⟩ <;> omega
theorem rk_le (h : WayF E F p k) : 0 ≤ rk E F p ∧ rk E F p ≤ k := by
  rcases rk_is E F p with ⟨_, h2⟩ | ⟨j, h1, _, h2⟩
  · exact absurd h (h2 k)
  · have : ¬ k < j := fun c => h2 k c h
    omega
theorem rk_way (h : rk E F p = k) : WayF E F p k := by
  rcases rk_is E F p with ⟨h1, _⟩ | ⟨j, h1, h2, _⟩
  · omega
  · obtain rfl : j = k := by omega
    exact h2
theorem rk_zero : rk E F p = 0 ↔ p ∈ F := by
  constructor
  · intro h
    exact wayF_zero.1 (rk_way (k := 0) (by omega))
  · intro h
    have := rk_le (wayF_zero.2 h : WayF E F p 0)
    omega
/-- Along a link a rank grows by at most one. -/
theorem rk_edge (h : 0 ≤ rk E F q) (e : (q, p) ∈ E) : 0 ≤ rk E F p ∧ rk E F p ≤ rk E F q + 1 := by
  obtain ⟨k, hk⟩ : ∃ k : Nat, rk E F q = k := ⟨(rk E F q).toNat, by omega⟩
  have := rk_le (wayF_succ.2 ⟨q, rk_way hk, e⟩ : WayF E F p (k + 1))
  omega
theorem rk_pred (h : rk E F p = ((k + 1 : Nat) : Int)) : ∃ q, rk E F q = (k : Int) ∧ (q, p) ∈ E := by
  obtain ⟨q, h1, e⟩ := wayF_succ.1 (rk_way h)
  have h2 := rk_le h1
  have h3 := rk_edge h2.1 e
  exact ⟨q, by omega, e⟩
theorem nodup_len : ∀ (n : Nat) (l : List Nat), l.Nodup → (∀ x, x ∈ l → x < n) → l.length ≤ n := by
  intro n
  induction n with
  | zero =>
    intro l _ h
    cases l with
    | nil => exact Nat.le_refl _
    | cons a l => exact absurd (h a (List.mem_cons_self ..)) (Nat.not_lt_zero _)
  | succ n ih =>
    intro l hd h
    have h1 := ih (l.erase n) (hd.erase n) fun x hx => by
      have h2 := (hd.mem_erase_iff).1 hx
      have := h x h2.2
      omega
    by_cases hm : n ∈ l
    · rw [List.length_erase_of_mem hm] at h1
      omega
    · rw [List.erase_of_not_mem hm] at h1
      omega
/-- Below each rank there are parties of all lesser ones. -/
theorem rk_chain : ∀ (k : Nat) (p : Nat), rk E F p = (k : Int) → ∃ l : List Nat, l.length = k + 1 ∧ l.Nodup ∧ (∀ x, x ∈ l → ∃ j : Nat, j ≤ k ∧ rk E F x = (j : Int)) ∧ ∀ x, x ∈ l → x = p ∨ ∃ y, (x, y) ∈ E := by
  intro k
  induction k with
  | zero => exact fun p h => ⟨[p], rfl, by simp, fun x hx => ⟨0, Nat.le_refl _, by rw [List.mem_singleton.1 hx]; exact h⟩, fun x hx => .inl (List.mem_singleton.1 hx)⟩
  | succ k ih =>
    intro p h
    obtain ⟨q, h1, e⟩ := rk_pred h
    obtain ⟨l, h2, h3, h4, h5⟩ := ih q h1
    refine ⟨p :: l, by simp [h2], List.nodup_cons.2 ⟨fun hm => ?_, h3⟩, fun x hx => ?_, fun x hx => ?_⟩
    · obtain ⟨j, hj, e2⟩ := h4 p hm
      omega
    · rcases List.mem_cons.1 hx with rfl | hx
      · exact ⟨k + 1, Nat.le_refl _, h⟩
      · obtain ⟨j, hj, e2⟩ := h4 x hx
        exact ⟨j, by omega, e2⟩
    · rcases List.mem_cons.1 hx with rfl | hx
      · exact .inl rfl
      · rcases h5 x hx with rfl | h6
        · exact .inr ⟨p, e⟩
        · exact .inr h6
theorem rk_lt (hE : InN n E) (hp : p < n) : rk E F p < n := by
  by_cases h : 0 ≤ rk E F p
  · obtain ⟨k, hk⟩ : ∃ k : Nat, rk E F p = k := ⟨(rk E F p).toNat, by omega⟩
    obtain ⟨l, h1, h2, _, h4⟩ := rk_chain k p hk
    have := nodup_len n l h2 fun x hx => by
      rcases h4 x hx with rfl | ⟨y, e⟩
      · exact hp
      · exact (hE _ e).1
    omega
  · omega
end
end Ci
end Go.Proofs.YtpmlhgmmobpilaaGreatDoor
namespace Go.Proofs.YtpmlhgmmobpilaaGreatDoor
namespace Ci
open Classical
def Mut (E : List (Nat × Nat)) (p q : Nat) : Prop := Reach E p q ∧ Reach E q p
section
variable {E : List (Nat × Nat)} {n p q r : Nat} {left : List Nat}
theorem Mut.refl (p : Nat) : Mut E p p := ⟨.refl p, .refl p⟩
theorem Mut.symm (h : Mut E p q) : Mut E q p := ⟨h.2, h.1⟩
theorem Mut.trans (h : Mut E p q) (h2 : Mut E q r) : Mut E p r := ⟨h.1.trans h2.1, h2.2.trans h.2⟩
theorem fst_ex (E : List (Nat × Nat)) (p : Nat) : ∃ q, Mut E p q ∧ ∀ r, Mut E p r → q ≤ r := by
  obtain ⟨q, _, h1, h2⟩ := least_ex (P := Mut E p) p (.refl p)
  exact ⟨q, h1, fun r hr => Nat.le_of_not_lt fun c => h2 r c hr⟩
/-- The least party of a component. -/
noncomputable def fst (E : List (Nat × Nat)) (p : Nat) : Nat := Classical.choose (fst_ex E p)
theorem fst_mut : Mut E p (fst E p) := (Classical.choose_spec (fst_ex E p)).1
theorem fst_le (h : Mut E p q) : fst E p ≤ q := (Classical.choose_spec (fst_ex E p)).2 q h
theorem fst_eq (h : Mut E p q) : fst E p = fst E q := Nat.le_antisymm (fst_le (h.trans fst_mut)) (fst_le (h.symm.trans fst_mut))
theorem fst_iff : fst E p = fst E q ↔ Mut E p q := ⟨fun h => (h ▸ fst_mut (p := p)).trans fst_mut.symm, fst_eq⟩
theorem fst_fst : fst E (fst E p) = fst E p := (fst_eq fst_mut).symm
theorem fst_lt (h : p < n) : fst E p < n := Nat.lt_of_le_of_lt (fst_le (.refl p)) h
noncomputable def comp (n : Nat) (E : List (Nat × Nat)) (p : Nat) : List Nat := (List.range n).filter fun q => decide (Mut E p q)
theorem mem_comp : q ∈ comp n E p ↔ q < n ∧ Mut E p q := by simp [comp]
noncomputable def leasts (n : Nat) (E : List (Nat × Nat)) : List Nat := (List.range n).filter fun p => decide (fst E p = p)
theorem mem_leasts : p ∈ leasts n E ↔ p < n ∧ fst E p = p := by simp [leasts]
/-- No link comes from another component that is left. -/
def Free (E : List (Nat × Nat)) (left : List Nat) (p : Nat) : Prop := ∀ h q, Mut E p q → (h, q) ∈ E → fst E h ∈ left → fst E h = p
noncomputable def pick (E : List (Nat × Nat)) (left : List Nat) : Option Nat := left.find? fun p => decide (Free E left p)
noncomputable def ord (E : List (Nat × Nat)) : Nat → List Nat → List Nat
  | 0, _ => []
  | k + 1, left => match pick E left with
    | none => []
    | some p => p :: ord E k (left.erase p)
/-- What is left is closed along links; each is the least of its component. -/
structure Left (n : Nat) (E : List (Nat × Nat)) (left : List Nat) : Prop where
  own : ∀ x, x ∈ left → x < n ∧ fst E x = x
  up : ∀ x y, x ∈ left → Reach E x y → fst E y ∈ left
  sorted : left.Pairwise (· < ·)
theorem Left.start (hE : InN n E) : Left n E (leasts n E) :=
  ⟨fun _ h => mem_leasts.1 h, fun _ _ h hr => mem_leasts.2 ⟨fst_lt (hr.lt hE (mem_leasts.1 h).1), fst_fst⟩, List.pairwise_lt_range.filter _⟩
theorem Left.nodup (h : Left n E left) : left.Nodup := h.sorted.imp fun hab => Nat.ne_of_lt hab
/-- A way into a component has a link that enters it. -/
theorem enter (h : Reach E p q) : ¬ Mut E p q → ∃ a b, Reach E p a ∧ (a, b) ∈ E ∧ Mut E q b ∧ ¬ Mut E q a := by
  obtain ⟨k, w⟩ := h
  intro hn
  have key : ∀ x, (∃ j, Way E x q j) → Reach E p x → ¬ Mut E q x → ∃ a b, Reach E p a ∧ (a, b) ∈ E ∧ Mut E q b ∧ ¬ Mut E q a := by
    rintro x ⟨j, hw⟩
    induction j generalizing x with
    | zero => exact fun _ h2 => absurd (by rw [hw.zero]; exact .refl q) h2
    | succ j ih =>
      intro hx h2
      obtain ⟨y, e, hw2⟩ := hw.first
      by_cases hy : Mut E q y
      · exact ⟨x, y, hx, e, hy, h2⟩
      · exact ih y hw2 (hx.trans (.one e)) hy
  exact key p ⟨k, w⟩ (.refl p) fun h => hn h.symm
theorem Left.erase (h : Left n E left) (hp : p ∈ left) (hf : Free E left p) : Left n E (left.erase p) := by
  have hd := h.nodup
  refine ⟨fun x hx => h.own x (List.mem_of_mem_erase hx), fun x y hx hr => ?_, h.sorted.sublist List.erase_sublist⟩
  obtain ⟨hxp, hxl⟩ := hd.mem_erase_iff.1 hx
  refine hd.mem_erase_iff.2 ⟨fun e => ?_, h.up x y hxl hr⟩
  have hyp : Mut E p y := fst_iff.1 (by rw [(h.own p hp).2, e])
  have hrp : Reach E x p := hr.trans hyp.2
  obtain ⟨a, b, h1, h2, h3, h4⟩ := enter hrp fun hm => hxp (by rw [← (h.own x hxl).2, fst_eq hm, (h.own p hp).2])
  have h5 := hf a b h3 h2 (h.up x a hxl h1)
  exact h4 (fst_iff.1 (by rw [(h.own p hp).2, h5]))
theorem filter_lt {f g : Nat → Bool} : ∀ {l : List Nat}, (∀ x, x ∈ l → f x = true → g x = true) → (∃ x, x ∈ l ∧ f x = false ∧ g x = true) → (l.filter f).length < (l.filter g).length := by
  intro l
  induction l with
  | nil => rintro _ ⟨x, h, _⟩; cases h
  | cons a l ih =>
    intro hs hx
    have hle : (l.filter f).length ≤ (l.filter g).length := by
      have : ∀ m : List Nat, (∀ x, x ∈ m → f x = true → g x = true) → (m.filter f).length ≤ (m.filter g).length := by
        intro m
        induction m with
        | nil => intro _; exact Nat.le_refl _
        | cons b m ihm =>
          intro hm
          have h1 := ihm fun x h => hm x (List.mem_cons_of_mem _ h)
          have h2 := hm b (List.mem_cons_self ..)
          cases hf : f b <;> cases hg : g b <;> simp [hf, hg] <;> simp_all <;> omega
      exact this l fun x h => hs x (List.mem_cons_of_mem _ h)
    by_cases ha : f a = false ∧ g a = true
    · simp [ha.1, ha.2]; omega
    · have hex : ∃ x, x ∈ l ∧ f x = false ∧ g x = true := by
        obtain ⟨x, h1, h2, h3⟩ := hx
        rcases List.mem_cons.1 h1 with rfl | h1
        · exact absurd ⟨h2, h3⟩ ha
        · exact ⟨x, h1, h2, h3⟩
      have h1 := ih (fun x h => hs x (List.mem_cons_of_mem _ h)) hex
      have h2 := hs a (List.mem_cons_self ..)
      cases hf : f a <;> cases hg : g a <;> simp [hf, hg] <;> simp_all
theorem least_of (f : Nat → Nat) : ∀ l : List Nat, l ≠ [] → ∃ x, x ∈ l ∧ ∀ y, y ∈ l → f x ≤ f y := by
  intro l
  induction l with
  | nil => intro h; exact absurd rfl h
  | cons a l ih =>
    intro _
    by_cases h : l = []
    · exact ⟨a, List.mem_cons_self .., fun y hy => by rw [h] at hy; rw [List.mem_singleton.1 hy]; exact Nat.le_refl _⟩
    · obtain ⟨x, h1, h2⟩ := ih h
      by_cases hc : f a ≤ f x
      · exact ⟨a, List.mem_cons_self .., fun y hy => by
          rcases List.mem_cons.1 hy with rfl | hy
          · exact Nat.le_refl _
          · exact Nat.le_trans hc (h2 y hy)⟩
      · exact ⟨x, List.mem_cons_of_mem _ h1, fun y hy => by
          rcases List.mem_cons.1 hy with rfl | hy
          · omega
          · exact h2 y hy⟩
/-- A component with the fewest parties ahead of it is free. -/
theorem Left.free (h : Left n E left) (hne : left ≠ []) : ∃ p, p ∈ left ∧ Free E left p := by
  obtain ⟨p, hp, hm⟩ := least_of (fun p => ((List.range n).filter fun q => decide (Reach E q p)).length) left hne
  refine ⟨p, hp, fun a b h1 h2 h3 => Classical.byContradiction fun hc => ?_⟩
  have h4 := hm _ h3
  have h5 : Reach E (fst E a) p := (fst_mut.2.trans (.one h2)).trans h1.2
  have h6 : ((List.range n).filter fun q => decide (Reach E q (fst E a))).length < ((List.range n).filter fun q => decide (Reach E q p)).length :=
    filter_lt (fun x _ hx => decide_eq_true ((of_decide_eq_true hx).trans h5)) ⟨p, List.mem_range.2 (h.own p hp).1, decide_eq_false fun hr => hc (by
      have := fst_eq (E := E) (p := fst E a) (q := p) ⟨h5, hr⟩
      rwa [fst_fst, (h.own p hp).2] at this), decide_eq_true (.refl p)⟩
  omega
theorem pick_ex (h : Left n E left) (hne : left ≠ []) : ∃ p, pick E left = some p := by
  obtain ⟨p, h1, h2⟩ := h.free hne
  cases hp : pick E left with
  | some q => exact ⟨q, rfl⟩
  | none =>
    unfold pick at hp
    rw [List.find?_eq_none] at hp
    exact absurd (decide_eq_true h2) (hp p h1)
theorem pick_says (h : Left n E left) (hp : pick E left = some p) : p ∈ left ∧ Free E left p ∧ ∀ q, q ∈ left → Free E left q → p ≤ q := by
  unfold pick at hp
  obtain ⟨h1, us, bs, h2, h3⟩ := List.find?_eq_some_iff_append.1 hp
  refine ⟨by rw [h2]; simp, of_decide_eq_true h1, fun q hq hf => ?_⟩
  have hs := h.sorted
  rw [h2] at hq hs
  rcases List.mem_append.1 hq with hq | hq
  · have := h3 q hq
    rw [decide_eq_true hf] at this
    cases this
  · rcases List.mem_cons.1 hq with rfl | hq
    · exact Nat.le_refl _
    · exact Nat.le_of_lt ((List.pairwise_cons.1 (List.pairwise_append.1 hs).2.1).1 q hq)
end
/-- The components in their order. -/
noncomputable def ords (n : Nat) (E : List (Nat × Nat)) : List Nat := ord E n (leasts n E)
end Ci
end Go.Proofs.YtpmlhgmmobpilaaGreatDoor
namespace Go.Proofs.YtpmlhgmmobpilaaGreatDoor
namespace Ci
/-- One value of a table turned. -/
def setI (o : Nat → Int) (q : Nat) (v : Int) : Nat → Int := fun x => if x = q then v else o x
section
variable {E : List (Nat × Nat)} {F : List Nat} {n p q r i : Nat} {out : Nat → Int}
theorem setI_same (o : Nat → Int) (q : Nat) (v : Int) : setI o q v q = v := if_pos rfl
theorem setI_other {o : Nat → Int} {q x : Nat} {v : Int} (h : x ≠ q) : setI o q v x = o x := if_neg h
/-- Level by level: what holds ahead of link i in the round of rank r. -/
structure Lv (n : Nat) (E : List (Nat × Nat)) (F : List Nat) (r i : Nat) (out : Nat → Int) : Prop where
  low : ∀ x, x < n → rk E F x ≤ r → out x = rk E F x
  mid : ∀ x, x < n → rk E F x = (r : Int) + 1 → out x = (r : Int) + 1 ∨ (out x = -1 ∧ ∀ h, (h, x) ∈ E.take i → rk E F h ≠ r)
  high : ∀ x, x < n → (r : Int) + 1 < rk E F x → out x = -1
theorem Lv.start (h0 : ∀ x, x < n → out x = if x ∈ F then 0 else -1) : Lv n E F 0 0 out := by
  refine ⟨fun x hx h => ?_, fun x hx h => .inr ⟨?_, fun _ hm => by simp at hm⟩, fun x hx h => ?_⟩
  · rw [h0 x hx]
    split
    · rename_i hf
      exact (rk_zero.2 hf).symm
    · rename_i hf
      have h1 : rk E F x ≠ 0 := fun e => hf (rk_zero.1 e)
      have h2 := rk_ge (E := E) (F := F) (p := x)
      omega
  · rw [h0 x hx, if_neg fun hf => by have := rk_zero (E := E) |>.2 hf; omega]
  · rw [h0 x hx, if_neg fun hf => by have := rk_zero (E := E) |>.2 hf; omega]
theorem Lv.right (h : Lv n E F r i out) {x : Nat} (hx : x < n) (h0 : 0 ≤ out x) : out x = rk E F x := by
  by_cases h1 : rk E F x ≤ r
  · exact h.low x hx h1
  · by_cases h2 : rk E F x = (r : Int) + 1
    · rcases h.mid x hx h2 with h3 | h3
      · rw [h3, h2]
      · omega
    · have := h.high x hx (by omega)
      omega
theorem Lv.ge (h : Lv n E F r i out) {x : Nat} (hx : x < n) : -1 ≤ out x ∧ out x ≤ (r : Int) + 1 := by
  have h3 := rk_ge (E := E) (F := F) (p := x)
  by_cases h1 : rk E F x ≤ r
  · have := h.low x hx h1; omega
  · by_cases h2 : rk E F x = (r : Int) + 1
    · rcases h.mid x hx h2 with h3 | h3 <;> omega
    · have := h.high x hx (by omega); omega
theorem take_snoc {α : Type} {l : List α} {i : Nat} (h : i < l.length) : l.take (i + 1) = l.take i ++ [l[i]] := by
  rw [List.take_succ_eq_append_getElem h]
/-- A link that lays a rank. -/
theorem Lv.set (h : Lv n E F r i out) (hi : i < E.length) (hE : InN n E) (h1 : out E[i].1 = r) (h2 : out E[i].2 < 0) : Lv n E F r (i + 1) (setI out E[i].2 ((r : Int) + 1)) := by
  obtain ⟨a1, a2⟩ := hE _ (List.getElem_mem hi)
  have b1 : rk E F E[i].1 = r := by rw [← h.right a1 (by omega), h1]
  have b2 := rk_edge (E := E) (F := F) (q := E[i].1) (p := E[i].2) (by omega) (List.getElem_mem hi)
  have b3 : rk E F E[i].2 = (r : Int) + 1 := by
    by_cases c : rk E F E[i].2 ≤ r
    · have := h.low _ a2 c; omega
    · omega
  refine ⟨fun x hx hl => ?_, fun x hx hl => ?_, fun x hx hl => ?_⟩
  · rw [setI_other fun e => by rw [e] at hl; omega]
    exact h.low x hx hl
  · by_cases e : x = E[i].2
    · exact .inl (by rw [e, setI_same])
    · rw [setI_other e]
      rcases h.mid x hx hl with h3 | ⟨h3, h4⟩
      · exact .inl h3
      · refine .inr ⟨h3, fun y hy => ?_⟩
        rw [take_snoc hi] at hy
        rcases List.mem_append.1 hy with hy | hy
        · exact h4 y hy
        · exact absurd (by rw [← List.mem_singleton.1 hy]) e
  · rw [setI_other fun e => by rw [e] at hl; omega]
    exact h.high x hx hl
/-- A link that lays none. -/
theorem Lv.skip (h : Lv n E F r i out) (hi : i < E.length) (hE : InN n E) (h1 : ¬ (out E[i].1 = r ∧ out E[i].2 < 0)) : Lv n E F r (i + 1) out := by
  obtain ⟨a1, a2⟩ := hE _ (List.getElem_mem hi)
  refine ⟨h.low, fun x hx hl => ?_, h.high⟩
  rcases h.mid x hx hl with h3 | ⟨h3, h4⟩
  · exact .inl h3
  · refine .inr ⟨h3, fun y hy hr => ?_⟩
    rw [take_snoc hi] at hy
    rcases List.mem_append.1 hy with hy | hy
    · exact h4 y hy hr
    · have e := List.mem_singleton.1 hy
      have e1 : E[i].1 = y := by rw [← e]
      have e2 : E[i].2 = x := by rw [← e]
      refine h1 ⟨?_, by rw [e2, h3]; omega⟩
      rw [e1, h.low y (by rw [← e1]; exact a1) (by omega), hr]
theorem Lv.next (h : Lv n E F r E.length out) : Lv n E F (r + 1) 0 out := by
  have hm : ∀ x, x < n → rk E F x = (r : Int) + 1 → out x = (r : Int) + 1 := fun x hx hl => by
    rcases h.mid x hx hl with h3 | ⟨_, h4⟩
    · exact h3
    · obtain ⟨q, h5, h6⟩ := rk_pred (k := r) (p := x) (E := E) (F := F) (by omega)
      exact absurd h5 (h4 q (by rw [List.take_length]; exact h6))
  refine ⟨fun x hx hl => ?_, fun x hx hl => .inr ⟨h.high x hx (by omega), fun y hy => by simp at hy⟩, fun x hx hl => h.high x hx (by omega)⟩
  by_cases c : rk E F x ≤ r
  · exact h.low x hx c
  · rw [hm x hx (by omega)]; omega
theorem Lv.whole (h : Lv n E F r i out) (hr : n ≤ r) (hE : InN n E) {x : Nat} (hx : x < n) : out x = rk E F x := by
  have := rk_lt (F := F) hE hx
  exact h.low x hx (by omega)
/-- Where a rank is laid, or all rounds are over, it is right. -/
theorem Lv.at (h : Lv n E F r i out) (hE : InN n E) {x : Nat} (hx : x < n) (hr : n ≤ r ∨ 0 ≤ out x) : out x = rk E F x := by
  rcases hr with hr | hr
  · exact h.whole hr hE hx
  · exact h.right hx hr
structure Bf (n : Nat) (E : List (Nat × Nat)) (F : List Nat) (ex : Nat → Prop) (out : Nat → Int) (queue : List Nat) : Prop where
  way : ∀ x, x < n → 0 ≤ out x → WayF E F x (out x).toNat
  neg : ∀ x, x < n → -1 ≤ out x
  src : ∀ f, f ∈ F → out f = 0
  edge : ∀ x y, x < n → (x, y) ∈ E → 0 ≤ out x → x ∉ queue → ¬ ex x → 0 ≤ out y ∧ out y ≤ out x + 1
  pos : ∀ x, x ∈ queue → x < n ∧ 0 ≤ out x
  sorted : queue.Pairwise fun a b => out a ≤ out b ∧ out b ≤ out a + 1
  done : ∀ x, x < n → 0 ≤ out x → x ∉ queue → ∀ y, y ∈ queue → out x ≤ out y
  nodup : queue.Nodup
theorem Bf.start (hF : F.Nodup) (hn : ∀ f, f ∈ F → f < n) (h0 : ∀ x, x < n → out x = if x ∈ F then 0 else -1) : Bf n E F (fun _ => False) out F := by
  have hs : ∀ f, f ∈ F → out f = 0 := fun f hf => by rw [h0 f (hn f hf), if_pos hf]
  have hr : ∀ x, x < n → 0 ≤ out x → x ∈ F := fun x hx h => by
    rw [h0 x hx] at h
    split at h
    · assumption
    · omega
  refine ⟨fun x hx h => ?_, fun x hx => ?_, hs, fun x y hx _ h hq => absurd (hr x hx h) hq, fun x hx => ⟨hn x hx, by rw [hs x hx]; omega⟩, ?_, fun x hx h hq => absurd (hr x hx h) hq, hF⟩
  · rw [hs x (hr x hx h)]
    exact wayF_zero.2 (hr x hx h)
  · rw [h0 x hx]; split <;> omega
  · exact List.Pairwise.imp_of_mem (R := fun _ _ => True) (fun ha hb _ => by rw [hs _ ha, hs _ hb]; omega) (List.pairwise_of_forall fun _ _ => trivial)
theorem Bf.end (h : Bf n E F (fun _ => False) out []) (hn : ∀ f, f ∈ F → f < n) (hE : InN n E) {x : Nat} (hx : x < n) : out x = rk E F x := by
  have key : ∀ k y, WayF E F y k → y < n ∧ 0 ≤ out y ∧ out y ≤ k := by
    intro k
    induction k with
    | zero =>
      intro y hy
      have hm := wayF_zero.1 hy
      have := h.src y hm
      exact ⟨hn y hm, by omega, by omega⟩
    | succ k ih =>
      intro y hy
      obtain ⟨z, hz, e⟩ := wayF_succ.1 hy
      obtain ⟨a, b, c⟩ := ih z hz
      have := h.edge z y a e b (by simp) (fun h => h)
      exact ⟨(hE _ e).2, by omega, by omega⟩
  have h1 := h.neg x hx
  refine (rk_eq ?_).symm
  by_cases h0 : 0 ≤ out x
  · refine .inr ⟨(out x).toNat, by omega, h.way x hx h0, fun j hj hw => ?_⟩
    have := key j x hw
    omega
  · refine .inl ⟨by omega, fun k hk => ?_⟩
    have := key k x hk
    omega
/-- The first of the queue is taken out. -/
theorem Bf.pop {queue : List Nat} (h : Bf n E F (fun _ => False) out (p :: queue)) : Bf n E F (· = p) out queue ∧ p < n ∧ 0 ≤ out p ∧ (∀ y, y ∈ queue → out p ≤ out y ∧ out y ≤ out p + 1) ∧ ∀ x, x < n → out x ≤ out p + 1 := by
  have hp := h.pos p (List.mem_cons_self ..)
  have hs := List.pairwise_cons.1 h.sorted
  have hd := List.nodup_cons.1 h.nodup
  refine ⟨⟨h.way, h.neg, h.src, fun x y hx e h0 hq hx2 => h.edge x y hx e h0 (fun hm => (List.mem_cons.1 hm).elim hx2 hq) (fun h => h), fun x hx => h.pos x (List.mem_cons_of_mem _ hx), hs.2, fun x hx h0 hq y hy => ?_, hd.2⟩, hp.1, hp.2, fun y hy => hs.1 y hy, fun x hx => ?_⟩
  · by_cases e : x = p
    · rw [e]; exact (hs.1 y hy).1
    · exact h.done x hx h0 (fun hm => (List.mem_cons.1 hm).elim e hq) y (List.mem_cons_of_mem _ hy)
  · by_cases h0 : 0 ≤ out x
    · by_cases hm : x ∈ p :: queue
      · rcases List.mem_cons.1 hm with rfl | hm
        · omega
        · exact (hs.1 x hm).2
      · have := h.done x hx h0 hm p (List.mem_cons_self ..)
        omega
    · omega
/-- What holds while the links of p are looked through; ns are those that were. -/
structure Bq (n : Nat) (E : List (Nat × Nat)) (F : List Nat) (p : Nat) (v : Int) (ns : List Nat) (out : Nat → Int) (queue : List Nat) : Prop where
  inv : Bf n E F (· = p) out queue
  cur : out p = v
  here : p < n
  v0 : 0 ≤ v
  seen : ∀ y, y ∈ ns → 0 ≤ out y ∧ out y ≤ v + 1
  rest : ∀ y, y ∈ queue → v ≤ out y ∧ out y ≤ v + 1
  all : ∀ x, x < n → out x ≤ v + 1
  off : p ∉ queue
theorem Bq.start {queue : List Nat} (h : Bf n E F (fun _ => False) out (p :: queue)) : Bq n E F p (out p) [] out queue := by
  obtain ⟨a, b, c, d, e⟩ := h.pop
  exact ⟨a, rfl, b, c, fun y hy => by simp at hy, d, e, (List.nodup_cons.1 h.nodup).1⟩
theorem Bq.skip {v : Int} {ns queue : List Nat} (h : Bq n E F p v ns out queue) (hq : q < n) (h0 : 0 ≤ out q) : Bq n E F p v (ns ++ [q]) out queue :=
  ⟨h.inv, h.cur, h.here, h.v0, fun y hy => by
    rcases List.mem_append.1 hy with hy | hy
    · exact h.seen y hy
    · rw [List.mem_singleton.1 hy]; exact ⟨h0, h.all q hq⟩, h.rest, h.all, h.off⟩
theorem Bq.set {v : Int} {ns queue : List Nat} (h : Bq n E F p v ns out queue) (hq : q < n) (e : (p, q) ∈ E) (h0 : out q < 0) : Bq n E F p v (ns ++ [q]) (setI out q (v + 1)) (queue ++ [q]) := by
  have hpq : p ≠ q := fun c => by have := h.cur; have := h.v0; rw [c] at *; omega
  have hqq : q ∉ queue := fun c => by have := (h.inv.pos q c).2; omega
  have ho : ∀ x, 0 ≤ out x → setI out q (v + 1) x = out x := fun x hx => setI_other fun c => by rw [c] at hx; omega
  have hv := h.v0
  refine ⟨⟨fun x hx hx0 => ?_, fun x hx => ?_, fun f hf => ?_, fun x y hx e2 hx0 hxq hx2 => ?_, fun x hx => ?_, ?_, fun x hx hx0 hxq y hy => ?_, ?_⟩, ?_, h.here, h.v0, fun y hy => ?_, fun y hy => ?_, fun x hx => ?_, fun c => ?_⟩
  · by_cases c : x = q
    · rw [c, setI_same]
      have h1 := h.inv.way p h.here (by rw [h.cur]; exact hv)
      rw [h.cur] at h1
      have h2 := wayF_succ.2 ⟨p, h1, e⟩
      rwa [show v.toNat + 1 = (v + 1).toNat by omega] at h2
    · rw [setI_other c] at hx0 ⊢
      exact h.inv.way x hx hx0
  · by_cases c : x = q
    · rw [c, setI_same]; omega
    · rw [setI_other c]; exact h.inv.neg x hx
  · have := h.inv.src f hf
    rw [ho f (by omega)]; exact this
  · have c : x ≠ q := fun c => hxq (by rw [c]; simp)
    rw [setI_other c] at hx0 ⊢
    have h1 := h.inv.edge x y hx e2 hx0 (fun c2 => hxq (List.mem_append_left _ c2)) hx2
    rw [ho y h1.1]
    exact h1
  · rcases List.mem_append.1 hx with hx | hx
    · have := h.inv.pos x hx
      rw [ho x this.2]; exact this
    · rw [List.mem_singleton.1 hx, setI_same]; exact ⟨hq, by omega⟩
  · refine List.pairwise_append.2 ⟨?_, List.pairwise_singleton .., fun a ha b hb => ?_⟩
    · refine List.Pairwise.imp_of_mem (fun ha hb hab => ?_) h.inv.sorted
      rw [ho _ (h.inv.pos _ ha).2, ho _ (h.inv.pos _ hb).2]
      exact hab
    · rw [List.mem_singleton.1 hb, setI_same, ho a (h.inv.pos a ha).2]
      have := h.rest a ha
      omega
  · have c : x ≠ q := fun c => hxq (by rw [c]; simp)
    rw [setI_other c] at hx0 ⊢
    rcases List.mem_append.1 hy with hy | hy
    · rw [ho y (h.inv.pos y hy).2]
      exact h.inv.done x hx hx0 (fun c2 => hxq (List.mem_append_left _ c2)) y hy
    · rw [List.mem_singleton.1 hy, setI_same]
      exact h.all x hx
  · exact List.nodup_append.2 ⟨h.inv.nodup, by simp, fun a ha b hb c => hqq (by rw [← List.mem_singleton.1 hb, ← c]; exact ha)⟩
  · rw [setI_other hpq]; exact h.cur
  · rcases List.mem_append.1 hy with hy | hy
    · have := h.seen y hy
      rw [ho y this.1]; exact this
    · rw [List.mem_singleton.1 hy, setI_same]; omega
  · rcases List.mem_append.1 hy with hy | hy
    · have := h.rest y hy
      rw [ho y (h.inv.pos y hy).2]; exact this
    · rw [List.mem_singleton.1 hy, setI_same]; omega
  · by_cases c : x = q
    · rw [c, setI_same]; omega
    · rw [setI_other c]; exact h.all x hx
  · rcases List.mem_append.1 c with c | c
    · exact h.off c
    · exact hpq (List.mem_singleton.1 c)
theorem Bq.end {v : Int} {ns queue : List Nat} (h : Bq n E F p v ns out queue) (hall : ∀ q, (p, q) ∈ E → q ∈ ns) : Bf n E F (fun _ => False) out queue :=
  ⟨h.inv.way, h.inv.neg, h.inv.src, fun x y hx e hx0 hxq _ => by
    by_cases c : x = p
    · rw [c] at e ⊢
      rw [h.cur]
      exact h.seen y (hall y e)
    · exact h.inv.edge x y hx e hx0 hxq c, h.inv.pos, h.inv.sorted, h.inv.done, h.inv.nodup⟩
/-- How many parties have no rank yet. -/
def negs (n : Nat) (out : Nat → Int) : Nat := ((List.range n).filter fun x => decide (out x < 0)).length
theorem negs_set (hq : q < n) (h0 : out q < 0) {v : Int} (hv : 0 ≤ v) : negs n (setI out q v) + 1 ≤ negs n out := by
  refine filter_lt (fun x _ hx => ?_) ⟨q, List.mem_range.2 hq, ?_, decide_eq_true h0⟩
  · have h1 := of_decide_eq_true hx
    refine decide_eq_true ?_
    by_cases c : x = q
    · rw [c]; exact h0
    · rwa [setI_other c] at h1
  · rw [setI_same]; exact decide_eq_false (by omega)
end
end Ci
end Go.Proofs.YtpmlhgmmobpilaaGreatDoor
namespace Go.Proofs.YtpmlhgmmobpilaaGreatDoor
namespace Ci
section
variable {E : List (Nat × Nat)} {n p q r : Nat} {V V1 V2 : Nat → Prop}
/-- What a search from p makes of what was visited. -/
def Vis (E : List (Nat × Nat)) (p : Nat) (V V' : Nat → Prop) : Prop :=
  (∀ x, V x → V' x) ∧ V' p ∧ (∀ x, V' x → ¬ V x → Reach E p x) ∧ ∀ x y, V' x → ¬ V x → (x, y) ∈ E → V' y
def VisL (E : List (Nat × Nat)) (p : Nat) (ns : List Nat) (V V' : Nat → Prop) : Prop :=
  (∀ x, V x → V' x) ∧ V' p ∧ (∀ x, V' x → ¬ V x → Reach E p x) ∧ (∀ x y, V' x → ¬ V x → x ≠ p → (x, y) ∈ E → V' y) ∧ ∀ y, y ∈ ns → V' y
theorem Vis.had (h : V p) : Vis E p V V := ⟨fun _ h => h, h, fun _ a b => absurd a b, fun _ _ a b => absurd a b⟩
theorem VisL.start (E : List (Nat × Nat)) (p : Nat) (V : Nat → Prop) : VisL E p [] V fun x => V x ∨ x = p :=
  ⟨fun _ h => .inl h, .inr rfl, fun x a b => by rcases a with a | rfl
                                                · exact absurd a b
                                                · exact .refl _, fun x y a b c => by rcases a with a | a
                                                                                     · exact absurd a b
                                                                                     · exact absurd a c, fun y hy => by simp at hy⟩
theorem VisL.step {ns : List Nat} (h : VisL E p ns V V1) (e : (p, q) ∈ E) (h2 : Vis E q V1 V2) : VisL E p (ns ++ [q]) V V2 := by
  obtain ⟨a1, a2, a3, a4, a5⟩ := h
  obtain ⟨b1, b2, b3, b4⟩ := h2
  refine ⟨fun x hx => b1 x (a1 x hx), b1 p a2, fun x hx hv => ?_, fun x y hx hv hp he => ?_, fun y hy => ?_⟩
  · by_cases c : V1 x
    · exact a3 x c hv
    · exact (Reach.one e).trans (b3 x hx c)
  · by_cases c : V1 x
    · exact b1 y (a4 x y c hv hp he)
    · exact b4 x y hx c he
  · rcases List.mem_append.1 hy with hy | hy
    · exact b1 y (a5 y hy)
    · rw [List.mem_singleton.1 hy]; exact b2
theorem VisL.end {ns : List Nat} (h : VisL E p ns V V1) (hall : ∀ q, (p, q) ∈ E → q ∈ ns) : Vis E p V V1 := by
  obtain ⟨a1, a2, a3, a4, a5⟩ := h
  refine ⟨a1, a2, a3, fun x y hx hv he => ?_⟩
  by_cases c : x = p
  · rw [c] at he
    exact a5 y (hall y he)
  · exact a4 x y hx hv c he
open Classical
theorem ord_nil (k : Nat) : ord E k [] = [] := by cases k <;> simp [ord, pick]
theorem ord_fuel : ∀ (k j : Nat) (left : List Nat), Left n E left → left.length ≤ k → left.length ≤ j → ord E k left = ord E j left := by
  intro k
  induction k with
  | zero =>
    intro j left _ hk _
    rw [List.length_eq_zero_iff.1 (Nat.le_zero.1 hk), ord_nil, ord_nil]
  | succ k ih =>
    intro j left h hk hj
    by_cases hne : left = []
    · rw [hne, ord_nil, ord_nil]
    · obtain ⟨p, hp⟩ := pick_ex h hne
      obtain ⟨h1, h2, _⟩ := pick_says h hp
      have h3 := List.length_pos_of_mem h1
      obtain ⟨j, rfl⟩ : ∃ i, j = i + 1 := ⟨j - 1, by omega⟩
      have h4 := List.length_erase_of_mem h1
      conv => lhs; unfold ord; rw [hp]
      conv => rhs; unfold ord; rw [hp]
      dsimp only
      rw [ih j _ (h.erase h1 h2) (by omega) (by omega)]
/-- What was chosen, and what is left. -/
structure Stage (n : Nat) (E : List (Nat × Nat)) (pre left : List Nat) : Prop where
  ok : Left n E left
  all : ∀ x, x < n → (fst E x ∈ pre ↔ fst E x ∉ left)
  had : ∀ x, x ∈ pre → x < n ∧ fst E x = x ∧ x ∉ left
  eq : ords n E = pre ++ ord E left.length left
theorem leasts_len : (leasts n E).length ≤ n := by
  have := List.length_filter_le (fun p => decide (fst E p = p)) (List.range n)
  rw [List.length_range] at this
  exact this
theorem Stage.start (hE : InN n E) : Stage n E [] (leasts n E) :=
  ⟨Left.start hE, fun x hx => ⟨fun h => by simp at h, fun h => absurd (mem_leasts.2 ⟨fst_lt hx, fst_fst⟩) h⟩, fun x hx => by simp at hx, by
    rw [List.nil_append]; exact ord_fuel _ _ _ (Left.start hE) leasts_len (Nat.le_refl _)⟩
theorem Stage.step {pre left : List Nat} (h : Stage n E pre left) (hp : pick E left = some p) : Stage n E (pre ++ [p]) (left.erase p) := by
  obtain ⟨h1, h2, _⟩ := pick_says h.ok hp
  have hd := h.ok.nodup
  refine ⟨h.ok.erase h1 h2, fun x hx => ?_, fun x hx => ?_, ?_⟩
  · rw [hd.mem_erase_iff, List.mem_append, h.all x hx, List.mem_singleton]
    constructor
    · rintro (c | c)
      · exact fun c2 => c c2.2
      · exact fun c2 => c2.1 c
    · intro c
      by_cases c2 : fst E x = p
      · exact .inr c2
      · exact .inl fun c3 => c ⟨c2, c3⟩
  · rcases List.mem_append.1 hx with hx | hx
    · obtain ⟨a, b, c⟩ := h.had x hx
      exact ⟨a, b, fun d => c (List.mem_of_mem_erase d)⟩
    · rw [List.mem_singleton.1 hx]
      exact ⟨(h.ok.own p h1).1, (h.ok.own p h1).2, fun d => (hd.mem_erase_iff.1 d).1 rfl⟩
  · have h3 := List.length_pos_of_mem h1
    have h4 := List.length_erase_of_mem h1
    rw [h.eq, List.append_assoc]
    congr 1
    obtain ⟨k, hk⟩ : ∃ k, left.length = k + 1 := ⟨left.length - 1, by omega⟩
    rw [hk]
    conv => lhs; unfold ord; rw [hp]
    dsimp only
    rw [ord_fuel k _ _ (h.ok.erase h1 h2) (by omega) (Nat.le_refl _)]
    rfl
theorem Stage.end {pre : List Nat} (h : Stage n E pre []) : ords n E = pre := by
  have := h.eq
  rwa [ord_nil, List.append_nil] at this
end
end Ci
end Go.Proofs.YtpmlhgmmobpilaaGreatDoor
namespace Go.Proofs.YtpmlhgmmobpilaaGreatDoor
namespace Ci
section
variable {E : List (Nat × Nat)} {n p q : Nat}
variable {F F' : List Nat}
end
end Ci
end Go.Proofs.YtpmlhgmmobpilaaGreatDoor
namespace Go.Proofs.YtpmlhgmmobpilaaGreatDoor
namespace Ci
/-- A way whose inner parties are less than k. -/
def Thru (E : List (Nat × Nat)) : Nat → Nat → Nat → Prop
  | 0, i, j => i = j ∨ (i, j) ∈ E
  | k + 1, i, j => Thru E k i j ∨ (Thru E k i k ∧ Thru E k k j)
section
variable {E : List (Nat × Nat)} {n i j k m : Nat}
theorem thru_refl : ∀ k, Thru E k i i
  | 0 => .inl rfl
  | k + 1 => .inl (thru_refl k)
theorem thru_in : Thru E (k + 1) i k ↔ Thru E k i k := ⟨fun h => h.elim id fun h => h.1, .inl⟩
theorem thru_out : Thru E (k + 1) k j ↔ Thru E k k j := ⟨fun h => h.elim id fun h => h.2, .inl⟩
theorem thru_trans : ∀ k m i j, m < k → Thru E k i m → Thru E k m j → Thru E k i j := by
  intro k
  induction k with
  | zero => intro m i j h; omega
  | succ k ih =>
    intro m i j hm h1 h2
    by_cases e : m = k
    · subst e
      exact .inr ⟨thru_in.1 h1, thru_out.1 h2⟩
    · have hmk : m < k := by omega
      rcases h1 with h1 | ⟨h1, h3⟩
      · rcases h2 with h2 | ⟨h2, h4⟩
        · exact .inl (ih m i j hmk h1 h2)
        · exact .inr ⟨ih m i k hmk h1 h2, h4⟩
      · rcases h2 with h2 | ⟨_, h4⟩
        · exact .inr ⟨h1, ih m k j hmk h3 h2⟩
        · exact .inr ⟨h1, h4⟩
theorem thru_reach : ∀ k i j, Thru E k i j → Reach E i j := by
  intro k
  induction k with
  | zero =>
    rintro i j (rfl | h)
    · exact .refl _
    · exact .one h
  | succ k ih =>
    rintro i j (h | ⟨h1, h2⟩)
    · exact ih i j h
    · exact (ih i k h1).trans (ih k j h2)
theorem thru_mono (h : Thru E 0 i j) : ∀ k, Thru E k i j
  | 0 => h
  | k + 1 => .inl (thru_mono h k)
theorem thru_all (hE : InN n E) : Thru E n i j ↔ Reach E i j := by
  constructor
  · exact thru_reach n i j
  · intro h
    refine h.closed (C := fun x => Thru E n i x) (thru_refl n) fun a b ha e => ?_
    exact thru_trans n a i b (hE _ e).1 ha (thru_mono (.inr e) n)
/-- The table of the reference, ahead of cell (i, j) in the round of party k. -/
def Tab (E : List (Nat × Nat)) (n k i j : Nat) (T : Nat → Nat → Prop) : Prop :=
  ∀ a b, a < n → b < n → (T a b ↔ if a < i ∨ (a = i ∧ b < j) then Thru E (k + 1) a b else Thru E k a b)
theorem Tab.row {T : Nat → Nat → Prop} (h : Tab E n k i j T) (hk : k < n) {a : Nat} (ha : a < n) : T a k ↔ Thru E k a k := by
  rw [h a k ha hk]
  split
  · exact thru_in
  · exact Iff.rfl
theorem Tab.col {T : Nat → Nat → Prop} (h : Tab E n k i j T) (hk : k < n) {b : Nat} (hb : b < n) : T k b ↔ Thru E k k b := by
  rw [h k b hk hb]
  split
  · exact thru_out
  · exact Iff.rfl
/-- A cell is set where both are. -/
theorem Tab.step {T T' : Nat → Nat → Prop} (h : Tab E n k i j T) (hk : k < n) (hi : i < n) (hj : j < n) (hT : ∀ a b, T' a b ↔ T a b ∨ (a = i ∧ b = j ∧ T i k ∧ T k j)) : Tab E n k i (j + 1) T' := by
  intro a b ha hb
  rw [hT]
  by_cases e : a = i ∧ b = j
  · obtain ⟨rfl, rfl⟩ := e
    rw [if_pos (by omega), h.row hk ha, h.col hk hb, h a b ha hb, if_neg (by omega)]
    exact ⟨fun c => c.elim .inl fun c => .inr c.2.2, fun c => c.elim .inl fun c => .inr ⟨rfl, rfl, c⟩⟩
  · rw [h a b ha hb]
    have e2 : ¬ (a = i ∧ b = j ∧ T i k ∧ T k j) := fun c => e ⟨c.1, c.2.1⟩
    by_cases c : a < i ∨ (a = i ∧ b < j)
    · rw [if_pos c, if_pos (by omega)]
      exact ⟨fun x => x.elim id fun y => absurd y e2, .inl⟩
    · rw [if_neg c, if_neg (by omega)]
      exact ⟨fun x => x.elim id fun y => absurd y e2, .inl⟩
theorem Tab.next {T : Nat → Nat → Prop} (h : Tab E n k i n T) : Tab E n k (i + 1) 0 T := by
  intro a b ha hb
  rw [h a b ha hb]
  by_cases c : a < i ∨ (a = i ∧ b < n)
  · rw [if_pos c, if_pos (by omega)]
  · rw [if_neg c, if_neg (by omega)]
theorem Tab.round {T : Nat → Nat → Prop} (h : Tab E n k n 0 T) : Tab E n (k + 1) 0 0 T := by
  intro a b ha hb
  rw [h a b ha hb, if_pos (.inl ha), if_neg (by omega)]
theorem Tab.end {T : Nat → Nat → Prop} (h : Tab E n n 0 0 T) (hE : InN n E) {a b : Nat} (ha : a < n) (hb : b < n) : T a b ↔ Reach E a b := by
  rw [h a b ha hb, if_neg (by omega)]
  exact thru_all hE
end
end Ci
end Go.Proofs.YtpmlhgmmobpilaaGreatDoor
namespace Go.Proofs.YtpmlhgmmobpilaaGreatDoor
namespace Ci
open Classical
section
variable {E : List (Nat × Nat)} {n p q x : Nat}
/-- What was placed ahead of party q in the round of party p. -/
def PL (E : List (Nat × Nat)) (p q x : Nat) : Prop := fst E x < p ∨ (Mut E p x ∧ x < q)
/-- The components gathered so far, by their least parties. -/
noncomputable def lsO (E : List (Nat × Nat)) (n p x : Nat) : List Nat := if x < p ∧ fst E x = x then comp n E x else []
noncomputable def part (E : List (Nat × Nat)) (p q : Nat) : List Nat := (List.range q).filter fun y => decide (Mut E p y)
noncomputable def lsQ (E : List (Nat × Nat)) (n p q x : Nat) : List Nat := if x = p then part E p q else lsO E n p x
noncomputable def cO (E : List (Nat × Nat)) (p : Nat) : Nat := ((List.range p).filter fun y => decide (fst E y = y)).length
noncomputable def cQ (E : List (Nat × Nat)) (p q : Nat) : Nat := if part E p q = [] then cO E p else cO E p + 1
theorem comp_ne (hp : p < n) : comp n E p ≠ [] := fun h => by
  have := mem_comp.2 ⟨hp, Mut.refl (E := E) p⟩
  rw [h] at this
  cases this
theorem part_zero : part E p 0 = [] := rfl
theorem part_succ : part E p (q + 1) = if Mut E p q then part E p q ++ [q] else part E p q := by
  unfold part
  rw [List.range_succ, List.filter_append, List.filter_cons]
  by_cases h : Mut E p q
  · rw [if_pos h, if_pos (decide_eq_true h)]; rfl
  · rw [if_neg h, if_neg (by rw [decide_eq_false h]; simp)]; simp
theorem part_all : part E p n = comp n E p := rfl
theorem lsQ_zero : lsQ E n p 0 x = lsO E n p x := by
  unfold lsQ
  by_cases e : x = p
  · rw [if_pos e, part_zero]
    unfold lsO
    rw [if_neg (by omega)]
  · rw [if_neg e]
theorem lsQ_skip (h : ¬ Mut E p q) : lsQ E n p (q + 1) x = lsQ E n p q x := by
  unfold lsQ
  rw [part_succ, if_neg h]
theorem cQ_zero : cQ E p 0 = cO E p := if_pos rfl
theorem cQ_skip (h : ¬ Mut E p q) : cQ E p (q + 1) = cQ E p q := by unfold cQ; rw [part_succ, if_neg h]
theorem PL_skip (h : ¬ Mut E p q) : PL E p (q + 1) x ↔ PL E p q x := by
  unfold PL
  constructor
  · rintro (a | ⟨a, b⟩)
    · exact .inl a
    · by_cases e : x = q
      · subst e; exact absurd a h
      · exact .inr ⟨a, by omega⟩
  · rintro (a | ⟨a, b⟩)
    · exact .inl a
    · exact .inr ⟨a, by omega⟩
theorem PL_zero : PL E p 0 x ↔ fst E x < p := ⟨fun h => h.elim id fun h => absurd h.2 (Nat.not_lt_zero _), .inl⟩
/-- The round of a party that was placed before. -/
theorem PL_had (h : fst E p ≠ p) : PL E (p + 1) 0 x ↔ PL E p 0 x := by
  rw [PL_zero, PL_zero]
  constructor
  · intro h1
    by_cases e : fst E x = p
    · exact absurd (by rw [← e, fst_fst]) h
    · omega
  · omega
theorem PL_next (h : fst E p = p) (hx : x < n) : PL E (p + 1) 0 x ↔ PL E p n x := by
  rw [PL_zero]
  unfold PL
  constructor
  · intro h1
    by_cases e : fst E x = p
    · exact .inr ⟨fst_iff.1 (by rw [e, h]), hx⟩
    · exact .inl (by omega)
  · rintro (a | ⟨a, _⟩)
    · omega
    · have := fst_eq a
      omega
theorem lsO_had (h : fst E p ≠ p) : lsO E n (p + 1) x = lsO E n p x := by
  unfold lsO
  by_cases e : x < p ∧ fst E x = x
  · rw [if_pos e, if_pos ⟨by omega, e.2⟩]
  · rw [if_neg e, if_neg]
    rintro ⟨a, b⟩
    by_cases c : x = p
    · subst c; exact h b
    · exact e ⟨by omega, b⟩
theorem lsO_next (h : fst E p = p) : lsO E n (p + 1) x = lsQ E n p n x := by
  unfold lsO lsQ
  by_cases e : x = p
  · subst e
    rw [if_pos rfl, if_pos ⟨by omega, h⟩, part_all]
  · rw [if_neg e]
    unfold lsO
    by_cases c : x < p ∧ fst E x = x
    · rw [if_pos c, if_pos ⟨by omega, c.2⟩]
    · rw [if_neg c, if_neg fun d => c ⟨by omega, d.2⟩]
theorem cO_succ : cO E (p + 1) = if fst E p = p then cO E p + 1 else cO E p := by
  unfold cO
  rw [List.range_succ, List.filter_append, List.length_append, List.filter_cons]
  by_cases h : fst E p = p
  · rw [if_pos h, if_pos (decide_eq_true h)]; rfl
  · rw [if_neg h, if_neg (by rw [decide_eq_false h]; simp)]; simp
theorem cO_next (h : fst E p = p) (hp : p < n) : cQ E p n = cO E (p + 1) := by
  rw [cO_succ, if_pos h]
  unfold cQ
  rw [part_all, if_neg (comp_ne hp)]
theorem cO_all : cO E n = (leasts n E).length := rfl
/-- What is left when all are gathered. -/
theorem lsO_all (hx : x < n) : lsO E n n x = if x ∈ leasts n E then comp n E x else [] := by
  unfold lsO
  by_cases h : fst E x = x
  · rw [if_pos ⟨hx, h⟩, if_pos (mem_leasts.2 ⟨hx, h⟩)]
  · rw [if_neg fun c => h c.2, if_neg fun c => h (mem_leasts.1 c).2]
end
end Ci
end Go.Proofs.YtpmlhgmmobpilaaGreatDoor

namespace Go.Proofs.YtpmlhgmmobpilaaGreatDoor
open Go.RowKit
namespace Nt
theorem below_drewN (w : World) (k : Nat) : Below w.heap.size w (w.drewN k) := ⟨rfl, rfl, rfl, Nat.le_refl _, fun _ _ => rfl⟩
theorem below_grow (w : World) (os : Array Obj) : Below w.heap.size w (Sort.grow w os) :=
  ⟨rfl, rfl, rfl, by simp [Sort.grow], fun k hk => by simp [Sort.grow, Array.getElem?_append, hk]⟩
/-- What the world holds of the library's variables. -/
structure Env (w : World) : Prop where
  tab : Lib.TabIs Tryz.prog w "internal/strconv.uint64pow10" .u64 Lib.pow10Tab
  syn : ∃ tp p, w.var? Tryz.prog "strconv.ErrSyntax" = some #[.iface tp p]
  rng : ∃ tp p, w.var? Tryz.prog "strconv.ErrRange" = some #[.iface tp p]
theorem g_tab : Tryz.prog.globalNamed "internal/strconv.uint64pow10" = some 3 := by kernel_rfl
theorem g_syn : Tryz.prog.globalNamed "strconv.ErrSyntax" = some 1 := by kernel_rfl
theorem g_rng : Tryz.prog.globalNamed "strconv.ErrRange" = some 2 := by kernel_rfl
theorem var_lt {w : World} {n : String} {g : Nat} {cs : Array Value} (hg : Tryz.prog.globalNamed n = some g) (h : w.var? Tryz.prog n = some cs) : g < w.heap.size := by
  unfold World.var? at h
  simp only [hg, Option.bind_some] at h
  by_cases hlt : g < w.heap.size
  · exact hlt
  · rw [Array.getElem?_eq_none (by omega)] at h
    simp at h
theorem Env.below {w w' : World} (h : Env w) (hb : Below w.heap.size w w') : Env w' := by
  obtain ⟨h1, ⟨t2, p2, h2⟩, t3, p3, h3⟩ := h
  exact ⟨var?_below hb g_tab (var_lt g_tab h1) h1, ⟨t2, p2, var?_below hb g_syn (var_lt g_syn h2) h2⟩, ⟨t3, p3, var?_below hb g_rng (var_lt g_rng h3) h3⟩⟩
theorem Env.pos {w : World} (h : Env w) : 0 < w.heap.size := by have := var_lt g_tab h.tab; omega
/-- strconv.Itoa -/
theorem itoa_any (n : Int) (h0 : -9223372036854775808 ≤ n) (h1 : n ≤ 9223372036854775807) (w : World) (htab : Lib.TabIs Tryz.prog w "internal/strconv.uint64pow10" .u64 Lib.pow10Tab) :
    Calls Tryz.prog 89 #[.int .i64 n] w fun e w' => e = .returned (.string ⟨(Lib.itoa n).toArray⟩) ∧ Below w.heap.size w w' := by
  refine (Tryz.strconv_Itoa n h0 h1 w htab).mono ?_
  rintro e w' ⟨rfl, k, os, rfl⟩
  exact ⟨rfl, (below_drewN w k).trans (below_grow (w.drewN k) os)⟩
/-- strconv.ParseUint(s, 10, 64), where there is no error -/
theorem parseUint_ok (s : ByteArray) (hmax : s.size ≤ 1000000) (u : Nat) (h : Lib.parseUintB 64 s.data.toList = .ok u) (w : World) :
    Calls Tryz.prog 168 #[.string s, .int .i64 10, .int .i64 64] w fun e w' => e = .returned (.tuple #[.int .u64 u, .nilIface]) ∧ Below w.heap.size w w' := by
  refine (Tryz.strconv_ParseUint_10_at64_ok s (by omega) u h w).mono ?_
  rintro e w' ⟨rfl, rfl | rfl⟩
  · exact ⟨rfl, Below.refl _ _⟩
  · exact ⟨rfl, Go.Joins.below_bytesWorld _ _ _ _ (Nat.le_refl _)⟩
/-- strings.Trim(s, digits) -/
theorem trim_digits (s : ByteArray) (w : World) (hs : s.size ≤ 9223372036854775807) :
    Calls Tryz.prog 112 #[.string s, .string ⟨#[48, 49, 50, 51, 52, 53, 54, 55, 56, 57]⟩] w fun e w' => e = .returned (.string ⟨(Lib.trimS s.data.toList [48, 49, 50, 51, 52, 53, 54, 55, 56, 57]).toArray⟩) ∧ Below w.heap.size w w' :=
  Any.strings_Trim_laid Tryz.lays160 (by kernel_rfl) s ⟨#[48, 49, 50, 51, 52, 53, 54, 55, 56, 57]⟩ w hs (by decide) (ascii_of_all (by decide))
/-- .. and what it keeps of other blocks -/
theorem writeString_k (B b : Nat) (bs : List Value) (s : ByteArray) (w : World) (h : Lib.IsBuilderF 187 5 B b bs w) (hlen : bs.length + s.size ≤ 140737488355328) (hBw : B ≤ w.heap.size) :
    Calls Tryz.prog 175 #[.pointer (some ⟨b, 0, none⟩), .string s] w fun e w' => e = .returned (.tuple #[.int .i64 s.size, .nilIface]) ∧ (Lib.IsBuilderF 187 5 B b (bs ++ Lib.strCells s) w' ∧ Below B w w' ∧ Lib.OthersKept 5 (some b) w w') := by
  refine (Any.Builder_WriteString_k { Tryz.lays105 with } Tryz.Builder_Extra_105 B b bs s w h hlen hBw).mono ?_
  rintro e w' ⟨rfl, h1, h2⟩
  exact ⟨rfl, .inr h1, h2⟩
end Nt
end Go.Proofs.YtpmlhgmmobpilaaGreatDoor

namespace Go.Proofs.YtpmlhgmmobpilaaGreatDoor
open Go.RowKit
namespace Nt
/-- The value of limbs, the least significant one first. -/
def lv : List Nat → Nat
  | [] => 0
  | x :: xs => x + 1000000000 * lv xs
/-- The limb at a place; 0 beyond the last one. A plain definition, so that the walk leaves it. -/
def lim (xs : List Nat) (i : Nat) : Nat := xs.getD i 0
/-- The length of a slice. -/
def slen : Value → Nat
  | .slice _ n _ => n
  | _ => 0
/-- Limbs in range, without leading zeros. -/
def Canon (xs : List Nat) : Prop := (∀ x ∈ xs, x < 1000000000) ∧ xs.getLast? ≠ some 0
theorem lv_append (xs ys : List Nat) : lv (xs ++ ys) = lv xs + 1000000000 ^ xs.length * lv ys := by
  induction xs with
  | nil => simp [lv]
  | cons x xs ih =>
    simp only [List.cons_append, lv, ih, List.length_cons, Nat.pow_succ, Nat.mul_add]
    rw [Nat.mul_comm (1000000000 ^ xs.length) 1000000000, Nat.mul_assoc]
    omega
/-- A slice of limbs: where it lies and what its cells hold. -/
def Sl (w : World) (v : Value) (xs : List Nat) : Prop :=
  ∃ a cap, v = .slice a xs.length cap ∧ (a = none → xs = [] ∧ cap = 0) ∧
    ∀ ad, a = some ad → ad.spot = none ∧ ad.block < w.heap.size ∧ xs.length ≤ cap ∧ ∀ i, i < xs.length → w.cell? ⟨ad.block, ad.off + i, none⟩ = some (.int .u64 (lim xs i))
theorem Sl.shape {w : World} {v : Value} {xs : List Nat} (h : Sl w v xs) :
    (xs = [] ∧ v = .slice none 0 0) ∨
    ∃ b off cap, v = .slice (some ⟨b, off, none⟩) xs.length cap ∧ b < w.heap.size ∧ xs.length ≤ cap ∧ ∀ i, i < xs.length → w.cell? ⟨b, off + i, none⟩ = some (.int .u64 (lim xs i)) := by
  obtain ⟨a, cap, rfl, hn, hs⟩ := h
  cases a with
  | none => exact .inl ⟨(hn rfl).1, by rw [(hn rfl).1, (hn rfl).2]; rfl⟩
  | some ad =>
    obtain ⟨hsp, hb, hcap, hc⟩ := hs ad rfl
    obtain ⟨b, off, sp⟩ := ad
    cases hsp
    exact .inr ⟨b, off, cap, rfl, hb, hcap, hc⟩
theorem Sl.addr {w : World} {v : Value} {xs : List Nat} (h : Sl w v xs) :
    ∃ a cap, v = .slice a xs.length cap ∧ (xs ≠ [] → ∃ b off, a = some ⟨b, off, none⟩ ∧ b < w.heap.size ∧ ∀ i, i < xs.length → w.cell? ⟨b, off + i, none⟩ = some (.int .u64 (lim xs i))) := by
  obtain ⟨a, cap, rfl, hn, hs⟩ := h
  refine ⟨a, cap, rfl, fun hne => ?_⟩
  cases a with
  | none => exact absurd (hn rfl).1 hne
  | some ad =>
    obtain ⟨hsp, hb, hcap, hc⟩ := hs ad rfl
    obtain ⟨b, off, sp⟩ := ad
    cases hsp
    exact ⟨b, off, rfl, hb, hc⟩
theorem Sl.mk {w : World} {b off cap : Nat} {xs : List Nat} (hb : b < w.heap.size) (hcap : xs.length ≤ cap)
    (hc : ∀ i, i < xs.length → w.cell? ⟨b, off + i, none⟩ = some (.int .u64 (lim xs i))) : Sl w (.slice (some ⟨b, off, none⟩) xs.length cap) xs :=
  ⟨some ⟨b, off, none⟩, cap, rfl, (fun h => by cases h), (fun ad h => by cases h; exact ⟨rfl, hb, hcap, hc⟩)⟩
theorem Sl.nil (w : World) : Sl w (.slice none 0 0) [] := ⟨none, 0, rfl, (fun _ => ⟨rfl, rfl⟩), (fun ad h => by cases h)⟩
theorem Sl.below {w w' : World} {v : Value} {xs : List Nat} (h : Sl w v xs) (hb : Below w.heap.size w w') : Sl w' v xs := by
  obtain ⟨a, cap, rfl, hn, hs⟩ := h
  refine ⟨a, cap, rfl, hn, fun ad e => ?_⟩
  obtain ⟨h1, h2, h3, h4⟩ := hs ad e
  exact ⟨h1, Nat.lt_of_lt_of_le h2 hb.size, h3, fun i hi => (hb.cell (p := ⟨ad.block, ad.off + i, none⟩) h2).trans (h4 i hi)⟩
/-- A slice that lies in a block from B on, if it lies anywhere. -/
def From (B : Nat) : Value → Prop
  | .slice (some ad) _ _ => B ≤ ad.block
  | _ => True
/-- Leading zeros removed: the shortest prefix beyond which all limbs are 0. -/
def Trimmed (xs : List Nat) (k : Nat) : Prop := k ≤ xs.length ∧ (∀ j, k ≤ j → j < xs.length → lim xs j = 0) ∧ (0 < k → lim xs (k - 1) ≠ 0)
theorem lv_zeros (xs : List Nat) (h : ∀ j, j < xs.length → lim xs j = 0) : lv xs = 0 := by
  induction xs with
  | nil => rfl
  | cons x xs ih =>
    have h0 := h 0 (by simp)
    have := ih (fun j hj => by have := h (j + 1) (by simp; omega); simpa [lim] using this)
    simp [lim] at h0
    simp [lv, h0, this]
theorem lim_take (xs : List Nat) (k i : Nat) (h : i < k) : lim (xs.take k) i = lim xs i := by
  simp [lim, h]
theorem lim_drop (xs : List Nat) (k i : Nat) : lim (xs.drop k) i = lim xs (k + i) := by
  simp [lim, List.getElem?_drop]
theorem lim_lt (xs : List Nat) (i : Nat) (h : i < xs.length) : lim xs i = xs[i] := by
  simp [lim, h]
theorem Trimmed.lv {xs : List Nat} {k : Nat} (h : Trimmed xs k) : lv (xs.take k) = lv xs := by
  obtain ⟨h1, h2, _⟩ := h
  have e : xs = xs.take k ++ xs.drop k := (List.take_append_drop k xs).symm
  have : Nt.lv (xs.drop k) = 0 := lv_zeros _ (fun j hj => by rw [lim_drop]; simp at hj; exact h2 _ (by omega) (by omega))
  conv => rhs; rw [e]
  rw [lv_append, this]; simp
theorem Trimmed.canon {xs : List Nat} {k : Nat} (h : Trimmed xs k) (hr : ∀ x ∈ xs, x < 1000000000) : Canon (xs.take k) := by
  obtain ⟨h1, h2, h3⟩ := h
  refine ⟨fun x hx => hr x (List.mem_of_mem_take hx), ?_⟩
  rw [List.getLast?_eq_getElem?]
  by_cases hk : k = 0
  · subst hk; simp
  · have hlen : (xs.take k).length = k := by simp; omega
    rw [hlen]
    have := h3 (by omega)
    rw [lim_lt _ _ (by omega)] at this
    rw [List.getElem?_take, if_pos (by omega), List.getElem?_eq_getElem (by omega)]
    intro e
    exact this (Option.some.inj e)
/-- A block of memory that holds limbs, all of it. -/
def Row (t : TypeId) (w : World) (g : Nat) (zs : List Nat) : Prop :=
  w.heap[g]? = some (.cells (zs.map fun x : Nat => Value.int .u64 (x : Int)).toArray t (0, 0))
theorem Row.lt {t : TypeId} {w : World} {g : Nat} {zs : List Nat} (h : Row t w g zs) : g < w.heap.size :=
  (Array.getElem?_eq_some_iff.1 h).1
theorem Row.cell {t : TypeId} {w : World} {g : Nat} {zs : List Nat} (h : Row t w g zs) {i : Nat} (hi : i < zs.length) :
    w.cell? ⟨g, i, none⟩ = some (.int .u64 (lim zs i)) := by
  unfold Row at h
  simp only [World.cell?, h]
  simp [lim, hi]
theorem Row.frozen {t : TypeId} {w : World} {g : Nat} {zs : List Nat} (h : Row t w g zs) (i : Nat) : w.frozen? ⟨g, i, none⟩ = false := by
  unfold Row at h
  simp [World.frozen?, h]
theorem Row.set {t : TypeId} {w : World} {g : Nat} {zs : List Nat} (h : Row t w g zs) (i : Nat) (y : Nat) :
    Row t (w.setCell ⟨g, i, none⟩ (.int .u64 (y : Int))) g (zs.set i y) := by
  unfold Row at h ⊢
  simp only [World.setCell, Array.getElem?_modify, h]
  simp [List.map_set]
theorem madeZero (n : Nat) : madeCells #[.int .u64 0] n = ((List.replicate n 0).map fun x : Nat => Value.int .u64 (x : Int)).toArray := by
  unfold madeCells
  apply Array.ext
  · simp
  · intro i h1 h2
    have e : i % 1 = 0 := Nat.mod_one i
    simp [e]
theorem Row.made0 (t : TypeId) (w : World) (n : Nat) : Row t (w.alloc (.cells (madeCells #[.int .u64 0] n) t)) w.heap.size (List.replicate n 0) := by
  unfold Row
  rw [heap_alloc_new, madeZero]
theorem Row.sl {t : TypeId} {w : World} {g : Nat} {zs : List Nat} (h : Row t w g zs) : Sl w (.slice (some ⟨g, 0, none⟩) zs.length zs.length) zs :=
  Sl.mk h.lt (Nat.le_refl _) (fun i hi => by rw [Nat.zero_add]; exact h.cell hi)
/-- The first limbs of a number, zeros beyond its last one. -/
def lo (xs : List Nat) (k : Nat) : Nat := lv (xs.take k)
theorem lim_ge (xs : List Nat) (i : Nat) (h : xs.length ≤ i) : lim xs i = 0 := by
  simp [lim, h]
theorem lo_succ (xs : List Nat) (k : Nat) : lo xs (k + 1) = lo xs k + 1000000000 ^ k * lim xs k := by
  unfold lo
  by_cases h : k < xs.length
  · rw [List.take_succ_eq_append_getElem h, lv_append]
    simp only [lv, List.length_take, Nat.min_eq_left (Nat.le_of_lt h), lim_lt _ _ h, Nat.mul_zero, Nat.add_zero]
  · rw [List.take_of_length_le (by omega), List.take_of_length_le (by omega), lim_ge _ _ (by omega)]
    simp
theorem lo_zero (xs : List Nat) : lo xs 0 = 0 := by simp [lo, lv]
theorem lo_all (xs : List Nat) (k : Nat) (h : xs.length ≤ k) : lo xs k = lv xs := by
  unfold lo; rw [List.take_of_length_le h]
theorem lo_set (xs : List Nat) (k y : Nat) : lo (xs.set k y) k = lo xs k := by
  unfold lo; rw [List.take_set_of_le (Nat.le_refl _)]
theorem lim_set (xs : List Nat) (k y : Nat) (h : k < xs.length) : lim (xs.set k y) k = y := by
  simp [lim, h]
theorem lim_set_ne (xs : List Nat) (k j y : Nat) (h : j ≠ k) : lim (xs.set k y) j = lim xs j := by
  simp [lim, Ne.symm h]
theorem lim_zeros (n j : Nat) : lim (List.replicate n 0) j = 0 := by
  by_cases h : j < n
  · simp [lim, h]
  · exact lim_ge _ _ (by simp; omega)
/-- Every limb is in range. -/
def InR (xs : List Nat) : Prop := ∀ x ∈ xs, x < 1000000000
theorem InR.lim {xs : List Nat} (h : InR xs) (i : Nat) : lim xs i < 1000000000 := by
  by_cases hi : i < xs.length
  · rw [lim_lt _ _ hi]; exact h _ (List.getElem_mem hi)
  · rw [lim_ge _ _ (by omega)]; omega
theorem InR.set {xs : List Nat} (h : InR xs) (k y : Nat) (hy : y < 1000000000) : InR (xs.set k y) := by
  intro x hx
  rcases List.mem_or_eq_of_mem_set hx with h' | rfl
  · exact h x h'
  · exact hy
theorem InR.zeros (n : Nat) : InR (List.replicate n 0) := by
  intro x hx; rw [List.eq_of_mem_replicate hx]; omega
theorem lv_lt {xs : List Nat} (h : InR xs) : lv xs < 1000000000 ^ xs.length := by
  induction xs with
  | nil => simp [lv]
  | cons x xs ih =>
    have h1 := h x (by simp)
    have h2 := ih (fun y hy => h y (by simp [hy]))
    simp only [lv, List.length_cons, Nat.pow_succ]
    generalize 1000000000 ^ xs.length = B at *
    omega
theorem lo_lt {xs : List Nat} (h : InR xs) (k : Nat) : lo xs k < 1000000000 ^ k := by
  have := lv_lt (xs := xs.take k) (fun x hx => h x (List.mem_of_mem_take hx))
  unfold lo
  have h2 : (xs.take k).length ≤ k := by simp; omega
  exact Nat.lt_of_lt_of_le this (Nat.pow_le_pow_right (by omega) h2)
theorem Canon.ge {xs : List Nat} (h : Canon xs) (h0 : xs ≠ []) : 1000000000 ^ (xs.length - 1) ≤ lv xs := by
  obtain ⟨ys, y, rfl⟩ : ∃ ys y, xs = ys ++ [y] := ⟨xs.dropLast, xs.getLast h0, (List.dropLast_concat_getLast h0).symm⟩
  have hy : y ≠ 0 := by have := h.2; simp at this; exact this
  rw [lv_append]
  simp only [List.length_append, List.length_cons, List.length_nil, lv]
  have : 1000000000 ^ ys.length * 1 ≤ 1000000000 ^ ys.length * (y + 1000000000 * 0) := Nat.mul_le_mul_left _ (by omega)
  simp at this ⊢
  omega
theorem Canon.len_le {xs : List Nat} (h : Canon xs) {k : Nat} (hk : lv xs < 1000000000 ^ k) : xs.length ≤ k := by
  by_cases h0 : xs = []
  · simp [h0]
  · have := h.ge h0
    have h1 : 1000000000 ^ (xs.length - 1) < 1000000000 ^ k := by omega
    have := (Nat.pow_lt_pow_iff_right (by omega : 1 < 1000000000)).1 h1
    omega
theorem Canon.len_mono {xs ys : List Nat} (h : Canon xs) (hy : Canon ys) (hle : lv xs ≤ lv ys) : xs.length ≤ ys.length :=
  h.len_le (Nat.lt_of_le_of_lt hle (lv_lt hy.1))
/-- A row of limbs of the call's own, which may grow. -/
def lvals (xs : List Nat) : List Value := xs.map fun x : Nat => Value.int .u64 (x : Int)
def Own (t : TypeId) (B : Nat) (w : World) (v : Value) (n : Nat) (xs : List Nat) : Prop := w.ownsRow B t 1 v n (lvals xs)
theorem lvals_snoc (xs : List Nat) (x : Nat) : lvals xs ++ [Value.int .u64 (x : Int)] = lvals (xs ++ [x]) := by simp [lvals]
theorem Own.len {t : TypeId} {B : Nat} {w : World} {v : Value} {n : Nat} {xs : List Nat} (h : Own t B w v n xs) : xs.length = n := by
  have := h.1
  simpa [lvals] using this
theorem Own.sl {t : TypeId} {B : Nat} {w : World} {v : Value} {n : Nat} {xs : List Nat} (h : Own t B w v n xs) : Sl w v xs := by
  have hl := h.len
  subst hl
  rcases h.2 with ⟨rfl, h0⟩ | ⟨g, cap, cur, rfl, hg, hh, hn, hcm, hcs, ht⟩
  · have : xs = [] := List.length_eq_zero_iff.1 h0
    subst this
    exact Sl.nil _
  · refine Sl.mk (Array.getElem?_eq_some_iff.1 hh).1 hn (fun i hi => ?_)
    have := World.ownsRow.cellAt h i (by omega)
    rw [Nat.zero_add, this]
    simp [lvals, lim, hi]
theorem Own.from {t : TypeId} {B : Nat} {w : World} {v : Value} {n : Nat} {xs : List Nat} (h : Own t B w v n xs) : From B v := by
  rcases h.2 with ⟨rfl, h0⟩ | ⟨g, cap, cur, rfl, hg, _⟩
  · trivial
  · exact hg
theorem Own.below {t : TypeId} {B : Nat} {w w' : World} {v : Value} {n : Nat} {xs : List Nat} (h : Own t B w v n xs) (hb : Below w.heap.size w w') : Own t B w' v n xs := by
  obtain ⟨h1, h2⟩ := h
  refine ⟨h1, ?_⟩
  rcases h2 with h2 | ⟨g, cap, cur, hv, hg, hh, r⟩
  · exact Or.inl h2
  · exact Or.inr ⟨g, cap, cur, hv, hg, by rw [hb.block g (Array.getElem?_eq_some_iff.1 hh).1]; exact hh, r⟩
theorem one_new (w : World) (v : Value) (t : TypeId) : ∀ j u, [v][j]? = some u → (w.alloc (.cells #[v] t)).cell? (Addr.add ⟨w.heap.size, 0, none⟩ j) = some u := by
  intro j u hj
  match j, hj with
  | 0, hj =>
    simp at hj
    subst hj
    simp [Addr.add]
theorem one_cell (k : IntKind) (x : Int) : ∀ u ∈ [Value.int k x], u.oneCell' = true := by
  intro u hu; simp at hu; subst hu; rfl
/-- Numbers of at most 200 limbs. -/
def Small (n : Nat) : Prop := n < 1000000000 ^ 200
theorem lv_set (zs : List Nat) (p y : Nat) (h : p < zs.length) : lv (zs.set p y) + 1000000000 ^ p * lim zs p = lv zs + 1000000000 ^ p * y := by
  induction zs generalizing p with
  | nil => simp at h
  | cons z zs ih =>
    cases p with
    | zero => simp [lv, lim]; omega
    | succ p =>
      have := ih p (by simpa using h)
      have e : lim (z :: zs) (p + 1) = lim zs p := by simp [lim]
      rw [e]
      simp only [List.set_cons_succ, lv, Nat.pow_succ]
      rw [Nat.mul_comm (1000000000 ^ p) 1000000000, Nat.mul_assoc, Nat.mul_assoc]
      omega
/-- The number of a slice. -/
def Num (w : World) (v : Value) (n : Nat) : Prop := ∃ xs, Canon xs ∧ lv xs = n ∧ Sl w v xs
theorem Num.below {w w' : World} {v : Value} {n : Nat} (h : Num w v n) (hb : Below w.heap.size w w') : Num w' v n := by
  obtain ⟨xs, h1, h2, h3⟩ := h
  exact ⟨xs, h1, h2, h3.below hb⟩
end Nt
end Go.Proofs.YtpmlhgmmobpilaaGreatDoor

namespace Go.Proofs.YtpmlhgmmobpilaaGreatDoor
open Go.RowKit
namespace Nt
/-- The value of a row of decimal digits. -/
def dval (l : List UInt8) : Nat := l.foldl (fun a c => a * 10 + (c.toNat - 48)) 0
def isDig (c : UInt8) : Prop := 48 ≤ c.toNat ∧ c.toNat ≤ 57
theorem foldl_dval (l : List UInt8) (a : Nat) : l.foldl (fun a c => a * 10 + (c.toNat - 48)) a = a * 10 ^ l.length + dval l := by
  induction l generalizing a with
  | nil => simp [dval]
  | cons c l ih =>
    simp only [List.foldl_cons, List.length_cons, dval]
    rw [ih, ih (0 * 10 + (c.toNat - 48)), Nat.pow_succ, Nat.zero_mul, Nat.zero_add, Nat.add_mul, Nat.mul_assoc, Nat.mul_comm 10]
    omega
theorem dval_append (l m : List UInt8) : dval (l ++ m) = dval l * 10 ^ m.length + dval m := by
  unfold dval
  rw [List.foldl_append, foldl_dval]
  rfl
theorem dval_nil : dval [] = 0 := rfl
theorem dval_cons (c : UInt8) (l : List UInt8) : dval (c :: l) = (c.toNat - 48) * 10 ^ l.length + dval l := by
  rw [show c :: l = [c] ++ l from rfl, dval_append]
  simp [dval]
theorem dval_lt {l : List UInt8} (h : ∀ c ∈ l, isDig c) : dval l < 10 ^ l.length := by
  induction l with
  | nil => simp [dval]
  | cons c l ih =>
    have h1 := h c (by simp)
    have h2 := ih (fun d hd => h d (by simp [hd]))
    rw [dval_cons, List.length_cons, Nat.pow_succ]
    have h3 : (c.toNat - 48) * 10 ^ l.length ≤ 9 * 10 ^ l.length := Nat.mul_le_mul_right _ (by have := h1.2; omega)
    omega
theorem parse_chunk {l : List UInt8} (h : ∀ c ∈ l, isDig c) (h0 : l ≠ []) (hl : l.length ≤ 9) : Lib.parseUintB 64 l = .ok (dval l) := by
  have key : ∀ (m : List UInt8) (a : Nat), (∀ c ∈ m, isDig c) → a * 10 ^ m.length + 10 ^ m.length ≤ 1000000000 → Lib.parseUintM (2 ^ 64 - 1) a m = .ok (a * 10 ^ m.length + dval m) := by
    intro m
    induction m with
    | nil => intro a _ _; simp [Lib.parseUintM, dval]
    | cons c m ih =>
      intro a hm hb
      have h1 := hm c (by simp)
      rw [List.length_cons, Nat.pow_succ] at hb
      have hp : 0 < 10 ^ m.length := Nat.pow_pos (by omega)
      have ha : a * 10 ^ m.length ≤ 100000000 := by
        rw [← Nat.mul_assoc] at hb; omega
      have ha' : a ≤ 100000000 := Nat.le_trans (Nat.le_mul_of_pos_right a hp) ha
      have hc := h1.2
      unfold Lib.parseUintM
      rw [if_pos (show 48 ≤ c.toNat ∧ c.toNat ≤ 57 from h1), if_neg (by omega), if_neg (by omega), ih _ (fun d hd => hm d (by simp [hd])) ?_]
      · rw [dval_cons, List.length_cons, Nat.pow_succ, Nat.add_mul, Nat.mul_assoc, Nat.mul_comm 10]
        congr 1; omega
      · have h3 : (c.toNat - 48) * 10 ^ m.length ≤ 9 * 10 ^ m.length := Nat.mul_le_mul_right _ (by omega)
        have h4 : a * (10 ^ m.length * 10) = a * 10 * 10 ^ m.length := by rw [Nat.mul_comm (10 ^ m.length), Nat.mul_assoc]
        rw [Nat.add_mul]
        omega
  unfold Lib.parseUintB
  rw [if_neg h0, key l 0 h ?_]
  · rw [Nat.zero_mul, Nat.zero_add]
  · rw [Nat.zero_mul, Nat.zero_add]
    exact Nat.le_trans (Nat.pow_le_pow_right (by omega) hl) (by decide)
theorem toNat_dig (d : Nat) (h : d < 10) : (UInt8.ofNat (48 + d)).toNat = 48 + d := by
  rw [UInt8.toNat_ofNat']
  omega
theorem decDigits_dig (u : Nat) : ∀ c ∈ Lib.decDigits u, isDig c := by
  induction u using Nat.strongRecOn with
  | _ u ih =>
    rw [Lib.decDigits]
    split
    · intro c hc
      simp only [List.mem_cons, List.not_mem_nil, or_false] at hc
      subst hc
      unfold isDig
      rw [toNat_dig _ (by omega)]
      omega
    · intro c hc
      rcases List.mem_append.1 hc with h | h
      · exact ih (u / 10) (by omega) c h
      · simp only [List.mem_cons, List.not_mem_nil, or_false] at h
        subst h
        unfold isDig
        rw [toNat_dig _ (by omega)]
        omega
theorem dval_decDigits (u : Nat) : dval (Lib.decDigits u) = u := by
  induction u using Nat.strongRecOn with
  | _ u ih =>
    rw [Lib.decDigits]
    split
    · simp only [dval, List.foldl_cons, List.foldl_nil, toNat_dig u (by omega)]
      omega
    · rw [dval_append, ih (u / 10) (by omega)]
      simp only [List.length_cons, List.length_nil, dval, List.foldl_cons, List.foldl_nil, toNat_dig _ (Nat.mod_lt u (show 0 < 10 by omega))]
      omega
theorem decDigits_ne (u : Nat) : Lib.decDigits u ≠ [] := by
  rw [Lib.decDigits]
  split <;> simp
theorem head_append (l m : List UInt8) (h : l ≠ []) : (l ++ m).head? = l.head? := by
  cases l with
  | nil => exact absurd rfl h
  | cons a l => rfl
theorem decDigits_head (u : Nat) (h : 0 < u) : (Lib.decDigits u).head? ≠ some 48 := by
  induction u using Nat.strongRecOn with
  | _ u ih =>
    rw [Lib.decDigits]
    split
    · intro e
      simp only [List.head?_cons, Option.some.injEq] at e
      have := congrArg UInt8.toNat e
      rw [toNat_dig _ (by omega)] at this
      simp at this
      omega
    · rw [head_append _ _ (decDigits_ne _)]
      exact ih (u / 10) (by omega) (by omega)
/-- A row of digits without a leading zero is the numeral of its value. -/
theorem decDigits_dval : ∀ (n : Nat) (l : List UInt8), l.length = n → l ≠ [] → (∀ c ∈ l, isDig c) → (l.length = 1 ∨ l.head? ≠ some 48) → Lib.decDigits (dval l) = l := by
  intro n
  induction n with
  | zero => intro l hl h0; exact absurd (List.length_eq_zero_iff.1 hl) h0
  | succ n ih =>
    intro l hl h0 hd hh
    obtain ⟨m, c, rfl⟩ : ∃ m c, l = m ++ [c] := ⟨l.dropLast, l.getLast h0, (List.dropLast_concat_getLast h0).symm⟩
    have hc := hd c (by simp)
    have hcn : UInt8.ofNat (48 + (c.toNat - 48)) = c := by
      apply UInt8.toNat_inj.1
      rw [toNat_dig _ (by have := hc.2; omega)]
      have := hc.1; omega
    have hv : dval (m ++ [c]) = dval m * 10 + (c.toNat - 48) := by rw [dval_append]; simp [dval]
    have hc9 : c.toNat - 48 < 10 := by have := hc.2; omega
    cases m with
    | nil =>
      rw [hv]
      simp only [dval_nil, Nat.zero_mul, Nat.zero_add, List.nil_append]
      rw [Lib.decDigits_one hc9, hcn]
    | cons a m =>
      have hlen : (a :: m).length = n := by simp at hl ⊢; omega
      have hhead : a ≠ 48 := by
        rcases hh with h | h
        · simp at h
        · simpa using h
      have ha := hd a (by simp)
      have hpos : 0 < dval (a :: m) := by
        rw [dval_cons]
        have h1 : 1 ≤ a.toNat - 48 := by
          have : a.toNat ≠ 48 := fun e => hhead (UInt8.toNat_inj.1 e)
          have := ha.1; omega
        have h2 : 1 * 10 ^ m.length ≤ (a.toNat - 48) * 10 ^ m.length := Nat.mul_le_mul_right _ h1
        have h3 : 0 < 10 ^ m.length := Nat.pow_pos (by omega)
        omega
      have hi := ih (a :: m) hlen (by simp) (fun d h => hd d (by simp at h ⊢; rcases h with h | h <;> simp [h])) (.inr (by simpa using hhead))
      rw [hv, Lib.decDigits, dif_neg (by omega), show (dval (a :: m) * 10 + (c.toNat - 48)) / 10 = dval (a :: m) by omega, show (dval (a :: m) * 10 + (c.toNat - 48)) % 10 = c.toNat - 48 by omega, hi, hcn]
theorem dval_zeros (n : Nat) (l : List UInt8) : dval (List.replicate n 48 ++ l) = dval l := by
  induction n with
  | zero => simp
  | succ n ih => rw [List.replicate_succ, List.cons_append, dval_cons, ih]; simp
theorem decDigits_len {u k : Nat} (h : u < 10 ^ k) (hk : 0 < k) : (Lib.decDigits u).length ≤ k := by
  induction k generalizing u with
  | zero => omega
  | succ k ih =>
    rw [Lib.decDigits]
    split
    · simp
    · rename_i h10
      have hu : u / 10 < 10 ^ k := by rw [Nat.pow_succ] at h; omega
      have hk0 : 0 < k := by
        rcases Nat.eq_zero_or_pos k with e | e
        · subst e; simp at h; omega
        · exact e
      have := ih hu hk0
      simp
      omega
theorem decDigits_len_iff (u k : Nat) (hk : 0 < k) : (Lib.decDigits u).length ≤ k ↔ u < 10 ^ k := by
  constructor
  · intro h
    have h1 := dval_lt (decDigits_dig u)
    rw [dval_decDigits] at h1
    exact Nat.lt_of_lt_of_le h1 (Nat.pow_le_pow_right (by omega) h)
  · intro h
    exact decDigits_len h hk
/-- Nine digits of a limb, with zeros ahead. -/
def pad9 (x : Nat) : List UInt8 := List.replicate (9 - (Lib.decDigits x).length) 48 ++ Lib.decDigits x
theorem pad9_len {x : Nat} (h : x < 1000000000) : (pad9 x).length = 9 := by
  have := decDigits_len (k := 9) (u := x) (by simpa using h) (by omega)
  simp [pad9]; omega
theorem decDigits_limb (u x : Nat) (hu : 0 < u) (hx : x < 1000000000) : Lib.decDigits (u * 1000000000 + x) = Lib.decDigits u ++ pad9 x := by
  have hl := pad9_len hx
  have hv : dval (Lib.decDigits u ++ pad9 x) = u * 1000000000 + x := by
    rw [dval_append, hl, dval_decDigits, pad9, dval_zeros, dval_decDigits]
  rw [← hv]
  refine decDigits_dval _ _ rfl (by simp [decDigits_ne]) ?_ (.inr ?_)
  · intro c hc
    rcases List.mem_append.1 hc with h | h
    · exact decDigits_dig u c h
    · rcases List.mem_append.1 h with h | h
      · rw [List.eq_of_mem_replicate h]; exact ⟨by decide, by decide⟩
      · exact decDigits_dig x c h
  · rw [head_append _ _ (decDigits_ne _)]
    exact decDigits_head u hu
end Nt
end Go.Proofs.YtpmlhgmmobpilaaGreatDoor

namespace Go.Proofs.YtpmlhgmmobpilaaGreatDoor
open Go.RowKit Go.Shelf
namespace Nt
/-- Whether a row of bytes is a natural number. -/
def isNL (l : List UInt8) : Bool := !l.isEmpty && (decide (l.length ≤ 300) && (l.all (fun c => decide (48 ≤ c.toNat ∧ c.toNat ≤ 57)) && (decide (l.length = 1) || decide (l.head? ≠ some 48))))
def isN (s : ByteArray) : Bool := isNL s.data.toList
/-- The text of a number. -/
def num (n : Nat) : ByteArray := ⟨(Lib.decDigits n).toArray⟩
/-- 10 to the 300. -/
@[irreducible] def mxd : Nat := 300
theorem mxd_eq : mxd = 300 := by unfold mxd; rfl
def Lim : Nat := 10 ^ mxd
def digs : List UInt8 := [48, 49, 50, 51, 52, 53, 54, 55, 56, 57]
theorem isNL_iff (l : List UInt8) : isNL l = true ↔ l ≠ [] ∧ l.length ≤ 300 ∧ (∀ c ∈ l, isDig c) ∧ (l.length = 1 ∨ l.head? ≠ some 48) := by
  unfold isNL isDig
  simp
theorem isN_num {n : Nat} (h : n < Lim) : isN (num n) = true := by
  unfold isN num
  rw [isNL_iff]
  refine ⟨decDigits_ne n, by rw [← mxd_eq]; exact decDigits_len (k := mxd) h (by rw [mxd_eq]; omega), decDigits_dig n, ?_⟩
  rcases Nat.eq_zero_or_pos n with e | e
  · subst e; left; rw [Lib.decDigits_one (by omega)]; rfl
  · right; exact decDigits_head n e
theorem num_of_isN {s : ByteArray} (h : isN s = true) : ∃ n, n < Lim ∧ s = num n := by
  unfold isN at h
  rw [isNL_iff] at h
  obtain ⟨h1, h2, h3, h4⟩ := h
  refine ⟨dval s.data.toList, ?_, ?_⟩
  · exact Nat.lt_of_lt_of_le (dval_lt h3) (Nat.pow_le_pow_right (by omega) (by rw [mxd_eq]; exact h2))
  · unfold num
    rw [decDigits_dval _ _ rfl h1 h3 h4]
theorem num_inj {n m : Nat} (h : num n = num m) : n = m := by
  have := congrArg (fun s : ByteArray => dval s.data.toList) h
  simpa [num, dval_decDigits] using this
theorem isN_num_iff (n : Nat) : isN (num n) = true ↔ n < Lim := by
  constructor
  · intro h
    obtain ⟨m, hm, e⟩ := num_of_isN h
    rw [num_inj e]; exact hm
  · exact isN_num
theorem trim_all (l : List UInt8) : Lib.trimS l digs = [] ↔ ∀ c ∈ l, isDig c := by
  have hd : ∀ c : UInt8, digs.contains c = true ↔ isDig c := by
    intro c
    unfold digs isDig
    simp only [List.contains_eq_mem, List.mem_cons, List.not_mem_nil, or_false, decide_eq_true_eq, ← UInt8.toNat_inj]
    simp only [UInt8.reduceToNat]
    omega
  unfold Lib.trimS Lib.trimLeftS Lib.trimRightS
  constructor
  · intro h
    have key : ∀ m : List UInt8, m.dropWhile (digs.contains ·) = [] → ∀ c ∈ m, isDig c := by
      intro m
      induction m with
      | nil => intro _ c hc; exact absurd hc (by simp)
      | cons a m ih =>
        intro h c hc
        rw [List.dropWhile_cons] at h
        split at h
        · rename_i ha
          rcases List.mem_cons.1 hc with e | e
          · rw [e]; exact (hd a).1 ha
          · exact ih h c e
        · cases h
    by_cases hr : (l.reverse.dropWhile (digs.contains ·)) = []
    · intro c hc
      exact key _ hr c (by simpa using hc)
    · exfalso
      have hne : (l.reverse.dropWhile (digs.contains ·)).reverse ≠ [] := by simpa using hr
      have h1 := key _ h
      obtain ⟨a, m, e⟩ : ∃ a m, l.reverse.dropWhile (digs.contains ·) = a :: m := by
        cases hh : l.reverse.dropWhile (digs.contains ·) with
        | nil => exact absurd hh hr
        | cons a m => exact ⟨a, m, rfl⟩
      have h2 := h1 a (by rw [e]; simp)
      have h3 : digs.contains a = false := by
        have := List.head?_dropWhile_not (digs.contains ·) l.reverse
        rw [e] at this
        simpa using this
      rw [(hd a).2 h2] at h3
      cases h3
  · intro h
    have h1 : l.reverse.dropWhile (digs.contains ·) = [] := by
      have key : ∀ m : List UInt8, (∀ c ∈ m, isDig c) → m.dropWhile (digs.contains ·) = [] := by
        intro m
        induction m with
        | nil => intro _; rfl
        | cons a m ih =>
          intro h
          rw [List.dropWhile_cons, if_pos ((hd a).2 (h a (by simp)))]
          exact ih (fun c hc => h c (by simp [hc]))
      exact key _ (fun c hc => h c (by simpa using hc))
    rw [h1]; rfl
theorem isN_parts (s : ByteArray) : isN s = true ↔ s.toList.isEmpty = false ∧ s.size ≤ 300 ∧ Lib.trimS s.data.toList [48, 49, 50, 51, 52, 53, 54, 55, 56, 57] = [] ∧ (s.size = 1 ∨ ∀ h : 0 < s.size, s[0].toNat ≠ 48) := by
  unfold isN
  rw [isNL_iff, show ([48, 49, 50, 51, 52, 53, 54, 55, 56, 57] : List UInt8) = digs from rfl, trim_all, Lib.toList_data]
  have hl : s.data.toList.length = s.size := by simp
  rw [hl]
  constructor
  · rintro ⟨h1, h2, h3, h4⟩
    refine ⟨by simpa using h1, h2, h3, ?_⟩
    rcases h4 with h4 | h4
    · exact .inl h4
    · right
      intro h e
      apply h4
      rw [List.head?_eq_getElem?, List.getElem?_eq_getElem (by omega)]
      refine congrArg some (UInt8.toNat_inj.1 ?_)
      rw [Array.getElem_toList]
      exact e
  · rintro ⟨h1, h2, h3, h4⟩
    refine ⟨by simpa using h1, h2, h3, ?_⟩
    rcases h4 with h4 | h4
    · exact .inl h4
    · right
      intro e
      have h0 : 0 < s.data.toList.length := by
        rcases Nat.eq_zero_or_pos s.data.toList.length with h | h
        · rw [List.length_eq_zero_iff.1 h] at e; simp at e
        · exact h
      rw [List.head?_eq_getElem?, List.getElem?_eq_getElem h0] at e
      refine h4 (by omega) ?_
      have := congrArg UInt8.toNat (Option.some.inj e)
      rw [Array.getElem_toList] at this
      exact this
theorem ret_bool {a b : Bool} (h : a = b) : Ending.returned (.bool a) = .returned (.bool b) := by rw [h]
set_option maxHeartbeats 1000000 in
theorem is_any (s : ByteArray) (w : World) (hs : s.size ≤ 9223372036854775807) :
    Calls Tryz.prog 65 #[.string s] w fun e w' => e = .returned (.bool (isN s)) ∧ Below w.heap.size w w' := by
  have hcon := trim_digits s w hs
  have HP := Lib.hid (isN_parts s)
  have hfalse : ¬ (s.toList.isEmpty = false ∧ s.size ≤ 300 ∧ Lib.trimS s.data.toList [48, 49, 50, 51, 52, 53, 54, 55, 56, 57] = [] ∧ (s.size = 1 ∨ ∀ h : 0 < s.size, s[0].toNat ≠ 48)) → isN s = false := fun h => by
    cases hh : isN s with
    | false => rfl
    | true => exact absurd (HP.out.1 hh) h
  have HF := Lib.hid hfalse
  clear hfalse
  generalize isN s = r at HP HF ⊢
  cases h0 : s.toList.isEmpty with
  | true =>
    obtain rfl : r = false := HF.out (by rw [h0]; simp)
    go_enter Tryz.func65, Tryz.ntmps65
    go_wp2
    go_ret
    exact ⟨ret_bool (by simp), Below.refl _ _⟩
  | false =>
    have h0' : 0 < s.size := by
      rcases Nat.eq_zero_or_pos s.size with h | h
      · have : s.toList = [] := by rw [Lib.toList_data]; exact List.length_eq_zero_iff.1 (by simpa using h)
        rw [this] at h0; cases h0
      · exact h
    by_cases h1 : s.size ≤ 300
    · by_cases ht : Lib.trimS s.data.toList [48, 49, 50, 51, 52, 53, 54, 55, 56, 57] = []
      · by_cases h2 : s.size = 1
        · obtain rfl : r = true := HP.out.2 ⟨h0, h1, ht, .inl h2⟩
          rw [ht] at hcon
          have hb2 : ((s.size : Int) == 1) = true := by rw [beq_iff_eq]; omega
          clear ht h2
          go_enter Tryz.func65, Tryz.ntmps65
          go_wp2_with (go_at_call 112; refine hcon.mono ?_; rintro e w' ⟨rfl, hb⟩)
          go_ret
          exact ⟨ret_bool (by simp), hb⟩
        · have hb2 : ((s.size : Int) == 1) = false := by rw [beq_eq_false_iff_ne]; omega
          rw [ht] at hcon
          by_cases h3 : s[0].toNat = 48
          · obtain rfl : r = false := HF.out (fun h => by rcases h.2.2.2 with h | h; (· exact h2 h); (· exact h h0' h3))
            have hb3 : ((s[0].toNat : Int) != 48) = false := by rw [h3]; rfl
            clear ht h2 h3
            go_enter Tryz.func65, Tryz.ntmps65
            go_wp2_with (go_at_call 112; refine hcon.mono ?_; rintro e w' ⟨rfl, hb⟩)
            go_ret
            exact ⟨ret_bool (by simp), hb⟩
          · obtain rfl : r = true := HP.out.2 ⟨h0, h1, ht, .inr (fun _ => h3)⟩
            have hb3 : ((s[0].toNat : Int) != 48) = true := by rw [bne_iff_ne]; omega
            clear ht h2 h3
            go_enter Tryz.func65, Tryz.ntmps65
            go_wp2_with (go_at_call 112; refine hcon.mono ?_; rintro e w' ⟨rfl, hb⟩)
            go_ret
            exact ⟨ret_bool (by simp), hb⟩
      · obtain rfl : r = false := HF.out (fun h => ht h.2.2.1)
        have hte : (Lib.trimS s.data.toList [48, 49, 50, 51, 52, 53, 54, 55, 56, 57]).isEmpty = false := by simpa using ht
        clear ht
        generalize Lib.trimS s.data.toList [48, 49, 50, 51, 52, 53, 54, 55, 56, 57] = tl at hcon hte
        go_enter Tryz.func65, Tryz.ntmps65
        go_wp2_with (go_at_call 112; refine hcon.mono ?_; rintro e w' ⟨rfl, hb⟩)
        go_ret
        exact ⟨ret_bool (by simp), hb⟩
    · obtain rfl : r = false := HF.out (fun h => h1 h.2.1)
      go_enter Tryz.func65, Tryz.ntmps65
      go_wp2
      go_ret
      exact ⟨ret_bool (by simp), Below.refl _ _⟩
end Nt
end Go.Proofs.YtpmlhgmmobpilaaGreatDoor

namespace Go.Proofs.YtpmlhgmmobpilaaGreatDoor
open Go.RowKit
namespace Nt
def PostTrim (b off cap : Nat) (xs : List Nat) (w : World) (e : Ending) (w' : World) : Prop :=
  ∃ k, e = .returned (.slice (some ⟨b, off, none⟩) k cap) ∧ Trimmed xs k ∧ w = w'
theorem trim_some (w : World) (b off cap : Nat) (xs : List Nat) (hl : xs.length ≤ 1000000) (hcap : xs.length ≤ cap)
    (hc : ∀ i, i < xs.length → w.cell? ⟨b, off + i, none⟩ = some (.int .u64 (lim xs i))) :
    Calls Tryz.prog 169 #[.slice (some ⟨b, off, none⟩) xs.length cap] w (PostTrim b off cap xs w) := by
  go_enter Tryz.func169, Tryz.ntmps169
  go_wp2
  go_loop [0] (fun v => ∃ k, k ≤ xs.length ∧ v = .slice (some ⟨b, off, none⟩) k cap ∧ (∀ j, k ≤ j → j < xs.length → lim xs j = 0)) (fun v => slen v)
  case atStart => exact ⟨_, Nat.le_refl _, rfl, fun j h h' => by omega⟩
  case round =>
    obtain ⟨k, hk, rfl, hz⟩ := hrel
    have HZ := Lib.hid hz
    clear hz
    by_cases h0 : 0 < k
    · have hcx := hc (k - 1) (by omega)
      by_cases hx : lim xs (k - 1) = 0
      · have HX := Lib.hid hx
        rw [hx] at hcx
        clear hx hc
        go_wp2
        refine ⟨⟨k - 1, by omega, rfl, fun j h h' => ?_⟩, by simp only [slen]; omega⟩
        by_cases e : j = k - 1
        · rw [e]; exact HX.out
        · exact HZ.out j (by omega) h'
      · have hxb : ((lim xs (k - 1) : Int) == 0) = false := by simp; exact hx
        have HX := Lib.hid hx
        clear hx hc
        go_wp2
        go_ret
        exact ⟨k, rfl, ⟨hk, HZ.out, fun _ => HX.out⟩, rfl⟩
    · clear hc
      go_wp2
      go_ret
      exact ⟨k, rfl, ⟨hk, HZ.out, fun h => by omega⟩, rfl⟩
theorem trim_nil (w : World) :
    Calls Tryz.prog 169 #[.slice none 0 0] w fun e w' => e = .returned (.slice none 0 0) ∧ w = w' := by
  go_enter Tryz.func169, Tryz.ntmps169
  go_wp2
  refine wp_loop_rounds 1 ?_
  rw [rounds_succ]
  go_wp2
  go_ret
  exact ⟨rfl, rfl⟩
def PostNum (w : World) (u : Value) (xs : List Nat) (e : Ending) (w' : World) : Prop :=
  ∃ v k, e = .returned v ∧ Trimmed xs k ∧ Sl w v (xs.take k) ∧ (∀ B, From B u → From B v) ∧ w = w'
/-- trim, at every slice of limbs. -/
theorem trim_any (w : World) (v : Value) (xs : List Nat) (hl : xs.length ≤ 1000000) (hs : Sl w v xs) :
    Calls Tryz.prog 169 #[v] w (PostNum w v xs) := by
  rcases hs.shape with ⟨rfl, rfl⟩ | ⟨b, off, cap, rfl, hb, hcap, hc⟩
  · refine (trim_nil w).mono ?_
    rintro e w' ⟨rfl, rfl⟩
    exact ⟨_, 0, rfl, ⟨Nat.le_refl _, fun j _ h => absurd h (by simp), fun h => by omega⟩, Sl.nil _, fun _ h => h, rfl⟩
  · refine (trim_some w b off cap xs hl hcap hc).mono ?_
    rintro e w' ⟨k, rfl, ht, rfl⟩
    have hlen : (xs.take k).length = k := by have := ht.1; simp; omega
    refine ⟨_, k, rfl, ht, ?_, fun _ h => h, rfl⟩
    have := Sl.mk (w := w) (b := b) (off := off) (cap := cap) (xs := xs.take k) hb (by have := ht.1; omega) (fun i hi => by rw [hlen] at hi; rw [lim_take _ _ _ hi]; exact hc i (by have := ht.1; omega))
    rw [hlen] at this
    exact this
end Nt
end Go.Proofs.YtpmlhgmmobpilaaGreatDoor

namespace Go.Proofs.YtpmlhgmmobpilaaGreatDoor
open Go.RowKit Go.Shelf
attribute [local go_sem] Oper.semAt_some
namespace Nt
/-- A place of a list of a known length. -/
abbrev Place (n : Nat) := { i : Nat // i < n }
/-- The first k places from behind. -/
def back (n k : Nat) : List (Place n) := ((List.range k).filterMap fun j => if h : n - 1 - j < n then some ⟨n - 1 - j, h⟩ else none)
theorem back_zero (n : Nat) : back n 0 = [] := rfl
theorem back_succ (n k : Nat) (h : k < n) : back n (k + 1) = back n k ++ [⟨n - 1 - k, by omega⟩] := by
  simp only [back, List.range_succ, List.filterMap_append, List.filterMap_cons, List.filterMap_nil]
  rw [dif_pos (by omega)]
theorem back_length (n k : Nat) (h : k ≤ n) : (back n k).length = k := by
  induction k with
  | zero => rfl
  | succ k ih => rw [back_succ n k (by omega), List.length_append, ih (by omega)]; rfl
/-- What a round keeps: two blocks. -/
def Keep2 (b c : Nat) (W W' : World) : Prop := W'.heap[b]? = W.heap[b]? ∧ W'.heap[c]? = W.heap[c]?
theorem Keep2.refl (b c : Nat) (W : World) : Keep2 b c W W := ⟨rfl, rfl⟩
theorem Keep2.trans {b c : Nat} {A B C : World} (h : Keep2 b c A B) (k : Keep2 b c B C) : Keep2 b c A C := ⟨k.1.trans h.1, k.2.trans h.2⟩
theorem Keep2.of_below {b c n : Nat} {A B : World} (h : Below n A B) (hb : b < n) (hc : c < n) : Keep2 b c A B := ⟨h.block b hb, h.block c hc⟩
theorem Keep2.setCell {b c : Nat} (W : World) (p : Addr) (v : Value) (hb : b ≠ p.block) (hc : c ≠ p.block) : Keep2 b c W (W.setCell p v) :=
  ⟨Below.heap_setCell _ _ _ _ hb, Below.heap_setCell _ _ _ _ hc⟩
/-- A slice of limbs over a block, told by the block. -/
def SlAt (W : World) (b : Nat) (sv : Value) (xs : List Nat) : Prop :=
  (xs = [] ∧ ∃ cap, sv = .slice none 0 cap) ∨ ∃ off cap, sv = .slice (some ⟨b, off, none⟩) xs.length cap ∧ ∀ j, j < xs.length → W.cell? ⟨b, off + j, none⟩ = some (.int .u64 (lim xs j))
theorem SlAt.keep {W W' : World} {b c : Nat} {sv : Value} {xs : List Nat} (h : SlAt W b sv xs) (hk : Keep2 b c W W') : SlAt W' b sv xs := by
  rcases h with h | ⟨off, cap, h, hc⟩
  · exact .inl h
  · exact .inr ⟨off, cap, h, fun j hj => (World.cell?_of_block (w := W) hk.1).trans (hc j hj)⟩
set_option maxRecDepth 100000 in
set_option maxHeartbeats 2000000 in
theorem back_walk (F : Fence) (n : Nat) (hf : F.fn 204) (hro : F.round = none) (hn : 1 ≤ n) (l Bs b off cap : Nat) (xs : List Nat) (hl : xs.length ≤ 1000000) (J Jx : List (Place xs.length) → World → Prop)
    (hY : ∀ pre (x : Place xs.length) W, J pre W → pre.length < xs.length → YieldAt F (n - 1) Tryz.prog l #[.int .i64 (x.1 : Int), .int .u64 (lim xs x.1)] W fun e W' =>
      (e = .returned (.bool true) ∧ J (pre ++ [x]) W' ∧ Keep2 b Bs W W') ∨ (e = .returned (.bool false) ∧ Jx (pre ++ [x]) W'))
    (W : World) (hBs : W.cell? ⟨Bs, 0, none⟩ = some (.slice (some ⟨b, off, none⟩) xs.length cap)) (hc : ∀ j, j < xs.length → W.cell? ⟨b, off + j, none⟩ = some (.int .u64 (lim xs j))) (h0 : J [] W) :
    CallsIn F n Tryz.prog 204 #[.func (.yield l) #[] #[], .pointer (some ⟨Bs, 0, none⟩)] W fun e W' => (∃ v, e = .returned v) ∧
      ((∃ ys, ys = back xs.length xs.length ∧ J ys W') ∨ (∃ pre, (∃ k, k ≤ xs.length ∧ pre = back xs.length k) ∧ Jx pre W')) := by
  refine callsIn_of_wp Tryz.func204 rfl hf ?_ hro
  simp only [Tryz.ntmps204, List.size_toArray, List.length_cons, List.length_nil, Nat.reduceAdd, Nat.reduceSub, Array.replicate_succ, Array.replicate_zero, List.push_toArray, List.append_toArray, List.nil_append, List.cons_append]
  gi_wp2
  gi_loopw [3] (fun i wr => ∃ k : Nat, k ≤ xs.length ∧ i = .int .i64 ((xs.length : Int) - 1 - k) ∧ J (back xs.length k) wr ∧ Keep2 b Bs W wr)
    (fun i _ => ((intOf i) + 1).toNat)
  case atStart => exact ⟨0, Nat.zero_le _, by simp, h0, Keep2.refl _ _ _⟩
  case round =>
    obtain ⟨k, hk, rfl, hJs, hnx⟩ := hrel
    by_cases hlt : k < xs.length
    · have hcx := (World.cell?_of_block (w := W) (a := ⟨b, off + (xs.length - 1 - k), none⟩) hnx.1).trans (hc (xs.length - 1 - k) (by omega))
      have hbx := (World.cell?_of_block (w := W) (a := ⟨Bs, 0, none⟩) hnx.2).trans hBs
      obtain ⟨fn, tmps, assign, body, hy, hR⟩ := hY _ ⟨xs.length - 1 - k, by omega⟩ wr hJs (by rw [back_length _ _ hk]; exact hlt)
      dsimp only at hy
      have ei : (xs.length : Int) - 1 - k = ((xs.length - 1 - k : Nat) : Int) := by omega
      rw [ei]
      obtain ⟨q, hqe⟩ : ∃ q, q = xs.length - 1 - k := ⟨_, rfl⟩
      have hq : q < xs.length := by omega
      have HB : (back xs.length (k + 1) = back xs.length k ++ [⟨q, hq⟩]) := by rw [back_succ _ _ hlt]; subst hqe; rfl
      replace HB := Lib.hid HB
      have HQ : Hid (q + k + 1 = xs.length) := by unfold Hid; omega
      have hx : (⟨xs.length - 1 - k, by omega⟩ : Place xs.length) = ⟨q, hq⟩ := by subst hqe; rfl
      rw [← hqe] at hcx hy ⊢
      rw [hx] at hR
      clear hqe hx ei
      gi_wp2
      refine hR.mono ?_
      rintro e W3 (⟨rfl, hJ3, hk3⟩ | ⟨rfl, hJx3⟩)
      · gi_wp2
        have hq2 := HQ.out
        go_roundw
        case rel => exact ⟨k + 1, by omega, congrArg (Value.int .i64) (by omega), by rw [HB.out]; exact hJ3, hnx.trans hk3⟩
        case measure => simp only [intOf]; omega
      · gi_wp2
        refine bodyPost_ret (results_none rfl _ _ _) rfl ?_
        exact ⟨⟨_, rfl⟩, .inr ⟨_, ⟨k + 1, by omega, HB.out.symm⟩, hJx3⟩⟩
    · obtain rfl : k = xs.length := by omega
      have ei : (xs.length : Int) - 1 - xs.length = -1 := by omega
      rw [ei]
      gi_wp2
      go_end0
      exact ⟨⟨_, rfl⟩, .inl ⟨_, rfl, hJs⟩⟩
set_option maxRecDepth 100000 in
set_option maxHeartbeats 1000000 in
theorem back_walk_nil (F : Fence) (n : Nat) (hf : F.fn 204) (hro : F.round = none) (l Bs cap : Nat) (J : List (Place 0) → World → Prop) (W : World) (hBs : W.cell? ⟨Bs, 0, none⟩ = some (.slice none 0 cap)) (h0 : J [] W) :
    CallsIn F n Tryz.prog 204 #[.func (.yield l) #[] #[], .pointer (some ⟨Bs, 0, none⟩)] W fun e W' => (∃ v, e = .returned v) ∧ J [] W' := by
  refine callsIn_of_wp Tryz.func204 rfl hf ?_ hro
  simp only [Tryz.ntmps204, List.size_toArray, List.length_cons, List.length_nil, Nat.reduceAdd, Nat.reduceSub, Array.replicate_succ, Array.replicate_zero, List.push_toArray, List.append_toArray, List.nil_append, List.cons_append]
  gi_wp2
  gi_loopw [3] (fun i wr => i = .int .i64 (-1) ∧ J [] wr) (fun _ _ => 0)
  case atStart => exact ⟨rfl, h0⟩
  case round =>
    obtain ⟨rfl, hJs⟩ := hrel
    gi_wp2
    go_end0
    exact ⟨⟨_, rfl⟩, hJs⟩
/-- slices.Backward: the slice is boxed; the function value captures the box. -/
theorem back_make (F : Fence) (n : Nat) (hf : F.fn 170) (hro : F.round = none) (a : Option Addr) (len cap : Nat) (w : World) :
    CallsIn F n Tryz.prog 170 #[.slice a len cap] w fun e w' => e = .returned (.func (.func 204) #[] #[.pointer (some ⟨w.heap.size, 0, none⟩)]) ∧ w' = w.alloc (.cells #[.slice a len cap] 132) := by
  refine callsIn_of_wp Tryz.func170 rfl hf ?_ hro
  simp only [Tryz.ntmps170, List.size_toArray, List.length_cons, List.length_nil, Nat.reduceAdd, Nat.reduceSub, Array.replicate_succ, Array.replicate_zero, List.push_toArray, List.append_toArray, List.nil_append, List.cons_append]
  gi_wp2
  go_ret
  exact ⟨rfl, rfl⟩
/-- THE CONTRACT: all places, the last one first; or the first of these. -/
theorem back_stops (F : Fence) (n : Nat) (hf : F.fn 204) (hro : F.round = none) (hn : 1 ≤ n) (Bs b : Nat) (sv : Value) (xs : List Nat) (hl : xs.length ≤ 1000000) (w : World) (hBs : Bs < w.heap.size) (hb : b < w.heap.size)
    (hc : w.cell? ⟨Bs, 0, none⟩ = some sv) (hI : SlAt w b sv xs) :
    SeqStopsK F n Tryz.prog 204 #[.pointer (some ⟨Bs, 0, none⟩)] (fun x : Place xs.length => #[Value.int .i64 (x.1 : Int), .int .u64 (lim xs x.1)]) (Keep2 b Bs)
      (fun ys => ys = back xs.length xs.length) (fun pre => ∃ k, k ≤ xs.length ∧ pre = back xs.length k) xs.length w := fun l J Jx W hW _ _ hY h0 => by
  have hc' := (hW.cell (p := ⟨Bs, 0, none⟩) hBs).trans hc
  rcases hI.keep (Keep2.of_below hW hb hBs) with ⟨rfl, cap, rfl⟩ | ⟨off, cap, rfl, hcs⟩
  · exact (back_walk_nil F n hf hro l Bs cap J W hc' h0).mono fun e W' ⟨he, hj⟩ => ⟨he, .inl ⟨_, rfl, hj⟩⟩
  · exact (back_walk F n hf hro hn l Bs b off cap xs hl J Jx hY W hc' hcs h0).mono fun e W' h => h
end Nt
end Go.Proofs.YtpmlhgmmobpilaaGreatDoor

namespace Go.Proofs.YtpmlhgmmobpilaaGreatDoor
open Go.RowKit Go.Sort Go.Lib Go.Shelf
namespace Nt
theorem holds_zero0 (w : World) (T : TypeId) (nd : Nat) (hs : nd ≤ 24) : Holds (fun (b : UInt8) => Value.int .u8 (b.toNat : Int)) (w.alloc (.cells zeros24 T)) w.heap.size 0 (Array.replicate nd (0 : UInt8)) := fun j hj => by
  have hj' : j < nd := by simpa using hj
  refine ⟨?_, World.frozen?_alloc_new _ _ _ _⟩
  rw [World.cell?_alloc_new, Nat.zero_add, zeros24_at _ (by omega), getElem!_pos _ j hj]
  simp
theorem below_putRow (w : World) (o : Obj) (dk : Array UInt8) (k : Nat) : Below w.heap.size w ((putRow (fun (b : UInt8) => Value.int .u8 (b.toNat : Int)) (w.alloc o) w.heap.size 0 dk).drewN k) := by
  rw [alloc_eq_grow]
  obtain ⟨os', _, e⟩ := putRow_grow_new (fun (b : UInt8) => Value.int .u8 (b.toNat : Int)) w #[o] w.heap.size 0 dk (Nat.le_refl _)
  rw [e]
  exact (below_grow w os').trans (by have := below_drewN (grow w os') k; exact this.mono (by simp [grow]))
set_option maxHeartbeats 2000000 in
set_option maxRecDepth 100000 in
theorem formatUint_inner (u : Nat) (hu64 : u < 18446744073709551616) (w : World) (htab : Lib.TabIs Tryz.prog w "internal/strconv.uint64pow10" .u64 Lib.pow10Tab) :
    Calls Tryz.prog 205 #[.int .u64 u, .int .i64 10] w fun e w' => e = .returned (.string ⟨(Lib.decDigits u).toArray⟩) ∧ Below w.heap.size w w' := by
  by_cases hs : u < 100
  · go_enter Tryz.func205, Tryz.ntmps205
    go_wp2_with (go_at_call 193; refine (Tryz.internal_strconv_small u hs _).mono ?_; rintro e w' ⟨rfl, rfl⟩)
    go_ret
    exact ⟨rfl, Below.refl _ _⟩
  · have hu1 : 1 ≤ u := by omega
    have hnd20 : Lib.nDigits u ≤ 20 := by have := Lib.numDigits_eq u hu1 hu64; split at this <;> omega
    have hal : Tryz.prog.arrayLen 206 = 24 := by kernel_rfl
    have hsl : ∀ W, (Instr.sliceAt 206 (.pointer (some ⟨w.heap.size, 0, none⟩)) none (some (.int .i64 (Lib.nDigits u : Int))) none).run Tryz.prog W = .ok (.slice (some ⟨w.heap.size, 0, none⟩) (Lib.nDigits u) 24) W := fun W => by
      rw [run_sliceAt_array_h W 206 ⟨w.heap.size, 0, none⟩ (by kernel_rfl) .i64 (Lib.nDigits u : Int) (by omega) (by rw [hal]; omega)]
      go_simp
    have hH0 := holds_zero0 w 206 (Lib.nDigits u) (by omega)
    have hfmt := Tryz.internal_strconv_formatBase10 w.heap.size 0 24 u (Array.replicate (Lib.nDigits u) 0) (w.alloc (.cells zeros24 206)) hH0 (by rw [Array.size_replicate]; exact Lib.lt_pow_nDigits u) hu64 (by rw [Array.size_replicate]; omega)
    rw [Array.size_replicate] at hfmt
    have HH0 := Lib.hid hH0
    clear hH0 hal
    go_enter Tryz.func205, Tryz.ntmps205
    go_wp2_with (first
      | (go_at_call 194; refine (Tryz.internal_strconv_numDigits u hu1 hu64 _ (Lib.tabIs_alloc htab _)).mono ?_; rintro e w' ⟨rfl, rfl⟩))
    go_at_call 195
    refine hfmt.mono ?_
    rintro e w' ⟨rfl, k, v', dk, rfl, hF⟩
    have hcv : (convert 171 9 (.slice (some ⟨w.heap.size, 0, none⟩) (Lib.nDigits u) 24)).run Tryz.prog ((putRow (fun (b : UInt8) => Value.int .u8 (b.toNat : Int)) (w.alloc (.cells zeros24 206)) w.heap.size 0 dk).drewN k) = .ok (.string ⟨(Lib.decDigits u).toArray⟩) ((putRow (fun (b : UInt8) => Value.int .u8 (b.toNat : Int)) (w.alloc (.cells zeros24 206)) w.heap.size 0 dk).drewN k) := by
      have h := run_convert_bytes_back (P := Tryz.prog) ((putRow (fun (b : UInt8) => Value.int .u8 (b.toNat : Int)) (w.alloc (.cells zeros24 206)) w.heap.size 0 dk).drewN k) 171 9 5 ⟨w.heap.size, 0, none⟩ 24 (Lib.decDigits u) Tryz.underlying171 Tryz.underlying5 Tryz.underlying9 (fun j hj => by
        rw [Lib.row_is_numeral hF j hj, Lib.add_plain, World.cell?_drewN]
        exact cell?_putRow (fun (b : UInt8) => Value.int .u8 (b.toNat : Int)) _ w.heap.size 0 _ dk HH0.out (by rw [hF.size, Array.size_replicate]) j (by rw [hF.size]; rw [Lib.decDigits_length] at hj; exact hj))
      rw [Lib.decDigits_length] at h
      exact h
    go_wp2
    go_ret
    exact ⟨rfl, below_putRow _ _ _ _⟩
theorem formatUint (u : Nat) (hu64 : u < 18446744073709551616) (w : World) (htab : Lib.TabIs Tryz.prog w "internal/strconv.uint64pow10" .u64 Lib.pow10Tab) :
    Calls Tryz.prog 174 #[.int .u64 u, .int .i64 10] w fun e w' => e = .returned (.string ⟨(Lib.decDigits u).toArray⟩) ∧ Below w.heap.size w w' := by
  go_enter Tryz.func174, Tryz.ntmps174
  go_wp2_with (go_at_call 205; refine (formatUint_inner u hu64 _ htab).mono ?_; rintro e w' ⟨rfl, hb⟩)
  go_ret
  exact ⟨rfl, hb⟩
end Nt
end Go.Proofs.YtpmlhgmmobpilaaGreatDoor

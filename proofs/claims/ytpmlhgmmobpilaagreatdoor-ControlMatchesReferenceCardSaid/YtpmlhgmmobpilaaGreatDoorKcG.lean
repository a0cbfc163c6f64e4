/- Texts that the proof needs: CoA. -/
import Derived.Deep.RegionHeld3
import Derived.Test.YtpmlhgmmobpilaaGreatDoorKcA
import Derived.Test.YtpmlhgmmobpilaaGreatDoorKcB
import Derived.Test.YtpmlhgmmobpilaaGreatDoorKcC
import Derived.Test.YtpmlhgmmobpilaaGreatDoorKcD
import Derived.Test.YtpmlhgmmobpilaaGreatDoorKcE
import Derived.Test.YtpmlhgmmobpilaaGreatDoorKcF
namespace Go.Proofs.YtpmlhgmmobpilaaGreatDoor
namespace Co
open Ci
/-- How many 6000ths of the votes in p the parties of a set have; a link: company, holder, part. -/
def vs (V : List (Nat × Nat × Nat)) (S : Nat → Bool) (p : Nat) : Nat := (V.map fun x => if x.1 = p ∧ S x.2.1 = true then x.2.2 else 0).sum
def maj (V : List (Nat × Nat × Nat)) (S : Nat → Bool) (p : Nat) : Bool := decide (3000 < vs V S p)
/-- Those that are controlled up to a round. -/
def inR (V : List (Nat × Nat × Nat)) (F : List Nat) : Nat → Nat → Bool
  | 0, p => decide (p ∈ F)
  | k + 1, p => inR V F k p || maj V (inR V F k) p
def VIn (n : Nat) (V : List (Nat × Nat × Nat)) : Prop := ∀ x, x ∈ V → x.1 < n ∧ x.2.1 < n
section
variable {V : List (Nat × Nat × Nat)} {F F' : List Nat} {S T : Nat → Bool} {n p q k j : Nat}
theorem vs_mono : ∀ {V : List (Nat × Nat × Nat)}, (∀ x, x ∈ V → S x.2.1 = true → T x.2.1 = true) → vs V S p ≤ vs V T p := by
  intro V
  induction V with
  | nil => intro _; exact Nat.le_refl _
  | cons a V ih =>
    intro h
    have h1 := ih fun x hx => h x (List.mem_cons_of_mem _ hx)
    have h2 := h a (List.mem_cons_self ..)
    unfold vs at h1 ⊢
    simp only [List.map_cons, List.sum_cons]
    have h3 : (if a.1 = p ∧ S a.2.1 = true then a.2.2 else 0) ≤ if a.1 = p ∧ T a.2.1 = true then a.2.2 else 0 := by
      split
      · rename_i hc
        rw [if_pos ⟨hc.1, h2 hc.2⟩]
        exact Nat.le_refl _
      · exact Nat.zero_le _
    omega
theorem vs_congr (h : ∀ x, x ∈ V → S x.2.1 = T x.2.1) : vs V S p = vs V T p :=
  Nat.le_antisymm (vs_mono fun x hx => by rw [h x hx]; exact id) (vs_mono fun x hx => by rw [h x hx]; exact id)
theorem maj_mono (h : ∀ x, x ∈ V → S x.2.1 = true → T x.2.1 = true) (hm : maj V S p = true) : maj V T p = true := by
  have h1 := of_decide_eq_true hm
  have h2 := vs_mono (p := p) h
  exact decide_eq_true (by omega)
theorem maj_congr (h : ∀ x, x ∈ V → S x.2.1 = T x.2.1) : maj V S p = maj V T p := by unfold maj; rw [vs_congr h]
theorem inR_succ : inR V F (k + 1) p = (inR V F k p || maj V (inR V F k) p) := rfl
theorem inR_le (h : inR V F j p = true) (hjk : j ≤ k) : inR V F k p = true := by
  induction hjk with
  | refl => exact h
  | step _ ih => rw [inR_succ, ih]; rfl
def IsRd (V : List (Nat × Nat × Nat)) (F : List Nat) (p : Nat) (r : Int) : Prop :=
  (r = -1 ∧ ∀ k, inR V F k p = false) ∨ ∃ k : Nat, r = (k : Int) ∧ inR V F k p = true ∧ ∀ j, j < k → inR V F j p = false
theorem isRd_ex (V : List (Nat × Nat × Nat)) (F : List Nat) (p : Nat) : ∃ r, IsRd V F p r := by
  by_cases h : ∃ k, inR V F k p = true
  · obtain ⟨k, hk⟩ := h
    obtain ⟨j, _, h1, h2⟩ := least_ex (P := fun k => inR V F k p = true) k hk
    exact ⟨j, .inr ⟨j, rfl, h1, fun i hi => by simpa using h2 i hi⟩⟩
  · exact ⟨-1, .inl ⟨rfl, fun k => by
      cases hc : inR V F k p
      · rfl
      · exact absurd ⟨k, hc⟩ h⟩⟩
/-- The round in which a party is controlled; -1 if it never is. -/
noncomputable def rd (V : List (Nat × Nat × Nat)) (F : List Nat) (p : Nat) : Int := Classical.choose (isRd_ex V F p)
theorem rd_is : IsRd V F p (rd V F p) := Classical.choose_spec (isRd_ex V F p)
theorem rd_ge : -1 ≤ rd V F p := by
  rcases rd_is (V := V) (F := F) (p := p) with ⟨h, _⟩ | ⟨k, h, _⟩ <;> omega
/-- Who has a round up to k. -/
theorem rd_in : inR V F k p = true ↔ 0 ≤ rd V F p ∧ rd V F p ≤ k := by
  rcases rd_is (V := V) (F := F) (p := p) with ⟨h, h2⟩ | ⟨j, h, h2, h3⟩
  · rw [h2 k]
    exact ⟨fun h => (by cases h), fun h3 => by omega⟩
  · constructor
    · intro hk
      refine ⟨by omega, ?_⟩
      have : ¬ k < j := fun c => by rw [h3 k c] at hk; cases hk
      omega
    · intro hk
      exact inR_le h2 (by omega)
theorem rd_neg : rd V F p < 0 ↔ ∀ k, inR V F k p = false := by
  constructor
  · intro h k
    cases hc : inR V F k p
    · rfl
    · have := (rd_in.1 hc).1; omega
  · intro h
    rcases rd_is (V := V) (F := F) (p := p) with ⟨h1, _⟩ | ⟨j, _, h2, _⟩
    · omega
    · rw [h j] at h2; cases h2
theorem rd_zero : rd V F p = 0 ↔ p ∈ F := by
  constructor
  · intro h
    have : inR V F 0 p = true := rd_in.2 (by omega)
    exact of_decide_eq_true this
  · intro h
    have : inR V F 0 p = true := decide_eq_true h
    have := rd_in.1 this
    omega
theorem rd_one {a : Int} (h : IsRd V F p a) : rd V F p = a := by
  rcases h with ⟨rfl, h⟩ | ⟨k, rfl, h, hm⟩
  · have h1 := rd_neg.2 h
    have h2 := rd_ge (V := V) (F := F) (p := p)
    omega
  · have h1 := rd_in.1 h
    obtain ⟨j, hj⟩ : ∃ j : Nat, rd V F p = j := ⟨(rd V F p).toNat, by omega⟩
    have h2 : ¬ j < k := fun c => by
      have h3 := hm j c
      rw [rd_in.2 (by omega)] at h3
      cases h3
    omega
/-- A party of a later round has the majority by those of the rounds before, and not by those of still earlier ones. -/
theorem rd_step (h : rd V F p = ((k + 1 : Nat) : Int)) : maj V (inR V F k) p = true := by
  have h1 : inR V F (k + 1) p = true := rd_in.2 (by omega)
  rw [inR_succ, Bool.or_eq_true] at h1
  rcases h1 with h1 | h1
  · have := (rd_in.1 h1).2; omega
  · exact h1
/-- Where a round adds none, no later one does. -/
theorem inR_stop (hV : VIn n V) (h : ∀ p, p < n → inR V F (k + 1) p = true → inR V F k p = true) : ∀ m, k ≤ m → ∀ p, p < n → inR V F m p = inR V F k p := by
  intro m hm
  induction hm with
  | refl => exact fun _ _ => rfl
  | step hm ih =>
    intro p hp
    rw [inR_succ, ih p hp, maj_congr (T := inR V F k) fun x hx => ih _ (hV x hx).2, ← inR_succ]
    cases hc : inR V F k p
    · cases hd : inR V F (k + 1) p
      · rfl
      · rw [h p hp hd] at hc; cases hc
    · exact inR_le hc (by omega)
theorem rd_stop (hV : VIn n V) (h : ∀ p, p < n → inR V F (k + 1) p = true → inR V F k p = true) (hp : p < n) : rd V F p ≤ k := by
  by_cases h0 : 0 ≤ rd V F p
  · obtain ⟨j, hj⟩ : ∃ j : Nat, rd V F p = j := ⟨(rd V F p).toNat, by omega⟩
    by_cases c : j ≤ k
    · omega
    · have h1 : inR V F j p = true := rd_in.2 (by omega)
      rw [inR_stop hV h j (by omega) p hp] at h1
      exact (rd_in.1 h1).2
  · omega
/-- Below each round there are parties of all earlier ones. -/
theorem rd_below (hV : VIn n V) (hp : p < n) : ∀ (k : Nat), (k : Int) < rd V F p → ∃ q, q < n ∧ rd V F q = ((k + 1 : Nat) : Int) := by
  intro k hk
  apply Classical.byContradiction
  intro hno
  have := rd_stop (k := k) hV (F := F) (fun q hq h => by
    have h1 := rd_in.1 h
    by_cases c : rd V F q = ((k + 1 : Nat) : Int)
    · exact absurd ⟨q, hq, c⟩ hno
    · exact rd_in.2 (by omega)) hp
  omega
theorem rd_lt (hV : VIn n V) (hp : p < n) : rd V F p ≤ n := by
  by_cases h0 : 0 ≤ rd V F p
  · obtain ⟨k, hk⟩ : ∃ k : Nat, rd V F p = k := ⟨(rd V F p).toNat, by omega⟩
    have key : ∀ j : Nat, j ≤ k → ∃ l : List Nat, l.length = j ∧ l.Nodup ∧ (∀ x, x ∈ l → x < n ∧ 1 ≤ rd V F x ∧ rd V F x ≤ j) := by
      intro j
      induction j with
      | zero => exact fun _ => ⟨[], rfl, List.nodup_nil, fun x hx => by cases hx⟩
      | succ j ih =>
        intro hj
        obtain ⟨l, h1, h2, h3⟩ := ih (by omega)
        obtain ⟨q, hq, hr⟩ := rd_below hV hp (F := F) j (by omega)
        refine ⟨q :: l, by simp [h1], List.nodup_cons.2 ⟨fun hm => ?_, h2⟩, fun x hx => ?_⟩
        · have := (h3 q hm).2.2; omega
        · rcases List.mem_cons.1 hx with rfl | hx
          · exact ⟨hq, by omega, by omega⟩
          · have := h3 x hx; omega
    obtain ⟨l, h1, h2, h3⟩ := key k (Nat.le_refl _)
    have := nodup_len n l h2 fun x hx => (h3 x hx).1
    omega
  · omega
/-- A set that holds the listed ones and has the majority in none outside holds all. -/
theorem inR_least (hV : VIn n V) (hF : ∀ f, f ∈ F → S f = true) (hc : ∀ p, p < n → S p = false → maj V S p = false) : ∀ k p, p < n → inR V F k p = true → S p = true := by
  intro k
  induction k with
  | zero => exact fun p _ h => hF p (of_decide_eq_true h)
  | succ k ih =>
    intro p hp h
    rw [inR_succ, Bool.or_eq_true] at h
    rcases h with h | h
    · exact ih p hp h
    · cases hs : S p
      · have h1 := maj_mono (T := S) (fun x hx hh => ih _ (hV x hx).2 hh) h
        rw [hc p hp hs] at h1
        cases h1
      · rfl
end
end Co
end Go.Proofs.YtpmlhgmmobpilaaGreatDoor
namespace Go.Proofs.YtpmlhgmmobpilaaGreatDoor
open Go.RowKit Go.Shelf
namespace Co
open Nt Ci
/-- A number of 6000ths. -/
def uq (u : Nat) : Rat := mkRat (u : Int) 6000
theorem uq_add (a b : Nat) : uq a + uq b = uq (a + b) := by
  unfold uq
  rw [Rat.mkRat_add_mkRat _ _ (by decide) (by decide)]
  have h : ((a : Int) * ((6000 : Nat) : Int) + (b : Int) * ((6000 : Nat) : Int)) = ((a + b : Nat) : Int) * ((6000 : Nat) : Int) := by
    rw [Int.natCast_add, Int.add_mul]
  rw [h, Rat.mkRat_mul_right (by decide)]
theorem uq_eq (u : Nat) : uq u = (u : Rat) / 6000 := by
  unfold uq
  rw [Rat.mkRat_eq_div]
  rfl
theorem uq_lt {a b : Nat} : uq a < uq b ↔ a < b := by
  have h : (a : Rat) < (b : Rat) ↔ a < b := Rat.natCast_lt_natCast
  rw [uq_eq, uq_eq, ← h]
  grind
theorem uq_inj {a b : Nat} : uq a = uq b ↔ a = b := by
  constructor
  · intro h
    have h1 : ¬ a < b := fun c => by
      have := uq_lt.2 c
      rw [h] at this
      exact Rat.lt_irrefl this
    have h2 : ¬ b < a := fun c => by
      have := uq_lt.2 c
      rw [h] at this
      exact Rat.lt_irrefl this
    omega
  · intro h; rw [h]
theorem cmp_half (u : Nat) : decide (0 < cmpQ (uq u) (uq 3000)) = decide (3000 < u) := by
  unfold cmpQ
  rw [Bool.eq_iff_iff, decide_eq_true_iff, decide_eq_true_iff]
  by_cases h1 : u < 3000
  · rw [if_pos (uq_lt.2 h1)]
    omega
  · rw [if_neg fun c => h1 (uq_lt.1 c)]
    by_cases h2 : u = 3000
    · rw [if_pos (uq_inj.2 h2)]
      omega
    · rw [if_neg fun c => h2 (uq_inj.1 c)]
      omega
theorem small_L1 {a : Nat} (h : a < 9223372036854775807) : a < L1 := by
  have := int_abs_lim (n := (a : Int)) (by omega) (by omega)
  simpa using this
theorem uq_short {u : Nat} (h : u < 9223372036854775807) : ShortQ (uq u) := by
  have h1 := mk_num false u 6000 (by decide)
  have h2 := mk_den false u 6000 (by decide)
  have e : mkRat (sg false u) 6000 = uq u := rfl
  rw [e] at h1 h2
  refine ⟨?_, ?_⟩
  · rw [h1, sg_natAbs]
    exact small_L1 (Nat.lt_of_le_of_lt (Nat.div_le_self _ _) h)
  · rw [h2]
    exact small_L1 (Nat.lt_of_le_of_lt (Nat.div_le_self _ _) (by decide))
/-- A part of a well-formed structure is its number of 6000ths. -/
theorem unit_q {g : Bool} {n d : ByteArray} (h : unitsN (g, n, d) ≠ 0) : (.agg #[.bool g, .string n, .string d] : Value) = qv (uq (unitsN (g, n, d))) := by
  have hu : unitsN (g, n, d) = val n * (6000 / val d) ∧ validB g n d = true ∧ g = false ∧ 6000 % val d = 0 := by
    unfold unitsN at h ⊢
    by_cases c1 : validB g n d = false ∨ g = true ∨ 4 < n.size ∨ 4 < d.size
    · rw [if_pos c1] at h; exact absurd rfl h
    · rw [if_neg c1] at h ⊢
      by_cases c2 : val d < val n ∨ 6000 % val d ≠ 0
      · rw [if_pos c2] at h; exact absurd rfl h
      · rw [if_neg c2]
        refine ⟨rfl, ?_, ?_, by omega⟩
        · cases hv : validB g n d
          · exact absurd (.inl hv) c1
          · rfl
        · cases hg : g
          · rfl
          · exact absurd (.inr (.inl hg)) c1
  obtain ⟨h1, h2, h3, h4⟩ := hu
  obtain ⟨q, hq, e1, e2, e3⟩ := of_valid h2
  have v1 : val n = q.num.natAbs := by rw [e2]; exact val_num _
  have v2 : val d = q.den := by rw [e3]; exact val_num _
  have hz : ¬ q.num < 0 := by
    rw [h3] at e1
    exact of_decide_eq_false e1.symm
  have hd : q.den ≠ 0 := q.den_nz
  obtain ⟨k, hk⟩ := Nat.dvd_of_mod_eq_zero h4
  rw [v2] at hk
  have hk2 : 6000 / q.den = k := by rw [hk]; exact Nat.mul_div_cancel_left _ (by omega)
  have e : uq (unitsN (g, n, d)) = q := by
    unfold uq
    rw [h1, v1, v2, hk2, hk]
    have hk0 : k ≠ 0 := fun c => by rw [c] at hk; omega
    rw [Int.natCast_mul, Rat.mkRat_mul_right hk0]
    have : ((q.num.natAbs : Nat) : Int) = q.num := by omega
    rw [this, Rat.mkRat_self]
  rw [e]
  unfold qv
  rw [← e1, ← e2, ← e3]
/-- The links of votes as numbers. -/
def vt (x : Lk) : Nat × Nat × Nat := (x.1.toNat, x.2.1.toNat, unitsN (lkP x))
def VT (s : SR) : List (Nat × Nat × Nat) := s.vot.map vt
/-- The links of a company, in their order. -/
def row (l : List Lk) (p : Nat) : List Lk := l.filter fun x => decide (x.1 = (p : Int))
/-- What the parties of a set have of some links. -/
def sumS (S : Nat → Bool) (l : List Lk) : Nat := (l.map fun x => if S x.2.1.toNat = true then unitsN (lkP x) else 0).sum
theorem sumS_cons (S : Nat → Bool) (x : Lk) (l : List Lk) : sumS S (x :: l) = (if S x.2.1.toNat = true then unitsN (lkP x) else 0) + sumS S l := by simp [sumS]
theorem sumS_take (S : Nat → Bool) {l : List Lk} {i : Nat} (h : i < l.length) : sumS S (l.take (i + 1)) = sumS S (l.take i) + if S l[i].2.1.toNat = true then unitsN (lkP l[i]) else 0 := by
  unfold sumS
  rw [List.take_succ_eq_append_getElem h, List.map_append, List.sum_append]
  simp
theorem sumS_le (S : Nat → Bool) : ∀ (l : List Lk), sumS S l ≤ 6000 * l.length := by
  intro l
  induction l with
  | nil => simp [sumS]
  | cons a l ih =>
    rw [sumS_cons, List.length_cons]
    have := units_le (lkP a)
    split <;> omega
theorem vs_row {s : SR} (h : ∀ x, x ∈ s.vot → 0 ≤ x.1) (S : Nat → Bool) (p : Nat) : vs (VT s) S p = sumS S (row s.vot p) := by
  unfold vs VT sumS row
  generalize s.vot = l at h
  induction l with
  | nil => rfl
  | cons a l ih =>
    have ih' := ih fun x hx => h x (List.mem_cons_of_mem _ hx)
    have h0 := h a (List.mem_cons_self ..)
    rw [List.map_cons, List.map_cons, List.sum_cons, ih', List.filter_cons]
    by_cases c : a.1 = (p : Int)
    · have c2 : (vt a).1 = p := by show a.1.toNat = p; omega
      rw [if_pos (decide_eq_true c), List.map_cons, List.sum_cons]
      congr 1
      by_cases c3 : S a.2.1.toNat = true
      · rw [if_pos ⟨c2, c3⟩, if_pos c3]; rfl
      · rw [if_neg fun c4 => c3 c4.2, if_neg c3]
    · have c2 : ¬ (vt a).1 = p := fun c2 => c (by have : a.1.toNat = p := c2; omega)
      rw [if_neg (c := decide (a.1 = (p : Int)) = true) (by simpa using c), if_neg fun c4 => c2 c4.1, Nat.zero_add]
theorem maj_row {s : SR} (h : ∀ x, x ∈ s.vot → 0 ≤ x.1) (S : Nat → Bool) (p : Nat) : maj (VT s) S p = decide (3000 < sumS S (row s.vot p)) := by unfold maj; rw [vs_row h]
theorem sound_n {s : SR} (h : soundB s = true) : s.ps.length ≤ 60 := by
  unfold soundB at h
  simp only [Bool.and_eq_true, decide_eq_true_eq] at h
  exact h.2.1
end Co
end Go.Proofs.YtpmlhgmmobpilaaGreatDoor
namespace Go.Proofs.YtpmlhgmmobpilaaGreatDoor
open Go.RowKit Go.Shelf
namespace Co
open Nt Ci
section
variable {V : List (Nat × Nat × Nat)} {L : List Nat} {n p q k j m : Nat}
/-- What is known behind round k. -/
noncomputable def cut (V : List (Nat × Nat × Nat)) (L : List Nat) (k p : Nat) : Int := if inR V L k p = true then rd V L p else -1
theorem cut_zero : cut V L 0 p = if p ∈ L then 0 else -1 := by
  unfold cut
  by_cases h : p ∈ L
  · rw [if_pos h, if_pos (show inR V L 0 p = true from decide_eq_true h)]
    exact rd_zero.2 h
  · rw [if_neg h, if_neg (show ¬ inR V L 0 p = true by simpa [inR] using h)]
theorem cut_pos : 0 ≤ cut V L k p ↔ inR V L k p = true := by
  unfold cut
  by_cases h : inR V L k p = true
  · rw [if_pos h]
    have := (rd_in.1 h).1
    exact ⟨fun _ => h, fun _ => this⟩
  · rw [if_neg h]
    exact ⟨fun c => by omega, fun c => absurd c h⟩
theorem cut_S : (fun q => decide (0 ≤ cut V L k q)) = inR V L k := by
  funext q
  rw [Bool.eq_iff_iff, decide_eq_true_iff]
  exact cut_pos
theorem rd_eq (h0 : inR V L k p = false) : rd V L p = ((k + 1 : Nat) : Int) ↔ maj V (inR V L k) p = true := by
  constructor
  · exact rd_step
  · intro h
    have h1 : inR V L (k + 1) p = true := by rw [inR_succ, h, Bool.or_true]
    have h2 := rd_in.1 h1
    have h3 : ¬ (0 ≤ rd V L p ∧ rd V L p ≤ k) := fun c => by rw [rd_in.2 c] at h0; cases h0
    omega
theorem rd_ne (h0 : inR V L k p = true) : rd V L p ≠ ((k + 1 : Nat) : Int) := by
  have := (rd_in.1 h0).2
  omega
theorem cut_next : cut V L (k + 1) p = if rd V L p = ((k + 1 : Nat) : Int) then ((k + 1 : Nat) : Int) else cut V L k p := by
  by_cases h : rd V L p = ((k + 1 : Nat) : Int)
  · rw [if_pos h]
    unfold cut
    rw [if_pos (rd_in.2 (by omega)), h]
  · rw [if_neg h]
    unfold cut
    by_cases h1 : inR V L k p = true
    · rw [if_pos h1, if_pos (inR_le h1 (by omega))]
    · rw [if_neg h1, if_neg]
      intro c
      have h2 := rd_in.1 c
      have h3 : ¬ (0 ≤ rd V L p ∧ rd V L p ≤ k) := fun c => h1 (rd_in.2 c)
      omega
/-- Who comes up in round k + 1, among the first m. -/
noncomputable def nx (V : List (Nat × Nat × Nat)) (L : List Nat) (k m : Nat) : List Nat := (List.range m).filter fun q => decide (rd V L q = ((k + 1 : Nat) : Int))
theorem nx_yes (h : rd V L m = ((k + 1 : Nat) : Int)) : nx V L k (m + 1) = nx V L k m ++ [m] := by
  unfold nx
  rw [List.range_succ, List.filter_append, List.filter_cons, if_pos (decide_eq_true h)]
  rfl
theorem nx_no (h : rd V L m ≠ ((k + 1 : Nat) : Int)) : nx V L k (m + 1) = nx V L k m := by
  unfold nx
  rw [List.range_succ, List.filter_append, List.filter_cons, if_neg (by simpa using h)]
  simp
theorem nx_mem : q ∈ nx V L k m ↔ q < m ∧ rd V L q = ((k + 1 : Nat) : Int) := by
  unfold nx
  rw [List.mem_filter, List.mem_range, decide_eq_true_iff]
theorem nx_len : (nx V L k m).length ≤ m := by
  have := List.length_filter_le (fun q => decide (rd V L q = ((k + 1 : Nat) : Int))) (List.range m)
  rw [List.length_range] at this
  exact this
theorem nx_nil (hV : VIn n V) (h : nx V L k n = []) (hp : p < n) : cut V L k p = rd V L p := by
  have h1 : ∀ p, p < n → inR V L (k + 1) p = true → inR V L k p = true := fun p hp hh => by
    have h2 := rd_in.1 hh
    by_cases c : rd V L p = ((k + 1 : Nat) : Int)
    · have : p ∈ nx V L k n := nx_mem.2 ⟨hp, c⟩
      rw [h] at this
      cases this
    · exact rd_in.2 (by omega)
  have h3 := rd_stop hV h1 hp
  have h4 := rd_ge (V := V) (F := L) (p := p)
  unfold cut
  by_cases c : inR V L k p = true
  · rw [if_pos c]
  · rw [if_neg c]
    have h5 : ¬ (0 ≤ rd V L p ∧ rd V L p ≤ k) := fun d => c (rd_in.2 d)
    omega
theorem nx_le (hV : VIn n V) (h : nx V L k n ≠ []) : k + 1 ≤ n := by
  obtain ⟨q, hq⟩ := List.exists_mem_of_ne_nil _ h
  obtain ⟨h1, h2⟩ := nx_mem.1 hq
  have := rd_lt hV (F := L) h1
  omega
/-- The rounds while the first j of them are stored. -/
noncomputable def stp (V : List (Nat × Nat × Nat)) (L : List Nat) (n k j p : Nat) : Int := if p ∈ (nx V L k n).take j then ((k + 1 : Nat) : Int) else cut V L k p
theorem stp_zero : stp V L n k 0 p = cut V L k p := by unfold stp; simp
theorem stp_succ (h : (nx V L k n)[j]? = some q) (x : Nat) : setI (stp V L n k j) q ((k + 1 : Nat) : Int) x = stp V L n k (j + 1) x := by
  unfold setI stp
  obtain ⟨hk, rfl⟩ := List.getElem?_eq_some_iff.1 h
  have hm : x ∈ (nx V L k n).take (j + 1) ↔ x ∈ (nx V L k n).take j ∨ x = (nx V L k n)[j] := by
    rw [List.take_succ_eq_append_getElem hk, List.mem_append, List.mem_singleton]
  by_cases e : x = (nx V L k n)[j]
  · rw [if_pos e, if_pos (hm.2 (.inr e))]
  · rw [if_neg e]
    by_cases e2 : x ∈ (nx V L k n).take j
    · rw [if_pos e2, if_pos (hm.2 (.inl e2))]
    · rw [if_neg e2, if_neg fun c => (hm.1 c).elim e2 e]
theorem stp_all (hp : p < n) : stp V L n k (nx V L k n).length p = cut V L (k + 1) p := by
  unfold stp
  rw [List.take_length, cut_next]
  by_cases h : rd V L p = ((k + 1 : Nat) : Int)
  · rw [if_pos h, if_pos (nx_mem.2 ⟨hp, h⟩)]
  · rw [if_neg h, if_neg fun c => h (nx_mem.1 c).2]
theorem VIn_of {s : SR} (h : ∀ x, x ∈ s.vot → (0 ≤ x.1 ∧ x.1 < s.ps.length) ∧ (0 ≤ x.2.1 ∧ x.2.1 < s.ps.length) ∧ unitsN (lkP x) ≠ 0) : VIn s.ps.length (VT s) := by
  intro y hy
  obtain ⟨x, hx, rfl⟩ := List.mem_map.1 (show y ∈ s.vot.map vt from hy)
  obtain ⟨h1, h2, _⟩ := h x hx
  exact ⟨by show x.1.toNat < _; omega, by show x.2.1.toNat < _; omega⟩
end
end Co
end Go.Proofs.YtpmlhgmmobpilaaGreatDoor
namespace Go.Proofs.YtpmlhgmmobpilaaGreatDoor
open Go.RowKit Go.Shelf
namespace Ci
/-- Block R has the headers of n slices of links. -/
structure Gv (W : World) (B R n : Nat) (v : Nat → Value) (rw_ : Nat → List Lk) : Prop where
  lt : R < W.heap.size
  hd : ∀ i, i < n → W.cell? ⟨R, i, none⟩ = some (v i)
  fr : ∀ i, W.frozen? ⟨R, i, none⟩ = false
  rows : ∀ i, i < n → W.ownsRow B 94 5 (v i) (rw_ i).length (lksL (rw_ i))
  apart : ∀ i j, i < n → j < n → i ≠ j → OffB (v i) (v j)
  ne : ∀ i, i < n → (v i).ownBlock ≠ some R
  lowR : B ≤ R
section
variable {W W' : World} {B R n i : Nat} {v : Nat → Value} {rw_ : Nat → List Lk}
theorem Gv.below (h : Gv W B R n v rw_) (hb : Below W.heap.size W W') : Gv W' B R n v rw_ :=
  ⟨Nat.lt_of_lt_of_le h.lt hb.size, fun i hi => (hb.cell (p := ⟨R, i, none⟩) h.lt).trans (h.hd i hi), fun i => (hb.frozen (p := ⟨R, i, none⟩) h.lt).trans (h.fr i), fun i hi => own_below' (h.rows i hi) hb, h.apart, h.ne, h.lowR⟩
theorem Gv.alloc (h : Gv W B R n v rw_) (o : Obj) : Gv (W.alloc o) B R n v rw_ := h.below ((Below.refl _ W).alloc (Nat.le_refl _) o)
theorem Gv.drew (h : Gv W B R n v rw_) : Gv W.drew B R n v rw_ := h.below (Below.refl _ W).drew
theorem Gv.mono {B' : Nat} (h : Gv W B R n v rw_) (hb : B' ≤ B) : Gv W B' R n v rw_ :=
  ⟨h.lt, h.hd, h.fr, fun i hi => by
    obtain ⟨h1, h2⟩ := h.rows i hi
    refine ⟨h1, ?_⟩
    rcases h2 with h2 | ⟨g, cap, cur, hv, hg, hh⟩
    · exact .inl h2
    · exact .inr ⟨g, cap, cur, hv, Nat.le_trans hb hg, hh⟩, h.apart, h.ne, Nat.le_trans hb h.lowR⟩
theorem Gv.start (w : World) {B : Nat} (hB : B ≤ w.heap.size) (n : Nat) (t : TypeId) : Gv (w.alloc (.cells (madeCells #[.slice none 0 0] n) t)) B w.heap.size n (fun _ => .slice none 0 0) fun _ => [] := by
  have h := heap_alloc_new w (.cells (madeCells #[(.slice none 0 0 : Value)] n) t)
  refine ⟨by simp, fun x hx => ?_, fun x => by simp only [World.frozen?, h]; simp, fun _ _ => World.ownsRow_nil _ _ _ _, fun _ _ _ _ _ b hb => (by cases hb), fun _ _ hb => (by cases hb), hB⟩
  simp only [World.cell?, h]
  simp [madeCells, hx]
  rw [Nat.mod_one]
  rfl
def setK (rw_ : Nat → List Lk) (x : Nat) (q : Lk) : Nat → List Lk := fun i => if i = x then rw_ i ++ [q] else rw_ i
/-- A row has grown, and its header is stored anew. -/
theorem Gv.step (h : Gv W B R n v rw_) {x : Nat} {q : Lk} (hx : x < n) {u : Value} (hg : W.grownBy W' (v x).ownBlock) (ho : W'.ownsRow B 94 5 u ((rw_ x).length + 1) (lksL (rw_ x) ++ lkL q)) (hn : u.ownBlock = (v x).ownBlock ∨ u.ownBlock = some W.heap.size) :
    Gv (W'.setCell ⟨R, x, none⟩ u) B R n (fun i => if i = x then u else v i) (setK rw_ x q) := by
  have hRx : some R ≠ (v x).ownBlock := fun e => h.ne x hx e.symm
  have hbR : W'.heap[R]? = W.heap[R]? := hg.block R h.lt hRx
  have hcell : ∀ i, W'.cell? ⟨R, i, none⟩ = W.cell? ⟨R, i, none⟩ := fun i => World.cell?_of_block (a := ⟨R, i, none⟩) hbR
  have hfr : ∀ i, W'.frozen? ⟨R, i, none⟩ = W.frozen? ⟨R, i, none⟩ := fun i => World.frozen?_of_block (a := ⟨R, i, none⟩) hbR
  have huR : u.ownBlock ≠ some R := fun e => by
    rcases hn with hn | hn
    · exact h.ne x hx (by rw [← hn, e])
    · rw [e] at hn
      have := h.lt
      simp only [Option.some.injEq] at hn
      omega
  have hne : ∀ a b : Nat, a ≠ b → (⟨R, a, none⟩ : Addr) ≠ ⟨R, b, none⟩ := fun a b e1 e2 => by injection e2 with _ e3; exact e1 e3
  have far : ∀ {m : Nat} {z : Value} {xs : List Value}, W'.ownsRow B 94 5 z m xs → z.ownBlock ≠ some R → (W'.setCell ⟨R, x, none⟩ u).ownsRow B 94 5 z m xs := fun h hz =>
    h.kept (row := some R) ⟨rfl, rfl, rfl, by simp, fun k _ hk => Below.heap_setCell _ _ _ _ (fun e => hk (by rw [e]))⟩ (.inr hz)
  have hoff : ∀ i, i < n → i ≠ x → OffB (v i) u := fun i hi hix b hb e => by
    rcases hn with hn | hn
    · exact h.apart i x hi hx hix b hb (by rw [← hn, e])
    · have := ((h.rows i hi).lt b hb).2
      rw [e] at hn
      simp only [Option.some.injEq] at hn
      omega
  refine ⟨by have := hg.size; have := h.lt; simp; omega, fun i hi => ?_, fun i => by simpa [hfr] using h.fr i, fun i hi => ?_, fun i j hi hj e => ?_, fun i hi => ?_, h.lowR⟩
  · by_cases e : i = x
    · subst e
      rw [if_pos rfl]
      exact World.cell?_setCell_same _ _ _ ((hcell i).trans (h.hd i hi))
    · rw [if_neg e, World.cell?_setCell_other _ _ _ _ (by first | exact hne _ _ e | exact hne _ _ fun c => e c.symm), hcell]
      exact h.hd i hi
  · by_cases e : i = x
    · subst e
      rw [if_pos rfl]
      have : setK rw_ i q i = rw_ i ++ [q] := if_pos rfl
      rw [this, List.length_append, lksL_snoc]
      exact far ho huR
    · rw [if_neg e]
      have : setK rw_ x q i = rw_ i := if_neg e
      rw [this]
      refine far ((h.rows i hi).kept hg ?_) (h.ne i hi)
      cases hv : (v i).ownBlock with
      | none => exact .inl rfl
      | some b => exact .inr fun c => h.apart i x hi hx e b hv c.symm
  · by_cases e1 : i = x
    · have e2 : j ≠ x := fun c => e (by rw [e1, c])
      rw [if_pos e1, if_neg e2]
      exact fun b hb hc => hoff j hj e2 b hc hb
    · rw [if_neg e1]
      by_cases e2 : j = x
      · rw [if_pos e2]
        exact hoff i hi e1
      · rw [if_neg e2]
        exact h.apart i j hi hj e
  · by_cases e : i = x
    · rw [if_pos e]; exact huR
    · rw [if_neg e]; exact h.ne i hi
theorem Gv.of_block (h : Gv W B R n v rw_) (hs : W.heap.size ≤ W'.heap.size) (hR : W'.heap[R]? = W.heap[R]?) (hv : ∀ i b, i < n → (v i).ownBlock = some b → W'.heap[b]? = W.heap[b]?) : Gv W' B R n v rw_ :=
  ⟨Nat.lt_of_lt_of_le h.lt hs, fun i hi => (World.cell?_of_block (a := ⟨R, i, none⟩) hR).trans (h.hd i hi), fun i => (World.frozen?_of_block (a := ⟨R, i, none⟩) hR).trans (h.fr i), fun i hi => by
    obtain ⟨h1, h2⟩ := h.rows i hi
    refine ⟨h1, ?_⟩
    rcases h2 with h2 | ⟨g, cap, cur, hv2, hg, hh, rest⟩
    · exact .inl h2
    · exact .inr ⟨g, cap, cur, hv2, hg, (hv i g hi (by rw [hv2]; rfl)).trans hh, rest⟩, h.apart, h.ne, h.lowR⟩
theorem Gv.kp {xs : List Nat} (h : Gv W B R n v rw_) (hk : Kp xs W W') (hR : R ∉ xs) (hv : ∀ i b, i < n → (v i).ownBlock = some b → b ∉ xs) : Gv W' B R n v rw_ :=
  h.of_block hk.size (hk.block R h.lt hR) fun i b hi e => hk.block b ((h.rows i hi).lt b e).2 (hv i b hi e)
theorem Gv.congr {a' : Nat → List Lk} (h : Gv W B R n v rw_) (e : ∀ i, i < n → rw_ i = a' i) : Gv W B R n v a' :=
  ⟨h.lt, h.hd, h.fr, fun i hi => by rw [← e i hi]; exact h.rows i hi, h.apart, h.ne, h.lowR⟩
end
end Ci
end Go.Proofs.YtpmlhgmmobpilaaGreatDoor
namespace Go.Proofs.YtpmlhgmmobpilaaGreatDoor
open Go.RowKit Go.Shelf
namespace Co
open Nt Ci
/-- A search: the votes of each company, and the rounds. -/
structure SeIn (w : World) (xb R b B n : Nat) (v : Nat → Value) (rows : Nat → List Lk) (o : Nat → Int) : Prop where
  x : Bk w xb 104 [.slice (some ⟨R, 0, none⟩) n n, .slice (some ⟨b, 0, none⟩) n n]
  g : Gv w B R n v rows
  r : RoI w b n o
  nx : xb ≠ b
  nxR : xb ≠ R
  nR : R ≠ b
  nv : ∀ i, i < n → (v i).ownBlock ≠ some b
  lb : B ≤ b
section
variable {w w' : World} {xb R b B n : Nat} {v : Nat → Value} {rows : Nat → List Lk} {o : Nat → Int}
theorem SeIn.below (h : SeIn w xb R b B n v rows o) (hb : Below w.heap.size w w') : SeIn w' xb R b B n v rows o :=
  ⟨h.x.below hb, h.g.below hb, h.r.below hb, h.nx, h.nxR, h.nR, h.nv, h.lb⟩
/-- A round is stored. -/
theorem SeIn.set (h : SeIn w xb R b B n v rows o) {p : Nat} (hp : p < n) (k : Int) : SeIn (w.setCell ⟨b, p, none⟩ (.int .i64 k)) xb R b B n v rows (setI o p k) := by
  have hg : w.grownBy (w.setCell ⟨b, p, none⟩ (.int .i64 k)) (some b) := grown_set w ⟨b, p, none⟩ _
  refine ⟨h.x.far h.nx _, ?_, h.r.set hp k, h.nx, h.nxR, h.nR, h.nv, h.lb⟩
  exact h.g.of_block (by simp) (Below.heap_setCell _ _ _ _ h.nR) fun i b' hi e => Below.heap_setCell _ _ _ _ fun c => h.nv i hi (by rw [e, c])
theorem SeIn.congr {o' : Nat → Int} (h : SeIn w xb R b B n v rows o) (e : ∀ x, x < n → o x = o' x) : SeIn w xb R b B n v rows o' := ⟨h.x, h.g, h.r.congr e, h.nx, h.nxR, h.nR, h.nv, h.lb⟩
end
set_option maxRecDepth 100000 in
theorem found_any (xb R b B n p : Nat) (v : Nat → Value) (rows : Nat → List Lk) (o : Nat → Int) (w : World) (hx : SeIn w xb R b B n v rows o) (hp : p < n) (_hn : n ≤ 1000) :
    Calls Tryz.prog 80 #[.pointer (some ⟨xb, 0, none⟩), .int .i64 (p : Int)] w fun e w' => e = .returned (.bool (decide (0 ≤ o p))) ∧ w' = w := by
  have u0 := hx.x.cell (j := 1) rfl
  have u9 := hx.x.lt
  have e1 := hx.r.cell p hp
  have e9 := hx.r.lt
  have j0 : (0 : Int) ≤ (p : Int) := by omega
  have j1 : (p : Int) < (n : Int) := by omega
  generalize o p = d at e1
  go_enter Tryz.func80, Tryz.ntmps80
  go_wp2
  go_ret
  exact ⟨rfl, rfl⟩
end Co
end Go.Proofs.YtpmlhgmmobpilaaGreatDoor
namespace Go.Proofs.YtpmlhgmmobpilaaGreatDoor
open Go.RowKit Go.Shelf
namespace Co
open Nt Ci
/-- Block sb holds a rational number. -/
def QB (W : World) (sb : Nat) (q : Rat) : Prop := ∃ g n d, (.agg #[.bool g, .string n, .string d] : Value) = qv q ∧ Bk W sb 23 [.bool g, .string n, .string d]
theorem QB.below {W W' : World} {sb : Nat} {q : Rat} (h : QB W sb q) (hb : Below W.heap.size W W') : QB W' sb q := by
  obtain ⟨g, n, d, e, h⟩ := h
  exact ⟨g, n, d, e, h.below hb⟩
/-- The links of a well-formed structure, as the sum reads them. -/
def LkOk (n : Nat) (l : List Lk) : Prop := ∀ x, x ∈ l → (0 ≤ x.2.1 ∧ x.2.1 < n) ∧ unitsN (lkP x) ≠ 0
theorem half_eq : (.agg #[.bool false, .string ⟨#[49]⟩, .string ⟨#[50]⟩] : Value) = qv (uq 3000) := by kernel_rfl
theorem none_eq : (.agg #[.bool false, .string ⟨#[48]⟩, .string ⟨#[49]⟩] : Value) = qv (uq 0) := by kernel_rfl
set_option maxRecDepth 100000 in
set_option maxHeartbeats 8000000 in
theorem majFound_any (xb R B n p : Nat) (v : Nat → Value) (rows : Nat → List Lk) (S : Nat → Bool) (w : World) (hE : Env w) (hG : Gv w B R n v rows) (hp : p < n) (_hn : n ≤ 1000) (hl : (rows p).length ≤ 1000000) (hok : LkOk n (rows p))
    (HC : ∀ W, Below w.heap.size w W → ∀ q : Int, 0 ≤ q → q < n → Calls Tryz.prog 80 #[.pointer (some ⟨xb, 0, none⟩), .int .i64 q] W fun e w' => e = .returned (.bool (S q.toNat)) ∧ Below W.heap.size W w') :
    Calls Tryz.prog 84 #[.slice (some ⟨R, 0, none⟩) n n, .int .i64 (p : Int), .func (.func 80) #[.pointer (some ⟨xb, 0, none⟩)] #[]] w fun e w' => e = .returned (.bool (decide (3000 < sumS S (rows p)))) ∧ Below w.heap.size w w' := by
  have u0 := hG.hd p hp
  have u9 := hG.lt
  obtain ⟨A, cap, hv, hA⟩ := own_lks (hG.rows p hp)
  rw [hv] at u0
  clear hv
  have j0 : (0 : Int) ≤ (p : Int) := by omega
  have j1 : (p : Int) < (n : Int) := by omega
  have hs0 : Hid (Bk (w.alloc (.cells #[.bool false, .string ⟨#[48]⟩, .string ⟨#[49]⟩] 23)) w.heap.size 23 [.bool false, .string ⟨#[48]⟩, .string ⟨#[49]⟩]) := Bk.new w _ _
  have hB0 : Hid (Below w.heap.size w (w.alloc (.cells #[.bool false, .string ⟨#[48]⟩, .string ⟨#[49]⟩] 23))) := (Below.refl _ w).alloc (Nat.le_refl _) _
  have hQ0 : Hid (QB (w.alloc (.cells #[.bool false, .string ⟨#[48]⟩, .string ⟨#[49]⟩] 23)) w.heap.size (uq (sumS S ((rows p).take 0)))) := ⟨_, _, _, none_eq, hs0.out⟩
  clear hs0
  replace hE := Lib.hid hE
  replace hA := Lib.hid hA
  replace hok := Lib.hid hok
  replace HC := Lib.hid HC
  replace hG := Lib.hid hG
  have hsl := Lib.hid (fun l => sumS_le S l)
  go_enter Tryz.func84, Tryz.ntmps84
  go_wp2
  clear u0 u9
  go_loopw [18] (fun ix wr => ∃ (k : Nat), k ≤ (rows p).length ∧ ix = .int .i64 (k : Int) ∧ Hid (Below w.heap.size w wr) ∧ Hid (QB wr w.heap.size (uq (sumS S ((rows p).take k))))) (fun ix _ => (rows p).length - (intOf ix).toNat)
  case atStart => exact ⟨0, Nat.zero_le _, rfl, hB0, hQ0⟩
  case round =>
    obtain ⟨k, hk, rfl, hB, hQ⟩ := hrel
    clear hB0 hQ0
    have hss : Hid (sumS S ((rows p).take k) < 9223372036854775807) := by have h1 := hsl.out ((rows p).take k); have h2 := List.length_take_le k (rows p); show _ < _; omega
    by_cases hlt : k < (rows p).length
    · obtain ⟨b, off, rfl, hbl, hcc⟩ := (hA.out.below hB.out) (by omega)
      obtain ⟨e1, e2, e3, e4, e5⟩ := hcc k hlt
      have hix := hok.out (rows p)[k] (List.getElem_mem hlt)
      have hnx : Hid (sumS S ((rows p).take (k + 1)) = sumS S ((rows p).take k) + if S (rows p)[k].2.1.toNat = true then unitsN (lkP (rows p)[k]) else 0) := sumS_take S hlt
      obtain ⟨x, hx⟩ : ∃ x, x = (rows p)[k] := ⟨_, rfl⟩
      rw [← hx] at e1 e2 e3 e4 e5 hix hnx
      obtain ⟨co, ho, gg, nn, dd⟩ := x
      obtain ⟨⟨i1, i2⟩, i3⟩ := hix
      replace i1 : 0 ≤ ho := i1
      replace i2 : ho < n := i2
      have hun : Hid ((.agg #[.bool gg, .string nn, .string dd] : Value) = qv (uq (unitsN (gg, nn, dd)))) := unit_q i3
      replace hnx : Hid (sumS S ((rows p).take (k + 1)) = sumS S ((rows p).take k) + if S ho.toNat = true then unitsN (gg, nn, dd) else 0) := hnx
      clear i3
      replace e1 : wr.cell? ⟨b, off + k * 5, none⟩ = some (.int .i64 co) := e1
      replace e2 : wr.cell? ⟨b, off + k * 5 + 1, none⟩ = some (.int .i64 ho) := e2
      replace e3 : wr.cell? ⟨b, off + k * 5 + 2, none⟩ = some (.bool gg) := e3
      replace e4 : wr.cell? ⟨b, off + k * 5 + 3, none⟩ = some (.string nn) := e4
      replace e5 : wr.cell? ⟨b, off + k * 5 + 4, none⟩ = some (.string dd) := e5
      replace hx := Lib.hid hx
      have k0 : (0 : Int) ≤ (k : Int) := by omega
      have k1 : (k : Int) < ((rows p).length : Int) := by omega
      have hx1 : Hid (Bk (wr.alloc (.cells #[.int .i64 co, .int .i64 ho, .bool gg, .string nn, .string dd] 94)) wr.heap.size 94 [.int .i64 co, .int .i64 ho, .bool gg, .string nn, .string dd]) := Bk.new wr _ _
      have hBw := Lib.hid (hB.out.alloc hB.out.size (.cells #[.int .i64 co, .int .i64 ho, .bool gg, .string nn, .string dd] 94))
      have hBo : Hid (Below wr.heap.size wr (wr.alloc (.cells #[.int .i64 co, .int .i64 ho, .bool gg, .string nn, .string dd] 94))) := (Below.refl _ wr).alloc (Nat.le_refl _) _
      have kc := HC.out _ hBw.out ho i1 i2
      clear hcc
      cases hSc : S ho.toNat with
      | false =>
        rw [hSc] at kc hnx
        replace kc := Lib.hid kc
        have hnx2 : Hid (sumS S ((rows p).take (k + 1)) = sumS S ((rows p).take k)) := hnx.out
        go_wp2_with fail
        refine kc.out.mono ?_
        rintro e w2 ⟨rfl, hb⟩
        have hB2 := Lib.hid (hBw.out.trans (hb.mono hBw.out.size))
        have hQ2 : Hid (QB w2 w.heap.size (uq (sumS S ((rows p).take (k + 1))))) := by rw [hnx2.out]; exact (hQ.out.below hBo.out).below hb
        clear hb e1 e2 e3 e4 e5
        go_wp2
        go_roundw
        case rel => exact ⟨k + 1, by omega, by go_num, hB2, hQ2⟩
        case measure => simp [intOf]; omega
      | true =>
        rw [hSc] at kc hnx
        replace kc := Lib.hid kc
        have hnx2 : Hid (sumS S ((rows p).take (k + 1)) = sumS S ((rows p).take k) + unitsN (gg, nn, dd)) := hnx.out
        have hul : Hid (unitsN (gg, nn, dd) < 9223372036854775807) := Nat.lt_of_le_of_lt (units_le _) (by decide)
        go_wp2_with fail
        refine kc.out.mono ?_
        rintro e w2 ⟨rfl, hb⟩
        have hB2 := Lib.hid (hBw.out.trans (hb.mono hBw.out.size))
        obtain ⟨g1, n1, d1, hq1, hs1⟩ := (hQ.out.below hBo.out).below hb
        replace hs1 := Lib.hid hs1
        have hx2 := Lib.hid (hx1.out.below hb)
        have kA : Hid (Calls Tryz.prog 20 #[.agg #[.bool g1, .string n1, .string d1], .agg #[.bool gg, .string nn, .string dd]] w2 fun e w' => (∃ g2 n2 d2, e = .returned (.tuple #[.agg #[.bool g2, .string n2, .string d2], .int .i64 0]) ∧ (.agg #[.bool g2, .string n2, .string d2] : Value) = qv (uq (sumS S ((rows p).take (k + 1))))) ∧ Below w2.heap.size w2 w') := by
          rw [hq1, hun.out, hnx2.out]
          refine (Add_short (uq (sumS S ((rows p).take k))) (uq (unitsN (gg, nn, dd))) (uq_short hss.out) (uq_short hul.out) w2 (hE.out.below hB2.out)).mono ?_
          rintro e w' ⟨rfl, hb⟩
          rw [uq_add]
          exact ⟨⟨_, _, _, rfl, rfl⟩, hb⟩
        clear hb e1 e2 e3 e4 e5 hq1
        have s0 := hs1.out.cell (j := 0) rfl
        have s1 := hs1.out.cell (j := 1) rfl
        have s2 := hs1.out.cell (j := 2) rfl
        have s9 := hs1.out.lt
        have y2 := hx2.out.cell (j := 2) rfl
        have y3 := hx2.out.cell (j := 3) rfl
        have y4 := hx2.out.cell (j := 4) rfl
        have y9 := hx2.out.lt
        go_wp2_with fail
        refine kA.out.mono ?_
        rintro e w3 ⟨⟨g2, n2, d2, rfl, hq2⟩, hb⟩
        have hB3 := Lib.hid (hB2.out.trans (hb.mono hB2.out.size))
        have hs3 := Lib.hid (hs1.out.below hb)
        clear hb s0 s1 s2 s9 y2 y3 y4 y9
        have s0 := hs3.out.cell (j := 0) rfl
        have s1 := hs3.out.cell (j := 1) rfl
        have s2 := hs3.out.cell (j := 2) rfl
        have f0 := hs3.out.frozen 0
        have f1 := hs3.out.frozen 1
        have f2 := hs3.out.frozen 2
        have s9 := hs3.out.lt
        have hB4 : Hid (Below w.heap.size w (((w3.setCell ⟨w.heap.size, 0, none⟩ (.bool g2)).setCell ⟨w.heap.size, 1, none⟩ (.string n2)).setCell ⟨w.heap.size, 2, none⟩ (.string d2))) := ((hB3.out.setCell (p := ⟨w.heap.size, 0, none⟩) (Nat.le_refl _) _).setCell (p := ⟨w.heap.size, 1, none⟩) (Nat.le_refl _) _).setCell (p := ⟨w.heap.size, 2, none⟩) (Nat.le_refl _) _
        have hQ4 : Hid (QB (((w3.setCell ⟨w.heap.size, 0, none⟩ (.bool g2)).setCell ⟨w.heap.size, 1, none⟩ (.string n2)).setCell ⟨w.heap.size, 2, none⟩ (.string d2)) w.heap.size (uq (sumS S ((rows p).take (k + 1))))) := ⟨g2, n2, d2, hq2, ((hs3.out.set 0 (.bool g2)).set 1 (.string n2)).set 2 (.string d2)⟩
        clear hq2
        go_wp2
        go_roundw
        case rel => exact ⟨k + 1, by omega, by go_num, hB4, hQ4⟩
        case measure => simp [intOf]; omega
    · obtain rfl : k = (rows p).length := by omega
      obtain ⟨g1, n1, d1, hq1, hs1⟩ := hQ.out
      replace hs1 := Lib.hid hs1
      have kC : Hid (Calls Tryz.prog 25 #[.agg #[.bool g1, .string n1, .string d1], .agg #[.bool false, .string ⟨#[49]⟩, .string ⟨#[50]⟩]] wr fun e w' => (∃ c : Int, e = .returned (.tuple #[.int .i64 c, .int .i64 0]) ∧ decide (0 < c) = decide (3000 < sumS S (rows p))) ∧ Below wr.heap.size wr w') := by
        rw [hq1, half_eq, List.take_length]
        refine (Compare_short _ _ (uq_short (by have := hss.out; rwa [List.take_length] at this)) (uq_short (by decide)) wr (hE.out.below hB.out)).mono ?_
        rintro e w' ⟨rfl, hb⟩
        exact ⟨⟨_, rfl, cmp_half _⟩, hb⟩
      clear hq1
      have s0 := hs1.out.cell (j := 0) rfl
      have s1 := hs1.out.cell (j := 1) rfl
      have s2 := hs1.out.cell (j := 2) rfl
      have s9 := hs1.out.lt
      go_wp2_with fail
      refine kC.out.mono ?_
      rintro e w3 ⟨⟨c, rfl, hc⟩, hb⟩
      have hB3 := Lib.hid (hB.out.trans (hb.mono hB.out.size))
      replace hc := Lib.hid hc
      clear hb s0 s1 s2 s9
      go_wp2
      go_ret
      exact ⟨ret_bool hc.out, hB3.out⟩
set_option maxRecDepth 100000 in
set_option maxHeartbeats 8000000 in
theorem majIn_any (xb R B n p : Nat) (v : Nat → Value) (rows : Nat → List Lk) (S : Nat → Bool) (w : World) (hE : Env w) (hG : Gv w B R n v rows) (hp : p < n) (_hn : n ≤ 1000) (hl : (rows p).length ≤ 1000000) (hok : LkOk n (rows p))
    (HC : ∀ W, Below w.heap.size w W → ∀ q : Int, 0 ≤ q → q < n → Calls Tryz.prog 82 #[.int .i64 q, .pointer (some ⟨xb, 0, none⟩)] W fun e w' => e = .returned (.bool (S q.toNat)) ∧ Below W.heap.size W w') :
    Calls Tryz.prog 84 #[.slice (some ⟨R, 0, none⟩) n n, .int .i64 (p : Int), .func (.func 82) #[] #[.pointer (some ⟨xb, 0, none⟩)]] w fun e w' => e = .returned (.bool (decide (3000 < sumS S (rows p)))) ∧ Below w.heap.size w w' := by
  have u0 := hG.hd p hp
  have u9 := hG.lt
  obtain ⟨A, cap, hv, hA⟩ := own_lks (hG.rows p hp)
  rw [hv] at u0
  clear hv
  have j0 : (0 : Int) ≤ (p : Int) := by omega
  have j1 : (p : Int) < (n : Int) := by omega
  have hs0 : Hid (Bk (w.alloc (.cells #[.bool false, .string ⟨#[48]⟩, .string ⟨#[49]⟩] 23)) w.heap.size 23 [.bool false, .string ⟨#[48]⟩, .string ⟨#[49]⟩]) := Bk.new w _ _
  have hB0 : Hid (Below w.heap.size w (w.alloc (.cells #[.bool false, .string ⟨#[48]⟩, .string ⟨#[49]⟩] 23))) := (Below.refl _ w).alloc (Nat.le_refl _) _
  have hQ0 : Hid (QB (w.alloc (.cells #[.bool false, .string ⟨#[48]⟩, .string ⟨#[49]⟩] 23)) w.heap.size (uq (sumS S ((rows p).take 0)))) := ⟨_, _, _, none_eq, hs0.out⟩
  clear hs0
  replace hE := Lib.hid hE
  replace hA := Lib.hid hA
  replace hok := Lib.hid hok
  replace HC := Lib.hid HC
  replace hG := Lib.hid hG
  have hsl := Lib.hid (fun l => sumS_le S l)
  go_enter Tryz.func84, Tryz.ntmps84
  go_wp2
  clear u0 u9
  go_loopw [18] (fun ix wr => ∃ (k : Nat), k ≤ (rows p).length ∧ ix = .int .i64 (k : Int) ∧ Hid (Below w.heap.size w wr) ∧ Hid (QB wr w.heap.size (uq (sumS S ((rows p).take k))))) (fun ix _ => (rows p).length - (intOf ix).toNat)
  case atStart => exact ⟨0, Nat.zero_le _, rfl, hB0, hQ0⟩
  case round =>
    obtain ⟨k, hk, rfl, hB, hQ⟩ := hrel
    clear hB0 hQ0
    have hss : Hid (sumS S ((rows p).take k) < 9223372036854775807) := by have h1 := hsl.out ((rows p).take k); have h2 := List.length_take_le k (rows p); show _ < _; omega
    by_cases hlt : k < (rows p).length
    · obtain ⟨b, off, rfl, hbl, hcc⟩ := (hA.out.below hB.out) (by omega)
      obtain ⟨e1, e2, e3, e4, e5⟩ := hcc k hlt
      have hix := hok.out (rows p)[k] (List.getElem_mem hlt)
      have hnx : Hid (sumS S ((rows p).take (k + 1)) = sumS S ((rows p).take k) + if S (rows p)[k].2.1.toNat = true then unitsN (lkP (rows p)[k]) else 0) := sumS_take S hlt
      obtain ⟨x, hx⟩ : ∃ x, x = (rows p)[k] := ⟨_, rfl⟩
      rw [← hx] at e1 e2 e3 e4 e5 hix hnx
      obtain ⟨co, ho, gg, nn, dd⟩ := x
      obtain ⟨⟨i1, i2⟩, i3⟩ := hix
      replace i1 : 0 ≤ ho := i1
      replace i2 : ho < n := i2
      have hun : Hid ((.agg #[.bool gg, .string nn, .string dd] : Value) = qv (uq (unitsN (gg, nn, dd)))) := unit_q i3
      replace hnx : Hid (sumS S ((rows p).take (k + 1)) = sumS S ((rows p).take k) + if S ho.toNat = true then unitsN (gg, nn, dd) else 0) := hnx
      clear i3
      replace e1 : wr.cell? ⟨b, off + k * 5, none⟩ = some (.int .i64 co) := e1
      replace e2 : wr.cell? ⟨b, off + k * 5 + 1, none⟩ = some (.int .i64 ho) := e2
      replace e3 : wr.cell? ⟨b, off + k * 5 + 2, none⟩ = some (.bool gg) := e3
      replace e4 : wr.cell? ⟨b, off + k * 5 + 3, none⟩ = some (.string nn) := e4
      replace e5 : wr.cell? ⟨b, off + k * 5 + 4, none⟩ = some (.string dd) := e5
      replace hx := Lib.hid hx
      have k0 : (0 : Int) ≤ (k : Int) := by omega
      have k1 : (k : Int) < ((rows p).length : Int) := by omega
      have hx1 : Hid (Bk (wr.alloc (.cells #[.int .i64 co, .int .i64 ho, .bool gg, .string nn, .string dd] 94)) wr.heap.size 94 [.int .i64 co, .int .i64 ho, .bool gg, .string nn, .string dd]) := Bk.new wr _ _
      have hBw := Lib.hid (hB.out.alloc hB.out.size (.cells #[.int .i64 co, .int .i64 ho, .bool gg, .string nn, .string dd] 94))
      have hBo : Hid (Below wr.heap.size wr (wr.alloc (.cells #[.int .i64 co, .int .i64 ho, .bool gg, .string nn, .string dd] 94))) := (Below.refl _ wr).alloc (Nat.le_refl _) _
      have kc := HC.out _ hBw.out ho i1 i2
      clear hcc
      cases hSc : S ho.toNat with
      | false =>
        rw [hSc] at kc hnx
        replace kc := Lib.hid kc
        have hnx2 : Hid (sumS S ((rows p).take (k + 1)) = sumS S ((rows p).take k)) := hnx.out
        go_wp2_with fail
        refine kc.out.mono ?_
        rintro e w2 ⟨rfl, hb⟩
        have hB2 := Lib.hid (hBw.out.trans (hb.mono hBw.out.size))
        have hQ2 : Hid (QB w2 w.heap.size (uq (sumS S ((rows p).take (k + 1))))) := by rw [hnx2.out]; exact (hQ.out.below hBo.out).below hb
        clear hb e1 e2 e3 e4 e5
        go_wp2
        go_roundw
        case rel => exact ⟨k + 1, by omega, by go_num, hB2, hQ2⟩
        case measure => simp [intOf]; omega
      | true =>
        rw [hSc] at kc hnx
        replace kc := Lib.hid kc
        have hnx2 : Hid (sumS S ((rows p).take (k + 1)) = sumS S ((rows p).take k) + unitsN (gg, nn, dd)) := hnx.out
        have hul : Hid (unitsN (gg, nn, dd) < 9223372036854775807) := Nat.lt_of_le_of_lt (units_le _) (by decide)
        go_wp2_with fail
        refine kc.out.mono ?_
        rintro e w2 ⟨rfl, hb⟩
        have hB2 := Lib.hid (hBw.out.trans (hb.mono hBw.out.size))
        obtain ⟨g1, n1, d1, hq1, hs1⟩ := (hQ.out.below hBo.out).below hb
        replace hs1 := Lib.hid hs1
        have hx2 := Lib.hid (hx1.out.below hb)
        have kA : Hid (Calls Tryz.prog 20 #[.agg #[.bool g1, .string n1, .string d1], .agg #[.bool gg, .string nn, .string dd]] w2 fun e w' => (∃ g2 n2 d2, e = .returned (.tuple #[.agg #[.bool g2, .string n2, .string d2], .int .i64 0]) ∧ (.agg #[.bool g2, .string n2, .string d2] : Value) = qv (uq (sumS S ((rows p).take (k + 1))))) ∧ Below w2.heap.size w2 w') := by
          rw [hq1, hun.out, hnx2.out]
          refine (Add_short (uq (sumS S ((rows p).take k))) (uq (unitsN (gg, nn, dd))) (uq_short hss.out) (uq_short hul.out) w2 (hE.out.below hB2.out)).mono ?_
          rintro e w' ⟨rfl, hb⟩
          rw [uq_add]
          exact ⟨⟨_, _, _, rfl, rfl⟩, hb⟩
        clear hb e1 e2 e3 e4 e5 hq1
        have s0 := hs1.out.cell (j := 0) rfl
        have s1 := hs1.out.cell (j := 1) rfl
        have s2 := hs1.out.cell (j := 2) rfl
        have s9 := hs1.out.lt
        have y2 := hx2.out.cell (j := 2) rfl
        have y3 := hx2.out.cell (j := 3) rfl
        have y4 := hx2.out.cell (j := 4) rfl
        have y9 := hx2.out.lt
        go_wp2_with fail
        refine kA.out.mono ?_
        rintro e w3 ⟨⟨g2, n2, d2, rfl, hq2⟩, hb⟩
        have hB3 := Lib.hid (hB2.out.trans (hb.mono hB2.out.size))
        have hs3 := Lib.hid (hs1.out.below hb)
        clear hb s0 s1 s2 s9 y2 y3 y4 y9
        have s0 := hs3.out.cell (j := 0) rfl
        have s1 := hs3.out.cell (j := 1) rfl
        have s2 := hs3.out.cell (j := 2) rfl
        have f0 := hs3.out.frozen 0
        have f1 := hs3.out.frozen 1
        have f2 := hs3.out.frozen 2
        have s9 := hs3.out.lt
        have hB4 : Hid (Below w.heap.size w (((w3.setCell ⟨w.heap.size, 0, none⟩ (.bool g2)).setCell ⟨w.heap.size, 1, none⟩ (.string n2)).setCell ⟨w.heap.size, 2, none⟩ (.string d2))) := ((hB3.out.setCell (p := ⟨w.heap.size, 0, none⟩) (Nat.le_refl _) _).setCell (p := ⟨w.heap.size, 1, none⟩) (Nat.le_refl _) _).setCell (p := ⟨w.heap.size, 2, none⟩) (Nat.le_refl _) _
        have hQ4 : Hid (QB (((w3.setCell ⟨w.heap.size, 0, none⟩ (.bool g2)).setCell ⟨w.heap.size, 1, none⟩ (.string n2)).setCell ⟨w.heap.size, 2, none⟩ (.string d2)) w.heap.size (uq (sumS S ((rows p).take (k + 1))))) := ⟨g2, n2, d2, hq2, ((hs3.out.set 0 (.bool g2)).set 1 (.string n2)).set 2 (.string d2)⟩
        clear hq2
        go_wp2
        go_roundw
        case rel => exact ⟨k + 1, by omega, by go_num, hB4, hQ4⟩
        case measure => simp [intOf]; omega
    · obtain rfl : k = (rows p).length := by omega
      obtain ⟨g1, n1, d1, hq1, hs1⟩ := hQ.out
      replace hs1 := Lib.hid hs1
      have kC : Hid (Calls Tryz.prog 25 #[.agg #[.bool g1, .string n1, .string d1], .agg #[.bool false, .string ⟨#[49]⟩, .string ⟨#[50]⟩]] wr fun e w' => (∃ c : Int, e = .returned (.tuple #[.int .i64 c, .int .i64 0]) ∧ decide (0 < c) = decide (3000 < sumS S (rows p))) ∧ Below wr.heap.size wr w') := by
        rw [hq1, half_eq, List.take_length]
        refine (Compare_short _ _ (uq_short (by have := hss.out; rwa [List.take_length] at this)) (uq_short (by decide)) wr (hE.out.below hB.out)).mono ?_
        rintro e w' ⟨rfl, hb⟩
        exact ⟨⟨_, rfl, cmp_half _⟩, hb⟩
      clear hq1
      have s0 := hs1.out.cell (j := 0) rfl
      have s1 := hs1.out.cell (j := 1) rfl
      have s2 := hs1.out.cell (j := 2) rfl
      have s9 := hs1.out.lt
      go_wp2_with fail
      refine kC.out.mono ?_
      rintro e w3 ⟨⟨c, rfl, hc⟩, hb⟩
      have hB3 := Lib.hid (hB.out.trans (hb.mono hB.out.size))
      replace hc := Lib.hid hc
      clear hb s0 s1 s2 s9
      go_wp2
      go_ret
      exact ⟨ret_bool hc.out, hB3.out⟩
end Co
end Go.Proofs.YtpmlhgmmobpilaaGreatDoor
namespace Go.Proofs.YtpmlhgmmobpilaaGreatDoor
open Go.RowKit Go.Shelf
namespace Co
open Nt Ci
def isReg (k : Nat) : Code → Bool
  | .region a _ _ => a == k
  | _ => false
noncomputable def bgR (j : Nat) : Code := ((Tryz.f71.body.map regsOf).bind fun l => l.find? (isReg j)).getD .skip
set_option maxRecDepth 1000000 in
set_option maxHeartbeats 16000000 in
theorem bg11 {c0 c1 c2 c3 c4 c5 c6 c7 c8 c10 c12 c13 c14 c15 c16 c17 c18 c19 c20 c21 c22 c23 c24 c25 c26 c27 c28 c29 c30 c31 c32 c33 c34 c35 c36 c37 c38 c39 c40 c41 c60 c61 c62 c63 c64 c65 c66 c67 c68 c69 c70 c71 c72 c73 c74 a42 a43 a44 a45 a46 a47 a48 a49 a50 a51 a52 a53 a54 a55 a56 a57 a58 a59 : Value} {Q : Exit → Act → World → Prop} (xb R b lb B B0 n co : Nat) (ho : Int) (gg : Bool) (nn dd : ByteArray) (v : Nat → Value) (rows : Nat → List Lk) (o : Nat → Int) (w wz : World) (_hn : n ≤ 1000) (hco : co < n) (hlen : (rows co).length ≤ 1000) (hx : SeIn w xb R b B n v rows o) (hlb : Bk w lb 94 [.int .i64 (co : Int), .int .i64 ho, .bool gg, .string nn, .string dd]) (hRx : xb ≠ R) (hRl : lb ≠ R) (hax : ∀ i, i < n → (v i).ownBlock ≠ some xb) (hal : ∀ i, i < n → (v i).ownBlock ≠ some lb) (hB0 : B0 ≤ B) (hbz : Below B0 wz w)
    (h : ∀ (u42 u43 u44 u45 u46 u47 u48 u49 u50 u51 u52 u53 u54 u55 u56 u57 u58 u59 : Value) (W : World) (_ : Hid (∃ v', SeIn W xb R b B n v' (setK rows co ((co : Int), ho, gg, nn, dd)) o ∧ ∀ i, i < n → (v' i).ownBlock ≠ some xb)) (_ : Hid (Below B0 wz W)), Q .normal ⟨#[c0, c1, c2, c3, c4, c5, c6, c7, c8, .pointer (some ⟨xb, 0, none⟩), c10, .pointer (some ⟨lb, 0, none⟩), c12, c13, c14, c15, c16, c17, c18, c19, c20, c21, c22, c23, c24, c25, c26, c27, c28, c29, c30, c31, c32, c33, c34, c35, c36, c37, c38, c39, c40, c41, u42, u43, u44, u45, u46, u47, u48, u49, u50, u51, u52, u53, u54, u55, u56, u57, u58, u59, c60, c61, c62, c63, c64, c65, c66, c67, c68, c69, c70, c71, c72, c73, c74], []⟩ (W)) :
    Code.wp Tryz.prog (bgR 11) Q ⟨#[c0, c1, c2, c3, c4, c5, c6, c7, c8, .pointer (some ⟨xb, 0, none⟩), c10, .pointer (some ⟨lb, 0, none⟩), c12, c13, c14, c15, c16, c17, c18, c19, c20, c21, c22, c23, c24, c25, c26, c27, c28, c29, c30, c31, c32, c33, c34, c35, c36, c37, c38, c39, c40, c41, a42, a43, a44, a45, a46, a47, a48, a49, a50, a51, a52, a53, a54, a55, a56, a57, a58, a59, c60, c61, c62, c63, c64, c65, c66, c67, c68, c69, c70, c71, c72, c73, c74], []⟩ w := by
  conv => arg 2; whnf
  conv => arg 4; zeta
  replace h := Lib.hid h
  have hhd := hx.g.hd co hco
  have hrow := Lib.hid (hx.g.rows co hco)
  have hlR := hx.g.lt
  obtain ⟨vh, hvh⟩ : ∃ z, z = v co := ⟨_, rfl⟩
  rw [← hvh] at hhd hrow
  have hnx : Hid (vh.ownBlock ≠ some xb) := by rw [hvh]; exact hax co hco
  have hnl : Hid (vh.ownBlock ≠ some lb) := by rw [hvh]; exact hal co hco
  have hnR : Hid (vh.ownBlock ≠ some R) := by rw [hvh]; exact hx.g.ne co hco
  have hnb0 : Hid (vh.ownBlock ≠ some b) := by rw [hvh]; exact hx.nv co hco
  replace hvh := Lib.hid hvh
  have HO : Hid (∀ W, Below w.heap.size w W → W.cell? ⟨xb, 0, none⟩ = some (.slice (some ⟨R, 0, none⟩) n n) ∧ W.cell? ⟨lb, 0, none⟩ = some (.int .i64 (co : Int)) ∧ W.cell? ⟨lb, 1, none⟩ = some (.int .i64 ho) ∧ W.cell? ⟨lb, 2, none⟩ = some (.bool gg) ∧ W.cell? ⟨lb, 3, none⟩ = some (.string nn) ∧ W.cell? ⟨lb, 4, none⟩ = some (.string dd)) := fun W h =>
    ⟨(hx.x.below h).cell (j := 0) rfl, (hlb.below h).cell (j := 0) rfl, (hlb.below h).cell (j := 1) rfl, (hlb.below h).cell (j := 2) rfl, (hlb.below h).cell (j := 3) rfl, (hlb.below h).cell (j := 4) rfl⟩
  obtain ⟨i0, hi0, hzz⟩ := Option.map_eq_some_iff.1 infoL
  simp only [Prod.mk.injEq] at hzz
  obtain ⟨hz0, hz1, hz2⟩ := hzz
  obtain ⟨zl, hzl⟩ : ∃ z, z = zeroL := ⟨_, rfl⟩
  have hzc : Hid (zl.cells.size = 5) := by rw [hzl]; rfl
  rw [← hzl] at hz0
  clear hzl
  replace hi0 := Lib.hid hi0
  replace hz0 := Lib.hid hz0
  replace hz1 := Lib.hid hz1
  replace hz2 := Lib.hid hz2
  have hBsz : B ≤ w.heap.size := Nat.le_trans hx.g.lowR (Nat.le_of_lt hlR)
  replace hx := Lib.hid hx
  replace hlb := Lib.hid hlb
  replace hRx := Lib.hid hRx
  replace hRl := Lib.hid hRl
  replace hbz := Lib.hid hbz
  have q0 : (0 : Int) ≤ (co : Int) := by omega
  have q1 : (co : Int) < (n : Int) := by omega
  replace hax := Lib.hid hax
  clear hal
  refine wp_region_noPanic ?_
  refine wp_region_held_drew (S := fun W => W.cell? ⟨xb, 0, none⟩ = some (.slice (some ⟨R, 0, none⟩) n n) ∧ W.cell? ⟨lb, 0, none⟩ = some (.int .i64 (co : Int)) ∧ W.cell? ⟨lb, 1, none⟩ = some (.int .i64 ho) ∧ W.cell? ⟨lb, 2, none⟩ = some (.bool gg) ∧ W.cell? ⟨lb, 3, none⟩ = some (.string nn) ∧ W.cell? ⟨lb, 4, none⟩ = some (.string dd)) (by kernel_rfl) (HO.out _ (Below.refl _ _).drew) (fun hS0 => ?_)
  replace hS0 := Lib.hid hS0
  refine wpAnyH_take (i := 0) (oi := _) (v := ?_) rfl (by kernel_rfl) (by kernel_rfl) (by kernel_rfl) (fun _ _ _ h => h) (Or.inl ⟨by rfl, ?_⟩) (hS0.out) ?_
  rotate_left
  · (intro w hSw; obtain ⟨q1, q2, q3, q4, q5, q6⟩ := hSw; go_simp <;> with_reducible rfl)
  try simp only [Act.put, List.setIfInBounds_toArray]
  refine wpAnyH_take (i := 1) (oi := _) (v := ?_) rfl (by kernel_rfl) (by kernel_rfl) (by kernel_rfl) (fun _ _ _ h => h) (Or.inl ⟨by rfl, ?_⟩) (hS0.out) ?_
  rotate_left
  · (intro w hSw; obtain ⟨q1, q2, q3, q4, q5, q6⟩ := hSw; go_simp <;> with_reducible rfl)
  try simp only [Act.put]
  refine wpAnyH_take (i := 2) (oi := _) (v := ?_) rfl (by kernel_rfl) (by kernel_rfl) (by kernel_rfl) (fun _ _ _ h => h) (Or.inl ⟨by rfl, ?_⟩) (hS0.out) ?_
  rotate_left
  · (intro w hSw; obtain ⟨q1, q2, q3, q4, q5, q6⟩ := hSw; go_simp <;> with_reducible rfl)
  try simp only [Act.put]
  refine wpAnyH_take (i := 3) (oi := _) (v := ?_) rfl (by kernel_rfl) (by kernel_rfl) (by kernel_rfl) (fun _ _ _ h => h) (Or.inl ⟨by rfl, ?_⟩) (hS0.out) ?_
  rotate_left
  · (intro w hSw; obtain ⟨q1, q2, q3, q4, q5, q6⟩ := hSw; go_simp <;> with_reducible rfl)
  try simp only [Act.put]
  refine wpAnyH_take (i := 4) (oi := _) (v := ?_) rfl (by kernel_rfl) (by kernel_rfl) (by kernel_rfl) (fun _ _ _ h => h) (Or.inl ⟨by rfl, ?_⟩) (hS0.out) ?_
  rotate_left
  · (intro w hSw; obtain ⟨q1, q2, q3, q4, q5, q6⟩ := hSw; go_simp <;> with_reducible rfl)
  try simp only [Act.put]
  refine wpAnyH_take (i := 5) (oi := _) (v := ?_) rfl (by kernel_rfl) (by kernel_rfl) (by kernel_rfl) (fun _ _ _ h => h) (Or.inl ⟨by rfl, ?_⟩) (hS0.out) ?_
  rotate_left
  · (intro w hSw; obtain ⟨q1, q2, q3, q4, q5, q6⟩ := hSw; go_simp <;> with_reducible rfl)
  try simp only [Act.put]
  refine wpAnyH_take (i := 6) (oi := _) (v := ?_) rfl (by kernel_rfl) (by kernel_rfl) (by kernel_rfl) (fun _ _ _ h => h) (Or.inl ⟨by rfl, ?_⟩) (hS0.out) ?_
  rotate_left
  · (intro w hSw; obtain ⟨q1, q2, q3, q4, q5, q6⟩ := hSw; go_simp <;> with_reducible rfl)
  try simp only [Act.put]
  refine wpAnyH_take (i := 7) (oi := _) (v := ?_) rfl (by kernel_rfl) (by kernel_rfl) (by kernel_rfl) (fun _ _ _ h => h) (Or.inl ⟨by rfl, ?_⟩) (hS0.out) ?_
  rotate_left
  · (intro w hSw; obtain ⟨q1, q2, q3, q4, q5, q6⟩ := hSw; go_simp <;> with_reducible rfl)
  try simp only [Act.put]
  refine wpAnyH_take (i := 8) (oi := _) (v := ?_) rfl (by kernel_rfl) (by kernel_rfl) (by kernel_rfl) (fun _ _ _ h => h) (Or.inl ⟨by rfl, ?_⟩) (hS0.out) ?_
  rotate_left
  · (intro w hSw; obtain ⟨q1, q2, q3, q4, q5, q6⟩ := hSw; go_simp <;> with_reducible rfl)
  try simp only [Act.put]
  refine wpAnyH_take (i := 9) (oi := _) (v := ?_) rfl (by kernel_rfl) (by kernel_rfl) (by kernel_rfl) (fun _ _ _ h => h) (Or.inl ⟨by rfl, ?_⟩) (hS0.out) ?_
  rotate_left
  · (intro w hSw; obtain ⟨q1, q2, q3, q4, q5, q6⟩ := hSw; go_simp <;> with_reducible rfl)
  try simp only [Act.put]
  refine wpAnyH_take (i := 10) (oi := _) (v := ?_) rfl (by kernel_rfl) (by kernel_rfl) (by kernel_rfl) (fun _ _ _ h => h) (Or.inl ⟨by rfl, ?_⟩) (hS0.out) ?_
  rotate_left
  · (intro w hSw; obtain ⟨q1, q2, q3, q4, q5, q6⟩ := hSw; go_simp <;> with_reducible rfl)
  try simp only [Act.put]
  refine wpAnyH_take (i := 11) (oi := _) (v := ?_) rfl (by kernel_rfl) (by kernel_rfl) (by kernel_rfl) (fun _ _ _ h => h) (Or.inl ⟨by rfl, ?_⟩) (hS0.out) ?_
  rotate_left
  · (intro w hSw; obtain ⟨q1, q2, q3, q4, q5, q6⟩ := hSw; go_simp <;> with_reducible rfl)
  try simp only [Act.put]
  refine wpAnyH_take (i := 12) (oi := _) (v := ?_) rfl (by kernel_rfl) (by kernel_rfl) (by kernel_rfl) (fun _ _ _ h => h) (Or.inl ⟨by rfl, ?_⟩) (hS0.out) ?_
  rotate_left
  · (intro w hSw; obtain ⟨q1, q2, q3, q4, q5, q6⟩ := hSw; go_simp <;> with_reducible rfl)
  try simp only [Act.put]
  refine wpAnyH_take (i := 14) (oi := _) (v := ?_) rfl (by kernel_rfl) (by kernel_rfl) (by kernel_rfl) (fun _ _ _ h => h) (Or.inl ⟨by rfl, ?_⟩) (hS0.out) ?_
  rotate_left
  · (intro w hSw; obtain ⟨q1, q2, q3, q4, q5, q6⟩ := hSw; go_simp <;> with_reducible rfl)
  try simp only [Act.put]
  have hBe : Hid (Below w.heap.size w w.drew) := (Below.refl _ w).drew
  have hB3 : Hid (Below w.heap.size w (w.alloc (.cells #[.int .i64 (co : Int), .int .i64 ho, .bool gg, .string nn, .string dd] 94)).drew) := ((Below.refl _ w).alloc (Nat.le_refl _) _).drew
  refine wpAnyH_ready (rs := [13, 15]) (by kernel_rfl) (by simp) ?_
  refine AllReadyH.cons (o := _) rfl (fun K hK => ?_) ?_
  · have hh := (hBe.out.cell (p := ⟨R, co, none⟩) hlR).trans hhd
    go_simp
    clear hh
    refine hK.out _ _ (HO.out _ hBe.out) (fun _ => ?_)
    clear hK K
    try simp only [Act.put, List.setIfInBounds_toArray, List.set_cons_zero, List.set_cons_succ]
    refine wpAnyH_ready (rs := [15]) (by kernel_rfl) (by simp) ?_
    refine AllReadyH.cons (o := _) rfl (fun K hK => ?_) ?_
    · go_simp
      refine hK.out _ _ (HO.out _ hB3.out) (fun _ => ?_)
      clear hK K
      try simp only [Act.put, List.setIfInBounds_toArray, List.set_cons_zero, List.set_cons_succ]
      refine wpAnyH_ready (rs := [16]) (by kernel_rfl) (by simp) ?_
      refine AllReadyH.cons (o := _) rfl (fun K hK => ?_) ?_
      · rw [if_pos (by rfl)]
        refine wp_append_new _ _ _ 52 rfl B 94 i0 zl 5 56 Tryz.underlying52 hi0.out hz0.out hz1.out hz2.out hzc.out (by decide) vh (rows co).length (lksL (rows co)) rfl (own_below' hrow.out hB3.out) ⟨w.heap.size, 0, none⟩ 1 1 (lkL ((co : Int), ho, gg, nn, dd)) rfl rfl (head_lk w ((co : Int), ho, gg, nn, dd) 94) (one_lk _) (by omega) (by unfold maxLen; omega) (by omega) (Nat.le_trans hBsz hB3.out.size) ?_
        intro vb wb hob hgb hnb
        have hx4 : Hid (Bk wb lb 94 [.int .i64 (co : Int), .int .i64 ho, .bool gg, .string nn, .string dd]) := (hlb.out.below hB3.out).grown hgb (fun e => hnl.out e.symm)
        have hx5 : Hid (Bk wb xb 104 [.slice (some ⟨R, 0, none⟩) n n, .slice (some ⟨b, 0, none⟩) n n]) := (hx.out.x.below hB3.out).grown hgb (fun e => hnx.out e.symm)
        have hG9 : Hid (Gv (wb.setCell ⟨R, co, none⟩ vb) B R n (fun i => if i = co then vb else v i) (setK rows co ((co : Int), ho, gg, nn, dd))) := by
          have h := ((hx.out.g.alloc (.cells #[.int .i64 (co : Int), .int .i64 ho, .bool gg, .string nn, .string dd] 94)).drew).step (q := ((co : Int), ho, gg, nn, dd)) hco (u := vb) (W' := wb) (by rw [← hvh.out]; exact hgb) hob (by rw [← hvh.out]; exact hnb)
          exact h
        have hob' := Lib.hid hob
        have hX9 : Hid (∃ v', SeIn (wb.setCell ⟨R, co, none⟩ vb) xb R b B n v' (setK rows co ((co : Int), ho, gg, nn, dd)) o ∧ ∀ i, i < n → (v' i).ownBlock ≠ some xb) := by
          refine ⟨_, ⟨hx5.out.far hRx.out _, hG9.out, ?_, hx.out.nx, hx.out.nxR, hx.out.nR, fun i hi => ?_, hx.out.lb⟩, fun i hi => ?_⟩
          · refine (((hx.out.r.below hB3.out).grown hgb fun e => hnb0.out e).grown (grown_set wb ⟨R, co, none⟩ vb) fun e => hx.out.nR (Option.some.inj e))
          · by_cases c : i = co
            · rw [if_pos c]
              intro e
              rcases hnb with h1 | h1
              · exact hnb0.out (by rw [← h1, e])
              · rw [e] at h1
                have h2 := (hx.out.r.below hB3.out).lt
                simp only [Option.some.injEq] at h1
                omega
            · rw [if_neg c]; exact hx.out.nv i hi
          · by_cases c : i = co
            · rw [if_pos c]
              intro e
              rcases hnb with h1 | h1
              · exact hnx.out (by rw [← h1, e])
              · rw [e] at h1
                have h2 := (hx.out.x.below hB3.out).lt
                simp only [Option.some.injEq] at h1
                omega
            · rw [if_neg c]; exact hax.out i hi
        have hB4 : Hid (Below B0 wz wb) := (hbz.out.trans (hB3.out.mono (Nat.le_trans hB0 hBsz))).grown hgb (Nat.le_trans (Nat.le_trans hB0 hBsz) hB3.out.size) (fun b e => Nat.le_trans hB0 (hrow.out.lt b e).1)
        have hB9 : Hid (Below B0 wz (wb.setCell ⟨R, co, none⟩ vb)) := hB4.out.setCell (p := ⟨R, co, none⟩) (Nat.le_trans hB0 hx.out.g.lowR) _
        have hbk := hgb.block R (Nat.lt_of_lt_of_le hlR hB3.out.size) (fun e => hnR.out e.symm)
        have y1 := (World.cell?_of_block (a := ⟨R, co, none⟩) hbk).trans ((hB3.out.cell (p := ⟨R, co, none⟩) hlR).trans hhd)
        have y2 := (World.frozen?_of_block (a := ⟨R, co, none⟩) hbk).trans ((hB3.out.frozen (p := ⟨R, co, none⟩) hlR).trans (hx.out.g.fr co))
        have y3 : R < wb.heap.size := Nat.lt_of_lt_of_le (Nat.lt_of_lt_of_le hlR hB3.out.size) hgb.size
        rcases hob.2 with ⟨_, hnil⟩ | ⟨g9, cap9, cur9, rfl, _⟩
        · exact absurd hnil (by omega)
        clear hob hgb hnb hB3 hbk
        refine hK.out _ _ ⟨hx5.out.cell (j := 0) rfl, hx4.out.cell (j := 0) rfl, hx4.out.cell (j := 1) rfl, hx4.out.cell (j := 2) rfl, hx4.out.cell (j := 3) rfl, hx4.out.cell (j := 4) rfl⟩ (fun _ => ?_)
        clear hK K
        try simp only [Act.put, List.setIfInBounds_toArray]
        refine wpAnyH_take (i := 17) (oi := _) (v := ?_) rfl (by kernel_rfl) (by kernel_rfl) (by kernel_rfl) (fun _ _ _ h => h) (Or.inl ⟨by rfl, ?_⟩) (⟨hx5.out.cell (j := 0) rfl, hx4.out.cell (j := 0) rfl, hx4.out.cell (j := 1) rfl, hx4.out.cell (j := 2) rfl, hx4.out.cell (j := 3) rfl, hx4.out.cell (j := 4) rfl⟩) ?_
        rotate_left
        · (intro w hSw; obtain ⟨q1, q2, q3, q4, q5, q6⟩ := hSw; go_simp <;> with_reducible rfl)
        try simp only [Act.put]
        refine wpAnyH_ready (rs := [18]) (by kernel_rfl) (by simp) ?_
        refine AllReadyH.cons (o := _) rfl (fun K hK => ?_) ?_
        · go_simp
          refine hK.out _ _ ⟨(hx5.out.far (p := ⟨R, co, none⟩) hRx.out _).cell (j := 0) rfl, ((hx4.out.far (p := ⟨R, co, none⟩) hRl.out _).cell (j := 0) rfl), ((hx4.out.far (p := ⟨R, co, none⟩) hRl.out _).cell (j := 1) rfl), ((hx4.out.far (p := ⟨R, co, none⟩) hRl.out _).cell (j := 2) rfl), ((hx4.out.far (p := ⟨R, co, none⟩) hRl.out _).cell (j := 3) rfl), ((hx4.out.far (p := ⟨R, co, none⟩) hRl.out _).cell (j := 4) rfl)⟩ (fun _ => ?_)
          clear hK K
          try simp only [Act.put, List.setIfInBounds_toArray, List.set_cons_zero, List.set_cons_succ]
          refine wpAnyH_done (by kernel_rfl) ?_ _
          refine NoPanic.normal ?_
          exact h.out _ _ _ _ _ _ _ _ _ _ _ _ _ _ _ _ _ _ _ hX9 hB9
        exact AllReadyH.nil
      exact AllReadyH.nil
    exact AllReadyH.nil
  refine AllReadyH.cons (o := _) rfl (fun K hK => ?_) ?_
  · go_simp
    refine hK.out _ _ (HO.out _ hB3.out) (fun _ => ?_)
    clear hK K
    try simp only [Act.put, List.setIfInBounds_toArray, List.set_cons_zero, List.set_cons_succ]
    refine wpAnyH_ready (rs := [13]) (by kernel_rfl) (by simp) ?_
    refine AllReadyH.cons (o := _) rfl (fun K hK => ?_) ?_
    · have hh := (hB3.out.cell (p := ⟨R, co, none⟩) hlR).trans hhd
      go_simp
      clear hh
      refine hK.out _ _ (HO.out _ hB3.out) (fun _ => ?_)
      clear hK K
      try simp only [Act.put, List.setIfInBounds_toArray, List.set_cons_zero, List.set_cons_succ]
      refine wpAnyH_ready (rs := [16]) (by kernel_rfl) (by simp) ?_
      refine AllReadyH.cons (o := _) rfl (fun K hK => ?_) ?_
      · rw [if_pos (by rfl)]
        refine wp_append_new _ _ _ 52 rfl B 94 i0 zl 5 56 Tryz.underlying52 hi0.out hz0.out hz1.out hz2.out hzc.out (by decide) vh (rows co).length (lksL (rows co)) rfl (own_below' hrow.out hB3.out) ⟨w.heap.size, 0, none⟩ 1 1 (lkL ((co : Int), ho, gg, nn, dd)) rfl rfl (head_lk w ((co : Int), ho, gg, nn, dd) 94) (one_lk _) (by omega) (by unfold maxLen; omega) (by omega) (Nat.le_trans hBsz hB3.out.size) ?_
        intro vb wb hob hgb hnb
        have hx4 : Hid (Bk wb lb 94 [.int .i64 (co : Int), .int .i64 ho, .bool gg, .string nn, .string dd]) := (hlb.out.below hB3.out).grown hgb (fun e => hnl.out e.symm)
        have hx5 : Hid (Bk wb xb 104 [.slice (some ⟨R, 0, none⟩) n n, .slice (some ⟨b, 0, none⟩) n n]) := (hx.out.x.below hB3.out).grown hgb (fun e => hnx.out e.symm)
        have hG9 : Hid (Gv (wb.setCell ⟨R, co, none⟩ vb) B R n (fun i => if i = co then vb else v i) (setK rows co ((co : Int), ho, gg, nn, dd))) := by
          have h := ((hx.out.g.alloc (.cells #[.int .i64 (co : Int), .int .i64 ho, .bool gg, .string nn, .string dd] 94)).drew).step (q := ((co : Int), ho, gg, nn, dd)) hco (u := vb) (W' := wb) (by rw [← hvh.out]; exact hgb) hob (by rw [← hvh.out]; exact hnb)
          exact h
        have hob' := Lib.hid hob
        have hX9 : Hid (∃ v', SeIn (wb.setCell ⟨R, co, none⟩ vb) xb R b B n v' (setK rows co ((co : Int), ho, gg, nn, dd)) o ∧ ∀ i, i < n → (v' i).ownBlock ≠ some xb) := by
          refine ⟨_, ⟨hx5.out.far hRx.out _, hG9.out, ?_, hx.out.nx, hx.out.nxR, hx.out.nR, fun i hi => ?_, hx.out.lb⟩, fun i hi => ?_⟩
          · refine (((hx.out.r.below hB3.out).grown hgb fun e => hnb0.out e).grown (grown_set wb ⟨R, co, none⟩ vb) fun e => hx.out.nR (Option.some.inj e))
          · by_cases c : i = co
            · rw [if_pos c]
              intro e
              rcases hnb with h1 | h1
              · exact hnb0.out (by rw [← h1, e])
              · rw [e] at h1
                have h2 := (hx.out.r.below hB3.out).lt
                simp only [Option.some.injEq] at h1
                omega
            · rw [if_neg c]; exact hx.out.nv i hi
          · by_cases c : i = co
            · rw [if_pos c]
              intro e
              rcases hnb with h1 | h1
              · exact hnx.out (by rw [← h1, e])
              · rw [e] at h1
                have h2 := (hx.out.x.below hB3.out).lt
                simp only [Option.some.injEq] at h1
                omega
            · rw [if_neg c]; exact hax.out i hi
        have hB4 : Hid (Below B0 wz wb) := (hbz.out.trans (hB3.out.mono (Nat.le_trans hB0 hBsz))).grown hgb (Nat.le_trans (Nat.le_trans hB0 hBsz) hB3.out.size) (fun b e => Nat.le_trans hB0 (hrow.out.lt b e).1)
        have hB9 : Hid (Below B0 wz (wb.setCell ⟨R, co, none⟩ vb)) := hB4.out.setCell (p := ⟨R, co, none⟩) (Nat.le_trans hB0 hx.out.g.lowR) _
        have hbk := hgb.block R (Nat.lt_of_lt_of_le hlR hB3.out.size) (fun e => hnR.out e.symm)
        have y1 := (World.cell?_of_block (a := ⟨R, co, none⟩) hbk).trans ((hB3.out.cell (p := ⟨R, co, none⟩) hlR).trans hhd)
        have y2 := (World.frozen?_of_block (a := ⟨R, co, none⟩) hbk).trans ((hB3.out.frozen (p := ⟨R, co, none⟩) hlR).trans (hx.out.g.fr co))
        have y3 : R < wb.heap.size := Nat.lt_of_lt_of_le (Nat.lt_of_lt_of_le hlR hB3.out.size) hgb.size
        rcases hob.2 with ⟨_, hnil⟩ | ⟨g9, cap9, cur9, rfl, _⟩
        · exact absurd hnil (by omega)
        clear hob hgb hnb hB3 hbk
        refine hK.out _ _ ⟨hx5.out.cell (j := 0) rfl, hx4.out.cell (j := 0) rfl, hx4.out.cell (j := 1) rfl, hx4.out.cell (j := 2) rfl, hx4.out.cell (j := 3) rfl, hx4.out.cell (j := 4) rfl⟩ (fun _ => ?_)
        clear hK K
        try simp only [Act.put, List.setIfInBounds_toArray]
        refine wpAnyH_take (i := 17) (oi := _) (v := ?_) rfl (by kernel_rfl) (by kernel_rfl) (by kernel_rfl) (fun _ _ _ h => h) (Or.inl ⟨by rfl, ?_⟩) (⟨hx5.out.cell (j := 0) rfl, hx4.out.cell (j := 0) rfl, hx4.out.cell (j := 1) rfl, hx4.out.cell (j := 2) rfl, hx4.out.cell (j := 3) rfl, hx4.out.cell (j := 4) rfl⟩) ?_
        rotate_left
        · (intro w hSw; obtain ⟨q1, q2, q3, q4, q5, q6⟩ := hSw; go_simp <;> with_reducible rfl)
        try simp only [Act.put]
        refine wpAnyH_ready (rs := [18]) (by kernel_rfl) (by simp) ?_
        refine AllReadyH.cons (o := _) rfl (fun K hK => ?_) ?_
        · go_simp
          refine hK.out _ _ ⟨(hx5.out.far (p := ⟨R, co, none⟩) hRx.out _).cell (j := 0) rfl, ((hx4.out.far (p := ⟨R, co, none⟩) hRl.out _).cell (j := 0) rfl), ((hx4.out.far (p := ⟨R, co, none⟩) hRl.out _).cell (j := 1) rfl), ((hx4.out.far (p := ⟨R, co, none⟩) hRl.out _).cell (j := 2) rfl), ((hx4.out.far (p := ⟨R, co, none⟩) hRl.out _).cell (j := 3) rfl), ((hx4.out.far (p := ⟨R, co, none⟩) hRl.out _).cell (j := 4) rfl)⟩ (fun _ => ?_)
          clear hK K
          try simp only [Act.put, List.setIfInBounds_toArray, List.set_cons_zero, List.set_cons_succ]
          refine wpAnyH_done (by kernel_rfl) ?_ _
          refine NoPanic.normal ?_
          exact h.out _ _ _ _ _ _ _ _ _ _ _ _ _ _ _ _ _ _ _ hX9 hB9
        exact AllReadyH.nil
      exact AllReadyH.nil
    exact AllReadyH.nil
  exact AllReadyH.nil
theorem infoVs : (Tryz.prog.info? 52).map (fun i => (i.zero, i.size, i.bytes)) = some (some (.slice none 0 0), 1, 24) := by kernel_rfl
theorem SeIn.build {W : World} {R b B n : Nat} (hG : Gv W B R n (fun _ => .slice none 0 0) fun _ => []) (hr : RoI W b n fun _ => -1) (hne : R ≠ b) (hlb : B ≤ b) :
    SeIn (W.alloc (.cells #[.slice (some ⟨R, 0, none⟩) n n, .slice (some ⟨b, 0, none⟩) n n] 104)) W.heap.size R b B n (fun _ => .slice none 0 0) (fun _ => []) fun _ => -1 :=
  ⟨Bk.new W _ _, hG.alloc _, hr.alloc _, fun e => by have := hr.lt; omega, fun e => by have := hG.lt; omega, hne, fun i _ h => (by cases h), hlb⟩
theorem rep1 (n : Nat) (w : World) (hn : n ≤ 1000) : Calls Tryz.prog 117 #[.slice (some ⟨w.heap.size + 1, 0, none⟩) 1 1, .int .i64 (n : Int)] (((w.alloc (.cells (madeCells #[(.slice none 0 0 : Value)] n) 52)).alloc (.cells #[.int .i64 (-1)] 3)).drew) (fun e w' => (∃ b, e = .returned (.slice (some ⟨b, 0, none⟩) n n) ∧ Gv w' w.heap.size (w.heap.size) n (fun _ => .slice none 0 0) (fun _ => []) ∧ RoI w' b n (fun _ => -1) ∧ (w.heap.size) ≠ b ∧ w.heap.size ≤ b) ∧ Below w.heap.size w w') := by
  have hL : Bk (((w.alloc (.cells (madeCells #[(.slice none 0 0 : Value)] n) 52)).alloc (.cells #[.int .i64 (-1)] 3)).drew) (w.heap.size + 1) 3 [.int .i64 (-1)] := by
    have h := Bk.new (w.alloc (.cells (madeCells #[(.slice none 0 0 : Value)] n) 52)) 3 [.int .i64 (-1)]; rw [World.size_alloc] at h; exact h
  have hB : Below w.heap.size w (((w.alloc (.cells (madeCells #[(.slice none 0 0 : Value)] n) 52)).alloc (.cells #[.int .i64 (-1)] 3)).drew) := (((Below.refl _ w).alloc (Nat.le_refl _) _).alloc (by simp) _).drew
  have hG : Gv (((w.alloc (.cells (madeCells #[(.slice none 0 0 : Value)] n) 52)).alloc (.cells #[.int .i64 (-1)] 3)).drew) w.heap.size (w.heap.size) n (fun _ => .slice none 0 0) fun _ => [] := by
    exact ((Gv.start w (Nat.le_refl _) n _).alloc _).drew
  refine (Repeat_any n _ _ hn (hL.cell (j := 0) rfl) hL.lt).mono ?_
  rintro e w3 ⟨⟨rfl, hrow⟩, hb⟩
  exact ⟨⟨_, rfl, hG.below hb, RoI.of_row hrow, fun e => by have := hG.lt; omega, hB.size⟩, hB.trans (hb.mono hB.size)⟩
theorem rep2 (n : Nat) (w : World) (hn : n ≤ 1000) : Calls Tryz.prog 117 #[.slice (some ⟨w.heap.size, 0, none⟩) 1 1, .int .i64 (n : Int)] (((w.alloc (.cells #[.int .i64 (-1)] 3)).alloc (.cells (madeCells #[(.slice none 0 0 : Value)] n) 52)).drew) (fun e w' => (∃ b, e = .returned (.slice (some ⟨b, 0, none⟩) n n) ∧ Gv w' w.heap.size (w.heap.size + 1) n (fun _ => .slice none 0 0) (fun _ => []) ∧ RoI w' b n (fun _ => -1) ∧ (w.heap.size + 1) ≠ b ∧ w.heap.size ≤ b) ∧ Below w.heap.size w w') := by
  have hL : Bk (((w.alloc (.cells #[.int .i64 (-1)] 3)).alloc (.cells (madeCells #[(.slice none 0 0 : Value)] n) 52)).drew) (w.heap.size) 3 [.int .i64 (-1)] := by
    exact ((Bk.new w 3 [.int .i64 (-1)]).alloc _).below (Below.refl _ _).drew
  have hB : Below w.heap.size w (((w.alloc (.cells #[.int .i64 (-1)] 3)).alloc (.cells (madeCells #[(.slice none 0 0 : Value)] n) 52)).drew) := (((Below.refl _ w).alloc (Nat.le_refl _) _).alloc (by simp) _).drew
  have hG : Gv (((w.alloc (.cells #[.int .i64 (-1)] 3)).alloc (.cells (madeCells #[(.slice none 0 0 : Value)] n) 52)).drew) w.heap.size (w.heap.size + 1) n (fun _ => .slice none 0 0) fun _ => [] := by
    have h := Gv.start (w.alloc (.cells #[.int .i64 (-1)] 3)) (B := w.heap.size) (by simp) n 52; rw [World.size_alloc] at h; exact h.drew
  refine (Repeat_any n _ _ hn (hL.cell (j := 0) rfl) hL.lt).mono ?_
  rintro e w3 ⟨⟨rfl, hrow⟩, hb⟩
  exact ⟨⟨_, rfl, hG.below hb, RoI.of_row hrow, fun e => by have := hG.lt; omega, hB.size⟩, hB.trans (hb.mono hB.size)⟩
theorem rep3 (n : Nat) (w : World) (hn : n ≤ 1000) : Calls Tryz.prog 117 #[.slice (some ⟨w.heap.size, 0, none⟩) 1 1, .int .i64 (n : Int)] ((w.alloc (.cells #[.int .i64 (-1)] 3)).drew) (fun e w' => (∃ b, e = .returned (.slice (some ⟨b, 0, none⟩) n n) ∧ RoI w' b n (fun _ => -1) ∧ w.heap.size ≤ b) ∧ Below w.heap.size w w') := by
  have hL : Bk ((w.alloc (.cells #[.int .i64 (-1)] 3)).drew) (w.heap.size) 3 [.int .i64 (-1)] := by
    exact (Bk.new w 3 [.int .i64 (-1)]).below (Below.refl _ _).drew
  have hB : Below w.heap.size w ((w.alloc (.cells #[.int .i64 (-1)] 3)).drew) := ((Below.refl _ w).alloc (Nat.le_refl _) _).drew
  refine (Repeat_any n _ _ hn (hL.cell (j := 0) rfl) hL.lt).mono ?_
  rintro e w3 ⟨⟨rfl, hrow⟩, hb⟩
  exact ⟨⟨_, rfl, RoI.of_row hrow, hB.size⟩, hB.trans (hb.mono hB.size)⟩
set_option maxRecDepth 1000000 in
set_option maxHeartbeats 16000000 in
theorem bg7 {c0 c1 c2 c3 c4 c5 c7 c8 c10 c11 c12 c13 c14 c15 c16 c17 c18 c19 c20 c21 c22 c23 c24 c25 c26 c27 c35 c36 c37 c38 c39 c40 c41 c42 c43 c44 c45 c46 c47 c48 c49 c50 c51 c52 c53 c54 c55 c56 c57 c58 c59 c60 c61 c62 c63 c64 c65 c66 c67 c68 c69 c70 c71 c72 c73 c74 a9 a28 a29 a30 a31 a32 a33 a34 : Value} {Q : Exit → Act → World → Prop} (n : Nat) (w : World) (hn : n ≤ 1000)
    (h : ∀ (u28 u29 u30 u31 u32 u33 u34 : Value) (xb R b : Nat) (W : World) (_ : Hid (SeIn W xb R b w.heap.size n (fun _ => .slice none 0 0) (fun _ => []) fun _ => -1)) (_ : Hid (Below w.heap.size w W)) (_ : w.heap.size ≤ xb), Q .normal ⟨#[c0, c1, c2, c3, c4, c5, .int .i64 (n : Int), c7, c8, .pointer (some ⟨xb, 0, none⟩), c10, c11, c12, c13, c14, c15, c16, c17, c18, c19, c20, c21, c22, c23, c24, c25, c26, c27, u28, u29, u30, u31, u32, u33, u34, c35, c36, c37, c38, c39, c40, c41, c42, c43, c44, c45, c46, c47, c48, c49, c50, c51, c52, c53, c54, c55, c56, c57, c58, c59, c60, c61, c62, c63, c64, c65, c66, c67, c68, c69, c70, c71, c72, c73, c74], []⟩ (W)) :
    Code.wp Tryz.prog (bgR 7) Q ⟨#[c0, c1, c2, c3, c4, c5, .int .i64 (n : Int), c7, c8, a9, c10, c11, c12, c13, c14, c15, c16, c17, c18, c19, c20, c21, c22, c23, c24, c25, c26, c27, a28, a29, a30, a31, a32, a33, a34, c35, c36, c37, c38, c39, c40, c41, c42, c43, c44, c45, c46, c47, c48, c49, c50, c51, c52, c53, c54, c55, c56, c57, c58, c59, c60, c61, c62, c63, c64, c65, c66, c67, c68, c69, c70, c71, c72, c73, c74], []⟩ w := by
  conv => arg 2; whnf
  conv => arg 4; zeta
  replace h := Lib.hid h
  have hmk := run_make_row' (P := Tryz.prog) 102 52 (.slice none 0 0) 24 Tryz.underlying102 infoVs rfl .i64 .i64 n (by omega) (by omega)
  have k1 := Lib.hid (rep1 n w hn)
  have k2 := Lib.hid (rep2 n w hn)
  have k3 := Lib.hid (rep3 n w hn)
  refine wp_region_noPanic ?_
  refine wp_region_held_drew (S := fun _ => True) (by kernel_rfl) trivial (fun _ => ?_)
  refine wpAnyH_take (i := 0) (oi := _) (v := ?_) rfl (by kernel_rfl) (by kernel_rfl) (by kernel_rfl) (fun _ _ _ h => h) (Or.inl ⟨by rfl, ?_⟩) trivial ?_
  rotate_left
  · (intro w hSw; go_simp <;> with_reducible rfl)
  try simp only [Act.put, List.setIfInBounds_toArray]
  refine wpAnyH_take (i := 3) (oi := _) (v := ?_) rfl (by kernel_rfl) (by kernel_rfl) (by kernel_rfl) (fun _ _ _ h => h) (Or.inl ⟨by rfl, ?_⟩) trivial ?_
  rotate_left
  · (intro w hSw; go_simp <;> with_reducible rfl)
  try simp only [Act.put]
  refine wpAnyH_ready (rs := [1, 2]) (by kernel_rfl) (by simp) ?_
  refine AllReadyH.cons (o := _) rfl (fun K hK => ?_) ?_
  · go_simp
    refine hK.out _ _ trivial (fun _ => ?_)
    clear hK K
    try simp only [Act.put, List.setIfInBounds_toArray, List.set_cons_zero, List.set_cons_succ]
    refine wpAnyH_ready (rs := [2]) (by kernel_rfl) (by simp) ?_
    refine AllReadyH.cons (o := _) rfl (fun K hK => ?_) ?_
    · go_simp
      refine hK.out _ _ trivial (fun _ => ?_)
      clear hK K
      try simp only [Act.put, List.setIfInBounds_toArray, List.set_cons_zero, List.set_cons_succ]
      refine wpAnyH_ready (rs := [4]) (by kernel_rfl) (by simp) ?_
      refine AllReadyH.cons (o := _) rfl (fun K hK => ?_) ?_
      · go_simp
        go_at_call 117
        refine k1.out.mono ?_
        rintro _ w3 ⟨⟨b, rfl, hG, hr, hne, hle⟩, hb⟩
        go_wp2_with fail
        refine hK.out _ _ trivial (fun _ => ?_)
        clear hK K
        try simp only [Act.put, List.setIfInBounds_toArray, List.set_cons_zero, List.set_cons_succ]
        refine wpAnyH_take (i := 5) (oi := _) (v := ?_) rfl (by kernel_rfl) (by kernel_rfl) (by kernel_rfl) (fun _ _ _ h => h) (Or.inl ⟨by rfl, ?_⟩) trivial ?_
        rotate_left
        · (intro w hSw; go_simp <;> with_reducible rfl)
        try simp only [Act.put, List.setIfInBounds_toArray]
        refine wpAnyH_ready (rs := [6]) (by kernel_rfl) (by simp) ?_
        refine AllReadyH.cons (o := _) rfl (fun K hK => ?_) ?_
        · go_simp
          refine hK.out _ _ trivial (fun _ => ?_)
          clear hK K
          try simp only [Act.put, List.setIfInBounds_toArray, List.set_cons_zero, List.set_cons_succ]
          refine wpAnyH_take (i := 7) (oi := _) (v := ?_) rfl (by kernel_rfl) (by kernel_rfl) (by kernel_rfl) (fun _ _ _ h => h) (Or.inl ⟨by rfl, ?_⟩) trivial ?_
          rotate_left
          · (intro w hSw; go_simp <;> with_reducible rfl)
          try simp only [Act.put, List.setIfInBounds_toArray]
          refine wpAnyH_done (by kernel_rfl) ?_ _
          refine NoPanic.normal ?_
          exact h.out _ _ _ _ _ _ _ _ (w.heap.size) b _ (SeIn.build hG hr hne hle) (hb.alloc hb.size _) hb.size
        exact AllReadyH.nil
      exact AllReadyH.nil
    exact AllReadyH.nil
  refine AllReadyH.cons (o := _) rfl (fun K hK => ?_) ?_
  · go_simp
    refine hK.out _ _ trivial (fun _ => ?_)
    clear hK K
    try simp only [Act.put, List.setIfInBounds_toArray, List.set_cons_zero, List.set_cons_succ]
    refine wpAnyH_ready (rs := [1, 4]) (by kernel_rfl) (by simp) ?_
    refine AllReadyH.cons (o := _) rfl (fun K hK => ?_) ?_
    · go_simp
      refine hK.out _ _ trivial (fun _ => ?_)
      clear hK K
      try simp only [Act.put, List.setIfInBounds_toArray, List.set_cons_zero, List.set_cons_succ]
      refine wpAnyH_ready (rs := [4]) (by kernel_rfl) (by simp) ?_
      refine AllReadyH.cons (o := _) rfl (fun K hK => ?_) ?_
      · go_simp
        go_at_call 117
        refine k2.out.mono ?_
        rintro _ w3 ⟨⟨b, rfl, hG, hr, hne, hle⟩, hb⟩
        go_wp2_with fail
        refine hK.out _ _ trivial (fun _ => ?_)
        clear hK K
        try simp only [Act.put, List.setIfInBounds_toArray, List.set_cons_zero, List.set_cons_succ]
        refine wpAnyH_take (i := 5) (oi := _) (v := ?_) rfl (by kernel_rfl) (by kernel_rfl) (by kernel_rfl) (fun _ _ _ h => h) (Or.inl ⟨by rfl, ?_⟩) trivial ?_
        rotate_left
        · (intro w hSw; go_simp <;> with_reducible rfl)
        try simp only [Act.put, List.setIfInBounds_toArray]
        refine wpAnyH_ready (rs := [6]) (by kernel_rfl) (by simp) ?_
        refine AllReadyH.cons (o := _) rfl (fun K hK => ?_) ?_
        · go_simp
          refine hK.out _ _ trivial (fun _ => ?_)
          clear hK K
          try simp only [Act.put, List.setIfInBounds_toArray, List.set_cons_zero, List.set_cons_succ]
          refine wpAnyH_take (i := 7) (oi := _) (v := ?_) rfl (by kernel_rfl) (by kernel_rfl) (by kernel_rfl) (fun _ _ _ h => h) (Or.inl ⟨by rfl, ?_⟩) trivial ?_
          rotate_left
          · (intro w hSw; go_simp <;> with_reducible rfl)
          try simp only [Act.put, List.setIfInBounds_toArray]
          refine wpAnyH_done (by kernel_rfl) ?_ _
          refine NoPanic.normal ?_
          exact h.out _ _ _ _ _ _ _ _ (w.heap.size + 1) b _ (SeIn.build hG hr hne hle) (hb.alloc hb.size _) hb.size
        exact AllReadyH.nil
      exact AllReadyH.nil
    refine AllReadyH.cons (o := _) rfl (fun K hK => ?_) ?_
    · go_simp
      go_at_call 117
      refine k3.out.mono ?_
      rintro _ w3 ⟨⟨b, rfl, hr, hle⟩, hb⟩
      go_wp2_with fail
      refine hK.out _ _ trivial (fun _ => ?_)
      clear hK K
      try simp only [Act.put, List.setIfInBounds_toArray, List.set_cons_zero, List.set_cons_succ]
      refine wpAnyH_ready (rs := [1]) (by kernel_rfl) (by simp) ?_
      refine AllReadyH.cons (o := _) rfl (fun K hK => ?_) ?_
      · go_simp
        refine hK.out _ _ trivial (fun _ => ?_)
        clear hK K
        try simp only [Act.put, List.setIfInBounds_toArray, List.set_cons_zero, List.set_cons_succ]
        have hq := SeIn.build (Gv.start w3 hb.size n 52) (hr.alloc (.cells (madeCells #[(.slice none 0 0 : Value)] n) 52)) (fun e => by have := hr.lt; omega) hle
        rw [World.size_alloc] at hq
        refine wpAnyH_take (i := 5) (oi := _) (v := ?_) rfl (by kernel_rfl) (by kernel_rfl) (by kernel_rfl) (fun _ _ _ h => h) (Or.inl ⟨by rfl, ?_⟩) trivial ?_
        rotate_left
        · (intro w hSw; go_simp <;> with_reducible rfl)
        try simp only [Act.put, List.setIfInBounds_toArray]
        refine wpAnyH_ready (rs := [6]) (by kernel_rfl) (by simp) ?_
        refine AllReadyH.cons (o := _) rfl (fun K hK => ?_) ?_
        · go_simp
          refine hK.out _ _ trivial (fun _ => ?_)
          clear hK K
          try simp only [Act.put, List.setIfInBounds_toArray, List.set_cons_zero, List.set_cons_succ]
          refine wpAnyH_take (i := 7) (oi := _) (v := ?_) rfl (by kernel_rfl) (by kernel_rfl) (by kernel_rfl) (fun _ _ _ h => h) (Or.inl ⟨by rfl, ?_⟩) trivial ?_
          rotate_left
          · (intro w hSw; go_simp <;> with_reducible rfl)
          try simp only [Act.put, List.setIfInBounds_toArray]
          refine wpAnyH_done (by kernel_rfl) ?_ _
          refine NoPanic.normal ?_
          exact h.out _ _ _ _ _ _ _ _ (w3.heap.size) b _ (hq) ((hb.alloc hb.size _).alloc (Nat.le_trans hb.size (by simp)) _) (Nat.le_trans hb.size (by simp))
        exact AllReadyH.nil
      exact AllReadyH.nil
    exact AllReadyH.nil
  exact AllReadyH.nil
end Co
end Go.Proofs.YtpmlhgmmobpilaaGreatDoor
namespace Go.Proofs.YtpmlhgmmobpilaaGreatDoor
open Go.RowKit Go.Shelf
namespace Co
open Nt Ci
/-- A search over the votes of a structure, laid by the call. -/
def Se (s : SR) (base : Nat) (w : World) (xb b : Nat) (o : Nat → Int) : Prop :=
  ∃ R B v, base ≤ B ∧ base ≤ xb ∧ SeIn w xb R b B s.ps.length v (row s.vot) o
theorem Se.below {s : SR} {base xb b : Nat} {o : Nat → Int} {w w' : World} (h : Se s base w xb b o) (hb : Below w.heap.size w w') : Se s base w' xb b o := by
  obtain ⟨R, B, v, h1, h2, h3⟩ := h
  exact ⟨R, B, v, h1, h2, h3.below hb⟩
def BgPost (s : SR) (F : List Int) (w : World) (e : Ending) (w' : World) : Prop :=
  (if soundB s = true ∧ listB s.ps.length F = true then ∃ xb b, e = .returned (.tuple #[.pointer (some ⟨xb, 0, none⟩), .int .i64 0]) ∧ Se s w.heap.size w' xb b (fun x => if x ∈ toN F then 0 else -1)
    else e = .returned (.tuple #[.pointer none, .int .i64 1])) ∧ Below w.heap.size w w'
theorem row_take {l : List Lk} {k co : Nat} (h : k < l.length) (hco : l[k].1 = (co : Int)) (p : Nat) : setK (row (l.take k)) co l[k] p = row (l.take (k + 1)) p := by
  unfold setK row
  rw [List.take_succ_eq_append_getElem h, List.filter_append]
  by_cases e : p = co
  · rw [if_pos e, List.filter_cons, if_pos (by rw [e, hco]; simp)]; rfl
  · rw [if_neg e, List.filter_cons, if_neg (by rw [hco]; simp; omega)]; simp
theorem row_len (l : List Lk) (k p : Nat) : (row (l.take k) p).length ≤ l.length := by
  unfold row
  have h1 := List.length_filter_le (fun x : Lk => decide (x.1 = (p : Int))) (l.take k)
  have h2 : (l.take k).length ≤ l.length := List.length_take_le' _ _
  omega
theorem sound_vot {s : SR} (h : soundB s = true) : ∀ x, x ∈ s.vot → (0 ≤ x.1 ∧ x.1 < s.ps.length) ∧ (0 ≤ x.2.1 ∧ x.2.1 < s.ps.length) ∧ unitsN (lkP x) ≠ 0 := by
  unfold soundB at h
  simp only [Bool.and_eq_true, decide_eq_true_eq] at h
  intro x hx
  obtain ⟨i, hi, rfl⟩ := List.getElem_of_mem hx
  obtain ⟨⟨a1, a2, _, a4⟩, _, _⟩ := good_at h.2.2.2 hi
  exact ⟨a1, a2, a4⟩
set_option maxRecDepth 100000 in
set_option maxHeartbeats 16000000 in
theorem begin_any (s : SR) (Ap Ac Av Af : Option Addr) (cp cc cv cf : Nat) (F : List Int) (w : World) (hE : Env w) (hs : StIn w s Ap Ac Av) (hc3 : s.cap.length ≤ 300) (hv3 : s.vot.length ≤ 300) (hF : InInt w Af F) (hFl : F.length ≤ 140737488355328) :
    Calls Tryz.prog 71 #[.agg #[.slice Ap s.ps.length cp, .slice Ac s.cap.length cc, .slice Av s.vot.length cv], .slice Af F.length cf] w (BgPost s F w) := by
  have hX1 : Hid (Bk (w.alloc (.cells #[.slice Ap s.ps.length cp, .slice Ac s.cap.length cc, .slice Av s.vot.length cv] 54)) w.heap.size 54 (SC s Ap Ac Av cp cc cv)) := Bk.new w _ _
  have hB1 : Hid (Below w.heap.size w (w.alloc (.cells #[.slice Ap s.ps.length cp, .slice Ac s.cap.length cc, .slice Av s.vot.length cv] 54))) := (Below.refl _ w).alloc (Nat.le_refl _) _
  have u0 := hX1.out.cell (j := 0) rfl
  have u1 := hX1.out.cell (j := 1) rfl
  have u2 := hX1.out.cell (j := 2) rfl
  have u9 := hX1.out.lt
  have ks := Sound_any s Ap Ac Av cp cc cv _ (hE.below hB1.out) (hs.below hB1.out)
  replace hE := Lib.hid hE
  replace hs := Lib.hid hs
  replace hF := Lib.hid hF
  have hnp := hs.out.np
  cases hsd : soundB s with
  | false =>
    rw [hsd] at ks
    replace ks := Lib.hid ks
    have hP : Hid (∀ e W, e = .returned (.tuple #[.pointer none, .int .i64 1]) → Below w.heap.size w W → BgPost s F w e W) := fun e W h1 h2 => ⟨by rw [if_neg (by rw [hsd]; simp)]; exact h1, h2⟩
    clear hsd
    go_enter Tryz.func71, Tryz.ntmps71
    go_wp2_with fail
    refine ks.out.mono ?_
    rintro e w2 ⟨rfl, hb⟩
    have hB2 := Lib.hid (hB1.out.trans (hb.mono hB1.out.size))
    clear hb
    go_wp2
    go_ret2
    exact hP.out _ _ rfl hB2.out
  | true =>
    rw [hsd] at ks
    replace ks := Lib.hid ks
    have hn60 := sound_n hsd
    have hvt := Lib.hid (sound_vot hsd)
    go_enter Tryz.func71, Tryz.ntmps71
    go_wp2_with fail
    refine ks.out.mono ?_
    rintro e w2 ⟨rfl, hb⟩
    have hB2 := Lib.hid (hB1.out.trans (hb.mono hB1.out.size))
    have hX2 := Lib.hid (hX1.out.below hb)
    clear hb u0 u1 u2 u9 hX1 hB1 ks
    have u0 := hX2.out.cell (j := 0) rfl
    have u1 := hX2.out.cell (j := 1) rfl
    have u2 := hX2.out.cell (j := 2) rfl
    have u9 := hX2.out.lt
    have kr := Ranks_any s Ap Ac Av Af cp cc cv cf F w2 (hE.out.below hB2.out) (hs.out.below hB2.out) hc3 (hF.out.below hB2.out) hFl
    by_cases hls : listB s.ps.length F = true
    · have kr2 : Hid (Calls Tryz.prog 81 #[.agg #[.slice Ap s.ps.length cp, .slice Ac s.cap.length cc, .slice Av s.vot.length cv], .slice Af F.length cf] w2 fun e w' => (∃ v, e = .returned (.tuple #[.slice v s.ps.length s.ps.length, .int .i64 0])) ∧ Below w2.heap.size w2 w') := kr.mono fun e w' h => ⟨by have h1 := h.1; rw [if_pos ⟨hsd, hls⟩] at h1; obtain ⟨b, e1, _⟩ := h1; exact ⟨_, e1⟩, h.2⟩
      clear kr
      have hP : Hid (∀ e W, (∃ xb b, e = .returned (.tuple #[.pointer (some ⟨xb, 0, none⟩), .int .i64 0]) ∧ Se s w.heap.size W xb b (fun x => if x ∈ toN F then 0 else -1)) → Below w.heap.size w W → BgPost s F w e W) := fun e W h1 h2 => ⟨by rw [if_pos ⟨hsd, hls⟩]; exact h1, h2⟩
      have hin : Hid (∀ i (h : i < F.length), ∃ f : Nat, F[i] = (f : Int) ∧ f < s.ps.length ∧ (toN F)[i]? = some f) := fun i h => by
        obtain ⟨f, h1, h2, h3⟩ := toN_at hls h
        exact ⟨f, h1, by omega, h3⟩
      have hlen : Hid ((toN F).length = F.length) := by unfold Hid toN; rw [List.length_map]
      replace hls := Lib.hid hls
      replace hsd := Lib.hid hsd
      go_wp2_with fail
      refine kr2.out.mono ?_
      rintro e w3 ⟨⟨rk, rfl⟩, hb⟩
      have hB3 := Lib.hid (hB2.out.trans (hb.mono hB2.out.size))
      have hX3 := Lib.hid (hX2.out.below hb)
      clear hb u0 u1 u2 u9 hX2 hB2 kr2
      go_wp2_with fail
      refine bg7 s.ps.length w3 (by omega) ?_
      intro _ _ _ _ _ _ _ xb R b w4 hS4 hb4 hxb3
      have hB4 := Lib.hid (hB3.out.trans (hb4.out.mono hB3.out.size))
      have hX4 := Lib.hid (hX3.out.below hb4.out)
      have u2 := hX4.out.cell (j := 2) rfl
      have u9 := hX4.out.lt
      have hbase : Hid (w.heap.size ≤ w3.heap.size) := hB3.out.size
      clear hb4 hX3 hB3
      have hxb : Hid (w.heap.size ≤ xb) := Nat.le_trans hbase.out hxb3
      have hS5 : Hid (∃ v, SeIn w4 xb R b w3.heap.size s.ps.length v (row (s.vot.take 0)) (fun _ => -1) ∧ ∀ i, i < s.ps.length → (v i).ownBlock ≠ some xb) := ⟨_, hS4.out, fun i _ h => (by cases h)⟩
      have hrt : Hid (∀ k (h : k < s.vot.length) (co : Nat), s.vot[k].1 = (co : Int) → setK (row (s.vot.take k)) co s.vot[k] = row (s.vot.take (k + 1))) := fun k h co e => funext fun p => row_take h e p
      have hrl := Lib.hid (fun k p => row_len s.vot k p)
      clear hS4 hxb3
      go_wp2_with fail
      go_loopw [38] (fun ix wr => ∃ (k : Nat), k ≤ s.vot.length ∧ ix = .int .i64 (k : Int) ∧ Hid (Below w.heap.size w wr) ∧ Hid (∃ v, SeIn wr xb R b w3.heap.size s.ps.length v (row (s.vot.take k)) (fun _ => -1) ∧ ∀ i, i < s.ps.length → (v i).ownBlock ≠ some xb)) (fun ix _ => s.vot.length - (intOf ix).toNat)
      case atStart => exact ⟨0, Nat.zero_le _, rfl, hB4, hS5⟩
      case round =>
        obtain ⟨k, hk, rfl, hB, hS⟩ := hrel
        clear hB4 hS5 u2 u9 hX4
        by_cases hlt : k < s.vot.length
        · obtain ⟨vb, off, rfl, hbl, hcc⟩ := (hs.out.below hB.out).vot (by omega)
          obtain ⟨e1, e2, e3, e4, e5⟩ := hcc k hlt
          have hix := hvt.out s.vot[k] (List.getElem_mem hlt)
          have hrk := Lib.hid (hrt.out k hlt)
          obtain ⟨x, hx⟩ : ∃ x, x = s.vot[k] := ⟨_, rfl⟩
          rw [← hx] at e1 e2 e3 e4 e5 hix hrk
          replace hx := Lib.hid hx
          obtain ⟨coI, ho, gg, nn, dd⟩ := x
          obtain ⟨⟨i1, i2⟩, _, _⟩ := hix
          replace i1 : 0 ≤ coI := i1
          replace i2 : coI < s.ps.length := i2
          obtain ⟨co, rfl⟩ : ∃ c : Nat, coI = (c : Int) := ⟨coI.toNat, by omega⟩
          replace e1 : wr.cell? ⟨vb, off + k * 5, none⟩ = some (.int .i64 (co : Int)) := e1
          replace e2 : wr.cell? ⟨vb, off + k * 5 + 1, none⟩ = some (.int .i64 ho) := e2
          replace e3 : wr.cell? ⟨vb, off + k * 5 + 2, none⟩ = some (.bool gg) := e3
          replace e4 : wr.cell? ⟨vb, off + k * 5 + 3, none⟩ = some (.string nn) := e4
          replace e5 : wr.cell? ⟨vb, off + k * 5 + 4, none⟩ = some (.string dd) := e5
          have hro := Lib.hid (hrk.out co rfl)
          have j0 : (0 : Int) ≤ (k : Int) := by omega
          have j1 : (k : Int) < (s.vot.length : Int) := by omega
          obtain ⟨v, hSv, hax⟩ := hS.out
          have hlb : Hid (Bk (wr.alloc (.cells #[.int .i64 (co : Int), .int .i64 ho, .bool gg, .string nn, .string dd] 94)) wr.heap.size 94 [.int .i64 (co : Int), .int .i64 ho, .bool gg, .string nn, .string dd]) := Bk.new wr _ _
          have hBw := Lib.hid (hB.out.alloc hB.out.size (.cells #[.int .i64 (co : Int), .int .i64 ho, .bool gg, .string nn, .string dd] 94))
          have hSw := Lib.hid (hSv.below ((Below.refl _ wr).alloc (Nat.le_refl _) (.cells #[.int .i64 (co : Int), .int .i64 ho, .bool gg, .string nn, .string dd] 94)))
          have hal : Hid (∀ i, i < s.ps.length → (v i).ownBlock ≠ some wr.heap.size) := fun i hi e => by
            have := ((hSv.g.rows i hi).lt _ e).2
            omega
          have hRx : Hid (xb ≠ R) := hSv.nxR
          have hRl : Hid (wr.heap.size ≠ R) := fun e => by
            have := hSv.g.lt
            omega
          replace hax := Lib.hid hax
          clear hSv hcc
          go_wp2_with fail
          refine bg11 xb R b wr.heap.size w3.heap.size w.heap.size s.ps.length co ho gg nn dd v (row (s.vot.take k)) (fun _ => -1) _ w (by omega) (by omega) (by have := hrl.out k co; omega) hSw.out hlb.out hRx.out hRl.out hax.out hal.out hbase.out hBw.out ?_
          intro _ _ _ _ _ _ _ _ _ _ _ _ _ _ _ _ _ _ w6 hS6 hB6
          rw [hro.out] at hS6
          clear e1 e2 e3 e4 e5 hlb hBw hSw
          go_wp2
          go_roundw
          case rel => exact ⟨k + 1, by omega, by go_num, hB6, hS6⟩
          case measure => simp [intOf]; omega
        · obtain rfl : k = s.vot.length := by omega
          obtain ⟨v, hSv, _⟩ := hS.out
          rw [List.take_length] at hSv
          have hS2 : Hid (SeIn wr xb R b w3.heap.size s.ps.length v (row s.vot) (ini (toN F) 0)) := hSv.congr fun x _ => by simp [ini]
          clear hS hSv
          go_wp2_with fail
          go_loopw [63] (fun ix wz => ∃ (j : Nat), j ≤ F.length ∧ ix = .int .i64 (j : Int) ∧ Hid (Below w.heap.size w wz) ∧ Hid (SeIn wz xb R b w3.heap.size s.ps.length v (row s.vot) (ini (toN F) j))) (fun ix _ => F.length - (intOf ix).toNat)
          case atStart => exact ⟨0, Nat.zero_le _, rfl, hB, hS2⟩
          case round =>
            obtain ⟨j, hj, rfl, hBz, hSz⟩ := hrel
            obtain ⟨wz, rfl⟩ : ∃ z, z = wr := ⟨_, rfl⟩
            clear hB hS2
            by_cases hjl : j < F.length
            · obtain ⟨fb, fo, rfl, hfl, hfc⟩ := hF.out.below hBz.out (by omega)
              obtain ⟨f, hf1, hf2, hf3⟩ := hin.out j hjl
              have e1 := hfc j hjl
              rw [hf1] at e1
              have j0 : (0 : Int) ≤ (j : Int) := by omega
              have j1 : (j : Int) < (F.length : Int) := by omega
              have f0 : (0 : Int) ≤ (f : Int) := by omega
              have f1 : (f : Int) < (s.ps.length : Int) := by omega
              have x0 := hSz.out.x.cell (j := 1) rfl
              have x9 := hSz.out.x.lt
              have r0 := hSz.out.r.cell f hf2
              have r1 := hSz.out.r.fr f
              have r9 := hSz.out.r.lt
              have hlb : Hid (w.heap.size ≤ b) := Nat.le_trans hbase.out hSz.out.lb
              have hS9 : Hid (SeIn (wz.setCell ⟨b, f, none⟩ (.int .i64 0)) xb R b w3.heap.size s.ps.length v (row s.vot) (ini (toN F) (j + 1))) := (hSz.out.set hf2 0).congr fun x _ => ini_succ hf3 x
              have hB9 : Hid (Below w.heap.size w (wz.setCell ⟨b, f, none⟩ (.int .i64 0))) := hBz.out.setCell (p := ⟨b, f, none⟩) hlb.out _
              clear hf1 hf3 hfc
              go_wp2
              go_roundw
              case rel => exact ⟨j + 1, by omega, by go_num, hB9, hS9⟩
              case measure => simp [intOf]; omega
            · obtain rfl : j = F.length := by omega
              have hS3 : Hid (Se s w.heap.size wz xb b (fun x => if x ∈ toN F then 0 else -1)) := ⟨R, w3.heap.size, v, hbase.out, hxb.out, hSz.out.congr fun x _ => by rw [← hlen.out]; exact ini_all _ x⟩
              go_wp2
              go_ret2
              exact hP.out _ _ ⟨xb, b, rfl, hS3.out⟩ hBz.out
    · have kr2 : Hid (Calls Tryz.prog 81 #[.agg #[.slice Ap s.ps.length cp, .slice Ac s.cap.length cc, .slice Av s.vot.length cv], .slice Af F.length cf] w2 fun e w' => e = .returned (.tuple #[.slice none 0 0, .int .i64 1]) ∧ Below w2.heap.size w2 w') := kr.mono fun e w' h => ⟨by have h1 := h.1; rwa [if_neg fun c => hls c.2] at h1, h.2⟩
      clear kr
      have hP : Hid (∀ e W, e = .returned (.tuple #[.pointer none, .int .i64 1]) → Below w.heap.size w W → BgPost s F w e W) := fun e W h1 h2 => ⟨by rw [if_neg fun c => hls c.2]; exact h1, h2⟩
      replace hls := Lib.hid hls
      replace hsd := Lib.hid hsd
      go_wp2_with fail
      refine kr2.out.mono ?_
      rintro e w3 ⟨rfl, hb⟩
      have hB3 := Lib.hid (hB2.out.trans (hb.mono hB2.out.size))
      clear hb u0 u1 u2 u9 hX2 hB2 kr2
      go_wp2
      go_ret2
      exact hP.out _ _ rfl hB3.out
end Co
end Go.Proofs.YtpmlhgmmobpilaaGreatDoor
namespace Go.Proofs.YtpmlhgmmobpilaaGreatDoor
open Go.RowKit Go.Shelf
namespace Co
open Nt Ci
theorem lkOk_row {s : SR} (h : ∀ x, x ∈ s.vot → (0 ≤ x.1 ∧ x.1 < s.ps.length) ∧ (0 ≤ x.2.1 ∧ x.2.1 < s.ps.length) ∧ unitsN (lkP x) ≠ 0) (p : Nat) : LkOk s.ps.length (row s.vot p) := fun x hx => by
  have := h x (List.mem_filter.1 hx).1
  exact ⟨this.2.1, this.2.2⟩
theorem row_len' (l : List Lk) (p : Nat) : (row l p).length ≤ l.length := List.length_filter_le _ _
/-- majority by those who have a round. -/
theorem majRounds {s : SR} {xb R b B p : Nat} {v : Nat → Value} {o : Nat → Int} {w : World} (hE : Env w) (hS : SeIn w xb R b B s.ps.length v (row s.vot) o) (hp : p < s.ps.length) (hsd : soundB s = true) (hv3 : s.vot.length ≤ 300) :
    Calls Tryz.prog 84 #[.slice (some ⟨R, 0, none⟩) s.ps.length s.ps.length, .int .i64 (p : Int), .func (.func 80) #[.pointer (some ⟨xb, 0, none⟩)] #[]] w fun e w' => e = .returned (.bool (maj (VT s) (fun q => decide (0 ≤ o q)) p)) ∧ Below w.heap.size w w' := by
  have hn60 := sound_n hsd
  have hvt := sound_vot hsd
  have hl := row_len' s.vot p
  rw [maj_row (fun x hx => (hvt x hx).1.1)]
  exact majFound_any xb R B s.ps.length p v (row s.vot) (fun q => decide (0 ≤ o q)) w hE hS.g hp (by omega) (by omega) (lkOk_row hvt p) fun W hW q h0 h1 => by
    obtain ⟨m, rfl⟩ : ∃ m : Nat, q = (m : Int) := ⟨q.toNat, by omega⟩
    refine (found_any xb R b B s.ps.length m v (row s.vot) o W (hS.below hW) (by omega) (by omega)).mono ?_
    rintro e w' ⟨rfl, rfl⟩
    exact ⟨by simp, Below.refl _ _⟩
set_option maxRecDepth 100000 in
set_option maxHeartbeats 16000000 in
theorem run_any (s : SR) (xb b : Nat) (L : List Nat) (w0 w : World) (hE : Env w0) (hB0 : Below w0.heap.size w0 w) (hsd : soundB s = true) (hv3 : s.vot.length ≤ 300) (hS0 : Se s w0.heap.size w xb b (fun x => if x ∈ L then 0 else -1)) :
    Calls Tryz.prog 72 #[.pointer (some ⟨xb, 0, none⟩)] w fun e w' => e = .returned (.tuple #[]) ∧ Se s w0.heap.size w' xb b (rd (VT s) L) ∧ Below w0.heap.size w0 w' := by
  obtain ⟨R, B, v, hb0, hx0, hS1⟩ := hS0
  have hn60 := sound_n hsd
  have hV : Hid (VIn s.ps.length (VT s)) := VIn_of (sound_vot hsd)
  have hS2 : Hid (SeIn w xb R b B s.ps.length v (row s.vot) (cut (VT s) L 0)) := hS1.congr fun x _ => cut_zero.symm
  have hbb : Hid (w0.heap.size ≤ b) := Nat.le_trans hb0 hS1.lb
  have hfin : Hid (∀ W, SeIn W xb R b B s.ps.length v (row s.vot) (rd (VT s) L) → Se s w0.heap.size W xb b (rd (VT s) L)) := fun W h => ⟨R, B, v, hb0, hx0, h⟩
  have kmaj : Hid (∀ k W p, p < s.ps.length → Below w0.heap.size w0 W → SeIn W xb R b B s.ps.length v (row s.vot) (cut (VT s) L k) → Calls Tryz.prog 84 #[.slice (some ⟨R, 0, none⟩) s.ps.length s.ps.length, .int .i64 (p : Int), .func (.func 80) #[.pointer (some ⟨xb, 0, none⟩)] #[]] W fun e w' => e = .returned (.bool (maj (VT s) (inR (VT s) L k) p)) ∧ Below W.heap.size W w') := fun k W p hp hW hS => by
    have h := majRounds (hE.below hW) hS hp hsd hv3
    rw [cut_S] at h
    exact h
  have kfound : Hid (∀ k W p, p < s.ps.length → SeIn W xb R b B s.ps.length v (row s.vot) (cut (VT s) L k) → Calls Tryz.prog 80 #[.pointer (some ⟨xb, 0, none⟩), .int .i64 (p : Int)] W fun e w' => e = .returned (.bool (inR (VT s) L k p)) ∧ w' = W) := fun k W p hp hS => by
    have h := found_any xb R b B s.ps.length p v (row s.vot) _ W hS hp (by omega)
    have e : decide (0 ≤ cut (VT s) L k p) = inR (VT s) L k p := congrFun cut_S p
    rw [e] at h
    exact h
  obtain ⟨i0, hi0, hzz⟩ := Option.map_eq_some_iff.1 infoI
  simp only [Prod.mk.injEq] at hzz
  obtain ⟨hz0, hz1, hz2⟩ := hzz
  replace hi0 := Lib.hid hi0
  replace hz0 := Lib.hid hz0
  replace hz1 := Lib.hid hz1
  replace hz2 := Lib.hid hz2
  replace hB0 := Lib.hid hB0
  replace hsd := Lib.hid hsd
  clear hS1 hE hb0 hx0
  go_enter Tryz.func72, Tryz.ntmps72
  go_wp2
  go_loopw [2] (fun kv wr => ∃ (k : Nat), k ≤ s.ps.length ∧ kv = .int .i64 ((k : Int) + 1) ∧ Hid (Below w0.heap.size w0 wr) ∧ Hid (SeIn wr xb R b B s.ps.length v (row s.vot) (cut (VT s) L k))) (fun kv _ => s.ps.length + 2 - (intOf kv).toNat)
  case atStart => exact ⟨0, Nat.zero_le _, by go_num, hB0, hS2⟩
  case round =>
    obtain ⟨k, hk, rfl, hBr, hSr⟩ := hrel
    obtain ⟨wo, rfl⟩ : ∃ z, z = wr := ⟨_, rfl⟩
    clear hB0 hS2
    have x0 := hSr.out.x.cell (j := 1) rfl
    have x9 := hSr.out.x.lt
    go_wp2
    clear x0 x9
    have hO0 : Hid (wo.ownsRow wo.heap.size 3 1 (.slice none 0 0) 0 (intsL (nx (VT s) L k 0))) := World.ownsRow_nil _ _ _ _
    go_loopw [3, 14] (fun nv ix wz => ∃ (i m c : Nat) (A : Option Addr), i ≤ s.ps.length ∧ m = (nx (VT s) L k i).length ∧ nv = .slice A m c ∧ ix = .int .i64 (i : Int) ∧ Hid (Kp [] wo wz) ∧ Hid (wz.ownsRow wo.heap.size 3 1 (.slice A m c) m (intsL (nx (VT s) L k i)))) (fun _ ix _ => s.ps.length - (intOf ix).toNat)
    case atStart => exact ⟨0, 0, 0, none, Nat.zero_le _, rfl, rfl, rfl, Kp.refl _ _, hO0⟩
    case round =>
      obtain ⟨i, m, c, A, hi, hm, rfl, rfl, hK, hO⟩ := hrel
      obtain ⟨wz, rfl⟩ : ∃ z, z = wr := ⟨_, rfl⟩
      clear hO0
      have hBz : Hid (Below w0.heap.size w0 wz) := hBr.out.trans ((hK.out.to_below (Below.refl _ wo) fun x hx => by simp at hx).mono hBr.out.size)
      have hSz : Hid (SeIn wz xb R b B s.ps.length v (row s.vot) (cut (VT s) L k)) := hSr.out.below (hK.out.to_below (Below.refl _ wo) fun x hx => by simp at hx)
      have hml : m ≤ i := by rw [hm]; exact nx_len
      replace hm := Lib.hid hm
      by_cases hin : i < s.ps.length
      · have j0 : (0 : Int) ≤ (i : Int) := by omega
        have j1 : (i : Int) < (s.ps.length : Int) := by omega
        have kf := kfound.out k wz i hin hSz.out
        cases hc : inR (VT s) L k i with
        | true =>
          rw [hc] at kf
          replace kf := Lib.hid kf
          have hnx : Hid (nx (VT s) L k (i + 1) = nx (VT s) L k i) := nx_no (rd_ne hc)
          have hm2 : Hid (m = (nx (VT s) L k (i + 1)).length) := by rw [hnx.out]; exact hm.out
          have hO2 : Hid (wz.ownsRow wo.heap.size 3 1 (.slice A m c) m (intsL (nx (VT s) L k (i + 1)))) := by rw [hnx.out]; exact hO.out
          clear hc
          go_wp2_with fail
          refine kf.out.mono ?_
          rintro e wq ⟨rfl, rfl⟩
          go_wp2
          exact ⟨⟨i + 1, m, c, A, by omega, hm2.out, rfl, by go_num, hK, hO2⟩, by simp only [intOf]; omega⟩
        | false =>
          rw [hc] at kf
          replace kf := Lib.hid kf
          have km := kmaj.out k wz i hin hBz.out hSz.out
          have x0 := hSz.out.x.cell (j := 0) rfl
          have x9 := hSz.out.x.lt
          have hrq := rd_eq hc
          clear hc
          cases hmj : maj (VT s) (inR (VT s) L k) i with
          | false =>
            rw [hmj] at km
            replace km := Lib.hid km
            have hnx : Hid (nx (VT s) L k (i + 1) = nx (VT s) L k i) := nx_no fun h => by rw [hrq.1 h] at hmj; cases hmj
            have hm2 : Hid (m = (nx (VT s) L k (i + 1)).length) := by rw [hnx.out]; exact hm.out
            clear hrq hmj
            go_wp2_with fail
            refine kf.out.mono ?_
            rintro e wq ⟨rfl, rfl⟩
            go_wp2_with fail
            refine km.out.mono ?_
            rintro e wq ⟨rfl, hb⟩
            have hO2 : Hid (wq.ownsRow wo.heap.size 3 1 (.slice A m c) m (intsL (nx (VT s) L k (i + 1)))) := by rw [hnx.out]; exact own_below' hO.out hb
            have hK2 := Lib.hid (hK.out.below hb)
            clear hb x0 x9
            go_wp2
            exact ⟨⟨i + 1, m, c, A, by omega, hm2.out, rfl, by go_num, hK2, hO2⟩, by simp only [intOf]; omega⟩
          | true =>
            rw [hmj] at km
            replace km := Lib.hid km
            have hnx : Hid (nx (VT s) L k (i + 1) = nx (VT s) L k i ++ [i]) := nx_yes (hrq.2 hmj)
            have hm2 : Hid (m + 1 = (nx (VT s) L k (i + 1)).length) := by show m + 1 = _; rw [hnx.out, List.length_append, List.length_singleton, ← hm.out]
            clear hrq hmj
            go_wp2_with fail
            refine kf.out.mono ?_
            rintro e wq ⟨rfl, rfl⟩
            go_wp2_with fail
            refine km.out.mono ?_
            rintro e wq ⟨rfl, hb⟩
            have hO1 := Lib.hid (own_below' hO.out hb)
            have hK1 := Lib.hid (hK.out.below hb)
            clear hb x0 x9
            have hO7 := Lib.hid (own_below' hO1.out ((Below.refl _ wq).alloc (Nat.le_refl _) (.cells #[.int .i64 (i : Int)] 3)))
            have hK7 := Lib.hid (hK1.out.alloc (.cells #[.int .i64 (i : Int)] 3))
            have hbs7 : Hid (wo.heap.size ≤ (wq.alloc (.cells #[.int .i64 (i : Int)] 3)).heap.size) := hK7.out.size
            have had7 : Hid (∀ j u, [(Value.int .i64 (i : Int))][j]? = some u → (wq.alloc (.cells #[.int .i64 (i : Int)] 3)).cell? (Addr.add ⟨wq.heap.size, 0, none⟩ j) = some u) := head_new wq _ _
            have hrp7 : Hid (intsL (nx (VT s) L k i) ++ [.int .i64 (i : Int)] = intsL (nx (VT s) L k (i + 1))) := by rw [hnx.out]; exact (intsL_snoc _ _).symm
            have hrow7 : Hid (∀ b, (Value.slice A m c).ownBlock = some b → b ∈ ([] : List Nat) ∨ wo.heap.size ≤ b) := fun b e => .inr (hO.out.lt b e).1
            go_wp2_with (at_builtin; refine wpList_append_new _ rfl _ _ 24 rfl wo.heap.size 3 i0 (.int .i64 0) 1 8 Tryz.underlying24 hi0.out hz0.out hz1.out hz2.out rfl (by decide) (.slice A m c) m _ rfl hO7.out ⟨wq.heap.size, 0, none⟩ 1 1 [.int .i64 (i : Int)] rfl rfl had7.out (one_cell1 _ rfl) (by decide) (by unfold maxLen; omega) (by omega) hbs7.out ?_; intro vb7 wb7 ho7 hg7 hn7; obtain ⟨A7, c7, rfl⟩ := own_form ho7; rw [hrp7.out] at ho7; have hk7 := Lib.hid (hK7.out.grown hg7 hrow7.out); replace ho7 := Lib.hid ho7; clear hg7 hn7)
            exact ⟨⟨i + 1, m + 1, c7, A7, by omega, hm2.out, rfl, by go_num, hk7, ho7⟩, by simp only [intOf]; omega⟩
      · obtain rfl : i = s.ps.length := by omega
        clear kfound kmaj
        by_cases hnil : nx (VT s) L k s.ps.length = []
        · obtain rfl : m = 0 := by rw [hm.out, hnil]; rfl
          have hS9 : Hid (Se s w0.heap.size wz xb b (rd (VT s) L)) := hfin.out _ (hSz.out.congr fun x hx => nx_nil hV.out hnil hx)
          clear hnil hm hO
          go_wp2
          refine bodyPost_ret (results_none rfl _ _ _) rfl ?_
          exact ⟨rfl, hS9.out, hBz.out⟩
        · have hkn := nx_le hV.out hnil
          have hm0 : 0 < m := by rw [hm.out]; exact List.length_pos_iff.2 hnil
          have t1 : ((m : Int) == 0) = false := by rw [beq_eq_false_iff_ne]; omega
          have t2 : (m == 0) = false := by rw [beq_eq_false_iff_ne]; omega
          have hoi := hO.out
          rw [hm.out] at hoi
          rcases own_ints hoi with ⟨_, h0⟩ | ⟨g, cap, hA, hgb, hgl, _, hgc⟩
          · exact absurd h0 hnil
          · rw [← hm.out] at hA
            simp only [Value.slice.injEq] at hA
            obtain ⟨rfl, _, rfl⟩ := hA
            have hgb2 : Hid (g ≠ b) := fun e => by have := hSr.out.r.lt; omega
            replace hgc := Lib.hid hgc
            replace hnil := Lib.hid hnil
            clear hoi hO
            have hS3 : Hid (SeIn wz xb R b B s.ps.length v (row s.vot) (stp (VT s) L s.ps.length k 0)) := hSz.out.congr fun x _ => stp_zero.symm
            go_wp2
            go_loopw [41] (fun jx wy => ∃ (j : Nat), j ≤ m ∧ jx = .int .i64 (j : Int) ∧ Hid (Kp [b] wz wy) ∧ Hid (Below w0.heap.size w0 wy) ∧ Hid (SeIn wy xb R b B s.ps.length v (row s.vot) (stp (VT s) L s.ps.length k j))) (fun jx _ => m - (intOf jx).toNat)
            case atStart => exact ⟨0, Nat.zero_le _, rfl, Kp.refl _ _, hBz, hS3⟩
            case round =>
              obtain ⟨j, hj, rfl, hKy, hBy, hSy⟩ := hrel
              obtain ⟨wy, rfl⟩ : ∃ z, z = wr := ⟨_, rfl⟩
              clear hS3
              by_cases hjl : j < m
              · have hjn : j < (nx (VT s) L k s.ps.length).length := by rw [← hm.out]; exact hjl
                have hq := nx_mem.1 (List.getElem_mem hjn)
                have e1 : wy.cell? ⟨g, j, none⟩ = some (.int .i64 ((nx (VT s) L k s.ps.length)[j] : Int)) := (World.cell?_of_block (a := ⟨g, j, none⟩) (hKy.out.block g hgl (by simpa using hgb2.out))).trans (hgc.out j hjn)
                have hgl2 : g < wy.heap.size := Nat.lt_of_lt_of_le hgl hKy.out.size
                have hst : Hid (∀ x, setI (stp (VT s) L s.ps.length k j) (nx (VT s) L k s.ps.length)[j] ((k + 1 : Nat) : Int) x = stp (VT s) L s.ps.length k (j + 1) x) := fun x => stp_succ (List.getElem?_eq_getElem hjn) x
                obtain ⟨q, hqe⟩ : ∃ q, q = (nx (VT s) L k s.ps.length)[j] := ⟨_, rfl⟩
                rw [← hqe] at hq e1 hst
                replace hqe := Lib.hid hqe
                have hqn := hq.1
                have j0 : (0 : Int) ≤ (j : Int) := by omega
                have j1 : (j : Int) < (m : Int) := by omega
                have q0 : (0 : Int) ≤ (q : Int) := by omega
                have q1 : (q : Int) < (s.ps.length : Int) := by omega
                have x0 := hSy.out.x.cell (j := 1) rfl
                have x9 := hSy.out.x.lt
                have r0 := hSy.out.r.cell q hqn
                have r1 := hSy.out.r.fr q
                have r9 := hSy.out.r.lt
                have hS9 : Hid (SeIn (wy.setCell ⟨b, q, none⟩ (.int .i64 ((k : Int) + 1))) xb R b B s.ps.length v (row s.vot) (stp (VT s) L s.ps.length k (j + 1))) := (hSy.out.set hqn ((k : Int) + 1)).congr fun x _ => hst.out x
                have hB9 : Hid (Below w0.heap.size w0 (wy.setCell ⟨b, q, none⟩ (.int .i64 ((k : Int) + 1)))) := hBy.out.setCell (p := ⟨b, q, none⟩) hbb.out _
                have hK9 : Hid (Kp [b] wz (wy.setCell ⟨b, q, none⟩ (.int .i64 ((k : Int) + 1)))) := hKy.out.set _ (.inl (by simp))
                clear hst hq
                go_wp2
                exact ⟨⟨j + 1, by omega, by go_num, hK9, hB9, hS9⟩, by simp only [intOf]; omega⟩
              · obtain rfl : j = m := by omega
                have hS9 : Hid (SeIn wy xb R b B s.ps.length v (row s.vot) (cut (VT s) L (k + 1))) := hSy.out.congr fun x hx => by rw [hm.out]; exact stp_all hx
                go_wp2
                exact ⟨⟨k + 1, hkn, by go_num, hBy, hS9⟩, by simp only [intOf]; omega⟩
end Co
end Go.Proofs.YtpmlhgmmobpilaaGreatDoor
namespace Go.Proofs.YtpmlhgmmobpilaaGreatDoor
open Go.RowKit Go.Shelf
namespace Co
open Nt Ci
/-- What Controlled gives. -/
def CtPost (s : SR) (F : List Int) (w : World) (e : Ending) (w' : World) : Prop :=
  (if soundB s = true ∧ listB s.ps.length F = true then ∃ b, e = .returned (.tuple #[.slice (some ⟨b, 0, none⟩) s.ps.length s.ps.length, .int .i64 0]) ∧ w.heap.size ≤ b ∧ RoI w' b s.ps.length (rd (VT s) (toN F))
    else e = .returned (.tuple #[.slice none 0 0, .int .i64 1])) ∧ Below w.heap.size w w'
set_option maxRecDepth 100000 in
set_option maxHeartbeats 4000000 in
theorem Controlled_any (s : SR) (Ap Ac Av Af : Option Addr) (cp cc cv cf : Nat) (F : List Int) (w : World) (hE : Env w) (hs : StIn w s Ap Ac Av) (hc3 : s.cap.length ≤ 300) (hv3 : s.vot.length ≤ 300) (hF : InInt w Af F) (hFl : F.length ≤ 140737488355328) :
    Calls Tryz.prog 28 #[.agg #[.slice Ap s.ps.length cp, .slice Ac s.cap.length cc, .slice Av s.vot.length cv], .slice Af F.length cf] w (CtPost s F w) := by
  have hX1 : Hid (Bk (w.alloc (.cells #[.slice Ap s.ps.length cp, .slice Ac s.cap.length cc, .slice Av s.vot.length cv] 54)) w.heap.size 54 (SC s Ap Ac Av cp cc cv)) := Bk.new w _ _
  have hB1 : Hid (Below w.heap.size w (w.alloc (.cells #[.slice Ap s.ps.length cp, .slice Ac s.cap.length cc, .slice Av s.vot.length cv] 54))) := (Below.refl _ w).alloc (Nat.le_refl _) _
  have u0 := hX1.out.cell (j := 0) rfl
  have u1 := hX1.out.cell (j := 1) rfl
  have u2 := hX1.out.cell (j := 2) rfl
  have u9 := hX1.out.lt
  have kb := begin_any s Ap Ac Av Af cp cc cv cf F _ (hE.below hB1.out) (hs.below hB1.out) hc3 hv3 (hF.below hB1.out) hFl
  by_cases hgd : soundB s = true ∧ listB s.ps.length F = true
  · have kb2 : Calls Tryz.prog 71 #[.agg #[.slice Ap s.ps.length cp, .slice Ac s.cap.length cc, .slice Av s.vot.length cv], .slice Af F.length cf] (w.alloc (.cells #[.slice Ap s.ps.length cp, .slice Ac s.cap.length cc, .slice Av s.vot.length cv] 54)) fun e w' => (∃ xb b, e = .returned (.tuple #[.pointer (some ⟨xb, 0, none⟩), .int .i64 0]) ∧ Se s (w.alloc (.cells #[.slice Ap s.ps.length cp, .slice Ac s.cap.length cc, .slice Av s.vot.length cv] 54)).heap.size w' xb b (fun x => if x ∈ toN F then 0 else -1)) ∧ Below (w.alloc (.cells #[.slice Ap s.ps.length cp, .slice Ac s.cap.length cc, .slice Av s.vot.length cv] 54)).heap.size (w.alloc (.cells #[.slice Ap s.ps.length cp, .slice Ac s.cap.length cc, .slice Av s.vot.length cv] 54)) w' := kb.mono fun e w' h => ⟨by have h1 := h.1; rw [if_pos hgd] at h1; exact h1, h.2⟩
    clear kb
    have hP : Hid (∀ e W, (∃ b, e = .returned (.tuple #[.slice (some ⟨b, 0, none⟩) s.ps.length s.ps.length, .int .i64 0]) ∧ w.heap.size ≤ b ∧ RoI W b s.ps.length (rd (VT s) (toN F))) → Below w.heap.size w W → CtPost s F w e W) := fun e W h1 h2 => ⟨by rw [if_pos hgd]; exact h1, h2⟩
    obtain ⟨W1, hW1⟩ : ∃ W, W = w.alloc (.cells #[.slice Ap s.ps.length cp, .slice Ac s.cap.length cc, .slice Av s.vot.length cv] 54) := ⟨_, rfl⟩
    have kr := Lib.hid (fun xb b W h1 h2 => run_any s xb b (toN F) W1 W (by rw [hW1]; exact hE.below hB1.out) h1 hgd.1 hv3 h2)
    rw [← hW1] at kb2
    replace kb2 := Lib.hid kb2
    replace hgd := Lib.hid hgd
    go_enter Tryz.func28, Tryz.ntmps28
    go_wp2_with fail
    rw [← hW1]
    rw [← hW1] at hB1
    replace hW1 := Lib.hid hW1
    refine kb2.out.mono ?_
    rintro e w2 ⟨⟨xb, b, rfl, hS⟩, hb⟩
    have hb2 := Lib.hid hb
    replace hS := Lib.hid hS
    clear hb u0 u1 u2 u9 kb2
    go_wp2_with fail
    refine (kr.out xb b w2 hb2.out hS.out).mono ?_
    rintro e w3 ⟨rfl, ⟨R, B, v, h1, h2, hS3⟩, hb3⟩
    have hB3 : Hid (Below w.heap.size w w3) := hB1.out.trans (hb3.mono hB1.out.size)
    have x0 := hS3.x.cell (j := 1) rfl
    have x9 := hS3.x.lt
    have hR3 := Lib.hid hS3.r
    have hbb : Hid (w.heap.size ≤ b) := Nat.le_trans hB1.out.size (Nat.le_trans h1 hS3.lb)
    clear hS hb2 hb3 hS3 h1 h2
    go_wp2
    go_ret2
    exact hP.out _ _ ⟨b, rfl, hbb.out, hR3.out⟩ hB3.out
  · have kb2 : Calls Tryz.prog 71 #[.agg #[.slice Ap s.ps.length cp, .slice Ac s.cap.length cc, .slice Av s.vot.length cv], .slice Af F.length cf] (w.alloc (.cells #[.slice Ap s.ps.length cp, .slice Ac s.cap.length cc, .slice Av s.vot.length cv] 54)) fun e w' => e = .returned (.tuple #[.pointer none, .int .i64 1]) ∧ Below (w.alloc (.cells #[.slice Ap s.ps.length cp, .slice Ac s.cap.length cc, .slice Av s.vot.length cv] 54)).heap.size (w.alloc (.cells #[.slice Ap s.ps.length cp, .slice Ac s.cap.length cc, .slice Av s.vot.length cv] 54)) w' := kb.mono fun e w' h => ⟨by have h1 := h.1; rw [if_neg hgd] at h1; exact h1, h.2⟩
    clear kb
    have hP : Hid (∀ e W, e = .returned (.tuple #[.slice none 0 0, .int .i64 1]) → Below w.heap.size w W → CtPost s F w e W) := fun e W h1 h2 => ⟨by rw [if_neg hgd]; exact h1, h2⟩
    replace kb2 := Lib.hid kb2
    replace hgd := Lib.hid hgd
    go_enter Tryz.func28, Tryz.ntmps28
    go_wp2_with fail
    refine kb2.out.mono ?_
    rintro e w2 ⟨rfl, hb⟩
    have hB2 := Lib.hid (hB1.out.trans (hb.mono hB1.out.size))
    clear hb u0 u1 u2 u9 kb2
    go_wp2
    go_ret2
    exact hP.out _ _ rfl hB2.out
end Co
end Go.Proofs.YtpmlhgmmobpilaaGreatDoor
namespace Go.Proofs.YtpmlhgmmobpilaaGreatDoor
open Go.RowKit Go.Shelf
namespace Co
open Nt Ci
theorem ret_int {a b : Int} (h : a = b) : Ending.returned (.int .i64 a) = .returned (.int .i64 b) := by rw [h]
/-- Where a number first stands in a list; -1 if it does not. -/
def ixOf (l : List Int) (x : Int) : Int := if x ∈ l then (l.idxOf x : Int) else -1
theorem ix_at {l : List Int} {x : Int} {k : Nat} (hk : k < l.length) (h : ∀ j (hj : j < l.length), j < k → l[j] ≠ x) (e : l[k] = x) : ixOf l x = (k : Int) := by
  have hm : x ∈ l := by rw [← e]; exact List.getElem_mem hk
  unfold ixOf
  rw [if_pos hm]
  have h1 : l.idxOf x < l.length := List.idxOf_lt_length_of_mem hm
  have h2 : l[l.idxOf x] = x := List.getElem_idxOf h1
  by_cases c : l.idxOf x < k
  · exact absurd h2 (h _ h1 c)
  · by_cases c2 : k < l.idxOf x
    · exact absurd e (by
        have := List.not_of_lt_findIdx (p := fun y => y == x) (xs := l) (i := k) (by simpa [List.idxOf] using c2)
        simpa using this)
    · omega
theorem ix_no {l : List Int} {x : Int} (h : ∀ j (hj : j < l.length), l[j] ≠ x) : ixOf l x = -1 := by
  unfold ixOf
  rw [if_neg]
  intro hm
  obtain ⟨j, hj, e⟩ := List.getElem_of_mem hm
  exact h j hj e
theorem ix_mem {l : List Int} {x : Int} : decide (0 ≤ ixOf l x) = decide (x ∈ l) := by
  unfold ixOf
  by_cases h : x ∈ l
  · rw [if_pos h, decide_eq_true h, decide_eq_true (by omega)]
  · rw [if_neg h, decide_eq_false h]; rfl
set_option maxRecDepth 100000 in
theorem Index_any (A : Option Addr) (ca : Nat) (l : List Int) (x : Int) (w : World) (hA : InInt w A l) (hl : l.length ≤ 140737488355328) :
    Calls Tryz.prog 79 #[.slice A l.length ca, .int .i64 x] w fun e w' => e = .returned (.int .i64 (ixOf l x)) ∧ w' = w := by
  replace hA := Lib.hid hA
  have hYes := Lib.hid (fun (k : Nat) (hk : k < l.length) h e => ix_at (l := l) (x := x) hk h e)
  have hNo := Lib.hid (fun h => ix_no (l := l) (x := x) h)
  go_enter Tryz.func79, Tryz.ntmps79
  go_wp2
  go_loopw [8] (fun ix wr => ∃ (k : Nat), k ≤ l.length ∧ ix = .int .i64 (k : Int) ∧ wr = w ∧ Hid (∀ j (hj : j < l.length), j < k → l[j] ≠ x)) (fun ix _ => l.length - (intOf ix).toNat)
  case atStart => exact ⟨0, Nat.zero_le _, rfl, rfl, fun j _ h => absurd h (Nat.not_lt_zero _)⟩
  case round =>
    obtain ⟨k, hk, rfl, rfl, hN⟩ := hrel
    by_cases hlt : k < l.length
    · obtain ⟨b, o, rfl, hbl, hc⟩ := hA.out (by omega)
      have e1 := hc k hlt
      have hy := Lib.hid (hYes.out k hlt hN.out)
      have hn : Hid (l[k] ≠ x → ∀ j (hj : j < l.length), j < k + 1 → l[j] ≠ x) := fun h j hj h2 => by
        by_cases c : j = k
        · subst c; exact h
        · exact hN.out j hj (by omega)
      obtain ⟨y, hy2⟩ : ∃ y, y = l[k] := ⟨_, rfl⟩
      rw [← hy2] at e1 hy hn
      replace hy2 := Lib.hid hy2
      have j0 : (0 : Int) ≤ (k : Int) := by omega
      have j1 : (k : Int) < (l.length : Int) := by omega
      clear hc hN
      by_cases hxy : x = y
      · have m1 : (x == y) = true := by rw [beq_iff_eq]; exact hxy
        have hr := Lib.hid (hy.out hxy.symm)
        replace hxy := Lib.hid hxy
        clear hn hy
        go_wp2
        go_ret
        exact ⟨ret_int hr.out.symm, rfl⟩
      · have m1 : (x == y) = false := by rw [beq_eq_false_iff_ne]; exact hxy
        have hn2 := Lib.hid (hn.out fun c => hxy c.symm)
        replace hxy := Lib.hid hxy
        clear hn hy
        go_wp2
        exact ⟨⟨k + 1, by omega, by go_num, by first | rfl | trivial, hn2⟩, by simp only [intOf]; omega⟩
    · obtain rfl : k = l.length := by omega
      have hr : Hid (ixOf l x = -1) := hNo.out fun j hj => hN.out j hj hj
      go_wp2
      go_ret
      exact ⟨ret_int hr.out.symm, rfl⟩
set_option maxRecDepth 100000 in
theorem Contains_any (A : Option Addr) (ca : Nat) (l : List Int) (x : Int) (w : World) (hA : InInt w A l) (hl : l.length ≤ 140737488355328) :
    Calls Tryz.prog 83 #[.slice A l.length ca, .int .i64 x] w fun e w' => e = .returned (.bool (decide (x ∈ l))) ∧ w' = w := by
  have ki := Lib.hid (Index_any A ca l x w hA hl)
  have hm := Lib.hid (ix_mem (l := l) (x := x))
  go_enter Tryz.func83, Tryz.ntmps83
  go_wp2_with fail
  refine ki.out.mono ?_
  rintro e w2 ⟨rfl, rfl⟩
  go_wp2
  go_ret
  exact ⟨ret_bool hm.out, rfl⟩
set_option maxRecDepth 100000 in
/-- The inner function of Check: whether a party is among the closed ones. -/
theorem in_any (pb : Nat) (Ao Ac : Option Addr) (co cc : Nat) (lo lc : List Int) (q : Int) (w : World) (hp : Bk w pb 56 [.slice Ao lo.length co, .slice Ac lc.length cc]) (hA : InInt w Ac lc) (hl : lc.length ≤ 140737488355328) :
    Calls Tryz.prog 82 #[.int .i64 q, .pointer (some ⟨pb, 0, none⟩)] w fun e w' => e = .returned (.bool (decide (q ∈ lc))) ∧ w' = w := by
  have kc := Lib.hid (Contains_any Ac cc lc q w hA hl)
  have u1 := hp.cell (j := 1) rfl
  have u9 := hp.lt
  go_enter Tryz.func82, Tryz.ntmps82
  go_wp2_with fail
  refine kc.out.mono ?_
  rintro e w2 ⟨rfl, rfl⟩
  go_wp2
  go_ret
  exact ⟨rfl, rfl⟩
end Co
end Go.Proofs.YtpmlhgmmobpilaaGreatDoor

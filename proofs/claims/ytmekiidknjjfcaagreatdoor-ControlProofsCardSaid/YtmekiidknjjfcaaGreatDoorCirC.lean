/- The search from one party, and slices and maps of the call's own. -/
import Derived.Test.YtmekiidknjjfcaaGreatDoorCirB
import Derived.Maps.AppendAt
import Derived.Laws.EntriesVeiled
import Derived.ArgAppend
import Derived.Test.YtmekiidknjjfcaaGreatDoorShelf
import Derived.Laws.CopyOwn
import Derived.Deep.RegionLaw
import Derived.Deep.QuietTactic
import Derived.BigQuiet
import Derived.IntWalk
namespace Go.Proofs.YtmekiidknjjfcaaGreatDoor
open Go.RowKit Go.Shelf
namespace Ci
open Nt
open Classical

theorem Gr.grown {W W' : World} {B R n mb : Nat} {v : Nat → Value} {adj : Nat → List Nat} (h : Gr W B R n v adj) (hg : W.grownBy W' (some mb)) (hR : R ≠ mb) (hv : ∀ i, i < n → (v i).ownBlock ≠ some mb) : Gr W' B R n v adj := by
  have hb : W'.heap[R]? = W.heap[R]? := hg.block R h.lt fun e => hR (Option.some.inj e)
  exact ⟨Nat.lt_of_lt_of_le h.lt hg.size, fun i hi => (World.cell?_of_block (a := ⟨R, i, none⟩) hb).trans (h.hd i hi), fun i => (World.frozen?_of_block (a := ⟨R, i, none⟩) hb).trans (h.fr i), fun i hi => (h.rows i hi).kept hg (by
    cases hu : (v i).ownBlock with
    | none => exact .inl rfl
    | some b => exact .inr fun e => hv i hi (hu.trans e)), h.apart, h.ne, h.lowR⟩
noncomputable def bV (P : Prop) : Bool := @decide P (propDecidable P)
theorem bV_true {P : Prop} (h : P) : bV P = true := @decide_eq_true P (propDecidable P) h
theorem bV_false {P : Prop} (h : ¬ P) : bV P = false := @decide_eq_false P (propDecidable P) h
theorem of_bV {P : Prop} (h : bV P = true) : P := @of_decide_eq_true P (propDecidable P) h
noncomputable def unv (n : Nat) (V : Nat → Prop) : Nat := ((List.range n).filter fun x => bV (¬ V x)).length
theorem unv_less {n p : Nat} {V : Nat → Prop} (hp : p < n) (h : ¬ V p) : unv n (fun x => V x ∨ x = p) + 1 ≤ unv n V :=
  filter_lt (fun _ _ hx => bV_true fun c => (of_bV hx) (.inl c)) ⟨p, List.mem_range.2 hp, bV_false fun c => c (.inr rfl), bV_true h⟩
theorem unv_mono {n : Nat} {V V' : Nat → Prop} (h : ∀ x, V x → V' x) : unv n V' ≤ unv n V := by
  unfold unv
  have : ∀ l : List Nat, (l.filter fun x => bV (¬ V' x)).length ≤ (l.filter fun x => bV (¬ V x)).length := by
    intro l
    induction l with
    | nil => exact Nat.le_refl _
    | cons a l ih =>
      rw [List.filter_cons, List.filter_cons]
      by_cases h1 : V a
      · rw [bV_false (fun c => c (h a h1)), bV_false (fun c => c h1)]
        exact ih
      · rw [bV_true h1]
        cases bV (¬ V' a)
        · simp only [Bool.false_eq_true, if_false, if_true, List.length_cons]
          omega
        · simp only [if_true, List.length_cons]
          omega
  exact this _
/-- The map reads as the set V. -/
def VisM (w : World) (n mb : Nat) (V : Nat → Prop) : Prop := ∃ c f, MapK Tryz.prog 3 κi w mb c f ∧ c + unv n V ≤ n ∧ ∀ x : Nat, x < n → f (x : Int) = if V x then some (.bool true) else none
theorem zeroB (w : World) : (zeroValue 4).run Tryz.prog w = .ok (.bool false) w := by kernel_rfl
def VPost (E : List (Nat × Nat)) (n mb p : Nat) (V : Nat → Prop) (w : World) (e : Ending) (w' : World) : Prop := e = .returned (.tuple #[]) ∧ w.grownBy w' (some mb) ∧ ∃ V', VisM w' n mb V' ∧ Vis E p V V'

end Ci
end Go.Proofs.YtmekiidknjjfcaaGreatDoor

namespace Go.Proofs.YtmekiidknjjfcaaGreatDoor
open Go.RowKit Go.Shelf
namespace Ci
open Nt
open Classical

/-- A map of the call's own that reads as the parties reached. -/
def ReachM (w : World) (n mb : Nat) (E : List (Nat × Nat)) (p : Nat) : Prop := ∃ c f, MapK Tryz.prog 3 κi w mb c f ∧ ∀ x : Nat, x < n → f (x : Int) = if Reach E p x then some (.bool true) else none
def RPost (E : List (Nat × Nat)) (n p : Nat) (w : World) (e : Ending) (w' : World) : Prop := (∃ mb, e = .returned (.map (some mb)) ∧ w.heap.size ≤ mb ∧ ReachM w' n mb E p) ∧ Below w.heap.size w w'

end Ci
end Go.Proofs.YtmekiidknjjfcaaGreatDoor

namespace Go.Proofs.YtmekiidknjjfcaaGreatDoor
open Go.RowKit Go.Shelf
namespace Ci
open Nt

theorem own_slice {w : World} {base m : Nat} {e : TypeId} {v : Value} {xs : List Value} (h : w.ownsRow base e 1 v (m + 1) xs) : ∃ g cap, v = .slice (some ⟨g, 0, none⟩) (m + 1) cap := by
  rcases h.2 with ⟨_, h0⟩ | ⟨g, cap, _, rfl, _⟩
  · omega
  · exact ⟨g, cap, rfl⟩
/-- What was turned ahead of link j of party i. -/
def TurnI (n i j : Nat) (adj T : Nat → List Nat) : Prop := (∀ q x, q < n → (x ∈ T q ↔ (x < i ∧ q ∈ adj x) ∨ (x = i ∧ q ∈ (adj i).take j))) ∧ ∀ q, (T q).length ≤ 1000 * i + j
theorem TurnI.next {n i : Nat} {adj T : Nat → List Nat} (h : TurnI n i (adj i).length adj T) (hl : (adj i).length ≤ 1000) : TurnI n (i + 1) 0 adj T := by
  refine ⟨fun q x hq => ?_, fun q => by have := h.2 q; omega⟩
  rw [h.1 q x hq, List.take_length]
  constructor
  · rintro (⟨a, b⟩ | ⟨rfl, b⟩)
    · exact .inl ⟨by omega, b⟩
    · exact .inl ⟨by omega, b⟩
  · rintro (⟨a, b⟩ | ⟨_, b⟩)
    · by_cases e : x = i
      · subst e; exact .inr ⟨rfl, b⟩
      · exact .inl ⟨by omega, b⟩
    · simp at b
theorem TurnI.step {n i j : Nat} {adj T : Nat → List Nat} (h : TurnI n i j adj T) (hj : j < (adj i).length) : TurnI n i (j + 1) adj (setL T (adj i)[j] i) := by
  refine ⟨fun q x hq => ?_, fun q => ?_⟩
  · unfold setL
    rw [List.take_succ_eq_append_getElem hj]
    by_cases e : q = (adj i)[j]
    · rw [if_pos e, List.mem_append, h.1 q x hq, List.mem_append, List.mem_singleton, List.mem_singleton]
      constructor
      · rintro ((a | ⟨a, b⟩) | a)
        · exact .inl a
        · exact .inr ⟨a, .inl b⟩
        · exact .inr ⟨a, .inr e⟩
      · rintro (a | ⟨a, b | _⟩)
        · exact .inl (.inl a)
        · exact .inl (.inr ⟨a, b⟩)
        · exact .inr a
    · rw [if_neg e, h.1 q x hq, List.mem_append, List.mem_singleton]
      constructor
      · rintro (a | ⟨a, b⟩)
        · exact .inl a
        · exact .inr ⟨a, .inl b⟩
      · rintro (a | ⟨a, b | b⟩)
        · exact .inl a
        · exact .inr ⟨a, b⟩
        · exact absurd b e
  · unfold setL
    have := h.2 q
    split
    · rw [List.length_append, List.length_singleton]; omega
    · omega

end Ci
end Go.Proofs.YtmekiidknjjfcaaGreatDoor

namespace Go.Proofs.YtmekiidknjjfcaaGreatDoor
open Go.RowKit Go.Shelf
namespace Ci
open Nt

/-- All blocks but some are as before. -/
structure Kp (xs : List Nat) (w w' : World) : Prop where
  os : w'.os = w.os
  tape : w'.tape = w.tape
  output : w'.output = w.output
  size : w.heap.size ≤ w'.heap.size
  block : ∀ k, k < w.heap.size → k ∉ xs → w'.heap[k]? = w.heap[k]?
section
variable {xs : List Nat} {w w' w'' : World} {B R n i b c mb : Nat} {v : Nat → Value} {adj ls : Nat → List Nat} {α : Type} {P : Program} {k : TypeId} {κ : α → Lit} {f : α → Option Value} {t : TypeId} {cs : List Value}
theorem Kp.refl (xs : List Nat) (w : World) : Kp xs w w := ⟨rfl, rfl, rfl, Nat.le_refl _, fun _ _ _ => rfl⟩
theorem Kp.below (h : Kp xs w w') (hb : Below w'.heap.size w' w'') : Kp xs w w'' :=
  ⟨hb.os.trans h.os, hb.tape.trans h.tape, hb.output.trans h.output, Nat.le_trans h.size hb.size, fun k hk hx => (hb.block k (Nat.lt_of_lt_of_le hk h.size)).trans (h.block k hk hx)⟩
theorem Kp.alloc (h : Kp xs w w') (o : Obj) : Kp xs w (w'.alloc o) := h.below ((Below.refl _ w').alloc (Nat.le_refl _) o)
theorem Kp.drew (h : Kp xs w w') : Kp xs w w'.drew := h.below (Below.refl _ w').drew
theorem Kp.grown {row : Option Nat} (h : Kp xs w w') (hg : w'.grownBy w'' row) (hr : ∀ b, row = some b → b ∈ xs ∨ w.heap.size ≤ b) : Kp xs w w'' :=
  ⟨hg.os.trans h.os, hg.tape.trans h.tape, hg.output.trans h.output, Nat.le_trans h.size hg.size, fun k hk hx => (hg.block k (Nat.lt_of_lt_of_le hk h.size) (fun e => by
    rcases hr k e.symm with h1 | h1
    · exact hx h1
    · omega)).trans (h.block k hk hx)⟩
theorem grown_set (w : World) (a : Addr) (u : Value) : w.grownBy (w.setCell a u) (some a.block) := ⟨rfl, rfl, rfl, by simp, fun k _ hk => Below.heap_setCell _ _ _ _ (fun e => hk (by rw [e]))⟩
theorem grown_alloc (w : World) (o : Obj) (row : Option Nat) : w.grownBy (w.alloc o) row := ⟨rfl, rfl, rfl, by simp, fun k hk _ => heap_alloc_old w o hk⟩
theorem Kp.set (h : Kp xs w w') {a : Addr} (u : Value) (ha : a.block ∈ xs ∨ w.heap.size ≤ a.block) : Kp xs w (w'.setCell a u) := h.grown (grown_set w' a u) fun b e => by cases e; exact ha
theorem Kp.to_below (h : Kp xs w w') {w0 : World} (h0 : Below w0.heap.size w0 w) (hx : ∀ x, x ∈ xs → w0.heap.size ≤ x) : Below w0.heap.size w0 w' :=
  h0.trans ⟨h.os, h.tape, h.output, h.size, fun k hk => h.block k (Nat.lt_of_lt_of_le hk h0.size) fun e => by have := hx k e; omega⟩
theorem Kp.heap (h : Kp xs w w') (hb : b < w.heap.size) (hx : b ∉ xs) : w'.heap[b]? = w.heap[b]? := h.block b hb hx
theorem Gr.of_block (h : Gr w B R n v adj) (hs : w.heap.size ≤ w'.heap.size) (hR : w'.heap[R]? = w.heap[R]?) (hv : ∀ i b, i < n → (v i).ownBlock = some b → w'.heap[b]? = w.heap[b]?) : Gr w' B R n v adj :=
  ⟨Nat.lt_of_lt_of_le h.lt hs, fun i hi => (World.cell?_of_block (a := ⟨R, i, none⟩) hR).trans (h.hd i hi), fun i => (World.frozen?_of_block (a := ⟨R, i, none⟩) hR).trans (h.fr i), fun i hi => by
    obtain ⟨h1, h2⟩ := h.rows i hi
    refine ⟨h1, ?_⟩
    rcases h2 with h2 | ⟨g, cap, cur, hv2, hg, hh, rest⟩
    · exact .inl h2
    · exact .inr ⟨g, cap, cur, hv2, hg, (hv i g hi (by rw [hv2]; rfl)).trans hh, rest⟩, h.apart, h.ne, h.lowR⟩
theorem Gr.kp (h : Gr w B R n v adj) (hk : Kp xs w w') (hR : R ∉ xs) (hv : ∀ i b, i < n → (v i).ownBlock = some b → b ∉ xs) : Gr w' B R n v adj :=
  h.of_block hk.size (hk.block R h.lt hR) fun i b hi e => hk.block b ((h.rows i hi).lt b e).2 (hv i b hi e)
theorem MapK.kp (h : MapK P k κ w b c f) (hk : Kp xs w w') (hb : b ∉ xs) : MapK P k κ w' b c f := h.block (hk.block b h.lt hb)
theorem Bk.kp (h : Bk w b t cs) (hk : Kp xs w w') (hb : b ∉ xs) : Bk w' b t cs := by
  have e := hk.block b h.lt hb
  exact (show w'.heap[b]? = _ from e.trans h)

/-! ### A map of slices of ints -/
structure LM (w : World) (B mb n c : Nat) (v : Nat → Value) (ls : Nat → List Nat) : Prop where
  map : ∃ f : Int → Option Value, MapK Tryz.prog 3 κi w mb c f ∧ ∀ x : Nat, x < n → f (x : Int) = if ls x = [] then none else some (v x)
  nil : ∀ x, x < n → ls x = [] → v x = .slice none 0 0
  rows : ∀ x, x < n → w.ownsRow B 3 1 (v x) (ls x).length (intsL (ls x))
  apart : ∀ i j, i < n → j < n → i ≠ j → OffB (v i) (v j)
  ne : ∀ x, x < n → (v x).ownBlock ≠ some mb
theorem LM.lt (h : LM w B mb n c v ls) : mb < w.heap.size := by obtain ⟨f, h, _⟩ := h.map; exact h.lt
theorem LM.grown {row : Option Nat} (h : LM w B mb n c v ls) (hg : w.grownBy w' row) (hm : row ≠ some mb) (hv : ∀ x b, x < n → (v x).ownBlock = some b → row ≠ some b) : LM w' B mb n c v ls := by
  obtain ⟨f, h1, h2⟩ := h.map
  refine ⟨⟨f, h1.kept hg fun e => hm e.symm, h2⟩, h.nil, fun x hx => (h.rows x hx).kept hg ?_, h.apart, h.ne⟩
  cases hu : (v x).ownBlock with
  | none => exact .inl rfl
  | some b => exact .inr fun e => hv x b hx hu e.symm
theorem LM.set (h : LM w B mb n c v ls) {a : Addr} (u : Value) (hm : a.block ≠ mb) (hv : ∀ x, x < n → (v x).ownBlock ≠ some a.block) : LM (w.setCell a u) B mb n c v ls :=
  h.grown (grown_set w a u) (fun e => hm (Option.some.inj e)) fun x b hx e e2 => hv x hx (by rw [e, e2])
theorem LM.alloc (h : LM w B mb n c v ls) (o : Obj) : LM (w.alloc o) B mb n c v ls := h.grown (grown_alloc w o none) (by simp) fun _ _ _ _ => by simp
theorem LM.drew (h : LM w B mb n c v ls) : LM w.drew B mb n c v ls := ⟨h.map, h.nil, h.rows, h.apart, h.ne⟩
theorem LM.below (h : LM w B mb n c v ls) (hb : Below w.heap.size w w') : LM w' B mb n c v ls :=
  h.grown (row := none) ⟨hb.os, hb.tape, hb.output, hb.size, fun k hk _ => hb.block k hk⟩ (by simp) fun _ _ _ _ => by simp
theorem LM.made (w : World) (B n : Nat) : LM (w.alloc (.map #[] 0)) B w.heap.size n 0 (fun _ => .slice none 0 0) fun _ => [] :=
  ⟨⟨_, MapK.made w _ _ _, fun _ _ => (if_pos rfl).symm⟩, fun _ _ _ => rfl, fun _ _ => World.ownsRow_nil _ _ _ _, fun _ _ _ _ _ _ hb => (by cases hb), fun _ _ h => (by cases h)⟩
theorem zeroSl (w : World) : (zeroValue 26).run Tryz.prog w = .ok (.slice none 0 0) w := by kernel_rfl
theorem own_form {W : World} {base n : Nat} {e : TypeId} {u : Value} {xs : List Value} (h : W.ownsRow base e 1 u n xs) : ∃ A cap, u = .slice A n cap := by
  rcases h.2 with ⟨rfl, rfl⟩ | ⟨g, cap, _, rfl, _⟩
  · exact ⟨none, 0, rfl⟩
  · exact ⟨_, cap, rfl⟩
theorem own_kp {xs : List Nat} {base m : Nat} {e : TypeId} {u : Value} {l : List Value} {w : World} (h : w.ownsRow base e 1 u m l) (hk : Kp xs w w') (hb : ∀ b, u.ownBlock = some b → b ∉ xs) : w'.ownsRow base e 1 u m l := by
  obtain ⟨h1, h2⟩ := h
  refine ⟨h1, ?_⟩
  rcases h2 with h2 | ⟨g, cap, cur, hv, hg, hh, rest⟩
  · exact .inl h2
  · exact .inr ⟨g, cap, cur, hv, hg, (hk.block g (Array.getElem?_eq_some_iff.1 hh).1 (hb g (by rw [hv]; rfl))).trans hh, rest⟩
/-! ### A row of numbers -/
/-- Block b has n numbers. -/
structure RoI (w : World) (b n : Nat) (o : Nat → Int) : Prop where
  lt : b < w.heap.size
  cell : ∀ x, x < n → w.cell? ⟨b, x, none⟩ = some (.int .i64 (o x))
  fr : ∀ x, w.frozen? ⟨b, x, none⟩ = false
theorem RoI.of_block {o : Nat → Int} (h : RoI w b n o) (hs : w.heap.size ≤ w'.heap.size) (hb : w'.heap[b]? = w.heap[b]?) : RoI w' b n o :=
  ⟨Nat.lt_of_lt_of_le h.lt hs, fun x hx => (World.cell?_of_block (a := ⟨b, x, none⟩) hb).trans (h.cell x hx), fun x => (World.frozen?_of_block (a := ⟨b, x, none⟩) hb).trans (h.fr x)⟩
theorem RoI.below {o : Nat → Int} (h : RoI w b n o) (hb : Below w.heap.size w w') : RoI w' b n o := h.of_block hb.size (hb.block b h.lt)
theorem RoI.grown {o : Nat → Int} {row : Option Nat} (h : RoI w b n o) (hg : w.grownBy w' row) (hr : row ≠ some b) : RoI w' b n o := h.of_block hg.size (hg.block b h.lt fun e => hr e.symm)
theorem RoI.alloc {o : Nat → Int} (h : RoI w b n o) (x : Obj) : RoI (w.alloc x) b n o := h.below ((Below.refl _ w).alloc (Nat.le_refl _) x)
theorem RoI.set {o : Nat → Int} (h : RoI w b n o) {x : Nat} (hx : x < n) (r : Int) : RoI (w.setCell ⟨b, x, none⟩ (.int .i64 r)) b n (setI o x r) := by
  refine ⟨by simpa using h.lt, fun y hy => ?_, fun y => by simpa using h.fr y⟩
  by_cases e : y = x
  · subst e
    rw [setI_same]
    exact World.cell?_setCell_same _ _ _ (h.cell y hy)
  · rw [setI_other e, World.cell?_setCell_other _ _ _ _ (fun c => by injection c with _ c2; first | exact e c2 | exact e c2.symm)]
    exact h.cell y hy
theorem RoI.made (w : World) (n : Nat) (t : TypeId) : RoI (w.alloc (.cells (madeCells #[.int .i64 0] n) t)) w.heap.size n fun _ => 0 := by
  have h := heap_alloc_new w (.cells (madeCells #[(.int .i64 0 : Value)] n) t)
  refine ⟨by simp, fun x hx => ?_, fun x => by simp only [World.frozen?, h]; simp⟩
  simp only [World.cell?, h]
  simp [madeCells, hx]
  rw [Nat.mod_one]
  rfl
theorem RoI.of_row {r : Int} {t : TypeId} (h : w.heap[b]? = some (.cells (List.replicate n (.int .i64 r)).toArray t (0, 0))) : RoI w b n fun _ => r := by
  refine ⟨(Array.getElem?_eq_some_iff.1 h).1, fun x hx => ?_, fun x => by simp [World.frozen?, h]⟩
  simp [World.cell?, h, hx]
theorem RoI.congr {o o' : Nat → Int} (h : RoI w b n o) (e : ∀ x, x < n → o x = o' x) : RoI w b n o' := ⟨h.lt, fun x hx => by rw [← e x hx]; exact h.cell x hx, h.fr⟩
theorem RoI.inInt {o : Nat → Int} (h : RoI w b n o) : InInt w (some ⟨b, 0, none⟩) ((List.range n).map o) := fun _ => ⟨b, 0, rfl, h.lt, fun j hj => by
  have hj2 : j < n := by simpa using hj
  rw [Nat.zero_add, h.cell j hj2]
  simp⟩
end
end Ci
end Go.Proofs.YtmekiidknjjfcaaGreatDoor

namespace Go.Proofs.YtmekiidknjjfcaaGreatDoor
open Go.RowKit Go.Shelf
namespace Ci

/-- The slice reads as l; what lies behind it up to its capacity is the call's own. -/
def QIn (w : World) (B : Nat) (v : Value) (l : List Nat) : Prop :=
  (∃ A, v = .slice A 0 0 ∧ l = [] ∧ ∀ b, v.ownBlock = some b → B ≤ b ∧ b < w.heap.size) ∨
  ∃ g o cap, v = .slice (some ⟨g, o, none⟩) l.length cap ∧ B ≤ g ∧ g < w.heap.size ∧ l.length ≤ cap ∧ (∀ j, j < cap → (w.cell? ⟨g, o + j, none⟩).isSome = true) ∧ (∀ j, w.frozen? ⟨g, j, none⟩ = false) ∧ ∀ j (h : j < l.length), w.cell? ⟨g, o + j, none⟩ = some (.int .i64 (l[j] : Int))
section
variable {w w' : World} {B : Nat} {v : Value} {l : List Nat} {q : Nat}
theorem QIn.block (h : QIn w B v l) {b : Nat} (hb : v.ownBlock = some b) : B ≤ b ∧ b < w.heap.size := by
  rcases h with ⟨A, rfl, _, h⟩ | ⟨g, o, cap, rfl, h1, h2, _⟩
  · exact h b hb
  · cases hb; exact ⟨h1, h2⟩
/-- Another block turns, and new ones come. -/
theorem QIn.grown {row : Option Nat} (h : QIn w B v l) (hg : w.grownBy w' row) (hne : v.ownBlock = none ∨ v.ownBlock ≠ row) : QIn w' B v l := by
  rcases h with ⟨A, rfl, h1, h2⟩ | ⟨g, o, cap, rfl, h1, h2, h3, h4, h5, h6⟩
  · exact .inl ⟨A, rfl, h1, fun b hb => ⟨(h2 b hb).1, Nat.lt_of_lt_of_le (h2 b hb).2 hg.size⟩⟩
  · have hb : w'.heap[g]? = w.heap[g]? := hg.block g h2 fun e => by
      rcases hne with hne | hne
      · cases hne
      · exact hne e
    refine .inr ⟨g, o, cap, rfl, h1, Nat.lt_of_lt_of_le h2 hg.size, h3, fun j hj => ?_, fun j => ?_, fun j hj => ?_⟩
    · rw [World.cell?_of_block (a := ⟨g, o + j, none⟩) hb]; exact h4 j hj
    · rw [World.frozen?_of_block (a := ⟨g, j, none⟩) hb]; exact h5 j
    · rw [World.cell?_of_block (a := ⟨g, o + j, none⟩) hb]; exact h6 j hj
theorem QIn.set (h : QIn w B v l) {a : Addr} (ha : v.ownBlock ≠ some a.block) (u : Value) : QIn (w.setCell a u) B v l :=
  h.grown (row := some a.block) ⟨rfl, rfl, rfl, by simp, fun k _ hk => Below.heap_setCell _ _ _ _ (fun e => hk (by rw [e]))⟩ (.inr ha)
theorem QIn.alloc (h : QIn w B v l) (o : Obj) : QIn (w.alloc o) B v l :=
  h.grown (row := none) ⟨rfl, rfl, rfl, by simp, fun k hk _ => heap_alloc_old w o hk⟩ (by cases hq : v.ownBlock <;> simp)
theorem QIn.drew (h : QIn w B v l) : QIn w.drew B v l := h
/-- The first one is taken out. -/
theorem QIn.head {p : Nat} (h : QIn w B v (p :: l)) : ∃ g o cap, v = .slice (some ⟨g, o, none⟩) (l.length + 1) cap ∧ B ≤ g ∧ g < w.heap.size ∧ l.length + 1 ≤ cap ∧ w.cell? ⟨g, o, none⟩ = some (.int .i64 (p : Int)) ∧
    QIn w B (.slice (some (if cap = 1 then ⟨g, o, none⟩ else ⟨g, o + 1, none⟩)) l.length (cap - 1)) l := by
  rcases h with ⟨A, _, h1, _⟩ | ⟨g, o, cap, rfl, h1, h2, h3, h4, h5, h6⟩
  · cases h1
  · refine ⟨g, o, cap, rfl, h1, h2, h3, by have := h6 0 (by simp); simpa using this, ?_⟩
    simp only [List.length_cons] at h3
    by_cases e : cap = 1
    · rw [if_pos e]
      have hl : l = [] := List.length_eq_zero_iff.1 (by omega)
      subst hl
      subst e
      exact .inl ⟨_, rfl, rfl, fun b hb => by cases hb; exact ⟨h1, h2⟩⟩
    · rw [if_neg e]
      refine .inr ⟨g, o + 1, cap - 1, rfl, h1, h2, by omega, fun j hj => ?_, h5, fun j hj => ?_⟩
      · have := h4 (j + 1) (by omega)
        rwa [show o + 1 + j = o + (j + 1) by omega]
      · have := h6 (j + 1) (by simp; omega)
        rw [show o + 1 + j = o + (j + 1) by omega]
        simpa using this
/-- A row of the call's own is a queue. -/
theorem QIn.of_row {e : TypeId} {u : Value} (h : w.ownsRow B e 1 u l.length (l.map fun (q : Nat) => .int .i64 (q : Int))) : QIn w B u l := by
  rcases h.2 with ⟨rfl, h0⟩ | ⟨g, cap, cur, rfl, hb, hg, h1, _, h3, _⟩
  · exact .inl ⟨none, rfl, List.length_eq_zero_iff.1 h0, fun b hb => by cases hb⟩
  · have hadd : ∀ o, (⟨g, 0, none⟩ : Addr).add o = ⟨g, 0 + o, none⟩ := fun o => by unfold Addr.add; split <;> simp_all
    refine .inr ⟨g, 0, cap, rfl, hb, (Array.getElem?_eq_some_iff.1 hg).1, h1, fun j hj => ?_, fun j => by simp [World.frozen?, hg], fun j hj => ?_⟩
    · simp only [World.cell?, hg]
      have : 0 + j < cur.size := by omega
      simp at this
      simp [this]
    · have hc := h.cells (g := g) (by simp [Value.ownBlock]) j (.int .i64 (l[j] : Int)) (by simp [hj])
      rwa [hadd] at hc
theorem QIn.mono {B' : Nat} (h : QIn w B v l) (hb : B' ≤ B) : QIn w B' v l := by
  rcases h with ⟨A, rfl, h1, h2⟩ | ⟨g, o, cap, rfl, h1, h2⟩
  · exact .inl ⟨A, rfl, h1, fun b e => ⟨Nat.le_trans hb (h2 b e).1, (h2 b e).2⟩⟩
  · exact .inr ⟨g, o, cap, rfl, Nat.le_trans hb h1, h2⟩
theorem run_append_queue {P : Program} (t ty e : TypeId) (i : TypeInfo) (z : Value) (bytes : Nat) (ht : P.underlying t = some (.slice e)) (hi : P.info? e = some i) (hz : i.zero = some z)
    (hsize : i.size = 1) (hby : i.bytes = bytes) (hzs : z.cells.size = 1) (h : QIn w B v l) (hB : B ≤ w.heap.size) (ad : Addr) (c : Nat) (had : w.cell? ad = some (.int .i64 (q : Int)))
    (hb : (l.length + 1) * bytes ≤ 140737488355328) (hm : l.length + 1 ≤ maxLen) :
    ∃ v' w', (Builtin.append_ #[t, t] ty #[v, .slice (some ad) 1 c]).run P w = .ok v' w' ∧ QIn w' B v' (l ++ [q]) ∧ w.grownBy w' v.ownBlock ∧ (v'.ownBlock = v.ownBlock ∨ v'.ownBlock = some w.heap.size) := by
  have hnews : ∀ j u, [(Value.int .i64 (q : Int))][j]? = some u → w.cell? (ad.add j) = some u := fun j u hj => by
    match j, hj with
    | 0, hj => simp at hj; subst hj; rw [Addr.add_zero']; exact had
    | j + 1, hj => simp at hj
  have h1 : ∀ u ∈ [(Value.int .i64 (q : Int))], u.oneCell' = true := one_cell1 _ rfl
  have hmap : (l ++ [q]).map (fun (x : Nat) => Value.int .i64 (x : Int)) = l.map (fun (x : Nat) => Value.int .i64 (x : Int)) ++ [.int .i64 (q : Int)] := by simp
  have fin : ∀ {v' : Value} {w' : World}, w'.ownsRow w.heap.size e 1 v' (l.length + 1) (l.map (fun (x : Nat) => Value.int .i64 (x : Int)) ++ [.int .i64 (q : Int)]) → w.grownBy w' none → (v'.ownBlock = none ∨ v'.ownBlock = some w.heap.size) → QIn w' B v' (l ++ [q]) ∧ w.grownBy w' v.ownBlock ∧ (v'.ownBlock = v.ownBlock ∨ v'.ownBlock = some w.heap.size) := fun {v' w'} ho hg hn => by
    refine ⟨(QIn.of_row (e := e) (by rw [hmap, List.length_append]; exact ho)).mono hB, ⟨hg.os, hg.tape, hg.output, hg.size, fun k hk _ => hg.block k hk (by simp)⟩, ?_⟩
    rcases hn with hn | hn
    · rcases ho.2 with ⟨_, h0⟩ | ⟨g, cap, cur, rfl, _⟩
      · omega
      · cases hn
    · exact .inr hn
  rcases h with ⟨A, rfl, rfl, hA⟩ | ⟨g, o, cap, rfl, hg1, hg2, h3, h4, h5, h6⟩
  · cases A with
    | none =>
      obtain ⟨v', w', hr, h2, h3, _⟩ := run_append_own (P := P) w B t ty e i z 1 bytes ht hi hz hsize hby hzs (by decide) (.slice none 0 0) 0 [] (World.ownsRow_nil _ _ _ _) ad 1 c [.int .i64 (q : Int)] (by simp) hnews h1 (by simpa using hm) (by simpa using hb) hB
      have h5 := run_append_at (P := P) t ty e i z 1 bytes ht hi hz hsize hby (.slice none 0 0) 0 [] (World.ownsRow_nil w B _ _) ad 1 c [.int .i64 (q : Int)] (by simp) hnews h1 (by decide) (by simpa using hm) (by simpa using hb) hr
      refine ⟨v', w', hr, QIn.of_row (e := e) (by simpa using h2), h3, h5⟩
    | some b =>
      obtain ⟨b1, b2⟩ := hA b.block rfl
      obtain ⟨v', w', hr, r1, r2⟩ := run_append_arg_grows (P := P) w t ty e i z 1 bytes ht hi hz hsize hby hzs (by decide) b 0 0 [] rfl (fun j u hj => by simp at hj) ad 1 c [.int .i64 (q : Int)] (by simp) hnews (by decide) (by simpa using hm) (by simpa using hb)
      refine ⟨v', w', hr, fin (by simpa using r1) r2 ?_⟩
      rcases r1.2 with ⟨_, h0⟩ | ⟨g, cap, cur, rfl, hgg, hgc, _⟩
      · cases h0
      · have hr2 := run_append_grow (P := P) w t ty e i z ht hi hz b 0 0 [] (by simp) (fun j u hj => by simp at hj) ad 1 c [.int .i64 (q : Int)] (by rw [hsize]; simp) hnews (by decide) (by decide) (growslice_fits (by decide) (by rw [hby]; simpa using hb))
        rw [hr2] at hr
        simp only [Result.ok.injEq] at hr
        rw [← hr.1]
        exact .inr rfl
  · by_cases hroom : l.length + 1 ≤ cap
    · have hr := run_append_room_cells (P := P) w t ty e i ht hi g o l.length cap ad 1 c [.int .i64 (q : Int)] (by rw [hsize]; simp) hnews h1 hroom
        (fun j hj => by simp only [List.length_singleton] at hj; rw [hsize]; have := h4 (l.length + j) (by omega); rwa [show o + l.length * 1 + j = o + (l.length + j) by omega]) (fun j _ => h5 _)
      rw [hsize] at hr
      have hsame : ∀ j, j < cap → j ≠ l.length → (w.setCell ⟨g, o + l.length * 1, none⟩ (.int .i64 (q : Int))).cell? ⟨g, o + j, none⟩ = w.cell? ⟨g, o + j, none⟩ := fun j _ hne =>
        World.cell?_setCell_other _ _ _ _ (fun e => by injection e with _ e2; omega)
      have hlast : (w.setCell ⟨g, o + l.length * 1, none⟩ (.int .i64 (q : Int))).cell? ⟨g, o + l.length, none⟩ = some (.int .i64 (q : Int)) := by
        have h7 := h4 l.length (by omega)
        obtain ⟨u, hu⟩ := Option.isSome_iff_exists.1 h7
        rw [Nat.mul_one]
        exact World.cell?_setCell_same _ _ _ hu
      refine ⟨_, _, hr, .inr ⟨g, o, cap, by simp, hg1, by simpa [World.setCells] using hg2, by simpa using hroom, fun j hj => ?_, fun j => ?_, fun j hj => ?_⟩, ?_, .inl rfl⟩
      · by_cases e : j = l.length
        · subst e
          show ((w.setCell _ _).cell? _).isSome = true
          rw [hlast]; rfl
        · show ((w.setCell _ _).cell? _).isSome = true
          rw [hsame j hj e]; exact h4 j hj
      · show (w.setCell _ _).frozen? _ = false
        rw [World.frozen?_setCell]; exact h5 j
      · by_cases e : j = l.length
        · subst e
          show (w.setCell _ _).cell? _ = _
          rw [hlast]; simp
        · have hj2 : j < l.length := by simp at hj; omega
          show (w.setCell _ _).cell? _ = _
          rw [hsame j (by omega) e, h6 j hj2]
          simp [hj2]
      · exact ⟨rfl, rfl, rfl, by simp [World.setCells], fun k _ hk => Below.heap_setCell _ _ _ _ (fun e => hk (by rw [e]; rfl))⟩
    · have holds : ∀ j u, (l.map fun (x : Nat) => Value.int .i64 (x : Int))[j]? = some u → w.cell? ((⟨g, o, none⟩ : Addr).add j) = some u := fun j u hj => by
        obtain ⟨hj2, e⟩ := List.getElem?_eq_some_iff.1 hj
        rw [Addr.add_lit, h6 j (by simpa using hj2), ← e]
        simp
      obtain ⟨v', w', hr, r1, r2⟩ := run_append_arg_grows (P := P) w t ty e i z 1 bytes ht hi hz hsize hby hzs (by decide) ⟨g, o, none⟩ l.length cap (l.map fun (x : Nat) => Value.int .i64 (x : Int)) (by simp) holds ad 1 c [.int .i64 (q : Int)] (by simp) hnews (by omega) hm hb
      refine ⟨v', w', hr, fin r1 r2 ?_⟩
      have hr2 := run_append_grow (P := P) w t ty e i z ht hi hz ⟨g, o, none⟩ l.length cap (l.map fun (x : Nat) => Value.int .i64 (x : Int)) (by rw [hsize]; simp) holds ad 1 c [.int .i64 (q : Int)] (by rw [hsize]; simp) hnews (by omega) (by simp only [maxLen] at hm; omega) (growslice_fits (by omega) (by rw [hby]; exact hb))
      rw [hr2] at hr
      simp only [Result.ok.injEq] at hr
      rw [← hr.1]
      exact .inr rfl
end
/-- The slice of a queue, written out. -/
theorem QIn.form {w : World} {B : Nat} {v : Value} {l : List Nat} (h : QIn w B v l) : ∃ A c, v = .slice A l.length c := by
  rcases h with ⟨A, rfl, rfl, _⟩ | ⟨g, o, cap, rfl, _⟩
  · exact ⟨A, 0, rfl⟩
  · exact ⟨_, _, rfl⟩
/-- append on a queue, at the operation. -/
theorem wpList_append_queue {P : Program} (w : World) {ops : Array Oper} {rest : List Oper} {o : Oper} {a : Act} {Q : Exit → Act → World → Prop} (hgd : o.guard = none) (s x : Operand) (t : TypeId)
    (ho : o.op = .call { callee := .builtin .append, args := #[s, x], argTypes := #[t, t] })
    (B : Nat) (e : TypeId) (i : TypeInfo) (z : Value) (bytes : Nat) (ht : P.underlying t = some (.slice e)) (hi : P.info? e = some i) (hz : i.zero = some z)
    (hsize : i.size = 1) (hby : i.bytes = bytes) (hzs : z.cells.size = 1)
    (v : Value) (l : List Nat) (q : Nat) (hs : a.eval s = v) (h : QIn w B v l) (hB : B ≤ w.heap.size) (ad : Addr) (c : Nat) (hx : a.eval x = .slice (some ad) 1 c) (had : w.cell? ad = some (.int .i64 (q : Int)))
    (hb : (l.length + 1) * bytes ≤ 140737488355328) (hm : l.length + 1 ≤ maxLen)
    (hK : ∀ v' w', QIn w' B v' (l ++ [q]) → w.grownBy w' v.ownBlock → (v'.ownBlock = v.ownBlock ∨ v'.ownBlock = some w.heap.size) → wpList P ops Q rest (a.put o.dst v') w') : wpList P ops Q (o :: rest) a w :=
  wpList_plain hgd fun _ hK2 => by
    obtain ⟨v', w', hr, h2, h3, h4⟩ := run_append_queue (P := P) t o.type e i z bytes ht hi hz hsize hby hzs h hB ad c had hb hm
    unfold Oper.wp execOp
    simp only [ho, resolve, invoke, builtin, Sem.run_bind, Sem.run_pure, Result.andThen_ok, List.map_toArray, List.map_cons, List.map_nil, hs, hx, hr]
    exact hK2 _ _ (hK v' w' h2 h3 h4)
end Ci
end Go.Proofs.YtmekiidknjjfcaaGreatDoor

namespace Go.Proofs.YtmekiidknjjfcaaGreatDoor
open Go.RowKit Go.Shelf
namespace Ci
open Nt

/-- A row of n cells, the first m of which are -1. -/
def mixed (n m : Nat) : List Value := List.replicate m (.int .i64 (-1)) ++ List.replicate (n - m) (.int .i64 0)
theorem mixed_zero (n : Nat) : mixed n 0 = List.replicate n (.int .i64 0) := by simp [mixed]
theorem mixed_all (n : Nat) : mixed n n = List.replicate n (.int .i64 (-1)) := by simp [mixed]
theorem mixed_len {n m : Nat} (h : m ≤ n) : (mixed n m).length = n := by simp [mixed]; omega
theorem mixed_at {n m j : Nat} (h : j < m) : (mixed n m)[j]? = some (.int .i64 (-1)) := by
  unfold mixed
  rw [List.getElem?_append_left (by simpa using h), List.getElem?_replicate, if_pos h]
theorem mixed_splice {n m c : Nat} (h : m + c ≤ n) : splice (mixed n m) m (List.replicate c (.int .i64 (-1))) = mixed n (m + c) := by
  unfold splice mixed
  rw [List.take_left' (by simp), List.length_replicate, List.drop_append, List.drop_eq_nil_of_le (by simp), List.nil_append, List.length_replicate, List.drop_replicate, ← List.append_assoc, List.replicate_append_replicate, show n - m - (m + c - m) = n - (m + c) by omega]
theorem made_mixed (n : Nat) : madeCells #[(.int .i64 0 : Value)] n = (mixed n 0).toArray := by
  rw [mixed_zero]
  unfold madeCells
  apply Array.ext
  · simp
  · intro i h1 h2
    simp
    rw [Nat.mod_one]
    rfl
theorem infoIr : (Tryz.prog.info? 3).map (fun i => (i.zero, i.size, i.bytes)) = some (some (.int .i64 0), 1, 8) := by kernel_rfl
theorem infoI1 : (Tryz.prog.info? 3).map (·.size) = some 1 := by kernel_rfl

set_option maxRecDepth 100000 in
set_option maxHeartbeats 4000000 in
theorem Repeat_any (n b : Nat) (w : World) (hn : n ≤ 1000) (hb : w.cell? ⟨b, 0, none⟩ = some (.int .i64 (-1))) (hbl : b < w.heap.size) :
    Calls Tryz.prog 46 #[.slice (some ⟨b, 0, none⟩) 1 1, .int .i64 (n : Int)] w fun e w' => (e = .returned (.slice (some ⟨w.heap.size, 0, none⟩) n n) ∧ w'.heap[w.heap.size]? = some (.cells (List.replicate n (.int .i64 (-1))).toArray 3 (0, 0))) ∧ Below w.heap.size w w' := by
  have kb : Hid (∀ W, Calls Tryz.prog 63 #[.int .u64 1, .int .u64 (n : Int)] W fun e w' => e = .returned (.tuple #[.int .u64 0, .int .u64 (n : Int)]) ∧ w' = W) := fun W => by
    have h := Tryz.bits_Mul 1 n (by decide) (by omega) W
    have h1 : (1 * n / 18446744073709551616 : Nat) = 0 := by omega
    have h2 : (1 * n % 18446744073709551616 : Nat) = n := by omega
    rw [h1, h2] at h
    exact h
  have hmk := run_make_row' (P := Tryz.prog) 26 3 (.int .i64 0) 8 Tryz.underlying26 infoIr rfl .i64 .i64 n (by omega) (by omega)
  have hg0 : Hid ((w.alloc (.cells (madeCells #[(.int .i64 0 : Value)] n) 3)).heap[w.heap.size]? = some (.cells (mixed n 0).toArray 3 (0, 0))) := by
    have h := heap_alloc_new w (.cells (madeCells #[(.int .i64 0 : Value)] n) 3)
    unfold Hid
    rw [h, made_mixed]
  have hB0 : Hid (Below w.heap.size w (w.alloc (.cells (madeCells #[(.int .i64 0 : Value)] n) 3))) := (Below.refl _ w).alloc (Nat.le_refl _) _
  have hb2 : Hid ((w.alloc (.cells (madeCells #[(.int .i64 0 : Value)] n) 3)).cell? ⟨b, 0, none⟩ = some (.int .i64 (-1))) := (hB0.out.cell (p := ⟨b, 0, none⟩) hbl).trans hb
  have hmin : Hid ((List.replicate (min 1 n) (Value.int .i64 (-1))).length = min 1 n) := List.length_replicate
  have hone : Hid (∀ c, ∀ v ∈ List.replicate c (Value.int .i64 (-1)), v.oneCell' = true) := fun c v hv => by rw [(List.mem_replicate.1 hv).2]; rfl
  have hmix0 : Hid (0 + (List.replicate (min 1 n) (Value.int .i64 (-1))).length ≤ (mixed n 0).length) := by
    unfold Hid
    rw [mixed_len (Nat.zero_le _), List.length_replicate]
    omega
  have hpos : Hid (∀ j v, (List.replicate (min 1 n) (Value.int .i64 (-1)))[j]? = some v → (w.alloc (.cells (madeCells #[(.int .i64 0 : Value)] n) 3)).cell? (Addr.add ⟨b, 0, none⟩ j) = some v) := fun j v hj => by
    rw [List.getElem?_replicate] at hj
    split at hj
    · have h0 : j = 0 := by omega
      subst h0
      rw [Addr.add_zero', ← Option.some.inj hj]
      exact hb2.out
    · cases hj
  have hst : Hid (goInt (List.replicate (min 1 n) (Value.int .i64 (-1))).length = .int .i64 ((min 1 n : Nat) : Int)) := by
    unfold Hid goInt
    rw [List.length_replicate]
  have hsp0 : Hid (splice (mixed n 0) 0 (List.replicate (min 1 n) (Value.int .i64 (-1))) = mixed n (min 1 n)) := by
    have := mixed_splice (n := n) (m := 0) (c := min 1 n) (by omega)
    rwa [Nat.zero_add] at this
  clear hb
  go_enter Tryz.func46, Tryz.ntmps46
  go_wp2_with fail
  refine (kb.out _).mono ?_
  rintro e w2 ⟨rfl, rfl⟩
  go_wp2_with (refine wpList_copy_splice rfl _ _ _ _ rfl 3 Tryz.underlying26 infoI1 _ _ _ _ _ _ rfl rfl w2.heap.size 0 (mixed n 0) 3 hg0.out (List.replicate (min 1 n) (.int .i64 (-1))) hmin.out (fun _ => ⟨rfl, _, rfl, hpos.out⟩) hmix0.out (hone.out _) w2.heap.size w2 hB0.out (Nat.le_refl _) ?_; intro w3 hg3 hb3; rw [hsp0.out] at hg3; rw [hst.out]; replace hb3 := Lib.hid hb3)
  clear hmk hg0 hB0 hb2 hmin hmix0 hpos hst hsp0
  go_loopw [8] (fun m wr => ∃ k : Nat, m = .int .i64 (k : Int) ∧ k ≤ n ∧ (0 < n → 0 < k) ∧ Hid (wr.heap[w2.heap.size]? = some (.cells (mixed n k).toArray 3 (0, 0))) ∧ Hid (Below w2.heap.size w2 wr)) (fun m _ => n - (intOf m).toNat)
  case atStart => exact ⟨min 1 n, rfl, by omega, by omega, hg3, hb3⟩
  case round =>
    obtain ⟨k, rfl, hk, hk0, hg, hB⟩ := hrel
    clear hg3 hb3
    by_cases hlt : k < n
    · have hnk : n ≠ k := by omega
      have hk1 : 0 < k := hk0 (by omega)
      have hmin : Hid ((List.replicate (min k (n - k)) (Value.int .i64 (-1))).length = min k (n - k)) := List.length_replicate
      have hfit : Hid (k + (List.replicate (min k (n - k)) (Value.int .i64 (-1))).length ≤ (mixed n k).length) := by
        unfold Hid
        rw [mixed_len (by omega), List.length_replicate]
        omega
      have hpos : Hid (∀ j v, (List.replicate (min k (n - k)) (Value.int .i64 (-1)))[j]? = some v → wr.cell? (Addr.add ⟨w2.heap.size, 0, none⟩ j) = some v) := fun j v hj => by
        rw [List.getElem?_replicate] at hj
        split at hj
        · rename_i hj2
          rw [Addr.add_lit, ← Option.some.inj hj, Nat.zero_add]
          have h1 : (mixed n k)[j]? = some (.int .i64 (-1)) := mixed_at (by omega)
          have h2 := hg.out
          simp [World.cell?, h2, h1]
        · cases hj
      have hst : Hid (goInt (List.replicate (min k (n - k)) (Value.int .i64 (-1))).length = .int .i64 ((min k (n - k) : Nat) : Int)) := by
        unfold Hid goInt
        rw [List.length_replicate]
      have hsp : Hid (splice (mixed n k) k (List.replicate (min k (n - k)) (Value.int .i64 (-1))) = mixed n (k + min k (n - k))) := mixed_splice (by omega)
      go_wp2
      go_region_law (refine step_copy_splice rfl (.tmp 41) (.tmp 44) 26 26 rfl 3 Tryz.underlying26 infoI1 (some ⟨w2.heap.size, k, none⟩) (some ⟨w2.heap.size, 0, none⟩) (n - k) (n - k) k n (by simp [Act.eval, Act.put]) (by simp [Act.eval, Act.put]) w2.heap.size k (mixed n k) 3 hg.out (List.replicate (min k (n - k)) (.int .i64 (-1))) hmin.out (fun _ => ⟨rfl, _, rfl, hpos.out⟩) hfit.out (hone.out _) w2.heap.size w2 hB.out.drew (Nat.le_refl _) ?_; intro w4 hg4 hb4; rw [hsp.out] at hg4; rw [hst.out]; replace hb4 := Lib.hid hb4)
      clear hmin hfit hpos hst hsp hg hB
      have hwr : IntKind.i64.wrap ((k : Int) + ((min k (n - k) : Nat) : Int)) = ((k + min k (n - k) : Nat) : Int) := by
        rw [IntKind.wrap_i64]; omega
      simp only [hwr]
      dsimp only [Act.put, List.getElem_toArray, List.getElem_cons_succ, List.getElem_cons_zero]
      simp only [List.setIfInBounds_toArray, List.set_cons_succ, List.set_cons_zero]
      go_wp2
      go_roundw
      case rel => exact ⟨k + min k (n - k), by go_num, by omega, by omega, hg4, hb4⟩
      case measure => simp only [intOf]; omega
    · obtain rfl : k = n := by omega
      have hG : Hid (wr.heap[w2.heap.size]? = some (.cells (List.replicate k (.int .i64 (-1))).toArray 3 (0, 0))) := by
        have h := hg.out
        rwa [mixed_all] at h
      go_wp2
      go_ret
      exact ⟨⟨rfl, hG.out⟩, hB.out⟩
end Ci
end Go.Proofs.YtmekiidknjjfcaaGreatDoor

namespace Go.Proofs.YtmekiidknjjfcaaGreatDoor
open Go.RowKit Go.Shelf
namespace Ci
open Nt

theorem blw {B : Nat} {a w : World} (h : Below B a w) (n : Nat) : Below B a (w.drewN n) := ⟨h.os, h.tape, h.output, h.size, h.block⟩
theorem ints_ne {a b : List Int} {k : Nat} (h1 : k < a.length) (h2 : k < b.length) (h : a[k] ≠ b[k]) : decide (a = b) = false := decide_eq_false fun e => h (by simp only [e])
theorem ints_eq {a b : List Int} (hl : a.length = b.length) (h : ∀ k (h1 : k < a.length) (h2 : k < b.length), a[k] = b[k]) : decide (a = b) = true := decide_eq_true (List.ext_getElem hl h)
set_option maxRecDepth 100000 in
set_option maxHeartbeats 4000000 in
theorem Ints_any (A B : Option Addr) (ca cb : Nat) (a b : List Int) (w : World) (hA : InInt w A a) (hB : InInt w B b) (ha : a.length ≤ 140737488355328) :
    Calls Tryz.prog 18 #[.slice A a.length ca, .slice B b.length cb] w fun e w' => e = .returned (.bool (decide (a = b))) ∧ ∃ q, w' = w.drewN q := by
  by_cases hl : a.length = b.length
  · have hN := Lib.hid (fun (k : Nat) (h1 : k < a.length) (h2 : k < b.length) => ints_ne (a := a) (b := b) h1 h2)
    have hY := Lib.hid (ints_eq (a := a) (b := b) hl)
    rw [← hl]
    have m1 : ((a.length : Int) != (a.length : Int)) = false := by simp
    replace hl := Lib.hid hl
    replace hA := Lib.hid hA
    replace hB := Lib.hid hB
    go_enter Tryz.func18, Tryz.ntmps18
    go_wp2
    go_loopw [5] (fun i wr => ∃ k q : Nat, k ≤ a.length ∧ i = .int .i64 (k : Int) ∧ wr = w.drewN q ∧ Hid (∀ j (h1 : j < a.length) (h2 : j < b.length), j < k → a[j] = b[j])) (fun i _ => a.length - (intOf i).toNat)
    case atStart => exact ⟨0, 0, Nat.zero_le _, rfl, rfl, fun j _ _ h => absurd h (Nat.not_lt_zero _)⟩
    case round =>
      obtain ⟨k, q, hk, rfl, rfl, hI⟩ := hrel
      by_cases hlt : k < a.length
      · have hlb : k < b.length := by rw [← hl.out]; exact hlt
        obtain ⟨b1, o1, rfl, hb1, hc1⟩ := hA.out (by omega)
        obtain ⟨b2, o2, rfl, hb2, hc2⟩ := hB.out (by omega)
        have e1 : (w.drewN q).cell? ⟨b1, o1 + k, none⟩ = some (.int .i64 a[k]) := hc1 k hlt
        have e2 : (w.drewN q).cell? ⟨b2, o2 + k, none⟩ = some (.int .i64 b[k]) := hc2 k hlb
        have hNk := Lib.hid (hN.out k hlt hlb)
        have hIk : Hid (a[k] = b[k] → ∀ j (h1 : j < a.length) (h2 : j < b.length), j < k + 1 → a[j] = b[j]) := fun h j h1 h2 h3 => by
          by_cases e : j = k
          · subst e; exact h
          · exact hI.out j h1 h2 (by omega)
        obtain ⟨x, hx⟩ : ∃ x, x = a[k] := ⟨_, rfl⟩
        obtain ⟨y, hy⟩ : ∃ y, y = b[k] := ⟨_, rfl⟩
        rw [← hx] at e1 hNk hIk
        rw [← hy] at e2 hNk hIk
        have j0 : (0 : Int) ≤ (k : Int) := by omega
        have j1 : (k : Int) < (a.length : Int) := by omega
        clear hc1 hc2 hI hx hy
        generalize hwq : w.drewN q = wq at *
        replace hwq := Lib.hid hwq
        by_cases hxy : x = y
        · have m2 : (x != y) = false := by rw [bne_eq_false_iff_eq]; exact hxy
          have hI2 := Lib.hid (hIk.out hxy)
          replace hxy := Lib.hid hxy
          go_wp2_with fail
          go_quiet (fail)
          go_wp2
          refine ⟨⟨k + 1, q + nq, by omega, by go_num, by rw [← hwq.out, World.drewN_drewN], hI2⟩, by simp only [intOf]; omega⟩
        · have m2 : (x != y) = true := by rw [bne_iff_ne]; exact hxy
          have hG := Lib.hid (hNk.out hxy)
          replace hxy := Lib.hid hxy
          go_wp2_with fail
          go_quiet (fail)
          go_wp2
          go_ret
          exact ⟨ret_bool hG.out.symm, q + nq, by rw [← hwq.out, World.drewN_drewN]⟩
      · obtain rfl : k = a.length := by omega
        have hG := Lib.hid (hY.out fun j h1 h2 => hI.out j h1 h2 h1)
        generalize hwq : w.drewN q = wq at *
        replace hwq := Lib.hid hwq
        go_wp2
        go_ret
        exact ⟨ret_bool hG.out.symm, q, hwq.out.symm⟩
  · have hG : Hid (decide (a = b) = false) := decide_eq_false fun e => hl (by rw [e])
    have h1 : ((a.length : Int) == (b.length : Int)) = false := by rw [beq_eq_false_iff_ne]; omega
    have h2 : ((a.length : Int) != (b.length : Int)) = true := by rw [bne_iff_ne]; omega
    have h3 : (a.length == b.length) = false := by rw [beq_eq_false_iff_ne]; exact hl
    clear hA hB
    go_enter Tryz.func18, Tryz.ntmps18
    go_wp2
    go_ret
    exact ⟨ret_bool hG.out.symm, 0, rfl⟩
end Ci
end Go.Proofs.YtmekiidknjjfcaaGreatDoor

namespace Go.Proofs.YtmekiidknjjfcaaGreatDoor
open Go.RowKit Go.Shelf
namespace Ci
open Nt

def LstAt (n : Int) (l : List Int) (k : Nat) (h : k < l.length) : Prop := (0 ≤ l[k] ∧ l[k] < n) ∧ (0 < k → l[k - 1]'(by omega) < l[k])
instance (n : Int) (l : List Int) (k : Nat) (h : k < l.length) : Decidable (LstAt n l k h) := inferInstanceAs (Decidable (_ ∧ _))
/-- A strictly increasing list of parties. -/
def listB (n : Int) (l : List Int) : Bool := decide (∀ k (h : k < l.length), LstAt n l k h)
theorem list_bad {n : Int} {l : List Int} {k : Nat} (h : k < l.length) (hb : ¬ LstAt n l k h) : listB n l = false := decide_eq_false fun hc => hb (hc k h)
theorem list_all {n : Int} {l : List Int} (h : ∀ k (h : k < l.length), LstAt n l k h) : listB n l = true := decide_eq_true h
set_option maxRecDepth 100000 in
set_option maxHeartbeats 4000000 in
theorem List_any (A : Option Addr) (ca : Nat) (n : Int) (l : List Int) (w : World) (hA : InInt w A l) (hl : l.length ≤ 140737488355328) :
    Calls Tryz.prog 21 #[.int .i64 n, .slice A l.length ca] w fun e w' => e = .returned (.bool (listB n l)) ∧ ∃ q, w' = w.drewN q := by
  have hNB := Lib.hid (fun (k : Nat) (h : k < l.length) (hb : ¬ LstAt n l k h) => list_bad h hb)
  have hNA := Lib.hid (list_all (n := n) (l := l))
  replace hA := Lib.hid hA
  go_enter Tryz.func21, Tryz.ntmps21
  go_wp2
  go_loopw [5] (fun i wr => ∃ k q : Nat, k ≤ l.length ∧ i = .int .i64 (k : Int) ∧ wr = w.drewN q ∧ Hid (∀ j (h : j < l.length), j < k → LstAt n l j h)) (fun i _ => l.length - (intOf i).toNat)
  case atStart => exact ⟨0, 0, Nat.zero_le _, rfl, rfl, fun j _ h => absurd h (Nat.not_lt_zero _)⟩
  case round =>
    obtain ⟨k, q, hk, rfl, rfl, hI⟩ := hrel
    by_cases hlt : k < l.length
    · obtain ⟨b1, o1, rfl, hb1, hc1⟩ := hA.out (by omega)
      have e1 : (w.drewN q).cell? ⟨b1, o1 + k, none⟩ = some (.int .i64 l[k]) := hc1 k hlt
      have e0 : Hid (0 < k → (w.drewN q).cell? ⟨b1, o1 + (k - 1), none⟩ = some (.int .i64 (l[k - 1]'(by omega)))) := fun h => hc1 (k - 1) (by omega)
      have hNk := Lib.hid (hNB.out k hlt)
      have hIk : Hid (LstAt n l k hlt → ∀ j (h : j < l.length), j < k + 1 → LstAt n l j h) := fun h j h1 h3 => by
        by_cases e : j = k
        · subst e; exact h
        · exact hI.out j h1 (by omega)
      have hLA : Hid (LstAt n l k hlt ↔ (0 ≤ l[k] ∧ l[k] < n) ∧ (0 < k → l[k - 1]'(by omega) < l[k])) := Iff.rfl
      obtain ⟨x, hx⟩ : ∃ x, x = l[k] := ⟨_, rfl⟩
      rw [← hx] at e1 hLA
      have j0 : (0 : Int) ≤ (k : Int) := by omega
      have j1 : (k : Int) < (l.length : Int) := by omega
      clear hc1 hI hx
      generalize hwq : w.drewN q = wq at *
      replace hwq := Lib.hid hwq
      have hcl : x < 0 ∨ (0 ≤ x ∧ n ≤ x) ∨ (0 ≤ x ∧ x < n) := by omega
      rcases hcl with h1 | ⟨h1, h2⟩ | ⟨h1, h2⟩
      · have hG := Lib.hid (hNk.out fun h => by have := (hLA.out.1 h).1.1; omega)
        have m1 : decide (x < 0) = true := decide_eq_true h1
        go_wp2_with fail
        go_quiet (fail)
        go_wp2
        go_ret
        exact ⟨ret_bool hG.out.symm, q + nq, by rw [← hwq.out, World.drewN_drewN]⟩
      · have hG := Lib.hid (hNk.out fun h => by have := (hLA.out.1 h).1.2; omega)
        have m1 : decide (x < 0) = false := decide_eq_false (by omega)
        have m2 : decide (n ≤ x) = true := decide_eq_true h2
        go_wp2_with fail
        go_quiet (fail)
        go_wp2
        go_ret
        exact ⟨ret_bool hG.out.symm, q + nq, by rw [← hwq.out, World.drewN_drewN]⟩
      · have m1 : decide (x < 0) = false := decide_eq_false (by omega)
        have m2 : decide (n ≤ x) = false := decide_eq_false (by omega)
        by_cases hk0 : k = 0
        · have m3 : decide (0 < (k : Int)) = false := decide_eq_false (by omega)
          have m4 : decide (0 < k) = false := decide_eq_false (by omega)
          have hI2 := Lib.hid (hIk.out (hLA.out.2 ⟨⟨h1, h2⟩, fun h => by omega⟩))
          replace hk0 := Lib.hid hk0
          go_wp2_with fail
          go_quiet (fail)
          go_wp2
          refine ⟨⟨k + 1, q + nq, by omega, by go_num, by rw [← hwq.out, World.drewN_drewN], hI2⟩, by simp only [intOf]; omega⟩
        · have m3 : decide (0 < (k : Int)) = true := decide_eq_true (by omega)
          have m4 : decide (0 < k) = true := decide_eq_true (by omega)
          have e2 := e0.out (by omega)
          obtain ⟨y, hy⟩ : ∃ y, y = l[k - 1]'(by omega) := ⟨_, rfl⟩
          rw [← hy] at e2
          have j2 : (0 : Int) ≤ (k : Int) - 1 := by omega
          have j3 : (k : Int) - 1 < (l.length : Int) := by omega
          have j4 : IntKind.i64.wrap ((k : Int) - 1) = (k : Int) - 1 := IntWalk.i64_in _ (by omega)
          have j5 : ((k : Int) - 1).toNat = k - 1 := by omega
          by_cases hxy : y < x
          · have m5 : decide (x ≤ y) = false := decide_eq_false (by omega)
            have hI2 := Lib.hid (hIk.out (hLA.out.2 ⟨⟨h1, h2⟩, fun _ => by rw [← hy]; exact hxy⟩))
            replace hy := Lib.hid hy
            go_wp2_with fail
            go_quiet (fail)
            clear j4 j5
            go_wp2
            refine ⟨⟨k + 1, q + nq, by omega, by go_num, by rw [← hwq.out, World.drewN_drewN], hI2⟩, by simp only [intOf]; omega⟩
          · have m5 : decide (x ≤ y) = true := decide_eq_true (by omega)
            have hG := Lib.hid (hNk.out fun h => by have h3 := (hLA.out.1 h).2 (by omega); rw [← hy] at h3; omega)
            replace hy := Lib.hid hy
            go_wp2_with fail
            go_quiet (fail)
            clear j4 j5
            go_wp2
            go_ret
            exact ⟨ret_bool hG.out.symm, q + nq, by rw [← hwq.out, World.drewN_drewN]⟩
    · obtain rfl : k = l.length := by omega
      have hG := Lib.hid (hNA.out fun j h => hI.out j h h)
      generalize hwq : w.drewN q = wq at *
      replace hwq := Lib.hid hwq
      go_wp2
      go_ret
      exact ⟨ret_bool hG.out.symm, q, hwq.out.symm⟩
end Ci
end Go.Proofs.YtmekiidknjjfcaaGreatDoor

namespace Go.Proofs.YtmekiidknjjfcaaGreatDoor
open Go.RowKit Go.Shelf
namespace Ci
open Nt

/-- A list of lists in memory: where each lies, its capacity, and what it holds. -/
def InLs (W : World) (A : Option Addr) (l : List (Option Addr × Nat × List Int)) : Prop :=
  0 < l.length → ∃ b off, A = some ⟨b, off, none⟩ ∧ b < W.heap.size ∧ ∀ j (h : j < l.length), W.cell? ⟨b, off + j, none⟩ = some (.slice l[j].1 l[j].2.2.length l[j].2.1) ∧ InInt W l[j].1 l[j].2.2 ∧ l[j].2.2.length ≤ 140737488355328
def bare (l : List (Option Addr × Nat × List Int)) : List (List Int) := l.map fun x => x.2.2
theorem lists_ne {a b : List (Option Addr × Nat × List Int)} {k : Nat} (h1 : k < a.length) (h2 : k < b.length) (h : a[k].2.2 ≠ b[k].2.2) : decide (bare a = bare b) = false := decide_eq_false fun e => h (by
  have g : (bare a)[k]'(by simpa [bare] using h1) = (bare b)[k]'(by simpa [bare] using h2) := by simp only [e]
  simpa [bare] using g)
theorem lists_eq {a b : List (Option Addr × Nat × List Int)} (hl : a.length = b.length) (h : ∀ k (h1 : k < a.length) (h2 : k < b.length), a[k].2.2 = b[k].2.2) : decide (bare a = bare b) = true := decide_eq_true (List.ext_getElem (by simpa [bare] using hl) fun i h1 h2 => by
  simpa [bare] using h i (by simpa [bare] using h1) (by simpa [bare] using h2))
theorem inInt_drew {w : World} {A : Option Addr} {l : List Int} (h : InInt w A l) (q : Nat) : InInt (w.drewN q) A l := h
end Ci
end Go.Proofs.YtmekiidknjjfcaaGreatDoor

namespace Go.Proofs.YtmekiidknjjfcaaGreatDoor
open Go.RowKit Go.Shelf
namespace Ci
open Nt

def LkSz (x : Lk) : Prop := x.2.2.2.1.size ≤ 400 ∧ x.2.2.2.2.size ≤ 400
instance (x : Lk) : Decidable (LkSz x) := inferInstanceAs (Decidable (_ ∧ _))
def fewS (s : SR) : Bool := decide (s.ps.length ≤ 70 ∧ s.cap.length ≤ 300 ∧ s.vot.length ≤ 300) && (decide (∀ i (h : i < s.ps.length), s.ps[i].size ≤ 100) && (decide (∀ i (h : i < s.cap.length), LkSz s.cap[i]) && decide (∀ i (h : i < s.vot.length), LkSz s.vot[i])))
theorem few_len {s : SR} (h : ¬ (s.ps.length ≤ 70 ∧ s.cap.length ≤ 300 ∧ s.vot.length ≤ 300)) : fewS s = false := by unfold fewS; rw [decide_eq_false h]; rfl
theorem few_ps {s : SR} {k : Nat} (h : k < s.ps.length) (hb : ¬ s.ps[k].size ≤ 100) : fewS s = false := by unfold fewS; rw [decide_eq_false (p := ∀ i (h : i < s.ps.length), s.ps[i].size ≤ 100) fun c => hb (c k h)]; simp
theorem few_cap {s : SR} {k : Nat} (h : k < s.cap.length) (hb : ¬ LkSz s.cap[k]) : fewS s = false := by unfold fewS; rw [decide_eq_false (p := ∀ i (h : i < s.cap.length), LkSz s.cap[i]) fun c => hb (c k h)]; simp
theorem few_vot {s : SR} {k : Nat} (h : k < s.vot.length) (hb : ¬ LkSz s.vot[k]) : fewS s = false := by unfold fewS; rw [decide_eq_false (p := ∀ i (h : i < s.vot.length), LkSz s.vot[i]) fun c => hb (c k h)]; simp
theorem few_all {s : SR} (h1 : s.ps.length ≤ 70) (h2 : s.cap.length ≤ 300) (h3 : s.vot.length ≤ 300) (h4 : ∀ i (h : i < s.ps.length), s.ps[i].size ≤ 100) (h5 : ∀ i (h : i < s.cap.length), LkSz s.cap[i]) (h6 : ∀ i (h : i < s.vot.length), LkSz s.vot[i]) : fewS s = true := by
  unfold fewS
  rw [decide_eq_true ⟨h1, h2, h3⟩, decide_eq_true h4, decide_eq_true h5, decide_eq_true h6]
  rfl
end Ci
end Go.Proofs.YtmekiidknjjfcaaGreatDoor

namespace Go.Proofs.YtmekiidknjjfcaaGreatDoor
open Go.RowKit Go.Shelf
namespace Ci
open Nt

def lksL (l : List Lk) : List Value := (l.map lkL).flatten
theorem lkL_length (x : Lk) : (lkL x).length = 5 := rfl
theorem lksL_nil : lksL [] = [] := rfl
theorem lksL_cons (x : Lk) (l : List Lk) : lksL (x :: l) = lkL x ++ lksL l := rfl
theorem lksL_length (l : List Lk) : (lksL l).length = l.length * 5 := by
  induction l with
  | nil => rfl
  | cons a l ih => rw [lksL_cons, List.length_append, ih, lkL_length, List.length_cons]; omega
theorem lksL_snoc (l : List Lk) (x : Lk) : lksL (l ++ [x]) = lksL l ++ lkL x := by
  unfold lksL
  rw [List.map_append, List.flatten_append]
  simp
theorem lksL_get : ∀ (l : List Lk) (j f : Nat) (hj : j < l.length), f < 5 → (lksL l)[j * 5 + f]? = (lkL l[j])[f]? := by
  intro l
  induction l with
  | nil => intro j f hj; exact absurd hj (Nat.not_lt_zero _)
  | cons a l ih =>
    intro j f hj hf
    rw [lksL_cons]
    cases j with
    | zero =>
      rw [List.getElem?_append_left (by rw [lkL_length]; omega)]
      simp
    | succ j =>
      rw [List.getElem?_append_right (by rw [lkL_length]; omega), lkL_length, show (j + 1) * 5 + f - 5 = j * 5 + f by omega, ih j f (by simpa using hj) hf]
      simp
def zeroL : Value := .agg #[.int .i64 0, .int .i64 0, .bool false, .string ⟨#[]⟩, .string ⟨#[]⟩]
theorem infoL : (Tryz.prog.info? 51).map (fun i => (i.zero, i.size, i.bytes)) = some (some zeroL, 5, 56) := by kernel_rfl
section
variable {W W' : World} {base n : Nat} {e : TypeId} {u : Value} {l : List Lk}
theorem own_lks (h : W.ownsRow base e 5 u l.length (lksL l)) : ∃ A cap, u = .slice A l.length cap ∧ InLk W A l := by
  rcases h.2 with ⟨rfl, h0⟩ | ⟨g, cap, cur, rfl, hb, hg, _⟩
  · refine ⟨none, 0, by rw [h0], fun hl => by omega⟩
  · refine ⟨_, cap, rfl, fun hl => ⟨g, 0, rfl, (Array.getElem?_eq_some_iff.1 hg).1, fun j hj => ?_⟩⟩
    have hadd : ∀ o, (⟨g, 0, none⟩ : Addr).add o = ⟨g, o, none⟩ := fun o => by unfold Addr.add; split <;> simp_all
    have key : ∀ f v, f < 5 → (lkL l[j])[f]? = some v → W.cell? ⟨g, j * 5 + f, none⟩ = some v := fun f v hf hv => by
      have hc := h.cells (g := g) (by simp [Value.ownBlock]) (j * 5 + f) v (by rw [lksL_get l j f hj hf]; exact hv)
      rwa [hadd] at hc
    simp only [Nat.zero_add]
    exact ⟨key 0 _ (by omega) rfl, key 1 _ (by omega) rfl, key 2 _ (by omega) rfl, key 3 _ (by omega) rfl, key 4 _ (by omega) rfl⟩
theorem own_form5 {m : Nat} {xs : List Value} (h : W.ownsRow base e m u n xs) : ∃ A cap, u = .slice A n cap := by
  rcases h.2 with ⟨rfl, h0⟩ | ⟨g, cap, cur, rfl, _⟩
  · exact ⟨none, 0, by rw [h0]⟩
  · exact ⟨_, cap, rfl⟩
/-- The five cells of a link that was just laid. -/
theorem head_lk (w : World) (x : Lk) (t : TypeId) : ∀ j u, (lkL x)[j]? = some u → (w.alloc (.cells #[.int .i64 x.1, .int .i64 x.2.1, .bool x.2.2.1, .string x.2.2.2.1, .string x.2.2.2.2] t)).cell? (Addr.add ⟨w.heap.size, 0, none⟩ j) = some u := by
  intro j u hj
  have hadd : (⟨w.heap.size, 0, none⟩ : Addr).add j = ⟨w.heap.size, j, none⟩ := by unfold Addr.add; split <;> simp_all
  rw [hadd]
  simp only [World.cell?, heap_alloc_new]
  simp only [lkL] at hj
  match j, hj with
  | 0, hj => simpa using hj
  | 1, hj => simpa using hj
  | 2, hj => simpa using hj
  | 3, hj => simpa using hj
  | 4, hj => simpa using hj
  | j + 5, hj => simp at hj
theorem one_lk (x : Lk) : ∀ u ∈ lkL x, u.oneCell' = true := by
  intro u hu
  simp only [lkL, List.mem_cons, List.not_mem_nil, or_false] at hu
  rcases hu with rfl | rfl | rfl | rfl | rfl <;> rfl
end
end Ci
end Go.Proofs.YtmekiidknjjfcaaGreatDoor

/- Texts that the proof needs: CirC, CirD, NatWrap, RatSum. -/
import Derived.Maps.AppendAt
import Derived.Laws.EntriesVeiled
import Derived.ArgAppend
import Derived.Test.YtpmlhgmmobpilaaGreatDoorShelf
import Derived.Laws.CopyOwn
import Derived.Deep.RegionLaw
import Derived.Deep.QuietTactic
import Derived.BigQuiet
import Derived.IntWalk
import Derived.Deep.LoopGhost
import Derived.WalkMore
import Derived.Test.YtpmlhgmmobpilaaGreatDoorCards
import Derived.Test.YtpmlhgmmobpilaaGreatDoorTie
import Derived.ProofKit
import Derived.OpenShut
import Derived.Deep.DeepHandedRow
import Derived.Deep.DeepWitnessRowRef
import Derived.Deep.DeepLaidRun
import Derived.Lib.LaidTab
import Derived.Stop.LaidErr
import Derived.LaidMore
import Derived.LaidSub
import Derived.StillTailTactics
import Derived.Laws.OwnMore
import Derived.Test.YtpmlhgmmobpilaaGreatDoorKcA
import Derived.Test.YtpmlhgmmobpilaaGreatDoorKcB
import Derived.Test.YtpmlhgmmobpilaaGreatDoorKcC
import Derived.Test.YtpmlhgmmobpilaaGreatDoorKcD
namespace Go.Proofs.YtpmlhgmmobpilaaGreatDoor
open Go.RowKit Go.Shelf
namespace Ci
open Nt
open Classical
theorem Gr.grown {W W' : World} {B R n mb : Nat} {v : Nat → Value} {adj : Nat → List Nat} (h : Gr W B R n v adj) (hg : W.grownBy W' (some mb)) (hR : R ≠ mb) (hv : ∀ i, i < n → (v i).ownBlock ≠ some mb) : Gr W' B R n v adj := by
  have hb : W'.heap[R]? = W.heap[R]? := hg.block R h.lt fun e => hR (Option.some.inj e)
  exact ⟨Nat.lt_of_lt_of_le h.lt hg.size, fun i hi => (World.cell?_of_block (a := ⟨R, i, none⟩) hb).trans (h.hd i hi), fun i => (World.frozen?_of_block (a := ⟨R, i, none⟩) hb).trans (h.fr i), fun i hi => (h.rows i hi).kept hg (by
    cases hu : (v i).ownBlock with
    | none => exact .inl rfl
    | some b => exact .inr fun e => hv i hi (hu.trans e)), h.apart, h.ne, h.lowR⟩
noncomputable def bV (P : Prop) : Bool := @decide P (propDecidable P)
theorem bV_true {P : Prop} (h : P) : bV P = true := @decide_eq_true P (propDecidable P) h
theorem bV_false {P : Prop} (h : ¬ P) : bV P = false := @decide_eq_false P (propDecidable P) h
end Ci
end Go.Proofs.YtpmlhgmmobpilaaGreatDoor
namespace Go.Proofs.YtpmlhgmmobpilaaGreatDoor
open Go.RowKit Go.Shelf
namespace Ci
open Nt
open Classical
/-- A map of the call's own that reads as the parties reached. -/
def ReachM (w : World) (n mb : Nat) (E : List (Nat × Nat)) (p : Nat) : Prop := ∃ c f, MapK Tryz.prog 3 κi w mb c f ∧ ∀ x : Nat, x < n → f (x : Int) = if Reach E p x then some (.bool true) else none
end Ci
end Go.Proofs.YtpmlhgmmobpilaaGreatDoor
namespace Go.Proofs.YtpmlhgmmobpilaaGreatDoor
open Go.RowKit Go.Shelf
namespace Ci
open Nt
/-- What was turned ahead of link j of party i. -/
def TurnI (n i j : Nat) (adj T : Nat → List Nat) : Prop := (∀ q x, q < n → (x ∈ T q ↔ (x < i ∧ q ∈ adj x) ∨ (x = i ∧ q ∈ (adj i).take j))) ∧ ∀ q, (T q).length ≤ 1000 * i + j
theorem TurnI.next {n i : Nat} {adj T : Nat → List Nat} (h : TurnI n i (adj i).length adj T) (hl : (adj i).length ≤ 1000) : TurnI n (i + 1) 0 adj T := by
  refine ⟨fun q x hq => ?_, fun q => by have := h.2 q; omega⟩
  rw [h.1 q x hq, List.take_length]
  constructor
  · rintro (⟨a, b⟩ | ⟨rfl, b⟩)
    · exact .inl ⟨by omega, b⟩
    · exact .inl ⟨by omega, b⟩
  · rintro (⟨a, b⟩ | ⟨_, b⟩)
    · by_cases e : x = i
      · subst e; exact .inr ⟨rfl, b⟩
      · exact .inl ⟨by omega, b⟩
    · simp at b
theorem TurnI.step {n i j : Nat} {adj T : Nat → List Nat} (h : TurnI n i j adj T) (hj : j < (adj i).length) : TurnI n i (j + 1) adj (setL T (adj i)[j] i) := by
  refine ⟨fun q x hq => ?_, fun q => ?_⟩
  · unfold setL
    rw [List.take_succ_eq_append_getElem hj]
    by_cases e : q = (adj i)[j]
    · rw [if_pos e, List.mem_append, h.1 q x hq, List.mem_append, List.mem_singleton, List.mem_singleton]
      constructor
      · rintro ((a | ⟨a, b⟩) | a)
        · exact .inl a
        · exact .inr ⟨a, .inl b⟩
        · exact .inr ⟨a, .inr e⟩
      · rintro (a | ⟨a, b | _⟩)
        · exact .inl (.inl a)
        · exact .inl (.inr ⟨a, b⟩)
        · exact .inr a
    · rw [if_neg e, h.1 q x hq, List.mem_append, List.mem_singleton]
      constructor
      · rintro (a | ⟨a, b⟩)
        · exact .inl a
        · exact .inr ⟨a, .inl b⟩
      · rintro (a | ⟨a, b | b⟩)
        · exact .inl a
        · exact .inr ⟨a, b⟩
        · exact absurd b e
  · unfold setL
    have := h.2 q
    split
    · rw [List.length_append, List.length_singleton]; omega
    · omega
end Ci
end Go.Proofs.YtpmlhgmmobpilaaGreatDoor
namespace Go.Proofs.YtpmlhgmmobpilaaGreatDoor
open Go.RowKit Go.Shelf
namespace Ci
open Nt
/-- All blocks but some are as before. -/
structure Kp (xs : List Nat) (w w' : World) : Prop where
  os : w'.os = w.os
  tape : w'.tape = w.tape
  output : w'.output = w.output
  size : w.heap.size ≤ w'.heap.size
  block : ∀ k, k < w.heap.size → k ∉ xs → w'.heap[k]? = w.heap[k]?
section
variable {xs : List Nat} {w w' w'' : World} {B R n i b c mb : Nat} {v : Nat → Value} {adj ls : Nat → List Nat} {α : Type} {P : Program} {k : TypeId} {κ : α → Lit} {f : α → Option Value} {t : TypeId} {cs : List Value}
theorem Kp.refl (xs : List Nat) (w : World) : Kp xs w w := ⟨rfl, rfl, rfl, Nat.le_refl _, fun _ _ _ => rfl⟩
theorem Kp.below (h : Kp xs w w') (hb : Below w'.heap.size w' w'') : Kp xs w w'' :=
  ⟨hb.os.trans h.os, hb.tape.trans h.tape, hb.output.trans h.output, Nat.le_trans h.size hb.size, fun k hk hx => (hb.block k (Nat.lt_of_lt_of_le hk h.size)).trans (h.block k hk hx)⟩
theorem Kp.alloc (h : Kp xs w w') (o : Obj) : Kp xs w (w'.alloc o) := h.below ((Below.refl _ w').alloc (Nat.le_refl _) o)
theorem Kp.drew (h : Kp xs w w') : Kp xs w w'.drew := h.below (Below.refl _ w').drew
theorem Kp.grown {row : Option Nat} (h : Kp xs w w') (hg : w'.grownBy w'' row) (hr : ∀ b, row = some b → b ∈ xs ∨ w.heap.size ≤ b) : Kp xs w w'' :=
  ⟨hg.os.trans h.os, hg.tape.trans h.tape, hg.output.trans h.output, Nat.le_trans h.size hg.size, fun k hk hx => (hg.block k (Nat.lt_of_lt_of_le hk h.size) (fun e => by
    rcases hr k e.symm with h1 | h1
    · exact hx h1
    · omega)).trans (h.block k hk hx)⟩
theorem grown_set (w : World) (a : Addr) (u : Value) : w.grownBy (w.setCell a u) (some a.block) := ⟨rfl, rfl, rfl, by simp, fun k _ hk => Below.heap_setCell _ _ _ _ (fun e => hk (by rw [e]))⟩
theorem grown_alloc (w : World) (o : Obj) (row : Option Nat) : w.grownBy (w.alloc o) row := ⟨rfl, rfl, rfl, by simp, fun k hk _ => heap_alloc_old w o hk⟩
theorem Kp.set (h : Kp xs w w') {a : Addr} (u : Value) (ha : a.block ∈ xs ∨ w.heap.size ≤ a.block) : Kp xs w (w'.setCell a u) := h.grown (grown_set w' a u) fun b e => by cases e; exact ha
theorem Kp.to_below (h : Kp xs w w') {w0 : World} (h0 : Below w0.heap.size w0 w) (hx : ∀ x, x ∈ xs → w0.heap.size ≤ x) : Below w0.heap.size w0 w' :=
  h0.trans ⟨h.os, h.tape, h.output, h.size, fun k hk => h.block k (Nat.lt_of_lt_of_le hk h0.size) fun e => by have := hx k e; omega⟩
theorem Kp.heap (h : Kp xs w w') (hb : b < w.heap.size) (hx : b ∉ xs) : w'.heap[b]? = w.heap[b]? := h.block b hb hx
theorem Gr.of_block (h : Gr w B R n v adj) (hs : w.heap.size ≤ w'.heap.size) (hR : w'.heap[R]? = w.heap[R]?) (hv : ∀ i b, i < n → (v i).ownBlock = some b → w'.heap[b]? = w.heap[b]?) : Gr w' B R n v adj :=
  ⟨Nat.lt_of_lt_of_le h.lt hs, fun i hi => (World.cell?_of_block (a := ⟨R, i, none⟩) hR).trans (h.hd i hi), fun i => (World.frozen?_of_block (a := ⟨R, i, none⟩) hR).trans (h.fr i), fun i hi => by
    obtain ⟨h1, h2⟩ := h.rows i hi
    refine ⟨h1, ?_⟩
    rcases h2 with h2 | ⟨g, cap, cur, hv2, hg, hh, rest⟩
    · exact .inl h2
    · exact .inr ⟨g, cap, cur, hv2, hg, (hv i g hi (by rw [hv2]; rfl)).trans hh, rest⟩, h.apart, h.ne, h.lowR⟩
theorem Gr.kp (h : Gr w B R n v adj) (hk : Kp xs w w') (hR : R ∉ xs) (hv : ∀ i b, i < n → (v i).ownBlock = some b → b ∉ xs) : Gr w' B R n v adj :=
  h.of_block hk.size (hk.block R h.lt hR) fun i b hi e => hk.block b ((h.rows i hi).lt b e).2 (hv i b hi e)
theorem MapK.kp (h : MapK P k κ w b c f) (hk : Kp xs w w') (hb : b ∉ xs) : MapK P k κ w' b c f := h.block (hk.block b h.lt hb)
theorem Bk.kp (h : Bk w b t cs) (hk : Kp xs w w') (hb : b ∉ xs) : Bk w' b t cs := by
  have e := hk.block b h.lt hb
  exact (show w'.heap[b]? = _ from e.trans h)
structure LM (w : World) (B mb n c : Nat) (v : Nat → Value) (ls : Nat → List Nat) : Prop where
  map : ∃ f : Int → Option Value, MapK Tryz.prog 3 κi w mb c f ∧ ∀ x : Nat, x < n → f (x : Int) = if ls x = [] then none else some (v x)
  nil : ∀ x, x < n → ls x = [] → v x = .slice none 0 0
  rows : ∀ x, x < n → w.ownsRow B 3 1 (v x) (ls x).length (intsL (ls x))
  apart : ∀ i j, i < n → j < n → i ≠ j → OffB (v i) (v j)
  ne : ∀ x, x < n → (v x).ownBlock ≠ some mb
theorem LM.lt (h : LM w B mb n c v ls) : mb < w.heap.size := by obtain ⟨f, h, _⟩ := h.map; exact h.lt
theorem LM.grown {row : Option Nat} (h : LM w B mb n c v ls) (hg : w.grownBy w' row) (hm : row ≠ some mb) (hv : ∀ x b, x < n → (v x).ownBlock = some b → row ≠ some b) : LM w' B mb n c v ls := by
  obtain ⟨f, h1, h2⟩ := h.map
  refine ⟨⟨f, h1.kept hg fun e => hm e.symm, h2⟩, h.nil, fun x hx => (h.rows x hx).kept hg ?_, h.apart, h.ne⟩
  cases hu : (v x).ownBlock with
  | none => exact .inl rfl
  | some b => exact .inr fun e => hv x b hx hu e.symm
theorem LM.set (h : LM w B mb n c v ls) {a : Addr} (u : Value) (hm : a.block ≠ mb) (hv : ∀ x, x < n → (v x).ownBlock ≠ some a.block) : LM (w.setCell a u) B mb n c v ls :=
  h.grown (grown_set w a u) (fun e => hm (Option.some.inj e)) fun x b hx e e2 => hv x hx (by rw [e, e2])
theorem LM.alloc (h : LM w B mb n c v ls) (o : Obj) : LM (w.alloc o) B mb n c v ls := h.grown (grown_alloc w o none) (by simp) fun _ _ _ _ => by simp
theorem LM.drew (h : LM w B mb n c v ls) : LM w.drew B mb n c v ls := ⟨h.map, h.nil, h.rows, h.apart, h.ne⟩
theorem LM.below (h : LM w B mb n c v ls) (hb : Below w.heap.size w w') : LM w' B mb n c v ls :=
  h.grown (row := none) ⟨hb.os, hb.tape, hb.output, hb.size, fun k hk _ => hb.block k hk⟩ (by simp) fun _ _ _ _ => by simp
theorem LM.made (w : World) (B n : Nat) : LM (w.alloc (.map #[] 0)) B w.heap.size n 0 (fun _ => .slice none 0 0) fun _ => [] :=
  ⟨⟨_, MapK.made w _ _ _, fun _ _ => (if_pos rfl).symm⟩, fun _ _ _ => rfl, fun _ _ => World.ownsRow_nil _ _ _ _, fun _ _ _ _ _ _ hb => (by cases hb), fun _ _ h => (by cases h)⟩
theorem own_form {W : World} {base n : Nat} {e : TypeId} {u : Value} {xs : List Value} (h : W.ownsRow base e 1 u n xs) : ∃ A cap, u = .slice A n cap := by
  rcases h.2 with ⟨rfl, rfl⟩ | ⟨g, cap, _, rfl, _⟩
  · exact ⟨none, 0, rfl⟩
  · exact ⟨_, cap, rfl⟩
theorem own_kp {xs : List Nat} {base m : Nat} {e : TypeId} {u : Value} {l : List Value} {w : World} (h : w.ownsRow base e 1 u m l) (hk : Kp xs w w') (hb : ∀ b, u.ownBlock = some b → b ∉ xs) : w'.ownsRow base e 1 u m l := by
  obtain ⟨h1, h2⟩ := h
  refine ⟨h1, ?_⟩
  rcases h2 with h2 | ⟨g, cap, cur, hv, hg, hh, rest⟩
  · exact .inl h2
  · exact .inr ⟨g, cap, cur, hv, hg, (hk.block g (Array.getElem?_eq_some_iff.1 hh).1 (hb g (by rw [hv]; rfl))).trans hh, rest⟩
/-- Block b has n numbers. -/
structure RoI (w : World) (b n : Nat) (o : Nat → Int) : Prop where
  lt : b < w.heap.size
  cell : ∀ x, x < n → w.cell? ⟨b, x, none⟩ = some (.int .i64 (o x))
  fr : ∀ x, w.frozen? ⟨b, x, none⟩ = false
theorem RoI.of_block {o : Nat → Int} (h : RoI w b n o) (hs : w.heap.size ≤ w'.heap.size) (hb : w'.heap[b]? = w.heap[b]?) : RoI w' b n o :=
  ⟨Nat.lt_of_lt_of_le h.lt hs, fun x hx => (World.cell?_of_block (a := ⟨b, x, none⟩) hb).trans (h.cell x hx), fun x => (World.frozen?_of_block (a := ⟨b, x, none⟩) hb).trans (h.fr x)⟩
theorem RoI.below {o : Nat → Int} (h : RoI w b n o) (hb : Below w.heap.size w w') : RoI w' b n o := h.of_block hb.size (hb.block b h.lt)
theorem RoI.grown {o : Nat → Int} {row : Option Nat} (h : RoI w b n o) (hg : w.grownBy w' row) (hr : row ≠ some b) : RoI w' b n o := h.of_block hg.size (hg.block b h.lt fun e => hr e.symm)
theorem RoI.alloc {o : Nat → Int} (h : RoI w b n o) (x : Obj) : RoI (w.alloc x) b n o := h.below ((Below.refl _ w).alloc (Nat.le_refl _) x)
theorem RoI.set {o : Nat → Int} (h : RoI w b n o) {x : Nat} (hx : x < n) (r : Int) : RoI (w.setCell ⟨b, x, none⟩ (.int .i64 r)) b n (setI o x r) := by
  refine ⟨by simpa using h.lt, fun y hy => ?_, fun y => by simpa using h.fr y⟩
  by_cases e : y = x
  · subst e
    rw [setI_same]
    exact World.cell?_setCell_same _ _ _ (h.cell y hy)
  · rw [setI_other e, World.cell?_setCell_other _ _ _ _ (fun c => by injection c with _ c2; first | exact e c2 | exact e c2.symm)]
    exact h.cell y hy
theorem RoI.made (w : World) (n : Nat) (t : TypeId) : RoI (w.alloc (.cells (madeCells #[.int .i64 0] n) t)) w.heap.size n fun _ => 0 := by
  have h := heap_alloc_new w (.cells (madeCells #[(.int .i64 0 : Value)] n) t)
  refine ⟨by simp, fun x hx => ?_, fun x => by simp only [World.frozen?, h]; simp⟩
  simp only [World.cell?, h]
  simp [madeCells, hx]
  rw [Nat.mod_one]
  rfl
theorem RoI.of_row {r : Int} {t : TypeId} (h : w.heap[b]? = some (.cells (List.replicate n (.int .i64 r)).toArray t (0, 0))) : RoI w b n fun _ => r := by
  refine ⟨(Array.getElem?_eq_some_iff.1 h).1, fun x hx => ?_, fun x => by simp [World.frozen?, h]⟩
  simp [World.cell?, h, hx]
theorem RoI.congr {o o' : Nat → Int} (h : RoI w b n o) (e : ∀ x, x < n → o x = o' x) : RoI w b n o' := ⟨h.lt, fun x hx => by rw [← e x hx]; exact h.cell x hx, h.fr⟩
theorem RoI.inInt {o : Nat → Int} (h : RoI w b n o) : InInt w (some ⟨b, 0, none⟩) ((List.range n).map o) := fun _ => ⟨b, 0, rfl, h.lt, fun j hj => by
  have hj2 : j < n := by simpa using hj
  rw [Nat.zero_add, h.cell j hj2]
  simp⟩
end
end Ci
end Go.Proofs.YtpmlhgmmobpilaaGreatDoor
namespace Go.Proofs.YtpmlhgmmobpilaaGreatDoor
open Go.RowKit Go.Shelf
namespace Ci
/-- The slice reads as l; what lies behind it up to its capacity is the call's own. -/
def QIn (w : World) (B : Nat) (v : Value) (l : List Nat) : Prop :=
  (∃ A, v = .slice A 0 0 ∧ l = [] ∧ ∀ b, v.ownBlock = some b → B ≤ b ∧ b < w.heap.size) ∨
  ∃ g o cap, v = .slice (some ⟨g, o, none⟩) l.length cap ∧ B ≤ g ∧ g < w.heap.size ∧ l.length ≤ cap ∧ (∀ j, j < cap → (w.cell? ⟨g, o + j, none⟩).isSome = true) ∧ (∀ j, w.frozen? ⟨g, j, none⟩ = false) ∧ ∀ j (h : j < l.length), w.cell? ⟨g, o + j, none⟩ = some (.int .i64 (l[j] : Int))
section
variable {w w' : World} {B : Nat} {v : Value} {l : List Nat} {q : Nat}
theorem QIn.block (h : QIn w B v l) {b : Nat} (hb : v.ownBlock = some b) : B ≤ b ∧ b < w.heap.size := by
  rcases h with ⟨A, rfl, _, h⟩ | ⟨g, o, cap, rfl, h1, h2, _⟩
  · exact h b hb
  · cases hb; exact ⟨h1, h2⟩
/-- Another block turns, and new ones come. -/
theorem QIn.grown {row : Option Nat} (h : QIn w B v l) (hg : w.grownBy w' row) (hne : v.ownBlock = none ∨ v.ownBlock ≠ row) : QIn w' B v l := by
  rcases h with ⟨A, rfl, h1, h2⟩ | ⟨g, o, cap, rfl, h1, h2, h3, h4, h5, h6⟩
  · exact .inl ⟨A, rfl, h1, fun b hb => ⟨(h2 b hb).1, Nat.lt_of_lt_of_le (h2 b hb).2 hg.size⟩⟩
  · have hb : w'.heap[g]? = w.heap[g]? := hg.block g h2 fun e => by
      rcases hne with hne | hne
      · cases hne
      · exact hne e
    refine .inr ⟨g, o, cap, rfl, h1, Nat.lt_of_lt_of_le h2 hg.size, h3, fun j hj => ?_, fun j => ?_, fun j hj => ?_⟩
    · rw [World.cell?_of_block (a := ⟨g, o + j, none⟩) hb]; exact h4 j hj
    · rw [World.frozen?_of_block (a := ⟨g, j, none⟩) hb]; exact h5 j
    · rw [World.cell?_of_block (a := ⟨g, o + j, none⟩) hb]; exact h6 j hj
theorem QIn.set (h : QIn w B v l) {a : Addr} (ha : v.ownBlock ≠ some a.block) (u : Value) : QIn (w.setCell a u) B v l :=
  h.grown (row := some a.block) ⟨rfl, rfl, rfl, by simp, fun k _ hk => Below.heap_setCell _ _ _ _ (fun e => hk (by rw [e]))⟩ (.inr ha)
theorem QIn.alloc (h : QIn w B v l) (o : Obj) : QIn (w.alloc o) B v l :=
  h.grown (row := none) ⟨rfl, rfl, rfl, by simp, fun k hk _ => heap_alloc_old w o hk⟩ (by cases hq : v.ownBlock <;> simp)
theorem QIn.drew (h : QIn w B v l) : QIn w.drew B v l := h
/-- The first one is taken out. -/
theorem QIn.head {p : Nat} (h : QIn w B v (p :: l)) : ∃ g o cap, v = .slice (some ⟨g, o, none⟩) (l.length + 1) cap ∧ B ≤ g ∧ g < w.heap.size ∧ l.length + 1 ≤ cap ∧ w.cell? ⟨g, o, none⟩ = some (.int .i64 (p : Int)) ∧
    QIn w B (.slice (some (if cap = 1 then ⟨g, o, none⟩ else ⟨g, o + 1, none⟩)) l.length (cap - 1)) l := by
  rcases h with ⟨A, _, h1, _⟩ | ⟨g, o, cap, rfl, h1, h2, h3, h4, h5, h6⟩
  · cases h1
  · refine ⟨g, o, cap, rfl, h1, h2, h3, by have := h6 0 (by simp); simpa using this, ?_⟩
    simp only [List.length_cons] at h3
    by_cases e : cap = 1
    · rw [if_pos e]
      have hl : l = [] := List.length_eq_zero_iff.1 (by omega)
      subst hl
      subst e
      exact .inl ⟨_, rfl, rfl, fun b hb => by cases hb; exact ⟨h1, h2⟩⟩
    · rw [if_neg e]
      refine .inr ⟨g, o + 1, cap - 1, rfl, h1, h2, by omega, fun j hj => ?_, h5, fun j hj => ?_⟩
      · have := h4 (j + 1) (by omega)
        rwa [show o + 1 + j = o + (j + 1) by omega]
      · have := h6 (j + 1) (by simp; omega)
        rw [show o + 1 + j = o + (j + 1) by omega]
        simpa using this
/-- A row of the call's own is a queue. -/
theorem QIn.of_row {e : TypeId} {u : Value} (h : w.ownsRow B e 1 u l.length (l.map fun (q : Nat) => .int .i64 (q : Int))) : QIn w B u l := by
  rcases h.2 with ⟨rfl, h0⟩ | ⟨g, cap, cur, rfl, hb, hg, h1, _, h3, _⟩
  · exact .inl ⟨none, rfl, List.length_eq_zero_iff.1 h0, fun b hb => by cases hb⟩
  · have hadd : ∀ o, (⟨g, 0, none⟩ : Addr).add o = ⟨g, 0 + o, none⟩ := fun o => by unfold Addr.add; split <;> simp_all
    refine .inr ⟨g, 0, cap, rfl, hb, (Array.getElem?_eq_some_iff.1 hg).1, h1, fun j hj => ?_, fun j => by simp [World.frozen?, hg], fun j hj => ?_⟩
    · simp only [World.cell?, hg]
      have : 0 + j < cur.size := by omega
      simp at this
      simp [this]
    · have hc := h.cells (g := g) (by simp [Value.ownBlock]) j (.int .i64 (l[j] : Int)) (by simp [hj])
      rwa [hadd] at hc
theorem QIn.mono {B' : Nat} (h : QIn w B v l) (hb : B' ≤ B) : QIn w B' v l := by
  rcases h with ⟨A, rfl, h1, h2⟩ | ⟨g, o, cap, rfl, h1, h2⟩
  · exact .inl ⟨A, rfl, h1, fun b e => ⟨Nat.le_trans hb (h2 b e).1, (h2 b e).2⟩⟩
  · exact .inr ⟨g, o, cap, rfl, Nat.le_trans hb h1, h2⟩
theorem run_append_queue {P : Program} (t ty e : TypeId) (i : TypeInfo) (z : Value) (bytes : Nat) (ht : P.underlying t = some (.slice e)) (hi : P.info? e = some i) (hz : i.zero = some z)
    (hsize : i.size = 1) (hby : i.bytes = bytes) (hzs : z.cells.size = 1) (h : QIn w B v l) (hB : B ≤ w.heap.size) (ad : Addr) (c : Nat) (had : w.cell? ad = some (.int .i64 (q : Int)))
    (hb : (l.length + 1) * bytes ≤ 140737488355328) (hm : l.length + 1 ≤ maxLen) :
    ∃ v' w', (Builtin.append_ #[t, t] ty #[v, .slice (some ad) 1 c]).run P w = .ok v' w' ∧ QIn w' B v' (l ++ [q]) ∧ w.grownBy w' v.ownBlock ∧ (v'.ownBlock = v.ownBlock ∨ v'.ownBlock = some w.heap.size) := by
  have hnews : ∀ j u, [(Value.int .i64 (q : Int))][j]? = some u → w.cell? (ad.add j) = some u := fun j u hj => by
    match j, hj with
    | 0, hj => simp at hj; subst hj; rw [Addr.add_zero']; exact had
    | j + 1, hj => simp at hj
  have h1 : ∀ u ∈ [(Value.int .i64 (q : Int))], u.oneCell' = true := one_cell1 _ rfl
  have hmap : (l ++ [q]).map (fun (x : Nat) => Value.int .i64 (x : Int)) = l.map (fun (x : Nat) => Value.int .i64 (x : Int)) ++ [.int .i64 (q : Int)] := by simp
  have fin : ∀ {v' : Value} {w' : World}, w'.ownsRow w.heap.size e 1 v' (l.length + 1) (l.map (fun (x : Nat) => Value.int .i64 (x : Int)) ++ [.int .i64 (q : Int)]) → w.grownBy w' none → (v'.ownBlock = none ∨ v'.ownBlock = some w.heap.size) → QIn w' B v' (l ++ [q]) ∧ w.grownBy w' v.ownBlock ∧ (v'.ownBlock = v.ownBlock ∨ v'.ownBlock = some w.heap.size) := fun {v' w'} ho hg hn => by
    refine ⟨(QIn.of_row (e := e) (by rw [hmap, List.length_append]; exact ho)).mono hB, ⟨hg.os, hg.tape, hg.output, hg.size, fun k hk _ => hg.block k hk (by simp)⟩, ?_⟩
    rcases hn with hn | hn
    · rcases ho.2 with ⟨_, h0⟩ | ⟨g, cap, cur, rfl, _⟩
      · omega
      · cases hn
    · exact .inr hn
  rcases h with ⟨A, rfl, rfl, hA⟩ | ⟨g, o, cap, rfl, hg1, hg2, h3, h4, h5, h6⟩
  · cases A with
    | none =>
      obtain ⟨v', w', hr, h2, h3, _⟩ := run_append_own (P := P) w B t ty e i z 1 bytes ht hi hz hsize hby hzs (by decide) (.slice none 0 0) 0 [] (World.ownsRow_nil _ _ _ _) ad 1 c [.int .i64 (q : Int)] (by simp) hnews h1 (by simpa using hm) (by simpa using hb) hB
      have h5 := run_append_at (P := P) t ty e i z 1 bytes ht hi hz hsize hby (.slice none 0 0) 0 [] (World.ownsRow_nil w B _ _) ad 1 c [.int .i64 (q : Int)] (by simp) hnews h1 (by decide) (by simpa using hm) (by simpa using hb) hr
      refine ⟨v', w', hr, QIn.of_row (e := e) (by simpa using h2), h3, h5⟩
    | some b =>
      obtain ⟨b1, b2⟩ := hA b.block rfl
      obtain ⟨v', w', hr, r1, r2⟩ := run_append_arg_grows (P := P) w t ty e i z 1 bytes ht hi hz hsize hby hzs (by decide) b 0 0 [] rfl (fun j u hj => by simp at hj) ad 1 c [.int .i64 (q : Int)] (by simp) hnews (by decide) (by simpa using hm) (by simpa using hb)
      refine ⟨v', w', hr, fin (by simpa using r1) r2 ?_⟩
      rcases r1.2 with ⟨_, h0⟩ | ⟨g, cap, cur, rfl, hgg, hgc, _⟩
      · cases h0
      · have hr2 := run_append_grow (P := P) w t ty e i z ht hi hz b 0 0 [] (by simp) (fun j u hj => by simp at hj) ad 1 c [.int .i64 (q : Int)] (by rw [hsize]; simp) hnews (by decide) (by decide) (growslice_fits (by decide) (by rw [hby]; simpa using hb))
        rw [hr2] at hr
        simp only [Result.ok.injEq] at hr
        rw [← hr.1]
        exact .inr rfl
  · by_cases hroom : l.length + 1 ≤ cap
    · have hr := run_append_room_cells (P := P) w t ty e i ht hi g o l.length cap ad 1 c [.int .i64 (q : Int)] (by rw [hsize]; simp) hnews h1 hroom
        (fun j hj => by simp only [List.length_singleton] at hj; rw [hsize]; have := h4 (l.length + j) (by omega); rwa [show o + l.length * 1 + j = o + (l.length + j) by omega]) (fun j _ => h5 _)
      rw [hsize] at hr
      have hsame : ∀ j, j < cap → j ≠ l.length → (w.setCell ⟨g, o + l.length * 1, none⟩ (.int .i64 (q : Int))).cell? ⟨g, o + j, none⟩ = w.cell? ⟨g, o + j, none⟩ := fun j _ hne =>
        World.cell?_setCell_other _ _ _ _ (fun e => by injection e with _ e2; omega)
      have hlast : (w.setCell ⟨g, o + l.length * 1, none⟩ (.int .i64 (q : Int))).cell? ⟨g, o + l.length, none⟩ = some (.int .i64 (q : Int)) := by
        have h7 := h4 l.length (by omega)
        obtain ⟨u, hu⟩ := Option.isSome_iff_exists.1 h7
        rw [Nat.mul_one]
        exact World.cell?_setCell_same _ _ _ hu
      refine ⟨_, _, hr, .inr ⟨g, o, cap, by simp, hg1, by simpa [World.setCells] using hg2, by simpa using hroom, fun j hj => ?_, fun j => ?_, fun j hj => ?_⟩, ?_, .inl rfl⟩
      · by_cases e : j = l.length
        · subst e
          show ((w.setCell _ _).cell? _).isSome = true
          rw [hlast]; rfl
        · show ((w.setCell _ _).cell? _).isSome = true
          rw [hsame j hj e]; exact h4 j hj
      · show (w.setCell _ _).frozen? _ = false
        rw [World.frozen?_setCell]; exact h5 j
      · by_cases e : j = l.length
        · subst e
          show (w.setCell _ _).cell? _ = _
          rw [hlast]; simp
        · have hj2 : j < l.length := by simp at hj; omega
          show (w.setCell _ _).cell? _ = _
          rw [hsame j (by omega) e, h6 j hj2]
          simp [hj2]
      · exact ⟨rfl, rfl, rfl, by simp [World.setCells], fun k _ hk => Below.heap_setCell _ _ _ _ (fun e => hk (by rw [e]; rfl))⟩
    · have holds : ∀ j u, (l.map fun (x : Nat) => Value.int .i64 (x : Int))[j]? = some u → w.cell? ((⟨g, o, none⟩ : Addr).add j) = some u := fun j u hj => by
        obtain ⟨hj2, e⟩ := List.getElem?_eq_some_iff.1 hj
        rw [Addr.add_lit, h6 j (by simpa using hj2), ← e]
        simp
      obtain ⟨v', w', hr, r1, r2⟩ := run_append_arg_grows (P := P) w t ty e i z 1 bytes ht hi hz hsize hby hzs (by decide) ⟨g, o, none⟩ l.length cap (l.map fun (x : Nat) => Value.int .i64 (x : Int)) (by simp) holds ad 1 c [.int .i64 (q : Int)] (by simp) hnews (by omega) hm hb
      refine ⟨v', w', hr, fin r1 r2 ?_⟩
      have hr2 := run_append_grow (P := P) w t ty e i z ht hi hz ⟨g, o, none⟩ l.length cap (l.map fun (x : Nat) => Value.int .i64 (x : Int)) (by rw [hsize]; simp) holds ad 1 c [.int .i64 (q : Int)] (by rw [hsize]; simp) hnews (by omega) (by simp only [maxLen] at hm; omega) (growslice_fits (by omega) (by rw [hby]; exact hb))
      rw [hr2] at hr
      simp only [Result.ok.injEq] at hr
      rw [← hr.1]
      exact .inr rfl
end
/-- The slice of a queue, written out. -/
theorem QIn.form {w : World} {B : Nat} {v : Value} {l : List Nat} (h : QIn w B v l) : ∃ A c, v = .slice A l.length c := by
  rcases h with ⟨A, rfl, rfl, _⟩ | ⟨g, o, cap, rfl, _⟩
  · exact ⟨A, 0, rfl⟩
  · exact ⟨_, _, rfl⟩
/-- append on a queue, at the operation. -/
theorem wpList_append_queue {P : Program} (w : World) {ops : Array Oper} {rest : List Oper} {o : Oper} {a : Act} {Q : Exit → Act → World → Prop} (hgd : o.guard = none) (s x : Operand) (t : TypeId)
    (ho : o.op = .call { callee := .builtin .append, args := #[s, x], argTypes := #[t, t] })
    (B : Nat) (e : TypeId) (i : TypeInfo) (z : Value) (bytes : Nat) (ht : P.underlying t = some (.slice e)) (hi : P.info? e = some i) (hz : i.zero = some z)
    (hsize : i.size = 1) (hby : i.bytes = bytes) (hzs : z.cells.size = 1)
    (v : Value) (l : List Nat) (q : Nat) (hs : a.eval s = v) (h : QIn w B v l) (hB : B ≤ w.heap.size) (ad : Addr) (c : Nat) (hx : a.eval x = .slice (some ad) 1 c) (had : w.cell? ad = some (.int .i64 (q : Int)))
    (hb : (l.length + 1) * bytes ≤ 140737488355328) (hm : l.length + 1 ≤ maxLen)
    (hK : ∀ v' w', QIn w' B v' (l ++ [q]) → w.grownBy w' v.ownBlock → (v'.ownBlock = v.ownBlock ∨ v'.ownBlock = some w.heap.size) → wpList P ops Q rest (a.put o.dst v') w') : wpList P ops Q (o :: rest) a w :=
  wpList_plain hgd fun _ hK2 => by
    obtain ⟨v', w', hr, h2, h3, h4⟩ := run_append_queue (P := P) t o.type e i z bytes ht hi hz hsize hby hzs h hB ad c had hb hm
    unfold Oper.wp execOp
    simp only [ho, resolve, invoke, builtin, Sem.run_bind, Sem.run_pure, Result.andThen_ok, List.map_toArray, List.map_cons, List.map_nil, hs, hx, hr]
    exact hK2 _ _ (hK v' w' h2 h3 h4)
end Ci
end Go.Proofs.YtpmlhgmmobpilaaGreatDoor
namespace Go.Proofs.YtpmlhgmmobpilaaGreatDoor
open Go.RowKit Go.Shelf
namespace Ci
open Nt
/-- A row of n cells, the first m of which are -1. -/
def mixed (n m : Nat) : List Value := List.replicate m (.int .i64 (-1)) ++ List.replicate (n - m) (.int .i64 0)
theorem mixed_zero (n : Nat) : mixed n 0 = List.replicate n (.int .i64 0) := by simp [mixed]
theorem mixed_all (n : Nat) : mixed n n = List.replicate n (.int .i64 (-1)) := by simp [mixed]
theorem mixed_len {n m : Nat} (h : m ≤ n) : (mixed n m).length = n := by simp [mixed]; omega
theorem mixed_at {n m j : Nat} (h : j < m) : (mixed n m)[j]? = some (.int .i64 (-1)) := by
  unfold mixed
  rw [List.getElem?_append_left (by simpa using h), List.getElem?_replicate, if_pos h]
theorem mixed_splice {n m c : Nat} (h : m + c ≤ n) : splice (mixed n m) m (List.replicate c (.int .i64 (-1))) = mixed n (m + c) := by
  unfold splice mixed
  rw [List.take_left' (by simp), List.length_replicate, List.drop_append, List.drop_eq_nil_of_le (by simp), List.nil_append, List.length_replicate, List.drop_replicate, ← List.append_assoc, List.replicate_append_replicate, show n - m - (m + c - m) = n - (m + c) by omega]
theorem made_mixed (n : Nat) : madeCells #[(.int .i64 0 : Value)] n = (mixed n 0).toArray := by
  rw [mixed_zero]
  unfold madeCells
  apply Array.ext
  · simp
  · intro i h1 h2
    simp
    rw [Nat.mod_one]
    rfl
theorem infoIr : (Tryz.prog.info? 3).map (fun i => (i.zero, i.size, i.bytes)) = some (some (.int .i64 0), 1, 8) := by kernel_rfl
theorem infoI1 : (Tryz.prog.info? 3).map (·.size) = some 1 := by kernel_rfl
set_option maxRecDepth 100000 in
set_option maxHeartbeats 4000000 in
theorem Repeat_any (n b : Nat) (w : World) (hn : n ≤ 1000) (hb : w.cell? ⟨b, 0, none⟩ = some (.int .i64 (-1))) (hbl : b < w.heap.size) :
    Calls Tryz.prog 117 #[.slice (some ⟨b, 0, none⟩) 1 1, .int .i64 (n : Int)] w fun e w' => (e = .returned (.slice (some ⟨w.heap.size, 0, none⟩) n n) ∧ w'.heap[w.heap.size]? = some (.cells (List.replicate n (.int .i64 (-1))).toArray 3 (0, 0))) ∧ Below w.heap.size w w' := by
  have kb : Hid (∀ W, Calls Tryz.prog 158 #[.int .u64 1, .int .u64 (n : Int)] W fun e w' => e = .returned (.tuple #[.int .u64 0, .int .u64 (n : Int)]) ∧ w' = W) := fun W => by
    have h := Tryz.bits_Mul 1 n (by decide) (by omega) W
    have h1 : (1 * n / 18446744073709551616 : Nat) = 0 := by omega
    have h2 : (1 * n % 18446744073709551616 : Nat) = n := by omega
    rw [h1, h2] at h
    exact h
  have hmk := run_make_row' (P := Tryz.prog) 24 3 (.int .i64 0) 8 Tryz.underlying24 infoIr rfl .i64 .i64 n (by omega) (by omega)
  have hg0 : Hid ((w.alloc (.cells (madeCells #[(.int .i64 0 : Value)] n) 3)).heap[w.heap.size]? = some (.cells (mixed n 0).toArray 3 (0, 0))) := by
    have h := heap_alloc_new w (.cells (madeCells #[(.int .i64 0 : Value)] n) 3)
    unfold Hid
    rw [h, made_mixed]
  have hB0 : Hid (Below w.heap.size w (w.alloc (.cells (madeCells #[(.int .i64 0 : Value)] n) 3))) := (Below.refl _ w).alloc (Nat.le_refl _) _
  have hb2 : Hid ((w.alloc (.cells (madeCells #[(.int .i64 0 : Value)] n) 3)).cell? ⟨b, 0, none⟩ = some (.int .i64 (-1))) := (hB0.out.cell (p := ⟨b, 0, none⟩) hbl).trans hb
  have hmin : Hid ((List.replicate (min 1 n) (Value.int .i64 (-1))).length = min 1 n) := List.length_replicate
  have hone : Hid (∀ c, ∀ v ∈ List.replicate c (Value.int .i64 (-1)), v.oneCell' = true) := fun c v hv => by rw [(List.mem_replicate.1 hv).2]; rfl
  have hmix0 : Hid (0 + (List.replicate (min 1 n) (Value.int .i64 (-1))).length ≤ (mixed n 0).length) := by
    unfold Hid
    rw [mixed_len (Nat.zero_le _), List.length_replicate]
    omega
  have hpos : Hid (∀ j v, (List.replicate (min 1 n) (Value.int .i64 (-1)))[j]? = some v → (w.alloc (.cells (madeCells #[(.int .i64 0 : Value)] n) 3)).cell? (Addr.add ⟨b, 0, none⟩ j) = some v) := fun j v hj => by
    rw [List.getElem?_replicate] at hj
    split at hj
    · have h0 : j = 0 := by omega
      subst h0
      rw [Addr.add_zero', ← Option.some.inj hj]
      exact hb2.out
    · cases hj
  have hst : Hid (goInt (List.replicate (min 1 n) (Value.int .i64 (-1))).length = .int .i64 ((min 1 n : Nat) : Int)) := by
    unfold Hid goInt
    rw [List.length_replicate]
  have hsp0 : Hid (splice (mixed n 0) 0 (List.replicate (min 1 n) (Value.int .i64 (-1))) = mixed n (min 1 n)) := by
    have := mixed_splice (n := n) (m := 0) (c := min 1 n) (by omega)
    rwa [Nat.zero_add] at this
  clear hb
  go_enter Tryz.func117, Tryz.ntmps117
  go_wp2_with fail
  refine (kb.out _).mono ?_
  rintro e w2 ⟨rfl, rfl⟩
  go_wp2_with (refine wpList_copy_splice rfl _ _ _ _ rfl 3 Tryz.underlying24 infoI1 _ _ _ _ _ _ rfl rfl w2.heap.size 0 (mixed n 0) 3 hg0.out (List.replicate (min 1 n) (.int .i64 (-1))) hmin.out (fun _ => ⟨rfl, _, rfl, hpos.out⟩) hmix0.out (hone.out _) w2.heap.size w2 hB0.out (Nat.le_refl _) ?_; intro w3 hg3 hb3; rw [hsp0.out] at hg3; rw [hst.out]; replace hb3 := Lib.hid hb3)
  clear hmk hg0 hB0 hb2 hmin hmix0 hpos hst hsp0
  go_loopw [8] (fun m wr => ∃ k : Nat, m = .int .i64 (k : Int) ∧ k ≤ n ∧ (0 < n → 0 < k) ∧ Hid (wr.heap[w2.heap.size]? = some (.cells (mixed n k).toArray 3 (0, 0))) ∧ Hid (Below w2.heap.size w2 wr)) (fun m _ => n - (intOf m).toNat)
  case atStart => exact ⟨min 1 n, rfl, by omega, by omega, hg3, hb3⟩
  case round =>
    obtain ⟨k, rfl, hk, hk0, hg, hB⟩ := hrel
    clear hg3 hb3
    by_cases hlt : k < n
    · have hnk : n ≠ k := by omega
      have hk1 : 0 < k := hk0 (by omega)
      have hmin : Hid ((List.replicate (min k (n - k)) (Value.int .i64 (-1))).length = min k (n - k)) := List.length_replicate
      have hfit : Hid (k + (List.replicate (min k (n - k)) (Value.int .i64 (-1))).length ≤ (mixed n k).length) := by
        unfold Hid
        rw [mixed_len (by omega), List.length_replicate]
        omega
      have hpos : Hid (∀ j v, (List.replicate (min k (n - k)) (Value.int .i64 (-1)))[j]? = some v → wr.cell? (Addr.add ⟨w2.heap.size, 0, none⟩ j) = some v) := fun j v hj => by
        rw [List.getElem?_replicate] at hj
        split at hj
        · rename_i hj2
          rw [Addr.add_lit, ← Option.some.inj hj, Nat.zero_add]
          have h1 : (mixed n k)[j]? = some (.int .i64 (-1)) := mixed_at (by omega)
          have h2 := hg.out
          simp [World.cell?, h2, h1]
        · cases hj
      have hst : Hid (goInt (List.replicate (min k (n - k)) (Value.int .i64 (-1))).length = .int .i64 ((min k (n - k) : Nat) : Int)) := by
        unfold Hid goInt
        rw [List.length_replicate]
      have hsp : Hid (splice (mixed n k) k (List.replicate (min k (n - k)) (Value.int .i64 (-1))) = mixed n (k + min k (n - k))) := mixed_splice (by omega)
      go_wp2
      go_region_law (refine step_copy_splice rfl (.tmp 41) (.tmp 44) 24 24 rfl 3 Tryz.underlying24 infoI1 (some ⟨w2.heap.size, k, none⟩) (some ⟨w2.heap.size, 0, none⟩) (n - k) (n - k) k n (by simp [Act.eval, Act.put]) (by simp [Act.eval, Act.put]) w2.heap.size k (mixed n k) 3 hg.out (List.replicate (min k (n - k)) (.int .i64 (-1))) hmin.out (fun _ => ⟨rfl, _, rfl, hpos.out⟩) hfit.out (hone.out _) w2.heap.size w2 hB.out.drew (Nat.le_refl _) ?_; intro w4 hg4 hb4; rw [hsp.out] at hg4; rw [hst.out]; replace hb4 := Lib.hid hb4)
      clear hmin hfit hpos hst hsp hg hB
      have hwr : IntKind.i64.wrap ((k : Int) + ((min k (n - k) : Nat) : Int)) = ((k + min k (n - k) : Nat) : Int) := by
        rw [IntKind.wrap_i64]; omega
      simp only [hwr]
      dsimp only [Act.put, List.getElem_toArray, List.getElem_cons_succ, List.getElem_cons_zero]
      simp only [List.setIfInBounds_toArray, List.set_cons_succ, List.set_cons_zero]
      go_wp2
      go_roundw
      case rel => exact ⟨k + min k (n - k), by go_num, by omega, by omega, hg4, hb4⟩
      case measure => simp only [intOf]; omega
    · obtain rfl : k = n := by omega
      have hG : Hid (wr.heap[w2.heap.size]? = some (.cells (List.replicate k (.int .i64 (-1))).toArray 3 (0, 0))) := by
        have h := hg.out
        rwa [mixed_all] at h
      go_wp2
      go_ret
      exact ⟨⟨rfl, hG.out⟩, hB.out⟩
end Ci
end Go.Proofs.YtpmlhgmmobpilaaGreatDoor
namespace Go.Proofs.YtpmlhgmmobpilaaGreatDoor
open Go.RowKit Go.Shelf
namespace Ci
open Nt
theorem ints_ne {a b : List Int} {k : Nat} (h1 : k < a.length) (h2 : k < b.length) (h : a[k] ≠ b[k]) : decide (a = b) = false := decide_eq_false fun e => h (by simp only [e])
theorem ints_eq {a b : List Int} (hl : a.length = b.length) (h : ∀ k (h1 : k < a.length) (h2 : k < b.length), a[k] = b[k]) : decide (a = b) = true := decide_eq_true (List.ext_getElem hl h)
set_option maxRecDepth 100000 in
set_option maxHeartbeats 4000000 in
theorem Ints_any (A B : Option Addr) (ca cb : Nat) (a b : List Int) (w : World) (hA : InInt w A a) (hB : InInt w B b) (ha : a.length ≤ 140737488355328) :
    Calls Tryz.prog 34 #[.slice A a.length ca, .slice B b.length cb] w fun e w' => e = .returned (.bool (decide (a = b))) ∧ ∃ q, w' = w.drewN q := by
  by_cases hl : a.length = b.length
  · have hN := Lib.hid (fun (k : Nat) (h1 : k < a.length) (h2 : k < b.length) => ints_ne (a := a) (b := b) h1 h2)
    have hY := Lib.hid (ints_eq (a := a) (b := b) hl)
    rw [← hl]
    have m1 : ((a.length : Int) != (a.length : Int)) = false := by simp
    replace hl := Lib.hid hl
    replace hA := Lib.hid hA
    replace hB := Lib.hid hB
    go_enter Tryz.func34, Tryz.ntmps34
    go_wp2
    go_loopw [5] (fun i wr => ∃ k q : Nat, k ≤ a.length ∧ i = .int .i64 (k : Int) ∧ wr = w.drewN q ∧ Hid (∀ j (h1 : j < a.length) (h2 : j < b.length), j < k → a[j] = b[j])) (fun i _ => a.length - (intOf i).toNat)
    case atStart => exact ⟨0, 0, Nat.zero_le _, rfl, rfl, fun j _ _ h => absurd h (Nat.not_lt_zero _)⟩
    case round =>
      obtain ⟨k, q, hk, rfl, rfl, hI⟩ := hrel
      by_cases hlt : k < a.length
      · have hlb : k < b.length := by rw [← hl.out]; exact hlt
        obtain ⟨b1, o1, rfl, hb1, hc1⟩ := hA.out (by omega)
        obtain ⟨b2, o2, rfl, hb2, hc2⟩ := hB.out (by omega)
        have e1 : (w.drewN q).cell? ⟨b1, o1 + k, none⟩ = some (.int .i64 a[k]) := hc1 k hlt
        have e2 : (w.drewN q).cell? ⟨b2, o2 + k, none⟩ = some (.int .i64 b[k]) := hc2 k hlb
        have hNk := Lib.hid (hN.out k hlt hlb)
        have hIk : Hid (a[k] = b[k] → ∀ j (h1 : j < a.length) (h2 : j < b.length), j < k + 1 → a[j] = b[j]) := fun h j h1 h2 h3 => by
          by_cases e : j = k
          · subst e; exact h
          · exact hI.out j h1 h2 (by omega)
        obtain ⟨x, hx⟩ : ∃ x, x = a[k] := ⟨_, rfl⟩
        obtain ⟨y, hy⟩ : ∃ y, y = b[k] := ⟨_, rfl⟩
        rw [← hx] at e1 hNk hIk
        rw [← hy] at e2 hNk hIk
        have j0 : (0 : Int) ≤ (k : Int) := by omega
        have j1 : (k : Int) < (a.length : Int) := by omega
        clear hc1 hc2 hI hx hy
        generalize hwq : w.drewN q = wq at *
        replace hwq := Lib.hid hwq
        by_cases hxy : x = y
        · have m2 : (x != y) = false := by rw [bne_eq_false_iff_eq]; exact hxy
          have hI2 := Lib.hid (hIk.out hxy)
          replace hxy := Lib.hid hxy
          go_wp2_with fail
          go_quiet (fail)
          go_wp2
          refine ⟨⟨k + 1, q + nq, by omega, by go_num, by rw [← hwq.out, World.drewN_drewN], hI2⟩, by simp only [intOf]; omega⟩
        · have m2 : (x != y) = true := by rw [bne_iff_ne]; exact hxy
          have hG := Lib.hid (hNk.out hxy)
          replace hxy := Lib.hid hxy
          go_wp2_with fail
          go_quiet (fail)
          go_wp2
          go_ret
          exact ⟨ret_bool hG.out.symm, q + nq, by rw [← hwq.out, World.drewN_drewN]⟩
      · obtain rfl : k = a.length := by omega
        have hG := Lib.hid (hY.out fun j h1 h2 => hI.out j h1 h2 h1)
        generalize hwq : w.drewN q = wq at *
        replace hwq := Lib.hid hwq
        go_wp2
        go_ret
        exact ⟨ret_bool hG.out.symm, q, hwq.out.symm⟩
  · have hG : Hid (decide (a = b) = false) := decide_eq_false fun e => hl (by rw [e])
    have h1 : ((a.length : Int) == (b.length : Int)) = false := by rw [beq_eq_false_iff_ne]; omega
    have h2 : ((a.length : Int) != (b.length : Int)) = true := by rw [bne_iff_ne]; omega
    have h3 : (a.length == b.length) = false := by rw [beq_eq_false_iff_ne]; exact hl
    clear hA hB
    go_enter Tryz.func34, Tryz.ntmps34
    go_wp2
    go_ret
    exact ⟨ret_bool hG.out.symm, 0, rfl⟩
end Ci
end Go.Proofs.YtpmlhgmmobpilaaGreatDoor
namespace Go.Proofs.YtpmlhgmmobpilaaGreatDoor
open Go.RowKit Go.Shelf
namespace Ci
open Nt
def LstAt (n : Int) (l : List Int) (k : Nat) (h : k < l.length) : Prop := (0 ≤ l[k] ∧ l[k] < n) ∧ (0 < k → l[k - 1]'(by omega) < l[k])
instance (n : Int) (l : List Int) (k : Nat) (h : k < l.length) : Decidable (LstAt n l k h) := inferInstanceAs (Decidable (_ ∧ _))
/-- A strictly increasing list of parties. -/
def listB (n : Int) (l : List Int) : Bool := decide (∀ k (h : k < l.length), LstAt n l k h)
theorem list_bad {n : Int} {l : List Int} {k : Nat} (h : k < l.length) (hb : ¬ LstAt n l k h) : listB n l = false := decide_eq_false fun hc => hb (hc k h)
theorem list_all {n : Int} {l : List Int} (h : ∀ k (h : k < l.length), LstAt n l k h) : listB n l = true := decide_eq_true h
set_option maxRecDepth 100000 in
set_option maxHeartbeats 4000000 in
theorem List_any (A : Option Addr) (ca : Nat) (n : Int) (l : List Int) (w : World) (hA : InInt w A l) (hl : l.length ≤ 140737488355328) :
    Calls Tryz.prog 74 #[.int .i64 n, .slice A l.length ca] w fun e w' => e = .returned (.bool (listB n l)) ∧ ∃ q, w' = w.drewN q := by
  have hNB := Lib.hid (fun (k : Nat) (h : k < l.length) (hb : ¬ LstAt n l k h) => list_bad h hb)
  have hNA := Lib.hid (list_all (n := n) (l := l))
  replace hA := Lib.hid hA
  go_enter Tryz.func74, Tryz.ntmps74
  go_wp2
  go_loopw [5] (fun i wr => ∃ k q : Nat, k ≤ l.length ∧ i = .int .i64 (k : Int) ∧ wr = w.drewN q ∧ Hid (∀ j (h : j < l.length), j < k → LstAt n l j h)) (fun i _ => l.length - (intOf i).toNat)
  case atStart => exact ⟨0, 0, Nat.zero_le _, rfl, rfl, fun j _ h => absurd h (Nat.not_lt_zero _)⟩
  case round =>
    obtain ⟨k, q, hk, rfl, rfl, hI⟩ := hrel
    by_cases hlt : k < l.length
    · obtain ⟨b1, o1, rfl, hb1, hc1⟩ := hA.out (by omega)
      have e1 : (w.drewN q).cell? ⟨b1, o1 + k, none⟩ = some (.int .i64 l[k]) := hc1 k hlt
      have e0 : Hid (0 < k → (w.drewN q).cell? ⟨b1, o1 + (k - 1), none⟩ = some (.int .i64 (l[k - 1]'(by omega)))) := fun h => hc1 (k - 1) (by omega)
      have hNk := Lib.hid (hNB.out k hlt)
      have hIk : Hid (LstAt n l k hlt → ∀ j (h : j < l.length), j < k + 1 → LstAt n l j h) := fun h j h1 h3 => by
        by_cases e : j = k
        · subst e; exact h
        · exact hI.out j h1 (by omega)
      have hLA : Hid (LstAt n l k hlt ↔ (0 ≤ l[k] ∧ l[k] < n) ∧ (0 < k → l[k - 1]'(by omega) < l[k])) := Iff.rfl
      obtain ⟨x, hx⟩ : ∃ x, x = l[k] := ⟨_, rfl⟩
      rw [← hx] at e1 hLA
      have j0 : (0 : Int) ≤ (k : Int) := by omega
      have j1 : (k : Int) < (l.length : Int) := by omega
      clear hc1 hI hx
      generalize hwq : w.drewN q = wq at *
      replace hwq := Lib.hid hwq
      have hcl : x < 0 ∨ (0 ≤ x ∧ n ≤ x) ∨ (0 ≤ x ∧ x < n) := by omega
      rcases hcl with h1 | ⟨h1, h2⟩ | ⟨h1, h2⟩
      · have hG := Lib.hid (hNk.out fun h => by have := (hLA.out.1 h).1.1; omega)
        have m1 : decide (x < 0) = true := decide_eq_true h1
        go_wp2_with fail
        go_quiet (fail)
        go_wp2
        go_ret
        exact ⟨ret_bool hG.out.symm, q + nq, by rw [← hwq.out, World.drewN_drewN]⟩
      · have hG := Lib.hid (hNk.out fun h => by have := (hLA.out.1 h).1.2; omega)
        have m1 : decide (x < 0) = false := decide_eq_false (by omega)
        have m2 : decide (n ≤ x) = true := decide_eq_true h2
        go_wp2_with fail
        go_quiet (fail)
        go_wp2
        go_ret
        exact ⟨ret_bool hG.out.symm, q + nq, by rw [← hwq.out, World.drewN_drewN]⟩
      · have m1 : decide (x < 0) = false := decide_eq_false (by omega)
        have m2 : decide (n ≤ x) = false := decide_eq_false (by omega)
        by_cases hk0 : k = 0
        · have m3 : decide (0 < (k : Int)) = false := decide_eq_false (by omega)
          have m4 : decide (0 < k) = false := decide_eq_false (by omega)
          have hI2 := Lib.hid (hIk.out (hLA.out.2 ⟨⟨h1, h2⟩, fun h => by omega⟩))
          replace hk0 := Lib.hid hk0
          go_wp2_with fail
          go_quiet (fail)
          go_wp2
          refine ⟨⟨k + 1, q + nq, by omega, by go_num, by rw [← hwq.out, World.drewN_drewN], hI2⟩, by simp only [intOf]; omega⟩
        · have m3 : decide (0 < (k : Int)) = true := decide_eq_true (by omega)
          have m4 : decide (0 < k) = true := decide_eq_true (by omega)
          have e2 := e0.out (by omega)
          obtain ⟨y, hy⟩ : ∃ y, y = l[k - 1]'(by omega) := ⟨_, rfl⟩
          rw [← hy] at e2
          have j2 : (0 : Int) ≤ (k : Int) - 1 := by omega
          have j3 : (k : Int) - 1 < (l.length : Int) := by omega
          have j4 : IntKind.i64.wrap ((k : Int) - 1) = (k : Int) - 1 := IntWalk.i64_in _ (by omega)
          have j5 : ((k : Int) - 1).toNat = k - 1 := by omega
          by_cases hxy : y < x
          · have m5 : decide (x ≤ y) = false := decide_eq_false (by omega)
            have hI2 := Lib.hid (hIk.out (hLA.out.2 ⟨⟨h1, h2⟩, fun _ => by rw [← hy]; exact hxy⟩))
            replace hy := Lib.hid hy
            go_wp2_with fail
            go_quiet (fail)
            clear j4 j5
            go_wp2
            refine ⟨⟨k + 1, q + nq, by omega, by go_num, by rw [← hwq.out, World.drewN_drewN], hI2⟩, by simp only [intOf]; omega⟩
          · have m5 : decide (x ≤ y) = true := decide_eq_true (by omega)
            have hG := Lib.hid (hNk.out fun h => by have h3 := (hLA.out.1 h).2 (by omega); rw [← hy] at h3; omega)
            replace hy := Lib.hid hy
            go_wp2_with fail
            go_quiet (fail)
            clear j4 j5
            go_wp2
            go_ret
            exact ⟨ret_bool hG.out.symm, q + nq, by rw [← hwq.out, World.drewN_drewN]⟩
    · obtain rfl : k = l.length := by omega
      have hG := Lib.hid (hNA.out fun j h => hI.out j h h)
      generalize hwq : w.drewN q = wq at *
      replace hwq := Lib.hid hwq
      go_wp2
      go_ret
      exact ⟨ret_bool hG.out.symm, q, hwq.out.symm⟩
end Ci
end Go.Proofs.YtpmlhgmmobpilaaGreatDoor
namespace Go.Proofs.YtpmlhgmmobpilaaGreatDoor
open Go.RowKit Go.Shelf
namespace Ci
open Nt
/-- A list of lists in memory: where each lies, its capacity, and what it holds. -/
def InLs (W : World) (A : Option Addr) (l : List (Option Addr × Nat × List Int)) : Prop :=
  0 < l.length → ∃ b off, A = some ⟨b, off, none⟩ ∧ b < W.heap.size ∧ ∀ j (h : j < l.length), W.cell? ⟨b, off + j, none⟩ = some (.slice l[j].1 l[j].2.2.length l[j].2.1) ∧ InInt W l[j].1 l[j].2.2 ∧ l[j].2.2.length ≤ 140737488355328
def bare (l : List (Option Addr × Nat × List Int)) : List (List Int) := l.map fun x => x.2.2
end Ci
end Go.Proofs.YtpmlhgmmobpilaaGreatDoor
namespace Go.Proofs.YtpmlhgmmobpilaaGreatDoor
open Go.RowKit Go.Shelf
namespace Ci
open Nt
def LkSz (x : Lk) : Prop := x.2.2.2.1.size ≤ 400 ∧ x.2.2.2.2.size ≤ 400
instance (x : Lk) : Decidable (LkSz x) := inferInstanceAs (Decidable (_ ∧ _))
end Ci
end Go.Proofs.YtpmlhgmmobpilaaGreatDoor
namespace Go.Proofs.YtpmlhgmmobpilaaGreatDoor
open Go.RowKit Go.Shelf
namespace Ci
open Nt
def lksL (l : List Lk) : List Value := (l.map lkL).flatten
theorem lkL_length (x : Lk) : (lkL x).length = 5 := rfl
theorem lksL_cons (x : Lk) (l : List Lk) : lksL (x :: l) = lkL x ++ lksL l := rfl
theorem lksL_snoc (l : List Lk) (x : Lk) : lksL (l ++ [x]) = lksL l ++ lkL x := by
  unfold lksL
  rw [List.map_append, List.flatten_append]
  simp
theorem lksL_get : ∀ (l : List Lk) (j f : Nat) (hj : j < l.length), f < 5 → (lksL l)[j * 5 + f]? = (lkL l[j])[f]? := by
  intro l
  induction l with
  | nil => intro j f hj; exact absurd hj (Nat.not_lt_zero _)
  | cons a l ih =>
    intro j f hj hf
    rw [lksL_cons]
    cases j with
    | zero =>
      rw [List.getElem?_append_left (by rw [lkL_length]; omega)]
      simp
    | succ j =>
      rw [List.getElem?_append_right (by rw [lkL_length]; omega), lkL_length, show (j + 1) * 5 + f - 5 = j * 5 + f by omega, ih j f (by simpa using hj) hf]
      simp
def zeroL : Value := .agg #[.int .i64 0, .int .i64 0, .bool false, .string ⟨#[]⟩, .string ⟨#[]⟩]
theorem infoL : (Tryz.prog.info? 94).map (fun i => (i.zero, i.size, i.bytes)) = some (some zeroL, 5, 56) := by kernel_rfl
section
variable {W W' : World} {base n : Nat} {e : TypeId} {u : Value} {l : List Lk}
theorem own_lks (h : W.ownsRow base e 5 u l.length (lksL l)) : ∃ A cap, u = .slice A l.length cap ∧ InLk W A l := by
  rcases h.2 with ⟨rfl, h0⟩ | ⟨g, cap, cur, rfl, hb, hg, _⟩
  · refine ⟨none, 0, by rw [h0], fun hl => by omega⟩
  · refine ⟨_, cap, rfl, fun hl => ⟨g, 0, rfl, (Array.getElem?_eq_some_iff.1 hg).1, fun j hj => ?_⟩⟩
    have hadd : ∀ o, (⟨g, 0, none⟩ : Addr).add o = ⟨g, o, none⟩ := fun o => by unfold Addr.add; split <;> simp_all
    have key : ∀ f v, f < 5 → (lkL l[j])[f]? = some v → W.cell? ⟨g, j * 5 + f, none⟩ = some v := fun f v hf hv => by
      have hc := h.cells (g := g) (by simp [Value.ownBlock]) (j * 5 + f) v (by rw [lksL_get l j f hj hf]; exact hv)
      rwa [hadd] at hc
    simp only [Nat.zero_add]
    exact ⟨key 0 _ (by omega) rfl, key 1 _ (by omega) rfl, key 2 _ (by omega) rfl, key 3 _ (by omega) rfl, key 4 _ (by omega) rfl⟩
/-- The five cells of a link that was just laid. -/
theorem head_lk (w : World) (x : Lk) (t : TypeId) : ∀ j u, (lkL x)[j]? = some u → (w.alloc (.cells #[.int .i64 x.1, .int .i64 x.2.1, .bool x.2.2.1, .string x.2.2.2.1, .string x.2.2.2.2] t)).cell? (Addr.add ⟨w.heap.size, 0, none⟩ j) = some u := by
  intro j u hj
  have hadd : (⟨w.heap.size, 0, none⟩ : Addr).add j = ⟨w.heap.size, j, none⟩ := by unfold Addr.add; split <;> simp_all
  rw [hadd]
  simp only [World.cell?, heap_alloc_new]
  simp only [lkL] at hj
  match j, hj with
  | 0, hj => simpa using hj
  | 1, hj => simpa using hj
  | 2, hj => simpa using hj
  | 3, hj => simpa using hj
  | 4, hj => simpa using hj
  | j + 5, hj => simp at hj
theorem one_lk (x : Lk) : ∀ u ∈ lkL x, u.oneCell' = true := by
  intro u hu
  simp only [lkL, List.mem_cons, List.not_mem_nil, or_false] at hu
  rcases hu with rfl | rfl | rfl | rfl | rfl <;> rfl
end
end Ci
end Go.Proofs.YtpmlhgmmobpilaaGreatDoor

namespace Go.Proofs.YtpmlhgmmobpilaaGreatDoor
open Go.RowKit Go.Shelf
namespace Ci
open Nt
def toN (F : List Int) : List Nat := F.map Int.toNat
/-- What Ranks gives. -/
def RkPost (s : SR) (F : List Int) (w : World) (e : Ending) (w' : World) : Prop :=
  (if soundB s = true ∧ listB s.ps.length F = true then ∃ b, e = .returned (.tuple #[.slice (some ⟨b, 0, none⟩) s.ps.length s.ps.length, .int .i64 0]) ∧ w.heap.size ≤ b ∧ RoI w' b s.ps.length (rk (edges s) (toN F))
    else e = .returned (.tuple #[.slice none 0 0, .int .i64 1])) ∧ Below w.heap.size w w'
theorem lst_at {n : Int} {l : List Int} (h : listB n l = true) {k : Nat} (hk : k < l.length) : LstAt n l k hk := of_decide_eq_true h k hk
theorem toN_at {n : Int} {F : List Int} (h : listB n F = true) {k : Nat} (hk : k < F.length) : ∃ p : Nat, F[k] = (p : Int) ∧ (p : Int) < n ∧ (toN F)[k]? = some p := by
  have h1 := (lst_at h hk).1
  refine ⟨F[k].toNat, by omega, by omega, by simp [toN, hk]⟩
theorem toN_in {n : Nat} {F : List Int} (h : listB n F = true) {p : Nat} (hp : p ∈ toN F) : p < n := by
  obtain ⟨x, hx, rfl⟩ := List.mem_map.1 hp
  obtain ⟨k, hk, rfl⟩ := List.getElem_of_mem hx
  have := (lst_at h hk).1
  omega
theorem toN_sorted {n : Nat} {F : List Int} (h : listB n F = true) : (toN F).Pairwise (· < ·) := by
  have hs : ∀ (i j : Nat) (hi : i < F.length) (hj : j < F.length), i < j → F[i] < F[j] := by
    intro i j hi hj hij
    induction j with
    | zero => omega
    | succ j ih =>
      have h1 := (lst_at h hj).2 (by omega)
      simp only [Nat.add_sub_cancel] at h1
      by_cases e : i = j
      · subst e; exact h1
      · have := ih (by omega) (by omega)
        omega
  unfold toN
  rw [List.pairwise_map]
  refine List.pairwise_iff_getElem.2 fun i j hi hj hij => ?_
  have := hs i j hi hj hij
  have := (lst_at h hi).1
  have := (lst_at h hj).1
  omega
theorem toN_nodup {n : Nat} {F : List Int} (h : listB n F = true) : (toN F).Nodup := (toN_sorted h).imp fun h => Nat.ne_of_lt h
theorem own_in {W : World} {base : Nat} {e : TypeId} {u : Value} {l : List Nat} (h : W.ownsRow base e 1 u l.length (intsL l)) :
    ∃ A cap, u = .slice A l.length cap ∧ ∀ j (hj : j < l.length), ∃ g, A = some ⟨g, 0, none⟩ ∧ g < W.heap.size ∧ W.cell? ⟨g, j, none⟩ = some (.int .i64 (l[j] : Int)) := by
  rcases own_ints h with ⟨rfl, rfl⟩ | ⟨g, cap, rfl, _, h1, _, h2⟩
  · exact ⟨none, 0, rfl, fun j hj => absurd hj (Nat.not_lt_zero _)⟩
  · exact ⟨_, cap, rfl, fun j hj => ⟨g, rfl, h1, h2 j hj⟩⟩
/-- slices.Clone of parties. -/
theorem Clone_any (A : Option Addr) (c : Nat) (F : List Int) (w : World) (hF : InInt w A F) (h0 : ∀ x, x ∈ F → 0 ≤ x) (hl : F.length ≤ 1000) :
    Calls Tryz.prog 122 #[.slice A F.length c] w fun e w' => (∃ v, e = .returned v ∧ QIn w' w.heap.size v (toN F)) ∧ Below w.heap.size w w' := by
  by_cases h : 0 < F.length
  · obtain ⟨b, o, rfl, hb, hc⟩ := hF h
    have hz : ∀ j, j < F.length → w.cell? ⟨b, o + j, none⟩ = some (.int .i64 (F.getD j 0)) := fun j hj => by
      rw [hc j hj]
      simp [hj]
    refine (Tryz.slices_Clone_int b o F.length c F w (Nat.le_refl _) (by omega) hz).mono ?_
    rintro e w' ⟨v, rfl, ho, _, hbw⟩
    refine ⟨⟨v, rfl, QIn.of_row (e := 3) ?_⟩, hbw⟩
    have e1 : (toN F).length = F.length := by simp [toN]
    have e2 : ((toN F).map fun (q : Nat) => Value.int .i64 (q : Int)) = F.map (Value.int .i64) := by
      unfold toN
      rw [List.map_map]
      refine List.map_congr_left fun x hx => ?_
      have := h0 x hx
      simp only [Function.comp_apply]
      congr 1
      omega
    rw [e1, e2]
    simpa using ho
  · have h1 : F = [] := List.length_eq_zero_iff.1 (by omega)
    subst h1
    cases A with
    | none =>
      refine (Tryz.slices_Clone_int_nil 0 c w).mono ?_
      rintro e w' ⟨rfl, rfl⟩
      exact ⟨⟨_, rfl, .inl ⟨none, rfl, rfl, fun b hb => by cases hb⟩⟩, Below.refl _ _⟩
    | some a =>
      refine (Tryz.slices_Clone_int_zero a c w).mono ?_
      rintro e w' ⟨v, rfl, ho, _, hb⟩
      exact ⟨⟨v, rfl, QIn.of_row (e := 3) (by simpa [toN] using ho)⟩, hb⟩
theorem head1 (w : World) (v : Value) (t : TypeId) : (w.alloc (.cells #[v] t)).cell? ⟨w.heap.size, 0, none⟩ = some v := by
  have := head_new w v t 0 v rfl
  rwa [Addr.add_zero'] at this
theorem negs_lt {n p : Nat} {o : Nat → Int} (hp : p < n) (h : 0 ≤ o p) : negs n o + 1 ≤ n := by
  have h1 := filter_lt (f := fun x => decide (o x < 0)) (g := fun _ => true) (l := List.range n) (fun _ _ _ => rfl) ⟨p, List.mem_range.2 hp, decide_eq_false (by omega), rfl⟩
  have h2 : (List.filter (fun _ => true) (List.range n)).length = n := by
    rw [List.filter_eq_self.2 fun _ _ => rfl, List.length_range]
  rw [h2] at h1
  exact h1
theorem negs_le (n : Nat) (o : Nat → Int) : negs n o ≤ n := by
  have := List.length_filter_le (fun x => decide (o x < 0)) (List.range n)
  rw [List.length_range] at this
  exact this
/-- No rank is as great as the number of those that have one. -/
def Bd (n : Nat) (o : Nat → Int) : Prop := ∀ x, x < n → o x + (negs n o : Int) < n
theorem Bd.start {n : Nat} {F : List Nat} {o : Nat → Int} (h : ∀ x, o x = if x ∈ F then 0 else -1) : Bd n o := fun x hx => by
  by_cases e : x ∈ F
  · have h1 : o x = 0 := by rw [h x, if_pos e]
    have := negs_lt hx (by omega : 0 ≤ o x)
    omega
  · have h1 : o x = -1 := by rw [h x, if_neg e]
    have := negs_le n o
    omega
theorem Bd.set {n p q : Nat} {o : Nat → Int} (h : Bd n o) (hp : p < n) (hq : q < n) (h0 : o q < 0) (hv : 0 ≤ o p) : Bd n (setI o q (o p + 1)) := fun x hx => by
  have h1 := negs_set hq h0 (v := o p + 1) (by omega)
  have h2 := h p hp
  have h3 := h x hx
  by_cases e : x = q
  · rw [e, setI_same]; omega
  · rw [setI_other e]; omega
def ini (F : List Nat) (k : Nat) (x : Nat) : Int := if x ∈ F.take k then 0 else -1
theorem ini_succ {F : List Nat} {k p : Nat} (h : F[k]? = some p) (x : Nat) : setI (ini F k) p 0 x = ini F (k + 1) x := by
  unfold setI ini
  obtain ⟨hk, rfl⟩ := List.getElem?_eq_some_iff.1 h
  have hm : x ∈ F.take (k + 1) ↔ x ∈ F.take k ∨ x = F[k] := by
    rw [List.take_succ_eq_append_getElem hk, List.mem_append, List.mem_singleton]
  by_cases e : x = F[k]
  · rw [if_pos e, if_pos (hm.2 (.inr e))]
  · rw [if_neg e]
    by_cases e2 : x ∈ F.take k
    · rw [if_pos e2, if_pos (hm.2 (.inl e2))]
    · rw [if_neg e2, if_neg fun c => (hm.1 c).elim e2 e]
theorem ini_all (F : List Nat) (x : Nat) : ini F F.length x = if x ∈ F then 0 else -1 := by unfold ini; rw [List.take_length]
set_option maxRecDepth 100000 in
set_option maxHeartbeats 16000000 in
theorem Ranks_any (s : SR) (Ap Ac Av Af : Option Addr) (cp cc cv cf : Nat) (F : List Int) (w : World) (hE : Env w) (hs : StIn w s Ap Ac Av) (hc3 : s.cap.length ≤ 300) (hF : InInt w Af F) (hFl : F.length ≤ 140737488355328) :
    Calls Tryz.prog 81 #[.agg #[.slice Ap s.ps.length cp, .slice Ac s.cap.length cc, .slice Av s.vot.length cv], .slice Af F.length cf] w (RkPost s F w) := by
  have hp47 := hs.np
  have hNB := Lib.hid (fun (k : Nat) (h : k < F.length) (hb : ¬ LstAt s.ps.length F k h) => list_bad h hb)
  have hNA := Lib.hid (list_all (n := (s.ps.length : Int)) (l := F))
  have hX0 : Hid (Bk (w.alloc (.cells #[.slice Ap s.ps.length cp, .slice Ac s.cap.length cc, .slice Av s.vot.length cv] 54)) w.heap.size 54 (SC s Ap Ac Av cp cc cv)) := Bk.new w _ _
  have hB0 : Hid (Below w.heap.size w (w.alloc (.cells #[.slice Ap s.ps.length cp, .slice Ac s.cap.length cc, .slice Av s.vot.length cv] 54))) := (Below.refl _ w).alloc (Nat.le_refl _) _
  have hBad : Hid (∀ e w', (¬ (soundB s = true ∧ listB s.ps.length F = true)) → e = .returned (.tuple #[.slice none 0 0, .int .i64 1]) → Below w.heap.size w w' → RkPost s F w e w') := fun e w' h1 h2 h3 => ⟨by rw [if_neg h1]; exact h2, h3⟩
  have u0 := hX0.out.cell (j := 0) rfl
  have u9 := hX0.out.lt
  replace hE := Lib.hid hE
  replace hs := Lib.hid hs
  replace hF := Lib.hid hF
  go_enter Tryz.func81, Tryz.ntmps81
  go_wp2
  obtain ⟨wa, hwa⟩ : ∃ x, x = w.alloc (.cells #[.slice Ap s.ps.length cp, .slice Ac s.cap.length cc, .slice Av s.vot.length cv] 54) := ⟨_, rfl⟩
  rw [← hwa] at hX0 hB0 ⊢
  clear u0 u9 hwa
  go_loop [22] (fun i => ∃ k : Nat, k ≤ F.length ∧ i = .int .i64 (k : Int) ∧ Hid (∀ j (h : j < F.length), j < k → LstAt s.ps.length F j h)) (fun i => F.length - (intOf i).toNat)
  case atStart => exact ⟨0, Nat.zero_le _, rfl, fun j _ h => absurd h (Nat.not_lt_zero _)⟩
  case round =>
    obtain ⟨k, hk, rfl, hI⟩ := hrel
    by_cases hlt : k < F.length
    · obtain ⟨b1, o1, rfl, hb1, hc1⟩ := (hF.out.below hB0.out) (by omega)
      have e1 := hc1 k hlt
      have e0 : Hid (0 < k → wa.cell? ⟨b1, o1 + (k - 1), none⟩ = some (.int .i64 (F[k - 1]'(by omega)))) := fun h => hc1 (k - 1) (by omega)
      have hNk := Lib.hid (hNB.out k hlt)
      have hIk : Hid (LstAt s.ps.length F k hlt → ∀ j (h : j < F.length), j < k + 1 → LstAt s.ps.length F j h) := fun h j h1 h3 => by
        by_cases e : j = k
        · subst e; exact h
        · exact hI.out j h1 (by omega)
      have hLA : Hid (LstAt s.ps.length F k hlt ↔ (0 ≤ F[k] ∧ F[k] < s.ps.length) ∧ (0 < k → F[k - 1]'(by omega) < F[k])) := Iff.rfl
      obtain ⟨x, hx⟩ : ∃ x, x = F[k] := ⟨_, rfl⟩
      rw [← hx] at e1 hLA
      have j0 : (0 : Int) ≤ (k : Int) := by omega
      have j1 : (k : Int) < (F.length : Int) := by omega
      clear hc1 hI hx
      have hcl : x < 0 ∨ (0 ≤ x ∧ (s.ps.length : Int) ≤ x) ∨ (0 ≤ x ∧ x < s.ps.length) := by omega
      rcases hcl with h1 | ⟨h1, h2⟩ | ⟨h1, h2⟩
      · have hG := Lib.hid (hNk.out fun h => by have := (hLA.out.1 h).1.1; omega)
        have m1 : decide (x < 0) = true := decide_eq_true h1
        go_wp2
        go_ret2
        exact hBad.out _ _ (fun h => by rw [hG.out] at h; cases h.2) rfl hB0.out
      · have hG := Lib.hid (hNk.out fun h => by have := (hLA.out.1 h).1.2; omega)
        have m1 : decide (x < 0) = false := decide_eq_false (by omega)
        have m2 : decide ((s.ps.length : Int) ≤ x) = true := decide_eq_true h2
        go_wp2
        go_ret2
        exact hBad.out _ _ (fun h => by rw [hG.out] at h; cases h.2) rfl hB0.out
      · have m1 : decide (x < 0) = false := decide_eq_false (by omega)
        have m2 : decide ((s.ps.length : Int) ≤ x) = false := decide_eq_false (by omega)
        by_cases hk0 : k = 0
        · have m3 : decide (0 < (k : Int)) = false := decide_eq_false (by omega)
          have m4 : decide (0 < k) = false := decide_eq_false (by omega)
          have hI2 := Lib.hid (hIk.out (hLA.out.2 ⟨⟨h1, h2⟩, fun h => by omega⟩))
          replace hk0 := Lib.hid hk0
          go_wp2
          go_round
          case rel => exact ⟨k + 1, by omega, by go_num, hI2⟩
          case measure => simp [intOf]; omega
        · have m3 : decide (0 < (k : Int)) = true := decide_eq_true (by omega)
          have m4 : decide (0 < k) = true := decide_eq_true (by omega)
          have e2 := e0.out (by omega)
          obtain ⟨y, hy⟩ : ∃ y, y = F[k - 1]'(by omega) := ⟨_, rfl⟩
          rw [← hy] at e2
          have j2 : (0 : Int) ≤ (k : Int) - 1 := by omega
          have j3 : (k : Int) - 1 < (F.length : Int) := by omega
          have j4 : IntKind.i64.wrap ((k : Int) - 1) = (k : Int) - 1 := IntWalk.i64_in _ (by omega)
          have j5 : ((k : Int) - 1).toNat = k - 1 := by omega
          by_cases hxy : y < x
          · have m5 : decide (x ≤ y) = false := decide_eq_false (by omega)
            have hI2 := Lib.hid (hIk.out (hLA.out.2 ⟨⟨h1, h2⟩, fun _ => by rw [← hy]; exact hxy⟩))
            replace hy := Lib.hid hy
            go_wp2
            go_round
            case rel => exact ⟨k + 1, by omega, by go_num, hI2⟩
            case measure => simp [intOf]; omega
          · have m5 : decide (x ≤ y) = true := decide_eq_true (by omega)
            have hG := Lib.hid (hNk.out fun h => by have h3 := (hLA.out.1 h).2 (by omega); rw [← hy] at h3; omega)
            replace hy := Lib.hid hy
            go_wp2
            go_ret2
            exact hBad.out _ _ (fun h => by rw [hG.out] at h; cases h.2) rfl hB0.out
    · obtain rfl : k = F.length := by omega
      have hL := Lib.hid (hNA.out fun j h => hI.out j h h)
      clear hNB hNA hI
      have u0 := hX0.out.cell (j := 0) rfl
      have u1 := hX0.out.cell (j := 1) rfl
      have u2 := hX0.out.cell (j := 2) rfl
      have u9 := hX0.out.lt
      have ks := Sound_any s Ap Ac Av cp cc cv wa (hE.out.below hB0.out) (hs.out.below hB0.out)
      cases hsd : soundB s with
      | false =>
        rw [hsd] at ks
        replace ks := Lib.hid ks
        replace hsd := Lib.hid hsd
        go_wp2_with fail
        refine ks.out.mono ?_
        rintro e w2 ⟨rfl, hb⟩
        have hB2 := Lib.hid (hB0.out.trans (hb.mono hB0.out.size))
        clear hb
        go_wp2
        go_ret2
        exact hBad.out _ _ (fun h => by rw [hsd.out] at h; cases h.1) rfl hB2.out
      | true =>
        rw [hsd] at ks
        replace ks := Lib.hid ks
        have hn60 : s.ps.length ≤ 60 := by
          unfold soundB at hsd
          simp only [Bool.and_eq_true, decide_eq_true_eq] at hsd
          exact hsd.2.1
        have hin : Hid (∀ x, x ∈ s.cap → (0 ≤ x.1 ∧ x.1 < s.ps.length) ∧ (0 ≤ x.2.1 ∧ x.2.1 < s.ps.length)) := fun x hx => by
          unfold soundB at hsd
          simp only [Bool.and_eq_true] at hsd
          obtain ⟨i, hi, rfl⟩ := List.getElem_of_mem hx
          exact ⟨(good_at hsd.2.2.1 hi).1.1, (good_at hsd.2.2.1 hi).1.2.1⟩
        have hin2 := Lib.hid (edges_in hsd)
        have hGood : Hid (∀ e w' b, e = .returned (.tuple #[.slice (some ⟨b, 0, none⟩) s.ps.length s.ps.length, .int .i64 0]) → w.heap.size ≤ b → RoI w' b s.ps.length (rk (edges s) (toN F)) → Below w.heap.size w w' → RkPost s F w e w') := fun e w' b h1 h2 h3 h4 => ⟨by rw [if_pos ⟨hsd, hL.out⟩]; exact ⟨b, h1, h2, h3⟩, h4⟩
        replace hsd := Lib.hid hsd
        clear hBad
        go_wp2_with fail
        refine ks.out.mono ?_
        rintro e w2 ⟨rfl, hb⟩
        have hB2 := Lib.hid (hB0.out.trans (hb.mono hB0.out.size))
        have hX2 := Lib.hid (hX0.out.below hb)
        clear hb ks u0 u1 u2 u9 hB0 hX0
        have kr := Lib.hid (Repeat_any s.ps.length w2.heap.size (w2.alloc (.cells #[.int .i64 (-1)] 3)) (by omega) (head1 w2 _ _) (by simp))
        have hB2a : Hid (Below w.heap.size w (w2.alloc (.cells #[.int .i64 (-1)] 3))) := hB2.out.alloc hB2.out.size _
        have hX2a := Lib.hid (hX2.out.alloc (.cells #[.int .i64 (-1)] 3))
        obtain ⟨b0, hb0⟩ : ∃ b, b = (w2.alloc (.cells #[.int .i64 (-1)] 3)).heap.size := ⟨_, rfl⟩
        rw [← hb0] at kr
        have hw0 : w.heap.size < b0 := by have := hX2a.out.lt; omega
        go_wp2_with fail
        refine kr.out.mono ?_
        rintro e w3 ⟨⟨rfl, hrow⟩, hb⟩
        have hB3 := Lib.hid (hB2a.out.trans (hb.mono (by have := hB2a.out.size; omega)))
        have hX3 := Lib.hid (hX2a.out.below (by rw [← hb0]; exact hb))
        have hR3 : Hid (RoI w3 b0 s.ps.length (ini (toN F) 0)) := (RoI.of_row hrow).congr fun x _ => by unfold ini; rw [List.take_zero, if_neg (by simp)]
        clear hb kr hb0 hrow hB2 hX2 hB2a hX2a
        go_wp2
        go_loopw [56] (fun i wr => ∃ (k : Nat) (o : Nat → Int), k ≤ F.length ∧ i = .int .i64 (k : Int) ∧ Hid (Kp [b0] w3 wr) ∧ Hid (RoI wr b0 s.ps.length o) ∧ Hid (∀ x, o x = ini (toN F) k x)) (fun i _ => F.length - (intOf i).toNat)
        case atStart => exact ⟨0, _, Nat.zero_le _, rfl, Kp.refl _ _, hR3, fun _ => rfl⟩
        case round =>
          obtain ⟨k, o, hk, rfl, hK, hR, ho⟩ := hrel
          clear hR3
          have hBk : Hid (Below w.heap.size w wr) := hK.out.to_below hB3.out fun x hx => by rw [List.mem_singleton.1 hx]; omega
          by_cases hlt : k < F.length
          · obtain ⟨p, hp1, hp2, hp3⟩ := toN_at hL.out hlt
            obtain ⟨b1, o1, rfl, hb1, hc1⟩ := (hF.out.below hBk.out) (by omega)
            have e1 := hc1 k hlt
            rw [hp1] at e1
            have hpn : p < s.ps.length := by omega
            have e2 := hR.out.cell p hpn
            have e3 := hR.out.fr p
            have hR2 := Lib.hid (hR.out.set hpn 0)
            have hK2 := Lib.hid (hK.out.set (a := ⟨b0, p, none⟩) (.int .i64 0) (.inl (List.mem_singleton.2 rfl)))
            have ho2 : Hid (∀ x, setI o p 0 x = ini (toN F) (k + 1) x) := fun x => by
              rw [← ini_succ hp3 x]
              unfold setI
              rw [ho.out x]
            have j0 : (0 : Int) ≤ (k : Int) := by omega
            have j1 : (k : Int) < (F.length : Int) := by omega
            have j2 : (0 : Int) ≤ (p : Int) := by omega
            clear hc1 hp1 hp3
            go_wp2
            exact ⟨⟨k + 1, _, by omega, by go_num, hK2, hR2, ho2⟩, by simp only [intOf]; omega⟩
          · obtain rfl : k = F.length := by omega
            have hX4 := Lib.hid (hX3.out.kp hK.out (by simp; omega))
            have ho3 : Hid (∀ x, o x = if x ∈ toN F then 0 else -1) := fun x => by
              rw [ho.out x, ← ini_all]
              have : (toN F).length = F.length := by simp [toN]
              rw [this]
            have u0 := hX4.out.cell (j := 0) rfl
            have u1 := hX4.out.cell (j := 1) rfl
            have u2 := hX4.out.cell (j := 2) rfl
            have u9 := hX4.out.lt
            have ko := Lib.hid (of_any s Ap Ac Av cp cc cv wr (hs.out.below hBk.out) (by omega) hc3 hin.out)
            have hF4 := Lib.hid (hF.out.below hBk.out)
            clear ho hK hX3 hB3 hF
            go_wp2_with fail
            refine ko.out.mono ?_
            rintro e w4 ⟨⟨R, v, rfl, hG⟩, hb⟩
            have hsz4 := hb.size
            have hB4 : Hid (Below w.heap.size w w4) := hBk.out.trans (hb.mono hBk.out.size)
            have hR4 := Lib.hid (hR.out.below hb)
            have hb0r : b0 < w4.heap.size := hR4.out.lt
            have hFn : F.length ≤ 1000 := by
              have h1 := nodup_len s.ps.length (toN F) (toN_nodup hL.out) fun x hx => toN_in hL.out hx
              have h2 : (toN F).length = F.length := by simp [toN]
              omega
            have hF5 := Lib.hid (hF4.out.below hb)
            have kc := Lib.hid (Clone_any Af cf F w4 hF5.out (fun x hx => by
              obtain ⟨i, hi, rfl⟩ := List.getElem_of_mem hx
              exact (lst_at hL.out hi).1.1) hFn)
            have hGb : Hid (b0 ≠ R ∧ ∀ i b, i < s.ps.length → (v i).ownBlock = some b → b ∉ [b0]) := by
              have h1 := hR.out.lt
              have h2 := hG.lowR
              refine ⟨by omega, fun i b hi e hm => ?_⟩
              have h3 := ((hG.rows i hi).lt b e).1
              rw [List.mem_singleton.1 hm] at h3
              omega
            have hlR := hG.lt
            replace hG := Lib.hid hG
            have hbf := Lib.hid (Bf.start (E := edges s) (toN_nodup hL.out) (fun f hf => toN_in hL.out hf) fun x _ => ho3.out x)
            have hbd := Lib.hid (Bd.start (n := s.ps.length) ho3.out)
            have hadj : Hid (∀ p q, q ∈ adjO (edges s) (edges s).length p ↔ (p, q) ∈ edges s) := fun _ _ => mem_adjO
            have hal : Hid (∀ p, (adjO (edges s) (edges s).length p).length ≤ 300) := fun p => by
              unfold adjO
              rw [List.length_map]
              have h1 := List.length_filter_le (fun x : Nat × Nat => decide (x.1 = p)) ((edges s).take (edges s).length)
              have h2 : ((edges s).take (edges s).length).length ≤ (edges s).length := List.length_take_le' _ _
              have h3 : (edges s).length = s.cap.length := by simp [edges]
              omega
            obtain ⟨adj, hadj0⟩ : ∃ a, a = adjO (edges s) (edges s).length := ⟨_, rfl⟩
            rw [← hadj0] at hG hadj hal
            have hEnd : Hid (∀ f, f ∈ toN F → f < s.ps.length) := fun f hf => toN_in hL.out hf
            obtain ⟨i0, hi0, hzz⟩ := Option.map_eq_some_iff.1 infoIr
            simp only [Prod.mk.injEq] at hzz
            obtain ⟨hz0, hz1, hz2⟩ := hzz
            replace hi0 := Lib.hid hi0
            replace hz0 := Lib.hid hz0
            replace hz1 := Lib.hid hz1
            replace hz2 := Lib.hid hz2
            clear hb ko hR hBk u0 u1 u2 u9 hX4 hadj0 ho3 hF4 hF5 hin
            go_wp2_with fail
            refine kc.out.mono ?_
            rintro e w5 ⟨⟨vq, rfl, hQ⟩, hb⟩
            have hK5 := Lib.hid ((Kp.refl [b0] w4).below hb)
            have hR5 := Lib.hid (hR4.out.below hb)
            replace hQ := Lib.hid hQ
            clear hb kc hR4
            go_wp2
            go_loopg [13] ((toN F).length + negs s.ps.length o) (fun m u wr => ∃ (o : Nat → Int) (queue : List Nat), m = queue.length + negs s.ps.length o ∧ Hid (QIn wr w4.heap.size u queue) ∧ Hid (Kp [b0] w4 wr) ∧ Hid (RoI wr b0 s.ps.length o) ∧ Hid (Bf s.ps.length (edges s) (toN F) (fun _ => False) o queue) ∧ Hid (Bd s.ps.length o))
            case atStart => exact ⟨_, _, rfl, hQ, hK5, hR5, hbf, hbd⟩
            case round =>
              clear hQ hK5 hR5 hbf hbd
              obtain ⟨o1, queue, hm, hQ, hK, hR, hbf, hbd⟩ := hrel
              cases queue with
              | nil =>
                obtain ⟨A, c, rfl⟩ := hQ.out.form
                have hRk : Hid (RoI wr b0 s.ps.length (rk (edges s) (toN F))) := hR.out.congr fun x hx => hbf.out.end hEnd.out hin2.out hx
                have hBr : Hid (Below w.heap.size w wr) := hK.out.to_below hB4.out fun x hx => by rw [List.mem_singleton.1 hx]; omega
                clear hQ hm
                go_wp2
                go_ret2
                exact hGood.out _ _ b0 rfl (by omega) hRk.out hBr.out
              | cons p queue =>
                obtain ⟨g, of, cap, rfl, _, _, hcap, hcell, _⟩ := hQ.out.head
                have hpn := (hbf.out.pos p (List.mem_cons_self ..)).1
                have hGw := hG.out.kp hK.out (by simp; exact fun e => hGb.out.1 e.symm) hGb.out.2
                have d1 := hGw.hd p hpn
                have hlRw := hGw.lt
                obtain ⟨A, cr, hvp, hrow⟩ := own_in (hG.out.rows p hpn)
                rw [hvp] at d1
                have hBq := Lib.hid (Bq.start hbf.out)
                have hm2 : Hid (queue.length + negs s.ps.length o1 < gk) := by rw [hm]; simp only [List.length_cons]; unfold Hid; omega
                have hall := Lib.hid (fun q (h : (p, q) ∈ edges s) => (hadj.out p q).2 h)
                have hins := Lib.hid (fun q (h : q ∈ adj p) => (hadj.out p q).1 h)
                have halp := hal.out p
                have hgr : Hid (∀ j (hj : j < (adj p).length), ∃ gg, A = some ⟨gg, 0, none⟩ ∧ gg < w4.heap.size ∧ gg ∉ [b0] ∧ w4.cell? ⟨gg, j, none⟩ = some (.int .i64 ((adj p)[j] : Int))) := fun j hj => by
                  obtain ⟨gg, hA, h1, h2⟩ := hrow j hj
                  exact ⟨gg, hA, h1, hGb.out.2 p gg hpn (by rw [hvp, hA]; rfl), h2⟩
                have p0 : (0 : Int) ≤ (p : Int) := by omega
                have p1 : (p : Int) < (s.ps.length : Int) := by omega
                have q0 : (0 : Int) < (queue.length : Int) + 1 := by omega
                clear hGw hvp hrow hm hbf
                go_wp2
                go_loopw [13, 81] (fun u ix wz => ∃ (j : Nat) (o2 : Nat → Int) (q2 : List Nat) (A2 : Option Addr) (c2 : Nat), j ≤ (adj p).length ∧ u = .slice A2 (q2.length + 1) c2 ∧ ix = .int .i64 (j : Int) ∧ Hid (QIn wz w4.heap.size (.slice A2 (q2.length + 1) c2) (p :: q2)) ∧ Hid (Kp [b0] w4 wz) ∧ Hid (RoI wz b0 s.ps.length o2) ∧ Hid (Bq s.ps.length (edges s) (toN F) p (o1 p) ((adj p).take j) o2 q2) ∧ Hid (Bd s.ps.length o2) ∧ Hid (q2.length + negs s.ps.length o2 ≤ queue.length + negs s.ps.length o1)) (fun _ ix _ => (adj p).length - (intOf ix).toNat)
                case atStart => exact ⟨0, o1, queue, _, _, Nat.zero_le _, rfl, rfl, hQ, hK, hR, hBq, hbd, Nat.le_refl _⟩
                case round =>
                  clear hQ hK hR hBq hbd
                  obtain ⟨j, o2, q2, A2, c2, hj, rfl, rfl, hQ, hK, hR, hBq, hbd, hme⟩ := hrel
                  by_cases hjl : j < (adj p).length
                  · obtain ⟨gg, rfl, hgl, hgx, hgc⟩ := hgr.out j hjl
                    have e1 := (World.cell?_of_block (a := ⟨gg, j, none⟩) (hK.out.block gg hgl hgx)).trans hgc
                    have hpq := hins.out _ (List.getElem_mem hjl)
                    have htk : (adj p).take (j + 1) = (adj p).take j ++ [(adj p)[j]] := List.take_succ_eq_append_getElem hjl
                    obtain ⟨q, hqe⟩ : ∃ x, x = (adj p)[j] := ⟨_, rfl⟩
                    rw [← hqe] at e1 hpq htk
                    have hqn : q < s.ps.length := (hin2.out _ hpq).2
                    have e2 := hR.out.cell q hqn
                    have j0 : (0 : Int) ≤ (j : Int) := by omega
                    have j1 : (j : Int) < ((adj p).length : Int) := by omega
                    have j2 : (0 : Int) ≤ (q : Int) := by omega
                    have j3 : (q : Int) < (s.ps.length : Int) := by omega
                    clear hqe hgc hgr
                    by_cases hneg : o2 q < 0
                    · have m1 : decide (o2 q < 0) = true := decide_eq_true hneg
                      have hpn2 := hBq.out.here
                      have hcur := hBq.out.cur
                      have hv0 := hBq.out.v0
                      have e3 := hR.out.cell p hpn2
                      have e4 := hR.out.fr q
                      have hbdp := hbd.out p hpn2
                      have jw : IntKind.i64.wrap (o2 p + 1) = o2 p + 1 := IntWalk.i64_in _ (by omega)
                      have hR2 := Lib.hid (hR.out.set hqn (o2 p + 1))
                      have hK2 := Lib.hid (hK.out.set (a := ⟨b0, q, none⟩) (.int .i64 (o2 p + 1)) (.inl (List.mem_singleton.2 rfl)))
                      have hqb : (Value.slice A2 (q2.length + 1) c2).ownBlock ≠ some b0 := fun e => by have := (hQ.out.block e).1; omega
                      have hQ2 := Lib.hid (hQ.out.set (a := ⟨b0, q, none⟩) hqb (.int .i64 (o2 p + 1)))
                      have hBq2 : Hid (Bq s.ps.length (edges s) (toN F) p (o1 p) ((adj p).take (j + 1)) (setI o2 q (o2 p + 1)) (q2 ++ [q])) := by
                        rw [hcur, htk]
                        exact hBq.out.set hqn hpq hneg
                      have hbd2 := Lib.hid (hbd.out.set hpn2 hqn hneg (by omega))
                      have hng := negs_set hqn hneg (v := o2 p + 1) (by omega)
                      have hme2 : Hid ((q2 ++ [q]).length + negs s.ps.length (setI o2 q (o2 p + 1)) ≤ queue.length + negs s.ps.length o1) := by
                        have h := hme.out
                        unfold Hid
                        rw [List.length_append, List.length_singleton]
                        omega
                      have hQ3 := Lib.hid (hQ2.out.alloc (.cells #[.int .i64 (q : Int)] 3))
                      have hR3 := Lib.hid (hR2.out.alloc (.cells #[.int .i64 (q : Int)] 3))
                      have hK3 := Lib.hid (hK2.out.alloc (.cells #[.int .i64 (q : Int)] 3))
                      have hsz1 : w4.heap.size ≤ ((wr.setCell ⟨b0, q, none⟩ (.int .i64 (o2 p + 1))).alloc (.cells #[.int .i64 (q : Int)] 3)).heap.size := hK3.out.size
                      have hlen : (p :: q2).length + 1 ≤ 400 := by
                        have h1 := nodup_len s.ps.length (p :: q2) (List.nodup_cons.2 ⟨hBq.out.off, hBq.out.inv.nodup⟩) fun x hx => by
                          rcases List.mem_cons.1 hx with rfl | hx
                          · exact hpn2
                          · exact (hBq.out.inv.pos x hx).1
                        omega
                      replace hlen := Lib.hid hlen
                      replace hsz1 := Lib.hid hsz1
                      have hbb : Hid (∀ b, (Value.slice A2 (q2.length + 1) c2).ownBlock = some b → b ∈ [b0] ∨ w4.heap.size ≤ b) := fun b e => .inr (hQ.out.block e).1
                      have hqb' := Lib.hid hqb
                      clear hR hK hQ hbdp hcur hv0 hng hqb hneg
                      have had : Hid (((wr.setCell ⟨b0, q, none⟩ (.int .i64 (o2 p + 1))).alloc (.cells #[.int .i64 (q : Int)] 3)).cell? ⟨wr.heap.size, 0, none⟩ = some (.int .i64 (q : Int))) := by
                        have h := head1 (wr.setCell ⟨b0, q, none⟩ (.int .i64 (o2 p + 1))) (.int .i64 (q : Int)) 3
                        rwa [World.size_setCell] at h
                      go_wp2_with (at_builtin; refine wpList_append_queue _ rfl _ _ 24 rfl w4.heap.size 3 i0 (.int .i64 0) 8 Tryz.underlying24 hi0.out hz0.out hz1.out hz2.out rfl (.slice A2 (q2.length + 1) c2) (p :: q2) q rfl hQ3.out hsz1.out ⟨wr.heap.size, 0, none⟩ 1 rfl had.out (by have := hlen.out; omega) (by have := hlen.out; unfold maxLen; omega) ?_; intro vb wb hqq hgb hnb; have hK9 := Lib.hid (hK3.out.grown hgb hbb.out); have hR9 := Lib.hid (hR3.out.grown hgb hqb'.out); obtain ⟨A9, c9, rfl⟩ := hqq.form; replace hqq := Lib.hid hqq; clear hgb hnb)
                      exact ⟨⟨j + 1, _, q2 ++ [q], A9, c9, by omega, by rw [List.length_append, List.length_singleton], by go_num, by have h := hqq.out; unfold Hid; simpa using h, hK9, hR9, hBq2, hbd2, hme2⟩, by simp only [intOf]; omega⟩
                    · have m1 : decide (o2 q < 0) = false := decide_eq_false hneg
                      have hBq2 := Lib.hid (hBq.out.skip hqn (by omega))
                      rw [← htk] at hBq2
                      clear htk hpq
                      go_wp2
                      exact ⟨⟨j + 1, o2, q2, _, _, by omega, rfl, by go_num, hQ, hK, hR, hBq2, hbd, hme⟩, by simp only [intOf]; omega⟩
                  · obtain rfl : j = (adj p).length := by omega
                    have hbf := Lib.hid (hBq.out.end fun q hq => by rw [List.take_length]; exact hall.out q hq)
                    obtain ⟨g9, o9, c9, he, _, _, hc9, _, hq9⟩ := hQ.out.head
                    injection he with he1 _ he3
                    subst he1 he3
                    have hm3 : q2.length + negs s.ps.length o2 < gk := Nat.lt_of_le_of_lt hme.out hm2.out
                    have z1 : (1 : Int) ≤ (q2.length : Int) + 1 := by omega
                    have z2 : (q2.length : Int) + 1 ≤ (c2 : Int) := by omega
                    replace hbd := Lib.hid hbd.out
                    clear hBq hQ hme hm2 hall hins hgr
                    by_cases hc1 : c2 = 1
                    · subst hc1
                      have h0 : q2 = [] := List.length_eq_zero_iff.1 (by omega)
                      subst h0
                      rw [if_pos rfl] at hq9
                      replace hq9 : Hid (QIn wr w4.heap.size (.slice (some ⟨g9, o9, none⟩) 0 0) []) := hq9
                      go_wp2
                      go_roundg (negs s.ps.length o2)
                      case measure => simpa using hm3
                      case rel => exact ⟨o2, [], by simp, hq9, hK, hR, hbf, hbd⟩
                    · rw [if_neg hc1] at hq9
                      replace hq9 := Lib.hid hq9
                      go_wp2
                      go_roundg (q2.length + negs s.ps.length o2)
                      case measure => exact hm3
                      case rel => exact ⟨o2, q2, rfl, hq9, hK, hR, hbf, hbd⟩
end Ci
end Go.Proofs.YtpmlhgmmobpilaaGreatDoor
namespace Go.Proofs.YtpmlhgmmobpilaaGreatDoor
open Go.RowKit Go.Shelf
namespace Ci
open Nt
open Classical
/-- While the components are gathered. -/
structure P1 (E : List (Nat × Nat)) (n : Nat) (w0 : World) (S p q : Nat) (v : Nat → Value) (F : Nat → Int) (wr : World) : Prop where
  kp : Kp [S, S + 1, S + 1 + 1] w0 wr
  lm : LM wr w0.heap.size S n (cQ E p q) v (lsQ E n p q)
  pl : ∃ c f, MapK Tryz.prog 3 κi wr (S + 1 + 1) c f ∧ c ≤ 1000 * p + q ∧ ∀ x : Nat, x < n → f (x : Int) = if PL E p q x then some (.bool true) else none
  ro : RoI wr (S + 1) n F
  fs : ∀ x, x < n → PL E p q x → F x = (fst E x : Int)
section
variable {E : List (Nat × Nat)} {n p q S : Nat} {w0 wr w' : World} {v : Nat → Value} {F : Nat → Int}
theorem LM.congr {w : World} {B mb c c' : Nat} {ls ls' : Nat → List Nat} (h : LM w B mb n c v ls) (e : ∀ x, ls x = ls' x) (ec : c = c') : LM w B mb n c' v ls' := by
  obtain rfl : ls = ls' := funext e
  subst ec
  exact h
theorem P1.below (h : P1 E n w0 S p q v F wr) (hb : Below wr.heap.size wr w') : P1 E n w0 S p q v F w' := by
  obtain ⟨c, f, h1, h2⟩ := h.pl
  exact ⟨h.kp.below hb, h.lm.below hb, ⟨c, f, h1.below hb, h2⟩, h.ro.below hb, h.fs⟩
theorem P1.had (h : P1 E n w0 S p 0 v F wr) (hp : fst E p ≠ p) : P1 E n w0 S (p + 1) 0 v F wr := by
  obtain ⟨c, f, h1, h2, h3⟩ := h.pl
  refine ⟨h.kp, h.lm.congr (fun x => ?_) ?_, ⟨c, f, h1, by omega, fun x hx => ?_⟩, h.ro, fun x hx hP => h.fs x hx ((PL_had hp).1 hP)⟩
  · rw [lsQ_zero, lsQ_zero, lsO_had hp]
  · rw [cQ_zero, cQ_zero, cO_succ, if_neg hp]
  · rw [h3 x hx]
    by_cases e : PL E p 0 x
    · rw [if_pos e, if_pos ((PL_had hp).2 e)]
    · rw [if_neg e, if_neg fun c => e ((PL_had hp).1 c)]
theorem P1.next (h : P1 E n w0 S p n v F wr) (hp : fst E p = p) (hpn : p < n) (hn : n ≤ 1000) : P1 E n w0 S (p + 1) 0 v F wr := by
  obtain ⟨c, f, h1, h2, h3⟩ := h.pl
  refine ⟨h.kp, h.lm.congr (fun x => ?_) ?_, ⟨c, f, h1, by omega, fun x hx => ?_⟩, h.ro, fun x hx hP => h.fs x hx ((PL_next hp hx).1 hP)⟩
  · rw [lsQ_zero, lsO_next hp]
  · rw [cQ_zero, cO_next hp hpn]
  · rw [h3 x hx]
    by_cases e : PL E p n x
    · rw [if_pos e, if_pos ((PL_next hp hx).2 e)]
    · rw [if_neg e, if_neg fun c => e ((PL_next hp hx).1 c)]
theorem P1.skip (h : P1 E n w0 S p q v F wr) (hm : ¬ Mut E p q) : P1 E n w0 S p (q + 1) v F wr := by
  obtain ⟨c, f, h1, h2, h3⟩ := h.pl
  refine ⟨h.kp, h.lm.congr (fun x => (lsQ_skip hm).symm) (cQ_skip hm).symm, ⟨c, f, h1, by omega, fun x hx => ?_⟩, h.ro, fun x hx hP => h.fs x hx ((PL_skip hm).1 hP)⟩
  rw [h3 x hx]
  by_cases e : PL E p q x
  · rw [if_pos e, if_pos ((PL_skip hm).2 e)]
  · rw [if_neg e, if_neg fun c => e ((PL_skip hm).1 c)]
theorem ReachM.below {mb : Nat} {w : World} (h : ReachM w n mb E p) (hb : Below w.heap.size w w') : ReachM w' n mb E p := by
  obtain ⟨c, f, h1, h3⟩ := h
  exact ⟨c, f, h1.below hb, h3⟩
theorem ReachM.kp {mb : Nat} {xs : List Nat} {w : World} (h : ReachM w n mb E p) (hk : Kp xs w w') (hm : mb ∉ xs) : ReachM w' n mb E p := by
  obtain ⟨c, f, h1, h3⟩ := h
  exact ⟨c, f, h1.kp hk hm, h3⟩
theorem P1.start (E : List (Nat × Nat)) (n : Nat) (wS : World) (t : TypeId) :
    P1 E n (((wS.alloc (.map #[] 0)).alloc (.cells (madeCells #[.int .i64 0] n) t)).alloc (.map #[] 0)) wS.heap.size 0 0 (fun _ => .slice none 0 0) (fun _ => 0) (((wS.alloc (.map #[] 0)).alloc (.cells (madeCells #[.int .i64 0] n) t)).alloc (.map #[] 0)) := by
  have s1 : (wS.alloc (.map #[] 0)).heap.size = wS.heap.size + 1 := by simp
  have s2 : ((wS.alloc (.map #[] 0)).alloc (.cells (madeCells #[.int .i64 0] n) t)).heap.size = wS.heap.size + 1 + 1 := by simp
  have hR := (RoI.made (wS.alloc (.map #[] 0)) n t).alloc (.map #[] 0)
  rw [s1] at hR
  have hM := MapK.made ((wS.alloc (.map #[] 0)).alloc (.cells (madeCells #[.int .i64 0] n) t)) Tryz.prog 3 κi
  rw [s2] at hM
  refine ⟨Kp.refl _ _, (((LM.made wS _ n).alloc _).alloc _).congr (fun x => ?_) ?_, ⟨0, _, hM, Nat.zero_le _, fun x _ => ?_⟩, hR, fun x _ hP => ?_⟩
  · rw [lsQ_zero]
    unfold lsO
    rw [if_neg (by omega)]
  · rw [cQ_zero]; rfl
  · rw [if_neg fun c => by have := PL_zero.1 c; omega]
  · have := PL_zero.1 hP; omega
end
/-- While the components are put in order. -/
structure P2 (E : List (Nat × Nat)) (n : Nat) (w7 : World) (S : Nat) (v : Nat → Value) (pre left : List Nat) (vo : Value) (wr : World) : Prop where
  st : Stage n E pre left
  kp : Kp [S] w7 wr
  mp : ∃ f, MapK Tryz.prog 3 κi wr S left.length f ∧ ∀ x : Nat, x < n → f (x : Int) = if x ∈ left then some (v x) else none
  out : wr.ownsRow w7.heap.size 24 1 vo pre.length (pre.map v)
section
variable {E : List (Nat × Nat)} {n p q S : Nat} {w0 w7 wr w' : World} {v : Nat → Value} {F : Nat → Int} {pre left : List Nat} {vo : Value}
theorem P2.start (h : P1 E n w0 S n 0 v F w7) (hE : InN n E) : P2 E n w7 S v [] (leasts n E) (.slice none 0 0) w7 := by
  obtain ⟨f, h1, h2⟩ := h.lm.map
  rw [cQ_zero, cO_all] at h1
  refine ⟨Stage.start hE, Kp.refl _ _, ⟨f, h1, fun x hx => ?_⟩, World.ownsRow_nil _ _ _ _⟩
  rw [h2 x hx, lsQ_zero, lsO_all hx]
  by_cases e : x ∈ leasts n E
  · rw [if_pos e, if_pos e, if_neg (comp_ne hx)]
  · rw [if_neg e, if_neg e, if_pos rfl]
def slA : Value → Option Addr
  | .slice a _ _ => a
  | _ => none
def slC : Value → Nat
  | .slice _ _ c => c
  | _ => 0
theorem own_inInt {W : World} {base : Nat} {e : TypeId} {u : Value} {l : List Nat} (h : W.ownsRow base e 1 u l.length (intsL l)) : u = .slice (slA u) l.length (slC u) ∧ InInt W (slA u) (l.map fun (q : Nat) => (q : Int)) := by
  rcases own_ints h with ⟨rfl, rfl⟩ | ⟨g, cap, rfl, _, h1, _, h2⟩
  · exact ⟨rfl, fun h => absurd h (by simp)⟩
  · refine ⟨rfl, fun _ => ⟨g, 0, rfl, h1, fun j hj => ?_⟩⟩
    have hj2 : j < l.length := by simpa using hj
    rw [Nat.zero_add, h2 j hj2]
    simp
end
end Ci
end Go.Proofs.YtpmlhgmmobpilaaGreatDoor
namespace Go.Proofs.YtpmlhgmmobpilaaGreatDoor
open Go.RowKit Go.Shelf
namespace Ci
open Nt
open Classical
end Ci
end Go.Proofs.YtpmlhgmmobpilaaGreatDoor

namespace Go.Proofs.YtpmlhgmmobpilaaGreatDoor
open Go.ChangeShapes Go.WideShapes Go.ChangeAt Go.RowKit Go.Shelf
namespace Nt
/-- The list that every row of this seat bears. -/
def laidL : List (String × DataW Unit) := Rows.moneyRoundsRow.laid
theorem gt_tab : (Tryz.prog.globals[3]?).map (·.type) = some 222 := by kernel_rfl
theorem gt_syn : (Tryz.prog.globals[1]?).map (·.type) = some 116 := by kernel_rfl
theorem gt_rng : (Tryz.prog.globals[2]?).map (·.type) = some 116 := by kernel_rfl
theorem cells_u64 : Tryz.prog.cellsOf 177 = 1 := by kernel_rfl
theorem cells_tab : Tryz.prog.cellsOf 222 = 20 := by kernel_rfl
theorem cells_str : Tryz.prog.cellsOf 9 = 1 := by kernel_rfl
theorem cells_es : Tryz.prog.cellsOf 229 = 1 := by kernel_rfl
theorem star : "*" ++ "errors.errorString" = "*errors.errorString" := by decide
theorem row_es (u : TypeId) (h : Tryz.prog.typeName? 3 u = some "*errors.errorString") : u = 227 :=
  typeName_ptr_named (nm := "errors.errorString") (by rw [star]; kernel_rfl) (by kernel_rfl) (by decide) u (by rw [star]; exact h)
theorem env_of {W : World} (h : laidMetH Tryz.prog laidL W) : Env W := by
  have h0 := (laidMetH_iff.1 h).1
  have hT : laidMet Tryz.prog [("internal/strconv.uint64pow10", Lib.tabData .u64 Lib.pow10Tab)] W := by
    have := h0.filter (fun x => x.1 == "internal/strconv.uint64pow10")
    rwa [show (laidL.filter fun x => x.2.handleName?.isNone).filter (fun x => x.1 == "internal/strconv.uint64pow10") = [("internal/strconv.uint64pow10", Lib.tabData .u64 Lib.pow10Tab)] by kernel_rfl] at this
  have hS : laidMet Tryz.prog [("strconv.ErrSyntax", .iface "*errors.errorString" (.ptr (.agg [.lit (.string [105, 110, 118, 97, 108, 105, 100, 32, 115, 121, 110, 116, 97, 120])])))] W := by
    have := h0.filter (fun x => x.1 == "strconv.ErrSyntax")
    rwa [show (laidL.filter fun x => x.2.handleName?.isNone).filter (fun x => x.1 == "strconv.ErrSyntax") = [("strconv.ErrSyntax", .iface "*errors.errorString" (.ptr (.agg [.lit (.string [105, 110, 118, 97, 108, 105, 100, 32, 115, 121, 110, 116, 97, 120])])))] by kernel_rfl] at this
  have hR : laidMet Tryz.prog [("strconv.ErrRange", .iface "*errors.errorString" (.ptr (.agg [.lit (.string [118, 97, 108, 117, 101, 32, 111, 117, 116, 32, 111, 102, 32, 114, 97, 110, 103, 101])])))] W := by
    have := h0.filter (fun x => x.1 == "strconv.ErrRange")
    rwa [show (laidL.filter fun x => x.2.handleName?.isNone).filter (fun x => x.1 == "strconv.ErrRange") = [("strconv.ErrRange", .iface "*errors.errorString" (.ptr (.agg [.lit (.string [118, 97, 108, 117, 101, 32, 111, 117, 116, 32, 111, 102, 32, 114, 97, 110, 103, 101])])))] by kernel_rfl] at this
  refine ⟨Lib.tabIs_of_head g_tab gt_tab Tryz.underlying222 Tryz.underlying177 cells_u64 cells_tab hT, ?_, ?_⟩
  · obtain ⟨a0, s0, hv0, -, -, -⟩ := laid_sentinel hS g_syn gt_syn Tryz.underlying116 row_es Tryz.underlying227 Tryz.underlying229 rfl rfl Tryz.underlying9 cells_es cells_str
    exact ⟨_, _, hv0⟩
  · obtain ⟨a0, s0, hv0, -, -, -⟩ := laid_sentinel hR g_rng gt_rng Tryz.underlying116 row_es Tryz.underlying227 Tryz.underlying229 rfl rfl Tryz.underlying9 cells_es cells_str
    exact ⟨_, _, hv0⟩
/-- A world for the witness: what the door's run leaves, and the pinned table. -/
noncomputable def laidWorld (os : Os) : World :=
  { World.doorLaid Tryz.prog 72 os with heap := (World.doorLaid Tryz.prog 72 os).heap.modify 4 fun
      | .cells _ t frozen => .cells (Go.Pinned.utf8FirstZ.map fun (z : Nat) => Value.int .u8 z).toArray t frozen
      | o => o }
theorem own : ownKnob Tryz.prog.godebug = none := by kernel_rfl
set_option maxRecDepth 100000 in
theorem laid_met (os : Os) (args : Array Value) : laidMetH Tryz.prog laidL ((laidWorld os).forCall (fun _ _ => 0) ⟨#[], args, []⟩).memory :=
  laidMet_of_run3 8 (by kernel_rfl) (by kernel_rfl) (by kernel_rfl)
theorem vars_ok (os : Os) (args : Array Value) : ((laidWorld os).forCall (fun _ _ => 0) ⟨#[], args, []⟩).variablesRefB Tryz.prog = true := by kernel_rfl
theorem rest_ok (os : Os) (args : Array Value) : (((laidWorld os).forCall (fun _ _ => 0) ⟨#[], args, []⟩).heap.toList.drop Tryz.prog.globals.size).take ((begin Tryz.prog (fun _ _ => 0) default).world.heap.size - Tryz.prog.globals.size) =
      (begin Tryz.prog (fun _ _ => 0) default).world.heap.toList.drop Tryz.prog.globals.size := by kernel_rfl
end Nt
end Go.Proofs.YtpmlhgmmobpilaaGreatDoor

namespace Go.Proofs.YtpmlhgmmobpilaaGreatDoor
open Go.RowKit Go.Shelf
namespace Nt
theorem infoS : (Tryz.prog.info? 9).map (fun i => (i.zero, i.size, i.bytes)) = some (some (.string ⟨#[]⟩), 1, 16) := by kernel_rfl
/-- The cells of texts of numbers. -/
def tvals (ks : List Nat) : List Value := ks.map fun k => Value.string (T (some k))
/-- A slice of texts of numbers. -/
def TextsAt (W : World) (v : Value) (ks : List Nat) : Prop := ∃ g cap, v = .slice (some ⟨g, 0, none⟩) ks.length cap ∧ g < W.heap.size ∧ ∀ i (h : i < ks.length), W.cell? ⟨g, i, none⟩ = some (.string (T (some ks[i])))
theorem tvals_snoc (ks : List Nat) (k : Nat) : tvals ks ++ [Value.string (T (some k))] = tvals (ks ++ [k]) := by simp [tvals]
theorem tvals_at {B : Nat} {W : World} {v : Value} {ks : List Nat} (h : W.ownsRow B 9 1 v ks.length (tvals ks)) (h0 : ks ≠ []) : TextsAt W v ks := by
  rcases id h.2 with ⟨rfl, hx⟩ | ⟨g, cap, cur, rfl, hg, hh, hn, hcm, hcs, ht⟩
  · exact absurd (List.length_eq_zero_iff.1 hx) h0
  · refine ⟨g, cap, rfl, (Array.getElem?_eq_some_iff.1 hh).1, fun i hi => ?_⟩
    rw [World.ownsRow.cellAt h i (by omega)]
    simp [tvals, hi]
/-- The pairs of an argument's memory. -/
def PairsAt (W : World) (b : Nat) (ps : List (Nat × Nat)) : Prop := ∀ i (h : i < ps.length), W.cell? ⟨b, i * 2, none⟩ = some (.string (T (some ps[i].1))) ∧ W.cell? ⟨b, i * 2 + 1, none⟩ = some (.string (T (some ps[i].2)))
def prods (ps : List (Nat × Nat)) : List Nat := ps.map fun p => p.1 * p.2
def PrRel (w : World) (ps : List (Nat × Nat)) (k : Nat) (v : Value) (wr : World) : Prop :=
  wr.ownsRow w.heap.size 9 1 v (prods (ps.take k)).length (tvals (prods (ps.take k))) ∧ Below w.heap.size w wr
theorem ownsRow_belowH {B : Nat} {e : TypeId} {size : Nat} {w w' : World} {v : Value} {n : Nat} {xs : List Value} (h : w.ownsRow B e size v n xs) (hb : Below w.heap.size w w') : w'.ownsRow B e size v n xs := by
  obtain ⟨h1, h2⟩ := h
  refine ⟨h1, ?_⟩
  rcases h2 with h2 | ⟨g, cap, cur, hv, hg, hh, r⟩
  · exact Or.inl h2
  · exact Or.inr ⟨g, cap, cur, hv, hg, by rw [hb.block g (Array.getElem?_eq_some_iff.1 hh).1]; exact hh, r⟩
theorem one_cell_s (s : ByteArray) : ∀ u ∈ [Value.string s], u.oneCell' = true := by
  intro u hu; simp at hu; subst hu; rfl
set_option maxRecDepth 100000 in
set_option maxHeartbeats 2000000 in
theorem products_any (w : World) (hE : Env w) (b cap : Nat) (ps : List (Nat × Nat)) (hb : b < w.heap.size) (hl : ps.length ≤ 100) (hp : PairsAt w b ps) (hs : ∀ p ∈ ps, p.1 < Lim ∧ p.2 < Lim ∧ p.1 * p.2 < Lim) :
    Calls Tryz.prog 109 #[.slice (some ⟨b, 0, none⟩) ps.length cap] w fun e w' => (∃ v, e = .returned v ∧ w'.ownsRow w.heap.size 9 1 v (prods ps).length (tvals (prods ps))) ∧ Below w.heap.size w w' := by
  obtain ⟨i0, hi, hz0, hz1, hz2⟩ := info_parts infoS
  have HP := Lib.hid hp
  have HS := Lib.hid hs
  replace hE := Lib.hid hE
  clear hp hs
  go_enter Tryz.func109, Tryz.ntmps109
  go_wp2
  go_loopw [3, 10] (fun v i wr => ∃ k : Nat, k ≤ ps.length ∧ i = .int .i64 (k : Int) ∧ PrRel w ps k v wr) (fun _ i _ => ps.length - (intOf i).toNat)
  case atStart => exact ⟨0, Nat.zero_le _, rfl, World.ownsRow_nil _ _ _ _, Below.refl _ _⟩
  case round =>
    obtain ⟨k, hk, rfl, z1, z2⟩ := hrel
    have hsz := z2.size
    by_cases hlt : k < ps.length
    · obtain ⟨x, hx⟩ : ∃ x, x = ps[k].1 := ⟨_, rfl⟩
      obtain ⟨y, hy⟩ : ∃ y, y = ps[k].2 := ⟨_, rfl⟩
      obtain ⟨hp1, hp2⟩ := HP.out k hlt
      obtain ⟨s1, s2, s3⟩ := HS.out _ (List.getElem_mem hlt)
      rw [← hx] at hp1 s1 s3
      rw [← hy] at hp2 s2 s3
      have c1 := (z2.cell (p := ⟨b, k * 2, none⟩) hb).trans hp1
      have c2 := (z2.cell (p := ⟨b, k * 2 + 1, none⟩) hb).trans hp2
      have hM : Hid (mulO (some x) (some y) = some (x * y) ∧ mulE (some x) (some y) = 0) := ⟨by simp only [mulO, apO, limO, if_pos s3], by simp only [mulE, apE, if_pos s3]⟩
      have hN : Hid (prods (ps.take (k + 1)) = prods (ps.take k) ++ [x * y]) := by
        unfold Hid prods
        rw [List.take_succ_eq_append_getElem hlt, List.map_append, hx, hy]
        rfl
      have hL : Hid ((prods (ps.take k)).length = k) := by unfold Hid prods; simp; omega
      replace z1 := Lib.hid z1
      replace z2 := Lib.hid z2
      clear hp1 hp2 hx hy
      go_wp2_with fail
      refine (mulT (some x) (some y) _ (hE.out.below (z2.out.alloc hsz _)) (ok_some s1) (ok_some s2)).mono ?_
      rintro e w1 ⟨rfl, hb1⟩
      rw [hM.out.1, hM.out.2]
      have hB1 := Lib.hid ((z2.out.alloc hsz _).trans (hb1.mono (by simp; omega)))
      have ho : Hid (w1.ownsRow w.heap.size 9 1 u3 (prods (ps.take k)).length (tvals (prods (ps.take k)))) := ownsRow_belowH (z1.out.alloc _) hb1
      have hsz1 := hB1.out.size
      clear hb1 z1 z2
      go_wp2_with (at_builtin; refine wpList_append_own _ rfl _ _ 51 rfl w.heap.size 9 i0 (.string ⟨#[]⟩) 1 16 Tryz.underlying51 hi hz0 hz1 hz2 rfl (by decide) u3 (prods (ps.take k)).length (tvals (prods (ps.take k))) rfl (ho.out.alloc _) ⟨w1.heap.size, 0, none⟩ 1 1 [.string (T (some (x * y)))] rfl rfl (one_new _ _ _) (one_cell_s _) (by have := hL.out; unfold maxLen; omega) (by have := hL.out; omega) (by simp; omega) ?_; intro v2 w2 hown2 hgr2 _)
      refine ⟨⟨k + 1, by omega, by go_num, ?_, (hB1.out.alloc (by omega) _).grown hgr2 (by simp; omega) (fun b e => (ho.out.lt b e).1)⟩, by simp only [intOf]; omega⟩
      rw [hN.out, ← tvals_snoc, List.length_append]
      exact hown2
    · obtain rfl : k = ps.length := by omega
      have e : ps.take ps.length = ps := List.take_of_length_le (Nat.le_refl _)
      rw [e] at z1
      replace z1 := Lib.hid z1
      replace z2 := Lib.hid z2
      clear e
      go_wp2
      go_ret
      exact ⟨⟨_, rfl, z1.out⟩, z2.out⟩
end Nt
end Go.Proofs.YtpmlhgmmobpilaaGreatDoor

/- Texts that the proof needs: CirB, CirC, CirD, NatWrap, RatSum, RatSums, RatProd. -/
import Derived.Maps.OwnSet
import Derived.Maps.Views
import Derived.WalkKit
import Derived.IntWalk
import Derived.Deep.RegionHeld3
import Derived.Laws.AppendOwn
import Derived.Deep.OwnRows
import Derived.Maps.AppendAt
import Derived.Laws.EntriesVeiled
import Derived.ArgAppend
import Derived.Test.YtpmlhgmmobpilaaGreatDoorShelf
import Derived.Laws.CopyOwn
import Derived.Deep.RegionLaw
import Derived.Deep.QuietTactic
import Derived.BigQuiet
import Derived.Deep.LoopGhost
import Derived.WalkMore
import Derived.Test.YtpmlhgmmobpilaaGreatDoorCards
import Derived.Test.YtpmlhgmmobpilaaGreatDoorTie
import Derived.ProofKit
import Derived.OpenShut
import Derived.Deep.DeepHandedRow
import Derived.Deep.DeepWitnessRowRef
import Derived.Deep.DeepLaidRun
import Derived.Lib.LaidTab
import Derived.Stop.LaidErr
import Derived.LaidMore
import Derived.LaidSub
import Derived.StillTailTactics
import Derived.Laws.OwnMore
import Derived.Deep.DeepCutAuto
import Derived.Test.YtpmlhgmmobpilaaGreatDoorKmA
import Derived.Test.YtpmlhgmmobpilaaGreatDoorKmB
import Derived.Test.YtpmlhgmmobpilaaGreatDoorKmC
namespace Go.Proofs.YtpmlhgmmobpilaaGreatDoor
open Go.Maps (Keyed)
open Go.RowKit
namespace Ci
/-- An element reads as itself. -/
def tokR (v : Value) : Option (DataW Value × List MemPlace) := some (.held v, [])
/-- One value of a table of entries. -/
def putF {α : Type} [DecidableEq α] (f : α → Option Value) (x : α) (v : Option Value) : α → Option Value := fun y => if y = x then v else f y
theorem putF_same {α : Type} [DecidableEq α] (f : α → Option Value) (x : α) (v : Option Value) : putF f x v x = v := if_pos rfl
theorem putF_other {α : Type} [DecidableEq α] {f : α → Option Value} {x y : α} {v : Option Value} (h : y ≠ x) : putF f x v y = f y := if_neg h
/-- Block b is a map of c entries, which holds f x at the key that reads as κ x. -/
def MapK {α : Type} (P : Program) (k : TypeId) (κ : α → Lit) (w : World) (b c : Nat) (f : α → Option Value) : Prop :=
  ∃ D : DataW Value, w.ownsMap P k tokR b c D ∧ Maps.size D = c ∧ ∀ x, Maps.has D (κ x) = (f x).isSome ∧ ∀ z, D.atKey (κ x) z = match f x with | some v => .held v | none => z
section
variable {α : Type} {P : Program} {k t e : TypeId} {κ : α → Lit} {w w' : World} {b c : Nat} {f : α → Option Value}
theorem own_exact {R : Value → Option (DataW Value × List MemPlace)} {n : Nat} {D : DataW Value} (h : w.ownsMap P k R b n D) : w.ownsMap P k R b (Maps.size D) D := by
  obtain ⟨es, clock, hb, F, _, rfl⟩ := h
  refine ⟨es, clock, hb, F, ?_, rfl⟩
  simp [Maps.size, length_sorted]
theorem MapK.made (w : World) (P : Program) (k : TypeId) (κ : α → Lit) : MapK P k κ (w.alloc (.map #[] 0)) w.heap.size 0 fun _ => none :=
  ⟨.map [], World.ownsMap_made w P k tokR, rfl, fun _ => ⟨rfl, fun _ => rfl⟩⟩
theorem MapK.lt (h : MapK P k κ w b c f) : b < w.heap.size := by obtain ⟨D, h, _⟩ := h; exact h.lt
theorem MapK.kept {row : Option Nat} (h : MapK P k κ w b c f) (hg : w.grownBy w' row) (hne : some b ≠ row) : MapK P k κ w' b c f := by
  obtain ⟨D, h, r⟩ := h
  exact ⟨D, h.kept hg hne, r⟩
theorem MapK.block (h : MapK P k κ w b c f) (hb : w'.heap[b]? = w.heap[b]?) : MapK P k κ w' b c f := by
  obtain ⟨D, ⟨es, clock, h1, h2⟩, r⟩ := h
  exact ⟨D, ⟨es, clock, hb.trans h1, h2⟩, r⟩
theorem MapK.below (h : MapK P k κ w b c f) (hb : Below w.heap.size w w') : MapK P k κ w' b c f := h.block (hb.block b h.lt)
theorem MapK.alloc (h : MapK P k κ w b c f) (o : Obj) : MapK P k κ (w.alloc o) b c f := by
  obtain ⟨D, h, r⟩ := h
  exact ⟨D, h.alloc o, r⟩
theorem MapK.drew (h : MapK P k κ w b c f) : MapK P k κ w.drew b c f := h
theorem MapK.set (h : MapK P k κ w b c f) {a : Addr} (ha : b ≠ a.block) (u : Value) : MapK P k κ (w.setCell a u) b c f := by
  obtain ⟨D, h, r⟩ := h
  exact ⟨D, h.setCell ha u, r⟩
theorem MapK.congr {g : α → Option Value} (h : MapK P k κ w b c f) (e : ∀ x, f x = g x) : MapK P k κ w b c g := by rwa [← funext e]
theorem MapK.look (h : MapK P k κ w b c f) (K : Keyed P k) (ht : P.underlying t = some (.map k e)) {z : Value} (hz : (zeroValue e).run P w = .ok z w) {key : Value} {x : α} (hkey : keyOf P k key = some (κ x)) :
    (Instr.lookup t (.map (some b)) key false).run P w = .ok ((f x).getD z) w := by
  obtain ⟨D, h, _, hv⟩ := h
  obtain ⟨v, ps, hrun, hR⟩ := h.lookup K ht hz (zd := .held z) (zp := []) rfl hkey
  rw [hrun]
  rw [(hv x).2] at hR
  simp only [tokR, Option.some.injEq, Prod.mk.injEq] at hR
  cases hf : f x with
  | none => rw [hf] at hR; simp only [DataW.held.injEq] at hR; rw [hR.1]; rfl
  | some u => rw [hf] at hR; simp only [DataW.held.injEq] at hR; rw [hR.1]; rfl
theorem MapK.put [DecidableEq α] (h : MapK P k κ w b c f) (hκ : ∀ x y, κ x = κ y → x = y) (K : Keyed P k) (ht : P.underlying t = some (.map k e)) (hn : c < maxLen) {key : Value} {x : α} (hkey : keyOf P k key = some (κ x)) (v : Value) :
    ∃ w', (Instr.mapUpdate t (.map (some b)) key v).run P w = .ok () w' ∧ MapK P k κ w' b (if (f x).isSome then c else c + 1) (putF f x (some v)) ∧ w.grownBy w' (some b) := by
  obtain ⟨D, h, hs, hv⟩ := h
  obtain ⟨w', hrun, h2, hg⟩ := h.update K ht hn hkey (R := tokR) (val := v) rfl
  have hsz : Maps.size (D.put (κ x) (.held v)) = if (f x).isSome then c else c + 1 := by
    rw [Maps.size_put (h.tidy K), hs, (hv x).1]
  refine ⟨w', hrun, ⟨_, by have := own_exact h2; rwa [hsz] at this, hsz, fun y => ?_⟩, hg⟩
  by_cases hy : y = x
  · subst hy
    rw [putF_same]
    exact ⟨Maps.has_put_same h.isMap (K.key hkey) _, fun z => Maps.atKey_put_same h.isMap (K.key hkey) _ z⟩
  · have hne : κ y ≠ κ x := fun e => hy (hκ _ _ e)
    rw [putF_other hy, Maps.has_put_other hne]
    refine ⟨(hv y).1, fun z => ?_⟩
    rw [Maps.atKey_put_other hne]
    exact (hv y).2 z
theorem MapK.len (h : MapK P k κ w b c f) (ht : P.underlying t = some (.map k e)) (ty : TypeId) : (Builtin.len_ #[t] ty #[.map (some b)]).run P w = .ok (.int .i64 c) w := by
  obtain ⟨D, h, hs, _⟩ := h
  rw [h.len ht, hs]
end
/-- The keys of an int map. -/
def κi (a : Int) : Lit := .int .i64 a
end Ci
end Go.Proofs.YtpmlhgmmobpilaaGreatDoor
namespace Go.Proofs.YtpmlhgmmobpilaaGreatDoor
open Go.RowKit Go.Shelf
namespace Ci
open Nt
/-- A link: company, holder, part. -/
abbrev Lk := Int × Int × Bool × ByteArray × ByteArray
def lkL (x : Lk) : List Value := [.int .i64 x.1, .int .i64 x.2.1, .bool x.2.2.1, .string x.2.2.2.1, .string x.2.2.2.2]
def InLk (W : World) (A : Option Addr) (l : List Lk) : Prop :=
  0 < l.length → ∃ b off, A = some ⟨b, off, none⟩ ∧ b < W.heap.size ∧ ∀ j (h : j < l.length), W.cell? ⟨b, off + j * 5, none⟩ = some (.int .i64 l[j].1) ∧ W.cell? ⟨b, off + j * 5 + 1, none⟩ = some (.int .i64 l[j].2.1) ∧
    W.cell? ⟨b, off + j * 5 + 2, none⟩ = some (.bool l[j].2.2.1) ∧ W.cell? ⟨b, off + j * 5 + 3, none⟩ = some (.string l[j].2.2.2.1) ∧ W.cell? ⟨b, off + j * 5 + 4, none⟩ = some (.string l[j].2.2.2.2)
def InStr (W : World) (A : Option Addr) (l : List ByteArray) : Prop :=
  0 < l.length → ∃ b off, A = some ⟨b, off, none⟩ ∧ b < W.heap.size ∧ ∀ j (h : j < l.length), W.cell? ⟨b, off + j, none⟩ = some (.string l[j])
def InInt (W : World) (A : Option Addr) (l : List Int) : Prop :=
  0 < l.length → ∃ b off, A = some ⟨b, off, none⟩ ∧ b < W.heap.size ∧ ∀ j (h : j < l.length), W.cell? ⟨b, off + j, none⟩ = some (.int .i64 l[j])
theorem InLk.below {W W' : World} {A : Option Addr} {l : List Lk} (h : InLk W A l) (hb : Below W.heap.size W W') : InLk W' A l := fun h0 => by
  obtain ⟨b, off, e, hl, hc⟩ := h h0
  refine ⟨b, off, e, Nat.lt_of_lt_of_le hl hb.size, fun j hj => ?_⟩
  obtain ⟨c1, c2, c3, c4, c5⟩ := hc j hj
  exact ⟨(hb.cell (p := ⟨b, _, none⟩) hl).trans c1, (hb.cell (p := ⟨b, _, none⟩) hl).trans c2, (hb.cell (p := ⟨b, _, none⟩) hl).trans c3, (hb.cell (p := ⟨b, _, none⟩) hl).trans c4, (hb.cell (p := ⟨b, _, none⟩) hl).trans c5⟩
theorem InStr.below {W W' : World} {A : Option Addr} {l : List ByteArray} (h : InStr W A l) (hb : Below W.heap.size W W') : InStr W' A l := fun h0 => by
  obtain ⟨b, off, e, hl, hc⟩ := h h0
  exact ⟨b, off, e, Nat.lt_of_lt_of_le hl hb.size, fun j hj => (hb.cell (p := ⟨b, _, none⟩) hl).trans (hc j hj)⟩
theorem InInt.below {W W' : World} {A : Option Addr} {l : List Int} (h : InInt W A l) (hb : Below W.heap.size W W') : InInt W' A l := fun h0 => by
  obtain ⟨b, off, e, hl, hc⟩ := h h0
  exact ⟨b, off, e, Nat.lt_of_lt_of_le hl hb.size, fun j hj => (hb.cell (p := ⟨b, _, none⟩) hl).trans (hc j hj)⟩
def OkAt (i c : Nat) : Prop := (97 ≤ c ∧ c ≤ 122) ∨ (65 ≤ c ∧ c ≤ 90) ∨ (i ≠ 0 ∧ (c = 95 ∨ (48 ≤ c ∧ c ≤ 57)))
instance (i c : Nat) : Decidable (OkAt i c) := inferInstanceAs (Decidable (_ ∨ _))
def identB (s : ByteArray) : Bool := decide (∀ i (h : i < s.size), OkAt i s[i].toNat) && (decide (0 < s.size) && decide (s.size ≤ 24))
theorem ident_bad {s : ByteArray} {i : Nat} (h : i < s.size) (hb : ¬ OkAt i s[i].toNat) : identB s = false := by
  unfold identB
  rw [decide_eq_false fun hc => hb (hc i h)]
  rfl
theorem ident_all {s : ByteArray} (h : ∀ i (h : i < s.size), OkAt i s[i].toNat) : identB s = (decide (0 < s.size) && decide (s.size ≤ 24)) := by
  unfold identB
  rw [decide_eq_true h]
  rfl
abbrev Rw := Bool × ByteArray × ByteArray
/-- How many 6000ths a part is; 0 if it is not allowed. -/
def unitsN (x : Rw) : Nat :=
  if validB x.1 x.2.1 x.2.2 = false ∨ x.1 = true ∨ 4 < x.2.1.size ∨ 4 < x.2.2.size then 0
  else if val x.2.2 < val x.2.1 ∨ 6000 % val x.2.2 ≠ 0 then 0 else val x.2.1 * (6000 / val x.2.2)
def lkP (x : Lk) : Rw := (x.2.2.1, x.2.2.2.1, x.2.2.2.2)
def sumU (l : List Lk) (c : Int) : Nat := ((l.filter fun x => decide (x.1 = c)).map fun x => unitsN (lkP x)).sum
/-- Behind another one. -/
def Rise (a b : Lk) : Prop := a.1 < b.1 ∨ (a.1 = b.1 ∧ a.2.1 < b.2.1)
instance (a b : Lk) : Decidable (Rise a b) := inferInstanceAs (Decidable (_ ∨ _))
/-- A link by itself. -/
def Own (n : Nat) (x : Lk) : Prop := (0 ≤ x.1 ∧ x.1 < n) ∧ (0 ≤ x.2.1 ∧ x.2.1 < n) ∧ x.1 ≠ x.2.1 ∧ unitsN (lkP x) ≠ 0
instance (n : Nat) (x : Lk) : Decidable (Own n x) := inferInstanceAs (Decidable (_ ∧ _))
def LinkAt (n : Nat) (l : List Lk) (i : Nat) (h : i < l.length) : Prop := Own n l[i] ∧ (0 < i → Rise (l[i - 1]'(by omega)) l[i]) ∧ sumU (l.take (i + 1)) l[i].1 ≤ 6000
instance (n : Nat) (l : List Lk) (i : Nat) (h : i < l.length) : Decidable (LinkAt n l i h) := inferInstanceAs (Decidable (_ ∧ _))
/-- A structure by what it holds. -/
structure SR where
  ps : List ByteArray
  cap : List Lk
  vot : List Lk
/-- The links of capital, from holder to company. -/
def edges (s : SR) : List (Nat × Nat) := s.cap.map fun x => (x.2.1.toNat, x.1.toNat)
end Ci
end Go.Proofs.YtpmlhgmmobpilaaGreatDoor
namespace Go.Proofs.YtpmlhgmmobpilaaGreatDoor
open Go.RowKit Go.Shelf
namespace Ci
open Nt
end Ci
end Go.Proofs.YtpmlhgmmobpilaaGreatDoor
namespace Go.Proofs.YtpmlhgmmobpilaaGreatDoor
open Go.RowKit Go.Shelf
namespace Ci
open Nt
theorem valid_parts {g : Bool} {n d : ByteArray} (h : validB g n d = true) : isN n = true ∧ isN d = true ∧ val d ≠ 0 := by
  unfold validB at h
  simp only [Bool.and_eq_true] at h
  obtain ⟨h1, h2, h3, _⟩ := h
  exact ⟨h1, h2, by simpa using h3⟩
end Ci
end Go.Proofs.YtpmlhgmmobpilaaGreatDoor
namespace Go.Proofs.YtpmlhgmmobpilaaGreatDoor
open Go.RowKit Go.Shelf
namespace Ci
open Nt
def regsOf : Code → List Code
  | .loop c => regsOf c
  | .seq a b => regsOf a ++ regsOf b
  | .block _ c => regsOf c
  | .scope c => regsOf c
  | .cond _ a b => regsOf a ++ regsOf b
  | .region a b c => [.region a b c]
  | _ => []
end Ci
end Go.Proofs.YtpmlhgmmobpilaaGreatDoor
namespace Go.Proofs.YtpmlhgmmobpilaaGreatDoor
open Go.RowKit Go.Shelf
namespace Ci
open Nt
/-- A block that is a row of cells, and nothing else. -/
def Bk (W : World) (b : Nat) (t : TypeId) (l : List Value) : Prop := W.heap[b]? = some (.cells l.toArray t (0, 0))
section
variable {W W' : World} {b : Nat} {t : TypeId} {l : List Value}
theorem Bk.lt (h : Bk W b t l) : b < W.heap.size := (Array.getElem?_eq_some_iff.1 h).1
theorem Bk.cell (h : Bk W b t l) {j : Nat} {v : Value} (hj : l[j]? = some v) : W.cell? ⟨b, j, none⟩ = some v := by
  unfold Bk at h
  simp [World.cell?, h, hj]
theorem Bk.frozen (h : Bk W b t l) (j : Nat) : W.frozen? ⟨b, j, none⟩ = false := by
  unfold Bk at h
  simp [World.frozen?, h]
theorem Bk.new (w : World) (t : TypeId) (l : List Value) : Bk (w.alloc (.cells l.toArray t)) w.heap.size t l := heap_alloc_new _ _
theorem Bk.below (h : Bk W b t l) (hb : Below W.heap.size W W') : Bk W' b t l := (hb.block b h.lt).trans h
theorem Bk.alloc (h : Bk W b t l) (o : Obj) : Bk (W.alloc o) b t l := (Below.heap_alloc W o b h.lt).trans h
theorem Bk.grown {row : Option Nat} (h : Bk W b t l) (hg : W.grownBy W' row) (hne : some b ≠ row) : Bk W' b t l := (hg.block b h.lt hne).trans h
theorem Bk.far (h : Bk W b t l) {p : Addr} (hp : b ≠ p.block) (v : Value) : Bk (W.setCell p v) b t l := (Below.heap_setCell _ _ _ _ hp).trans h
theorem Bk.set (h : Bk W b t l) (j : Nat) (v : Value) : Bk (W.setCell ⟨b, j, none⟩ v) b t (l.set j v) := by
  unfold Bk at h ⊢
  simp [World.setCell, Array.getElem?_modify, h]
end
end Ci
end Go.Proofs.YtpmlhgmmobpilaaGreatDoor
namespace Go.Proofs.YtpmlhgmmobpilaaGreatDoor
open Go.RowKit Go.Shelf
namespace Ci
open Nt
/-- A structure in memory. -/
structure StIn (w : World) (s : SR) (Ap Ac Av : Option Addr) : Prop where
  ps : InStr w Ap s.ps
  cap : InLk w Ac s.cap
  vot : InLk w Av s.vot
  np : s.ps.length ≤ 140737488355328
  nc : s.cap.length ≤ 140737488355328
  nv : s.vot.length ≤ 140737488355328
  zp : ∀ x, x ∈ s.ps → x.size ≤ 140737488355328
  zc : ∀ x, x ∈ s.cap → x.2.2.2.1.size ≤ 140737488355328 ∧ x.2.2.2.2.size ≤ 140737488355328
  zv : ∀ x, x ∈ s.vot → x.2.2.2.1.size ≤ 140737488355328 ∧ x.2.2.2.2.size ≤ 140737488355328
  ic : ∀ x, x ∈ s.cap → (-9223372036854775808 ≤ x.1 ∧ x.1 ≤ 9223372036854775807) ∧ (-9223372036854775808 ≤ x.2.1 ∧ x.2.1 ≤ 9223372036854775807)
  iv : ∀ x, x ∈ s.vot → (-9223372036854775808 ≤ x.1 ∧ x.1 ≤ 9223372036854775807) ∧ (-9223372036854775808 ≤ x.2.1 ∧ x.2.1 ≤ 9223372036854775807)
theorem StIn.below {w w' : World} {s : SR} {Ap Ac Av : Option Addr} (h : StIn w s Ap Ac Av) (hb : Below w.heap.size w w') : StIn w' s Ap Ac Av :=
  ⟨h.ps.below hb, h.cap.below hb, h.vot.below hb, h.np, h.nc, h.nv, h.zp, h.zc, h.zv, h.ic, h.iv⟩
abbrev SC (s : SR) (Ap Ac Av : Option Addr) (cp cc cv : Nat) : List Value := [.slice Ap s.ps.length cp, .slice Ac s.cap.length cc, .slice Av s.vot.length cv]
end Ci
end Go.Proofs.YtpmlhgmmobpilaaGreatDoor
namespace Go.Proofs.YtpmlhgmmobpilaaGreatDoor
open Go.RowKit Go.Shelf
namespace Ci
def intsL (l : List Nat) : List Value := l.map fun (q : Nat) => .int .i64 (q : Int)
theorem intsL_snoc (l : List Nat) (q : Nat) : intsL (l ++ [q]) = intsL l ++ [.int .i64 (q : Int)] := by simp [intsL]
def OffB (u v : Value) : Prop := ∀ b, u.ownBlock = some b → v.ownBlock ≠ some b
/-- Block R has the headers of n slices of ints. -/
structure Gr (W : World) (B R n : Nat) (v : Nat → Value) (adj : Nat → List Nat) : Prop where
  lt : R < W.heap.size
  hd : ∀ i, i < n → W.cell? ⟨R, i, none⟩ = some (v i)
  fr : ∀ i, W.frozen? ⟨R, i, none⟩ = false
  rows : ∀ i, i < n → W.ownsRow B 3 1 (v i) (adj i).length (intsL (adj i))
  apart : ∀ i j, i < n → j < n → i ≠ j → OffB (v i) (v j)
  ne : ∀ i, i < n → (v i).ownBlock ≠ some R
  lowR : B ≤ R
section
variable {W W' : World} {B R n i : Nat} {v : Nat → Value} {adj : Nat → List Nat}
theorem own_below' {base : Nat} {e : TypeId} {size m : Nat} {u : Value} {xs : List Value} (h : W.ownsRow base e size u m xs) (hb : Below W.heap.size W W') : W'.ownsRow base e size u m xs :=
  h.kept (row := none) ⟨hb.os, hb.tape, hb.output, hb.size, fun k hk _ => hb.block k hk⟩ (by
    cases hu : u.ownBlock with
    | none => exact .inl rfl
    | some b => exact .inr (by simp))
theorem Gr.below (h : Gr W B R n v adj) (hb : Below W.heap.size W W') : Gr W' B R n v adj :=
  ⟨Nat.lt_of_lt_of_le h.lt hb.size, fun i hi => (hb.cell (p := ⟨R, i, none⟩) h.lt).trans (h.hd i hi), fun i => (hb.frozen (p := ⟨R, i, none⟩) h.lt).trans (h.fr i), fun i hi => own_below' (h.rows i hi) hb, h.apart, h.ne, h.lowR⟩
theorem Gr.alloc (h : Gr W B R n v adj) (o : Obj) : Gr (W.alloc o) B R n v adj := h.below ((Below.refl _ W).alloc (Nat.le_refl _) o)
theorem Gr.drew (h : Gr W B R n v adj) : Gr W.drew B R n v adj := h.below (Below.refl _ W).drew
theorem Gr.mono {B' : Nat} (h : Gr W B R n v adj) (hb : B' ≤ B) : Gr W B' R n v adj :=
  ⟨h.lt, h.hd, h.fr, fun i hi => by
    obtain ⟨h1, h2⟩ := h.rows i hi
    refine ⟨h1, ?_⟩
    rcases h2 with h2 | ⟨g, cap, cur, hv, hg, hh⟩
    · exact .inl h2
    · exact .inr ⟨g, cap, cur, hv, Nat.le_trans hb hg, hh⟩, h.apart, h.ne, Nat.le_trans hb h.lowR⟩
theorem Gr.start (w : World) {B : Nat} (hB : B ≤ w.heap.size) (n : Nat) (t : TypeId) : Gr (w.alloc (.cells (madeCells #[.slice none 0 0] n) t)) B w.heap.size n (fun _ => .slice none 0 0) fun _ => [] := by
  have h := heap_alloc_new w (.cells (madeCells #[(.slice none 0 0 : Value)] n) t)
  refine ⟨by simp, fun x hx => ?_, fun x => by simp only [World.frozen?, h]; simp, fun _ _ => World.ownsRow_nil _ _ _ _, fun _ _ _ _ _ b hb => (by cases hb), fun _ _ hb => (by cases hb), hB⟩
  simp only [World.cell?, h]
  simp [madeCells, hx]
  rw [Nat.mod_one]
  rfl
def setL (adj : Nat → List Nat) (x q : Nat) : Nat → List Nat := fun i => if i = x then adj i ++ [q] else adj i
/-- A row has grown, and its header is stored anew. -/
theorem Gr.step (h : Gr W B R n v adj) {x q : Nat} (hx : x < n) {u : Value} (hg : W.grownBy W' (v x).ownBlock) (ho : W'.ownsRow B 3 1 u ((adj x).length + 1) (intsL (adj x) ++ [.int .i64 (q : Int)])) (hn : u.ownBlock = (v x).ownBlock ∨ u.ownBlock = some W.heap.size) :
    Gr (W'.setCell ⟨R, x, none⟩ u) B R n (fun i => if i = x then u else v i) (setL adj x q) := by
  have hRx : some R ≠ (v x).ownBlock := fun e => h.ne x hx e.symm
  have hbR : W'.heap[R]? = W.heap[R]? := hg.block R h.lt hRx
  have hcell : ∀ i, W'.cell? ⟨R, i, none⟩ = W.cell? ⟨R, i, none⟩ := fun i => World.cell?_of_block (a := ⟨R, i, none⟩) hbR
  have hfr : ∀ i, W'.frozen? ⟨R, i, none⟩ = W.frozen? ⟨R, i, none⟩ := fun i => World.frozen?_of_block (a := ⟨R, i, none⟩) hbR
  have huR : u.ownBlock ≠ some R := fun e => by
    rcases hn with hn | hn
    · exact h.ne x hx (by rw [← hn, e])
    · rw [e] at hn
      have := h.lt
      simp only [Option.some.injEq] at hn
      omega
  have hne : ∀ a b : Nat, a ≠ b → (⟨R, a, none⟩ : Addr) ≠ ⟨R, b, none⟩ := fun a b e1 e2 => by injection e2 with _ e3; exact e1 e3
  have far : ∀ {m : Nat} {z : Value} {xs : List Value}, W'.ownsRow B 3 1 z m xs → z.ownBlock ≠ some R → (W'.setCell ⟨R, x, none⟩ u).ownsRow B 3 1 z m xs := fun h hz =>
    h.kept (row := some R) ⟨rfl, rfl, rfl, by simp, fun k _ hk => Below.heap_setCell _ _ _ _ (fun e => hk (by rw [e]))⟩ (.inr hz)
  have hoff : ∀ i, i < n → i ≠ x → OffB (v i) u := fun i hi hix b hb e => by
    rcases hn with hn | hn
    · exact h.apart i x hi hx hix b hb (by rw [← hn, e])
    · have := ((h.rows i hi).lt b hb).2
      rw [e] at hn
      simp only [Option.some.injEq] at hn
      omega
  refine ⟨by have := hg.size; have := h.lt; simp; omega, fun i hi => ?_, fun i => by simpa [hfr] using h.fr i, fun i hi => ?_, fun i j hi hj e => ?_, fun i hi => ?_, h.lowR⟩
  · by_cases e : i = x
    · subst e
      rw [if_pos rfl]
      exact World.cell?_setCell_same _ _ _ ((hcell i).trans (h.hd i hi))
    · rw [if_neg e, World.cell?_setCell_other _ _ _ _ (by first | exact hne _ _ e | exact hne _ _ fun c => e c.symm), hcell]
      exact h.hd i hi
  · by_cases e : i = x
    · subst e
      rw [if_pos rfl]
      have : setL adj i q i = adj i ++ [q] := if_pos rfl
      rw [this, List.length_append, intsL_snoc]
      exact far ho huR
    · rw [if_neg e]
      have : setL adj x q i = adj i := if_neg e
      rw [this]
      refine far ((h.rows i hi).kept hg ?_) (h.ne i hi)
      cases hv : (v i).ownBlock with
      | none => exact .inl rfl
      | some b => exact .inr fun c => h.apart i x hi hx e b hv c.symm
  · by_cases e1 : i = x
    · have e2 : j ≠ x := fun c => e (by rw [e1, c])
      rw [if_pos e1, if_neg e2]
      exact fun b hb hc => hoff j hj e2 b hc hb
    · rw [if_neg e1]
      by_cases e2 : j = x
      · rw [if_pos e2]
        exact hoff i hi e1
      · rw [if_neg e2]
        exact h.apart i j hi hj e
  · by_cases e : i = x
    · rw [if_pos e]; exact huR
    · rw [if_neg e]; exact h.ne i hi
theorem Gr.congr {a' : Nat → List Nat} (h : Gr W B R n v adj) (e : ∀ i, i < n → adj i = a' i) : Gr W B R n v a' :=
  ⟨h.lt, h.hd, h.fr, fun i hi => by rw [← e i hi]; exact h.rows i hi, h.apart, h.ne, h.lowR⟩
end
end Ci
end Go.Proofs.YtpmlhgmmobpilaaGreatDoor
namespace Go.Proofs.YtpmlhgmmobpilaaGreatDoor
open Go.RowKit Go.Shelf
namespace Ci
section
variable {w w' : World} {base : Nat} {e : TypeId} {size : Nat} {u v v' : Value} {n : Nat} {xs : List Value}
theorem run_append_at {P : Program} (t ty e : TypeId) (i : TypeInfo) (z : Value) (size bytes : Nat) (ht : P.underlying t = some (.slice e)) (hi : P.info? e = some i) (hz : i.zero = some z)
    (hsize : i.size = size) (hby : i.bytes = bytes) (v : Value) (n : Nat) (xs : List Value) (hown : w.ownsRow base e size v n xs)
    (a : Addr) (m c : Nat) (news : List Value) (hl : news.length = m * size) (hnews : ∀ j u, news[j]? = some u → w.cell? (a.add j) = some u) (h1 : ∀ u ∈ news, u.oneCell' = true) (hm : 0 < m)
    (h63 : n + m ≤ maxLen) (hbytes : (n + m) * bytes ≤ 140737488355328) {v' : Value} {w' : World} (hr : (Builtin.append_ #[t, t] ty #[v, .slice (some a) m c]).run P w = .ok v' w') :
    v'.ownBlock = v.ownBlock ∨ v'.ownBlock = some w.heap.size := by
  subst hsize
  subst hby
  have hsmall : n + m ≤ 9223372036854775807 := by simp only [maxLen] at h63; omega
  rcases hown.2 with ⟨rfl, rfl⟩ | ⟨g, cap, cur, rfl, _, hg, _, hcm, hcs, _⟩
  · have hr2 := run_append_nil (P := P) w t ty e i z ht hi hz a m c news hl hnews (by omega) (by omega) (by have hb := hbytes; simp only [Nat.zero_add] at hb; omega)
    rw [hr2] at hr
    simp only [Result.ok.injEq] at hr
    rw [← hr.1]
    exact .inr rfl
  · by_cases hroom : n + m ≤ cap
    · have hfit : n * i.size + news.length ≤ cur.size := by rw [hl, hcs, ← Nat.add_mul]; exact Nat.mul_le_mul_right _ hroom
      have hr2 := run_append_room (P := P) w t ty e i ht hi g n cap cur hg a m c news hl hnews h1 hroom hfit
      rw [hr2] at hr
      simp only [Result.ok.injEq] at hr
      rw [← hr.1]
      exact .inl rfl
    · have holds : ∀ j u, xs[j]? = some u → w.cell? ((⟨g, 0, none⟩ : Addr).add j) = some u := hown.cells (g := g) rfl
      have hr2 := run_append_grow (P := P) w t ty e i z ht hi hz ⟨g, 0, none⟩ n cap xs hown.1 holds a m c news hl hnews (by omega) (by omega) (growslice_fits (by omega) hbytes)
      rw [hr2] at hr
      simp only [Result.ok.injEq] at hr
      rw [← hr.1]
      exact .inr rfl
end
theorem one_cell1 (v : Value) (h : v.oneCell' = true) : ∀ u ∈ [v], u.oneCell' = true := fun u hu => by rw [List.mem_singleton.1 hu]; exact h
theorem head_new (w : World) (v : Value) (t : TypeId) : ∀ j u, [v][j]? = some u → (w.alloc (.cells #[v] t)).cell? (Addr.add ⟨w.heap.size, 0, none⟩ j) = some u := by
  intro j u hj
  match j, hj with
  | 0, hj => simp at hj; subst hj; simp [Addr.add]
  | j + 1, hj => simp at hj
theorem wp_append_new {P : Program} (w : World) {o : Oper} {a : Act} {K : Act → World → Prop} {Q : Exit → Act → World → Prop} (s x : Operand) (t : TypeId)
    (ho : o.op = .call { callee := .builtin .append, args := #[s, x], argTypes := #[t, t] })
    (base : Nat) (e : TypeId) (i : TypeInfo) (z : Value) (size bytes : Nat) (ht : P.underlying t = some (.slice e)) (hi : P.info? e = some i) (hz : i.zero = some z)
    (hsize : i.size = size) (hby : i.bytes = bytes) (hzs : z.cells.size = size) (hsz : 0 < size)
    (v : Value) (n : Nat) (xs : List Value) (hs : a.eval s = v) (hown : w.ownsRow base e size v n xs)
    (ad : Addr) (m c : Nat) (news : List Value) (hx : a.eval x = .slice (some ad) m c) (hl : news.length = m * size) (hnews : ∀ j u, news[j]? = some u → w.cell? (ad.add j) = some u) (h1 : ∀ u ∈ news, u.oneCell' = true) (hm : 0 < m)
    (h63 : n + m ≤ maxLen) (hbytes : (n + m) * bytes ≤ 140737488355328) (hbase : base ≤ w.heap.size)
    (h : ∀ v' w', w'.ownsRow base e size v' (n + m) (xs ++ news) → w.grownBy w' v.ownBlock → (v'.ownBlock = v.ownBlock ∨ v'.ownBlock = some w.heap.size) → K (a.put o.dst v') w') : o.wp P a w K Q := by
  obtain ⟨v', w', hr, h2, h3, _⟩ := run_append_own (P := P) w base t o.type e i z size bytes ht hi hz hsize hby hzs hsz v n xs hown ad m c news hl hnews h1 h63 hbytes hbase
  have h5 := run_append_at (P := P) t o.type e i z size bytes ht hi hz hsize hby v n xs hown ad m c news hl hnews h1 hm h63 hbytes hr
  unfold Oper.wp execOp
  simp only [ho, resolve, invoke, builtin, Sem.run_bind, Sem.run_pure, Result.andThen_ok, List.map_toArray, List.map_cons, List.map_nil, hs, hx, hr]
  exact h v' w' h2 h3 h5
end Ci
end Go.Proofs.YtpmlhgmmobpilaaGreatDoor
namespace Go.Proofs.YtpmlhgmmobpilaaGreatDoor
open Go.RowKit Go.Shelf
namespace Ci
open Nt
theorem infoG : (Tryz.prog.info? 24).map (fun i => (i.zero, i.size, i.bytes)) = some (some (.slice none 0 0), 1, 24) := by kernel_rfl
theorem infoI : (Tryz.prog.info? 3).map (fun i => (i.zero, i.size, i.bytes)) = some (some (.int .i64 0), 1, 8) := by kernel_rfl
/-- Whom party p leads to, by the first k links. -/
def adjO (E : List (Nat × Nat)) (k p : Nat) : List Nat := ((E.take k).filter fun x => decide (x.1 = p)).map (·.2)
theorem adjO_succ {E : List (Nat × Nat)} {k : Nat} (h : k < E.length) (p : Nat) : adjO E (k + 1) p = setL (adjO E k) E[k].1 E[k].2 p := by
  unfold adjO setL
  rw [List.take_succ_eq_append_getElem h, List.filter_append, List.map_append]
  by_cases e : E[k].1 = p
  · rw [if_pos e.symm, List.filter_cons, if_pos (by simpa using e)]; rfl
  · rw [if_neg (fun c => e c.symm), List.filter_cons, if_neg (by simpa using e)]; simp
set_option maxRecDepth 100000 in
set_option maxHeartbeats 16000000 in
theorem of_any (s : SR) (Ap Ac Av : Option Addr) (cp cc cv : Nat) (w : World) (hs : StIn w s Ap Ac Av) (hn : s.ps.length ≤ 100) (hc3 : s.cap.length ≤ 300) (hin : ∀ x, x ∈ s.cap → (0 ≤ x.1 ∧ x.1 < s.ps.length) ∧ (0 ≤ x.2.1 ∧ x.2.1 < s.ps.length)) :
    Calls Tryz.prog 121 #[.agg #[.slice Ap s.ps.length cp, .slice Ac s.cap.length cc, .slice Av s.vot.length cv]] w fun e w' => (∃ R v, e = .returned (.slice (some ⟨R, 0, none⟩) s.ps.length s.ps.length) ∧ Gr w' w.heap.size R s.ps.length v (adjO (edges s) (edges s).length)) ∧ Below w.heap.size w w' := by
  have hmk := run_make_row' (P := Tryz.prog) 137 24 (.slice none 0 0) 24 Tryz.underlying137 infoG rfl .i64 .i64 s.ps.length (by omega) (by omega)
  have hX0 : Hid (Bk (w.alloc (.cells #[.slice Ap s.ps.length cp, .slice Ac s.cap.length cc, .slice Av s.vot.length cv] 54)) w.heap.size 54 (SC s Ap Ac Av cp cc cv)) := Bk.new w _ _
  have hB0 : Hid (Below w.heap.size w (w.alloc (.cells #[.slice Ap s.ps.length cp, .slice Ac s.cap.length cc, .slice Av s.vot.length cv] 54))) := (Below.refl _ w).alloc (Nat.le_refl _) _
  have u0 := hX0.out.cell (j := 0) rfl
  have u1 := hX0.out.cell (j := 1) rfl
  have u9 := hX0.out.lt
  have hG0 : Hid (Gr ((w.alloc (.cells #[.slice Ap s.ps.length cp, .slice Ac s.cap.length cc, .slice Av s.vot.length cv] 54)).alloc (.cells (madeCells #[(.slice none 0 0 : Value)] s.ps.length) 24)) w.heap.size (w.heap.size + 1) s.ps.length (fun _ => .slice none 0 0) (adjO (edges s) 0)) := by
    have h := Gr.start (w.alloc (.cells #[.slice Ap s.ps.length cp, .slice Ac s.cap.length cc, .slice Av s.vot.length cv] 54)) (B := w.heap.size) (by simp) s.ps.length 24
    rw [World.size_alloc] at h
    exact h.congr fun i _ => rfl
  have hB1 : Hid (Below w.heap.size w ((w.alloc (.cells #[.slice Ap s.ps.length cp, .slice Ac s.cap.length cc, .slice Av s.vot.length cv] 54)).alloc (.cells (madeCells #[(.slice none 0 0 : Value)] s.ps.length) 24))) := hB0.out.alloc hB0.out.size _
  have hX1 := Lib.hid (hX0.out.alloc (.cells (madeCells #[(.slice none 0 0 : Value)] s.ps.length) 24))
  have v1 := hX1.out.cell (j := 1) rfl
  have v9 := hX1.out.lt
  obtain ⟨i0, hi0, hzz⟩ := Option.map_eq_some_iff.1 infoI
  simp only [Prod.mk.injEq] at hzz
  obtain ⟨hz0, hz1, hz2⟩ := hzz
  replace hi0 := Lib.hid hi0
  replace hz0 := Lib.hid hz0
  replace hz1 := Lib.hid hz1
  replace hz2 := Lib.hid hz2
  have hel : Hid ((edges s).length = s.cap.length) := by unfold Hid edges; simp
  have hap : Hid (∀ k p, (adjO (edges s) k p).length ≤ 300) := fun k p => by
    unfold adjO
    rw [List.length_map]
    have h1 := List.length_filter_le (fun x : Nat × Nat => decide (x.1 = p)) ((edges s).take k)
    have h2 : ((edges s).take k).length ≤ (edges s).length := List.length_take_le' _ _
    have := hel.out
    omega
  replace hs := Lib.hid hs
  replace hin := Lib.hid hin
  go_enter Tryz.func121, Tryz.ntmps121
  go_wp2
  clear hmk u0 u1 u9 v1 v9
  go_loopw [13] (fun i wr => ∃ (k : Nat) (v : Nat → Value), k ≤ s.cap.length ∧ i = .int .i64 (k : Int) ∧ Hid (Below w.heap.size w wr) ∧ Hid (Gr wr w.heap.size (w.heap.size + 1) s.ps.length v (adjO (edges s) k))) (fun i _ => s.cap.length - (intOf i).toNat)
  case atStart => exact ⟨0, _, Nat.zero_le _, rfl, hB1, hG0⟩
  case round =>
    obtain ⟨k, v, hk, rfl, hB, hG⟩ := hrel
    clear hX0 hB0 hG0 hB1 hX1
    by_cases hlt : k < s.cap.length
    · obtain ⟨b, o, rfl, hbl, hcc⟩ := (hs.out.below hB.out).cap (by omega)
      obtain ⟨e1, e2, e3, e4, e5⟩ := hcc k hlt
      have hix := hin.out s.cap[k] (List.getElem_mem hlt)
      have hek : Hid (∀ p, adjO (edges s) (k + 1) p = setL (adjO (edges s) k) s.cap[k].2.1.toNat s.cap[k].1.toNat p) := fun p => by
        have h := adjO_succ (E := edges s) (k := k) (by rw [hel.out]; exact hlt) p
        have h2 : (edges s)[k]'(by rw [hel.out]; exact hlt) = (s.cap[k].2.1.toNat, s.cap[k].1.toNat) := by unfold edges; simp
        rw [h2] at h
        exact h
      obtain ⟨x, hx⟩ : ∃ x, x = s.cap[k] := ⟨_, rfl⟩
      rw [← hx] at e1 e2 e3 e4 e5 hix hek
      obtain ⟨coI, hoI, g, nn, dd⟩ := x
      obtain ⟨⟨i1, i2⟩, i3, i4⟩ := hix
      replace i1 : 0 ≤ coI := i1
      replace i2 : coI < s.ps.length := i2
      replace i3 : 0 ≤ hoI := i3
      replace i4 : hoI < s.ps.length := i4
      obtain ⟨co, rfl⟩ : ∃ c : Nat, coI = (c : Int) := ⟨coI.toNat, by omega⟩
      obtain ⟨ho, rfl⟩ : ∃ c : Nat, hoI = (c : Int) := ⟨hoI.toNat, by omega⟩
      replace e1 : wr.cell? ⟨b, o + k * 5, none⟩ = some (.int .i64 (co : Int)) := e1
      replace e2 : wr.cell? ⟨b, o + k * 5 + 1, none⟩ = some (.int .i64 (ho : Int)) := e2
      replace e3 : wr.cell? ⟨b, o + k * 5 + 2, none⟩ = some (.bool g) := e3
      replace e4 : wr.cell? ⟨b, o + k * 5 + 3, none⟩ = some (.string nn) := e4
      replace e5 : wr.cell? ⟨b, o + k * 5 + 4, none⟩ = some (.string dd) := e5
      replace hek : Hid (∀ p, adjO (edges s) (k + 1) p = setL (adjO (edges s) k) ho co p) := fun p => by have h := hek.out p; simpa using h
      replace hx := Lib.hid hx
      have j0 : (0 : Int) ≤ (k : Int) := by omega
      have j1 : (k : Int) < (s.cap.length : Int) := by omega
      have hho : ho < s.ps.length := by omega
      have hx1 : Hid (Bk (wr.alloc (.cells #[.int .i64 (co : Int), .int .i64 (ho : Int), .bool g, .string nn, .string dd] 94)) wr.heap.size 94 [.int .i64 (co : Int), .int .i64 (ho : Int), .bool g, .string nn, .string dd]) := Bk.new wr _ _
      have hBw := Lib.hid (hB.out.alloc hB.out.size (.cells #[.int .i64 (co : Int), .int .i64 (ho : Int), .bool g, .string nn, .string dd] 94))
      have hGw := Lib.hid (hG.out.alloc (.cells #[.int .i64 (co : Int), .int .i64 (ho : Int), .bool g, .string nn, .string dd] 94))
      have hxw : w.heap.size + 1 < wr.heap.size := hG.out.lt
      clear hcc
      go_wp2_with fail
      obtain ⟨W1, hW1⟩ : ∃ W, W = wr.alloc (.cells #[.int .i64 (co : Int), .int .i64 (ho : Int), .bool g, .string nn, .string dd] 94) := ⟨_, rfl⟩
      rw [← hW1] at hx1 hBw hGw ⊢
      obtain ⟨xb, hxb⟩ : ∃ b, b = wr.heap.size := ⟨_, rfl⟩
      rw [← hxb] at hx1 hxw ⊢
      obtain ⟨vh, hvh⟩ : ∃ x, x = v ho := ⟨_, rfl⟩
      have hhd := hGw.out.hd ho hho
      have hrow := Lib.hid (hGw.out.rows ho hho)
      rw [← hvh] at hhd hrow
      have hnx : Hid (vh.ownBlock ≠ some xb) := fun e => by
        have h1 := (hG.out.rows ho hho).lt xb (by rw [← hvh]; exact e)
        omega
      have hnR : Hid (vh.ownBlock ≠ some (w.heap.size + 1)) := by rw [hvh]; exact hG.out.ne ho hho
      replace hvh := Lib.hid hvh
      clear hxb
      clear hW1 hB hG e1 e2 e3 e4 e5 hbl
      have hlR := hGw.out.lt
      have hlx := hx1.out.lt
      have HO : Hid (∀ W, Below W1.heap.size W1 W → W.cell? ⟨xb, 0, none⟩ = some (.int .i64 (co : Int)) ∧ W.cell? ⟨xb, 1, none⟩ = some (.int .i64 (ho : Int))) := fun W h =>
        ⟨(hx1.out.below h).cell (j := 0) rfl, (hx1.out.below h).cell (j := 1) rfl⟩
      have hal := hap.out k ho
      have q0 : (0 : Int) ≤ (ho : Int) := by omega
      have q1 : (ho : Int) < (s.ps.length : Int) := by omega
      refine wp_region_noPanic ?_
      refine wp_region_held_drew (S := fun W => W.cell? ⟨xb, 0, none⟩ = some (.int .i64 (co : Int)) ∧ W.cell? ⟨xb, 1, none⟩ = some (.int .i64 (ho : Int))) (by kernel_rfl) (HO.out _ (Below.refl _ _).drew) (fun hS0 => ?_)
      replace hS0 := Lib.hid hS0
      refine wpAnyH_take (i := 0) (oi := _) (v := ?_) rfl (by kernel_rfl) (by kernel_rfl) (by kernel_rfl) (fun _ _ _ h => h) (Or.inl ⟨by rfl, ?_⟩) (hS0.out) ?_
      rotate_left
      · (intro w hSw; obtain ⟨q1, q2⟩ := hSw; go_simp <;> with_reducible rfl)
      try simp only [Act.put, List.setIfInBounds_toArray]
      refine wpAnyH_take (i := 1) (oi := _) (v := ?_) rfl (by kernel_rfl) (by kernel_rfl) (by kernel_rfl) (fun _ _ _ h => h) (Or.inl ⟨by rfl, ?_⟩) (hS0.out) ?_
      rotate_left
      · (intro w hSw; obtain ⟨q1, q2⟩ := hSw; go_simp <;> with_reducible rfl)
      try simp only [Act.put]
      refine wpAnyH_take (i := 2) (oi := _) (v := ?_) rfl (by kernel_rfl) (by kernel_rfl) (by kernel_rfl) (fun _ _ _ h => h) (Or.inl ⟨by rfl, ?_⟩) (hS0.out) ?_
      rotate_left
      · (intro w hSw; obtain ⟨q1, q2⟩ := hSw; go_simp <;> with_reducible rfl)
      try simp only [Act.put]
      refine wpAnyH_take (i := 3) (oi := _) (v := ?_) rfl (by kernel_rfl) (by kernel_rfl) (by kernel_rfl) (fun _ _ _ h => h) (Or.inl ⟨by rfl, ?_⟩) (hS0.out) ?_
      rotate_left
      · (intro w hSw; obtain ⟨q1, q2⟩ := hSw; go_simp <;> with_reducible rfl)
      try simp only [Act.put]
      refine wpAnyH_take (i := 4) (oi := _) (v := ?_) rfl (by kernel_rfl) (by kernel_rfl) (by kernel_rfl) (fun _ _ _ h => h) (Or.inl ⟨by rfl, ?_⟩) (hS0.out) ?_
      rotate_left
      · (intro w hSw; obtain ⟨q1, q2⟩ := hSw; go_simp <;> with_reducible rfl)
      try simp only [Act.put]
      refine wpAnyH_take (i := 5) (oi := _) (v := ?_) rfl (by kernel_rfl) (by kernel_rfl) (by kernel_rfl) (fun _ _ _ h => h) (Or.inl ⟨by rfl, ?_⟩) (hS0.out) ?_
      rotate_left
      · (intro w hSw; obtain ⟨q1, q2⟩ := hSw; go_simp <;> with_reducible rfl)
      try simp only [Act.put]
      refine wpAnyH_take (i := 6) (oi := _) (v := ?_) rfl (by kernel_rfl) (by kernel_rfl) (by kernel_rfl) (fun _ _ _ h => h) (Or.inl ⟨by rfl, ?_⟩) (hS0.out) ?_
      rotate_left
      · (intro w hSw; obtain ⟨q1, q2⟩ := hSw; go_simp <;> with_reducible rfl)
      try simp only [Act.put]
      refine wpAnyH_take (i := 8) (oi := _) (v := ?_) rfl (by kernel_rfl) (by kernel_rfl) (by kernel_rfl) (fun _ _ _ h => h) (Or.inl ⟨by rfl, ?_⟩) (hS0.out) ?_
      rotate_left
      · (intro w hSw; obtain ⟨q1, q2⟩ := hSw; go_simp <;> with_reducible rfl)
      try simp only [Act.put]
      refine wpAnyH_take (i := 9) (oi := _) (v := ?_) rfl (by kernel_rfl) (by kernel_rfl) (by kernel_rfl) (fun _ _ _ h => h) (Or.inl ⟨by rfl, ?_⟩) (hS0.out) ?_
      rotate_left
      · (intro w hSw; obtain ⟨q1, q2⟩ := hSw; go_simp <;> with_reducible rfl)
      try simp only [Act.put]
      have hBe : Hid (Below W1.heap.size W1 W1.drew) := (Below.refl _ W1).drew
      have hB3 : Hid (Below W1.heap.size W1 (W1.alloc (.cells #[.int .i64 (co : Int)] 3)).drew) := ((Below.refl _ W1).alloc (Nat.le_refl _) _).drew
      refine wpAnyH_ready (rs := [7, 10]) (by kernel_rfl) (by simp) ?_
      refine AllReadyH.cons (o := _) rfl (fun K hK => ?_) ?_
      · have hh := (hBe.out.cell (p := ⟨w.heap.size + 1, ho, none⟩) hlR).trans hhd
        go_simp
        clear hh
        refine hK.out _ _ (HO.out _ hBe.out) (fun _ => ?_)
        clear hK K
        try simp only [Act.put, List.setIfInBounds_toArray, List.set_cons_zero, List.set_cons_succ]
        refine wpAnyH_ready (rs := [10]) (by kernel_rfl) (by simp) ?_
        refine AllReadyH.cons (o := _) rfl (fun K hK => ?_) ?_
        · go_simp
          refine hK.out _ _ (HO.out _ hB3.out) (fun _ => ?_)
          clear hK K
          try simp only [Act.put, List.setIfInBounds_toArray, List.set_cons_zero, List.set_cons_succ]
          refine wpAnyH_ready (rs := [11]) (by kernel_rfl) (by simp) ?_
          refine AllReadyH.cons (o := _) rfl (fun K hK => ?_) ?_
          · rw [if_pos (by rfl)]
            refine wp_append_new _ _ _ 24 rfl w.heap.size 3 i0 (.int .i64 0) 1 8 Tryz.underlying24 hi0.out hz0.out hz1.out hz2.out rfl (by decide) vh (adjO (edges s) k ho).length (intsL (adjO (edges s) k ho)) rfl (own_below' hrow.out hB3.out) ⟨W1.heap.size, 0, none⟩ 1 1 [.int .i64 (co : Int)] rfl rfl (head_new W1 _ _) (one_cell1 _ rfl) (by omega) (by unfold maxLen; omega) (by omega) (hBw.out.trans (hB3.out.mono hBw.out.size)).size ?_
            intro vb wb hob hgb hnb
            have hx4 : Hid (Bk wb xb 94 [.int .i64 (co : Int), .int .i64 (ho : Int), .bool g, .string nn, .string dd]) := (hx1.out.below hB3.out).grown hgb (fun e => hnx.out e.symm)
            have hB2 := Lib.hid (hBw.out.trans (hB3.out.mono hBw.out.size))
            have hB4 : Hid (Below w.heap.size w wb) := hB2.out.grown hgb hB2.out.size (fun b e => (hrow.out.lt b e).1)
            have hG9 : Hid (Gr (wb.setCell ⟨w.heap.size + 1, ho, none⟩ vb) w.heap.size (w.heap.size + 1) s.ps.length (fun i => if i = ho then vb else v i) (adjO (edges s) (k + 1))) := by
              have h := ((hGw.out.alloc (.cells #[.int .i64 (co : Int)] 3)).drew).step (q := co) hho (u := vb) (W' := wb) (by rw [← hvh.out]; exact hgb) hob (by rw [← hvh.out]; exact hnb)
              exact h.congr fun i _ => (hek.out i).symm
            have hB9 : Hid (Below w.heap.size w (wb.setCell ⟨w.heap.size + 1, ho, none⟩ vb)) := hB4.out.setCell (p := ⟨w.heap.size + 1, ho, none⟩) (Nat.le_succ _) _
            have hbk := hgb.block (w.heap.size + 1) (Nat.lt_of_lt_of_le hlR hB3.out.size) (fun e => hnR.out e.symm)
            have y1 := (World.cell?_of_block (a := ⟨w.heap.size + 1, ho, none⟩) hbk).trans ((hB3.out.cell (p := ⟨w.heap.size + 1, ho, none⟩) hlR).trans hhd)
            have y2 := (World.frozen?_of_block (a := ⟨w.heap.size + 1, ho, none⟩) hbk).trans ((hB3.out.frozen (p := ⟨w.heap.size + 1, ho, none⟩) hlR).trans (hGw.out.fr ho))
            have y3 : w.heap.size + 1 < wb.heap.size := Nat.lt_of_lt_of_le (Nat.lt_of_lt_of_le hlR hB3.out.size) hgb.size
            rcases hob.2 with ⟨_, hnil⟩ | ⟨g9, cap9, cur9, rfl, _⟩
            · exact absurd hnil (by omega)
            clear hob hgb hnb hek hB3 hbk hB2
            refine hK.out _ _ ⟨hx4.out.cell (j := 0) rfl, hx4.out.cell (j := 1) rfl⟩ (fun _ => ?_)
            clear hK K
            try simp only [Act.put, List.setIfInBounds_toArray]
            refine wpAnyH_take (i := 12) (oi := _) (v := ?_) rfl (by kernel_rfl) (by kernel_rfl) (by kernel_rfl) (fun _ _ _ h => h) (Or.inl ⟨by rfl, ?_⟩) (⟨hx4.out.cell (j := 0) rfl, hx4.out.cell (j := 1) rfl⟩) ?_
            rotate_left
            · (intro w hSw; obtain ⟨q1, q2⟩ := hSw; go_simp <;> with_reducible rfl)
            try simp only [Act.put]
            refine wpAnyH_ready (rs := [13]) (by kernel_rfl) (by simp) ?_
            refine AllReadyH.cons (o := _) rfl (fun K hK => ?_) ?_
            · go_simp
              refine hK.out _ _ ⟨(hx4.out.far (p := ⟨w.heap.size + 1, ho, none⟩) (Nat.ne_of_gt hxw) _).cell (j := 0) rfl, (hx4.out.far (p := ⟨w.heap.size + 1, ho, none⟩) (Nat.ne_of_gt hxw) _).cell (j := 1) rfl⟩ (fun _ => ?_)
              clear hK K
              try simp only [Act.put, List.setIfInBounds_toArray, List.set_cons_zero, List.set_cons_succ]
              refine wpAnyH_done (by kernel_rfl) ?_ _
              refine NoPanic.normal ?_
              clear y1 y2 y3 HO hal
              go_wp2
              go_roundw
              case rel => exact ⟨k + 1, _, by omega, by go_num, hB9, hG9⟩
              case measure => simp [intOf]; omega
            exact AllReadyH.nil
          exact AllReadyH.nil
        exact AllReadyH.nil
      refine AllReadyH.cons (o := _) rfl (fun K hK => ?_) ?_
      · go_simp
        refine hK.out _ _ (HO.out _ hB3.out) (fun _ => ?_)
        clear hK K
        try simp only [Act.put, List.setIfInBounds_toArray, List.set_cons_zero, List.set_cons_succ]
        refine wpAnyH_ready (rs := [7]) (by kernel_rfl) (by simp) ?_
        refine AllReadyH.cons (o := _) rfl (fun K hK => ?_) ?_
        · have hh := (hB3.out.cell (p := ⟨w.heap.size + 1, ho, none⟩) hlR).trans hhd
          go_simp
          clear hh
          refine hK.out _ _ (HO.out _ hB3.out) (fun _ => ?_)
          clear hK K
          try simp only [Act.put, List.setIfInBounds_toArray, List.set_cons_zero, List.set_cons_succ]
          refine wpAnyH_ready (rs := [11]) (by kernel_rfl) (by simp) ?_
          refine AllReadyH.cons (o := _) rfl (fun K hK => ?_) ?_
          · rw [if_pos (by rfl)]
            refine wp_append_new _ _ _ 24 rfl w.heap.size 3 i0 (.int .i64 0) 1 8 Tryz.underlying24 hi0.out hz0.out hz1.out hz2.out rfl (by decide) vh (adjO (edges s) k ho).length (intsL (adjO (edges s) k ho)) rfl (own_below' hrow.out hB3.out) ⟨W1.heap.size, 0, none⟩ 1 1 [.int .i64 (co : Int)] rfl rfl (head_new W1 _ _) (one_cell1 _ rfl) (by omega) (by unfold maxLen; omega) (by omega) (hBw.out.trans (hB3.out.mono hBw.out.size)).size ?_
            intro vb wb hob hgb hnb
            have hx4 : Hid (Bk wb xb 94 [.int .i64 (co : Int), .int .i64 (ho : Int), .bool g, .string nn, .string dd]) := (hx1.out.below hB3.out).grown hgb (fun e => hnx.out e.symm)
            have hB2 := Lib.hid (hBw.out.trans (hB3.out.mono hBw.out.size))
            have hB4 : Hid (Below w.heap.size w wb) := hB2.out.grown hgb hB2.out.size (fun b e => (hrow.out.lt b e).1)
            have hG9 : Hid (Gr (wb.setCell ⟨w.heap.size + 1, ho, none⟩ vb) w.heap.size (w.heap.size + 1) s.ps.length (fun i => if i = ho then vb else v i) (adjO (edges s) (k + 1))) := by
              have h := ((hGw.out.alloc (.cells #[.int .i64 (co : Int)] 3)).drew).step (q := co) hho (u := vb) (W' := wb) (by rw [← hvh.out]; exact hgb) hob (by rw [← hvh.out]; exact hnb)
              exact h.congr fun i _ => (hek.out i).symm
            have hB9 : Hid (Below w.heap.size w (wb.setCell ⟨w.heap.size + 1, ho, none⟩ vb)) := hB4.out.setCell (p := ⟨w.heap.size + 1, ho, none⟩) (Nat.le_succ _) _
            have hbk := hgb.block (w.heap.size + 1) (Nat.lt_of_lt_of_le hlR hB3.out.size) (fun e => hnR.out e.symm)
            have y1 := (World.cell?_of_block (a := ⟨w.heap.size + 1, ho, none⟩) hbk).trans ((hB3.out.cell (p := ⟨w.heap.size + 1, ho, none⟩) hlR).trans hhd)
            have y2 := (World.frozen?_of_block (a := ⟨w.heap.size + 1, ho, none⟩) hbk).trans ((hB3.out.frozen (p := ⟨w.heap.size + 1, ho, none⟩) hlR).trans (hGw.out.fr ho))
            have y3 : w.heap.size + 1 < wb.heap.size := Nat.lt_of_lt_of_le (Nat.lt_of_lt_of_le hlR hB3.out.size) hgb.size
            rcases hob.2 with ⟨_, hnil⟩ | ⟨g9, cap9, cur9, rfl, _⟩
            · exact absurd hnil (by omega)
            clear hob hgb hnb hek hB3 hbk hB2
            refine hK.out _ _ ⟨hx4.out.cell (j := 0) rfl, hx4.out.cell (j := 1) rfl⟩ (fun _ => ?_)
            clear hK K
            try simp only [Act.put, List.setIfInBounds_toArray]
            refine wpAnyH_take (i := 12) (oi := _) (v := ?_) rfl (by kernel_rfl) (by kernel_rfl) (by kernel_rfl) (fun _ _ _ h => h) (Or.inl ⟨by rfl, ?_⟩) (⟨hx4.out.cell (j := 0) rfl, hx4.out.cell (j := 1) rfl⟩) ?_
            rotate_left
            · (intro w hSw; obtain ⟨q1, q2⟩ := hSw; go_simp <;> with_reducible rfl)
            try simp only [Act.put]
            refine wpAnyH_ready (rs := [13]) (by kernel_rfl) (by simp) ?_
            refine AllReadyH.cons (o := _) rfl (fun K hK => ?_) ?_
            · go_simp
              refine hK.out _ _ ⟨(hx4.out.far (p := ⟨w.heap.size + 1, ho, none⟩) (Nat.ne_of_gt hxw) _).cell (j := 0) rfl, (hx4.out.far (p := ⟨w.heap.size + 1, ho, none⟩) (Nat.ne_of_gt hxw) _).cell (j := 1) rfl⟩ (fun _ => ?_)
              clear hK K
              try simp only [Act.put, List.setIfInBounds_toArray, List.set_cons_zero, List.set_cons_succ]
              refine wpAnyH_done (by kernel_rfl) ?_ _
              refine NoPanic.normal ?_
              clear y1 y2 y3 HO hal
              go_wp2
              go_roundw
              case rel => exact ⟨k + 1, _, by omega, by go_num, hB9, hG9⟩
              case measure => simp [intOf]; omega
            exact AllReadyH.nil
          exact AllReadyH.nil
        exact AllReadyH.nil
      exact AllReadyH.nil
    · obtain rfl : k = s.cap.length := by omega
      have hG2 : Hid (Gr wr w.heap.size (w.heap.size + 1) s.ps.length v (adjO (edges s) (edges s).length)) := by rw [hel.out]; exact hG.out
      go_wp2
      go_ret
      exact ⟨⟨_, v, rfl, hG2.out⟩, hB.out⟩
end Ci
end Go.Proofs.YtpmlhgmmobpilaaGreatDoor

namespace Go.Proofs.YtpmlhgmmobpilaaGreatDoor
open Go.RowKit Go.Shelf
namespace Ci
open Nt
open Classical
theorem Gr.grown {W W' : World} {B R n mb : Nat} {v : Nat → Value} {adj : Nat → List Nat} (h : Gr W B R n v adj) (hg : W.grownBy W' (some mb)) (hR : R ≠ mb) (hv : ∀ i, i < n → (v i).ownBlock ≠ some mb) : Gr W' B R n v adj := by
  have hb : W'.heap[R]? = W.heap[R]? := hg.block R h.lt fun e => hR (Option.some.inj e)
  exact ⟨Nat.lt_of_lt_of_le h.lt hg.size, fun i hi => (World.cell?_of_block (a := ⟨R, i, none⟩) hb).trans (h.hd i hi), fun i => (World.frozen?_of_block (a := ⟨R, i, none⟩) hb).trans (h.fr i), fun i hi => (h.rows i hi).kept hg (by
    cases hu : (v i).ownBlock with
    | none => exact .inl rfl
    | some b => exact .inr fun e => hv i hi (hu.trans e)), h.apart, h.ne, h.lowR⟩
theorem zeroB (w : World) : (zeroValue 4).run Tryz.prog w = .ok (.bool false) w := by kernel_rfl
end Ci
end Go.Proofs.YtpmlhgmmobpilaaGreatDoor
namespace Go.Proofs.YtpmlhgmmobpilaaGreatDoor
open Go.RowKit Go.Shelf
namespace Ci
open Nt
open Classical
/-- A map of the call's own that reads as the parties reached. -/
def ReachM (w : World) (n mb : Nat) (E : List (Nat × Nat)) (p : Nat) : Prop := ∃ c f, MapK Tryz.prog 3 κi w mb c f ∧ ∀ x : Nat, x < n → f (x : Int) = if Reach E p x then some (.bool true) else none
end Ci
end Go.Proofs.YtpmlhgmmobpilaaGreatDoor
namespace Go.Proofs.YtpmlhgmmobpilaaGreatDoor
open Go.RowKit Go.Shelf
namespace Ci
open Nt
/-- What was turned ahead of link j of party i. -/
def TurnI (n i j : Nat) (adj T : Nat → List Nat) : Prop := (∀ q x, q < n → (x ∈ T q ↔ (x < i ∧ q ∈ adj x) ∨ (x = i ∧ q ∈ (adj i).take j))) ∧ ∀ q, (T q).length ≤ 1000 * i + j
theorem TurnI.next {n i : Nat} {adj T : Nat → List Nat} (h : TurnI n i (adj i).length adj T) (hl : (adj i).length ≤ 1000) : TurnI n (i + 1) 0 adj T := by
  refine ⟨fun q x hq => ?_, fun q => by have := h.2 q; omega⟩
  rw [h.1 q x hq, List.take_length]
  constructor
  · rintro (⟨a, b⟩ | ⟨rfl, b⟩)
    · exact .inl ⟨by omega, b⟩
    · exact .inl ⟨by omega, b⟩
  · rintro (⟨a, b⟩ | ⟨_, b⟩)
    · by_cases e : x = i
      · subst e; exact .inr ⟨rfl, b⟩
      · exact .inl ⟨by omega, b⟩
    · simp at b
theorem TurnI.step {n i j : Nat} {adj T : Nat → List Nat} (h : TurnI n i j adj T) (hj : j < (adj i).length) : TurnI n i (j + 1) adj (setL T (adj i)[j] i) := by
  refine ⟨fun q x hq => ?_, fun q => ?_⟩
  · unfold setL
    rw [List.take_succ_eq_append_getElem hj]
    by_cases e : q = (adj i)[j]
    · rw [if_pos e, List.mem_append, h.1 q x hq, List.mem_append, List.mem_singleton, List.mem_singleton]
      constructor
      · rintro ((a | ⟨a, b⟩) | a)
        · exact .inl a
        · exact .inr ⟨a, .inl b⟩
        · exact .inr ⟨a, .inr e⟩
      · rintro (a | ⟨a, b | _⟩)
        · exact .inl (.inl a)
        · exact .inl (.inr ⟨a, b⟩)
        · exact .inr a
    · rw [if_neg e, h.1 q x hq, List.mem_append, List.mem_singleton]
      constructor
      · rintro (a | ⟨a, b⟩)
        · exact .inl a
        · exact .inr ⟨a, .inl b⟩
      · rintro (a | ⟨a, b | b⟩)
        · exact .inl a
        · exact .inr ⟨a, b⟩
        · exact absurd b e
  · unfold setL
    have := h.2 q
    split
    · rw [List.length_append, List.length_singleton]; omega
    · omega
end Ci
end Go.Proofs.YtpmlhgmmobpilaaGreatDoor
namespace Go.Proofs.YtpmlhgmmobpilaaGreatDoor
open Go.RowKit Go.Shelf
namespace Ci
open Nt
/-- All blocks but some are as before. -/
structure Kp (xs : List Nat) (w w' : World) : Prop where
  os : w'.os = w.os
  tape : w'.tape = w.tape
  output : w'.output = w.output
  size : w.heap.size ≤ w'.heap.size
  block : ∀ k, k < w.heap.size → k ∉ xs → w'.heap[k]? = w.heap[k]?
section
variable {xs : List Nat} {w w' w'' : World} {B R n i b c mb : Nat} {v : Nat → Value} {adj ls : Nat → List Nat} {α : Type} {P : Program} {k : TypeId} {κ : α → Lit} {f : α → Option Value} {t : TypeId} {cs : List Value}
theorem Kp.refl (xs : List Nat) (w : World) : Kp xs w w := ⟨rfl, rfl, rfl, Nat.le_refl _, fun _ _ _ => rfl⟩
theorem Kp.below (h : Kp xs w w') (hb : Below w'.heap.size w' w'') : Kp xs w w'' :=
  ⟨hb.os.trans h.os, hb.tape.trans h.tape, hb.output.trans h.output, Nat.le_trans h.size hb.size, fun k hk hx => (hb.block k (Nat.lt_of_lt_of_le hk h.size)).trans (h.block k hk hx)⟩
theorem Kp.alloc (h : Kp xs w w') (o : Obj) : Kp xs w (w'.alloc o) := h.below ((Below.refl _ w').alloc (Nat.le_refl _) o)
theorem Kp.drew (h : Kp xs w w') : Kp xs w w'.drew := h.below (Below.refl _ w').drew
theorem Kp.grown {row : Option Nat} (h : Kp xs w w') (hg : w'.grownBy w'' row) (hr : ∀ b, row = some b → b ∈ xs ∨ w.heap.size ≤ b) : Kp xs w w'' :=
  ⟨hg.os.trans h.os, hg.tape.trans h.tape, hg.output.trans h.output, Nat.le_trans h.size hg.size, fun k hk hx => (hg.block k (Nat.lt_of_lt_of_le hk h.size) (fun e => by
    rcases hr k e.symm with h1 | h1
    · exact hx h1
    · omega)).trans (h.block k hk hx)⟩
theorem grown_set (w : World) (a : Addr) (u : Value) : w.grownBy (w.setCell a u) (some a.block) := ⟨rfl, rfl, rfl, by simp, fun k _ hk => Below.heap_setCell _ _ _ _ (fun e => hk (by rw [e]))⟩
theorem grown_alloc (w : World) (o : Obj) (row : Option Nat) : w.grownBy (w.alloc o) row := ⟨rfl, rfl, rfl, by simp, fun k hk _ => heap_alloc_old w o hk⟩
theorem Kp.set (h : Kp xs w w') {a : Addr} (u : Value) (ha : a.block ∈ xs ∨ w.heap.size ≤ a.block) : Kp xs w (w'.setCell a u) := h.grown (grown_set w' a u) fun b e => by cases e; exact ha
theorem Kp.to_below (h : Kp xs w w') {w0 : World} (h0 : Below w0.heap.size w0 w) (hx : ∀ x, x ∈ xs → w0.heap.size ≤ x) : Below w0.heap.size w0 w' :=
  h0.trans ⟨h.os, h.tape, h.output, h.size, fun k hk => h.block k (Nat.lt_of_lt_of_le hk h0.size) fun e => by have := hx k e; omega⟩
theorem Kp.heap (h : Kp xs w w') (hb : b < w.heap.size) (hx : b ∉ xs) : w'.heap[b]? = w.heap[b]? := h.block b hb hx
theorem Gr.of_block (h : Gr w B R n v adj) (hs : w.heap.size ≤ w'.heap.size) (hR : w'.heap[R]? = w.heap[R]?) (hv : ∀ i b, i < n → (v i).ownBlock = some b → w'.heap[b]? = w.heap[b]?) : Gr w' B R n v adj :=
  ⟨Nat.lt_of_lt_of_le h.lt hs, fun i hi => (World.cell?_of_block (a := ⟨R, i, none⟩) hR).trans (h.hd i hi), fun i => (World.frozen?_of_block (a := ⟨R, i, none⟩) hR).trans (h.fr i), fun i hi => by
    obtain ⟨h1, h2⟩ := h.rows i hi
    refine ⟨h1, ?_⟩
    rcases h2 with h2 | ⟨g, cap, cur, hv2, hg, hh, rest⟩
    · exact .inl h2
    · exact .inr ⟨g, cap, cur, hv2, hg, (hv i g hi (by rw [hv2]; rfl)).trans hh, rest⟩, h.apart, h.ne, h.lowR⟩
theorem Gr.kp (h : Gr w B R n v adj) (hk : Kp xs w w') (hR : R ∉ xs) (hv : ∀ i b, i < n → (v i).ownBlock = some b → b ∉ xs) : Gr w' B R n v adj :=
  h.of_block hk.size (hk.block R h.lt hR) fun i b hi e => hk.block b ((h.rows i hi).lt b e).2 (hv i b hi e)
theorem MapK.kp (h : MapK P k κ w b c f) (hk : Kp xs w w') (hb : b ∉ xs) : MapK P k κ w' b c f := h.block (hk.block b h.lt hb)
theorem Bk.kp (h : Bk w b t cs) (hk : Kp xs w w') (hb : b ∉ xs) : Bk w' b t cs := by
  have e := hk.block b h.lt hb
  exact (show w'.heap[b]? = _ from e.trans h)
structure LM (w : World) (B mb n c : Nat) (v : Nat → Value) (ls : Nat → List Nat) : Prop where
  map : ∃ f : Int → Option Value, MapK Tryz.prog 3 κi w mb c f ∧ ∀ x : Nat, x < n → f (x : Int) = if ls x = [] then none else some (v x)
  nil : ∀ x, x < n → ls x = [] → v x = .slice none 0 0
  rows : ∀ x, x < n → w.ownsRow B 3 1 (v x) (ls x).length (intsL (ls x))
  apart : ∀ i j, i < n → j < n → i ≠ j → OffB (v i) (v j)
  ne : ∀ x, x < n → (v x).ownBlock ≠ some mb
theorem LM.lt (h : LM w B mb n c v ls) : mb < w.heap.size := by obtain ⟨f, h, _⟩ := h.map; exact h.lt
theorem LM.grown {row : Option Nat} (h : LM w B mb n c v ls) (hg : w.grownBy w' row) (hm : row ≠ some mb) (hv : ∀ x b, x < n → (v x).ownBlock = some b → row ≠ some b) : LM w' B mb n c v ls := by
  obtain ⟨f, h1, h2⟩ := h.map
  refine ⟨⟨f, h1.kept hg fun e => hm e.symm, h2⟩, h.nil, fun x hx => (h.rows x hx).kept hg ?_, h.apart, h.ne⟩
  cases hu : (v x).ownBlock with
  | none => exact .inl rfl
  | some b => exact .inr fun e => hv x b hx hu e.symm
theorem LM.set (h : LM w B mb n c v ls) {a : Addr} (u : Value) (hm : a.block ≠ mb) (hv : ∀ x, x < n → (v x).ownBlock ≠ some a.block) : LM (w.setCell a u) B mb n c v ls :=
  h.grown (grown_set w a u) (fun e => hm (Option.some.inj e)) fun x b hx e e2 => hv x hx (by rw [e, e2])
theorem LM.alloc (h : LM w B mb n c v ls) (o : Obj) : LM (w.alloc o) B mb n c v ls := h.grown (grown_alloc w o none) (by simp) fun _ _ _ _ => by simp
theorem LM.drew (h : LM w B mb n c v ls) : LM w.drew B mb n c v ls := ⟨h.map, h.nil, h.rows, h.apart, h.ne⟩
theorem LM.below (h : LM w B mb n c v ls) (hb : Below w.heap.size w w') : LM w' B mb n c v ls :=
  h.grown (row := none) ⟨hb.os, hb.tape, hb.output, hb.size, fun k hk _ => hb.block k hk⟩ (by simp) fun _ _ _ _ => by simp
theorem LM.made (w : World) (B n : Nat) : LM (w.alloc (.map #[] 0)) B w.heap.size n 0 (fun _ => .slice none 0 0) fun _ => [] :=
  ⟨⟨_, MapK.made w _ _ _, fun _ _ => (if_pos rfl).symm⟩, fun _ _ _ => rfl, fun _ _ => World.ownsRow_nil _ _ _ _, fun _ _ _ _ _ _ hb => (by cases hb), fun _ _ h => (by cases h)⟩
/-- Block b has n numbers. -/
structure RoI (w : World) (b n : Nat) (o : Nat → Int) : Prop where
  lt : b < w.heap.size
  cell : ∀ x, x < n → w.cell? ⟨b, x, none⟩ = some (.int .i64 (o x))
  fr : ∀ x, w.frozen? ⟨b, x, none⟩ = false
theorem RoI.of_block {o : Nat → Int} (h : RoI w b n o) (hs : w.heap.size ≤ w'.heap.size) (hb : w'.heap[b]? = w.heap[b]?) : RoI w' b n o :=
  ⟨Nat.lt_of_lt_of_le h.lt hs, fun x hx => (World.cell?_of_block (a := ⟨b, x, none⟩) hb).trans (h.cell x hx), fun x => (World.frozen?_of_block (a := ⟨b, x, none⟩) hb).trans (h.fr x)⟩
theorem RoI.below {o : Nat → Int} (h : RoI w b n o) (hb : Below w.heap.size w w') : RoI w' b n o := h.of_block hb.size (hb.block b h.lt)
theorem RoI.grown {o : Nat → Int} {row : Option Nat} (h : RoI w b n o) (hg : w.grownBy w' row) (hr : row ≠ some b) : RoI w' b n o := h.of_block hg.size (hg.block b h.lt fun e => hr e.symm)
theorem RoI.alloc {o : Nat → Int} (h : RoI w b n o) (x : Obj) : RoI (w.alloc x) b n o := h.below ((Below.refl _ w).alloc (Nat.le_refl _) x)
theorem RoI.set {o : Nat → Int} (h : RoI w b n o) {x : Nat} (hx : x < n) (r : Int) : RoI (w.setCell ⟨b, x, none⟩ (.int .i64 r)) b n (setI o x r) := by
  refine ⟨by simpa using h.lt, fun y hy => ?_, fun y => by simpa using h.fr y⟩
  by_cases e : y = x
  · subst e
    rw [setI_same]
    exact World.cell?_setCell_same _ _ _ (h.cell y hy)
  · rw [setI_other e, World.cell?_setCell_other _ _ _ _ (fun c => by injection c with _ c2; first | exact e c2 | exact e c2.symm)]
    exact h.cell y hy
theorem RoI.made (w : World) (n : Nat) (t : TypeId) : RoI (w.alloc (.cells (madeCells #[.int .i64 0] n) t)) w.heap.size n fun _ => 0 := by
  have h := heap_alloc_new w (.cells (madeCells #[(.int .i64 0 : Value)] n) t)
  refine ⟨by simp, fun x hx => ?_, fun x => by simp only [World.frozen?, h]; simp⟩
  simp only [World.cell?, h]
  simp [madeCells, hx]
  rw [Nat.mod_one]
  rfl
theorem RoI.congr {o o' : Nat → Int} (h : RoI w b n o) (e : ∀ x, x < n → o x = o' x) : RoI w b n o' := ⟨h.lt, fun x hx => by rw [← e x hx]; exact h.cell x hx, h.fr⟩
theorem RoI.inInt {o : Nat → Int} (h : RoI w b n o) : InInt w (some ⟨b, 0, none⟩) ((List.range n).map o) := fun _ => ⟨b, 0, rfl, h.lt, fun j hj => by
  have hj2 : j < n := by simpa using hj
  rw [Nat.zero_add, h.cell j hj2]
  simp⟩
end
end Ci
end Go.Proofs.YtpmlhgmmobpilaaGreatDoor
namespace Go.Proofs.YtpmlhgmmobpilaaGreatDoor
open Go.RowKit Go.Shelf
namespace Ci
/-- The slice reads as l; what lies behind it up to its capacity is the call's own. -/
def QIn (w : World) (B : Nat) (v : Value) (l : List Nat) : Prop :=
  (∃ A, v = .slice A 0 0 ∧ l = [] ∧ ∀ b, v.ownBlock = some b → B ≤ b ∧ b < w.heap.size) ∨
  ∃ g o cap, v = .slice (some ⟨g, o, none⟩) l.length cap ∧ B ≤ g ∧ g < w.heap.size ∧ l.length ≤ cap ∧ (∀ j, j < cap → (w.cell? ⟨g, o + j, none⟩).isSome = true) ∧ (∀ j, w.frozen? ⟨g, j, none⟩ = false) ∧ ∀ j (h : j < l.length), w.cell? ⟨g, o + j, none⟩ = some (.int .i64 (l[j] : Int))
section
variable {w w' : World} {B : Nat} {v : Value} {l : List Nat} {q : Nat}
theorem QIn.block (h : QIn w B v l) {b : Nat} (hb : v.ownBlock = some b) : B ≤ b ∧ b < w.heap.size := by
  rcases h with ⟨A, rfl, _, h⟩ | ⟨g, o, cap, rfl, h1, h2, _⟩
  · exact h b hb
  · cases hb; exact ⟨h1, h2⟩
/-- Another block turns, and new ones come. -/
theorem QIn.grown {row : Option Nat} (h : QIn w B v l) (hg : w.grownBy w' row) (hne : v.ownBlock = none ∨ v.ownBlock ≠ row) : QIn w' B v l := by
  rcases h with ⟨A, rfl, h1, h2⟩ | ⟨g, o, cap, rfl, h1, h2, h3, h4, h5, h6⟩
  · exact .inl ⟨A, rfl, h1, fun b hb => ⟨(h2 b hb).1, Nat.lt_of_lt_of_le (h2 b hb).2 hg.size⟩⟩
  · have hb : w'.heap[g]? = w.heap[g]? := hg.block g h2 fun e => by
      rcases hne with hne | hne
      · cases hne
      · exact hne e
    refine .inr ⟨g, o, cap, rfl, h1, Nat.lt_of_lt_of_le h2 hg.size, h3, fun j hj => ?_, fun j => ?_, fun j hj => ?_⟩
    · rw [World.cell?_of_block (a := ⟨g, o + j, none⟩) hb]; exact h4 j hj
    · rw [World.frozen?_of_block (a := ⟨g, j, none⟩) hb]; exact h5 j
    · rw [World.cell?_of_block (a := ⟨g, o + j, none⟩) hb]; exact h6 j hj
theorem QIn.set (h : QIn w B v l) {a : Addr} (ha : v.ownBlock ≠ some a.block) (u : Value) : QIn (w.setCell a u) B v l :=
  h.grown (row := some a.block) ⟨rfl, rfl, rfl, by simp, fun k _ hk => Below.heap_setCell _ _ _ _ (fun e => hk (by rw [e]))⟩ (.inr ha)
theorem QIn.alloc (h : QIn w B v l) (o : Obj) : QIn (w.alloc o) B v l :=
  h.grown (row := none) ⟨rfl, rfl, rfl, by simp, fun k hk _ => heap_alloc_old w o hk⟩ (by cases hq : v.ownBlock <;> simp)
theorem QIn.drew (h : QIn w B v l) : QIn w.drew B v l := h
theorem QIn.mono {B' : Nat} (h : QIn w B v l) (hb : B' ≤ B) : QIn w B' v l := by
  rcases h with ⟨A, rfl, h1, h2⟩ | ⟨g, o, cap, rfl, h1, h2⟩
  · exact .inl ⟨A, rfl, h1, fun b e => ⟨Nat.le_trans hb (h2 b e).1, (h2 b e).2⟩⟩
  · exact .inr ⟨g, o, cap, rfl, Nat.le_trans hb h1, h2⟩
end
end Ci
end Go.Proofs.YtpmlhgmmobpilaaGreatDoor
namespace Go.Proofs.YtpmlhgmmobpilaaGreatDoor
open Go.RowKit Go.Shelf
namespace Ci
open Nt
end Ci
end Go.Proofs.YtpmlhgmmobpilaaGreatDoor
namespace Go.Proofs.YtpmlhgmmobpilaaGreatDoor
open Go.RowKit Go.Shelf
namespace Ci
open Nt
theorem ints_ne {a b : List Int} {k : Nat} (h1 : k < a.length) (h2 : k < b.length) (h : a[k] ≠ b[k]) : decide (a = b) = false := decide_eq_false fun e => h (by simp only [e])
theorem ints_eq {a b : List Int} (hl : a.length = b.length) (h : ∀ k (h1 : k < a.length) (h2 : k < b.length), a[k] = b[k]) : decide (a = b) = true := decide_eq_true (List.ext_getElem hl h)
end Ci
end Go.Proofs.YtpmlhgmmobpilaaGreatDoor
namespace Go.Proofs.YtpmlhgmmobpilaaGreatDoor
open Go.RowKit Go.Shelf
namespace Ci
open Nt
end Ci
end Go.Proofs.YtpmlhgmmobpilaaGreatDoor
namespace Go.Proofs.YtpmlhgmmobpilaaGreatDoor
open Go.RowKit Go.Shelf
namespace Ci
open Nt
/-- A list of lists in memory: where each lies, its capacity, and what it holds. -/
def InLs (W : World) (A : Option Addr) (l : List (Option Addr × Nat × List Int)) : Prop :=
  0 < l.length → ∃ b off, A = some ⟨b, off, none⟩ ∧ b < W.heap.size ∧ ∀ j (h : j < l.length), W.cell? ⟨b, off + j, none⟩ = some (.slice l[j].1 l[j].2.2.length l[j].2.1) ∧ InInt W l[j].1 l[j].2.2 ∧ l[j].2.2.length ≤ 140737488355328
def bare (l : List (Option Addr × Nat × List Int)) : List (List Int) := l.map fun x => x.2.2
end Ci
end Go.Proofs.YtpmlhgmmobpilaaGreatDoor
namespace Go.Proofs.YtpmlhgmmobpilaaGreatDoor
open Go.RowKit Go.Shelf
namespace Ci
open Nt
def LkSz (x : Lk) : Prop := x.2.2.2.1.size ≤ 400 ∧ x.2.2.2.2.size ≤ 400
instance (x : Lk) : Decidable (LkSz x) := inferInstanceAs (Decidable (_ ∧ _))
end Ci
end Go.Proofs.YtpmlhgmmobpilaaGreatDoor
namespace Go.Proofs.YtpmlhgmmobpilaaGreatDoor
open Go.RowKit Go.Shelf
namespace Ci
open Nt
def lksL (l : List Lk) : List Value := (l.map lkL).flatten
theorem lksL_snoc (l : List Lk) (x : Lk) : lksL (l ++ [x]) = lksL l ++ lkL x := by
  unfold lksL
  rw [List.map_append, List.flatten_append]
  simp
section
variable {W W' : World} {base n : Nat} {e : TypeId} {u : Value} {l : List Lk}
end
end Ci
end Go.Proofs.YtpmlhgmmobpilaaGreatDoor

namespace Go.Proofs.YtpmlhgmmobpilaaGreatDoor
open Go.RowKit Go.Shelf
namespace Ci
open Nt
theorem negs_lt {n p : Nat} {o : Nat → Int} (hp : p < n) (h : 0 ≤ o p) : negs n o + 1 ≤ n := by
  have h1 := filter_lt (f := fun x => decide (o x < 0)) (g := fun _ => true) (l := List.range n) (fun _ _ _ => rfl) ⟨p, List.mem_range.2 hp, decide_eq_false (by omega), rfl⟩
  have h2 : (List.filter (fun _ => true) (List.range n)).length = n := by
    rw [List.filter_eq_self.2 fun _ _ => rfl, List.length_range]
  rw [h2] at h1
  exact h1
theorem negs_le (n : Nat) (o : Nat → Int) : negs n o ≤ n := by
  have := List.length_filter_le (fun x => decide (o x < 0)) (List.range n)
  rw [List.length_range] at this
  exact this
/-- No rank is as great as the number of those that have one. -/
def Bd (n : Nat) (o : Nat → Int) : Prop := ∀ x, x < n → o x + (negs n o : Int) < n
theorem Bd.start {n : Nat} {F : List Nat} {o : Nat → Int} (h : ∀ x, o x = if x ∈ F then 0 else -1) : Bd n o := fun x hx => by
  by_cases e : x ∈ F
  · have h1 : o x = 0 := by rw [h x, if_pos e]
    have := negs_lt hx (by omega : 0 ≤ o x)
    omega
  · have h1 : o x = -1 := by rw [h x, if_neg e]
    have := negs_le n o
    omega
theorem Bd.set {n p q : Nat} {o : Nat → Int} (h : Bd n o) (hp : p < n) (hq : q < n) (h0 : o q < 0) (hv : 0 ≤ o p) : Bd n (setI o q (o p + 1)) := fun x hx => by
  have h1 := negs_set hq h0 (v := o p + 1) (by omega)
  have h2 := h p hp
  have h3 := h x hx
  by_cases e : x = q
  · rw [e, setI_same]; omega
  · rw [setI_other e]; omega
end Ci
end Go.Proofs.YtpmlhgmmobpilaaGreatDoor
namespace Go.Proofs.YtpmlhgmmobpilaaGreatDoor
open Go.RowKit Go.Shelf
namespace Ci
open Nt
open Classical
/-- While the components are gathered. -/
structure P1 (E : List (Nat × Nat)) (n : Nat) (w0 : World) (S p q : Nat) (v : Nat → Value) (F : Nat → Int) (wr : World) : Prop where
  kp : Kp [S, S + 1, S + 1 + 1] w0 wr
  lm : LM wr w0.heap.size S n (cQ E p q) v (lsQ E n p q)
  pl : ∃ c f, MapK Tryz.prog 3 κi wr (S + 1 + 1) c f ∧ c ≤ 1000 * p + q ∧ ∀ x : Nat, x < n → f (x : Int) = if PL E p q x then some (.bool true) else none
  ro : RoI wr (S + 1) n F
  fs : ∀ x, x < n → PL E p q x → F x = (fst E x : Int)
section
variable {E : List (Nat × Nat)} {n p q S : Nat} {w0 wr w' : World} {v : Nat → Value} {F : Nat → Int}
theorem LM.congr {w : World} {B mb c c' : Nat} {ls ls' : Nat → List Nat} (h : LM w B mb n c v ls) (e : ∀ x, ls x = ls' x) (ec : c = c') : LM w B mb n c' v ls' := by
  obtain rfl : ls = ls' := funext e
  subst ec
  exact h
theorem P1.below (h : P1 E n w0 S p q v F wr) (hb : Below wr.heap.size wr w') : P1 E n w0 S p q v F w' := by
  obtain ⟨c, f, h1, h2⟩ := h.pl
  exact ⟨h.kp.below hb, h.lm.below hb, ⟨c, f, h1.below hb, h2⟩, h.ro.below hb, h.fs⟩
theorem P1.had (h : P1 E n w0 S p 0 v F wr) (hp : fst E p ≠ p) : P1 E n w0 S (p + 1) 0 v F wr := by
  obtain ⟨c, f, h1, h2, h3⟩ := h.pl
  refine ⟨h.kp, h.lm.congr (fun x => ?_) ?_, ⟨c, f, h1, by omega, fun x hx => ?_⟩, h.ro, fun x hx hP => h.fs x hx ((PL_had hp).1 hP)⟩
  · rw [lsQ_zero, lsQ_zero, lsO_had hp]
  · rw [cQ_zero, cQ_zero, cO_succ, if_neg hp]
  · rw [h3 x hx]
    by_cases e : PL E p 0 x
    · rw [if_pos e, if_pos ((PL_had hp).2 e)]
    · rw [if_neg e, if_neg fun c => e ((PL_had hp).1 c)]
theorem P1.next (h : P1 E n w0 S p n v F wr) (hp : fst E p = p) (hpn : p < n) (hn : n ≤ 1000) : P1 E n w0 S (p + 1) 0 v F wr := by
  obtain ⟨c, f, h1, h2, h3⟩ := h.pl
  refine ⟨h.kp, h.lm.congr (fun x => ?_) ?_, ⟨c, f, h1, by omega, fun x hx => ?_⟩, h.ro, fun x hx hP => h.fs x hx ((PL_next hp hx).1 hP)⟩
  · rw [lsQ_zero, lsO_next hp]
  · rw [cQ_zero, cO_next hp hpn]
  · rw [h3 x hx]
    by_cases e : PL E p n x
    · rw [if_pos e, if_pos ((PL_next hp hx).2 e)]
    · rw [if_neg e, if_neg fun c => e ((PL_next hp hx).1 c)]
theorem P1.skip (h : P1 E n w0 S p q v F wr) (hm : ¬ Mut E p q) : P1 E n w0 S p (q + 1) v F wr := by
  obtain ⟨c, f, h1, h2, h3⟩ := h.pl
  refine ⟨h.kp, h.lm.congr (fun x => (lsQ_skip hm).symm) (cQ_skip hm).symm, ⟨c, f, h1, by omega, fun x hx => ?_⟩, h.ro, fun x hx hP => h.fs x hx ((PL_skip hm).1 hP)⟩
  rw [h3 x hx]
  by_cases e : PL E p q x
  · rw [if_pos e, if_pos ((PL_skip hm).2 e)]
  · rw [if_neg e, if_neg fun c => e ((PL_skip hm).1 c)]
theorem ReachM.below {mb : Nat} {w : World} (h : ReachM w n mb E p) (hb : Below w.heap.size w w') : ReachM w' n mb E p := by
  obtain ⟨c, f, h1, h3⟩ := h
  exact ⟨c, f, h1.below hb, h3⟩
theorem ReachM.kp {mb : Nat} {xs : List Nat} {w : World} (h : ReachM w n mb E p) (hk : Kp xs w w') (hm : mb ∉ xs) : ReachM w' n mb E p := by
  obtain ⟨c, f, h1, h3⟩ := h
  exact ⟨c, f, h1.kp hk hm, h3⟩
theorem P1.start (E : List (Nat × Nat)) (n : Nat) (wS : World) (t : TypeId) :
    P1 E n (((wS.alloc (.map #[] 0)).alloc (.cells (madeCells #[.int .i64 0] n) t)).alloc (.map #[] 0)) wS.heap.size 0 0 (fun _ => .slice none 0 0) (fun _ => 0) (((wS.alloc (.map #[] 0)).alloc (.cells (madeCells #[.int .i64 0] n) t)).alloc (.map #[] 0)) := by
  have s1 : (wS.alloc (.map #[] 0)).heap.size = wS.heap.size + 1 := by simp
  have s2 : ((wS.alloc (.map #[] 0)).alloc (.cells (madeCells #[.int .i64 0] n) t)).heap.size = wS.heap.size + 1 + 1 := by simp
  have hR := (RoI.made (wS.alloc (.map #[] 0)) n t).alloc (.map #[] 0)
  rw [s1] at hR
  have hM := MapK.made ((wS.alloc (.map #[] 0)).alloc (.cells (madeCells #[.int .i64 0] n) t)) Tryz.prog 3 κi
  rw [s2] at hM
  refine ⟨Kp.refl _ _, (((LM.made wS _ n).alloc _).alloc _).congr (fun x => ?_) ?_, ⟨0, _, hM, Nat.zero_le _, fun x _ => ?_⟩, hR, fun x _ hP => ?_⟩
  · rw [lsQ_zero]
    unfold lsO
    rw [if_neg (by omega)]
  · rw [cQ_zero]; rfl
  · rw [if_neg fun c => by have := PL_zero.1 c; omega]
  · have := PL_zero.1 hP; omega
end
/-- While the components are put in order. -/
structure P2 (E : List (Nat × Nat)) (n : Nat) (w7 : World) (S : Nat) (v : Nat → Value) (pre left : List Nat) (vo : Value) (wr : World) : Prop where
  st : Stage n E pre left
  kp : Kp [S] w7 wr
  mp : ∃ f, MapK Tryz.prog 3 κi wr S left.length f ∧ ∀ x : Nat, x < n → f (x : Int) = if x ∈ left then some (v x) else none
  out : wr.ownsRow w7.heap.size 24 1 vo pre.length (pre.map v)
section
variable {E : List (Nat × Nat)} {n p q S : Nat} {w0 w7 wr w' : World} {v : Nat → Value} {F : Nat → Int} {pre left : List Nat} {vo : Value}
theorem P2.start (h : P1 E n w0 S n 0 v F w7) (hE : InN n E) : P2 E n w7 S v [] (leasts n E) (.slice none 0 0) w7 := by
  obtain ⟨f, h1, h2⟩ := h.lm.map
  rw [cQ_zero, cO_all] at h1
  refine ⟨Stage.start hE, Kp.refl _ _, ⟨f, h1, fun x hx => ?_⟩, World.ownsRow_nil _ _ _ _⟩
  rw [h2 x hx, lsQ_zero, lsO_all hx]
  by_cases e : x ∈ leasts n E
  · rw [if_pos e, if_pos e, if_neg (comp_ne hx)]
  · rw [if_neg e, if_neg e, if_pos rfl]
end
end Ci
end Go.Proofs.YtpmlhgmmobpilaaGreatDoor
namespace Go.Proofs.YtpmlhgmmobpilaaGreatDoor
open Go.RowKit Go.Shelf
namespace Ci
open Nt
open Classical
end Ci
end Go.Proofs.YtpmlhgmmobpilaaGreatDoor

namespace Go.Proofs.YtpmlhgmmobpilaaGreatDoor
open Go.ChangeShapes Go.WideShapes Go.ChangeAt Go.RowKit Go.Shelf
namespace Nt
/-- The list that every row of this seat bears. -/
def laidL : List (String × DataW Unit) := Rows.moneyRoundsRow.laid
theorem gt_tab : (Tryz.prog.globals[3]?).map (·.type) = some 222 := by kernel_rfl
theorem gt_syn : (Tryz.prog.globals[1]?).map (·.type) = some 116 := by kernel_rfl
theorem gt_rng : (Tryz.prog.globals[2]?).map (·.type) = some 116 := by kernel_rfl
theorem cells_u64 : Tryz.prog.cellsOf 177 = 1 := by kernel_rfl
theorem cells_tab : Tryz.prog.cellsOf 222 = 20 := by kernel_rfl
theorem cells_str : Tryz.prog.cellsOf 9 = 1 := by kernel_rfl
theorem cells_es : Tryz.prog.cellsOf 229 = 1 := by kernel_rfl
theorem star : "*" ++ "errors.errorString" = "*errors.errorString" := by decide
theorem row_es (u : TypeId) (h : Tryz.prog.typeName? 3 u = some "*errors.errorString") : u = 227 :=
  typeName_ptr_named (nm := "errors.errorString") (by rw [star]; kernel_rfl) (by kernel_rfl) (by decide) u (by rw [star]; exact h)
theorem env_of {W : World} (h : laidMetH Tryz.prog laidL W) : Env W := by
  have h0 := (laidMetH_iff.1 h).1
  have hT : laidMet Tryz.prog [("internal/strconv.uint64pow10", Lib.tabData .u64 Lib.pow10Tab)] W := by
    have := h0.filter (fun x => x.1 == "internal/strconv.uint64pow10")
    rwa [show (laidL.filter fun x => x.2.handleName?.isNone).filter (fun x => x.1 == "internal/strconv.uint64pow10") = [("internal/strconv.uint64pow10", Lib.tabData .u64 Lib.pow10Tab)] by kernel_rfl] at this
  have hS : laidMet Tryz.prog [("strconv.ErrSyntax", .iface "*errors.errorString" (.ptr (.agg [.lit (.string [105, 110, 118, 97, 108, 105, 100, 32, 115, 121, 110, 116, 97, 120])])))] W := by
    have := h0.filter (fun x => x.1 == "strconv.ErrSyntax")
    rwa [show (laidL.filter fun x => x.2.handleName?.isNone).filter (fun x => x.1 == "strconv.ErrSyntax") = [("strconv.ErrSyntax", .iface "*errors.errorString" (.ptr (.agg [.lit (.string [105, 110, 118, 97, 108, 105, 100, 32, 115, 121, 110, 116, 97, 120])])))] by kernel_rfl] at this
  have hR : laidMet Tryz.prog [("strconv.ErrRange", .iface "*errors.errorString" (.ptr (.agg [.lit (.string [118, 97, 108, 117, 101, 32, 111, 117, 116, 32, 111, 102, 32, 114, 97, 110, 103, 101])])))] W := by
    have := h0.filter (fun x => x.1 == "strconv.ErrRange")
    rwa [show (laidL.filter fun x => x.2.handleName?.isNone).filter (fun x => x.1 == "strconv.ErrRange") = [("strconv.ErrRange", .iface "*errors.errorString" (.ptr (.agg [.lit (.string [118, 97, 108, 117, 101, 32, 111, 117, 116, 32, 111, 102, 32, 114, 97, 110, 103, 101])])))] by kernel_rfl] at this
  refine ⟨Lib.tabIs_of_head g_tab gt_tab Tryz.underlying222 Tryz.underlying177 cells_u64 cells_tab hT, ?_, ?_⟩
  · obtain ⟨a0, s0, hv0, -, -, -⟩ := laid_sentinel hS g_syn gt_syn Tryz.underlying116 row_es Tryz.underlying227 Tryz.underlying229 rfl rfl Tryz.underlying9 cells_es cells_str
    exact ⟨_, _, hv0⟩
  · obtain ⟨a0, s0, hv0, -, -, -⟩ := laid_sentinel hR g_rng gt_rng Tryz.underlying116 row_es Tryz.underlying227 Tryz.underlying229 rfl rfl Tryz.underlying9 cells_es cells_str
    exact ⟨_, _, hv0⟩
/-- A world for the witness: what the door's run leaves, and the pinned table. -/
noncomputable def laidWorld (os : Os) : World :=
  { World.doorLaid Tryz.prog 72 os with heap := (World.doorLaid Tryz.prog 72 os).heap.modify 4 fun
      | .cells _ t frozen => .cells (Go.Pinned.utf8FirstZ.map fun (z : Nat) => Value.int .u8 z).toArray t frozen
      | o => o }
theorem own : ownKnob Tryz.prog.godebug = none := by kernel_rfl
set_option maxRecDepth 100000 in
theorem laid_met (os : Os) (args : Array Value) : laidMetH Tryz.prog laidL ((laidWorld os).forCall (fun _ _ => 0) ⟨#[], args, []⟩).memory :=
  laidMet_of_run3 8 (by kernel_rfl) (by kernel_rfl) (by kernel_rfl)
theorem vars_ok (os : Os) (args : Array Value) : ((laidWorld os).forCall (fun _ _ => 0) ⟨#[], args, []⟩).variablesRefB Tryz.prog = true := by kernel_rfl
theorem rest_ok (os : Os) (args : Array Value) : (((laidWorld os).forCall (fun _ _ => 0) ⟨#[], args, []⟩).heap.toList.drop Tryz.prog.globals.size).take ((begin Tryz.prog (fun _ _ => 0) default).world.heap.size - Tryz.prog.globals.size) =
      (begin Tryz.prog (fun _ _ => 0) default).world.heap.toList.drop Tryz.prog.globals.size := by kernel_rfl
end Nt
end Go.Proofs.YtpmlhgmmobpilaaGreatDoor

namespace Go.Proofs.YtpmlhgmmobpilaaGreatDoor
open Go.RowKit Go.Shelf
namespace Nt
theorem infoS : (Tryz.prog.info? 9).map (fun i => (i.zero, i.size, i.bytes)) = some (some (.string ⟨#[]⟩), 1, 16) := by kernel_rfl
/-- The cells of texts of numbers. -/
def tvals (ks : List Nat) : List Value := ks.map fun k => Value.string (T (some k))
/-- A slice of texts of numbers. -/
def TextsAt (W : World) (v : Value) (ks : List Nat) : Prop := ∃ g cap, v = .slice (some ⟨g, 0, none⟩) ks.length cap ∧ g < W.heap.size ∧ ∀ i (h : i < ks.length), W.cell? ⟨g, i, none⟩ = some (.string (T (some ks[i])))
theorem tvals_snoc (ks : List Nat) (k : Nat) : tvals ks ++ [Value.string (T (some k))] = tvals (ks ++ [k]) := by simp [tvals]
theorem tvals_at {B : Nat} {W : World} {v : Value} {ks : List Nat} (h : W.ownsRow B 9 1 v ks.length (tvals ks)) (h0 : ks ≠ []) : TextsAt W v ks := by
  rcases id h.2 with ⟨rfl, hx⟩ | ⟨g, cap, cur, rfl, hg, hh, hn, hcm, hcs, ht⟩
  · exact absurd (List.length_eq_zero_iff.1 hx) h0
  · refine ⟨g, cap, rfl, (Array.getElem?_eq_some_iff.1 hh).1, fun i hi => ?_⟩
    rw [World.ownsRow.cellAt h i (by omega)]
    simp [tvals, hi]
/-- The pairs of an argument's memory. -/
def PairsAt (W : World) (b : Nat) (ps : List (Nat × Nat)) : Prop := ∀ i (h : i < ps.length), W.cell? ⟨b, i * 2, none⟩ = some (.string (T (some ps[i].1))) ∧ W.cell? ⟨b, i * 2 + 1, none⟩ = some (.string (T (some ps[i].2)))
def prods (ps : List (Nat × Nat)) : List Nat := ps.map fun p => p.1 * p.2
def PrRel (w : World) (ps : List (Nat × Nat)) (k : Nat) (v : Value) (wr : World) : Prop :=
  wr.ownsRow w.heap.size 9 1 v (prods (ps.take k)).length (tvals (prods (ps.take k))) ∧ Below w.heap.size w wr
theorem ownsRow_belowH {B : Nat} {e : TypeId} {size : Nat} {w w' : World} {v : Value} {n : Nat} {xs : List Value} (h : w.ownsRow B e size v n xs) (hb : Below w.heap.size w w') : w'.ownsRow B e size v n xs := by
  obtain ⟨h1, h2⟩ := h
  refine ⟨h1, ?_⟩
  rcases h2 with h2 | ⟨g, cap, cur, hv, hg, hh, r⟩
  · exact Or.inl h2
  · exact Or.inr ⟨g, cap, cur, hv, hg, by rw [hb.block g (Array.getElem?_eq_some_iff.1 hh).1]; exact hh, r⟩
theorem one_cell_s (s : ByteArray) : ∀ u ∈ [Value.string s], u.oneCell' = true := by
  intro u hu; simp at hu; subst hu; rfl
set_option maxRecDepth 100000 in
set_option maxHeartbeats 2000000 in
theorem products_any (w : World) (hE : Env w) (b cap : Nat) (ps : List (Nat × Nat)) (hb : b < w.heap.size) (hl : ps.length ≤ 100) (hp : PairsAt w b ps) (hs : ∀ p ∈ ps, p.1 < Lim ∧ p.2 < Lim ∧ p.1 * p.2 < Lim) :
    Calls Tryz.prog 109 #[.slice (some ⟨b, 0, none⟩) ps.length cap] w fun e w' => (∃ v, e = .returned v ∧ w'.ownsRow w.heap.size 9 1 v (prods ps).length (tvals (prods ps))) ∧ Below w.heap.size w w' := by
  obtain ⟨i0, hi, hz0, hz1, hz2⟩ := info_parts infoS
  have HP := Lib.hid hp
  have HS := Lib.hid hs
  replace hE := Lib.hid hE
  clear hp hs
  go_enter Tryz.func109, Tryz.ntmps109
  go_wp2
  go_loopw [3, 10] (fun v i wr => ∃ k : Nat, k ≤ ps.length ∧ i = .int .i64 (k : Int) ∧ PrRel w ps k v wr) (fun _ i _ => ps.length - (intOf i).toNat)
  case atStart => exact ⟨0, Nat.zero_le _, rfl, World.ownsRow_nil _ _ _ _, Below.refl _ _⟩
  case round =>
    obtain ⟨k, hk, rfl, z1, z2⟩ := hrel
    have hsz := z2.size
    by_cases hlt : k < ps.length
    · obtain ⟨x, hx⟩ : ∃ x, x = ps[k].1 := ⟨_, rfl⟩
      obtain ⟨y, hy⟩ : ∃ y, y = ps[k].2 := ⟨_, rfl⟩
      obtain ⟨hp1, hp2⟩ := HP.out k hlt
      obtain ⟨s1, s2, s3⟩ := HS.out _ (List.getElem_mem hlt)
      rw [← hx] at hp1 s1 s3
      rw [← hy] at hp2 s2 s3
      have c1 := (z2.cell (p := ⟨b, k * 2, none⟩) hb).trans hp1
      have c2 := (z2.cell (p := ⟨b, k * 2 + 1, none⟩) hb).trans hp2
      have hM : Hid (mulO (some x) (some y) = some (x * y) ∧ mulE (some x) (some y) = 0) := ⟨by simp only [mulO, apO, limO, if_pos s3], by simp only [mulE, apE, if_pos s3]⟩
      have hN : Hid (prods (ps.take (k + 1)) = prods (ps.take k) ++ [x * y]) := by
        unfold Hid prods
        rw [List.take_succ_eq_append_getElem hlt, List.map_append, hx, hy]
        rfl
      have hL : Hid ((prods (ps.take k)).length = k) := by unfold Hid prods; simp; omega
      replace z1 := Lib.hid z1
      replace z2 := Lib.hid z2
      clear hp1 hp2 hx hy
      go_wp2_with fail
      refine (mulT (some x) (some y) _ (hE.out.below (z2.out.alloc hsz _)) (ok_some s1) (ok_some s2)).mono ?_
      rintro e w1 ⟨rfl, hb1⟩
      rw [hM.out.1, hM.out.2]
      have hB1 := Lib.hid ((z2.out.alloc hsz _).trans (hb1.mono (by simp; omega)))
      have ho : Hid (w1.ownsRow w.heap.size 9 1 u3 (prods (ps.take k)).length (tvals (prods (ps.take k)))) := ownsRow_belowH (z1.out.alloc _) hb1
      have hsz1 := hB1.out.size
      clear hb1 z1 z2
      go_wp2_with (at_builtin; refine wpList_append_own _ rfl _ _ 51 rfl w.heap.size 9 i0 (.string ⟨#[]⟩) 1 16 Tryz.underlying51 hi hz0 hz1 hz2 rfl (by decide) u3 (prods (ps.take k)).length (tvals (prods (ps.take k))) rfl (ho.out.alloc _) ⟨w1.heap.size, 0, none⟩ 1 1 [.string (T (some (x * y)))] rfl rfl (one_new _ _ _) (one_cell_s _) (by have := hL.out; unfold maxLen; omega) (by have := hL.out; omega) (by simp; omega) ?_; intro v2 w2 hown2 hgr2 _)
      refine ⟨⟨k + 1, by omega, by go_num, ?_, (hB1.out.alloc (by omega) _).grown hgr2 (by simp; omega) (fun b e => (ho.out.lt b e).1)⟩, by simp only [intOf]; omega⟩
      rw [hN.out, ← tvals_snoc, List.length_append]
      exact hown2
    · obtain rfl : k = ps.length := by omega
      have e : ps.take ps.length = ps := List.take_of_length_le (Nat.le_refl _)
      rw [e] at z1
      replace z1 := Lib.hid z1
      replace z2 := Lib.hid z2
      clear e
      go_wp2
      go_ret
      exact ⟨⟨_, rfl, z1.out⟩, z2.out⟩
end Nt
end Go.Proofs.YtpmlhgmmobpilaaGreatDoor

namespace Go.Proofs.YtpmlhgmmobpilaaGreatDoor
open Go.RowKit Go.Shelf
namespace Nt
theorem blw_drewN {B : Nat} {a w : World} (h : Below B a w) (n : Nat) : Below B a (w.drewN n) := ⟨h.os, h.tape, h.output, h.size, h.block⟩
/-- The blocks that sum lays ahead of its products. -/
def SumBoxes (W : World) (B : Nat) (g1 g2 : Bool) (a b c d : Nat) : Prop :=
  B3 W B g1 (T (some a)) (T (some b)) ∧ B3 W (B + 1) g2 (T (some c)) (T (some d)) ∧ B3 W (B + 1 + 1) false ⟨#[]⟩ ⟨#[]⟩
abbrev sumW (w : World) (g1 g2 : Bool) (a b c d : Nat) : World :=
  ((w.alloc (.cells #[.bool g1, .string (T (some a)), .string (T (some b))] 23)).alloc (.cells #[.bool g2, .string (T (some c)), .string (T (some d))] 23)).alloc (.cells #[.bool false, .string ⟨#[]⟩, .string ⟨#[]⟩] 23)
theorem SumBoxes.new (w : World) (g1 g2 : Bool) (a b c d : Nat) : SumBoxes (sumW w g1 g2 a b c d) w.heap.size g1 g2 a b c d := by
  have e1 : (w.alloc (.cells #[.bool g1, .string (T (some a)), .string (T (some b))] 23)).heap.size = w.heap.size + 1 := by simp
  have e2 : ((w.alloc (.cells #[.bool g1, .string (T (some a)), .string (T (some b))] 23)).alloc (.cells #[.bool g2, .string (T (some c)), .string (T (some d))] 23)).heap.size = w.heap.size + 1 + 1 := by simp
  refine ⟨((B3.new w _ _ _).alloc _).alloc _, ?_, ?_⟩
  · have h := B3.new (w.alloc (.cells #[.bool g1, .string (T (some a)), .string (T (some b))] 23)) g2 (T (some c)) (T (some d))
    rw [e1] at h
    exact h.alloc _
  · have h := B3.new ((w.alloc (.cells #[.bool g1, .string (T (some a)), .string (T (some b))] 23)).alloc (.cells #[.bool g2, .string (T (some c)), .string (T (some d))] 23)) false ⟨#[]⟩ ⟨#[]⟩
    rw [e2] at h
    exact h
theorem sumW_below (w : World) (g1 g2 : Bool) (a b c d : Nat) : Below w.heap.size w (sumW w g1 g2 a b c d) :=
  (((Below.refl _ w).alloc (Nat.le_refl _) _).alloc (by simp) _).alloc (by simp; omega) _
theorem SumBoxes.alloc {W : World} {B : Nat} {g1 g2 : Bool} {a b c d : Nat} (h : SumBoxes W B g1 g2 a b c d) (o : Obj) : SumBoxes (W.alloc o) B g1 g2 a b c d := ⟨h.1.alloc o, h.2.1.alloc o, h.2.2.alloc o⟩
theorem SumBoxes.below {W W' : World} {B : Nat} {g1 g2 : Bool} {a b c d : Nat} (h : SumBoxes W B g1 g2 a b c d) (hb : Below W.heap.size W W') : SumBoxes W' B g1 g2 a b c d := ⟨h.1.below hb, h.2.1.below hb, h.2.2.below hb⟩
theorem texts3 {W : World} {v : Value} {x y z : Nat} (h : TextsAt W v [x, y, z]) : ∃ g cap, v = .slice (some ⟨g, 0, none⟩) 3 cap ∧ W.cell? ⟨g, 0, none⟩ = some (.string (T (some x))) ∧ W.cell? ⟨g, 1, none⟩ = some (.string (T (some y))) ∧ W.cell? ⟨g, 2, none⟩ = some (.string (T (some z))) := by
  obtain ⟨g, cap, rfl, hg, hc⟩ := h
  exact ⟨g, cap, rfl, hc 0 (by simp), hc 1 (by simp), hc 2 (by simp)⟩
theorem texts2 {W : World} {v : Value} {x y : Nat} (h : TextsAt W v [x, y]) : ∃ g cap, v = .slice (some ⟨g, 0, none⟩) 2 cap ∧ g < W.heap.size ∧ W.cell? ⟨g, 0, none⟩ = some (.string (T (some x))) ∧ W.cell? ⟨g, 1, none⟩ = some (.string (T (some y))) := by
  obtain ⟨g, cap, rfl, hg, hc⟩ := h
  exact ⟨g, cap, rfl, hg, hc 0 (by simp), hc 1 (by simp)⟩
/-- The memory of the pairs. -/
theorem pairs3 (W : World) (x1 y1 x2 y2 x3 y3 : Nat) :
    PairsAt (W.alloc (.cells #[.string (T (some x1)), .string (T (some y1)), .string (T (some x2)), .string (T (some y2)), .string (T (some x3)), .string (T (some y3))] 126)) W.heap.size [(x1, y1), (x2, y2), (x3, y3)] := by
  intro i hi
  have h := heap_alloc_new W (.cells #[.string (T (some x1)), .string (T (some y1)), .string (T (some x2)), .string (T (some y2)), .string (T (some x3)), .string (T (some y3))] 126)
  match i, hi with
  | 0, _ => simp only [World.cell?, h]; exact ⟨rfl, rfl⟩
  | 1, _ => simp only [World.cell?, h]; exact ⟨rfl, rfl⟩
  | 2, _ => simp only [World.cell?, h]; exact ⟨rfl, rfl⟩
  | n + 3, hi => simp at hi; omega
theorem pairs2 (W : World) (x1 y1 x2 y2 : Nat) :
    PairsAt (W.alloc (.cells #[.string (T (some x1)), .string (T (some y1)), .string (T (some x2)), .string (T (some y2))] 126)) W.heap.size [(x1, y1), (x2, y2)] := by
  intro i hi
  have h := heap_alloc_new W (.cells #[.string (T (some x1)), .string (T (some y1)), .string (T (some x2)), .string (T (some y2))] 126)
  match i, hi with
  | 0, _ => simp only [World.cell?, h]; exact ⟨rfl, rfl⟩
  | 1, _ => simp only [World.cell?, h]; exact ⟨rfl, rfl⟩
  | n + 2, hi => simp at hi; omega
set_option maxRecDepth 100000 in
set_option maxHeartbeats 2000000 in
theorem sumw_same (g1 : Bool) (a b c d : Nat) (w : World) (hE : Env w) (ha : a < L1) (hb : b < L1) (hc : c < L1) (hd : d < L1) (hb0 : b ≠ 0) (hd0 : d ≠ 0)  :
    Calls Tryz.prog 58 #[.agg #[.bool g1, .string (T (some a)), .string (T (some b))], .agg #[.bool g1, .string (T (some c)), .string (T (some d))]] w fun e w' => e = .returned (.tuple #[qv (mkRat (sg g1 (a * d + c * b)) (b * d)), .int .i64 0]) ∧ Below w.heap.size w w' := by
  have hbd : b * d ≠ 0 := Nat.mul_ne_zero hb0 hd0
  have HS := Lib.hid (And.intro (L1_mul ha hd) (And.intro (L1_mul hc hb) (And.intro (L1_mul hb hd) L1_sq)))
  have HP : Hid (∀ p ∈ [(a, d), (c, b), (b, d)], p.1 < Lim ∧ p.2 < Lim ∧ p.1 * p.2 < Lim) := by
    have := HS.out
    intro p hp
    simp only [List.mem_cons, List.not_mem_nil, or_false] at hp
    rcases hp with rfl | rfl | rfl
    · exact ⟨L1_lim ha, L1_lim hd, by show a * d < Lim; omega⟩
    · exact ⟨L1_lim hc, L1_lim hb, by show c * b < Lim; omega⟩
    · exact ⟨L1_lim hb, L1_lim hd, by show b * d < Lim; omega⟩
  have hPR : Hid (PairsAt ((sumW w g1 g1 a b c d).alloc (.cells #[.string (T (some a)), .string (T (some d)), .string (T (some c)), .string (T (some b)), .string (T (some b)), .string (T (some d))] 126)) (w.heap.size + 1 + 1 + 1) [(a, d), (c, b), (b, d)]) := by
    have := pairs3 (sumW w g1 g1 a b c d) a d c b b d
    rwa [show (sumW w g1 g1 a b c d).heap.size = w.heap.size + 1 + 1 + 1 by simp] at this
  have hBE : Hid (Below w.heap.size w ((sumW w g1 g1 a b c d).alloc (.cells #[.string (T (some a)), .string (T (some d)), .string (T (some c)), .string (T (some b)), .string (T (some b)), .string (T (some d))] 126))) := (sumW_below w g1 g1 a b c d).alloc (sumW_below w g1 g1 a b c d).size _
  have hQE : Hid (SumBoxes ((sumW w g1 g1 a b c d).alloc (.cells #[.string (T (some a)), .string (T (some d)), .string (T (some c)), .string (T (some b)), .string (T (some b)), .string (T (some d))] 126)) w.heap.size g1 g1 a b c d) := (SumBoxes.new w g1 g1 a b c d).alloc _
  replace hE := Lib.hid hE
  replace hbd := Lib.hid hbd
  clear ha hb hc hd hb0 hd0
  have hA : Hid (sumO (some (a * d)) (some (c * b)) = some (a * d + c * b) ∧ sumE (some (a * d)) (some (c * b)) = 0) := by
    have := HS.out
    have h : a * d + c * b < Lim := by omega
    exact ⟨by simp only [sumO, apO, limO, if_pos h], by simp only [sumE, apE, if_pos h]⟩
  go_enter Tryz.func58, Tryz.ntmps58
  go_wp2_with fail
  refine (products_any _ (hE.out.below hBE.out) (w.heap.size + 1 + 1 + 1) 3 [(a, d), (c, b), (b, d)] (by simp) (by simp) hPR.out HP.out).mono ?_
  rintro e w1 ⟨⟨v, rfl, ho⟩, hb1⟩
  have hat : TextsAt w1 v [a * d, c * b, b * d] := tvals_at ho (by simp)
  obtain ⟨lg, lcap, rfl, l0, l1, l2⟩ := texts3 hat
  have q1 := hQE.out.below hb1
  have hB1 := Lib.hid (hBE.out.trans (hb1.mono hBE.out.size))
  obtain ⟨a1, a2, a3, a4, a5, a6⟩ := q1.1.facts
  obtain ⟨b1, b2, b3, b4, b5, b6⟩ := q1.2.1.facts
  obtain ⟨c1, c2, c3, c4, c5, c6⟩ := q1.2.2.facts
  have hz1 := q1.2.2.lt
  replace q1 := Lib.hid q1
  clear hb1 hat ho
  go_wp2_with fail
  show Code.wp _ _ _ _ _
  go_quiet (fail)
  obtain ⟨W, hW⟩ : ∃ W, W = w1.drewN nq := ⟨_, rfl⟩
  have qW : Hid (SumBoxes W w.heap.size g1 g1 a b c d) := by rw [hW]; exact q1.out
  have hBW : Hid (Below w.heap.size w W) := by rw [hW]; exact blw_drewN hB1.out nq
  rw [← hW]
  clear a1 a2 a3 a4 a5 a6 b1 b2 b3 b4 b5 b6 c1 c2 c3 c4 c5 c6 hz1 l0 l1 l2 hW q1 hB1
  obtain ⟨a1, a2, a3, a4, a5, a6⟩ := qW.out.1.facts
  obtain ⟨b1, b2, b3, b4, b5, b6⟩ := qW.out.2.1.facts
  go_wp2_with fail
  refine (addT (some (a * d)) (some (c * b)) _ (hE.out.below hBW.out) (ok_some (by have := HS.out; omega)) (ok_some (by have := HS.out; omega))).mono ?_
  rintro e w2 ⟨rfl, hb2⟩
  rw [hA.out.1, hA.out.2]
  have q2 := qW.out.below hb2
  have hB2 := Lib.hid (hBW.out.trans (hb2.mono hBW.out.size))
  clear a1 a2 a3 a4 a5 a6 b1 b2 b3 b4 b5 b6 hb2
  obtain ⟨a1, a2, a3, a4, a5, a6⟩ := q2.1.facts
  obtain ⟨b1, b2, b3, b4, b5, b6⟩ := q2.2.1.facts
  replace q2 := Lib.hid q2
  go_wp2_with fail
  refine (lowest_any g1 (a * d + c * b) (b * d) _ (hE.out.below hB2.out) (by have := HS.out; omega) (by have := HS.out; omega) hbd.out).mono ?_
  rintro e w3 ⟨rfl, hb3⟩
  have q3 := q2.out.below hb3
  have hB3 := Lib.hid (hB2.out.trans (hb3.mono hB2.out.size))
  clear a1 a2 a3 a4 a5 a6 b1 b2 b3 b4 b5 b6 hb3
  obtain ⟨c1, c2, c3, c4, c5, c6⟩ := q3.2.2.facts
  replace q3 := Lib.hid q3
  unfold qv
  go_wp2
  refine bodyPost_ret (v := .tuple #[.agg #[.bool (decide ((mkRat (sg g1 (a * d + c * b)) (b * d)).num < 0)), .string (T (some (mkRat (sg g1 (a * d + c * b)) (b * d)).num.natAbs)), .string (T (some (mkRat (sg g1 (a * d + c * b)) (b * d)).den))], .int .i64 0]) (by simp [results, Tryz.results58, go_sem, c1, c2, c3]) rfl ⟨rfl, ?_⟩
  repeat refine Below.setCell ?_ (by simp only []; omega) _
  exact hB3.out
set_option maxRecDepth 100000 in
set_option maxHeartbeats 2000000 in
theorem sumw_less (g1 g2 : Bool) (a b c d : Nat) (w : World) (hE : Env w) (ha : a < L1) (hb : b < L1) (hc : c < L1) (hd : d < L1) (hb0 : b ≠ 0) (hd0 : d ≠ 0) (hg : (g1 == g2) = false) (hl : a * d < c * b) :
    Calls Tryz.prog 58 #[.agg #[.bool g1, .string (T (some a)), .string (T (some b))], .agg #[.bool g2, .string (T (some c)), .string (T (some d))]] w fun e w' => e = .returned (.tuple #[qv (mkRat (sg g2 (c * b - a * d)) (b * d)), .int .i64 0]) ∧ Below w.heap.size w w' := by
  have hbd : b * d ≠ 0 := Nat.mul_ne_zero hb0 hd0
  have HS := Lib.hid (And.intro (L1_mul ha hd) (And.intro (L1_mul hc hb) (And.intro (L1_mul hb hd) L1_sq)))
  have HP : Hid (∀ p ∈ [(a, d), (c, b), (b, d)], p.1 < Lim ∧ p.2 < Lim ∧ p.1 * p.2 < Lim) := by
    have := HS.out
    intro p hp
    simp only [List.mem_cons, List.not_mem_nil, or_false] at hp
    rcases hp with rfl | rfl | rfl
    · exact ⟨L1_lim ha, L1_lim hd, by show a * d < Lim; omega⟩
    · exact ⟨L1_lim hc, L1_lim hb, by show c * b < Lim; omega⟩
    · exact ⟨L1_lim hb, L1_lim hd, by show b * d < Lim; omega⟩
  have hPR : Hid (PairsAt ((sumW w g1 g2 a b c d).alloc (.cells #[.string (T (some a)), .string (T (some d)), .string (T (some c)), .string (T (some b)), .string (T (some b)), .string (T (some d))] 126)) (w.heap.size + 1 + 1 + 1) [(a, d), (c, b), (b, d)]) := by
    have := pairs3 (sumW w g1 g2 a b c d) a d c b b d
    rwa [show (sumW w g1 g2 a b c d).heap.size = w.heap.size + 1 + 1 + 1 by simp] at this
  have hBE : Hid (Below w.heap.size w ((sumW w g1 g2 a b c d).alloc (.cells #[.string (T (some a)), .string (T (some d)), .string (T (some c)), .string (T (some b)), .string (T (some b)), .string (T (some d))] 126))) := (sumW_below w g1 g2 a b c d).alloc (sumW_below w g1 g2 a b c d).size _
  have hQE : Hid (SumBoxes ((sumW w g1 g2 a b c d).alloc (.cells #[.string (T (some a)), .string (T (some d)), .string (T (some c)), .string (T (some b)), .string (T (some b)), .string (T (some d))] 126)) w.heap.size g1 g2 a b c d) := (SumBoxes.new w g1 g2 a b c d).alloc _
  replace hE := Lib.hid hE
  replace hbd := Lib.hid hbd
  clear ha hb hc hd hb0 hd0
  have hC0 : Hid (cmpX (some (a * d)) (some (c * b)) = 0) := rfl
  have hS2 : Hid (subO (some (c * b)) (some (a * d)) = some (c * b - a * d) ∧ subX (some (c * b)) (some (a * d)) = 0) := ⟨if_pos (by omega), if_pos (by omega)⟩
  have hC : Hid (cmpO (some (a * d)) (some (c * b)) = -1) := cmpN_lt hl
  replace hl := Lib.hid hl
  go_enter Tryz.func58, Tryz.ntmps58
  go_wp2_with fail
  refine (products_any _ (hE.out.below hBE.out) (w.heap.size + 1 + 1 + 1) 3 [(a, d), (c, b), (b, d)] (by simp) (by simp) hPR.out HP.out).mono ?_
  rintro e w1 ⟨⟨v, rfl, ho⟩, hb1⟩
  have hat : TextsAt w1 v [a * d, c * b, b * d] := tvals_at ho (by simp)
  obtain ⟨lg, lcap, rfl, l0, l1, l2⟩ := texts3 hat
  have q1 := hQE.out.below hb1
  have hB1 := Lib.hid (hBE.out.trans (hb1.mono hBE.out.size))
  obtain ⟨a1, a2, a3, a4, a5, a6⟩ := q1.1.facts
  obtain ⟨b1, b2, b3, b4, b5, b6⟩ := q1.2.1.facts
  obtain ⟨c1, c2, c3, c4, c5, c6⟩ := q1.2.2.facts
  have hz1 := q1.2.2.lt
  replace q1 := Lib.hid q1
  clear hb1 hat ho
  go_wp2_with fail
  show Code.wp _ _ _ _ _
  go_quiet (fail)
  obtain ⟨W, hW⟩ : ∃ W, W = w1.drewN nq := ⟨_, rfl⟩
  have qW : Hid (SumBoxes W w.heap.size g1 g2 a b c d) := by rw [hW]; exact q1.out
  have hBW : Hid (Below w.heap.size w W) := by rw [hW]; exact blw_drewN hB1.out nq
  rw [← hW]
  clear a1 a2 a3 a4 a5 a6 b1 b2 b3 b4 b5 b6 c1 c2 c3 c4 c5 c6 hz1 l0 l1 l2 hW q1 hB1
  obtain ⟨a1, a2, a3, a4, a5, a6⟩ := qW.out.1.facts
  obtain ⟨b1, b2, b3, b4, b5, b6⟩ := qW.out.2.1.facts
  go_wp2_with fail
  refine (cmpT (some (a * d)) (some (c * b)) _ (hE.out.below hBW.out) (ok_some (by have := HS.out; omega)) (ok_some (by have := HS.out; omega))).mono ?_
  rintro e w2 ⟨rfl, hb2⟩
  rw [hC.out, hC0.out]
  have q2 := qW.out.below hb2
  have hB2 := Lib.hid (hBW.out.trans (hb2.mono hBW.out.size))
  clear a1 a2 a3 a4 a5 a6 b1 b2 b3 b4 b5 b6 hb2
  obtain ⟨a1, a2, a3, a4, a5, a6⟩ := q2.1.facts
  obtain ⟨b1, b2, b3, b4, b5, b6⟩ := q2.2.1.facts
  replace q2 := Lib.hid q2
  go_wp2_with fail
  refine (subT (some (c * b)) (some (a * d)) _ (hE.out.below hB2.out) (ok_some (by have := HS.out; omega)) (ok_some (by have := HS.out; omega))).mono ?_
  rintro e w3 ⟨rfl, hb3⟩
  rw [hS2.out.1, hS2.out.2]
  have q3 := q2.out.below hb3
  have hB3 := Lib.hid (hB2.out.trans (hb3.mono hB2.out.size))
  clear a1 a2 a3 a4 a5 a6 b1 b2 b3 b4 b5 b6 hb3
  obtain ⟨a1, a2, a3, a4, a5, a6⟩ := q3.1.facts
  obtain ⟨b1, b2, b3, b4, b5, b6⟩ := q3.2.1.facts
  replace q3 := Lib.hid q3
  go_wp2_with fail
  refine (lowest_any g2 (c * b - a * d) (b * d) _ (hE.out.below hB3.out) (by have := HS.out; omega) (by have := HS.out; omega) hbd.out).mono ?_
  rintro e w4 ⟨rfl, hb4⟩
  have q4 := q3.out.below hb4
  have hB4 := Lib.hid (hB3.out.trans (hb4.mono hB3.out.size))
  clear a1 a2 a3 a4 a5 a6 b1 b2 b3 b4 b5 b6 hb4
  obtain ⟨c1, c2, c3, c4, c5, c6⟩ := q4.2.2.facts
  replace q4 := Lib.hid q4
  unfold qv
  go_wp2
  refine bodyPost_ret (v := .tuple #[.agg #[.bool (decide ((mkRat (sg g2 (c * b - a * d)) (b * d)).num < 0)), .string (T (some (mkRat (sg g2 (c * b - a * d)) (b * d)).num.natAbs)), .string (T (some (mkRat (sg g2 (c * b - a * d)) (b * d)).den))], .int .i64 0]) (by simp [results, Tryz.results58, go_sem, c1, c2, c3]) rfl ⟨rfl, ?_⟩
  repeat refine Below.setCell ?_ (by simp only []; omega) _
  exact hB4.out
set_option maxRecDepth 100000 in
set_option maxHeartbeats 2000000 in
theorem sumw_more (g1 g2 : Bool) (a b c d : Nat) (w : World) (hE : Env w) (ha : a < L1) (hb : b < L1) (hc : c < L1) (hd : d < L1) (hb0 : b ≠ 0) (hd0 : d ≠ 0) (hg : (g1 == g2) = false) (hl : c * b ≤ a * d) :
    Calls Tryz.prog 58 #[.agg #[.bool g1, .string (T (some a)), .string (T (some b))], .agg #[.bool g2, .string (T (some c)), .string (T (some d))]] w fun e w' => e = .returned (.tuple #[qv (mkRat (sg g1 (a * d - c * b)) (b * d)), .int .i64 0]) ∧ Below w.heap.size w w' := by
  have hbd : b * d ≠ 0 := Nat.mul_ne_zero hb0 hd0
  have HS := Lib.hid (And.intro (L1_mul ha hd) (And.intro (L1_mul hc hb) (And.intro (L1_mul hb hd) L1_sq)))
  have HP : Hid (∀ p ∈ [(a, d), (c, b), (b, d)], p.1 < Lim ∧ p.2 < Lim ∧ p.1 * p.2 < Lim) := by
    have := HS.out
    intro p hp
    simp only [List.mem_cons, List.not_mem_nil, or_false] at hp
    rcases hp with rfl | rfl | rfl
    · exact ⟨L1_lim ha, L1_lim hd, by show a * d < Lim; omega⟩
    · exact ⟨L1_lim hc, L1_lim hb, by show c * b < Lim; omega⟩
    · exact ⟨L1_lim hb, L1_lim hd, by show b * d < Lim; omega⟩
  have hPR : Hid (PairsAt ((sumW w g1 g2 a b c d).alloc (.cells #[.string (T (some a)), .string (T (some d)), .string (T (some c)), .string (T (some b)), .string (T (some b)), .string (T (some d))] 126)) (w.heap.size + 1 + 1 + 1) [(a, d), (c, b), (b, d)]) := by
    have := pairs3 (sumW w g1 g2 a b c d) a d c b b d
    rwa [show (sumW w g1 g2 a b c d).heap.size = w.heap.size + 1 + 1 + 1 by simp] at this
  have hBE : Hid (Below w.heap.size w ((sumW w g1 g2 a b c d).alloc (.cells #[.string (T (some a)), .string (T (some d)), .string (T (some c)), .string (T (some b)), .string (T (some b)), .string (T (some d))] 126))) := (sumW_below w g1 g2 a b c d).alloc (sumW_below w g1 g2 a b c d).size _
  have hQE : Hid (SumBoxes ((sumW w g1 g2 a b c d).alloc (.cells #[.string (T (some a)), .string (T (some d)), .string (T (some c)), .string (T (some b)), .string (T (some b)), .string (T (some d))] 126)) w.heap.size g1 g2 a b c d) := (SumBoxes.new w g1 g2 a b c d).alloc _
  replace hE := Lib.hid hE
  replace hbd := Lib.hid hbd
  clear ha hb hc hd hb0 hd0
  have hC0 : Hid (cmpX (some (a * d)) (some (c * b)) = 0) := rfl
  have hS2 : Hid (subO (some (a * d)) (some (c * b)) = some (a * d - c * b) ∧ subX (some (a * d)) (some (c * b)) = 0) := ⟨if_pos (by omega), if_pos (by omega)⟩
  obtain ⟨cv, hcv, hcv0⟩ : ∃ cv : Int, cv = cmpO (some (a * d)) (some (c * b)) ∧ 0 ≤ cv := ⟨_, rfl, by show 0 ≤ cmpN (a * d) (c * b); unfold cmpN; rw [if_neg (by omega)]; split <;> omega⟩
  have hC : Hid (cmpO (some (a * d)) (some (c * b)) = cv) := hcv.symm
  clear hcv
  replace hl := Lib.hid hl
  go_enter Tryz.func58, Tryz.ntmps58
  go_wp2_with fail
  refine (products_any _ (hE.out.below hBE.out) (w.heap.size + 1 + 1 + 1) 3 [(a, d), (c, b), (b, d)] (by simp) (by simp) hPR.out HP.out).mono ?_
  rintro e w1 ⟨⟨v, rfl, ho⟩, hb1⟩
  have hat : TextsAt w1 v [a * d, c * b, b * d] := tvals_at ho (by simp)
  obtain ⟨lg, lcap, rfl, l0, l1, l2⟩ := texts3 hat
  have q1 := hQE.out.below hb1
  have hB1 := Lib.hid (hBE.out.trans (hb1.mono hBE.out.size))
  obtain ⟨a1, a2, a3, a4, a5, a6⟩ := q1.1.facts
  obtain ⟨b1, b2, b3, b4, b5, b6⟩ := q1.2.1.facts
  obtain ⟨c1, c2, c3, c4, c5, c6⟩ := q1.2.2.facts
  have hz1 := q1.2.2.lt
  replace q1 := Lib.hid q1
  clear hb1 hat ho
  go_wp2_with fail
  show Code.wp _ _ _ _ _
  go_quiet (fail)
  obtain ⟨W, hW⟩ : ∃ W, W = w1.drewN nq := ⟨_, rfl⟩
  have qW : Hid (SumBoxes W w.heap.size g1 g2 a b c d) := by rw [hW]; exact q1.out
  have hBW : Hid (Below w.heap.size w W) := by rw [hW]; exact blw_drewN hB1.out nq
  rw [← hW]
  clear a1 a2 a3 a4 a5 a6 b1 b2 b3 b4 b5 b6 c1 c2 c3 c4 c5 c6 hz1 l0 l1 l2 hW q1 hB1
  obtain ⟨a1, a2, a3, a4, a5, a6⟩ := qW.out.1.facts
  obtain ⟨b1, b2, b3, b4, b5, b6⟩ := qW.out.2.1.facts
  go_wp2_with fail
  refine (cmpT (some (a * d)) (some (c * b)) _ (hE.out.below hBW.out) (ok_some (by have := HS.out; omega)) (ok_some (by have := HS.out; omega))).mono ?_
  rintro e w2 ⟨rfl, hb2⟩
  rw [hC.out, hC0.out]
  have q2 := qW.out.below hb2
  have hB2 := Lib.hid (hBW.out.trans (hb2.mono hBW.out.size))
  clear a1 a2 a3 a4 a5 a6 b1 b2 b3 b4 b5 b6 hb2
  obtain ⟨a1, a2, a3, a4, a5, a6⟩ := q2.1.facts
  obtain ⟨b1, b2, b3, b4, b5, b6⟩ := q2.2.1.facts
  replace q2 := Lib.hid q2
  go_wp2_with fail
  refine (subT (some (a * d)) (some (c * b)) _ (hE.out.below hB2.out) (ok_some (by have := HS.out; omega)) (ok_some (by have := HS.out; omega))).mono ?_
  rintro e w3 ⟨rfl, hb3⟩
  rw [hS2.out.1, hS2.out.2]
  have q3 := q2.out.below hb3
  have hB3 := Lib.hid (hB2.out.trans (hb3.mono hB2.out.size))
  clear a1 a2 a3 a4 a5 a6 b1 b2 b3 b4 b5 b6 hb3
  obtain ⟨a1, a2, a3, a4, a5, a6⟩ := q3.1.facts
  obtain ⟨b1, b2, b3, b4, b5, b6⟩ := q3.2.1.facts
  replace q3 := Lib.hid q3
  go_wp2_with fail
  refine (lowest_any g1 (a * d - c * b) (b * d) _ (hE.out.below hB3.out) (by have := HS.out; omega) (by have := HS.out; omega) hbd.out).mono ?_
  rintro e w4 ⟨rfl, hb4⟩
  have q4 := q3.out.below hb4
  have hB4 := Lib.hid (hB3.out.trans (hb4.mono hB3.out.size))
  clear a1 a2 a3 a4 a5 a6 b1 b2 b3 b4 b5 b6 hb4
  obtain ⟨c1, c2, c3, c4, c5, c6⟩ := q4.2.2.facts
  replace q4 := Lib.hid q4
  unfold qv
  go_wp2
  refine bodyPost_ret (v := .tuple #[.agg #[.bool (decide ((mkRat (sg g1 (a * d - c * b)) (b * d)).num < 0)), .string (T (some (mkRat (sg g1 (a * d - c * b)) (b * d)).num.natAbs)), .string (T (some (mkRat (sg g1 (a * d - c * b)) (b * d)).den))], .int .i64 0]) (by simp [results, Tryz.results58, go_sem, c1, c2, c3]) rfl ⟨rfl, ?_⟩
  repeat refine Below.setCell ?_ (by simp only []; omega) _
  exact hB4.out
end Nt
end Go.Proofs.YtpmlhgmmobpilaaGreatDoor

namespace Go.Proofs.YtpmlhgmmobpilaaGreatDoor
open Go.RowKit Go.Shelf
namespace Nt
theorem set3_other (W : World) (B b o : Nat) (x y z : Value) (h : b ≠ B) : (((W.setCell ⟨B, 0, none⟩ x).setCell ⟨B, 1, none⟩ y).setCell ⟨B, 2, none⟩ z).cell? ⟨b, o, none⟩ = W.cell? ⟨b, o, none⟩ :=
  World.cell?_of_block (w := W) (a := ⟨b, o, none⟩) (((Below.heap_setCell _ _ _ _ (by exact h)).trans (Below.heap_setCell _ _ _ _ (by exact h))).trans (Below.heap_setCell _ _ _ _ (by exact h)))
set_option maxRecDepth 100000 in
set_option maxHeartbeats 2000000 in
theorem product_any (g1 g2 : Bool) (a b c d : Nat) (w : World) (hE : Env w) (ha : a < Lim) (hb : b < Lim) (hc : c < Lim) (hd : d < Lim) (hac : a * c < Lim) (hbd : b * d < Lim) (h0 : b * d ≠ 0) :
    Calls Tryz.prog 56 #[.agg #[.bool g1, .string (T (some a)), .string (T (some b))], .agg #[.bool g2, .string (T (some c)), .string (T (some d))]] w fun e w' => e = .returned (.tuple #[qv (mkRat (sg (!(g1 == g2)) (a * c)) (b * d)), .int .i64 0]) ∧ Below w.heap.size w w' := by
  have HP : Hid (∀ p ∈ [(a, c), (b, d)], p.1 < Lim ∧ p.2 < Lim ∧ p.1 * p.2 < Lim) := by
    intro p hp
    simp only [List.mem_cons, List.not_mem_nil, or_false] at hp
    rcases hp with rfl | rfl
    · exact ⟨ha, hc, hac⟩
    · exact ⟨hb, hd, hbd⟩
  have hPR : Hid (PairsAt ((sumW w g1 g2 a b c d).alloc (.cells #[.string (T (some a)), .string (T (some c)), .string (T (some b)), .string (T (some d))] 126)) (w.heap.size + 1 + 1 + 1) [(a, c), (b, d)]) := by
    have := pairs2 (sumW w g1 g2 a b c d) a c b d
    rwa [show (sumW w g1 g2 a b c d).heap.size = w.heap.size + 1 + 1 + 1 by simp] at this
  have hBE : Hid (Below w.heap.size w ((sumW w g1 g2 a b c d).alloc (.cells #[.string (T (some a)), .string (T (some c)), .string (T (some b)), .string (T (some d))] 126))) := (sumW_below w g1 g2 a b c d).alloc (sumW_below w g1 g2 a b c d).size _
  have hQE : Hid (SumBoxes ((sumW w g1 g2 a b c d).alloc (.cells #[.string (T (some a)), .string (T (some c)), .string (T (some b)), .string (T (some d))] 126)) w.heap.size g1 g2 a b c d) := (SumBoxes.new w g1 g2 a b c d).alloc _
  replace hE := Lib.hid hE
  replace h0 := Lib.hid h0
  replace hac := Lib.hid hac
  replace hbd := Lib.hid hbd
  clear ha hb hc hd
  go_enter Tryz.func56, Tryz.ntmps56
  go_wp2_with fail
  refine (products_any _ (hE.out.below hBE.out) (w.heap.size + 1 + 1 + 1) 2 [(a, c), (b, d)] (by simp) (by simp) hPR.out HP.out).mono ?_
  rintro e w1 ⟨⟨v, rfl, ho⟩, hb1⟩
  have hat : TextsAt w1 v [a * c, b * d] := tvals_at ho (by simp)
  obtain ⟨lg, lcap, rfl, hlg, l0, l1⟩ := texts2 hat
  have hlb : w.heap.size + 1 + 1 + 1 < lg := by
    have h1 := (ho.lt lg rfl).1
    simp at h1
    omega
  have q1 := hQE.out.below hb1
  have hB1 := Lib.hid (hBE.out.trans (hb1.mono hBE.out.size))
  obtain ⟨a1, a2, a3, a4, a5, a6⟩ := q1.1.facts
  obtain ⟨b1, b2, b3, b4, b5, b6⟩ := q1.2.1.facts
  obtain ⟨c1, c2, c3, c4, c5, c6⟩ := q1.2.2.facts
  have hz1 := q1.2.2.lt
  replace q1 := Lib.hid q1
  clear hb1 hat ho
  go_wp2_with fail
  have hl := fun W (h : Below w1.heap.size w1 W) => lowest_any (!(g1 == g2)) (a * c) (b * d) W (hE.out.below (hB1.out.trans (h.mono hB1.out.size))) hac.out hbd.out h0.out
  simp only [qv] at hl
  have q1d : Hid (SumBoxes w1.drew w.heap.size g1 g2 a b c d) := q1.out
  go_region_held3 (fun w' => w'.cell? ⟨w.heap.size, 0, none⟩ = some (.bool g1) ∧ w'.cell? ⟨w.heap.size + 1, 0, none⟩ = some (.bool g2) ∧ w'.cell? ⟨lg, 0, none⟩ = some (.string (T (some (a * c)))) ∧ w'.cell? ⟨lg, 1, none⟩ = some (.string (T (some (b * d))))) (first | exact ⟨a1, b1, l0, l1⟩ | exact ⟨k1, k2, k3, k4⟩ | exact ⟨(set3_other _ _ _ _ _ _ _ (by omega)).trans k1, (set3_other _ _ _ _ _ _ _ (by omega)).trans k2, (set3_other _ _ _ _ _ _ _ (by omega)).trans k3, (set3_other _ _ _ _ _ _ _ (by omega)).trans k4⟩ | go_keep)
    (first | (go_at_call 97; refine (hl _ ?_).mono ?_; (exact (Below.refl _ _).drew); rintro e w2 ⟨rfl, hb2⟩; have q2 := q1d.out.below hb2; obtain ⟨c1', c2', c3', c4', c5', c6'⟩ := q2.2.2.facts; have k1 := q2.1.facts.1; have k2 := q2.2.1.facts.1; have k3 := (hb2.cell (p := ⟨lg, 0, none⟩) hlg).trans l0; have k4 := (hb2.cell (p := ⟨lg, 1, none⟩) hlg).trans l1))
  go_wp2
  refine bodyPost_ret (v := .tuple #[.agg #[.bool (decide ((mkRat (sg (!(g1 == g2)) (a * c)) (b * d)).num < 0)), .string (T (some (mkRat (sg (!(g1 == g2)) (a * c)) (b * d)).num.natAbs)), .string (T (some (mkRat (sg (!(g1 == g2)) (a * c)) (b * d)).den))], .int .i64 0]) (by simp [results, Tryz.results56, go_sem, c1', c2', c3']) rfl ⟨rfl, ?_⟩
  repeat refine Below.setCell ?_ (by simp only []; omega) _
  exact (hB1.out.drew).trans (hb2.mono hB1.out.size)
theorem opp_any (g : Bool) (n d : ByteArray) (w : World) :
    Calls Tryz.prog 68 #[.agg #[.bool g, .string n, .string d]] w fun e w' => e = .returned (.agg #[.bool (!g && !(n.toList == [48])), .string n, .string d]) ∧ Below w.heap.size w w' := by
  cases g with
  | true =>
    go_enter Tryz.func68, Tryz.ntmps68
    go_wp2
    refine bodyPost_ret (v := .agg #[.bool false, .string n, .string d]) (by simp [results, Tryz.results68, go_sem]) rfl ⟨rfl, ?_⟩
    repeat refine Below.setCell ?_ (by simp only []; omega) _
    exact ((Below.refl _ w).alloc (Nat.le_refl _) _).alloc (by simp) _
  | false =>
    cases hz : (n.toList == [48]) with
    | true =>
      go_enter Tryz.func68, Tryz.ntmps68
      go_wp2
      refine bodyPost_ret (v := .agg #[.bool false, .string n, .string d]) (by simp [results, Tryz.results68, go_sem]) rfl ⟨rfl, ?_⟩
      repeat refine Below.setCell ?_ (by simp only []; omega) _
      exact ((Below.refl _ w).alloc (Nat.le_refl _) _).alloc (by simp) _
    | false =>
      go_enter Tryz.func68, Tryz.ntmps68
      go_wp2
      refine bodyPost_ret (v := .agg #[.bool true, .string n, .string d]) (by simp [results, Tryz.results68, go_sem]) rfl ⟨rfl, ?_⟩
      repeat refine Below.setCell ?_ (by simp only []; omega) _
      exact ((Below.refl _ w).alloc (Nat.le_refl _) _).alloc (by simp) _
end Nt
end Go.Proofs.YtpmlhgmmobpilaaGreatDoor

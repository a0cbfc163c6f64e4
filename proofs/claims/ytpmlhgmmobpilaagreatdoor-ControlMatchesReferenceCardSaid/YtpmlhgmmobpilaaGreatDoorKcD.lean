/- Texts that the proof needs: CirB. -/
import Derived.Maps.OwnSet
import Derived.Maps.Views
import Derived.WalkKit
import Derived.IntWalk
import Derived.Deep.RegionHeld3
import Derived.Laws.AppendOwn
import Derived.Deep.OwnRows
import Derived.Test.YtpmlhgmmobpilaaGreatDoorKcA
import Derived.Test.YtpmlhgmmobpilaaGreatDoorKcB
import Derived.Test.YtpmlhgmmobpilaaGreatDoorKcC
namespace Go.Proofs.YtpmlhgmmobpilaaGreatDoor
open Go.Maps (Keyed)
open Go.RowKit
namespace Ci
/-- An element reads as itself. -/
def tokR (v : Value) : Option (DataW Value × List MemPlace) := some (.held v, [])
/-- One value of a table of entries. -/
def putF {α : Type} [DecidableEq α] (f : α → Option Value) (x : α) (v : Option Value) : α → Option Value := fun y => if y = x then v else f y
theorem putF_same {α : Type} [DecidableEq α] (f : α → Option Value) (x : α) (v : Option Value) : putF f x v x = v := if_pos rfl
theorem putF_other {α : Type} [DecidableEq α] {f : α → Option Value} {x y : α} {v : Option Value} (h : y ≠ x) : putF f x v y = f y := if_neg h
/-- Block b is a map of c entries, which holds f x at the key that reads as κ x. -/
def MapK {α : Type} (P : Program) (k : TypeId) (κ : α → Lit) (w : World) (b c : Nat) (f : α → Option Value) : Prop :=
  ∃ D : DataW Value, w.ownsMap P k tokR b c D ∧ Maps.size D = c ∧ ∀ x, Maps.has D (κ x) = (f x).isSome ∧ ∀ z, D.atKey (κ x) z = match f x with | some v => .held v | none => z
section
variable {α : Type} {P : Program} {k t e : TypeId} {κ : α → Lit} {w w' : World} {b c : Nat} {f : α → Option Value}
theorem own_exact {R : Value → Option (DataW Value × List MemPlace)} {n : Nat} {D : DataW Value} (h : w.ownsMap P k R b n D) : w.ownsMap P k R b (Maps.size D) D := by
  obtain ⟨es, clock, hb, F, _, rfl⟩ := h
  refine ⟨es, clock, hb, F, ?_, rfl⟩
  simp [Maps.size, length_sorted]
theorem MapK.made (w : World) (P : Program) (k : TypeId) (κ : α → Lit) : MapK P k κ (w.alloc (.map #[] 0)) w.heap.size 0 fun _ => none :=
  ⟨.map [], World.ownsMap_made w P k tokR, rfl, fun _ => ⟨rfl, fun _ => rfl⟩⟩
theorem MapK.lt (h : MapK P k κ w b c f) : b < w.heap.size := by obtain ⟨D, h, _⟩ := h; exact h.lt
theorem MapK.kept {row : Option Nat} (h : MapK P k κ w b c f) (hg : w.grownBy w' row) (hne : some b ≠ row) : MapK P k κ w' b c f := by
  obtain ⟨D, h, r⟩ := h
  exact ⟨D, h.kept hg hne, r⟩
theorem MapK.block (h : MapK P k κ w b c f) (hb : w'.heap[b]? = w.heap[b]?) : MapK P k κ w' b c f := by
  obtain ⟨D, ⟨es, clock, h1, h2⟩, r⟩ := h
  exact ⟨D, ⟨es, clock, hb.trans h1, h2⟩, r⟩
theorem MapK.below (h : MapK P k κ w b c f) (hb : Below w.heap.size w w') : MapK P k κ w' b c f := h.block (hb.block b h.lt)
theorem MapK.alloc (h : MapK P k κ w b c f) (o : Obj) : MapK P k κ (w.alloc o) b c f := by
  obtain ⟨D, h, r⟩ := h
  exact ⟨D, h.alloc o, r⟩
theorem MapK.drew (h : MapK P k κ w b c f) : MapK P k κ w.drew b c f := h
theorem MapK.set (h : MapK P k κ w b c f) {a : Addr} (ha : b ≠ a.block) (u : Value) : MapK P k κ (w.setCell a u) b c f := by
  obtain ⟨D, h, r⟩ := h
  exact ⟨D, h.setCell ha u, r⟩
theorem MapK.congr {g : α → Option Value} (h : MapK P k κ w b c f) (e : ∀ x, f x = g x) : MapK P k κ w b c g := by rwa [← funext e]
theorem MapK.look (h : MapK P k κ w b c f) (K : Keyed P k) (ht : P.underlying t = some (.map k e)) {z : Value} (hz : (zeroValue e).run P w = .ok z w) {key : Value} {x : α} (hkey : keyOf P k key = some (κ x)) :
    (Instr.lookup t (.map (some b)) key false).run P w = .ok ((f x).getD z) w := by
  obtain ⟨D, h, _, hv⟩ := h
  obtain ⟨v, ps, hrun, hR⟩ := h.lookup K ht hz (zd := .held z) (zp := []) rfl hkey
  rw [hrun]
  rw [(hv x).2] at hR
  simp only [tokR, Option.some.injEq, Prod.mk.injEq] at hR
  cases hf : f x with
  | none => rw [hf] at hR; simp only [DataW.held.injEq] at hR; rw [hR.1]; rfl
  | some u => rw [hf] at hR; simp only [DataW.held.injEq] at hR; rw [hR.1]; rfl
theorem MapK.put [DecidableEq α] (h : MapK P k κ w b c f) (hκ : ∀ x y, κ x = κ y → x = y) (K : Keyed P k) (ht : P.underlying t = some (.map k e)) (hn : c < maxLen) {key : Value} {x : α} (hkey : keyOf P k key = some (κ x)) (v : Value) :
    ∃ w', (Instr.mapUpdate t (.map (some b)) key v).run P w = .ok () w' ∧ MapK P k κ w' b (if (f x).isSome then c else c + 1) (putF f x (some v)) ∧ w.grownBy w' (some b) := by
  obtain ⟨D, h, hs, hv⟩ := h
  obtain ⟨w', hrun, h2, hg⟩ := h.update K ht hn hkey (R := tokR) (val := v) rfl
  have hsz : Maps.size (D.put (κ x) (.held v)) = if (f x).isSome then c else c + 1 := by
    rw [Maps.size_put (h.tidy K), hs, (hv x).1]
  refine ⟨w', hrun, ⟨_, by have := own_exact h2; rwa [hsz] at this, hsz, fun y => ?_⟩, hg⟩
  by_cases hy : y = x
  · subst hy
    rw [putF_same]
    exact ⟨Maps.has_put_same h.isMap (K.key hkey) _, fun z => Maps.atKey_put_same h.isMap (K.key hkey) _ z⟩
  · have hne : κ y ≠ κ x := fun e => hy (hκ _ _ e)
    rw [putF_other hy, Maps.has_put_other hne]
    refine ⟨(hv y).1, fun z => ?_⟩
    rw [Maps.atKey_put_other hne]
    exact (hv y).2 z
theorem MapK.len (h : MapK P k κ w b c f) (ht : P.underlying t = some (.map k e)) (ty : TypeId) : (Builtin.len_ #[t] ty #[.map (some b)]).run P w = .ok (.int .i64 c) w := by
  obtain ⟨D, h, hs, _⟩ := h
  rw [h.len ht, hs]
end
/-- The keys of an int map. -/
def κi (a : Int) : Lit := .int .i64 a
theorem κi_inj : ∀ x y, κi x = κi y → x = y := fun x y h => by injection h
theorem key_i {P : Program} {k : TypeId} (hk : P.underlying k = some (.int .i64)) {a : Int} (h1 : -9223372036854775808 ≤ a) (h2 : a ≤ 9223372036854775807) : keyOf P k (.int .i64 a) = some (κi a) := Maps.keyOf_int_mk hk (WalkArith.wf_i64 ⟨h1, h2⟩)
end Ci
end Go.Proofs.YtpmlhgmmobpilaaGreatDoor
namespace Go.Proofs.YtpmlhgmmobpilaaGreatDoor
open Go.RowKit Go.Shelf
namespace Ci
open Nt
/-- A link: company, holder, part. -/
abbrev Lk := Int × Int × Bool × ByteArray × ByteArray
def lkL (x : Lk) : List Value := [.int .i64 x.1, .int .i64 x.2.1, .bool x.2.2.1, .string x.2.2.2.1, .string x.2.2.2.2]
def InLk (W : World) (A : Option Addr) (l : List Lk) : Prop :=
  0 < l.length → ∃ b off, A = some ⟨b, off, none⟩ ∧ b < W.heap.size ∧ ∀ j (h : j < l.length), W.cell? ⟨b, off + j * 5, none⟩ = some (.int .i64 l[j].1) ∧ W.cell? ⟨b, off + j * 5 + 1, none⟩ = some (.int .i64 l[j].2.1) ∧
    W.cell? ⟨b, off + j * 5 + 2, none⟩ = some (.bool l[j].2.2.1) ∧ W.cell? ⟨b, off + j * 5 + 3, none⟩ = some (.string l[j].2.2.2.1) ∧ W.cell? ⟨b, off + j * 5 + 4, none⟩ = some (.string l[j].2.2.2.2)
def InStr (W : World) (A : Option Addr) (l : List ByteArray) : Prop :=
  0 < l.length → ∃ b off, A = some ⟨b, off, none⟩ ∧ b < W.heap.size ∧ ∀ j (h : j < l.length), W.cell? ⟨b, off + j, none⟩ = some (.string l[j])
def InInt (W : World) (A : Option Addr) (l : List Int) : Prop :=
  0 < l.length → ∃ b off, A = some ⟨b, off, none⟩ ∧ b < W.heap.size ∧ ∀ j (h : j < l.length), W.cell? ⟨b, off + j, none⟩ = some (.int .i64 l[j])
theorem InLk.below {W W' : World} {A : Option Addr} {l : List Lk} (h : InLk W A l) (hb : Below W.heap.size W W') : InLk W' A l := fun h0 => by
  obtain ⟨b, off, e, hl, hc⟩ := h h0
  refine ⟨b, off, e, Nat.lt_of_lt_of_le hl hb.size, fun j hj => ?_⟩
  obtain ⟨c1, c2, c3, c4, c5⟩ := hc j hj
  exact ⟨(hb.cell (p := ⟨b, _, none⟩) hl).trans c1, (hb.cell (p := ⟨b, _, none⟩) hl).trans c2, (hb.cell (p := ⟨b, _, none⟩) hl).trans c3, (hb.cell (p := ⟨b, _, none⟩) hl).trans c4, (hb.cell (p := ⟨b, _, none⟩) hl).trans c5⟩
theorem InStr.below {W W' : World} {A : Option Addr} {l : List ByteArray} (h : InStr W A l) (hb : Below W.heap.size W W') : InStr W' A l := fun h0 => by
  obtain ⟨b, off, e, hl, hc⟩ := h h0
  exact ⟨b, off, e, Nat.lt_of_lt_of_le hl hb.size, fun j hj => (hb.cell (p := ⟨b, _, none⟩) hl).trans (hc j hj)⟩
theorem InInt.below {W W' : World} {A : Option Addr} {l : List Int} (h : InInt W A l) (hb : Below W.heap.size W W') : InInt W' A l := fun h0 => by
  obtain ⟨b, off, e, hl, hc⟩ := h h0
  exact ⟨b, off, e, Nat.lt_of_lt_of_le hl hb.size, fun j hj => (hb.cell (p := ⟨b, _, none⟩) hl).trans (hc j hj)⟩
def OkAt (i c : Nat) : Prop := (97 ≤ c ∧ c ≤ 122) ∨ (65 ≤ c ∧ c ≤ 90) ∨ (i ≠ 0 ∧ (c = 95 ∨ (48 ≤ c ∧ c ≤ 57)))
instance (i c : Nat) : Decidable (OkAt i c) := inferInstanceAs (Decidable (_ ∨ _))
def identB (s : ByteArray) : Bool := decide (∀ i (h : i < s.size), OkAt i s[i].toNat) && (decide (0 < s.size) && decide (s.size ≤ 24))
theorem ident_bad {s : ByteArray} {i : Nat} (h : i < s.size) (hb : ¬ OkAt i s[i].toNat) : identB s = false := by
  unfold identB
  rw [decide_eq_false fun hc => hb (hc i h)]
  rfl
theorem ident_all {s : ByteArray} (h : ∀ i (h : i < s.size), OkAt i s[i].toNat) : identB s = (decide (0 < s.size) && decide (s.size ≤ 24)) := by
  unfold identB
  rw [decide_eq_true h]
  rfl
abbrev Rw := Bool × ByteArray × ByteArray
/-- How many 6000ths a part is; 0 if it is not allowed. -/
def unitsN (x : Rw) : Nat :=
  if validB x.1 x.2.1 x.2.2 = false ∨ x.1 = true ∨ 4 < x.2.1.size ∨ 4 < x.2.2.size then 0
  else if val x.2.2 < val x.2.1 ∨ 6000 % val x.2.2 ≠ 0 then 0 else val x.2.1 * (6000 / val x.2.2)
theorem units_le (x : Rw) : unitsN x ≤ 6000 := by
  unfold unitsN
  split
  · omega
  · split
    · omega
    · rename_i h
      have h1 : val x.2.1 ≤ val x.2.2 := by omega
      exact Nat.le_trans (Nat.mul_le_mul_right _ h1) (Nat.mul_div_le _ _)
def lkP (x : Lk) : Rw := (x.2.2.1, x.2.2.2.1, x.2.2.2.2)
def sumU (l : List Lk) (c : Int) : Nat := ((l.filter fun x => decide (x.1 = c)).map fun x => unitsN (lkP x)).sum
/-- Behind another one. -/
def Rise (a b : Lk) : Prop := a.1 < b.1 ∨ (a.1 = b.1 ∧ a.2.1 < b.2.1)
instance (a b : Lk) : Decidable (Rise a b) := inferInstanceAs (Decidable (_ ∨ _))
/-- A link by itself. -/
def Own (n : Nat) (x : Lk) : Prop := (0 ≤ x.1 ∧ x.1 < n) ∧ (0 ≤ x.2.1 ∧ x.2.1 < n) ∧ x.1 ≠ x.2.1 ∧ unitsN (lkP x) ≠ 0
instance (n : Nat) (x : Lk) : Decidable (Own n x) := inferInstanceAs (Decidable (_ ∧ _))
def LinkAt (n : Nat) (l : List Lk) (i : Nat) (h : i < l.length) : Prop := Own n l[i] ∧ (0 < i → Rise (l[i - 1]'(by omega)) l[i]) ∧ sumU (l.take (i + 1)) l[i].1 ≤ 6000
instance (n : Nat) (l : List Lk) (i : Nat) (h : i < l.length) : Decidable (LinkAt n l i h) := inferInstanceAs (Decidable (_ ∧ _))
def goodB (n : Nat) (l : List Lk) : Bool := decide (∀ i (h : i < l.length), LinkAt n l i h)
theorem good_bad {n : Nat} {l : List Lk} {i : Nat} (h : i < l.length) (hb : ¬ LinkAt n l i h) : goodB n l = false := decide_eq_false fun hc => hb (hc i h)
theorem good_all {n : Nat} {l : List Lk} (h : ∀ i (h : i < l.length), LinkAt n l i h) : goodB n l = true := decide_eq_true h
theorem good_at {n : Nat} {l : List Lk} (h : goodB n l = true) {i : Nat} (hi : i < l.length) : LinkAt n l i hi := of_decide_eq_true h i hi
/-- A structure by what it holds. -/
structure SR where
  ps : List ByteArray
  cap : List Lk
  vot : List Lk
/-- Not behind another name. -/
def leqB (a b : ByteArray) : Bool := Op.bytesLess a.toList b.toList || a.toList == b.toList
def NameAt (l : List ByteArray) (i : Nat) (h : i < l.length) : Prop := identB l[i] = true ∧ (0 < i → leqB l[i] (l[i - 1]'(by omega)) = false)
instance (l : List ByteArray) (i : Nat) (h : i < l.length) : Decidable (NameAt l i h) := inferInstanceAs (Decidable (_ ∧ _))
def namesB (l : List ByteArray) : Bool := decide (∀ i (h : i < l.length), NameAt l i h)
theorem names_bad {l : List ByteArray} {i : Nat} (h : i < l.length) (hb : ¬ NameAt l i h) : namesB l = false := decide_eq_false fun hc => hb (hc i h)
theorem names_all {l : List ByteArray} (h : ∀ i (h : i < l.length), NameAt l i h) : namesB l = true := decide_eq_true h
def soundB (s : SR) : Bool := namesB s.ps && (decide (s.ps.length ≤ 60) && (goodB s.ps.length s.cap && goodB s.ps.length s.vot))
/-- The links of capital, from holder to company. -/
def edges (s : SR) : List (Nat × Nat) := s.cap.map fun x => (x.2.1.toNat, x.1.toNat)
theorem edges_in {s : SR} (h : soundB s = true) : InN s.ps.length (edges s) := fun x hx => by
  unfold soundB at h
  simp only [Bool.and_eq_true] at h
  obtain ⟨_, _, h2, _⟩ := h
  obtain ⟨y, hy, rfl⟩ := List.mem_map.1 hx
  obtain ⟨i, hi, rfl⟩ := List.getElem_of_mem hy
  obtain ⟨⟨a, b, _⟩, _⟩ := good_at h2 hi
  show _ < _ ∧ _ < _
  simp only []
  omega
end Ci
end Go.Proofs.YtpmlhgmmobpilaaGreatDoor
namespace Go.Proofs.YtpmlhgmmobpilaaGreatDoor
open Go.RowKit Go.Shelf
namespace Ci
open Nt
set_option maxRecDepth 100000 in
set_option maxHeartbeats 4000000 in
theorem isName_w (s : ByteArray) (w : World) (hs : s.size ≤ 9223372036854775807) :
    Calls Tryz.prog 155 #[.string s] w fun e w' => e = .returned (.bool (identB s)) ∧ w' = w := by
  have HB := Lib.hid (fun (k : Nat) (h : k < s.size) (hb : ¬ OkAt k s[k].toNat) => ident_bad (s := s) h hb)
  have HA := Lib.hid (ident_all (s := s))
  go_enter Tryz.func155, Tryz.ntmps155
  go_wp2
  go_loop [8] (fun i => ∃ k : Nat, k ≤ s.size ∧ i = .int .i64 k ∧ Hid (∀ i (h : i < s.size), i < k → OkAt i s[i].toNat)) (fun i => s.size - (intOf i).toNat)
  case atStart => exact ⟨0, Nat.zero_le _, rfl, fun i _ h => absurd h (Nat.not_lt_zero _)⟩
  case round =>
    obtain ⟨k, hk, rfl, hI⟩ := hrel
    by_cases hlt : k < s.size
    · have hc : s[k].toNat ≤ 255 := by have := s[k].toNat_lt; omega
      have i0 : (0 : Int) ≤ (k : Int) := by omega
      have i1 : (k : Int) < (s.size : Int) := by omega
      have HN : Hid (OkAt k s[k].toNat → ∀ i (h : i < s.size), i < k + 1 → OkAt i s[i].toNat) := fun h i hi h2 => by
        by_cases e : i = k
        · subst e; exact h
        · exact hI.out i hi (by omega)
      have HB2 := Lib.hid (HB.out k hlt)
      clear hI
      by_cases e0 : k = 0
      · have b0 : ((k : Int) == 0) = true := by rw [beq_iff_eq]; omega
        have b0n : ((k : Int) != 0) = false := by rw [bne_eq_false_iff_eq]; omega
        have b3 : (k == 0) = true := by rw [beq_iff_eq]; omega
        replace e0 := Lib.hid e0
        have hcl : (s[k].toNat ≤ 47 ∧ 0 ≤ s[k].toNat) ∨ (48 ≤ s[k].toNat ∧ s[k].toNat ≤ 57) ∨ (58 ≤ s[k].toNat ∧ s[k].toNat ≤ 64) ∨ (65 ≤ s[k].toNat ∧ s[k].toNat ≤ 90) ∨ (91 ≤ s[k].toNat ∧ s[k].toNat ≤ 94) ∨ (95 ≤ s[k].toNat ∧ s[k].toNat ≤ 95) ∨ (96 ≤ s[k].toNat ∧ s[k].toNat ≤ 96) ∨ (97 ≤ s[k].toNat ∧ s[k].toNat ≤ 122) ∨ (123 ≤ s[k].toNat ∧ s[k].toNat ≤ 255) := by omega
        rcases hcl with ⟨g1, g2⟩ | ⟨g1, g2⟩ | ⟨g1, g2⟩ | ⟨g1, g2⟩ | ⟨g1, g2⟩ | ⟨g1, g2⟩ | ⟨g1, g2⟩ | ⟨g1, g2⟩ | ⟨g1, g2⟩
        · have b1 : ((s[k].toNat : Int) != 95) = true := by rw [bne_iff_ne]; omega
          have b2 : ((s[k].toNat : Int) == 95) = false := by rw [beq_eq_false_iff_ne]; omega
          have HR : Hid (identB s = false) := HB2.out (by have := e0.out; unfold OkAt; omega)
          clear HN HB2
          go_wp2
          go_ret
          exact ⟨ret_bool HR.out.symm, rfl⟩
        · have b1 : ((s[k].toNat : Int) != 95) = true := by rw [bne_iff_ne]; omega
          have b2 : ((s[k].toNat : Int) == 95) = false := by rw [beq_eq_false_iff_ne]; omega
          have HR : Hid (identB s = false) := HB2.out (by have := e0.out; unfold OkAt; omega)
          clear HN HB2
          go_wp2
          go_ret
          exact ⟨ret_bool HR.out.symm, rfl⟩
        · have b1 : ((s[k].toNat : Int) != 95) = true := by rw [bne_iff_ne]; omega
          have b2 : ((s[k].toNat : Int) == 95) = false := by rw [beq_eq_false_iff_ne]; omega
          have HR : Hid (identB s = false) := HB2.out (by have := e0.out; unfold OkAt; omega)
          clear HN HB2
          go_wp2
          go_ret
          exact ⟨ret_bool HR.out.symm, rfl⟩
        · have b1 : ((s[k].toNat : Int) != 95) = true := by rw [bne_iff_ne]; omega
          have b2 : ((s[k].toNat : Int) == 95) = false := by rw [beq_eq_false_iff_ne]; omega
          have HR := Lib.hid (HN.out (by have := e0.out; unfold OkAt; omega))
          clear HN HB2
          go_wp2
          go_round
          case rel => exact ⟨k + 1, by omega, by go_num, HR⟩
          case measure => simp [intOf]; omega
        · have b1 : ((s[k].toNat : Int) != 95) = true := by rw [bne_iff_ne]; omega
          have b2 : ((s[k].toNat : Int) == 95) = false := by rw [beq_eq_false_iff_ne]; omega
          have c1 : decide ((s[k].toNat : Int) ≤ 90) = false := by rw [decide_eq_false_iff_not]; omega
          have d1 : decide (s[k].toNat ≤ 90) = false := by rw [decide_eq_false_iff_not]; omega
          have n1 : ¬ ((s[k].toNat : Int) ≤ 90) := by omega
          have HR : Hid (identB s = false) := HB2.out (by have := e0.out; unfold OkAt; omega)
          clear HN HB2
          go_wp2
          go_ret
          exact ⟨ret_bool HR.out.symm, rfl⟩
        · have b1 : ((s[k].toNat : Int) != 95) = false := by rw [bne_eq_false_iff_eq]; omega
          have b2 : ((s[k].toNat : Int) == 95) = true := by rw [beq_iff_eq]; omega
          have c1 : decide ((s[k].toNat : Int) ≤ 90) = false := by rw [decide_eq_false_iff_not]; omega
          have d1 : decide (s[k].toNat ≤ 90) = false := by rw [decide_eq_false_iff_not]; omega
          have n1 : ¬ ((s[k].toNat : Int) ≤ 90) := by omega
          have HR : Hid (identB s = false) := HB2.out (by have := e0.out; unfold OkAt; omega)
          clear HN HB2
          go_wp2
          go_ret
          exact ⟨ret_bool HR.out.symm, rfl⟩
        · have b1 : ((s[k].toNat : Int) != 95) = true := by rw [bne_iff_ne]; omega
          have b2 : ((s[k].toNat : Int) == 95) = false := by rw [beq_eq_false_iff_ne]; omega
          have c1 : decide ((s[k].toNat : Int) ≤ 90) = false := by rw [decide_eq_false_iff_not]; omega
          have d1 : decide (s[k].toNat ≤ 90) = false := by rw [decide_eq_false_iff_not]; omega
          have n1 : ¬ ((s[k].toNat : Int) ≤ 90) := by omega
          have HR : Hid (identB s = false) := HB2.out (by have := e0.out; unfold OkAt; omega)
          clear HN HB2
          go_wp2
          go_ret
          exact ⟨ret_bool HR.out.symm, rfl⟩
        · have b1 : ((s[k].toNat : Int) != 95) = true := by rw [bne_iff_ne]; omega
          have b2 : ((s[k].toNat : Int) == 95) = false := by rw [beq_eq_false_iff_ne]; omega
          have c1 : decide ((s[k].toNat : Int) ≤ 90) = false := by rw [decide_eq_false_iff_not]; omega
          have d1 : decide (s[k].toNat ≤ 90) = false := by rw [decide_eq_false_iff_not]; omega
          have n1 : ¬ ((s[k].toNat : Int) ≤ 90) := by omega
          have HR := Lib.hid (HN.out (by have := e0.out; unfold OkAt; omega))
          clear HN HB2
          go_wp2
          go_round
          case rel => exact ⟨k + 1, by omega, by go_num, HR⟩
          case measure => simp [intOf]; omega
        · have b1 : ((s[k].toNat : Int) != 95) = true := by rw [bne_iff_ne]; omega
          have b2 : ((s[k].toNat : Int) == 95) = false := by rw [beq_eq_false_iff_ne]; omega
          have c0 : decide ((s[k].toNat : Int) ≤ 122) = false := by rw [decide_eq_false_iff_not]; omega
          have d0 : decide (s[k].toNat ≤ 122) = false := by rw [decide_eq_false_iff_not]; omega
          have n0 : ¬ ((s[k].toNat : Int) ≤ 122) := by omega
          have c1 : decide ((s[k].toNat : Int) ≤ 90) = false := by rw [decide_eq_false_iff_not]; omega
          have d1 : decide (s[k].toNat ≤ 90) = false := by rw [decide_eq_false_iff_not]; omega
          have n1 : ¬ ((s[k].toNat : Int) ≤ 90) := by omega
          have HR : Hid (identB s = false) := HB2.out (by have := e0.out; unfold OkAt; omega)
          clear HN HB2
          go_wp2
          go_ret
          exact ⟨ret_bool HR.out.symm, rfl⟩
      · have b0 : ((k : Int) == 0) = false := by rw [beq_eq_false_iff_ne]; omega
        have b0n : ((k : Int) != 0) = true := by rw [bne_iff_ne]; omega
        have b3 : (k == 0) = false := by rw [beq_eq_false_iff_ne]; omega
        have hcl : (s[k].toNat ≤ 47 ∧ 0 ≤ s[k].toNat) ∨ (48 ≤ s[k].toNat ∧ s[k].toNat ≤ 57) ∨ (58 ≤ s[k].toNat ∧ s[k].toNat ≤ 64) ∨ (65 ≤ s[k].toNat ∧ s[k].toNat ≤ 90) ∨ (91 ≤ s[k].toNat ∧ s[k].toNat ≤ 94) ∨ (95 ≤ s[k].toNat ∧ s[k].toNat ≤ 95) ∨ (96 ≤ s[k].toNat ∧ s[k].toNat ≤ 96) ∨ (97 ≤ s[k].toNat ∧ s[k].toNat ≤ 122) ∨ (123 ≤ s[k].toNat ∧ s[k].toNat ≤ 255) := by omega
        rcases hcl with ⟨g1, g2⟩ | ⟨g1, g2⟩ | ⟨g1, g2⟩ | ⟨g1, g2⟩ | ⟨g1, g2⟩ | ⟨g1, g2⟩ | ⟨g1, g2⟩ | ⟨g1, g2⟩ | ⟨g1, g2⟩
        · have b1 : ((s[k].toNat : Int) != 95) = true := by rw [bne_iff_ne]; omega
          have b2 : ((s[k].toNat : Int) == 95) = false := by rw [beq_eq_false_iff_ne]; omega
          have HR : Hid (identB s = false) := HB2.out (by unfold OkAt; omega)
          clear HN HB2
          go_wp2
          go_ret
          exact ⟨ret_bool HR.out.symm, rfl⟩
        · have b1 : ((s[k].toNat : Int) != 95) = true := by rw [bne_iff_ne]; omega
          have b2 : ((s[k].toNat : Int) == 95) = false := by rw [beq_eq_false_iff_ne]; omega
          have HR := Lib.hid (HN.out (by unfold OkAt; omega))
          clear HN HB2
          go_wp2
          go_round
          case rel => exact ⟨k + 1, by omega, by go_num, HR⟩
          case measure => simp [intOf]; omega
        · have b1 : ((s[k].toNat : Int) != 95) = true := by rw [bne_iff_ne]; omega
          have b2 : ((s[k].toNat : Int) == 95) = false := by rw [beq_eq_false_iff_ne]; omega
          have HR : Hid (identB s = false) := HB2.out (by unfold OkAt; omega)
          clear HN HB2
          go_wp2
          go_ret
          exact ⟨ret_bool HR.out.symm, rfl⟩
        · have b1 : ((s[k].toNat : Int) != 95) = true := by rw [bne_iff_ne]; omega
          have b2 : ((s[k].toNat : Int) == 95) = false := by rw [beq_eq_false_iff_ne]; omega
          have HR := Lib.hid (HN.out (by unfold OkAt; omega))
          clear HN HB2
          go_wp2
          go_round
          case rel => exact ⟨k + 1, by omega, by go_num, HR⟩
          case measure => simp [intOf]; omega
        · have b1 : ((s[k].toNat : Int) != 95) = true := by rw [bne_iff_ne]; omega
          have b2 : ((s[k].toNat : Int) == 95) = false := by rw [beq_eq_false_iff_ne]; omega
          have c1 : decide ((s[k].toNat : Int) ≤ 90) = false := by rw [decide_eq_false_iff_not]; omega
          have d1 : decide (s[k].toNat ≤ 90) = false := by rw [decide_eq_false_iff_not]; omega
          have n1 : ¬ ((s[k].toNat : Int) ≤ 90) := by omega
          have HR : Hid (identB s = false) := HB2.out (by unfold OkAt; omega)
          clear HN HB2
          go_wp2
          go_ret
          exact ⟨ret_bool HR.out.symm, rfl⟩
        · have b1 : ((s[k].toNat : Int) != 95) = false := by rw [bne_eq_false_iff_eq]; omega
          have b2 : ((s[k].toNat : Int) == 95) = true := by rw [beq_iff_eq]; omega
          have c1 : decide ((s[k].toNat : Int) ≤ 90) = false := by rw [decide_eq_false_iff_not]; omega
          have d1 : decide (s[k].toNat ≤ 90) = false := by rw [decide_eq_false_iff_not]; omega
          have n1 : ¬ ((s[k].toNat : Int) ≤ 90) := by omega
          have HR := Lib.hid (HN.out (by unfold OkAt; omega))
          clear HN HB2
          go_wp2
          go_round
          case rel => exact ⟨k + 1, by omega, by go_num, HR⟩
          case measure => simp [intOf]; omega
        · have b1 : ((s[k].toNat : Int) != 95) = true := by rw [bne_iff_ne]; omega
          have b2 : ((s[k].toNat : Int) == 95) = false := by rw [beq_eq_false_iff_ne]; omega
          have c1 : decide ((s[k].toNat : Int) ≤ 90) = false := by rw [decide_eq_false_iff_not]; omega
          have d1 : decide (s[k].toNat ≤ 90) = false := by rw [decide_eq_false_iff_not]; omega
          have n1 : ¬ ((s[k].toNat : Int) ≤ 90) := by omega
          have HR : Hid (identB s = false) := HB2.out (by unfold OkAt; omega)
          clear HN HB2
          go_wp2
          go_ret
          exact ⟨ret_bool HR.out.symm, rfl⟩
        · have b1 : ((s[k].toNat : Int) != 95) = true := by rw [bne_iff_ne]; omega
          have b2 : ((s[k].toNat : Int) == 95) = false := by rw [beq_eq_false_iff_ne]; omega
          have c1 : decide ((s[k].toNat : Int) ≤ 90) = false := by rw [decide_eq_false_iff_not]; omega
          have d1 : decide (s[k].toNat ≤ 90) = false := by rw [decide_eq_false_iff_not]; omega
          have n1 : ¬ ((s[k].toNat : Int) ≤ 90) := by omega
          have HR := Lib.hid (HN.out (by unfold OkAt; omega))
          clear HN HB2
          go_wp2
          go_round
          case rel => exact ⟨k + 1, by omega, by go_num, HR⟩
          case measure => simp [intOf]; omega
        · have b1 : ((s[k].toNat : Int) != 95) = true := by rw [bne_iff_ne]; omega
          have b2 : ((s[k].toNat : Int) == 95) = false := by rw [beq_eq_false_iff_ne]; omega
          have c0 : decide ((s[k].toNat : Int) ≤ 122) = false := by rw [decide_eq_false_iff_not]; omega
          have d0 : decide (s[k].toNat ≤ 122) = false := by rw [decide_eq_false_iff_not]; omega
          have n0 : ¬ ((s[k].toNat : Int) ≤ 122) := by omega
          have c1 : decide ((s[k].toNat : Int) ≤ 90) = false := by rw [decide_eq_false_iff_not]; omega
          have d1 : decide (s[k].toNat ≤ 90) = false := by rw [decide_eq_false_iff_not]; omega
          have n1 : ¬ ((s[k].toNat : Int) ≤ 90) := by omega
          have HR : Hid (identB s = false) := HB2.out (by unfold OkAt; omega)
          clear HN HB2
          go_wp2
          go_ret
          exact ⟨ret_bool HR.out.symm, rfl⟩
    · obtain rfl : k = s.size := by omega
      have HE : Hid (identB s = (decide (0 < s.size) && decide (s.size ≤ 24))) := HA.out fun i h => hI.out i h h
      have q0 : s.toList.isEmpty = decide (s.size = 0) := by
        rw [Lib.toList_data, Lib.size_eq]
        cases s.data.toList <;> simp
      clear hI
      by_cases h0 : s.size = 0
      · have q1 : s.toList = [] := by simpa [h0] using q0
        have q2 : (!s.toList.isEmpty) = false := by rw [q0, decide_eq_true h0]; rfl
        clear q0
        go_wp2
        go_ret
        exact ⟨ret_bool (by rw [HE.out, decide_eq_false (by omega)]; rfl), rfl⟩
      · have q2 : (!s.toList.isEmpty) = true := by rw [q0, decide_eq_false h0]; rfl
        have q1 : ¬ s.toList = [] := fun e => by rw [e] at q0; rw [decide_eq_false h0] at q0; cases q0
        clear q0
        by_cases h24 : s.size ≤ 24
        · go_wp2
          go_ret
          exact ⟨ret_bool (by rw [HE.out, decide_eq_true (by omega : 0 < s.size), decide_eq_true h24, decide_eq_true (by omega : (s.size : Int) ≤ 24)]; rfl), rfl⟩
        · go_wp2
          go_ret
          exact ⟨ret_bool (by rw [HE.out, decide_eq_true (by omega : 0 < s.size), decide_eq_false h24, decide_eq_false (by omega : ¬ (s.size : Int) ≤ 24)]; rfl), rfl⟩
set_option maxRecDepth 100000 in
set_option maxHeartbeats 4000000 in
theorem Ident_w (s : ByteArray) (w : World) (hs : s.size ≤ 9223372036854775807) :
    Calls Tryz.prog 85 #[.string s] w fun e w' => e = .returned (.bool (identB s)) ∧ w' = w := by
  have HB := Lib.hid (fun (k : Nat) (h : k < s.size) (hb : ¬ OkAt k s[k].toNat) => ident_bad (s := s) h hb)
  have HA := Lib.hid (ident_all (s := s))
  by_cases hsz : s.size < 1 ∨ 24 < s.size
  · have HR : Hid (identB s = false) := by
      unfold Hid identB
      rcases hsz with h | h
      · rw [decide_eq_false (by omega : ¬ 0 < s.size)]; simp
      · rw [decide_eq_false (by omega : ¬ s.size ≤ 24)]; simp
    rcases hsz with h | h
    · go_enter Tryz.func85, Tryz.ntmps85
      go_wp2
      go_ret
      exact ⟨ret_bool HR.out.symm, rfl⟩
    · have h1 : ¬ s.size < 1 := by omega
      have h2 : decide ((s.size : Int) < 1) = false := by rw [decide_eq_false_iff_not]; omega
      go_enter Tryz.func85, Tryz.ntmps85
      go_wp2
      go_ret
      exact ⟨ret_bool HR.out.symm, rfl⟩
  have h1 : 1 ≤ s.size := by omega
  have h2 : s.size ≤ 24 := by omega
  have h3 : decide ((s.size : Int) < 1) = false := by rw [decide_eq_false_iff_not]; omega
  have h4 : decide (24 < (s.size : Int)) = false := by rw [decide_eq_false_iff_not]; omega
  clear hsz
  go_enter Tryz.func85, Tryz.ntmps85
  go_wp2
  go_loop [3] (fun i => ∃ k : Nat, k ≤ s.size ∧ i = .int .i64 k ∧ Hid (∀ i (h : i < s.size), i < k → OkAt i s[i].toNat)) (fun i => s.size - (intOf i).toNat)
  case atStart => exact ⟨0, Nat.zero_le _, rfl, fun i _ h => absurd h (Nat.not_lt_zero _)⟩
  case round =>
    obtain ⟨k, hk, rfl, hI⟩ := hrel
    by_cases hlt : k < s.size
    · have hc : s[k].toNat ≤ 255 := by have := s[k].toNat_lt; omega
      have i0 : (0 : Int) ≤ (k : Int) := by omega
      have i1 : (k : Int) < (s.size : Int) := by omega
      have HN : Hid (OkAt k s[k].toNat → ∀ i (h : i < s.size), i < k + 1 → OkAt i s[i].toNat) := fun h i hi h2 => by
        by_cases e : i = k
        · subst e; exact h
        · exact hI.out i hi (by omega)
      have HB2 := Lib.hid (HB.out k hlt)
      clear hI
      by_cases e0 : k = 0
      · have b0 : ((k : Int) == 0) = true := by rw [beq_iff_eq]; omega
        have b0n : ((k : Int) != 0) = false := by rw [bne_eq_false_iff_eq]; omega
        have b3 : (k == 0) = true := by rw [beq_iff_eq]; omega
        replace e0 := Lib.hid e0
        have hcl : (s[k].toNat ≤ 47 ∧ 0 ≤ s[k].toNat) ∨ (48 ≤ s[k].toNat ∧ s[k].toNat ≤ 57) ∨ (58 ≤ s[k].toNat ∧ s[k].toNat ≤ 64) ∨ (65 ≤ s[k].toNat ∧ s[k].toNat ≤ 90) ∨ (91 ≤ s[k].toNat ∧ s[k].toNat ≤ 94) ∨ (95 ≤ s[k].toNat ∧ s[k].toNat ≤ 95) ∨ (96 ≤ s[k].toNat ∧ s[k].toNat ≤ 96) ∨ (97 ≤ s[k].toNat ∧ s[k].toNat ≤ 122) ∨ (123 ≤ s[k].toNat ∧ s[k].toNat ≤ 255) := by omega
        rcases hcl with ⟨g1, g2⟩ | ⟨g1, g2⟩ | ⟨g1, g2⟩ | ⟨g1, g2⟩ | ⟨g1, g2⟩ | ⟨g1, g2⟩ | ⟨g1, g2⟩ | ⟨g1, g2⟩ | ⟨g1, g2⟩
        · have b1 : ((s[k].toNat : Int) != 95) = true := by rw [bne_iff_ne]; omega
          have b2 : ((s[k].toNat : Int) == 95) = false := by rw [beq_eq_false_iff_ne]; omega
          have HR : Hid (identB s = false) := HB2.out (by have := e0.out; unfold OkAt; omega)
          clear HN HB2
          go_wp2
          go_ret
          exact ⟨ret_bool HR.out.symm, rfl⟩
        · have b1 : ((s[k].toNat : Int) != 95) = true := by rw [bne_iff_ne]; omega
          have b2 : ((s[k].toNat : Int) == 95) = false := by rw [beq_eq_false_iff_ne]; omega
          have HR : Hid (identB s = false) := HB2.out (by have := e0.out; unfold OkAt; omega)
          clear HN HB2
          go_wp2
          go_ret
          exact ⟨ret_bool HR.out.symm, rfl⟩
        · have b1 : ((s[k].toNat : Int) != 95) = true := by rw [bne_iff_ne]; omega
          have b2 : ((s[k].toNat : Int) == 95) = false := by rw [beq_eq_false_iff_ne]; omega
          have HR : Hid (identB s = false) := HB2.out (by have := e0.out; unfold OkAt; omega)
          clear HN HB2
          go_wp2
          go_ret
          exact ⟨ret_bool HR.out.symm, rfl⟩
        · have b1 : ((s[k].toNat : Int) != 95) = true := by rw [bne_iff_ne]; omega
          have b2 : ((s[k].toNat : Int) == 95) = false := by rw [beq_eq_false_iff_ne]; omega
          have HR := Lib.hid (HN.out (by have := e0.out; unfold OkAt; omega))
          clear HN HB2
          go_wp2
          go_round
          case rel => exact ⟨k + 1, by omega, by go_num, HR⟩
          case measure => simp [intOf]; omega
        · have b1 : ((s[k].toNat : Int) != 95) = true := by rw [bne_iff_ne]; omega
          have b2 : ((s[k].toNat : Int) == 95) = false := by rw [beq_eq_false_iff_ne]; omega
          have c1 : decide ((s[k].toNat : Int) ≤ 90) = false := by rw [decide_eq_false_iff_not]; omega
          have d1 : decide (s[k].toNat ≤ 90) = false := by rw [decide_eq_false_iff_not]; omega
          have n1 : ¬ ((s[k].toNat : Int) ≤ 90) := by omega
          have HR : Hid (identB s = false) := HB2.out (by have := e0.out; unfold OkAt; omega)
          clear HN HB2
          go_wp2
          go_ret
          exact ⟨ret_bool HR.out.symm, rfl⟩
        · have b1 : ((s[k].toNat : Int) != 95) = false := by rw [bne_eq_false_iff_eq]; omega
          have b2 : ((s[k].toNat : Int) == 95) = true := by rw [beq_iff_eq]; omega
          have c1 : decide ((s[k].toNat : Int) ≤ 90) = false := by rw [decide_eq_false_iff_not]; omega
          have d1 : decide (s[k].toNat ≤ 90) = false := by rw [decide_eq_false_iff_not]; omega
          have n1 : ¬ ((s[k].toNat : Int) ≤ 90) := by omega
          have HR : Hid (identB s = false) := HB2.out (by have := e0.out; unfold OkAt; omega)
          clear HN HB2
          go_wp2
          go_ret
          exact ⟨ret_bool HR.out.symm, rfl⟩
        · have b1 : ((s[k].toNat : Int) != 95) = true := by rw [bne_iff_ne]; omega
          have b2 : ((s[k].toNat : Int) == 95) = false := by rw [beq_eq_false_iff_ne]; omega
          have c1 : decide ((s[k].toNat : Int) ≤ 90) = false := by rw [decide_eq_false_iff_not]; omega
          have d1 : decide (s[k].toNat ≤ 90) = false := by rw [decide_eq_false_iff_not]; omega
          have n1 : ¬ ((s[k].toNat : Int) ≤ 90) := by omega
          have HR : Hid (identB s = false) := HB2.out (by have := e0.out; unfold OkAt; omega)
          clear HN HB2
          go_wp2
          go_ret
          exact ⟨ret_bool HR.out.symm, rfl⟩
        · have b1 : ((s[k].toNat : Int) != 95) = true := by rw [bne_iff_ne]; omega
          have b2 : ((s[k].toNat : Int) == 95) = false := by rw [beq_eq_false_iff_ne]; omega
          have c1 : decide ((s[k].toNat : Int) ≤ 90) = false := by rw [decide_eq_false_iff_not]; omega
          have d1 : decide (s[k].toNat ≤ 90) = false := by rw [decide_eq_false_iff_not]; omega
          have n1 : ¬ ((s[k].toNat : Int) ≤ 90) := by omega
          have HR := Lib.hid (HN.out (by have := e0.out; unfold OkAt; omega))
          clear HN HB2
          go_wp2
          go_round
          case rel => exact ⟨k + 1, by omega, by go_num, HR⟩
          case measure => simp [intOf]; omega
        · have b1 : ((s[k].toNat : Int) != 95) = true := by rw [bne_iff_ne]; omega
          have b2 : ((s[k].toNat : Int) == 95) = false := by rw [beq_eq_false_iff_ne]; omega
          have c0 : decide ((s[k].toNat : Int) ≤ 122) = false := by rw [decide_eq_false_iff_not]; omega
          have d0 : decide (s[k].toNat ≤ 122) = false := by rw [decide_eq_false_iff_not]; omega
          have n0 : ¬ ((s[k].toNat : Int) ≤ 122) := by omega
          have c1 : decide ((s[k].toNat : Int) ≤ 90) = false := by rw [decide_eq_false_iff_not]; omega
          have d1 : decide (s[k].toNat ≤ 90) = false := by rw [decide_eq_false_iff_not]; omega
          have n1 : ¬ ((s[k].toNat : Int) ≤ 90) := by omega
          have HR : Hid (identB s = false) := HB2.out (by have := e0.out; unfold OkAt; omega)
          clear HN HB2
          go_wp2
          go_ret
          exact ⟨ret_bool HR.out.symm, rfl⟩
      · have b0 : ((k : Int) == 0) = false := by rw [beq_eq_false_iff_ne]; omega
        have b0n : ((k : Int) != 0) = true := by rw [bne_iff_ne]; omega
        have b3 : (k == 0) = false := by rw [beq_eq_false_iff_ne]; omega
        have hcl : (s[k].toNat ≤ 47 ∧ 0 ≤ s[k].toNat) ∨ (48 ≤ s[k].toNat ∧ s[k].toNat ≤ 57) ∨ (58 ≤ s[k].toNat ∧ s[k].toNat ≤ 64) ∨ (65 ≤ s[k].toNat ∧ s[k].toNat ≤ 90) ∨ (91 ≤ s[k].toNat ∧ s[k].toNat ≤ 94) ∨ (95 ≤ s[k].toNat ∧ s[k].toNat ≤ 95) ∨ (96 ≤ s[k].toNat ∧ s[k].toNat ≤ 96) ∨ (97 ≤ s[k].toNat ∧ s[k].toNat ≤ 122) ∨ (123 ≤ s[k].toNat ∧ s[k].toNat ≤ 255) := by omega
        rcases hcl with ⟨g1, g2⟩ | ⟨g1, g2⟩ | ⟨g1, g2⟩ | ⟨g1, g2⟩ | ⟨g1, g2⟩ | ⟨g1, g2⟩ | ⟨g1, g2⟩ | ⟨g1, g2⟩ | ⟨g1, g2⟩
        · have b1 : ((s[k].toNat : Int) != 95) = true := by rw [bne_iff_ne]; omega
          have b2 : ((s[k].toNat : Int) == 95) = false := by rw [beq_eq_false_iff_ne]; omega
          have HR : Hid (identB s = false) := HB2.out (by unfold OkAt; omega)
          clear HN HB2
          go_wp2
          go_ret
          exact ⟨ret_bool HR.out.symm, rfl⟩
        · have b1 : ((s[k].toNat : Int) != 95) = true := by rw [bne_iff_ne]; omega
          have b2 : ((s[k].toNat : Int) == 95) = false := by rw [beq_eq_false_iff_ne]; omega
          have HR := Lib.hid (HN.out (by unfold OkAt; omega))
          clear HN HB2
          go_wp2
          go_round
          case rel => exact ⟨k + 1, by omega, by go_num, HR⟩
          case measure => simp [intOf]; omega
        · have b1 : ((s[k].toNat : Int) != 95) = true := by rw [bne_iff_ne]; omega
          have b2 : ((s[k].toNat : Int) == 95) = false := by rw [beq_eq_false_iff_ne]; omega
          have HR : Hid (identB s = false) := HB2.out (by unfold OkAt; omega)
          clear HN HB2
          go_wp2
          go_ret
          exact ⟨ret_bool HR.out.symm, rfl⟩
        · have b1 : ((s[k].toNat : Int) != 95) = true := by rw [bne_iff_ne]; omega
          have b2 : ((s[k].toNat : Int) == 95) = false := by rw [beq_eq_false_iff_ne]; omega
          have HR := Lib.hid (HN.out (by unfold OkAt; omega))
          clear HN HB2
          go_wp2
          go_round
          case rel => exact ⟨k + 1, by omega, by go_num, HR⟩
          case measure => simp [intOf]; omega
        · have b1 : ((s[k].toNat : Int) != 95) = true := by rw [bne_iff_ne]; omega
          have b2 : ((s[k].toNat : Int) == 95) = false := by rw [beq_eq_false_iff_ne]; omega
          have c1 : decide ((s[k].toNat : Int) ≤ 90) = false := by rw [decide_eq_false_iff_not]; omega
          have d1 : decide (s[k].toNat ≤ 90) = false := by rw [decide_eq_false_iff_not]; omega
          have n1 : ¬ ((s[k].toNat : Int) ≤ 90) := by omega
          have HR : Hid (identB s = false) := HB2.out (by unfold OkAt; omega)
          clear HN HB2
          go_wp2
          go_ret
          exact ⟨ret_bool HR.out.symm, rfl⟩
        · have b1 : ((s[k].toNat : Int) != 95) = false := by rw [bne_eq_false_iff_eq]; omega
          have b2 : ((s[k].toNat : Int) == 95) = true := by rw [beq_iff_eq]; omega
          have c1 : decide ((s[k].toNat : Int) ≤ 90) = false := by rw [decide_eq_false_iff_not]; omega
          have d1 : decide (s[k].toNat ≤ 90) = false := by rw [decide_eq_false_iff_not]; omega
          have n1 : ¬ ((s[k].toNat : Int) ≤ 90) := by omega
          have HR := Lib.hid (HN.out (by unfold OkAt; omega))
          clear HN HB2
          go_wp2
          go_round
          case rel => exact ⟨k + 1, by omega, by go_num, HR⟩
          case measure => simp [intOf]; omega
        · have b1 : ((s[k].toNat : Int) != 95) = true := by rw [bne_iff_ne]; omega
          have b2 : ((s[k].toNat : Int) == 95) = false := by rw [beq_eq_false_iff_ne]; omega
          have c1 : decide ((s[k].toNat : Int) ≤ 90) = false := by rw [decide_eq_false_iff_not]; omega
          have d1 : decide (s[k].toNat ≤ 90) = false := by rw [decide_eq_false_iff_not]; omega
          have n1 : ¬ ((s[k].toNat : Int) ≤ 90) := by omega
          have HR : Hid (identB s = false) := HB2.out (by unfold OkAt; omega)
          clear HN HB2
          go_wp2
          go_ret
          exact ⟨ret_bool HR.out.symm, rfl⟩
        · have b1 : ((s[k].toNat : Int) != 95) = true := by rw [bne_iff_ne]; omega
          have b2 : ((s[k].toNat : Int) == 95) = false := by rw [beq_eq_false_iff_ne]; omega
          have c1 : decide ((s[k].toNat : Int) ≤ 90) = false := by rw [decide_eq_false_iff_not]; omega
          have d1 : decide (s[k].toNat ≤ 90) = false := by rw [decide_eq_false_iff_not]; omega
          have n1 : ¬ ((s[k].toNat : Int) ≤ 90) := by omega
          have HR := Lib.hid (HN.out (by unfold OkAt; omega))
          clear HN HB2
          go_wp2
          go_round
          case rel => exact ⟨k + 1, by omega, by go_num, HR⟩
          case measure => simp [intOf]; omega
        · have b1 : ((s[k].toNat : Int) != 95) = true := by rw [bne_iff_ne]; omega
          have b2 : ((s[k].toNat : Int) == 95) = false := by rw [beq_eq_false_iff_ne]; omega
          have c0 : decide ((s[k].toNat : Int) ≤ 122) = false := by rw [decide_eq_false_iff_not]; omega
          have d0 : decide (s[k].toNat ≤ 122) = false := by rw [decide_eq_false_iff_not]; omega
          have n0 : ¬ ((s[k].toNat : Int) ≤ 122) := by omega
          have c1 : decide ((s[k].toNat : Int) ≤ 90) = false := by rw [decide_eq_false_iff_not]; omega
          have d1 : decide (s[k].toNat ≤ 90) = false := by rw [decide_eq_false_iff_not]; omega
          have n1 : ¬ ((s[k].toNat : Int) ≤ 90) := by omega
          have HR : Hid (identB s = false) := HB2.out (by unfold OkAt; omega)
          clear HN HB2
          go_wp2
          go_ret
          exact ⟨ret_bool HR.out.symm, rfl⟩
    · obtain rfl : k = s.size := by omega
      have HE : Hid (identB s = true) := by
        have h := HA.out fun i h => hI.out i h h
        rwa [decide_eq_true (by omega : 0 < s.size), decide_eq_true h2] at h
      clear hI
      go_wp2
      go_ret
      exact ⟨ret_bool HE.out.symm, rfl⟩
theorem isName_any (s : ByteArray) (w : World) (hs : s.size ≤ 9223372036854775807) :
    Calls Tryz.prog 155 #[.string s] w fun e w' => e = .returned (.bool (identB s)) ∧ Below w.heap.size w w' :=
  (isName_w s w hs).mono fun e w' h => by
    obtain ⟨rfl, rfl⟩ := h
    exact ⟨rfl, Below.refl _ _⟩
end Ci
end Go.Proofs.YtpmlhgmmobpilaaGreatDoor
namespace Go.Proofs.YtpmlhgmmobpilaaGreatDoor
open Go.RowKit Go.Shelf
namespace Ci
open Nt
theorem mod6 (b : Nat) : (6000 : Int) % (b : Int) = ((6000 % b : Nat) : Int) := (Int.natCast_emod 6000 b).symm
theorem val4 {s : ByteArray} (h : isN s = true) (h4 : s.size ≤ 4) : val s < 10000 := by
  have h1 := dval_lt (dig_of_isN h)
  have h2 : s.data.toList.length ≤ 4 := by have := Lib.size_eq s; omega
  have h3 : 10 ^ s.data.toList.length ≤ 10 ^ 4 := Nat.pow_le_pow_right (by omega) h2
  show dval s.data.toList < 10000
  omega
theorem atoi4 (s : ByteArray) (h : isN s = true) (h4 : s.size ≤ 4) (W : World) : Calls Tryz.prog 92 #[.string s] W fun e w' => e = .returned (.tuple #[.int .i64 (val s : Int), .nilIface]) ∧ Below W.heap.size W w' := by
  have ha := atoi_num (val s)
  rw [num_val h] at ha
  have hv : val s < 10000 := val4 h h4
  rw [if_pos (by omega)] at ha
  refine (Tryz.strconv_Atoi_ok s (by omega) _ ha W).mono ?_
  rintro e w' ⟨rfl, rfl | ⟨t, rfl⟩⟩
  · exact ⟨rfl, Below.refl _ _⟩
  · exact ⟨rfl, Go.Joins.below_bytesWorld _ _ _ _ (Nat.le_refl _)⟩
theorem valid_parts {g : Bool} {n d : ByteArray} (h : validB g n d = true) : isN n = true ∧ isN d = true ∧ val d ≠ 0 := by
  unfold validB at h
  simp only [Bool.and_eq_true] at h
  obtain ⟨h1, h2, h3, _⟩ := h
  exact ⟨h1, h2, by simpa using h3⟩
theorem units_bad {g : Bool} {n d : ByteArray} (h : validB g n d = false ∨ g = true ∨ 4 < n.size ∨ 4 < d.size) : unitsN (g, n, d) = 0 := if_pos h
theorem units_more {g : Bool} {n d : ByteArray} (h1 : validB g n d = true) (h2 : g = false) (h3 : n.size ≤ 4) (h4 : d.size ≤ 4) : unitsN (g, n, d) = if val d < val n ∨ 6000 % val d ≠ 0 then 0 else val n * (6000 / val d) := by
  unfold unitsN
  rw [if_neg]
  rintro (h | h | h | h)
  · rw [h1] at h; cases h
  · rw [h2] at h; cases h
  · simp only [] at h; omega
  · simp only [] at h; omega
set_option maxRecDepth 100000 in
set_option maxHeartbeats 4000000 in
theorem units_any (g : Bool) (n d : ByteArray) (w : World) (hE : Env w) (hn : n.size ≤ 140737488355328) (hd : d.size ≤ 140737488355328) :
    Calls Tryz.prog 157 #[.agg #[.bool g, .string n, .string d]] w fun e w' => e = .returned (.int .i64 (unitsN (g, n, d) : Int)) ∧ Below w.heap.size w w' := by
  have hv : Hid (∀ W, Env W → Calls Tryz.prog 23 #[.agg #[.bool g, .string n, .string d]] W fun e w' => e = .returned (.bool (validB g n d)) ∧ Below W.heap.size W w') := fun W hW => Valid_any g n d W hW hn hd
  replace hE := Lib.hid hE
  have hB0 : Hid (Below w.heap.size w (w.alloc (.cells #[.bool g, .string n, .string d] 23))) := (Below.refl _ w).alloc (Nat.le_refl _) _
  have hF0 : Hid (B3 (w.alloc (.cells #[.bool g, .string n, .string d] 23)) w.heap.size g n d) := B3.new w g n d
  cases h1 : validB g n d with
  | false =>
    have HG := Lib.hid (units_bad (g := g) (n := n) (d := d) (.inl h1))
    rw [h1] at hv
    clear h1
    go_enter Tryz.func157, Tryz.ntmps157
    go_wp2_with fail
    refine (hv.out _ (hE.out.below hB0.out)).mono ?_
    rintro e w1 ⟨rfl, hb⟩
    have hB1 := Lib.hid (hB0.out.trans (hb.mono hB0.out.size))
    clear hb
    go_wp2
    go_ret
    exact ⟨by rw [HG.out]; rfl, hB1.out⟩
  | true =>
    rw [h1] at hv
    obtain ⟨q1, q2, q3⟩ := valid_parts h1
    by_cases hbad : g = true ∨ 4 < n.size ∨ 4 < d.size
    · have HG := Lib.hid (units_bad (g := g) (n := n) (d := d) (.inr hbad))
      clear h1 q1 q2 q3
      go_enter Tryz.func157, Tryz.ntmps157
      go_wp2_with fail
      refine (hv.out _ (hE.out.below hB0.out)).mono ?_
      rintro e w1 ⟨rfl, hb⟩
      have hB1 := Lib.hid (hB0.out.trans (hb.mono hB0.out.size))
      obtain ⟨f1, f2, f3, _, _, _⟩ := (hF0.out.below hb).facts
      have f4 := (hF0.out.below hb).lt
      clear hb
      have hcl : g = true ∨ (g = false ∧ 4 < n.size) ∨ (g = false ∧ n.size ≤ 4 ∧ 4 < d.size) := by
        cases g
        · rcases hbad with h | h | h
          · cases h
          · exact .inr (.inl ⟨rfl, h⟩)
          · by_cases c : 4 < n.size
            · exact .inr (.inl ⟨rfl, c⟩)
            · exact .inr (.inr ⟨rfl, by omega, h⟩)
        · exact .inl rfl
      clear hbad
      rcases hcl with rfl | ⟨rfl, z1⟩ | ⟨rfl, z1, z2⟩
      all_goals (
        go_wp2
        go_ret
        exact ⟨by rw [HG.out]; rfl, hB1.out⟩)
    · have z0 : g = false := by
        cases g
        · rfl
        · exact absurd (.inl rfl) hbad
      have z1 : n.size ≤ 4 := by omega
      have z2 : d.size ≤ 4 := by omega
      have HG := units_more h1 z0 z1 z2
      have ka : Hid (∀ W, Calls Tryz.prog 92 #[.string n] W fun e w' => e = .returned (.tuple #[.int .i64 (val n : Int), .nilIface]) ∧ Below W.heap.size W w') := fun W => atoi4 n q1 z1 W
      have kb : Hid (∀ W, Calls Tryz.prog 92 #[.string d] W fun e w' => e = .returned (.tuple #[.int .i64 (val d : Int), .nilIface]) ∧ Below W.heap.size W w') := fun W => atoi4 d q2 z2 W
      have v1 := val4 q1 z1
      have v2 := val4 q2 z2
      subst z0
      clear h1 hbad q1 q2
      generalize hA : val n = a at *
      generalize hB : val d = b at *
      clear hA hB
      have v3 : 1 ≤ b := by omega
      have hcl : (b < a) ∨ (a ≤ b ∧ 6000 % b ≠ 0) ∨ (a ≤ b ∧ 6000 % b = 0) := by omega
      rcases hcl with c1 | ⟨c1, c2⟩ | ⟨c1, c2⟩
      · rw [if_pos (.inl c1)] at HG
        replace HG := Lib.hid HG
        go_enter Tryz.func157, Tryz.ntmps157
        go_wp2_with fail
        refine (hv.out _ (hE.out.below hB0.out)).mono ?_
        rintro e w1 ⟨rfl, hb⟩
        have hB1 := Lib.hid (hB0.out.trans (hb.mono hB0.out.size))
        have hF1 := Lib.hid (hF0.out.below hb)
        obtain ⟨f1, f2, f3, _, _, _⟩ := hF1.out.facts
        have f4 := hF1.out.lt
        clear hb
        go_wp2_with fail
        refine (ka.out _).mono ?_
        rintro e w2 ⟨rfl, hb⟩
        have hB2 := Lib.hid (hB1.out.trans (hb.mono hB1.out.size))
        have hF2 := Lib.hid (hF1.out.below hb)
        clear hb f1 f2 f3 f4
        obtain ⟨f1, f2, f3, _, _, _⟩ := hF2.out.facts
        have f4 := hF2.out.lt
        go_wp2_with fail
        refine (kb.out _).mono ?_
        rintro e w3 ⟨rfl, hb⟩
        have hB3 := Lib.hid (hB2.out.trans (hb.mono hB2.out.size))
        clear hb f1 f2 f3 f4
        go_wp2
        go_ret
        exact ⟨by rw [HG.out]; rfl, hB3.out⟩
      · rw [if_pos (.inr c2)] at HG
        replace HG := Lib.hid HG
        have t1 : ((6000 : Int) % (b : Int) != 0) = true := by rw [bne_iff_ne, mod6]; omega
        go_enter Tryz.func157, Tryz.ntmps157
        go_wp2_with fail
        refine (hv.out _ (hE.out.below hB0.out)).mono ?_
        rintro e w1 ⟨rfl, hb⟩
        have hB1 := Lib.hid (hB0.out.trans (hb.mono hB0.out.size))
        have hF1 := Lib.hid (hF0.out.below hb)
        obtain ⟨f1, f2, f3, _, _, _⟩ := hF1.out.facts
        have f4 := hF1.out.lt
        clear hb
        go_wp2_with fail
        refine (ka.out _).mono ?_
        rintro e w2 ⟨rfl, hb⟩
        have hB2 := Lib.hid (hB1.out.trans (hb.mono hB1.out.size))
        have hF2 := Lib.hid (hF1.out.below hb)
        clear hb f1 f2 f3 f4
        obtain ⟨f1, f2, f3, _, _, _⟩ := hF2.out.facts
        have f4 := hF2.out.lt
        go_wp2_with fail
        refine (kb.out _).mono ?_
        rintro e w3 ⟨rfl, hb⟩
        have hB3 := Lib.hid (hB2.out.trans (hb.mono hB2.out.size))
        clear hb f1 f2 f3 f4
        go_wp2
        go_ret
        exact ⟨by rw [HG.out]; rfl, hB3.out⟩
      · rw [if_neg (by omega)] at HG
        replace HG := Lib.hid HG
        have t1 : ((6000 : Int) % (b : Int) != 0) = false := by rw [bne_eq_false_iff_eq, mod6]; omega
        have t2 : a * (6000 / b) ≤ 6000 := Nat.le_trans (Nat.mul_le_mul_right _ c1) (Nat.mul_div_le _ _)
        have t3 : (0 : Int) ≤ (a : Int) * ((6000 : Int) / (b : Int)) := by have := Int.natCast_nonneg (a * (6000 / b)); rw [Int.natCast_mul] at this; exact this
        have t4 : (a : Int) * ((6000 : Int) / (b : Int)) ≤ 6000 := by have h : ((a * (6000 / b) : Nat) : Int) ≤ 6000 := by omega
                                                                      rw [Int.natCast_mul] at h; exact h
        have HP : Hid (((a * (6000 / b) : Nat) : Int) = (a : Int) * ((6000 : Int) / (b : Int))) := by rw [Int.natCast_mul]; rfl
        clear t2
        go_enter Tryz.func157, Tryz.ntmps157
        go_wp2_with fail
        refine (hv.out _ (hE.out.below hB0.out)).mono ?_
        rintro e w1 ⟨rfl, hb⟩
        have hB1 := Lib.hid (hB0.out.trans (hb.mono hB0.out.size))
        have hF1 := Lib.hid (hF0.out.below hb)
        obtain ⟨f1, f2, f3, _, _, _⟩ := hF1.out.facts
        have f4 := hF1.out.lt
        clear hb
        go_wp2_with fail
        refine (ka.out _).mono ?_
        rintro e w2 ⟨rfl, hb⟩
        have hB2 := Lib.hid (hB1.out.trans (hb.mono hB1.out.size))
        have hF2 := Lib.hid (hF1.out.below hb)
        clear hb f1 f2 f3 f4
        obtain ⟨f1, f2, f3, _, _, _⟩ := hF2.out.facts
        have f4 := hF2.out.lt
        go_wp2_with fail
        refine (kb.out _).mono ?_
        rintro e w3 ⟨rfl, hb⟩
        have hB3 := Lib.hid (hB2.out.trans (hb.mono hB2.out.size))
        clear hb f1 f2 f3 f4
        go_wp2
        go_ret
        exact ⟨by rw [HG.out, HP.out]; rfl, hB3.out⟩
end Ci
end Go.Proofs.YtpmlhgmmobpilaaGreatDoor
namespace Go.Proofs.YtpmlhgmmobpilaaGreatDoor
open Go.RowKit Go.Shelf
namespace Ci
open Nt
def regsOf : Code → List Code
  | .loop c => regsOf c
  | .seq a b => regsOf a ++ regsOf b
  | .block _ c => regsOf c
  | .scope c => regsOf c
  | .cond _ a b => regsOf a ++ regsOf b
  | .region a b c => [.region a b c]
  | _ => []
noncomputable def greg (j : Nat) : Code := ((Tryz.f156.body.map regsOf).bind fun l => l[j]?).getD .skip
set_option maxRecDepth 1000000 in
set_option maxHeartbeats 16000000 in
theorem greg7 {c0 c1 c2 c3 c4 c6 c7 c9 c11 c12 c13 c14 c15 c16 c17 c18 c19 c20 c21 c22 c23 c24 c25 c26 c27 c28 c29 c30 c31 c32 c52 c53 c54 c55 c56 c57 c58 c59 c60 c61 c62 c63 c64 c65 c66 c67 c68 c69 c70 c71 c72 c73 c74 c75 c76 c77 c78 c79 c80 c81 c82 c83 c84 c85 c86 c87 c88 c89 c90 c91 c92 c93 c94 c95 a10 a33 a34 a35 a36 a37 a38 a39 a40 a41 a42 a43 a44 a45 a46 a47 a48 a49 a50 a51 : Value} {Q : Exit → Act → World → Prop} (kb lb : Nat) (co ho lc lh : Int) (r : Bool) (hr : r = decide (lc < co ∨ (lc = co ∧ lh < ho))) (w : World) (u2 : w.cell? ⟨kb, 0, none⟩ = some (.int .i64 co)) (u3 : w.cell? ⟨kb, 1, none⟩ = some (.int .i64 ho)) (u4 : w.cell? ⟨lb, 0, none⟩ = some (.int .i64 lc)) (u5 : w.cell? ⟨lb, 1, none⟩ = some (.int .i64 lh))
    (h : ∀ u33 u34 u35 u36 u37 u38 u39 u40 u41 u42 u43 u44 u45 u46 u47 u48 u49 u50 u51 : Value, Q .normal ⟨#[c0, c1, c2, c3, c4, .pointer (some ⟨lb, 0, none⟩), c6, c7, .pointer (some ⟨kb, 0, none⟩), c9, .bool r, c11, c12, c13, c14, c15, c16, c17, c18, c19, c20, c21, c22, c23, c24, c25, c26, c27, c28, c29, c30, c31, c32, u33, u34, u35, u36, u37, u38, u39, u40, u41, u42, u43, u44, u45, u46, u47, u48, u49, u50, u51, c52, c53, c54, c55, c56, c57, c58, c59, c60, c61, c62, c63, c64, c65, c66, c67, c68, c69, c70, c71, c72, c73, c74, c75, c76, c77, c78, c79, c80, c81, c82, c83, c84, c85, c86, c87, c88, c89, c90, c91, c92, c93, c94, c95], []⟩ w) :
    Code.wp Tryz.prog (greg 7) Q ⟨#[c0, c1, c2, c3, c4, .pointer (some ⟨lb, 0, none⟩), c6, c7, .pointer (some ⟨kb, 0, none⟩), c9, a10, c11, c12, c13, c14, c15, c16, c17, c18, c19, c20, c21, c22, c23, c24, c25, c26, c27, c28, c29, c30, c31, c32, a33, a34, a35, a36, a37, a38, a39, a40, a41, a42, a43, a44, a45, a46, a47, a48, a49, a50, a51, c52, c53, c54, c55, c56, c57, c58, c59, c60, c61, c62, c63, c64, c65, c66, c67, c68, c69, c70, c71, c72, c73, c74, c75, c76, c77, c78, c79, c80, c81, c82, c83, c84, c85, c86, c87, c88, c89, c90, c91, c92, c93, c94, c95], []⟩ w := by
  conv => arg 2; whnf
  conv => arg 4; zeta
  replace h := Lib.hid h
  have hcR : (lc < co) ∨ (co = lc ∧ lh < ho) ∨ (co < lc) ∨ (co = lc ∧ ho ≤ lh) := by omega
  rcases hcR with r1 | ⟨r1, r2⟩ | r1 | ⟨r1, r2⟩
  · have m1 : (co == lc) = false := by rw [beq_eq_false_iff_ne]; omega
    obtain rfl : r = true := by rw [hr, decide_eq_true (.inl r1)]
    clear hr
    go_wp2
    exact h.out ..
  · have m1 : (co == lc) = true := by rw [beq_iff_eq]; exact r1
    have m2 : co ≤ lc := by omega
    obtain rfl : r = true := by rw [hr, decide_eq_true (.inr ⟨r1.symm, r2⟩)]
    clear hr r1
    go_wp2
    exact h.out ..
  · have m1 : (co == lc) = false := by rw [beq_eq_false_iff_ne]; omega
    obtain rfl : r = false := by rw [hr, decide_eq_false (by omega)]
    have m3 : decide (lc < co) = false := decide_eq_false (by omega)
    clear hr
    go_wp2
    exact h.out ..
  · have m1 : (co == lc) = true := by rw [beq_iff_eq]; exact r1
    have m2 : co ≤ lc := by omega
    obtain rfl : r = false := by rw [hr, decide_eq_false (by omega)]
    have m3 : decide (lc < co) = false := decide_eq_false (by omega)
    have m4 : decide (lh < ho) = false := decide_eq_false (by omega)
    clear hr r1
    go_wp2
    exact h.out ..
set_option maxRecDepth 1000000 in
set_option maxHeartbeats 16000000 in
theorem greg8 {c0 c2 c3 c5 c6 c11 c12 c13 c14 c15 c16 c17 c18 c19 c20 c21 c22 c23 c24 c25 c26 c27 c28 c29 c30 c31 c32 c33 c34 c35 c36 c37 c38 c39 c40 c41 c42 c43 c44 c45 c46 c47 c48 c49 c50 c51 c94 c95 a52 a53 a54 a55 a56 a57 a58 a59 a60 a61 a62 a63 a64 a65 a66 a67 a68 a69 a70 a71 a72 a73 a74 a75 a76 a77 a78 a79 a80 a81 a82 a83 a84 a85 a86 a87 a88 a89 a90 a91 a92 a93 : Value} {Q : Exit → Act → World → Prop} (xb kb nb mb n p s : Nat) (co ho : Int) (r q : Bool) (hq : q = decide (co < 0 ∨ (n : Int) ≤ co ∨ ho < 0 ∨ (n : Int) ≤ ho ∨ co = ho ∨ r = false ∨ p = 0 ∨ 6000 < s)) (w : World) (hp6 : p ≤ 6000) (hs : s ≤ 12000) (hn : n ≤ 140737488355328) (u1 : w.cell? ⟨xb, 0, none⟩ = some (.int .i64 co)) (u2 : w.cell? ⟨kb, 0, none⟩ = some (.int .i64 co)) (u3 : w.cell? ⟨kb, 1, none⟩ = some (.int .i64 ho)) (u4 : w.cell? ⟨nb, 0, none⟩ = some (.int .i64 (n : Int))) (hk : (Instr.lookup 161 (.map (some mb)) (.int .i64 co) false).run Tryz.prog w = .ok (.int .i64 (s : Int)) w)
    (h : ∀ u52 u53 u54 u55 u56 u57 u58 u59 u60 u61 u62 u63 u64 u65 u66 u67 u68 u69 u70 u71 u72 u73 u74 u75 u76 u77 u78 u79 u80 u81 u82 u83 u84 u85 u86 u87 u88 u89 u90 u91 u92 : Value, Q .normal ⟨#[c0, .pointer (some ⟨nb, 0, none⟩), c2, c3, .map (some mb), c5, c6, .pointer (some ⟨xb, 0, none⟩), .pointer (some ⟨kb, 0, none⟩), .int .i64 (p : Int), .bool r, c11, c12, c13, c14, c15, c16, c17, c18, c19, c20, c21, c22, c23, c24, c25, c26, c27, c28, c29, c30, c31, c32, c33, c34, c35, c36, c37, c38, c39, c40, c41, c42, c43, c44, c45, c46, c47, c48, c49, c50, c51, u52, u53, u54, u55, u56, u57, u58, u59, u60, u61, u62, u63, u64, u65, u66, u67, u68, u69, u70, u71, u72, u73, u74, u75, u76, u77, u78, u79, u80, u81, u82, u83, u84, u85, u86, u87, u88, u89, u90, u91, u92, .bool q, c94, c95], []⟩ w) :
    Code.wp Tryz.prog (greg 8) Q ⟨#[c0, .pointer (some ⟨nb, 0, none⟩), c2, c3, .map (some mb), c5, c6, .pointer (some ⟨xb, 0, none⟩), .pointer (some ⟨kb, 0, none⟩), .int .i64 (p : Int), .bool r, c11, c12, c13, c14, c15, c16, c17, c18, c19, c20, c21, c22, c23, c24, c25, c26, c27, c28, c29, c30, c31, c32, c33, c34, c35, c36, c37, c38, c39, c40, c41, c42, c43, c44, c45, c46, c47, c48, c49, c50, c51, a52, a53, a54, a55, a56, a57, a58, a59, a60, a61, a62, a63, a64, a65, a66, a67, a68, a69, a70, a71, a72, a73, a74, a75, a76, a77, a78, a79, a80, a81, a82, a83, a84, a85, a86, a87, a88, a89, a90, a91, a92, a93, c94, c95], []⟩ w := by
  conv => arg 2; whnf
  conv => arg 4; zeta
  replace h := Lib.hid h
  have hcB : (co < 0) ∨ (0 ≤ co ∧ (n : Int) ≤ co) ∨ (0 ≤ co ∧ co < n ∧ ho < 0) ∨ (0 ≤ co ∧ co < n ∧ 0 ≤ ho ∧ (n : Int) ≤ ho) ∨ (0 ≤ co ∧ co < n ∧ 0 ≤ ho ∧ ho < n ∧ co = ho) ∨ (0 ≤ co ∧ co < n ∧ 0 ≤ ho ∧ ho < n ∧ co ≠ ho) := by omega
  rcases hcB with b1 | ⟨b1, b2⟩ | ⟨b1, b2, b3⟩ | ⟨b1, b2, b3, b4⟩ | ⟨b1, b2, b3, b4, b5⟩ | ⟨b1, b2, b3, b4, b5⟩
  · have q0 : True := trivial
    clear q0
    obtain rfl : q = true := by rw [hq, decide_eq_true (.inl b1)]
    clear hq
    go_wp2
    exact h.out ..
  · have q0 : True := trivial
    clear q0
    obtain rfl : q = true := by rw [hq, decide_eq_true (.inr (.inl b2))]
    clear hq
    go_wp2
    exact h.out ..
  · have q0 : True := trivial
    clear q0
    obtain rfl : q = true := by rw [hq, decide_eq_true (.inr (.inr (.inl b3)))]
    clear hq
    go_wp2
    exact h.out ..
  · have q0 : True := trivial
    clear q0
    obtain rfl : q = true := by rw [hq, decide_eq_true (.inr (.inr (.inr (.inl b4))))]
    clear hq
    go_wp2
    exact h.out ..
  · have m5 : (co == ho) = true := by rw [beq_iff_eq]; exact b5
    obtain rfl : q = true := by rw [hq, decide_eq_true (.inr (.inr (.inr (.inr (.inl b5)))))]
    clear hq b5
    go_wp2
    exact h.out ..
  · have m5 : (co == ho) = false := by rw [beq_eq_false_iff_ne]; exact b5
    cases r with
    | false =>
      obtain rfl : q = true := by rw [hq, decide_eq_true (.inr (.inr (.inr (.inr (.inr (.inl rfl))))))]
      clear hq
      go_wp2
      exact h.out ..
    | true =>
      have hcP : p = 0 ∨ (1 ≤ p ∧ 6000 < s) ∨ (1 ≤ p ∧ s ≤ 6000) := by omega
      rcases hcP with p1 | ⟨p1, p2⟩ | ⟨p1, p2⟩
      · have m6 : ((p : Int) == 0) = true := by rw [beq_iff_eq]; omega
        have m7 : (p == 0) = true := by rw [beq_iff_eq]; exact p1
        obtain rfl : q = true := by rw [hq, decide_eq_true (.inr (.inr (.inr (.inr (.inr (.inr (.inl p1)))))))]
        clear hq
        replace p1 := Lib.hid p1
        go_wp2
        exact h.out ..
      · have m6 : ((p : Int) == 0) = false := by rw [beq_eq_false_iff_ne]; omega
        have m7 : (p == 0) = false := by rw [beq_eq_false_iff_ne]; omega
        have m8 : decide (6000 < (s : Int)) = true := decide_eq_true (by omega)
        have m9 : decide (6000 < s) = true := decide_eq_true p2
        obtain rfl : q = true := by rw [hq, decide_eq_true (.inr (.inr (.inr (.inr (.inr (.inr (.inr p2)))))))]
        clear hq
        go_wp2
        exact h.out ..
      · have m6 : ((p : Int) == 0) = false := by rw [beq_eq_false_iff_ne]; omega
        have m7 : (p == 0) = false := by rw [beq_eq_false_iff_ne]; omega
        obtain rfl : q = false := by rw [hq, decide_eq_false]; rintro (c | c | c | c | c | c | c | c) <;> first | omega | exact b5 c | cases c
        have m8 : decide (6000 < (s : Int)) = false := decide_eq_false (by omega)
        have m9 : decide (6000 < s) = false := decide_eq_false (by omega)
        have m10 : decide (co < 0) = false := decide_eq_false (by omega)
        have m11 : decide ((n : Int) ≤ co) = false := decide_eq_false (by omega)
        have m12 : decide (ho < 0) = false := decide_eq_false (by omega)
        have m13 : decide ((n : Int) ≤ ho) = false := decide_eq_false (by omega)
        clear hq
        go_wp2
        exact h.out ..
end Ci
end Go.Proofs.YtpmlhgmmobpilaaGreatDoor
namespace Go.Proofs.YtpmlhgmmobpilaaGreatDoor
open Go.RowKit Go.Shelf
namespace Ci
open Nt
/-- A block that is a row of cells, and nothing else. -/
def Bk (W : World) (b : Nat) (t : TypeId) (l : List Value) : Prop := W.heap[b]? = some (.cells l.toArray t (0, 0))
section
variable {W W' : World} {b : Nat} {t : TypeId} {l : List Value}
theorem Bk.lt (h : Bk W b t l) : b < W.heap.size := (Array.getElem?_eq_some_iff.1 h).1
theorem Bk.cell (h : Bk W b t l) {j : Nat} {v : Value} (hj : l[j]? = some v) : W.cell? ⟨b, j, none⟩ = some v := by
  unfold Bk at h
  simp [World.cell?, h, hj]
theorem Bk.frozen (h : Bk W b t l) (j : Nat) : W.frozen? ⟨b, j, none⟩ = false := by
  unfold Bk at h
  simp [World.frozen?, h]
theorem Bk.new (w : World) (t : TypeId) (l : List Value) : Bk (w.alloc (.cells l.toArray t)) w.heap.size t l := heap_alloc_new _ _
theorem Bk.below (h : Bk W b t l) (hb : Below W.heap.size W W') : Bk W' b t l := (hb.block b h.lt).trans h
theorem Bk.alloc (h : Bk W b t l) (o : Obj) : Bk (W.alloc o) b t l := (Below.heap_alloc W o b h.lt).trans h
theorem Bk.grown {row : Option Nat} (h : Bk W b t l) (hg : W.grownBy W' row) (hne : some b ≠ row) : Bk W' b t l := (hg.block b h.lt hne).trans h
theorem Bk.far (h : Bk W b t l) {p : Addr} (hp : b ≠ p.block) (v : Value) : Bk (W.setCell p v) b t l := (Below.heap_setCell _ _ _ _ hp).trans h
theorem Bk.set (h : Bk W b t l) (j : Nat) (v : Value) : Bk (W.setCell ⟨b, j, none⟩ v) b t (l.set j v) := by
  unfold Bk at h ⊢
  simp [World.setCell, Array.getElem?_modify, h]
end
theorem sumU_take {l : List Lk} {k : Nat} (h : k < l.length) (c : Int) : sumU (l.take (k + 1)) c = sumU (l.take k) c + if l[k].1 = c then unitsN (lkP l[k]) else 0 := by
  unfold sumU
  rw [List.take_succ_eq_append_getElem h, List.filter_append, List.map_append, List.sum_append]
  congr 1
  by_cases e : l[k].1 = c
  · rw [if_pos e, List.filter_cons, if_pos (decide_eq_true e)]
    simp
  · rw [if_neg e, List.filter_cons, if_neg (by simpa using e)]
    simp
theorem sumU_le {n : Nat} {l : List Lk} : ∀ k, k ≤ l.length → (∀ i (h : i < l.length), i < k → LinkAt n l i h) → ∀ c, sumU (l.take k) c ≤ 6000 := by
  intro k
  induction k with
  | zero => intro _ _ c; simp [sumU]
  | succ k ih =>
    intro hk h c
    have h1 := ih (by omega) (fun i hi h2 => h i hi (by omega)) c
    rw [sumU_take (by omega)]
    by_cases e : l[k].1 = c
    · have h2 := (h k (by omega) (by omega)).2.2
      rw [sumU_take (by omega), if_pos rfl, e] at h2
      rw [if_pos e]
      exact h2
    · rw [if_neg e]; omega
/-- The totals ahead of link k. -/
def TotM (W : World) (b : Nat) (l : List Lk) (k : Nat) : Prop := ∃ c f, MapK Tryz.prog 3 κi W b c f ∧ c ≤ k ∧ ∀ y : Int, (f y).getD (.int .i64 0) = .int .i64 (sumU (l.take k) y : Int)
/-- The last key, as numbers. -/
def lastC (l : List Lk) (k : Nat) : Int := match l[k - 1]? with
  | some x => if k = 0 then -1 else x.1
  | none => -1
def lastH (l : List Lk) (k : Nat) : Int := match l[k - 1]? with
  | some x => if k = 0 then -1 else x.2.1
  | none => -1
theorem last_zero (l : List Lk) : lastC l 0 = -1 ∧ lastH l 0 = -1 := by
  unfold lastC lastH
  cases l[0 - 1]? <;> simp
theorem last_succ {l : List Lk} {k : Nat} (h : k < l.length) : lastC l (k + 1) = l[k].1 ∧ lastH l (k + 1) = l[k].2.1 := by
  unfold lastC lastH
  rw [Nat.add_sub_cancel, List.getElem?_eq_getElem h]
  simp
/-- Rising, as the code sees it. -/
theorem rise_iff {l : List Lk} {k : Nat} (h : k < l.length) (h0 : 0 ≤ l[k].1) : (0 < k → Rise (l[k - 1]'(by omega)) l[k]) ↔ (lastC l k < l[k].1 ∨ (lastC l k = l[k].1 ∧ lastH l k < l[k].2.1)) := by
  by_cases e : k = 0
  · subst e
    have := last_zero l
    constructor
    · intro _; left; omega
    · intro _ hc; omega
  · obtain ⟨j, rfl⟩ : ∃ j, k = j + 1 := ⟨k - 1, by omega⟩
    have hj : j < l.length := by omega
    obtain ⟨e1, e2⟩ := last_succ hj
    rw [e1, e2]
    have hg : l[j + 1 - 1]'(by omega) = l[j] := by simp
    rw [hg]
    unfold Rise
    exact ⟨fun h => h (by omega), fun h _ => h⟩
def GoodInv (w : World) (n : Nat) (l : List Lk) (mb lb : Nat) (k : Nat) (wr : World) : Prop :=
  Hid (Below w.heap.size w wr) ∧ Hid (TotM wr mb l k) ∧ Hid (Bk wr lb 163 [.int .i64 (lastC l k), .int .i64 (lastH l k)]) ∧ Hid (∀ i (h : i < l.length), i < k → LinkAt n l i h)
theorem keyI : Go.Maps.Keyed Tryz.prog 3 := Go.Maps.int_keyed Tryz.underlying3
theorem zeroI (w : World) : (zeroValue 3).run Tryz.prog w = .ok (.int .i64 0) w := by kernel_rfl
set_option maxRecDepth 100000 in
set_option maxHeartbeats 16000000 in
theorem good_any (A : Option Addr) (cap n nb : Nat) (l : List Lk) (w : World) (hE : Env w) (hl : InLk w A l) (hl47 : l.length ≤ 140737488355328) (hn : n ≤ 140737488355328) (hnb : w.cell? ⟨nb, 0, none⟩ = some (.int .i64 (n : Int)))
    (hz : ∀ x, x ∈ l → x.2.2.2.1.size ≤ 140737488355328 ∧ x.2.2.2.2.size ≤ 140737488355328) (hi : ∀ x, x ∈ l → (-9223372036854775808 ≤ x.1 ∧ x.1 ≤ 9223372036854775807) ∧ (-9223372036854775808 ≤ x.2.1 ∧ x.2.1 ≤ 9223372036854775807)) :
    Calls Tryz.prog 156 #[.slice A l.length cap, .pointer (some ⟨nb, 0, none⟩)] w fun e w' => e = .returned (.bool (goodB n l)) ∧ Below w.heap.size w w' := by
  have hmm := @run_makeMap Tryz.prog
  have hnl := World.block_lt_of_cell? w _ hnb
  have hM0 : Hid (TotM ((w.alloc (.map #[] 0)).alloc (.cells #[.int .i64 (-1), .int .i64 (-1)] 163)) w.heap.size l 0) := ⟨0, _, (MapK.made w _ _ _).alloc _, Nat.le_refl _, fun y => rfl⟩
  have hL0 : Hid (Bk ((w.alloc (.map #[] 0)).alloc (.cells #[.int .i64 (-1), .int .i64 (-1)] 163)) (w.heap.size + 1) 163 [.int .i64 (lastC l 0), .int .i64 (lastH l 0)]) := by
    have h := Bk.new (w.alloc (.map #[] 0)) 163 [.int .i64 (-1), .int .i64 (-1)]
    rw [World.size_alloc] at h
    rw [(last_zero l).1, (last_zero l).2]
    exact h
  have hB0 : Hid (Below w.heap.size w ((w.alloc (.map #[] 0)).alloc (.cells #[.int .i64 (-1), .int .i64 (-1)] 163))) := ((Below.refl _ w).alloc (Nat.le_refl _) _).alloc (by simp) _
  replace hE := Lib.hid hE
  replace hl := Lib.hid hl
  replace hz := Lib.hid hz
  replace hi := Lib.hid hi
  replace hnb := Lib.hid hnb
  have hGB := Lib.hid (fun (k : Nat) (h : k < l.length) (hb : ¬ LinkAt n l k h) => good_bad (n := n) (l := l) h hb)
  have hGA := Lib.hid (good_all (n := n) (l := l))
  go_enter Tryz.func156, Tryz.ntmps156
  go_wp2
  clear hmm
  go_loopw [15] (fun i wr => ∃ k : Nat, k ≤ l.length ∧ i = .int .i64 (k : Int) ∧ Hid (GoodInv w n l w.heap.size (w.heap.size + 1) k wr)) (fun i _ => l.length - (intOf i).toNat)
  case atStart => exact ⟨0, Nat.zero_le _, rfl, hB0, hM0, hL0, fun i _ h => absurd h (Nat.not_lt_zero _)⟩
  case round =>
    obtain ⟨k, hk, rfl, hI⟩ := hrel
    clear hM0 hL0 hB0
    obtain ⟨hB, hM, hL, hA⟩ := hI.out
    by_cases hlt : k < l.length
    · obtain ⟨b, o, rfl, hbl, hc⟩ := (hl.out.below hB.out) (by omega)
      obtain ⟨e1, e2, e3, e4, e5⟩ := hc k hlt
      have hzx := hz.out l[k] (List.getElem_mem hlt)
      have hix := hi.out l[k] (List.getElem_mem hlt)
      have hGBk := Lib.hid (hGB.out k hlt)
      have hSu := Lib.hid (sumU_take hlt)
      have hRi := Lib.hid (rise_iff hlt)
      have hLs := Lib.hid (last_succ hlt)
      have hsl := sumU_le k hk hA.out
      have hAl : Hid (LinkAt n l k hlt → ∀ i (h : i < l.length), i < k + 1 → LinkAt n l i h) := fun h i hi h2 => by
        by_cases e : i = k
        · subst e; exact h
        · exact hA.out i hi (by omega)
      have hLA : Hid (LinkAt n l k hlt ↔ (Own n l[k] ∧ (0 < k → Rise (l[k - 1]'(by omega)) l[k]) ∧ sumU (l.take (k + 1)) l[k].1 ≤ 6000)) := Iff.rfl
      obtain ⟨x, hx⟩ : ∃ x, x = l[k] := ⟨_, rfl⟩
      rw [← hx] at e1 e2 e3 e4 e5 hzx hix hSu hRi hLs hLA
      obtain ⟨co, ho, g, nn, dd⟩ := x
      replace e1 : wr.cell? ⟨b, o + k * 5, none⟩ = some (.int .i64 co) := e1
      replace e2 : wr.cell? ⟨b, o + k * 5 + 1, none⟩ = some (.int .i64 ho) := e2
      replace e3 : wr.cell? ⟨b, o + k * 5 + 2, none⟩ = some (.bool g) := e3
      replace e4 : wr.cell? ⟨b, o + k * 5 + 3, none⟩ = some (.string nn) := e4
      replace e5 : wr.cell? ⟨b, o + k * 5 + 4, none⟩ = some (.string dd) := e5
      obtain ⟨⟨i1, i2⟩, i3, i4⟩ := hix
      replace i1 : -9223372036854775808 ≤ co := i1
      replace i2 : co ≤ 9223372036854775807 := i2
      replace i3 : -9223372036854775808 ≤ ho := i3
      replace i4 : ho ≤ 9223372036854775807 := i4
      obtain ⟨z1, z2⟩ := hzx
      replace z1 : nn.size ≤ 140737488355328 := z1
      replace z2 : dd.size ≤ 140737488355328 := z2
      have hsk := hsl co
      have hp6 := units_le (g, nn, dd)
      have ku : Hid (∀ W, Env W → Calls Tryz.prog 157 #[.agg #[.bool g, .string nn, .string dd]] W fun e w' => e = .returned (.int .i64 (unitsN (g, nn, dd) : Int)) ∧ Below W.heap.size W w') := fun W hW => units_any g nn dd W hW z1 z2
      replace hLA : Hid (LinkAt n l k hlt ↔ ((0 ≤ co ∧ co < n) ∧ (0 ≤ ho ∧ ho < n) ∧ co ≠ ho ∧ unitsN (g, nn, dd) ≠ 0) ∧ (0 < k → Rise (l[k - 1]'(by omega)) (co, ho, g, nn, dd)) ∧ sumU (l.take (k + 1)) co ≤ 6000) := hLA
      replace hRi : Hid (0 ≤ co → ((0 < k → Rise (l[k - 1]'(by omega)) (co, ho, g, nn, dd)) ↔ (lastC l k < co ∨ (lastC l k = co ∧ lastH l k < ho)))) := hRi
      replace hSu : Hid (∀ c, sumU (l.take (k + 1)) c = sumU (l.take k) c + if co = c then unitsN (g, nn, dd) else 0) := hSu
      replace hLs : Hid (lastC l (k + 1) = co ∧ lastH l (k + 1) = ho) := hLs
      have hSc : Hid (sumU (l.take (k + 1)) co = sumU (l.take k) co + unitsN (g, nn, dd)) := by have h := hSu.out co; rwa [if_pos rfl] at h
      obtain ⟨p, hp⟩ : ∃ p, p = unitsN (g, nn, dd) := ⟨_, rfl⟩
      rw [← hp] at hp6 ku hLA hSu hSc
      obtain ⟨sk, hske⟩ : ∃ s, s = sumU (l.take k) co := ⟨_, rfl⟩
      rw [← hske] at hsk hSc
      obtain ⟨lc, hlc⟩ : ∃ s, s = lastC l k := ⟨_, rfl⟩
      obtain ⟨lh, hlh⟩ : ∃ s, s = lastH l k := ⟨_, rfl⟩
      rw [← hlc, ← hlh] at hL hRi
      replace hp := Lib.hid hp
      replace hx := Lib.hid hx
      replace hske := Lib.hid hske
      replace hlc := Lib.hid hlc
      replace hlh := Lib.hid hlh
      have i0 : (0 : Int) ≤ (k : Int) := by omega
      have i5 : (k : Int) < (l.length : Int) := by omega
      clear hc hsl hI hl hz hi
      have hx1 : Hid (Bk (wr.alloc (.cells #[.int .i64 co, .int .i64 ho, .bool g, .string nn, .string dd] 94)) wr.heap.size 94 [.int .i64 co, .int .i64 ho, .bool g, .string nn, .string dd]) := Bk.new wr _ _
      have hB1 := Lib.hid (hB.out.alloc hB.out.size (.cells #[.int .i64 co, .int .i64 ho, .bool g, .string nn, .string dd] 94))
      have hL1 := Lib.hid (hL.out.alloc (.cells #[.int .i64 co, .int .i64 ho, .bool g, .string nn, .string dd] 94))
      obtain ⟨mc, f, hMK, hmc, hf⟩ := hM.out
      have hM1 := Lib.hid (hMK.alloc (.cells #[.int .i64 co, .int .i64 ho, .bool g, .string nn, .string dd] 94))
      replace hf := Lib.hid hf
      clear hMK
      go_wp2_with fail
      obtain ⟨W1, hW1⟩ : ∃ W, W = wr.alloc (.cells #[.int .i64 co, .int .i64 ho, .bool g, .string nn, .string dd] 94) := ⟨_, rfl⟩
      rw [← hW1] at hx1 hB1 hL1 hM1 ⊢
      have hxw : w.heap.size + 1 < wr.heap.size := hL.out.lt
      obtain ⟨xb, hxb⟩ : ∃ b, b = wr.heap.size := ⟨_, rfl⟩
      rw [← hxb] at hx1 hxw ⊢
      clear hW1 hxb hL hB hM e1 e2 e3 e4 e5 hbl
      have HO : Hid (∀ W, Below W1.heap.size W1 W → W.cell? ⟨xb, 0, none⟩ = some (.int .i64 co) ∧ W.cell? ⟨xb, 1, none⟩ = some (.int .i64 ho) ∧ W.cell? ⟨xb, 2, none⟩ = some (.bool g) ∧ W.cell? ⟨xb, 3, none⟩ = some (.string nn) ∧ W.cell? ⟨xb, 4, none⟩ = some (.string dd)) := fun W h =>
        have h := hx1.out.below h
        ⟨h.cell (j := 0) rfl, h.cell (j := 1) rfl, h.cell (j := 2) rfl, h.cell (j := 3) rfl, h.cell (j := 4) rfl⟩
      have hBw : Hid (Below W1.heap.size W1 W1) := Below.refl _ _
      have hBa : Hid (Below W1.heap.size W1 (W1.alloc (.cells #[.int .i64 0, .int .i64 0] 163))) := (Below.refl _ _).alloc (Nat.le_refl _) _
      have hBd : Hid (Below W1.heap.size W1 (W1.alloc (.cells #[.int .i64 0, .int .i64 0] 163)).drew) := hBa.out.drew
      have hBe : Hid (Below W1.heap.size W1 W1.drew) := hBw.out.drew
      have hEe : Hid (Env W1.drew) := hE.out.below (hB1.out.trans (hBe.out.mono hB1.out.size))
      have hEd : Hid (Env (W1.alloc (.cells #[.int .i64 0, .int .i64 0] 163)).drew) := hE.out.below (hB1.out.trans (hBd.out.mono hB1.out.size))
      have hxd : Hid (Bk (W1.alloc (.cells #[.int .i64 0, .int .i64 0] 163)).drew W1.heap.size 163 [.int .i64 0, .int .i64 0]) := Bk.new W1 163 _
      have hxl := hx1.out.lt
      go_region_held3 (fun w' => w'.cell? ⟨xb, 0, none⟩ = some (.int .i64 co) ∧ w'.cell? ⟨xb, 1, none⟩ = some (.int .i64 ho) ∧ w'.cell? ⟨xb, 2, none⟩ = some (.bool g) ∧ w'.cell? ⟨xb, 3, none⟩ = some (.string nn) ∧ w'.cell? ⟨xb, 4, none⟩ = some (.string dd)) (first | (with_reducible exact HO.out _ hBw.out) | (with_reducible exact HO.out _ hBe.out) | (with_reducible exact HO.out _ hBd.out) | (with_reducible exact HO.out _ hBa.out) | (with_reducible exact HO.out _ hB2.out) | (with_reducible exact HO.out _ (hB2.out.alloc hB2.out.size _)) | (with_reducible exact HO.out _ ((hB2.out.setCell (Nat.le_refl _) _).setCell (Nat.le_refl _) _)) | go_keep)
        (first
          | (go_at_call 157; refine (ku.out _ ?_).mono ?_; (with_reducible exact hEd.out); rintro e w2 ⟨rfl, hb2⟩; have hx2 := Lib.hid (hxd.out.below hb2); have hB2 := Lib.hid (hBd.out.trans (hb2.mono hBd.out.size)); have y1 := hx2.out.cell (j := 0) rfl; have y2 := hx2.out.cell (j := 1) rfl; have y3 := hx2.out.frozen 0; have y4 := hx2.out.frozen 1; have y5 := hx2.out.lt; clear hb2)
          | (go_at_call 157; refine (ku.out _ ?_).mono ?_; (with_reducible exact hEe.out); rintro e w2 ⟨rfl, hb2⟩; have hB2 := Lib.hid (hBe.out.trans (hb2.mono hBe.out.size)); clear hb2))
      all_goals (
        first
          | (obtain ⟨kb, hkb⟩ : ∃ b, b = w2.heap.size := ⟨_, rfl⟩; obtain ⟨w5, hw5⟩ : ∃ W, W = w2.alloc (.cells #[.int .i64 co, .int .i64 ho] 163) := ⟨_, rfl⟩; rw [← hw5, ← hkb]; have hk5 : Hid (Bk w5 kb 163 [.int .i64 co, .int .i64 ho]) := (by rw [hw5, hkb]; exact Bk.new w2 _ _); have hB5 : Hid (Below W1.heap.size W1 w5) := (by rw [hw5]; exact hB2.out.alloc hB2.out.size _); have hkl : W1.heap.size ≤ kb := (by rw [hkb]; exact hB2.out.size))
          | (obtain ⟨kb, hkb⟩ : ∃ b, b = W1.heap.size := ⟨_, rfl⟩; obtain ⟨w5, hw5⟩ : ∃ W, W = (w2.setCell ⟨W1.heap.size, 0, none⟩ (.int .i64 co)).setCell ⟨W1.heap.size, 1, none⟩ (.int .i64 ho) := ⟨_, rfl⟩; rw [← hw5, ← hkb]; have hk5 : Hid (Bk w5 kb 163 [.int .i64 co, .int .i64 ho]) := (by rw [hw5, hkb]; exact (hx2.out.set 0 _).set 1 _); have hB5 : Hid (Below W1.heap.size W1 w5) := (by rw [hw5]; exact (hB2.out.setCell (Nat.le_refl _) _).setCell (Nat.le_refl _) _); have hkl : W1.heap.size ≤ kb := (by rw [hkb]; exact Nat.le_refl _); clear hx2 y1 y2 y3 y4 y5)
        clear hw5 hkb hB2 hBe hBd hBa hxd hEe hEd hBw
        have hx5 := Lib.hid (hx1.out.below hB5.out)
        have hL5 := Lib.hid (hL1.out.below hB5.out)
        have hM5 := Lib.hid (hM1.out.below hB5.out)
        have hB6 := Lib.hid (hB1.out.trans (hB5.out.mono hB1.out.size))
        have hkx : xb < kb := by omega
        clear HO hx1 hL1 hM1 hB1 hB5 hxl hkl
        have hk1 := key_i Tryz.underlying3 i1 i2
        have hlook := hM5.out.look keyI Tryz.underlying161 (zeroI _) hk1
        rw [hf.out co, ← hske.out] at hlook
        obtain ⟨w6, hrun, hM6, hg6⟩ := hM5.out.put κi_inj keyI Tryz.underlying161 (by unfold maxLen; omega) hk1 (.int .i64 ((sk : Int) + (p : Int)))
        have u1 := hx5.out.cell (j := 0) rfl
        have u2 := hk5.out.cell (j := 0) rfl
        have u3 := hk5.out.cell (j := 1) rfl
        have s0 : (0 : Int) ≤ (sk : Int) + (p : Int) := by omega
        go_upto_region 7 with (fail)
        have hwm : some xb ≠ some w.heap.size := fun e => by have := Option.some.inj e; omega
        have hkm : some kb ≠ some w.heap.size := fun e => by have := Option.some.inj e; omega
        have hlm : some (w.heap.size + 1) ≠ some w.heap.size := fun e => by have := Option.some.inj e; omega
        have hx7 := Lib.hid (hx5.out.grown hg6 hwm)
        have hk7 := Lib.hid (hk5.out.grown hg6 hkm)
        have hL7 := Lib.hid (hL5.out.grown hg6 hlm)
        have hB7 : Hid (Below w.heap.size w w6) := hB6.out.grown hg6 hB6.out.size (fun b e => by cases e; exact Nat.le_refl _)
        have hlook6 := hM6.look keyI Tryz.underlying161 (zeroI _) hk1
        rw [putF_same] at hlook6
        replace hlook6 : (Instr.lookup 161 (.map (some w.heap.size)) (.int .i64 co) false).run Tryz.prog w6 = .ok (.int .i64 ((sk : Int) + (p : Int))) w6 := hlook6
        have hM7 : Hid (TotM w6 w.heap.size l (k + 1)) := by
          refine ⟨_, _, hM6, by split <;> omega, fun y => ?_⟩
          by_cases e : y = co
          · rw [e, putF_same, hSc.out]; rfl
          · rw [putF_other e, hf.out y, hSu.out y, if_neg fun c => e c.symm, Nat.add_zero]
        have n1 := (hB7.out.cell (p := ⟨nb, 0, none⟩) hnl).trans hnb.out
        have hkl7 : Hid (w.heap.size + 1 ≠ kb) := fun e => by omega
        clear hrun hlook hk1 hx5 hk5 hL5 hM5 hB6 hM6 hg6 u1 u2 u3 hwm hkm hlm hf
        have u1 := hx7.out.cell (j := 0) rfl
        have u2 := hk7.out.cell (j := 0) rfl
        have u3 := hk7.out.cell (j := 1) rfl
        have u4 := hL7.out.cell (j := 0) rfl
        have u5 := hL7.out.cell (j := 1) rfl
        have u6 := hL7.out.frozen 0
        have u7 := hL7.out.frozen 1
        have u8 := hL7.out.lt
        have u9 := hk7.out.lt
        clear u6 u7
        obtain ⟨r, hr⟩ : ∃ r : Bool, r = decide (lc < co ∨ (lc = co ∧ lh < ho)) := ⟨_, rfl⟩
        obtain ⟨q, hq⟩ : ∃ q : Bool, q = decide (co < 0 ∨ (n : Int) ≤ co ∨ ho < 0 ∨ (n : Int) ≤ ho ∨ co = ho ∨ r = false ∨ p = 0 ∨ 6000 < sk + p) := ⟨_, rfl⟩
        have hlook7 : (Instr.lookup 161 (.map (some w.heap.size)) (.int .i64 co) false).run Tryz.prog w6 = .ok (.int .i64 ((sk + p : Nat) : Int)) w6 := hlook6
        replace hr := Lib.hid hr
        replace hq := Lib.hid hq
        clear hlook6
        refine greg7 kb (w.heap.size + 1) co ho lc lh r hr.out w6 u2 u3 u4 u5 ?_
        intro u33 u34 u35 u36 u37 u38 u39 u40 u41 u42 u43 u44 u45 u46 u47 u48 u49 u50 u51
        go_upto_region 8 with (fail)
        refine greg8 xb kb nb w.heap.size n p (sk + p) co ho r q hq.out w6 hp6 (by omega) hn u1 u2 u3 n1 hlook7 ?_
        intro v52 v53 v54 v55 v56 v57 v58 v59 v60 v61 v62 v63 v64 v65 v66 v67 v68 v69 v70 v71 v72 v73 v74 v75 v76 v77 v78 v79 v80 v81 v82 v83 v84 v85 v86 v87 v88 v89 v90 v91 v92
        clear u1 u2 u3 u4 u5 n1 hlook7 s0 hp6 hsk i0 i5
        cases q with
        | true =>
          have HG : Hid (goodB n l = false) := hGBk.out fun h => by
            have h2 := hLA.out.1 h
            have h3 := hq.out
            have h4 := of_decide_eq_true h3.symm
            have h5 := h2.2.2
            rw [hSc.out] at h5
            have h6 := (hRi.out h2.1.1.1).1 h2.2.1
            have h7 : r = true := by rw [hr.out]; exact decide_eq_true h6
            rw [h7] at h4
            obtain ⟨⟨d1, d2⟩, ⟨d3, d4⟩, d5, d6⟩ := h2.1
            rcases h4 with c | c | c | c | c | c | c | c
            · omega
            · omega
            · omega
            · omega
            · exact d5 c
            · cases c
            · exact d6 c
            · omega
          clear hq hr hLA hRi hSc hGBk
          go_wp2
          go_ret
          exact ⟨ret_bool HG.out.symm, hB7.out⟩
        | false =>
          have hno : Hid (¬ (co < 0 ∨ (n : Int) ≤ co ∨ ho < 0 ∨ (n : Int) ≤ ho ∨ co = ho ∨ r = false ∨ p = 0 ∨ 6000 < sk + p)) := of_decide_eq_false hq.out.symm
          have hrt : Hid (lc < co ∨ (lc = co ∧ lh < ho)) := by
            have h := hr.out
            have h1 : r = true := by
              cases r
              · exact absurd (.inr (.inr (.inr (.inr (.inr (.inl rfl)))))) hno.out
              · rfl
            rw [h1] at h
            have h9 : lc < co ∨ (lc = co ∧ lh < ho) := of_decide_eq_true h.symm
            exact h9
          have HN : Hid (∀ i (h : i < l.length), i < k + 1 → LinkAt n l i h) := hAl.out (hLA.out.2 (by
            have h := hno.out
            refine ⟨⟨⟨by omega, by omega⟩, ⟨by omega, by omega⟩, fun c => h (.inr (.inr (.inr (.inr (.inl c))))), by omega⟩, (hRi.out (by omega)).2 hrt.out, by rw [hSc.out]; omega⟩))
          have hL8 : Hid (Bk ((w6.setCell ⟨w.heap.size + 1, 0, none⟩ (.int .i64 co)).setCell ⟨w.heap.size + 1, 1, none⟩ (.int .i64 ho)) (w.heap.size + 1) 163 [.int .i64 (lastC l (k + 1)), .int .i64 (lastH l (k + 1))]) := by rw [hLs.out.1, hLs.out.2]; exact (hL7.out.set 0 _).set 1 _
          have hB8 : Hid (Below w.heap.size w ((w6.setCell ⟨w.heap.size + 1, 0, none⟩ (.int .i64 co)).setCell ⟨w.heap.size + 1, 1, none⟩ (.int .i64 ho))) := (hB7.out.setCell (p := ⟨w.heap.size + 1, 0, none⟩) (Nat.le_succ _) _).setCell (p := ⟨w.heap.size + 1, 1, none⟩) (Nat.le_succ _) _
          have hM8 : Hid (TotM ((w6.setCell ⟨w.heap.size + 1, 0, none⟩ (.int .i64 co)).setCell ⟨w.heap.size + 1, 1, none⟩ (.int .i64 ho)) w.heap.size l (k + 1)) := by
            obtain ⟨c, f, h1, h2⟩ := hM7.out
            exact ⟨c, f, (h1.set (a := ⟨w.heap.size + 1, 0, none⟩) (Nat.ne_of_lt (Nat.lt_succ_self _)) _).set (a := ⟨w.heap.size + 1, 1, none⟩) (Nat.ne_of_lt (Nat.lt_succ_self _)) _, h2⟩
          clear hq hr hLA hRi hSc hGBk hno hrt hAl
          have u2 := hk7.out.cell (j := 0) rfl
          have u3 := hk7.out.cell (j := 1) rfl
          have u4 := hL7.out.cell (j := 0) rfl
          have u5 := hL7.out.cell (j := 1) rfl
          have u6 := hL7.out.frozen 0
          have u7 := hL7.out.frozen 1
          have hk9 := hkl7.out
          go_wp2
          go_roundw
          case rel => exact ⟨k + 1, by omega, by go_num, hB8, hM8, hL8, HN⟩
          case measure => simp [intOf]; omega)
    · obtain rfl : k = l.length := by omega
      have HG := Lib.hid (hGA.out fun i h => hA.out i h h)
      go_wp2
      go_ret
      exact ⟨ret_bool HG.out.symm, hB.out⟩
end Ci
end Go.Proofs.YtpmlhgmmobpilaaGreatDoor
namespace Go.Proofs.YtpmlhgmmobpilaaGreatDoor
open Go.RowKit Go.Shelf
namespace Ci
open Nt
/-- A structure in memory. -/
structure StIn (w : World) (s : SR) (Ap Ac Av : Option Addr) : Prop where
  ps : InStr w Ap s.ps
  cap : InLk w Ac s.cap
  vot : InLk w Av s.vot
  np : s.ps.length ≤ 140737488355328
  nc : s.cap.length ≤ 140737488355328
  nv : s.vot.length ≤ 140737488355328
  zp : ∀ x, x ∈ s.ps → x.size ≤ 140737488355328
  zc : ∀ x, x ∈ s.cap → x.2.2.2.1.size ≤ 140737488355328 ∧ x.2.2.2.2.size ≤ 140737488355328
  zv : ∀ x, x ∈ s.vot → x.2.2.2.1.size ≤ 140737488355328 ∧ x.2.2.2.2.size ≤ 140737488355328
  ic : ∀ x, x ∈ s.cap → (-9223372036854775808 ≤ x.1 ∧ x.1 ≤ 9223372036854775807) ∧ (-9223372036854775808 ≤ x.2.1 ∧ x.2.1 ≤ 9223372036854775807)
  iv : ∀ x, x ∈ s.vot → (-9223372036854775808 ≤ x.1 ∧ x.1 ≤ 9223372036854775807) ∧ (-9223372036854775808 ≤ x.2.1 ∧ x.2.1 ≤ 9223372036854775807)
theorem StIn.below {w w' : World} {s : SR} {Ap Ac Av : Option Addr} (h : StIn w s Ap Ac Av) (hb : Below w.heap.size w w') : StIn w' s Ap Ac Av :=
  ⟨h.ps.below hb, h.cap.below hb, h.vot.below hb, h.np, h.nc, h.nv, h.zp, h.zc, h.zv, h.ic, h.iv⟩
theorem leq_bin (t : TypeId) (a b : ByteArray) : binOp .leq t (.string a) (.string b) = pure (.bool (leqB a b)) := by simp [binOp, Op.stringOp, leqB]
abbrev SC (s : SR) (Ap Ac Av : Option Addr) (cp cc cv : Nat) : List Value := [.slice Ap s.ps.length cp, .slice Ac s.cap.length cc, .slice Av s.vot.length cv]
set_option maxRecDepth 100000 in
set_option maxHeartbeats 16000000 in
theorem Sound_any (s : SR) (Ap Ac Av : Option Addr) (cp cc cv : Nat) (w : World) (hE : Env w) (hs : StIn w s Ap Ac Av) :
    Calls Tryz.prog 116 #[.agg #[.slice Ap s.ps.length cp, .slice Ac s.cap.length cc, .slice Av s.vot.length cv]] w fun e w' => e = .returned (.bool (soundB s)) ∧ Below w.heap.size w w' := by
  have hp47 := hs.np
  have hNB := Lib.hid (fun (k : Nat) (h : k < s.ps.length) (hb : ¬ NameAt s.ps k h) => names_bad (l := s.ps) h hb)
  have hNA := Lib.hid (names_all (l := s.ps))
  have hX0 : Hid (Bk (w.alloc (.cells #[.slice Ap s.ps.length cp, .slice Ac s.cap.length cc, .slice Av s.vot.length cv] 54)) w.heap.size 54 (SC s Ap Ac Av cp cc cv)) := Bk.new w _ _
  have hB0 : Hid (Below w.heap.size w (w.alloc (.cells #[.slice Ap s.ps.length cp, .slice Ac s.cap.length cc, .slice Av s.vot.length cv] 54))) := (Below.refl _ w).alloc (Nat.le_refl _) _
  have kg := Lib.hid (fun A cap nb l W hE hl h1 h2 h3 h4 h5 => good_any A cap s.ps.length nb l W hE hl h1 h2 h3 h4 h5)
  replace hE := Lib.hid hE
  replace hs := Lib.hid hs
  go_enter Tryz.func116, Tryz.ntmps116
  go_wp2
  go_loopw [10] (fun i wr => ∃ k : Nat, k ≤ s.ps.length ∧ i = .int .i64 (k : Int) ∧ Hid (Below w.heap.size w wr) ∧ Hid (Bk wr w.heap.size 54 (SC s Ap Ac Av cp cc cv)) ∧ Hid (∀ i (h : i < s.ps.length), i < k → NameAt s.ps i h)) (fun i _ => s.ps.length - (intOf i).toNat)
  case atStart => exact ⟨0, Nat.zero_le _, rfl, hB0, hX0, fun i _ h => absurd h (Nat.not_lt_zero _)⟩
  case round =>
    obtain ⟨k, hk, rfl, hB, hX, hA⟩ := hrel
    clear hX0 hB0
    by_cases hlt : k < s.ps.length
    · obtain ⟨b, o, rfl, hbl, hc⟩ := (hs.out.below hB.out).ps (by omega)
      have e1 := hc k hlt
      have e0 : Hid (0 < k → wr.cell? ⟨b, o + (k - 1), none⟩ = some (.string (s.ps[k - 1]'(by omega)))) := fun h => hc (k - 1) (by omega)
      have zx := hs.out.zp s.ps[k] (List.getElem_mem hlt)
      have hNk := Lib.hid (hNB.out k hlt)
      have hAl : Hid (NameAt s.ps k hlt → ∀ i (h : i < s.ps.length), i < k + 1 → NameAt s.ps i h) := fun h i hi h2 => by
        by_cases e : i = k
        · subst e; exact h
        · exact hA.out i hi (by omega)
      have hNI : Hid (NameAt s.ps k hlt ↔ identB s.ps[k] = true ∧ (0 < k → leqB s.ps[k] (s.ps[k - 1]'(by omega)) = false)) := Iff.rfl
      obtain ⟨nm, hnm⟩ : ∃ x, x = s.ps[k] := ⟨_, rfl⟩
      rw [← hnm] at e1 zx hNI
      replace hnm := Lib.hid hnm
      have u0 := hX.out.cell (j := 0) rfl
      have u9 := hX.out.lt
      have i0 : (0 : Int) ≤ (k : Int) := by omega
      have i1 : (k : Int) < (s.ps.length : Int) := by omega
      have kn := isName_any nm
      clear hc
      cases hid : identB nm with
      | false =>
        have HG : Hid (soundB s = false) := by
          have : namesB s.ps = false := hNk.out fun h => by have := (hNI.out.1 h).1; rw [hid] at this; cases this
          unfold Hid soundB
          rw [this]; rfl
        rw [hid] at kn
        replace kn := Lib.hid kn
        clear hid hNI hAl
        go_wp2_with fail
        refine (kn.out _ (by omega)).mono ?_
        rintro e w2 ⟨rfl, hb⟩
        have hB2 := Lib.hid (hB.out.trans (hb.mono hB.out.size))
        clear hb
        go_wp2
        go_ret
        exact ⟨ret_bool HG.out.symm, hB2.out⟩
      | true =>
        rw [hid] at kn
        replace kn := Lib.hid kn
        by_cases hk0 : k = 0
        · have m1 : decide (0 < (k : Int)) = false := decide_eq_false (by omega)
          have m2 : decide (0 < k) = false := decide_eq_false (by omega)
          have HN := Lib.hid (hAl.out (hNI.out.2 ⟨hid, fun h => by omega⟩))
          replace hk0 := Lib.hid hk0
          clear hid hNI hAl hNk
          go_wp2_with fail
          refine (kn.out _ (by omega)).mono ?_
          rintro e w2 ⟨rfl, hb⟩
          have hB2 := Lib.hid (hB.out.trans (hb.mono hB.out.size))
          have hX2 := Lib.hid (hX.out.below hb)
          clear hb e1 u0 u9
          go_wp2
          go_roundw
          case rel => exact ⟨k + 1, by omega, by go_num, hB2, hX2, HN⟩
          case measure => simp [intOf]; omega
        · have m1 : decide (0 < (k : Int)) = true := decide_eq_true (by omega)
          have m2 : decide (0 < k) = true := decide_eq_true (by omega)
          have e2 := e0.out (by omega)
          obtain ⟨pm, hpm⟩ : ∃ x, x = s.ps[k - 1]'(by omega) := ⟨_, rfl⟩
          rw [← hpm] at e2
          have hNI2 : Hid (NameAt s.ps k hlt ↔ identB nm = true ∧ leqB nm pm = false) := by
            rw [hpm]
            exact ⟨fun h => ⟨(hNI.out.1 h).1, (hNI.out.1 h).2 (by omega)⟩, fun h => hNI.out.2 ⟨h.1, fun _ => h.2⟩⟩
          replace hpm := Lib.hid hpm
          have hbin := leq_bin 9 nm pm
          have j1 : (0 : Int) ≤ (k : Int) - 1 := by omega
          have j2 : (k : Int) - 1 < (s.ps.length : Int) := by omega
          have j3 : ((k : Int) - 1).toNat = k - 1 := by omega
          cases hlq : leqB nm pm with
          | true =>
            have HG : Hid (soundB s = false) := by
              have : namesB s.ps = false := hNk.out fun h => by have := (hNI2.out.1 h).2; rw [hlq] at this; cases this
              unfold Hid soundB
              rw [this]; rfl
            rw [hlq] at hbin
            clear hid hNI hAl hNI2 hlq e0 hNk
            go_wp2_with fail
            refine (kn.out _ (by omega)).mono ?_
            rintro e w2 ⟨rfl, hb⟩
            have hB2 := Lib.hid (hB.out.trans (hb.mono hB.out.size))
            have hX2 := Lib.hid (hX.out.below hb)
            replace e2 := (hb.cell (p := ⟨b, o + (k - 1), none⟩) hbl).trans e2
            clear hb e1 u0 u9
            have u0 := hX2.out.cell (j := 0) rfl
            have u9 := hX2.out.lt
            go_wp2
            go_ret
            exact ⟨ret_bool HG.out.symm, hB2.out⟩
          | false =>
            have HN := Lib.hid (hAl.out (hNI2.out.2 ⟨hid, hlq⟩))
            rw [hlq] at hbin
            clear hid hNI hAl hNI2 hlq e0 hNk
            go_wp2_with fail
            refine (kn.out _ (by omega)).mono ?_
            rintro e w2 ⟨rfl, hb⟩
            have hB2 := Lib.hid (hB.out.trans (hb.mono hB.out.size))
            have hX2 := Lib.hid (hX.out.below hb)
            replace e2 := (hb.cell (p := ⟨b, o + (k - 1), none⟩) hbl).trans e2
            clear hb e1 u0 u9
            have u0 := hX2.out.cell (j := 0) rfl
            have u9 := hX2.out.lt
            go_wp2
            go_roundw
            case rel => exact ⟨k + 1, by omega, by go_num, hB2, hX2, HN⟩
            case measure => simp [intOf]; omega
    · obtain rfl : k = s.ps.length := by omega
      have hnames := hNA.out fun i h => hA.out i h h
      have HG : Hid (soundB s = (decide (s.ps.length ≤ 60) && (goodB s.ps.length s.cap && goodB s.ps.length s.vot))) := by
        unfold Hid soundB
        rw [hnames]; rfl
      clear hnames hA hNA hNB
      have u0 := hX.out.cell (j := 0) rfl
      have u1 := hX.out.cell (j := 1) rfl
      have u2 := hX.out.cell (j := 2) rfl
      have u9 := hX.out.lt
      have hX3 := Lib.hid (hX.out.alloc (.cells #[.int .i64 (s.ps.length : Int)] 3))
      have hN3 : Hid (Bk (wr.alloc (.cells #[.int .i64 (s.ps.length : Int)] 3)) wr.heap.size 3 [.int .i64 (s.ps.length : Int)]) := Bk.new wr _ _
      have hB3 := Lib.hid (hB.out.alloc hB.out.size (.cells #[.int .i64 (s.ps.length : Int)] 3))
      by_cases h60 : s.ps.length ≤ 60
      · cases hgc : goodB s.ps.length s.cap with
        | false =>
          have kc := Lib.hid (kg.out Ac cc wr.heap.size s.cap _ (hE.out.below hB3.out) (hs.out.below hB3.out).cap hs.out.nc hp47 (hN3.out.cell (j := 0) rfl) hs.out.zc hs.out.ic)
          rw [hgc] at kc
          rw [hgc, Bool.false_and, Bool.and_false] at HG
          replace HG := Lib.hid HG.out
          clear hgc kg
          go_wp2_with fail
          refine kc.out.mono ?_
          rintro e w4 ⟨rfl, hb⟩
          have hB4 := Lib.hid (hB3.out.trans (hb.mono hB3.out.size))
          clear hb
          go_wp2
          go_ret
          exact ⟨ret_bool HG.out.symm, hB4.out⟩
        | true =>
          have kc := Lib.hid (kg.out Ac cc wr.heap.size s.cap _ (hE.out.below hB3.out) (hs.out.below hB3.out).cap hs.out.nc hp47 (hN3.out.cell (j := 0) rfl) hs.out.zc hs.out.ic)
          have kv := Lib.hid (fun W h1 h2 h3 => kg.out Av cv wr.heap.size s.vot W h1 h2 hs.out.nv hp47 h3 hs.out.zv hs.out.iv)
          rw [hgc] at kc
          rw [hgc, Bool.true_and, decide_eq_true h60, Bool.true_and] at HG
          replace HG := Lib.hid HG.out
          clear hgc kg
          go_wp2_with fail
          refine kc.out.mono ?_
          rintro e w4 ⟨rfl, hb⟩
          have hB4 := Lib.hid (hB3.out.trans (hb.mono hB3.out.size))
          have hX4 := Lib.hid (hX3.out.below hb)
          have hN4 := Lib.hid (hN3.out.below hb)
          clear hb u0 u1 u2 u9
          have u0 := hX4.out.cell (j := 0) rfl
          have u1 := hX4.out.cell (j := 1) rfl
          have u2 := hX4.out.cell (j := 2) rfl
          have u9 := hX4.out.lt
          go_wp2_with fail
          refine (kv.out _ (hE.out.below hB4.out) (hs.out.below hB4.out).vot (hN4.out.cell (j := 0) rfl)).mono ?_
          rintro e w5 ⟨rfl, hb⟩
          have hB5 := Lib.hid (hB4.out.trans (hb.mono hB4.out.size))
          clear hb
          go_wp2
          go_ret
          exact ⟨ret_bool (by rw [HG.out]), hB5.out⟩
      · have m1 : decide ((s.ps.length : Int) ≤ 60) = false := decide_eq_false (by omega)
        have m2 : decide (s.ps.length ≤ 60) = false := decide_eq_false h60
        rw [m2, Bool.false_and] at HG
        replace HG := Lib.hid HG.out
        go_wp2
        go_ret
        exact ⟨ret_bool HG.out.symm, hB3.out⟩
end Ci
end Go.Proofs.YtpmlhgmmobpilaaGreatDoor
namespace Go.Proofs.YtpmlhgmmobpilaaGreatDoor
open Go.RowKit Go.Shelf
namespace Ci
def intsL (l : List Nat) : List Value := l.map fun (q : Nat) => .int .i64 (q : Int)
theorem intsL_snoc (l : List Nat) (q : Nat) : intsL (l ++ [q]) = intsL l ++ [.int .i64 (q : Int)] := by simp [intsL]
def OffB (u v : Value) : Prop := ∀ b, u.ownBlock = some b → v.ownBlock ≠ some b
/-- Block R has the headers of n slices of ints. -/
structure Gr (W : World) (B R n : Nat) (v : Nat → Value) (adj : Nat → List Nat) : Prop where
  lt : R < W.heap.size
  hd : ∀ i, i < n → W.cell? ⟨R, i, none⟩ = some (v i)
  fr : ∀ i, W.frozen? ⟨R, i, none⟩ = false
  rows : ∀ i, i < n → W.ownsRow B 3 1 (v i) (adj i).length (intsL (adj i))
  apart : ∀ i j, i < n → j < n → i ≠ j → OffB (v i) (v j)
  ne : ∀ i, i < n → (v i).ownBlock ≠ some R
  lowR : B ≤ R
section
variable {W W' : World} {B R n i : Nat} {v : Nat → Value} {adj : Nat → List Nat}
theorem own_below' {base : Nat} {e : TypeId} {size m : Nat} {u : Value} {xs : List Value} (h : W.ownsRow base e size u m xs) (hb : Below W.heap.size W W') : W'.ownsRow base e size u m xs :=
  h.kept (row := none) ⟨hb.os, hb.tape, hb.output, hb.size, fun k hk _ => hb.block k hk⟩ (by
    cases hu : u.ownBlock with
    | none => exact .inl rfl
    | some b => exact .inr (by simp))
theorem Gr.below (h : Gr W B R n v adj) (hb : Below W.heap.size W W') : Gr W' B R n v adj :=
  ⟨Nat.lt_of_lt_of_le h.lt hb.size, fun i hi => (hb.cell (p := ⟨R, i, none⟩) h.lt).trans (h.hd i hi), fun i => (hb.frozen (p := ⟨R, i, none⟩) h.lt).trans (h.fr i), fun i hi => own_below' (h.rows i hi) hb, h.apart, h.ne, h.lowR⟩
theorem Gr.alloc (h : Gr W B R n v adj) (o : Obj) : Gr (W.alloc o) B R n v adj := h.below ((Below.refl _ W).alloc (Nat.le_refl _) o)
theorem Gr.drew (h : Gr W B R n v adj) : Gr W.drew B R n v adj := h.below (Below.refl _ W).drew
theorem Gr.mono {B' : Nat} (h : Gr W B R n v adj) (hb : B' ≤ B) : Gr W B' R n v adj :=
  ⟨h.lt, h.hd, h.fr, fun i hi => by
    obtain ⟨h1, h2⟩ := h.rows i hi
    refine ⟨h1, ?_⟩
    rcases h2 with h2 | ⟨g, cap, cur, hv, hg, hh⟩
    · exact .inl h2
    · exact .inr ⟨g, cap, cur, hv, Nat.le_trans hb hg, hh⟩, h.apart, h.ne, Nat.le_trans hb h.lowR⟩
/-- What a row holds, cell by cell. -/
theorem own_ints {base : Nat} {e : TypeId} {u : Value} {l : List Nat} (h : W.ownsRow base e 1 u l.length (intsL l)) :
    (u = .slice none 0 0 ∧ l = []) ∨ ∃ g cap, u = .slice (some ⟨g, 0, none⟩) l.length cap ∧ base ≤ g ∧ g < W.heap.size ∧ (∀ j, W.frozen? ⟨g, j, none⟩ = false) ∧ ∀ j (hj : j < l.length), W.cell? ⟨g, j, none⟩ = some (.int .i64 (l[j] : Int)) := by
  rcases h.2 with ⟨rfl, h0⟩ | ⟨g, cap, cur, rfl, hb, hg, _⟩
  · exact .inl ⟨rfl, List.length_eq_zero_iff.1 h0⟩
  · refine .inr ⟨g, cap, rfl, hb, (Array.getElem?_eq_some_iff.1 hg).1, fun j => by simp [World.frozen?, hg], fun j hj => ?_⟩
    have hc := h.cells (g := g) (by simp [Value.ownBlock]) j (.int .i64 (l[j] : Int)) (by simp [intsL, hj])
    have hadd : ∀ o, (⟨g, 0, none⟩ : Addr).add o = ⟨g, o, none⟩ := fun o => by unfold Addr.add; split <;> simp_all
    rwa [hadd] at hc
theorem Gr.start (w : World) {B : Nat} (hB : B ≤ w.heap.size) (n : Nat) (t : TypeId) : Gr (w.alloc (.cells (madeCells #[.slice none 0 0] n) t)) B w.heap.size n (fun _ => .slice none 0 0) fun _ => [] := by
  have h := heap_alloc_new w (.cells (madeCells #[(.slice none 0 0 : Value)] n) t)
  refine ⟨by simp, fun x hx => ?_, fun x => by simp only [World.frozen?, h]; simp, fun _ _ => World.ownsRow_nil _ _ _ _, fun _ _ _ _ _ b hb => (by cases hb), fun _ _ hb => (by cases hb), hB⟩
  simp only [World.cell?, h]
  simp [madeCells, hx]
  rw [Nat.mod_one]
  rfl
def setL (adj : Nat → List Nat) (x q : Nat) : Nat → List Nat := fun i => if i = x then adj i ++ [q] else adj i
/-- A row has grown, and its header is stored anew. -/
theorem Gr.step (h : Gr W B R n v adj) {x q : Nat} (hx : x < n) {u : Value} (hg : W.grownBy W' (v x).ownBlock) (ho : W'.ownsRow B 3 1 u ((adj x).length + 1) (intsL (adj x) ++ [.int .i64 (q : Int)])) (hn : u.ownBlock = (v x).ownBlock ∨ u.ownBlock = some W.heap.size) :
    Gr (W'.setCell ⟨R, x, none⟩ u) B R n (fun i => if i = x then u else v i) (setL adj x q) := by
  have hRx : some R ≠ (v x).ownBlock := fun e => h.ne x hx e.symm
  have hbR : W'.heap[R]? = W.heap[R]? := hg.block R h.lt hRx
  have hcell : ∀ i, W'.cell? ⟨R, i, none⟩ = W.cell? ⟨R, i, none⟩ := fun i => World.cell?_of_block (a := ⟨R, i, none⟩) hbR
  have hfr : ∀ i, W'.frozen? ⟨R, i, none⟩ = W.frozen? ⟨R, i, none⟩ := fun i => World.frozen?_of_block (a := ⟨R, i, none⟩) hbR
  have huR : u.ownBlock ≠ some R := fun e => by
    rcases hn with hn | hn
    · exact h.ne x hx (by rw [← hn, e])
    · rw [e] at hn
      have := h.lt
      simp only [Option.some.injEq] at hn
      omega
  have hne : ∀ a b : Nat, a ≠ b → (⟨R, a, none⟩ : Addr) ≠ ⟨R, b, none⟩ := fun a b e1 e2 => by injection e2 with _ e3; exact e1 e3
  have far : ∀ {m : Nat} {z : Value} {xs : List Value}, W'.ownsRow B 3 1 z m xs → z.ownBlock ≠ some R → (W'.setCell ⟨R, x, none⟩ u).ownsRow B 3 1 z m xs := fun h hz =>
    h.kept (row := some R) ⟨rfl, rfl, rfl, by simp, fun k _ hk => Below.heap_setCell _ _ _ _ (fun e => hk (by rw [e]))⟩ (.inr hz)
  have hoff : ∀ i, i < n → i ≠ x → OffB (v i) u := fun i hi hix b hb e => by
    rcases hn with hn | hn
    · exact h.apart i x hi hx hix b hb (by rw [← hn, e])
    · have := ((h.rows i hi).lt b hb).2
      rw [e] at hn
      simp only [Option.some.injEq] at hn
      omega
  refine ⟨by have := hg.size; have := h.lt; simp; omega, fun i hi => ?_, fun i => by simpa [hfr] using h.fr i, fun i hi => ?_, fun i j hi hj e => ?_, fun i hi => ?_, h.lowR⟩
  · by_cases e : i = x
    · subst e
      rw [if_pos rfl]
      exact World.cell?_setCell_same _ _ _ ((hcell i).trans (h.hd i hi))
    · rw [if_neg e, World.cell?_setCell_other _ _ _ _ (by first | exact hne _ _ e | exact hne _ _ fun c => e c.symm), hcell]
      exact h.hd i hi
  · by_cases e : i = x
    · subst e
      rw [if_pos rfl]
      have : setL adj i q i = adj i ++ [q] := if_pos rfl
      rw [this, List.length_append, intsL_snoc]
      exact far ho huR
    · rw [if_neg e]
      have : setL adj x q i = adj i := if_neg e
      rw [this]
      refine far ((h.rows i hi).kept hg ?_) (h.ne i hi)
      cases hv : (v i).ownBlock with
      | none => exact .inl rfl
      | some b => exact .inr fun c => h.apart i x hi hx e b hv c.symm
  · by_cases e1 : i = x
    · have e2 : j ≠ x := fun c => e (by rw [e1, c])
      rw [if_pos e1, if_neg e2]
      exact fun b hb hc => hoff j hj e2 b hc hb
    · rw [if_neg e1]
      by_cases e2 : j = x
      · rw [if_pos e2]
        exact hoff i hi e1
      · rw [if_neg e2]
        exact h.apart i j hi hj e
  · by_cases e : i = x
    · rw [if_pos e]; exact huR
    · rw [if_neg e]; exact h.ne i hi
theorem Gr.congr {a' : Nat → List Nat} (h : Gr W B R n v adj) (e : ∀ i, i < n → adj i = a' i) : Gr W B R n v a' :=
  ⟨h.lt, h.hd, h.fr, fun i hi => by rw [← e i hi]; exact h.rows i hi, h.apart, h.ne, h.lowR⟩
end
end Ci
end Go.Proofs.YtpmlhgmmobpilaaGreatDoor
namespace Go.Proofs.YtpmlhgmmobpilaaGreatDoor
open Go.RowKit Go.Shelf
namespace Ci
section
variable {w w' : World} {base : Nat} {e : TypeId} {size : Nat} {u v v' : Value} {n : Nat} {xs : List Value}
theorem run_append_at {P : Program} (t ty e : TypeId) (i : TypeInfo) (z : Value) (size bytes : Nat) (ht : P.underlying t = some (.slice e)) (hi : P.info? e = some i) (hz : i.zero = some z)
    (hsize : i.size = size) (hby : i.bytes = bytes) (v : Value) (n : Nat) (xs : List Value) (hown : w.ownsRow base e size v n xs)
    (a : Addr) (m c : Nat) (news : List Value) (hl : news.length = m * size) (hnews : ∀ j u, news[j]? = some u → w.cell? (a.add j) = some u) (h1 : ∀ u ∈ news, u.oneCell' = true) (hm : 0 < m)
    (h63 : n + m ≤ maxLen) (hbytes : (n + m) * bytes ≤ 140737488355328) {v' : Value} {w' : World} (hr : (Builtin.append_ #[t, t] ty #[v, .slice (some a) m c]).run P w = .ok v' w') :
    v'.ownBlock = v.ownBlock ∨ v'.ownBlock = some w.heap.size := by
  subst hsize
  subst hby
  have hsmall : n + m ≤ 9223372036854775807 := by simp only [maxLen] at h63; omega
  rcases hown.2 with ⟨rfl, rfl⟩ | ⟨g, cap, cur, rfl, _, hg, _, hcm, hcs, _⟩
  · have hr2 := run_append_nil (P := P) w t ty e i z ht hi hz a m c news hl hnews (by omega) (by omega) (by have hb := hbytes; simp only [Nat.zero_add] at hb; omega)
    rw [hr2] at hr
    simp only [Result.ok.injEq] at hr
    rw [← hr.1]
    exact .inr rfl
  · by_cases hroom : n + m ≤ cap
    · have hfit : n * i.size + news.length ≤ cur.size := by rw [hl, hcs, ← Nat.add_mul]; exact Nat.mul_le_mul_right _ hroom
      have hr2 := run_append_room (P := P) w t ty e i ht hi g n cap cur hg a m c news hl hnews h1 hroom hfit
      rw [hr2] at hr
      simp only [Result.ok.injEq] at hr
      rw [← hr.1]
      exact .inl rfl
    · have holds : ∀ j u, xs[j]? = some u → w.cell? ((⟨g, 0, none⟩ : Addr).add j) = some u := hown.cells (g := g) rfl
      have hr2 := run_append_grow (P := P) w t ty e i z ht hi hz ⟨g, 0, none⟩ n cap xs hown.1 holds a m c news hl hnews (by omega) (by omega) (growslice_fits (by omega) hbytes)
      rw [hr2] at hr
      simp only [Result.ok.injEq] at hr
      rw [← hr.1]
      exact .inr rfl
end
/-- append's law, and where the new slice lies. -/
theorem wpList_append_new {P : Program} (w : World) {ops : Array Oper} {rest : List Oper} {o : Oper} {a : Act} {Q : Exit → Act → World → Prop} (hgd : o.guard = none) (s x : Operand) (t : TypeId)
    (ho : o.op = .call { callee := .builtin .append, args := #[s, x], argTypes := #[t, t] })
    (base : Nat) (e : TypeId) (i : TypeInfo) (z : Value) (size bytes : Nat) (ht : P.underlying t = some (.slice e)) (hi : P.info? e = some i) (hz : i.zero = some z)
    (hsize : i.size = size) (hby : i.bytes = bytes) (hzs : z.cells.size = size) (hsz : 0 < size)
    (v : Value) (n : Nat) (xs : List Value) (hs : a.eval s = v) (hown : w.ownsRow base e size v n xs)
    (ad : Addr) (m c : Nat) (news : List Value) (hx : a.eval x = .slice (some ad) m c) (hl : news.length = m * size) (hnews : ∀ j u, news[j]? = some u → w.cell? (ad.add j) = some u) (h1 : ∀ u ∈ news, u.oneCell' = true) (hm : 0 < m)
    (h63 : n + m ≤ maxLen) (hbytes : (n + m) * bytes ≤ 140737488355328) (hbase : base ≤ w.heap.size)
    (h : ∀ v' w', w'.ownsRow base e size v' (n + m) (xs ++ news) → w.grownBy w' v.ownBlock → (v'.ownBlock = v.ownBlock ∨ v'.ownBlock = some w.heap.size) → wpList P ops Q rest (a.put o.dst v') w') : wpList P ops Q (o :: rest) a w :=
  wpList_plain hgd fun _ hK => by
    obtain ⟨v', w', hr, h2, h3, _⟩ := run_append_own (P := P) w base t o.type e i z size bytes ht hi hz hsize hby hzs hsz v n xs hown ad m c news hl hnews h1 h63 hbytes hbase
    have h5 := run_append_at (P := P) t o.type e i z size bytes ht hi hz hsize hby v n xs hown ad m c news hl hnews h1 hm h63 hbytes hr
    unfold Oper.wp execOp
    simp only [ho, resolve, invoke, builtin, Sem.run_bind, Sem.run_pure, Result.andThen_ok, List.map_toArray, List.map_cons, List.map_nil, hs, hx, hr]
    exact hK _ _ (h v' w' h2 h3 h5)
theorem one_cell1 (v : Value) (h : v.oneCell' = true) : ∀ u ∈ [v], u.oneCell' = true := fun u hu => by rw [List.mem_singleton.1 hu]; exact h
theorem head_new (w : World) (v : Value) (t : TypeId) : ∀ j u, [v][j]? = some u → (w.alloc (.cells #[v] t)).cell? (Addr.add ⟨w.heap.size, 0, none⟩ j) = some u := by
  intro j u hj
  match j, hj with
  | 0, hj => simp at hj; subst hj; simp [Addr.add]
  | j + 1, hj => simp at hj
theorem wp_append_new {P : Program} (w : World) {o : Oper} {a : Act} {K : Act → World → Prop} {Q : Exit → Act → World → Prop} (s x : Operand) (t : TypeId)
    (ho : o.op = .call { callee := .builtin .append, args := #[s, x], argTypes := #[t, t] })
    (base : Nat) (e : TypeId) (i : TypeInfo) (z : Value) (size bytes : Nat) (ht : P.underlying t = some (.slice e)) (hi : P.info? e = some i) (hz : i.zero = some z)
    (hsize : i.size = size) (hby : i.bytes = bytes) (hzs : z.cells.size = size) (hsz : 0 < size)
    (v : Value) (n : Nat) (xs : List Value) (hs : a.eval s = v) (hown : w.ownsRow base e size v n xs)
    (ad : Addr) (m c : Nat) (news : List Value) (hx : a.eval x = .slice (some ad) m c) (hl : news.length = m * size) (hnews : ∀ j u, news[j]? = some u → w.cell? (ad.add j) = some u) (h1 : ∀ u ∈ news, u.oneCell' = true) (hm : 0 < m)
    (h63 : n + m ≤ maxLen) (hbytes : (n + m) * bytes ≤ 140737488355328) (hbase : base ≤ w.heap.size)
    (h : ∀ v' w', w'.ownsRow base e size v' (n + m) (xs ++ news) → w.grownBy w' v.ownBlock → (v'.ownBlock = v.ownBlock ∨ v'.ownBlock = some w.heap.size) → K (a.put o.dst v') w') : o.wp P a w K Q := by
  obtain ⟨v', w', hr, h2, h3, _⟩ := run_append_own (P := P) w base t o.type e i z size bytes ht hi hz hsize hby hzs hsz v n xs hown ad m c news hl hnews h1 h63 hbytes hbase
  have h5 := run_append_at (P := P) t o.type e i z size bytes ht hi hz hsize hby v n xs hown ad m c news hl hnews h1 hm h63 hbytes hr
  unfold Oper.wp execOp
  simp only [ho, resolve, invoke, builtin, Sem.run_bind, Sem.run_pure, Result.andThen_ok, List.map_toArray, List.map_cons, List.map_nil, hs, hx, hr]
  exact h v' w' h2 h3 h5
end Ci
end Go.Proofs.YtpmlhgmmobpilaaGreatDoor
namespace Go.Proofs.YtpmlhgmmobpilaaGreatDoor
open Go.RowKit Go.Shelf
namespace Ci
open Nt
theorem infoG : (Tryz.prog.info? 24).map (fun i => (i.zero, i.size, i.bytes)) = some (some (.slice none 0 0), 1, 24) := by kernel_rfl
theorem infoI : (Tryz.prog.info? 3).map (fun i => (i.zero, i.size, i.bytes)) = some (some (.int .i64 0), 1, 8) := by kernel_rfl
/-- Whom party p leads to, by the first k links. -/
def adjO (E : List (Nat × Nat)) (k p : Nat) : List Nat := ((E.take k).filter fun x => decide (x.1 = p)).map (·.2)
theorem adjO_succ {E : List (Nat × Nat)} {k : Nat} (h : k < E.length) (p : Nat) : adjO E (k + 1) p = setL (adjO E k) E[k].1 E[k].2 p := by
  unfold adjO setL
  rw [List.take_succ_eq_append_getElem h, List.filter_append, List.map_append]
  by_cases e : E[k].1 = p
  · rw [if_pos e.symm, List.filter_cons, if_pos (by simpa using e)]; rfl
  · rw [if_neg (fun c => e c.symm), List.filter_cons, if_neg (by simpa using e)]; simp
theorem mem_adjO {E : List (Nat × Nat)} {p q : Nat} : q ∈ adjO E E.length p ↔ (p, q) ∈ E := by
  unfold adjO
  rw [List.take_length]
  simp only [List.mem_map, List.mem_filter, decide_eq_true_eq]
  constructor
  · rintro ⟨x, ⟨h1, rfl⟩, rfl⟩
    exact h1
  · exact fun h => ⟨(p, q), ⟨h, rfl⟩, rfl⟩
set_option maxRecDepth 100000 in
set_option maxHeartbeats 16000000 in
theorem of_any (s : SR) (Ap Ac Av : Option Addr) (cp cc cv : Nat) (w : World) (hs : StIn w s Ap Ac Av) (hn : s.ps.length ≤ 100) (hc3 : s.cap.length ≤ 300) (hin : ∀ x, x ∈ s.cap → (0 ≤ x.1 ∧ x.1 < s.ps.length) ∧ (0 ≤ x.2.1 ∧ x.2.1 < s.ps.length)) :
    Calls Tryz.prog 121 #[.agg #[.slice Ap s.ps.length cp, .slice Ac s.cap.length cc, .slice Av s.vot.length cv]] w fun e w' => (∃ R v, e = .returned (.slice (some ⟨R, 0, none⟩) s.ps.length s.ps.length) ∧ Gr w' w.heap.size R s.ps.length v (adjO (edges s) (edges s).length)) ∧ Below w.heap.size w w' := by
  have hmk := run_make_row' (P := Tryz.prog) 137 24 (.slice none 0 0) 24 Tryz.underlying137 infoG rfl .i64 .i64 s.ps.length (by omega) (by omega)
  have hX0 : Hid (Bk (w.alloc (.cells #[.slice Ap s.ps.length cp, .slice Ac s.cap.length cc, .slice Av s.vot.length cv] 54)) w.heap.size 54 (SC s Ap Ac Av cp cc cv)) := Bk.new w _ _
  have hB0 : Hid (Below w.heap.size w (w.alloc (.cells #[.slice Ap s.ps.length cp, .slice Ac s.cap.length cc, .slice Av s.vot.length cv] 54))) := (Below.refl _ w).alloc (Nat.le_refl _) _
  have u0 := hX0.out.cell (j := 0) rfl
  have u1 := hX0.out.cell (j := 1) rfl
  have u9 := hX0.out.lt
  have hG0 : Hid (Gr ((w.alloc (.cells #[.slice Ap s.ps.length cp, .slice Ac s.cap.length cc, .slice Av s.vot.length cv] 54)).alloc (.cells (madeCells #[(.slice none 0 0 : Value)] s.ps.length) 24)) w.heap.size (w.heap.size + 1) s.ps.length (fun _ => .slice none 0 0) (adjO (edges s) 0)) := by
    have h := Gr.start (w.alloc (.cells #[.slice Ap s.ps.length cp, .slice Ac s.cap.length cc, .slice Av s.vot.length cv] 54)) (B := w.heap.size) (by simp) s.ps.length 24
    rw [World.size_alloc] at h
    exact h.congr fun i _ => rfl
  have hB1 : Hid (Below w.heap.size w ((w.alloc (.cells #[.slice Ap s.ps.length cp, .slice Ac s.cap.length cc, .slice Av s.vot.length cv] 54)).alloc (.cells (madeCells #[(.slice none 0 0 : Value)] s.ps.length) 24))) := hB0.out.alloc hB0.out.size _
  have hX1 := Lib.hid (hX0.out.alloc (.cells (madeCells #[(.slice none 0 0 : Value)] s.ps.length) 24))
  have v1 := hX1.out.cell (j := 1) rfl
  have v9 := hX1.out.lt
  obtain ⟨i0, hi0, hzz⟩ := Option.map_eq_some_iff.1 infoI
  simp only [Prod.mk.injEq] at hzz
  obtain ⟨hz0, hz1, hz2⟩ := hzz
  replace hi0 := Lib.hid hi0
  replace hz0 := Lib.hid hz0
  replace hz1 := Lib.hid hz1
  replace hz2 := Lib.hid hz2
  have hel : Hid ((edges s).length = s.cap.length) := by unfold Hid edges; simp
  have hap : Hid (∀ k p, (adjO (edges s) k p).length ≤ 300) := fun k p => by
    unfold adjO
    rw [List.length_map]
    have h1 := List.length_filter_le (fun x : Nat × Nat => decide (x.1 = p)) ((edges s).take k)
    have h2 : ((edges s).take k).length ≤ (edges s).length := List.length_take_le' _ _
    have := hel.out
    omega
  replace hs := Lib.hid hs
  replace hin := Lib.hid hin
  go_enter Tryz.func121, Tryz.ntmps121
  go_wp2
  clear hmk u0 u1 u9 v1 v9
  go_loopw [13] (fun i wr => ∃ (k : Nat) (v : Nat → Value), k ≤ s.cap.length ∧ i = .int .i64 (k : Int) ∧ Hid (Below w.heap.size w wr) ∧ Hid (Gr wr w.heap.size (w.heap.size + 1) s.ps.length v (adjO (edges s) k))) (fun i _ => s.cap.length - (intOf i).toNat)
  case atStart => exact ⟨0, _, Nat.zero_le _, rfl, hB1, hG0⟩
  case round =>
    obtain ⟨k, v, hk, rfl, hB, hG⟩ := hrel
    clear hX0 hB0 hG0 hB1 hX1
    by_cases hlt : k < s.cap.length
    · obtain ⟨b, o, rfl, hbl, hcc⟩ := (hs.out.below hB.out).cap (by omega)
      obtain ⟨e1, e2, e3, e4, e5⟩ := hcc k hlt
      have hix := hin.out s.cap[k] (List.getElem_mem hlt)
      have hek : Hid (∀ p, adjO (edges s) (k + 1) p = setL (adjO (edges s) k) s.cap[k].2.1.toNat s.cap[k].1.toNat p) := fun p => by
        have h := adjO_succ (E := edges s) (k := k) (by rw [hel.out]; exact hlt) p
        have h2 : (edges s)[k]'(by rw [hel.out]; exact hlt) = (s.cap[k].2.1.toNat, s.cap[k].1.toNat) := by unfold edges; simp
        rw [h2] at h
        exact h
      obtain ⟨x, hx⟩ : ∃ x, x = s.cap[k] := ⟨_, rfl⟩
      rw [← hx] at e1 e2 e3 e4 e5 hix hek
      obtain ⟨coI, hoI, g, nn, dd⟩ := x
      obtain ⟨⟨i1, i2⟩, i3, i4⟩ := hix
      replace i1 : 0 ≤ coI := i1
      replace i2 : coI < s.ps.length := i2
      replace i3 : 0 ≤ hoI := i3
      replace i4 : hoI < s.ps.length := i4
      obtain ⟨co, rfl⟩ : ∃ c : Nat, coI = (c : Int) := ⟨coI.toNat, by omega⟩
      obtain ⟨ho, rfl⟩ : ∃ c : Nat, hoI = (c : Int) := ⟨hoI.toNat, by omega⟩
      replace e1 : wr.cell? ⟨b, o + k * 5, none⟩ = some (.int .i64 (co : Int)) := e1
      replace e2 : wr.cell? ⟨b, o + k * 5 + 1, none⟩ = some (.int .i64 (ho : Int)) := e2
      replace e3 : wr.cell? ⟨b, o + k * 5 + 2, none⟩ = some (.bool g) := e3
      replace e4 : wr.cell? ⟨b, o + k * 5 + 3, none⟩ = some (.string nn) := e4
      replace e5 : wr.cell? ⟨b, o + k * 5 + 4, none⟩ = some (.string dd) := e5
      replace hek : Hid (∀ p, adjO (edges s) (k + 1) p = setL (adjO (edges s) k) ho co p) := fun p => by have h := hek.out p; simpa using h
      replace hx := Lib.hid hx
      have j0 : (0 : Int) ≤ (k : Int) := by omega
      have j1 : (k : Int) < (s.cap.length : Int) := by omega
      have hho : ho < s.ps.length := by omega
      have hx1 : Hid (Bk (wr.alloc (.cells #[.int .i64 (co : Int), .int .i64 (ho : Int), .bool g, .string nn, .string dd] 94)) wr.heap.size 94 [.int .i64 (co : Int), .int .i64 (ho : Int), .bool g, .string nn, .string dd]) := Bk.new wr _ _
      have hBw := Lib.hid (hB.out.alloc hB.out.size (.cells #[.int .i64 (co : Int), .int .i64 (ho : Int), .bool g, .string nn, .string dd] 94))
      have hGw := Lib.hid (hG.out.alloc (.cells #[.int .i64 (co : Int), .int .i64 (ho : Int), .bool g, .string nn, .string dd] 94))
      have hxw : w.heap.size + 1 < wr.heap.size := hG.out.lt
      clear hcc
      go_wp2_with fail
      obtain ⟨W1, hW1⟩ : ∃ W, W = wr.alloc (.cells #[.int .i64 (co : Int), .int .i64 (ho : Int), .bool g, .string nn, .string dd] 94) := ⟨_, rfl⟩
      rw [← hW1] at hx1 hBw hGw ⊢
      obtain ⟨xb, hxb⟩ : ∃ b, b = wr.heap.size := ⟨_, rfl⟩
      rw [← hxb] at hx1 hxw ⊢
      obtain ⟨vh, hvh⟩ : ∃ x, x = v ho := ⟨_, rfl⟩
      have hhd := hGw.out.hd ho hho
      have hrow := Lib.hid (hGw.out.rows ho hho)
      rw [← hvh] at hhd hrow
      have hnx : Hid (vh.ownBlock ≠ some xb) := fun e => by
        have h1 := (hG.out.rows ho hho).lt xb (by rw [← hvh]; exact e)
        omega
      have hnR : Hid (vh.ownBlock ≠ some (w.heap.size + 1)) := by rw [hvh]; exact hG.out.ne ho hho
      replace hvh := Lib.hid hvh
      clear hxb
      clear hW1 hB hG e1 e2 e3 e4 e5 hbl
      have hlR := hGw.out.lt
      have hlx := hx1.out.lt
      have HO : Hid (∀ W, Below W1.heap.size W1 W → W.cell? ⟨xb, 0, none⟩ = some (.int .i64 (co : Int)) ∧ W.cell? ⟨xb, 1, none⟩ = some (.int .i64 (ho : Int))) := fun W h =>
        ⟨(hx1.out.below h).cell (j := 0) rfl, (hx1.out.below h).cell (j := 1) rfl⟩
      have hal := hap.out k ho
      have q0 : (0 : Int) ≤ (ho : Int) := by omega
      have q1 : (ho : Int) < (s.ps.length : Int) := by omega
      refine wp_region_noPanic ?_
      refine wp_region_held_drew (S := fun W => W.cell? ⟨xb, 0, none⟩ = some (.int .i64 (co : Int)) ∧ W.cell? ⟨xb, 1, none⟩ = some (.int .i64 (ho : Int))) (by kernel_rfl) (HO.out _ (Below.refl _ _).drew) (fun hS0 => ?_)
      replace hS0 := Lib.hid hS0
      refine wpAnyH_take (i := 0) (oi := _) (v := ?_) rfl (by kernel_rfl) (by kernel_rfl) (by kernel_rfl) (fun _ _ _ h => h) (Or.inl ⟨by rfl, ?_⟩) (hS0.out) ?_
      rotate_left
      · (intro w hSw; obtain ⟨q1, q2⟩ := hSw; go_simp <;> with_reducible rfl)
      try simp only [Act.put, List.setIfInBounds_toArray]
      refine wpAnyH_take (i := 1) (oi := _) (v := ?_) rfl (by kernel_rfl) (by kernel_rfl) (by kernel_rfl) (fun _ _ _ h => h) (Or.inl ⟨by rfl, ?_⟩) (hS0.out) ?_
      rotate_left
      · (intro w hSw; obtain ⟨q1, q2⟩ := hSw; go_simp <;> with_reducible rfl)
      try simp only [Act.put]
      refine wpAnyH_take (i := 2) (oi := _) (v := ?_) rfl (by kernel_rfl) (by kernel_rfl) (by kernel_rfl) (fun _ _ _ h => h) (Or.inl ⟨by rfl, ?_⟩) (hS0.out) ?_
      rotate_left
      · (intro w hSw; obtain ⟨q1, q2⟩ := hSw; go_simp <;> with_reducible rfl)
      try simp only [Act.put]
      refine wpAnyH_take (i := 3) (oi := _) (v := ?_) rfl (by kernel_rfl) (by kernel_rfl) (by kernel_rfl) (fun _ _ _ h => h) (Or.inl ⟨by rfl, ?_⟩) (hS0.out) ?_
      rotate_left
      · (intro w hSw; obtain ⟨q1, q2⟩ := hSw; go_simp <;> with_reducible rfl)
      try simp only [Act.put]
      refine wpAnyH_take (i := 4) (oi := _) (v := ?_) rfl (by kernel_rfl) (by kernel_rfl) (by kernel_rfl) (fun _ _ _ h => h) (Or.inl ⟨by rfl, ?_⟩) (hS0.out) ?_
      rotate_left
      · (intro w hSw; obtain ⟨q1, q2⟩ := hSw; go_simp <;> with_reducible rfl)
      try simp only [Act.put]
      refine wpAnyH_take (i := 5) (oi := _) (v := ?_) rfl (by kernel_rfl) (by kernel_rfl) (by kernel_rfl) (fun _ _ _ h => h) (Or.inl ⟨by rfl, ?_⟩) (hS0.out) ?_
      rotate_left
      · (intro w hSw; obtain ⟨q1, q2⟩ := hSw; go_simp <;> with_reducible rfl)
      try simp only [Act.put]
      refine wpAnyH_take (i := 6) (oi := _) (v := ?_) rfl (by kernel_rfl) (by kernel_rfl) (by kernel_rfl) (fun _ _ _ h => h) (Or.inl ⟨by rfl, ?_⟩) (hS0.out) ?_
      rotate_left
      · (intro w hSw; obtain ⟨q1, q2⟩ := hSw; go_simp <;> with_reducible rfl)
      try simp only [Act.put]
      refine wpAnyH_take (i := 8) (oi := _) (v := ?_) rfl (by kernel_rfl) (by kernel_rfl) (by kernel_rfl) (fun _ _ _ h => h) (Or.inl ⟨by rfl, ?_⟩) (hS0.out) ?_
      rotate_left
      · (intro w hSw; obtain ⟨q1, q2⟩ := hSw; go_simp <;> with_reducible rfl)
      try simp only [Act.put]
      refine wpAnyH_take (i := 9) (oi := _) (v := ?_) rfl (by kernel_rfl) (by kernel_rfl) (by kernel_rfl) (fun _ _ _ h => h) (Or.inl ⟨by rfl, ?_⟩) (hS0.out) ?_
      rotate_left
      · (intro w hSw; obtain ⟨q1, q2⟩ := hSw; go_simp <;> with_reducible rfl)
      try simp only [Act.put]
      have hBe : Hid (Below W1.heap.size W1 W1.drew) := (Below.refl _ W1).drew
      have hB3 : Hid (Below W1.heap.size W1 (W1.alloc (.cells #[.int .i64 (co : Int)] 3)).drew) := ((Below.refl _ W1).alloc (Nat.le_refl _) _).drew
      refine wpAnyH_ready (rs := [7, 10]) (by kernel_rfl) (by simp) ?_
      refine AllReadyH.cons (o := _) rfl (fun K hK => ?_) ?_
      · have hh := (hBe.out.cell (p := ⟨w.heap.size + 1, ho, none⟩) hlR).trans hhd
        go_simp
        clear hh
        refine hK.out _ _ (HO.out _ hBe.out) (fun _ => ?_)
        clear hK K
        try simp only [Act.put, List.setIfInBounds_toArray, List.set_cons_zero, List.set_cons_succ]
        refine wpAnyH_ready (rs := [10]) (by kernel_rfl) (by simp) ?_
        refine AllReadyH.cons (o := _) rfl (fun K hK => ?_) ?_
        · go_simp
          refine hK.out _ _ (HO.out _ hB3.out) (fun _ => ?_)
          clear hK K
          try simp only [Act.put, List.setIfInBounds_toArray, List.set_cons_zero, List.set_cons_succ]
          refine wpAnyH_ready (rs := [11]) (by kernel_rfl) (by simp) ?_
          refine AllReadyH.cons (o := _) rfl (fun K hK => ?_) ?_
          · rw [if_pos (by rfl)]
            refine wp_append_new _ _ _ 24 rfl w.heap.size 3 i0 (.int .i64 0) 1 8 Tryz.underlying24 hi0.out hz0.out hz1.out hz2.out rfl (by decide) vh (adjO (edges s) k ho).length (intsL (adjO (edges s) k ho)) rfl (own_below' hrow.out hB3.out) ⟨W1.heap.size, 0, none⟩ 1 1 [.int .i64 (co : Int)] rfl rfl (head_new W1 _ _) (one_cell1 _ rfl) (by omega) (by unfold maxLen; omega) (by omega) (hBw.out.trans (hB3.out.mono hBw.out.size)).size ?_
            intro vb wb hob hgb hnb
            have hx4 : Hid (Bk wb xb 94 [.int .i64 (co : Int), .int .i64 (ho : Int), .bool g, .string nn, .string dd]) := (hx1.out.below hB3.out).grown hgb (fun e => hnx.out e.symm)
            have hB2 := Lib.hid (hBw.out.trans (hB3.out.mono hBw.out.size))
            have hB4 : Hid (Below w.heap.size w wb) := hB2.out.grown hgb hB2.out.size (fun b e => (hrow.out.lt b e).1)
            have hG9 : Hid (Gr (wb.setCell ⟨w.heap.size + 1, ho, none⟩ vb) w.heap.size (w.heap.size + 1) s.ps.length (fun i => if i = ho then vb else v i) (adjO (edges s) (k + 1))) := by
              have h := ((hGw.out.alloc (.cells #[.int .i64 (co : Int)] 3)).drew).step (q := co) hho (u := vb) (W' := wb) (by rw [← hvh.out]; exact hgb) hob (by rw [← hvh.out]; exact hnb)
              exact h.congr fun i _ => (hek.out i).symm
            have hB9 : Hid (Below w.heap.size w (wb.setCell ⟨w.heap.size + 1, ho, none⟩ vb)) := hB4.out.setCell (p := ⟨w.heap.size + 1, ho, none⟩) (Nat.le_succ _) _
            have hbk := hgb.block (w.heap.size + 1) (Nat.lt_of_lt_of_le hlR hB3.out.size) (fun e => hnR.out e.symm)
            have y1 := (World.cell?_of_block (a := ⟨w.heap.size + 1, ho, none⟩) hbk).trans ((hB3.out.cell (p := ⟨w.heap.size + 1, ho, none⟩) hlR).trans hhd)
            have y2 := (World.frozen?_of_block (a := ⟨w.heap.size + 1, ho, none⟩) hbk).trans ((hB3.out.frozen (p := ⟨w.heap.size + 1, ho, none⟩) hlR).trans (hGw.out.fr ho))
            have y3 : w.heap.size + 1 < wb.heap.size := Nat.lt_of_lt_of_le (Nat.lt_of_lt_of_le hlR hB3.out.size) hgb.size
            rcases hob.2 with ⟨_, hnil⟩ | ⟨g9, cap9, cur9, rfl, _⟩
            · exact absurd hnil (by omega)
            clear hob hgb hnb hek hB3 hbk hB2
            refine hK.out _ _ ⟨hx4.out.cell (j := 0) rfl, hx4.out.cell (j := 1) rfl⟩ (fun _ => ?_)
            clear hK K
            try simp only [Act.put, List.setIfInBounds_toArray]
            refine wpAnyH_take (i := 12) (oi := _) (v := ?_) rfl (by kernel_rfl) (by kernel_rfl) (by kernel_rfl) (fun _ _ _ h => h) (Or.inl ⟨by rfl, ?_⟩) (⟨hx4.out.cell (j := 0) rfl, hx4.out.cell (j := 1) rfl⟩) ?_
            rotate_left
            · (intro w hSw; obtain ⟨q1, q2⟩ := hSw; go_simp <;> with_reducible rfl)
            try simp only [Act.put]
            refine wpAnyH_ready (rs := [13]) (by kernel_rfl) (by simp) ?_
            refine AllReadyH.cons (o := _) rfl (fun K hK => ?_) ?_
            · go_simp
              refine hK.out _ _ ⟨(hx4.out.far (p := ⟨w.heap.size + 1, ho, none⟩) (Nat.ne_of_gt hxw) _).cell (j := 0) rfl, (hx4.out.far (p := ⟨w.heap.size + 1, ho, none⟩) (Nat.ne_of_gt hxw) _).cell (j := 1) rfl⟩ (fun _ => ?_)
              clear hK K
              try simp only [Act.put, List.setIfInBounds_toArray, List.set_cons_zero, List.set_cons_succ]
              refine wpAnyH_done (by kernel_rfl) ?_ _
              refine NoPanic.normal ?_
              clear y1 y2 y3 HO hal
              go_wp2
              go_roundw
              case rel => exact ⟨k + 1, _, by omega, by go_num, hB9, hG9⟩
              case measure => simp [intOf]; omega
            exact AllReadyH.nil
          exact AllReadyH.nil
        exact AllReadyH.nil
      refine AllReadyH.cons (o := _) rfl (fun K hK => ?_) ?_
      · go_simp
        refine hK.out _ _ (HO.out _ hB3.out) (fun _ => ?_)
        clear hK K
        try simp only [Act.put, List.setIfInBounds_toArray, List.set_cons_zero, List.set_cons_succ]
        refine wpAnyH_ready (rs := [7]) (by kernel_rfl) (by simp) ?_
        refine AllReadyH.cons (o := _) rfl (fun K hK => ?_) ?_
        · have hh := (hB3.out.cell (p := ⟨w.heap.size + 1, ho, none⟩) hlR).trans hhd
          go_simp
          clear hh
          refine hK.out _ _ (HO.out _ hB3.out) (fun _ => ?_)
          clear hK K
          try simp only [Act.put, List.setIfInBounds_toArray, List.set_cons_zero, List.set_cons_succ]
          refine wpAnyH_ready (rs := [11]) (by kernel_rfl) (by simp) ?_
          refine AllReadyH.cons (o := _) rfl (fun K hK => ?_) ?_
          · rw [if_pos (by rfl)]
            refine wp_append_new _ _ _ 24 rfl w.heap.size 3 i0 (.int .i64 0) 1 8 Tryz.underlying24 hi0.out hz0.out hz1.out hz2.out rfl (by decide) vh (adjO (edges s) k ho).length (intsL (adjO (edges s) k ho)) rfl (own_below' hrow.out hB3.out) ⟨W1.heap.size, 0, none⟩ 1 1 [.int .i64 (co : Int)] rfl rfl (head_new W1 _ _) (one_cell1 _ rfl) (by omega) (by unfold maxLen; omega) (by omega) (hBw.out.trans (hB3.out.mono hBw.out.size)).size ?_
            intro vb wb hob hgb hnb
            have hx4 : Hid (Bk wb xb 94 [.int .i64 (co : Int), .int .i64 (ho : Int), .bool g, .string nn, .string dd]) := (hx1.out.below hB3.out).grown hgb (fun e => hnx.out e.symm)
            have hB2 := Lib.hid (hBw.out.trans (hB3.out.mono hBw.out.size))
            have hB4 : Hid (Below w.heap.size w wb) := hB2.out.grown hgb hB2.out.size (fun b e => (hrow.out.lt b e).1)
            have hG9 : Hid (Gr (wb.setCell ⟨w.heap.size + 1, ho, none⟩ vb) w.heap.size (w.heap.size + 1) s.ps.length (fun i => if i = ho then vb else v i) (adjO (edges s) (k + 1))) := by
              have h := ((hGw.out.alloc (.cells #[.int .i64 (co : Int)] 3)).drew).step (q := co) hho (u := vb) (W' := wb) (by rw [← hvh.out]; exact hgb) hob (by rw [← hvh.out]; exact hnb)
              exact h.congr fun i _ => (hek.out i).symm
            have hB9 : Hid (Below w.heap.size w (wb.setCell ⟨w.heap.size + 1, ho, none⟩ vb)) := hB4.out.setCell (p := ⟨w.heap.size + 1, ho, none⟩) (Nat.le_succ _) _
            have hbk := hgb.block (w.heap.size + 1) (Nat.lt_of_lt_of_le hlR hB3.out.size) (fun e => hnR.out e.symm)
            have y1 := (World.cell?_of_block (a := ⟨w.heap.size + 1, ho, none⟩) hbk).trans ((hB3.out.cell (p := ⟨w.heap.size + 1, ho, none⟩) hlR).trans hhd)
            have y2 := (World.frozen?_of_block (a := ⟨w.heap.size + 1, ho, none⟩) hbk).trans ((hB3.out.frozen (p := ⟨w.heap.size + 1, ho, none⟩) hlR).trans (hGw.out.fr ho))
            have y3 : w.heap.size + 1 < wb.heap.size := Nat.lt_of_lt_of_le (Nat.lt_of_lt_of_le hlR hB3.out.size) hgb.size
            rcases hob.2 with ⟨_, hnil⟩ | ⟨g9, cap9, cur9, rfl, _⟩
            · exact absurd hnil (by omega)
            clear hob hgb hnb hek hB3 hbk hB2
            refine hK.out _ _ ⟨hx4.out.cell (j := 0) rfl, hx4.out.cell (j := 1) rfl⟩ (fun _ => ?_)
            clear hK K
            try simp only [Act.put, List.setIfInBounds_toArray]
            refine wpAnyH_take (i := 12) (oi := _) (v := ?_) rfl (by kernel_rfl) (by kernel_rfl) (by kernel_rfl) (fun _ _ _ h => h) (Or.inl ⟨by rfl, ?_⟩) (⟨hx4.out.cell (j := 0) rfl, hx4.out.cell (j := 1) rfl⟩) ?_
            rotate_left
            · (intro w hSw; obtain ⟨q1, q2⟩ := hSw; go_simp <;> with_reducible rfl)
            try simp only [Act.put]
            refine wpAnyH_ready (rs := [13]) (by kernel_rfl) (by simp) ?_
            refine AllReadyH.cons (o := _) rfl (fun K hK => ?_) ?_
            · go_simp
              refine hK.out _ _ ⟨(hx4.out.far (p := ⟨w.heap.size + 1, ho, none⟩) (Nat.ne_of_gt hxw) _).cell (j := 0) rfl, (hx4.out.far (p := ⟨w.heap.size + 1, ho, none⟩) (Nat.ne_of_gt hxw) _).cell (j := 1) rfl⟩ (fun _ => ?_)
              clear hK K
              try simp only [Act.put, List.setIfInBounds_toArray, List.set_cons_zero, List.set_cons_succ]
              refine wpAnyH_done (by kernel_rfl) ?_ _
              refine NoPanic.normal ?_
              clear y1 y2 y3 HO hal
              go_wp2
              go_roundw
              case rel => exact ⟨k + 1, _, by omega, by go_num, hB9, hG9⟩
              case measure => simp [intOf]; omega
            exact AllReadyH.nil
          exact AllReadyH.nil
        exact AllReadyH.nil
      exact AllReadyH.nil
    · obtain rfl : k = s.cap.length := by omega
      have hG2 : Hid (Gr wr w.heap.size (w.heap.size + 1) s.ps.length v (adjO (edges s) (edges s).length)) := by rw [hel.out]; exact hG.out
      go_wp2
      go_ret
      exact ⟨⟨_, v, rfl, hG2.out⟩, hB.out⟩
end Ci
end Go.Proofs.YtpmlhgmmobpilaaGreatDoor

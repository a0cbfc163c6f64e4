/- ratio's Text; a text and its number. -/
import Derived.Test.YthggedpgcchneaaGreatDoorRatText
import Derived.Test.YthggedpgcchneaaGreatDoorRatFloor
namespace Go.Proofs.YthggedpgcchneaaGreatDoor
open Go.RowKit Go.Shelf
namespace Nt

def signed (g : Bool) (n : ByteArray) : ByteArray := if g then (⟨#[45]⟩ : ByteArray) ++ n else n
def showV (g : Bool) (n d : ByteArray) : ByteArray := if d.toList == [49] then signed g n else signed g n ++ ((⟨#[47]⟩ : ByteArray) ++ d)

theorem ba_ext {a b : ByteArray} (h : a.data.toList = b.data.toList) : a = b := by
  cases a; cases b; exact congrArg ByteArray.mk (Array.toList_inj.1 h)
theorem signed_list (g : Bool) (n : ByteArray) : (signed g n).data.toList = if g then 45 :: n.data.toList else n.data.toList := by
  unfold signed
  cases g
  · rfl
  · simp only [if_true]; rw [ByteArray.toList_data_append]; rfl
theorem showV_list (g : Bool) (n d : ByteArray) : (showV g n d).data.toList = (if g then 45 :: n.data.toList else n.data.toList) ++ (if d.toList == [49] then [] else 47 :: d.data.toList) := by
  unfold showV
  cases d.toList == [49]
  · simp only [Bool.false_eq_true, if_false]
    rw [ByteArray.toList_data_append, ByteArray.toList_data_append, signed_list]
    rfl
  · simp only [if_true]
    rw [signed_list, List.append_nil]

theorem showV_size (g : Bool) (n d : ByteArray) : (showV g n d).size ≤ n.size + d.size + 2 := by
  rw [Lib.size_eq, showV_list, Lib.size_eq n, Lib.size_eq d]
  cases g <;> cases d.toList == [49] <;> simp <;> omega
theorem occ_head (l : List UInt8) (c : UInt8) (j : Nat) : Lib.occAt l [c] j = (l[j]? == some c) := by
  unfold Lib.occAt
  rw [← List.head?_drop]
  cases l.drop j with
  | nil => rfl
  | cons a t =>
    simp [List.isPrefixOf]
    exact Bool.beq_comm
theorem cut_at (a b : List UInt8) (h : ∀ x ∈ a, x ≠ 47) : Lib.cut (a ++ 47 :: b) [47] = (a, b, true) := by
  have hi : Lib.index (a ++ 47 :: b) [47] = a.length := by
    refine Lib.index_first (by simp) ?_ ?_
    · rw [occ_head]; simp
    · intro j hj
      rw [occ_head, List.getElem?_append_left hj, List.getElem?_eq_getElem hj]
      have := h _ (List.getElem_mem hj)
      simpa using this
  unfold Lib.cut
  rw [hi, if_pos (by omega)]
  simp
theorem cut_no (a : List UInt8) (h : ∀ x ∈ a, x ≠ 47) : Lib.cut a [47] = (a, [], false) := by
  have hi : Lib.index a [47] = -1 := by
    refine Lib.index_none ?_
    intro j _
    rw [occ_head]
    cases hc : a[j]? with
    | none => rfl
    | some x => 
      have := h x (List.mem_of_getElem? hc)
      simpa using this
  unfold Lib.cut
  rw [hi, if_neg (by omega)]
theorem cut_cases (l : List UInt8) : Lib.cut l [47] = (l, [], false) ∨ ∃ a b, l = a ++ 47 :: b ∧ Lib.cut l [47] = (a, b, true) := by
  rcases Lib.index_spec l [47] with ⟨h1, _⟩ | ⟨i, h1, _, h3, _⟩
  · exact .inl (by unfold Lib.cut; rw [h1, if_neg (by omega)])
  · refine .inr ⟨l.take i, l.drop (i + 1), ?_, ?_⟩
    · rw [occ_head] at h3
      have h4 : l[i]? = some 47 := by simpa using h3
      obtain ⟨hl, h5⟩ := List.getElem?_eq_some_iff.1 h4
      conv => lhs; rw [← List.take_append_drop i l]
      rw [List.drop_eq_getElem_cons hl, h5]
    · unfold Lib.cut
      rw [h1, if_pos (by omega)]
      rfl

theorem T_list (n : Nat) : (T (some n)).data.toList = Lib.decDigits n := rfl
theorem dig_range {n : Nat} {x : UInt8} (h : x ∈ (T (some n)).data.toList) : 48 ≤ x.toNat ∧ x.toNat ≤ 57 := by
  have := decDigits_dig n x h
  exact this

/-- Parse reads what Text writes. -/
theorem parse_show {g : Bool} {n d : ByteArray} (hv : validB g n d = true) : pok (showV g n d) = true ∧ pneg (showV g n d) = g ∧ pnum (showV g n d) = n ∧ pden (showV g n d) = d := by
  obtain ⟨q, hq, rfl, rfl, rfl⟩ := of_valid hv
  generalize hg : decide (q.num < 0) = g at *
  generalize ha : q.num.natAbs = a at *
  generalize hb : q.den = b at *
  have hS := showV_list g (T (some a)) (T (some b))
  have hn : ∀ x ∈ (T (some a)).data.toList, x ≠ 47 := fun x hx e => by have := (dig_range hx).1; rw [e] at this; exact absurd this (by decide)
  have hm : ∀ x ∈ (T (some a)).data.toList, x ≠ 45 := fun x hx e => by have := (dig_range hx).1; rw [e] at this; exact absurd this (by decide)
  have hne : (T (some a)).data.toList ≠ [] := decDigits_ne a
  generalize (T (some a)) = n at *
  generalize hd : (T (some b)) = d at *
  have e1 : pneg (showV g n d) = g := by
    unfold pneg
    rw [hS]
    cases g
    · cases hl : n.data.toList with
      | nil => exact absurd hl hne
      | cons c r =>
        have := hm c (by rw [hl]; simp)
        have this : ¬ (45 : UInt8) = c := fun e => this e.symm
        simp [Lib.hasPrefix, List.isPrefixOf, this]
    · simp [Lib.hasPrefix, List.isPrefixOf]
  have e2 : pdig (showV g n d) = n.data.toList ++ (if d.toList == [49] then [] else 47 :: d.data.toList) := by
    unfold pdig Lib.trimPrefix
    have e1' : Lib.hasPrefix (showV g n d).data.toList [45] = g := e1
    rw [e1', hS]
    cases g
    · simp
    · simp
  have e3 : Lib.cut (pdig (showV g n d)) [47] = (n.data.toList, if d.toList == [49] then [] else d.data.toList, !(d.toList == [49])) := by
    rw [e2]
    cases d.toList == [49]
    · simp only [Bool.false_eq_true, if_false, Bool.not_false]
      exact cut_at _ _ hn
    · simp only [if_true, Bool.not_true, List.append_nil]
      exact cut_no _ hn
  have e4 : pnum (showV g n d) = n := by unfold pnum; rw [e3]
  have e5 : pis (showV g n d) = !(d.toList == [49]) := by unfold pis; rw [e3]
  have e6 : pden0 (showV g n d) = if d.toList == [49] then ⟨#[]⟩ else d := by
    unfold pden0; rw [e3]
    cases d.toList == [49]
    · simp
    · simp
  have e7 : pden (showV g n d) = d := by
    unfold pden
    rw [e5, e6]
    cases hc : d.toList == [49]
    · simp
    · simp only [Bool.not_true, Bool.false_eq_true, if_false]
      have h9 : d.toList = [49] := by simpa using hc
      apply ba_ext
      rw [← Lib.toList_data d, h9]
  refine ⟨?_, e1, e4, e7⟩
  unfold pok
  rw [e1, e4, e7, e5, e6, hv, Bool.and_true]
  cases hc : d.toList == [49]
  · simp [hc]
  · simp

/-- Text writes what Parse reads. -/
theorem show_parse {t : ByteArray} (h : pok t = true) : validB (pneg t) (pnum t) (pden t) = true ∧ showV (pneg t) (pnum t) (pden t) = t := by
  unfold pok at h
  rw [Bool.and_eq_true] at h
  refine ⟨h.2, ?_⟩
  apply ba_ext
  rw [showV_list]
  have e1 : (if pneg t then 45 :: pdig t else pdig t) = t.data.toList := by
    unfold pneg pdig Lib.trimPrefix
    cases hp : Lib.hasPrefix t.data.toList [45]
    · simp
    · simp only [if_true]
      unfold Lib.hasPrefix at hp
      rw [List.isPrefixOf_iff_prefix] at hp
      obtain ⟨r, hr⟩ := hp
      rw [← hr]
      rfl
  have h1 := h.1
  rcases cut_cases (pdig t) with hc | ⟨a, b, hab, hc⟩
  · have e2 : pis t = false := by unfold pis; rw [hc]
    have e3 : pnum t = ⟨(pdig t).toArray⟩ := by unfold pnum; rw [hc]
    have e4 : pden t = ⟨#[49]⟩ := by unfold pden; rw [e2]; rfl
    rw [e3, e4]
    conv => rhs; rw [← e1]
    have e5 : ((⟨#[49]⟩ : ByteArray).toList == [49]) = true := by rw [Lib.toList_data]; rfl
    rw [e5]
    simp
  · have e2 : pis t = true := by unfold pis; rw [hc]
    have e3 : pnum t = ⟨a.toArray⟩ := by unfold pnum; rw [hc]
    have e4 : pden0 t = ⟨b.toArray⟩ := by unfold pden0; rw [hc]
    have e5 : pden t = ⟨b.toArray⟩ := by unfold pden; rw [e2, e4]; rfl
    rw [e2, e4] at h1
    rw [e3, e5]
    have e6 : ((⟨b.toArray⟩ : ByteArray).toList == [49]) = false := by simpa using h1
    rw [e6]
    conv => rhs; rw [← e1, hab]
    cases pneg t <;> simp

end Nt
end Go.Proofs.YthggedpgcchneaaGreatDoor

/- Texts that the proof needs: ConWrapM, CoB. -/
import Derived.Sort.LotA
import Derived.Sort.WalkA
import Derived.Test.YtpmlhgmmobpilaaGreatDoorShelf
import Derived.Shelf.SlSortCmp.Insertion
import Derived.Deep.QuietTactic
import Derived.BigQuiet
import Derived.Laws.ResultCell
import Derived.Deep.RegionHeld3
import Derived.IntWalk
import Derived.Test.YtpmlhgmmobpilaaGreatDoorKcA
import Derived.Test.YtpmlhgmmobpilaaGreatDoorKcB
import Derived.Test.YtpmlhgmmobpilaaGreatDoorKcC
import Derived.Test.YtpmlhgmmobpilaaGreatDoorKcD
import Derived.Test.YtpmlhgmmobpilaaGreatDoorKcE
import Derived.Test.YtpmlhgmmobpilaaGreatDoorKcF
import Derived.Test.YtpmlhgmmobpilaaGreatDoorKcG
namespace Go.Proofs.YtpmlhgmmobpilaaGreatDoor
open Go.ChangeShapes Go.WideShapes Go.ChangeAt Go.RowKit Go.Shelf Go.Joins Go.Deep
namespace Co
open Nt Ci
section
variable {H : Type} {enc : TypeId × Value → H} {w : World} {base : Nat} {held : Bool}
/-- A certificate's datum. -/
def isProof (lo lc : List Int) (d : DataW H) : Prop := ∃ d1 d2, d = .agg [d1, d2] ∧ isSl intD lo d1 ∧ isSl intD lc d2
theorem cells_proof : Tryz.prog.cellsOf 56 = 2 := by kernel_rfl
set_option maxRecDepth 100000 in
theorem open_proof {r : Go.Reach} {b0 : Nat} {v : Value} {d : DataW H} {p : List MemPlace} (hv : Value.okWide Tryz.prog w r b0 56 v) (h : DataW.Trod enc Tryz.prog w base (fun _ => true) held 56 v d p) :
    ∃ (Ao : Option Addr) (co : Nat) (Al : Option Addr) (cl : Nat) (lo lc : List Int), v = .agg #[.slice Ao lo.length co, .slice Al lc.length cl] ∧ isProof lo lc d ∧ InInt w Ao lo ∧ InInt w Al lc := by
  obtain ⟨c0, c1, y0, y1, m, rfl, rfl, _, hy0, hy1⟩ := open_agg2 Tryz.underlying56 (by kernel_rfl) cells_proof hv h
  obtain ⟨Ao, co, lo, e0, i0, m0, _⟩ := open_ints' hy0
  obtain ⟨Al, cl, lc, e1, i1, m1, _⟩ := open_ints' hy1
  simp only [List.cons.injEq, and_true] at e0 e1
  subst e0 e1
  exact ⟨Ao, co, Al, cl, lo, lc, rfl, ⟨_, _, rfl, i0, i1⟩, m0, m1⟩
set_option maxRecDepth 100000 in
theorem size_proof {lo lc : List Int} {d : DataW H} (h : isProof lo lc d) (hw : ∀ m ∈ d.weights Tryz.prog 56, m ≤ 140737488351232) : lo.length ≤ 140737488355328 ∧ lc.length ≤ 140737488355328 := by
  obtain ⟨d1, d2, rfl, i0, i1⟩ := h
  have e : (DataW.agg [d1, d2]).weights Tryz.prog 56 = d1.weights Tryz.prog 24 ++ d2.weights Tryz.prog 24 := by
    simp [DataW.weights, DataW.weightsEach, Tryz.underlying56]
  rw [e] at hw
  exact ⟨(size_sl Tryz.underlying24 (Nat.lt_of_lt_of_eq (by decide : 0 < 8) (by kernel_rfl)) i0 fun m hm => hw m (List.mem_append_left _ hm)).1, (size_sl Tryz.underlying24 (Nat.lt_of_lt_of_eq (by decide : 0 < 8) (by kernel_rfl)) i1 fun m hm => hw m (List.mem_append_right _ hm)).1⟩
end
end Co
end Go.Proofs.YtpmlhgmmobpilaaGreatDoor

namespace Go.Proofs.YtpmlhgmmobpilaaGreatDoor
open Go.Sort
namespace St
section
variable {α : Type} [Inhabited α]
/-- Of d' it is said that d's parts [l, m) and [m, r) have changed places. -/
def IsRot (d : Array α) (l m r : Nat) (d' : Array α) : Prop :=
  d'.size = d.size ∧ ∀ k, d'[k]! = if l ≤ k ∧ k < l + (r - m) then d[k + (m - l)]! else if l + (r - m) ≤ k ∧ k < r then d[k - (r - m)]! else d[k]!
def swapRange (d : Array α) (a b : Nat) : Nat → Array α
  | 0 => d
  | n + 1 => swp (swapRange d a b n) (a + n) (b + n)
theorem swapRange_size (d : Array α) (a b n : Nat) : (swapRange d a b n).size = d.size := by
  induction n with
  | zero => rfl
  | succ n ih => unfold swapRange; rw [swp_size, ih]
theorem swapRange_get (d : Array α) (a b : Nat) : ∀ n, a + n ≤ b → b + n ≤ d.size → ∀ k, (swapRange d a b n)[k]! = if a ≤ k ∧ k < a + n then d[b + (k - a)]! else if b ≤ k ∧ k < b + n then d[a + (k - b)]! else d[k]! := by
  intro n
  induction n with
  | zero =>
    intro _ _ k
    rw [if_neg (by omega), if_neg (by omega)]
    rfl
  | succ n ih =>
    intro h1 h2 k
    have hs := swapRange_size d a b n
    have ih' := ih (by omega) (by omega)
    unfold swapRange
    rw [swp_get _ (by omega) (by omega)]
    by_cases e2 : k = b + n
    · subst e2
      have h3 := ih' (a + n)
      rw [if_neg (by omega), if_neg (by omega)] at h3
      rw [if_pos rfl, if_neg (by omega : ¬ (a ≤ b + n ∧ b + n < a + (n + 1))), if_pos (by omega : b ≤ b + n ∧ b + n < b + (n + 1)), h3]
      congr 1
      omega
    · rw [if_neg e2]
      by_cases e1 : k = a + n
      · subst e1
        have h3 := ih' (b + n)
        rw [if_neg (by omega), if_neg (by omega)] at h3
        rw [if_pos rfl, if_pos (by omega : a ≤ a + n ∧ a + n < a + (n + 1)), h3]
        congr 1
        omega
      · rw [if_neg e1, ih' k]
        by_cases c1 : a ≤ k ∧ k < a + n
        · rw [if_pos c1, if_pos (by omega)]
        · rw [if_neg c1]
          by_cases c2 : b ≤ k ∧ k < b + n
          · rw [if_pos c2, if_neg (by omega), if_pos (by omega)]
          · rw [if_neg c2, if_neg (by omega), if_neg (by omega)]
/-- The exchange of two neighbouring parts, i and j long, that meet at m. -/
def rot (d : Array α) (m i j : Nat) : Array α :=
  if i = 0 ∨ j = 0 then d
  else if i = j then swapRange d (m - i) m i
  else if j < i then rot (swapRange d (m - i) m j) m (i - j) j
  else rot (swapRange d (m - i) (m + j - i) i) m i (j - i)
termination_by i + j
decreasing_by
  · omega
  · omega
theorem rot_is : ∀ (n : Nat) (d : Array α) (m i j : Nat), i + j ≤ n → 0 < i → 0 < j → i ≤ m → m + j ≤ d.size → IsRot d (m - i) m (m + j) (rot d m i j) := by
  intro n
  induction n with
  | zero => intro d m i j h; omega
  | succ n ih =>
    intro d m i j hn hi hj him hmj
    unfold rot
    rw [if_neg (by omega)]
    by_cases e : i = j
    · subst e
      rw [if_pos rfl]
      refine ⟨swapRange_size _ _ _ _, fun k => ?_⟩
      rw [swapRange_get d (m - i) m i (by omega) hmj]
      by_cases c1 : m - i ≤ k ∧ k < m - i + i
      · rw [if_pos c1, if_pos (by omega)]
        congr 1
        omega
      · rw [if_neg c1]
        by_cases c2 : m ≤ k ∧ k < m + i
        · rw [if_pos c2, if_neg (by omega), if_pos (by omega)]
          congr 1
          omega
        · rw [if_neg c2, if_neg (by omega), if_neg (by omega)]
    · rw [if_neg e]
      by_cases c : j < i
      · rw [if_pos c]
        have hs := swapRange_size d (m - i) m j
        have hg := swapRange_get d (m - i) m j (by omega) hmj
        obtain ⟨h1, h2⟩ := ih (swapRange d (m - i) m j) m (i - j) j (by omega) (by omega) hj (by omega) (by omega)
        refine ⟨h1.trans hs, fun k => ?_⟩
        rw [h2 k]
        by_cases c1 : m - i ≤ k ∧ k < m - i + (m + j - m)
        · rw [if_neg (by omega), if_neg (by omega), if_pos c1, hg, if_pos (by omega)]
          congr 1
          omega
        · rw [if_neg c1]
          by_cases c2 : m - i + (m + j - m) ≤ k ∧ k < m + j
          · rw [if_pos c2]
            by_cases c3 : m - (i - j) ≤ k ∧ k < m - (i - j) + (m + j - m)
            · rw [if_pos c3, hg, if_neg (by omega), if_pos (by omega)]
              congr 1
              omega
            · rw [if_neg c3, if_pos (by omega), hg, if_neg (by omega), if_neg (by omega)]
          · rw [if_neg c2, if_neg (by omega), if_neg (by omega), hg, if_neg (by omega), if_neg (by omega)]
      · rw [if_neg c]
        have hs := swapRange_size d (m - i) (m + j - i) i
        have hg := swapRange_get d (m - i) (m + j - i) i (by omega) (by omega)
        obtain ⟨h1, h2⟩ := ih (swapRange d (m - i) (m + j - i) i) m i (j - i) (by omega) hi (by omega) him (by omega)
        refine ⟨h1.trans hs, fun k => ?_⟩
        rw [h2 k]
        by_cases c1 : m - i ≤ k ∧ k < m - i + (m + j - m)
        · rw [if_pos c1]
          by_cases c3 : m - i ≤ k ∧ k < m - i + (m + (j - i) - m)
          · rw [if_pos c3, hg, if_neg (by omega), if_neg (by omega)]
          · rw [if_neg c3, if_pos (by omega), hg, if_pos (by omega)]
            congr 1
            omega
        · rw [if_neg c1, if_neg (by omega), if_neg (by omega)]
          by_cases c2 : m - i + (m + j - m) ≤ k ∧ k < m + j
          · rw [if_pos c2, hg, if_neg (by omega), if_pos (by omega)]
            congr 1
            omega
          · rw [if_neg c2, hg, if_neg (by omega), if_neg (by omega)]
theorem get_list {d : Array α} {l r k : Nat} (hr : r ≤ d.size) (hk : k < r - l) : (d.extract l r).toList[k]? = some d[l + k]! := by
  rw [Array.toList_extract]
  simp only [List.extract_eq_take_drop, List.getElem?_take, List.getElem?_drop]
  rw [if_pos (by omega), Array.getElem?_toList, getElem!_def, Array.getElem?_eq_getElem (by omega)]
theorem IsRot.perm {d d' : Array α} {l m r : Nat} (h : IsRot d l m r d') (h1 : l ≤ m) (h2 : m ≤ r) (h3 : r ≤ d.size) : PermIn l r d d' := by
  obtain ⟨hs, hg⟩ := h
  refine ⟨hs, fun i hi => ?_, ?_⟩
  · rw [hg, if_neg (by omega), if_neg (by omega)]
  · have e1 : (d.extract l r).toList = (d.extract l m).toList ++ (d.extract m r).toList := by
      refine List.ext_getElem? fun k => ?_
      by_cases c : k < m - l
      · rw [get_list h3 (by omega), List.getElem?_append_left (by simp; omega), get_list (by omega) c]
      · by_cases c2 : k < r - l
        · rw [get_list h3 c2, List.getElem?_append_right (by simp; omega)]
          rw [show k - (d.extract l m).toList.length = k - (m - l) by simp; omega, get_list h3 (by omega)]
          congr 2
          omega
        · rw [List.getElem?_eq_none (by simp; omega), List.getElem?_eq_none (by simp; omega)]
    have e2 : (d'.extract l r).toList = (d.extract m r).toList ++ (d.extract l m).toList := by
      refine List.ext_getElem? fun k => ?_
      by_cases c : k < r - m
      · rw [get_list (by omega) (by omega), List.getElem?_append_left (by simp; omega), get_list h3 c, hg, if_pos (by omega)]
        congr 2
        omega
      · by_cases c2 : k < r - l
        · rw [get_list (by omega) c2, List.getElem?_append_right (by simp; omega)]
          rw [show k - (d.extract m r).toList.length = k - (r - m) by simp; omega, get_list (by omega) (by omega), hg, if_neg (by omega), if_pos (by omega)]
          congr 2
          omega
        · rw [List.getElem?_eq_none (by simp; omega), List.getElem?_eq_none (by simp; omega)]
    rw [e1, e2]
    exact List.perm_append_comm
def Srt (R : α → α → Prop) (a b : Nat) (d : Array α) : Prop := ∀ i j, a ≤ i → i < j → j < b → R d[i]! d[j]!
/-- The test that Go makes tells, of an element of the left part and one of the right, which comes first. -/
def Tells (lt : α → α → Bool) (R : α → α → Prop) (a m b : Nat) (d : Array α) : Prop := ∀ i j, a ≤ i → i < m → m ≤ j → j < b → (lt d[j]! d[i]! = true → R d[j]! d[i]!) ∧ (lt d[j]! d[i]! = false → R d[i]! d[j]!)
def Trn (R : α → α → Prop) : Prop := ∀ x y z, R x y → R y z → R x z
variable {lt : α → α → Bool} {R : α → α → Prop} {a m b : Nat} {d d' : Array α}
theorem Srt.le (h : Srt R a b d) (hT : Trn R) {i j k : Nat} (hi : a ≤ i) (hij : i ≤ j) (hj : j < b) (hk : R d[j]! d[k]!) : R d[i]! d[k]! := by
  by_cases e : i = j
  · rw [e]; exact hk
  · exact hT _ _ _ (h i j hi (by omega) hj) hk
theorem Srt.ge (h : Srt R a b d) (hT : Trn R) {i j k : Nat} (hi : a ≤ i) (hij : i ≤ j) (hj : j < b) (hk : R d[k]! d[i]!) : R d[k]! d[j]! := by
  by_cases e : i = j
  · rw [← e]; exact hk
  · exact hT _ _ _ hk (h i j hi (by omega) hj)
/-- Behind the exchange of [s, m) and [m, e) the two halves are apart, and each half has two ascending parts. -/
theorem merge_split (hT : Trn R) (h1 : Srt R a m d) (h2 : Srt R m b d) (hc : Tells lt R a m b d) {s e mid : Nat} (has : a ≤ s) (hsm : s ≤ m) (hme : m ≤ e) (heb : e ≤ b) (hmid : mid = s + (e - m))
    (hb1 : (s = a ∨ e = b) ∨ lt d[e]! d[s - 1]! = false) (hb2 : (e = m ∨ s = m) ∨ lt d[e - 1]! d[s]! = true) (hr : IsRot d s m e d') :
    (∀ x y, a ≤ x → x < mid → mid ≤ y → y < b → R d'[x]! d'[y]!) ∧ (Srt R a s d' ∧ Srt R s mid d' ∧ Tells lt R a s mid d') ∧ (Srt R mid e d' ∧ Srt R e b d' ∧ Tells lt R mid e b d') := by
  obtain ⟨_, hg⟩ := hr
  have g1 : ∀ x, x < s → d'[x]! = d[x]! := fun x hx => by rw [hg, if_neg (by omega), if_neg (by omega)]
  have g2 : ∀ x, s ≤ x → x < mid → d'[x]! = d[x + (m - s)]! := fun x h1 h2 => by rw [hg, if_pos (by omega)]
  have g3 : ∀ x, mid ≤ x → x < e → d'[x]! = d[x - (e - m)]! := fun x h1 h2 => by rw [hg, if_neg (by omega), if_pos (by omega)]
  have g4 : ∀ x, e ≤ x → d'[x]! = d[x]! := fun x hx => by rw [hg, if_neg (by omega), if_neg (by omega)]
  refine ⟨fun x y hx1 hx2 hy1 hy2 => ?_, ⟨fun i j hi hij hj => ?_, fun i j hi hij hj => ?_, fun i j hi him hmj hj => ?_⟩, fun i j hi hij hj => ?_, fun i j hi hij hj => ?_, fun i j hi him hmj hj => ?_⟩
  · by_cases cx : x < s
    · rw [g1 x cx]
      by_cases cy : y < e
      · rw [g3 y hy1 cy]
        exact h1 _ _ hx1 (by omega) (by omega)
      · rw [g4 y (by omega)]
        rcases hb1 with hb1 | hb1
        · omega
        · have k1 := (hc (s - 1) e (by omega) (by omega) (by omega) (by omega)).2 hb1
          exact h1.le hT hx1 (by omega : x ≤ s - 1) (by omega) (h2.ge hT (by omega) (by omega : e ≤ y) hy2 k1)
    · rw [g2 x (by omega) hx2]
      by_cases cy : y < e
      · rw [g3 y hy1 cy]
        rcases hb2 with hb2 | hb2
        · omega
        · have k1 := (hc s (e - 1) (by omega) (by omega) (by omega) (by omega)).1 hb2
          exact h2.le hT (by omega) (by omega : x + (m - s) ≤ e - 1) (by omega) (h1.ge hT (by omega) (by omega : s ≤ y - (e - m)) (by omega) k1)
      · rw [g4 y (by omega)]
        exact h2 _ _ (by omega) (by omega) hy2
  · rw [g1 i (by omega), g1 j hj]
    exact h1 i j hi hij (by omega)
  · rw [g2 i hi (by omega), g2 j (by omega) hj]
    exact h2 _ _ (by omega) (by omega) (by omega)
  · rw [g1 i him, g2 j hmj hj]
    exact hc _ _ hi (by omega) (by omega) (by omega)
  · rw [g3 i hi (by omega), g3 j (by omega) hj]
    exact h1 _ _ (by omega) (by omega) (by omega)
  · rw [g4 i hi, g4 j (by omega)]
    exact h2 i j (by omega) hij hj
  · rw [g3 i hi him, g4 j hmj]
    exact hc _ _ (by omega) (by omega) (by omega) hj
/-- Two ascending halves that are apart. -/
theorem srt_join {mid : Nat} (h1 : Srt R a mid d) (h2 : Srt R mid b d) (h3 : ∀ x y, a ≤ x → x < mid → mid ≤ y → y < b → R d[x]! d[y]!) : Srt R a b d := fun i j hi hij hj => by
  by_cases c1 : j < mid
  · exact h1 i j hi hij c1
  · by_cases c2 : i < mid
    · exact h3 i j hi c2 (by omega) hj
    · exact h2 i j (by omega) hij hj
/-- The one element of the left part goes to its place: i is the first of the right part behind which it belongs. -/
theorem merge_left (hT : Trn R) (h2 : Srt R (a + 1) b d) (hc : Tells lt R a (a + 1) b d) {i : Nat} (hi : a + 1 ≤ i) (hib : i ≤ b) (hb1 : i = a + 1 ∨ lt d[i - 1]! d[a]! = true) (hb2 : i = b ∨ lt d[i]! d[a]! = false) (hr : IsRot d a (a + 1) i d') : Srt R a b d' := by
  obtain ⟨hd, hs1, hs2⟩ := merge_split (lt := lt) (s := a) (e := i) (mid := a + (i - (a + 1))) hT (fun x y h1 h2 h3 => by omega) h2 hc (Nat.le_refl _) (by omega) hi hib rfl (.inl (.inl rfl)) (by
    rcases hb1 with hb1 | hb1
    · exact .inl (.inl hb1)
    · exact .inr hb1) hr
  refine srt_join hs1.2.1 ?_ hd
  refine srt_join (mid := i) hs2.1 hs2.2.1 fun x y hx1 hx2 hy1 hy2 => ?_
  have hx : x = i - 1 := by omega
  rcases hb2 with hb2 | hb2
  · omega
  · obtain ⟨_, hg⟩ := hr
    have k1 := (hc a i (Nat.le_refl _) (by omega) hi (by omega)).2 hb2
    have e1 : d'[x]! = d[a]! := by
      rw [hg, if_neg (by omega), if_pos (by omega)]
      congr 1
      omega
    have e2 : d'[y]! = d[y]! := by rw [hg, if_neg (by omega), if_neg (by omega)]
    rw [e1, e2]
    exact h2.ge hT (by omega) hy1 hy2 k1
/-- The one element of the right part goes to its place. -/
theorem merge_right (hT : Trn R) (h1 : Srt R a m d) (hc : Tells lt R a m (m + 1) d) {i : Nat} (hai : a ≤ i) (him : i ≤ m) (hb1 : i = a ∨ lt d[m]! d[i - 1]! = false) (hb2 : i = m ∨ lt d[m]! d[i]! = true) (hr : IsRot d i m (m + 1) d') : Srt R a (m + 1) d' := by
  obtain ⟨_, hg⟩ := hr
  have g1 : ∀ x, x < i → d'[x]! = d[x]! := fun x hx => by rw [hg, if_neg (by omega), if_neg (by omega)]
  have g2 : d'[i]! = d[m]! := by
    rw [hg, if_pos (by omega)]
    congr 1
    omega
  have g3 : ∀ x, i < x → x < m + 1 → d'[x]! = d[x - 1]! := fun x h1 h2 => by
    rw [hg, if_neg (by omega), if_pos (by omega)]
    congr 1
    omega
  intro x y hx hxy hy
  by_cases c1 : y < i
  · rw [g1 x (by omega), g1 y c1]
    exact h1 x y hx hxy (by omega)
  · by_cases c2 : y = i
    · rw [c2, g2, g1 x (by omega)]
      rcases hb1 with hb1 | hb1
      · omega
      · exact h1.le hT hx (by omega : x ≤ i - 1) (by omega) ((hc (i - 1) m (by omega) (by omega) (Nat.le_refl _) (by omega)).2 hb1)
    · rw [g3 y (by omega) hy]
      by_cases c3 : x < i
      · rw [g1 x c3]
        exact h1 x (y - 1) hx (by omega) (by omega)
      · by_cases c4 : x = i
        · rw [c4, g2]
          rcases hb2 with hb2 | hb2
          · omega
          · exact h1.ge hT (by omega) (by omega : i ≤ y - 1) (by omega) ((hc i m hai (by omega) (Nat.le_refl _) (by omega)).1 hb2)
        · rw [g3 x (by omega) (by omega)]
          exact h1 _ _ (by omega) (by omega) (by omega)
end
end St
end Go.Proofs.YtpmlhgmmobpilaaGreatDoor
namespace Go.Proofs.YtpmlhgmmobpilaaGreatDoor
open Go.Sort
namespace St
section
variable {α : Type} [Inhabited α] {lt lt' : α → α → Bool}
theorem swp_at {d : Array α} {j k : Nat} (hj : j + 1 < d.size) (hk : k < j) : (swp d (j + 1) j)[k]! = d[k]! := by
  rw [swp_get _ (by omega) (by omega), if_neg (by omega), if_neg (by omega)]
theorem swp_to {d : Array α} {j : Nat} (hj : j + 1 < d.size) : (swp d (j + 1) j)[j]! = d[j + 1]! := by
  rw [swp_get _ (by omega) (by omega), if_pos rfl]
theorem insInner_eq (a : Nat) : ∀ (j : Nat) (d : Array α), j < d.size → (∀ k, a ≤ k → k < j → lt d[j]! d[k]! = lt' d[j]! d[k]!) → insInner lt a j d = insInner lt' a j d := by
  intro j
  induction j with
  | zero => intro d _ _; rfl
  | succ j ih =>
    intro d hj h
    by_cases ha : j + 1 > a
    · have e := h j (by omega) (by omega)
      unfold insInner
      rw [e]
      by_cases c : lt' d[j + 1]! d[j]! = true
      · rw [c]
        simp only [ha, decide_true, Bool.and_self, if_true]
        refine ih _ (by rw [swp_size]; omega) fun k h1 h2 => ?_
        rw [swp_to hj, swp_at hj h2]
        exact h k h1 (by omega)
      · have c2 : lt' d[j + 1]! d[j]! = false := by simpa using c
        rw [c2]
        simp
    · unfold insInner
      simp [ha]
theorem insInner_perm (lt : α → α → Bool) (a b : Nat) : ∀ (j : Nat) (d : Array α), j < b → b ≤ d.size → PermIn a b d (insInner lt a j d) := by
  intro j
  induction j with
  | zero => intro d _ _; exact permIn_refl d a b
  | succ j ih =>
    intro d hj hb
    unfold insInner
    split
    · rename_i hc
      have ha : j + 1 > a := by
        simp only [Bool.and_eq_true, decide_eq_true_eq] at hc
        exact hc.1
      exact permIn_trans d _ _ a b (swp_permIn d a b (j + 1) j (by omega) hj (by omega) (by omega) hb) (ih _ (by omega) (by rw [swp_size]; exact hb))
    · exact permIn_refl d a b
theorem insInner_size (lt : α → α → Bool) (a : Nat) : ∀ (j : Nat) (d : Array α), (insInner lt a j d).size = d.size := by
  intro j
  induction j with
  | zero => intro d; rfl
  | succ j ih =>
    intro d
    unfold insInner
    split
    · rw [ih, swp_size]
    · rfl
theorem insOuter_size' (lt : α → α → Bool) (a b : Nat) : ∀ (n i : Nat) (d : Array α), b - i = n → (insOuter lt a b i d).size = d.size := by
  intro n
  induction n with
  | zero => intro i d hn; rw [insOuter_stop lt a b i d (by omega)]
  | succ n ih => intro i d hn; rw [insOuter_go lt a b i d (by omega), ih (i + 1) _ (by omega), insInner_size]
theorem insOuter_size (lt : α → α → Bool) (a b : Nat) (d : Array α) : (insertionSort lt d a b).size = d.size := insOuter_size' lt a b _ (a + 1) d rfl
theorem insOuter_eq (a b : Nat) : ∀ (n i : Nat) (d : Array α), b - i = n → a < i → b ≤ d.size → (∀ k j, a ≤ k → k < j → i ≤ j → j < b → lt d[j]! d[k]! = lt' d[j]! d[k]!) → insOuter lt a b i d = insOuter lt' a b i d := by
  intro n
  induction n with
  | zero =>
    intro i d hn _ _ _
    rw [insOuter_stop lt a b i d (by omega), insOuter_stop lt' a b i d (by omega)]
  | succ n ih =>
    intro i d hn hi hb h
    rw [insOuter_go lt a b i d (by omega), insOuter_go lt' a b i d (by omega), insInner_eq (lt := lt) (lt' := lt') a i d (by omega) fun k h1 h2 => h k i h1 h2 (Nat.le_refl _) (by omega)]
    have hp := insInner_perm lt' a (i + 1) i d (Nat.lt_succ_self _) (by omega)
    have hsz := hp.1
    refine ih (i + 1) _ (by omega) (by omega) (by rw [hsz]; exact hb) fun k j h1 h2 h3 h4 => ?_
    have e : (insInner lt' a i d)[j]! = d[j]! := hp.2.1 j (.inr h3)
    rw [e]
    by_cases c : k < i + 1
    · have hall := permIn_all d (insInner lt' a i d) a (i + 1) (fun x => lt d[j]! x = lt' d[j]! x) (by omega) hp fun k' h5 h6 => h k' j h5 (by omega) (by omega) h4
      exact hall k h1 c
    · rw [hp.2.1 k (.inr (by omega))]
      exact h k j h1 h2 (by omega) h4
theorem insertionSort_eq {a b : Nat} {d : Array α} (hb : b ≤ d.size) (h : ∀ k j, a ≤ k → k < j → j < b → lt d[j]! d[k]! = lt' d[j]! d[k]!) : insertionSort lt d a b = insertionSort lt' d a b :=
  insOuter_eq a b _ (a + 1) d rfl (Nat.lt_succ_self _) hb fun k j h1 h2 _ h4 => h k j h1 h2 h4
end
section
variable {α : Type}
def kLt (key : α → Int) (pos : α → Nat) (x y : α) : Bool := decide (key x < key y ∨ (key x = key y ∧ pos x < pos y))
theorem kLt_swo (key : α → Int) (pos : α → Nat) : SWO (kLt key pos) := by
  refine ⟨fun x => decide_eq_false (by omega), fun x y z h1 h2 => ?_, fun x y z h1 h2 => ?_⟩
  · have h1 := of_decide_eq_true h1
    have h2 := of_decide_eq_true h2
    exact decide_eq_true (by omega)
  · have h1 := of_decide_eq_false h1
    have h2 := of_decide_eq_false h2
    exact decide_eq_false (by omega)
end
end St
end Go.Proofs.YtpmlhgmmobpilaaGreatDoor
namespace Go.Proofs.YtpmlhgmmobpilaaGreatDoor
open Go.RowKit Go.Shelf Go.Sort
namespace St
open Nt Ci
section
variable {α : Type} [Inhabited α] {nm : α → Nat} {w w' w'' : World} {b : Nat} {d : Array α}
def en (nm : α → Nat) (x : α) : Value := .int .i64 (nm x : Int)
/-- Block b begins with the numbers of d. -/
structure Ro (nm : α → Nat) (w : World) (b : Nat) (d : Array α) : Prop where
  lt : b < w.heap.size
  cell : ∀ j, j < d.size → w.cell? ⟨b, j, none⟩ = some (.int .i64 (nm d[j]! : Int))
  fr : ∀ j, j < d.size → w.frozen? ⟨b, j, none⟩ = false
theorem Ro.of_block (h : Ro nm w b d) (hs : w.heap.size ≤ w'.heap.size) (hb : w'.heap[b]? = w.heap[b]?) : Ro nm w' b d :=
  ⟨Nat.lt_of_lt_of_le h.lt hs, fun j hj => (World.cell?_of_block (a := ⟨b, j, none⟩) hb).trans (h.cell j hj), fun j hj => (World.frozen?_of_block (a := ⟨b, j, none⟩) hb).trans (h.fr j hj)⟩
theorem Ro.below (h : Ro nm w b d) (hb : Below w.heap.size w w') : Ro nm w' b d := h.of_block hb.size (hb.block b h.lt)
theorem Ro.drewN (h : Ro nm w b d) (q : Nat) : Ro nm (w.drewN q) b d := h.below (blw_drewN (Below.refl _ w) q)
theorem Ro.swap (h : Ro nm w b d) {i j : Nat} (hi : i < d.size) (hj : j < d.size) {x y : Int} (hx : x = (nm d[j]! : Int)) (hy : y = (nm d[i]! : Int)) : Ro nm ((w.setCell ⟨b, i, none⟩ (.int .i64 x)).setCell ⟨b, j, none⟩ (.int .i64 y)) b (swp d i j) := by
  have hne : ∀ m n : Nat, m ≠ n → (⟨b, m, none⟩ : Addr) ≠ ⟨b, n, none⟩ := fun m n e1 e2 => by injection e2 with _ e3; exact e1 e3
  refine ⟨by simpa using h.lt, fun k hk => ?_, fun k hk => by simpa using h.fr k (by rwa [swp_size] at hk)⟩
  rw [swp_size] at hk
  rw [swp_get _ hi hj]
  by_cases e1 : k = j
  · subst e1
    have hc : ∃ u, (w.setCell ⟨b, i, none⟩ (.int .i64 x)).cell? ⟨b, k, none⟩ = some u := by
      by_cases e2 : k = i
      · subst e2; exact ⟨_, World.cell?_setCell_same _ _ _ (h.cell k hk)⟩
      · rw [World.cell?_setCell_other _ _ _ _ (by first | exact hne _ _ e2 | exact hne _ _ fun c => e2 c.symm)]
        exact ⟨_, h.cell k hk⟩
    obtain ⟨u, hc⟩ := hc
    rw [if_pos rfl, World.cell?_setCell_same _ _ _ hc, hy]
  · rw [if_neg e1, World.cell?_setCell_other _ _ _ _ (by first | exact hne _ _ e1 | exact hne _ _ fun c => e1 c.symm)]
    by_cases e2 : k = i
    · subst e2
      rw [if_pos rfl, World.cell?_setCell_same _ _ _ (h.cell k hk), hx]
    · rw [if_neg e2, World.cell?_setCell_other _ _ _ _ (by first | exact hne _ _ e2 | exact hne _ _ fun c => e2 c.symm)]
      exact h.cell k hk
theorem kp_swap (h : Kp [b] w w') (i j : Nat) (x y : Value) : Kp [b] w ((w'.setCell ⟨b, i, none⟩ x).setCell ⟨b, j, none⟩ y) := (h.set (a := ⟨b, i, none⟩) x (.inl (by simp))).set (a := ⟨b, j, none⟩) y (.inl (by simp))
theorem kp_trans {xs : List Nat} (h : Kp xs w w') (h2 : Kp xs w' w'') : Kp xs w w'' :=
  ⟨h2.os.trans h.os, h2.tape.trans h.tape, h2.output.trans h.output, Nat.le_trans h.size h2.size, fun k hk hx => (h2.block k (Nat.lt_of_lt_of_le hk h.size) hx).trans (h.block k hk hx)⟩
theorem kp_drewN {xs : List Nat} (h : Kp xs w w') (q : Nat) : Kp xs w (w'.drewN q) := h.below (blw_drewN (Below.refl _ _) q)
theorem kp_putRow {e : α → Value} (off : Nat) : Kp [b] w (putRow e w b off d) :=
  ⟨rfl, rfl, rfl, by simp [putRow, mapBlock], fun k _ hx => by
    have : b ≠ k := fun c => hx (by simp [c])
    simp [putRow, mapBlock, Array.getElem?_modify, this]⟩
theorem kp_grow {xs : List Nat} (os : Array Obj) (h : Kp xs w w') : Kp xs w (grow w' os) :=
  ⟨h.os, h.tape, h.output, by have := h.size; simp; omega, fun k hk hx => by
    have h1 : k < w'.heap.size := Nat.lt_of_lt_of_le hk h.size
    have h2 := h.block k hk hx
    rw [← h2]
    simp [grow, Array.getElem?_append, h1]⟩
theorem kp_ahead (xs : List Nat) (m : Nat) : Kp xs w (Sort.ahead w m) := ⟨rfl, rfl, rfl, Nat.le_refl _, fun _ _ _ => rfl⟩
theorem Ro.holds (h : Ro nm w b d) : Holds (en nm) w b 0 d := fun j hj => by
  rw [Nat.zero_add]
  exact ⟨h.cell j hj, h.fr j hj⟩
theorem Ro.of_holds (hl : b < w.heap.size) (h : Holds (en nm) w b 0 d) : Ro nm w b d := ⟨hl, fun j hj => by have := (h j hj).1; rwa [Nat.zero_add] at this, fun j hj => by have := (h j hj).2; rwa [Nat.zero_add] at this⟩
end
theorem en_one {α : Type} {nm : α → Nat} : OneCell (en nm) := fun _ => rfl
/-- What is asked of the comparison: in every world that differs in the row alone it says cf. -/
def CmpOn {α : Type} (P : Program) (g : Nat) (cb : Array Value) (nm : α → Nat) (cf : α → α → Int) (bl : Nat) (w0 : World) : Prop :=
  ∀ W, Kp [bl] w0 W → ∀ x y : α, Calls P g (#[.int .i64 (nm x : Int), .int .i64 (nm y : Int)] ++ cb) W fun e w' => e = .returned (.int .i64 (cf x y)) ∧ ∃ q, w' = W.drewN q
set_option maxRecDepth 100000 in
theorem ins_any {α : Type} [Inhabited α] (nm : α → Nat) (cf : α → α → Int) (g : Nat) (cb : Array Value) (eg : ∀ args w, (callFunc g args).run Tryz.prog w = .ok (.enter g args) w) (bl cap x y : Nat) (d : Array α) (w0 w : World) (hK : Kp [bl] w0 w) (HC : CmpOn Tryz.prog g cb nm cf bl w0) (hR : Ro nm w bl d) (hxy : x ≤ y) (hy : y ≤ d.size) (hs : d.size ≤ 1000) :
    Calls Tryz.prog 143 #[.slice (some ⟨bl, 0, none⟩) d.size cap, .int .i64 (x : Int), .int .i64 (y : Int), .func (.func g) #[] cb] w fun e w' => e = .returned (.tuple #[]) ∧ Ro nm w' bl (insertionSort (ltOf cf) d x y) ∧ Kp [bl] w w' := by
  have hcmp : CmpReads Tryz.prog g cb (en nm) cf bl 0 d.size w := fun m os dk _ p q => by
    have h1 : Kp [bl] w (sortWorld (en nm) w bl 0 m dk os) := kp_grow os (kp_trans (kp_ahead [bl] m) (kp_putRow 0))
    exact HC _ (kp_trans hK h1) p q
  refine (Any.insertionSortCmpFunc_one Tryz.insL (en nm) en_one cf g cb bl 0 cap x y d w eg hcmp hR.holds hxy hy (by omega)).mono ?_
  rintro e w' ⟨rfl, q, rfl⟩
  have hsz : (insertionSort (ltOf cf) d x y).size = d.size := insOuter_size _ _ _ _
  exact ⟨rfl, (Ro.of_holds (by have := hR.lt; simpa [putRow, mapBlock] using this) (holds_putRow _ _ _ _ _ _ hR.holds hsz)).drewN q, kp_drewN (kp_putRow 0) q⟩
set_option maxRecDepth 100000 in
theorem ins_nil (A : Option Addr) (cap : Nat) (fv : Value) (w : World) :
    Calls Tryz.prog 143 #[.slice A 0 cap, .int .i64 0, .int .i64 0, fv] w fun e w' => e = .returned (.tuple #[]) ∧ w' = w := by
  go_enter Tryz.func143, Tryz.ntmps143
  go_wp2
  go_loopw [8] (fun ix wr => ix = .int .i64 1 ∧ wr = w) (fun _ _ => 0)
  case atStart => exact ⟨rfl, rfl⟩
  case round =>
    obtain ⟨rfl, rfl⟩ := hrel
    go_wp2
    go_end0
    exact ⟨rfl, rfl⟩
set_option maxRecDepth 100000 in
set_option maxHeartbeats 4000000 in
theorem swapRange_any {α : Type} [Inhabited α] (nm : α → Nat) (bl cap x y n : Nat) (fv : Value) (d : Array α) (w : World) (hR : Ro nm w bl d) (hxy : x + n ≤ y) (hy : y + n ≤ d.size) (hs : d.size ≤ 1000) :
    Calls Tryz.prog 210 #[.slice (some ⟨bl, 0, none⟩) d.size cap, .int .i64 (x : Int), .int .i64 (y : Int), .int .i64 (n : Int), fv] w fun e w' => e = .returned (.tuple #[]) ∧ Ro nm w' bl (swapRange d x y n) ∧ Kp [bl] w w' := by
  replace hR := Lib.hid hR
  go_enter Tryz.func210, Tryz.ntmps210
  go_wp2
  go_loopw [10] (fun ix wr => ∃ (i : Nat), i ≤ n ∧ ix = .int .i64 (i : Int) ∧ Hid (Ro nm wr bl (swapRange d x y i)) ∧ Hid (Kp [bl] w wr)) (fun ix _ => n - (intOf ix).toNat)
  case atStart => exact ⟨0, Nat.zero_le _, rfl, hR, Kp.refl _ _⟩
  case round =>
    obtain ⟨i, hi, rfl, hO, hK⟩ := hrel
    have hsz : (swapRange d x y i).size = d.size := swapRange_size d x y i
    by_cases hlt : i < n
    · have c1 := hO.out.cell (x + i) (by omega)
      have c2 := hO.out.cell (y + i) (by omega)
      have f1 := hO.out.fr (x + i) (by omega)
      have f2 := hO.out.fr (y + i) (by omega)
      have l1 := hO.out.lt
      have hO9 : Hid (Ro nm ((wr.setCell ⟨bl, x + i, none⟩ (.int .i64 (nm (swapRange d x y i)[y + i]! : Int))).setCell ⟨bl, y + i, none⟩ (.int .i64 (nm (swapRange d x y i)[x + i]! : Int))).drew bl (swapRange d x y (i + 1))) := (hO.out.swap (by omega) (by omega) rfl rfl).below (Below.refl _ _).drew
      have hK9 := Lib.hid ((kp_swap hK.out (x + i) (y + i) (.int .i64 (nm (swapRange d x y i)[y + i]! : Int)) (.int .i64 (nm (swapRange d x y i)[x + i]! : Int))).drew)
      obtain ⟨p1, hp1⟩ : ∃ z, z = (nm (swapRange d x y i)[x + i]! : Int) := ⟨_, rfl⟩
      obtain ⟨p2, hp2⟩ : ∃ z, z = (nm (swapRange d x y i)[y + i]! : Int) := ⟨_, rfl⟩
      rw [← hp1] at c1 hO9 hK9
      rw [← hp2] at c2 hO9 hK9
      have j0 : (0 : Int) ≤ (x : Int) + (i : Int) := by omega
      have j1 : (x : Int) + (i : Int) < (d.size : Int) := by omega
      have j2 : (0 : Int) ≤ (y : Int) + (i : Int) := by omega
      have j3 : (y : Int) + (i : Int) < (d.size : Int) := by omega
      have j4 : ((x : Int) + (i : Int)).toNat = x + i := by omega
      have j5 : ((y : Int) + (i : Int)).toNat = y + i := by omega
      clear hp1 hp2 hO hK
      go_wp2_with fail
      go_region
      go_wp2
      exact ⟨⟨i + 1, by omega, by go_num, hO9, hK9⟩, by simp only [intOf]; omega⟩
    · obtain rfl : i = n := by omega
      go_wp2
      go_end0
      exact ⟨rfl, hO.out, hK.out⟩
set_option maxRecDepth 100000 in
theorem stable_small {α : Type} [Inhabited α] (nm : α → Nat) (cf : α → α → Int) (g : Nat) (cb : Array Value) (eg : ∀ args w, (callFunc g args).run Tryz.prog w = .ok (.enter g args) w) (bl cap : Nat) (d : Array α) (w : World) (HC : CmpOn Tryz.prog g cb nm cf bl w) (hR : Ro nm w bl d) (hs : d.size < 20) :
    Calls Tryz.prog 108 #[.slice (some ⟨bl, 0, none⟩) d.size cap, .int .i64 (d.size : Int), .func (.func g) #[] cb] w fun e w' => e = .returned (.tuple #[]) ∧ Ro nm w' bl (insertionSort (ltOf cf) d 0 d.size) ∧ Kp [bl] w w' := by
  have ki := Lib.hid (ins_any nm cf g cb eg bl cap 0 d.size d w w (Kp.refl _ _) HC hR (Nat.zero_le _) (Nat.le_refl _) (by omega))
  have m1 : decide ((20 : Int) ≤ (d.size : Int)) = false := decide_eq_false (by omega)
  have m2 : decide ((20 : Int) < (d.size : Int)) = false := decide_eq_false (by omega)
  clear hR HC
  go_enter Tryz.func108, Tryz.ntmps108
  go_wp2
  go_loopw [7, 8] (fun ax bx wr => ax = .int .i64 0 ∧ bx = .int .i64 20 ∧ wr = w) (fun _ _ _ => 0)
  case atStart => exact ⟨rfl, rfl, rfl⟩
  case round =>
    obtain ⟨rfl, rfl, rfl⟩ := hrel
    go_wp2_with fail
    refine ki.out.mono ?_
    rintro e w2 ⟨rfl, h1, h2⟩
    replace h1 := Lib.hid h1
    replace h2 := Lib.hid h2
    go_wp2
    go_loopw [6] (fun ax wr => ax = .int .i64 20 ∧ wr = w2) (fun _ _ => 0)
    case atStart => exact ⟨rfl, rfl⟩
    case round =>
      obtain ⟨rfl, rfl⟩ := hrel
      go_wp2
      go_end0
      exact ⟨rfl, h1.out, h2.out⟩
set_option maxRecDepth 100000 in
theorem stable_nil (A : Option Addr) (cap : Nat) (fv : Value) (w : World) :
    Calls Tryz.prog 108 #[.slice A 0 cap, .int .i64 0, fv] w fun e w' => e = .returned (.tuple #[]) ∧ w' = w := by
  have ki := Lib.hid (ins_nil A cap fv w)
  go_enter Tryz.func108, Tryz.ntmps108
  go_wp2
  go_loopw [7, 8] (fun ax bx wr => ax = .int .i64 0 ∧ bx = .int .i64 20 ∧ wr = w) (fun _ _ _ => 0)
  case atStart => exact ⟨rfl, rfl, rfl⟩
  case round =>
    obtain ⟨rfl, rfl, rfl⟩ := hrel
    go_wp2_with fail
    refine ki.out.mono ?_
    rintro e w2 ⟨rfl, rfl⟩
    go_wp2
    go_loopw [6] (fun ax wr => ax = .int .i64 20 ∧ wr = w2) (fun _ _ => 0)
    case atStart => exact ⟨rfl, rfl⟩
    case round =>
      obtain ⟨rfl, rfl⟩ := hrel
      go_wp2
      go_end0
      exact ⟨rfl, rfl⟩
end St
end Go.Proofs.YtpmlhgmmobpilaaGreatDoor
namespace Go.Proofs.YtpmlhgmmobpilaaGreatDoor
open Go.RowKit Go.Shelf Go.Sort
namespace Co
open Nt Ci St
set_option maxRecDepth 100000 in
/-- The comparison that Prove hands to the sort. -/
theorem cmp_any (rb b n x y : Nat) (o : Nat → Int) (w : World) (hrb : w.cell? ⟨rb, 0, none⟩ = some (.slice (some ⟨b, 0, none⟩) n n)) (_hrl : rb < w.heap.size) (hR : RoI w b n o) (hx : x < n) (hy : y < n) :
    Calls Tryz.prog 77 #[.int .i64 (x : Int), .int .i64 (y : Int), .pointer (some ⟨rb, 0, none⟩)] w fun e w' => e = .returned (.int .i64 (Lib.compareInt (o x) (o y))) ∧ ∃ q, w' = w.drewN q := by
  have c1 := hR.cell x hx
  have c2 := hR.cell y hy
  have c9 := hR.lt
  generalize o x = dx at c1
  generalize o y = dy at c2
  have kc : Hid (∀ W, Calls Tryz.prog 78 #[.int .i64 dx, .int .i64 dy] W fun e w' => e = .returned (.int .i64 (Lib.compareInt dx dy)) ∧ ∃ q, w' = W.drewN q) := fun W => (Tryz.cmp_Compare_int dx dy W).mono fun e w' h => ⟨h.1, 0, h.2⟩
  have j0 : (0 : Int) ≤ (x : Int) := by omega
  have j1 : (x : Int) < (n : Int) := by omega
  have j2 : (0 : Int) ≤ (y : Int) := by omega
  have j3 : (y : Int) < (n : Int) := by omega
  clear hR
  go_enter Tryz.func77, Tryz.ntmps77
  go_wp2_with fail
  go_quiet ((go_at_call 78; exact Calls.quiet_of (kc.out _)))
  go_wp2
  go_ret
  exact ⟨rfl, _, rfl⟩
theorem cmp_lt (a b : Int) : decide (Lib.compareInt a b < 0) = decide (a < b) := by
  unfold Lib.compareInt
  by_cases h : a < b
  · rw [if_pos h, decide_eq_true h]; rfl
  · rw [if_neg h, decide_eq_false h]
    split <;> rfl
/-- What the sort gives: the same numbers, by their keys, and where these are equal in their order. -/
def Sorted (o : Nat → Int) (l l' : List Nat) : Prop := l'.Perm l ∧ l'.Pairwise fun a b => o a < o b ∨ (o a = o b ∧ a < b)
section
variable {m : Nat}
/-- The numbers below m + 1 as an array. -/
def arr (l : List Nat) : Array (Fin (m + 1)) := (l.map fun x => (⟨min x m, by omega⟩ : Fin (m + 1))).toArray
theorem arr_size (l : List Nat) : (arr (m := m) l).size = l.length := by simp [arr]
theorem arr_at {l : List Nat} (h : ∀ x, x ∈ l → x < m + 1) {j : Nat} (hj : j < l.length) : ((arr (m := m) l)[j]!).val = l[j] := by
  have h1 := h l[j] (List.getElem_mem hj)
  rw [getElem!_pos _ j (by rw [arr_size]; exact hj)]
  simp [arr]
  omega
theorem val_map {l : List Nat} (h : ∀ x, x ∈ l → x < m + 1) : (arr (m := m) l).toList.map Fin.val = l := by
  refine List.ext_getElem (by simp [arr]) fun j h1 h2 => ?_
  have := h l[j] (List.getElem_mem h2)
  simp [arr]
  omega
/-- From the array to the list. -/
theorem sorted_of {o : Nat → Int} {l : List Nat} (h : ∀ x, x ∈ l → x < m + 1) (hnd : l.Pairwise (· < ·)) {d' : Array (Fin (m + 1))} (hp : PermIn 0 l.length (arr l) d') (hs : SortedIn (kLt (fun x : Fin (m + 1) => o x.val) Fin.val) 0 l.length d') : Sorted o l (d'.toList.map Fin.val) := by
  have hsz : d'.size = l.length := hp.1.trans (arr_size l)
  have hperm : (d'.toList.map Fin.val).Perm l := by
    have h1 := hp.2.2
    rw [show (arr (m := m) l).extract 0 l.length = arr l by rw [← arr_size (m := m) l]; simp, show d'.extract 0 l.length = d' by rw [← hsz]; simp] at h1
    have h2 := h1.map Fin.val
    rwa [val_map h] at h2
  refine ⟨hperm, ?_⟩
  have hnd2 : (d'.toList.map Fin.val).Nodup := (hperm.nodup_iff).2 (hnd.imp fun h => Nat.ne_of_lt h)
  rw [List.pairwise_iff_getElem]
  intro i j hi hj hij
  have hi2 : i < d'.size := by simpa using hi
  have hj2 : j < d'.size := by simpa using hj
  have h1 := hs i j (Nat.zero_le _) hij (by omega)
  rw [getElem!_pos _ i hi2, getElem!_pos _ j hj2] at h1
  replace h1 : ¬ (o d'[j].val < o d'[i].val ∨ (o d'[j].val = o d'[i].val ∧ d'[j].val < d'[i].val)) := of_decide_eq_false h1
  have h3 : (d'.toList.map Fin.val)[i] ≠ (d'.toList.map Fin.val)[j] := List.pairwise_iff_getElem.1 hnd2 i j hi hj hij
  simp only [List.getElem_map, Array.getElem_toList] at h3 ⊢
  omega
end
/-- What slices.SortStableFunc does to the row l in block bl. -/
def SortPost (o : Nat → Int) (bl : Nat) (l : List Nat) (w : World) (e : Ending) (w' : World) : Prop :=
  e = .returned (.tuple #[]) ∧ (∃ l', Sorted o l l' ∧ ∀ j (hj : j < l'.length), w'.cell? ⟨bl, j, none⟩ = some (.int .i64 (l'[j] : Int))) ∧ Kp [bl] w w'
set_option maxRecDepth 100000 in
theorem sortNil (A : Option Addr) (cap : Nat) (fv : Value) (w : World) :
    Calls Tryz.prog 53 #[.slice A 0 cap, fv] w fun e w' => e = .returned (.tuple #[]) ∧ w' = w := by
  have ks := Lib.hid (stable_nil A cap fv w)
  go_enter Tryz.func53, Tryz.ntmps53
  go_wp2_with fail
  refine ks.out.mono ?_
  rintro e w2 ⟨rfl, rfl⟩
  go_wp2
  go_end0
  exact ⟨rfl, rfl⟩
set_option maxRecDepth 100000 in
theorem sort_small (rb b n bl cap : Nat) (o : Nat → Int) (l : List Nat) (w : World) (h0 : 0 < l.length) (h20 : l.length < 20) (hl : ∀ x, x ∈ l → x < n) (asc : l.Pairwise (· < ·)) (hcell : ∀ j (hj : j < l.length), w.cell? ⟨bl, j, none⟩ = some (.int .i64 (l[j] : Int))) (hfr : ∀ j, w.frozen? ⟨bl, j, none⟩ = false) (hbl : bl < w.heap.size)
    (hrb : w.cell? ⟨rb, 0, none⟩ = some (.slice (some ⟨b, 0, none⟩) n n)) (hrl : rb < w.heap.size) (hR : RoI w b n o) (n1 : rb ≠ bl) (n2 : b ≠ bl) :
    Calls Tryz.prog 53 #[.slice (some ⟨bl, 0, none⟩) l.length cap, .func (.func 77) #[] #[.pointer (some ⟨rb, 0, none⟩)]] w (SortPost o bl l w) := by
  obtain ⟨m, rfl⟩ : ∃ m, n = m + 1 := ⟨n - 1, by have := hl l[0] (List.getElem_mem h0); omega⟩
  have hRo : Ro (fun x : Fin (m + 1) => x.val) w bl (arr l) := ⟨hbl, fun j hj => by
    have hj2 : j < l.length := by rwa [arr_size] at hj
    rw [hcell j hj2, arr_at hl hj2], fun j _ => hfr j⟩
  have hC : CmpOn Tryz.prog 77 #[.pointer (some ⟨rb, 0, none⟩)] (fun x : Fin (m + 1) => x.val) (fun x y => Lib.compareInt (o x.val) (o y.val)) bl w := fun W hW x y => by
    refine cmp_any rb b (m + 1) x.val y.val o W ?_ (Nat.lt_of_lt_of_le hrl hW.size) (hR.of_block hW.size (hW.block b hR.lt (by simpa using n2))) x.isLt y.isLt
    exact (World.cell?_of_block (a := ⟨rb, 0, none⟩) (hW.block rb hrl (by simpa using n1))).trans hrb
  have ks := stable_small (fun x : Fin (m + 1) => x.val) (fun x y => Lib.compareInt (o x.val) (o y.val)) 77 #[.pointer (some ⟨rb, 0, none⟩)] (enters_of Tryz.func77 (by kernel_rfl) rfl) bl cap (arr l) w hC hRo (by rw [arr_size]; exact h20)
  have hins : insertionSort (ltOf fun x y : Fin (m + 1) => Lib.compareInt (o x.val) (o y.val)) (arr l) 0 (arr (m := m) l).size = insertionSort (kLt (fun x : Fin (m + 1) => o x.val) Fin.val) (arr l) 0 (arr (m := m) l).size := by
    refine insertionSort_eq (Nat.le_refl _) fun k j _ h1 h2 => ?_
    rw [arr_size] at h2
    have hlt : l[k]'(by omega) < l[j]'h2 := List.pairwise_iff_getElem.1 asc k j (by omega) h2 h1
    have e1 : ((arr (m := m) l)[k]!).val = l[k]'(by omega) := arr_at hl (by omega)
    have e2 : ((arr (m := m) l)[j]!).val = l[j]'h2 := arr_at hl h2
    show decide (Lib.compareInt (o ((arr (m := m) l)[j]!).val) (o ((arr (m := m) l)[k]!).val) < 0) = decide (o ((arr (m := m) l)[j]!).val < o ((arr (m := m) l)[k]!).val ∨ (o ((arr (m := m) l)[j]!).val = o ((arr (m := m) l)[k]!).val ∧ ((arr (m := m) l)[j]!).val < ((arr (m := m) l)[k]!).val))
    rw [cmp_lt, e1, e2, Bool.eq_iff_iff, decide_eq_true_iff, decide_eq_true_iff]
    omega
  rw [hins] at ks
  have hsort := insertionSort_holds (kLt_swo (fun x : Fin (m + 1) => o x.val) Fin.val) (arr (m := m) l) 0 (arr (m := m) l).size (Nat.zero_le _) (Nat.le_refl _)
  rw [arr_size] at ks hsort
  obtain ⟨hs1, hs2⟩ := hsort
  have hsz : (insertionSort (kLt (fun x : Fin (m + 1) => o x.val) Fin.val) (arr l) 0 l.length).size = l.length := hs1.1.trans (arr_size l)
  have hso := sorted_of (o := o) hl asc hs1 hs2
  generalize insertionSort (kLt (fun x : Fin (m + 1) => o x.val) Fin.val) (arr l) 0 l.length = d' at ks hsz hso
  replace ks := Lib.hid ks
  replace hso := Lib.hid hso
  clear hRo hC hins hs1 hs2 hcell hfr hrb hR asc hl
  go_enter Tryz.func53, Tryz.ntmps53
  go_wp2_with fail
  refine ks.out.mono ?_
  rintro e w2 ⟨rfl, h1, h2⟩
  have h3 : Hid (∀ j (hj : j < (d'.toList.map Fin.val).length), w2.cell? ⟨bl, j, none⟩ = some (.int .i64 ((d'.toList.map Fin.val)[j] : Int))) := fun j hj => by
    have hj2 : j < d'.size := by simpa using hj
    have h4 := h1.cell j hj2
    rw [getElem!_pos _ j hj2] at h4
    simpa using h4
  replace h2 := Lib.hid h2
  clear h1
  go_wp2
  go_end0
  exact ⟨rfl, ⟨_, hso.out, h3.out⟩, h2.out⟩
end Co
end Go.Proofs.YtpmlhgmmobpilaaGreatDoor
namespace Go.Proofs.YtpmlhgmmobpilaaGreatDoor
open Go.RowKit Go.Shelf
namespace Co
open Nt Ci
def lexo (o : Nat → Int) (a b : Nat) : Prop := o a < o b ∨ (o a = o b ∧ a < b)
noncomputable def posL (o : Nat → Int) (n : Nat) : List Nat := (List.range n).filter fun x => decide (0 < o x)
noncomputable def clL (o : Nat → Int) (n : Nat) : List Nat := (List.range n).filter fun x => decide (0 ≤ o x)
theorem castL_get' {l : List Nat} {j : Nat} (h : j < l.length) (h' : j < (l.map fun (q : Nat) => (q : Int)).length) : (l.map fun (q : Nat) => (q : Int))[j] = (l[j] : Int) := by simp
def castL (l : List Nat) : List Int := l.map fun (q : Nat) => (q : Int)
/-- The controlled parties up to p, in the order of their rounds. -/
def OrdIs (o : Nat → Int) (n p : Nat) (l : List Nat) : Prop := l.Pairwise (lexo o) ∧ ∀ x, x ∈ l ↔ x < n ∧ 0 < o x ∧ (x = p ∨ lexo o x p)
section
variable {o : Nat → Int} {n p i : Nat} {l l' : List Nat}
theorem posL_yes (h : 0 < o i) : posL o (i + 1) = posL o i ++ [i] := by
  unfold posL
  rw [List.range_succ, List.filter_append, List.filter_cons, if_pos (decide_eq_true h)]
  rfl
theorem posL_no (h : ¬ 0 < o i) : posL o (i + 1) = posL o i := by
  unfold posL
  rw [List.range_succ, List.filter_append, List.filter_cons, if_neg (by simpa using h)]
  simp
theorem clL_yes (h : 0 ≤ o i) : clL o (i + 1) = clL o i ++ [i] := by
  unfold clL
  rw [List.range_succ, List.filter_append, List.filter_cons, if_pos (decide_eq_true h)]
  rfl
theorem clL_no (h : ¬ 0 ≤ o i) : clL o (i + 1) = clL o i := by
  unfold clL
  rw [List.range_succ, List.filter_append, List.filter_cons, if_neg (by simpa using h)]
  simp
theorem posL_mem {x : Nat} : x ∈ posL o n ↔ x < n ∧ 0 < o x := by unfold posL; rw [List.mem_filter, List.mem_range, decide_eq_true_iff]
theorem posL_len : (posL o n).length ≤ n := by
  have := List.length_filter_le (fun x => decide (0 < o x)) (List.range n)
  rwa [List.length_range] at this
theorem clL_len : (clL o n).length ≤ n := by
  have := List.length_filter_le (fun x => decide (0 ≤ o x)) (List.range n)
  rwa [List.length_range] at this
theorem posL_asc : (posL o n).Pairwise (· < ·) := List.Pairwise.filter _ List.pairwise_lt_range
theorem castL_len : (castL l).length = l.length := List.length_map ..
theorem castL_get {j : Nat} (h : j < (castL l).length) (h' : j < l.length) : (castL l)[j] = (l[j] : Int) := castL_get' h' h
theorem lexo_asymm {a b : Nat} (h : lexo o a b) (h2 : lexo o b a) : False := by unfold lexo at h h2; omega
theorem take_mem (hs : l'.Pairwise (lexo o)) (hi : i < l'.length) (x : Nat) : x ∈ l'.take (i + 1) ↔ x ∈ l' ∧ (x = l'[i] ∨ lexo o x l'[i]) := by
  rw [List.pairwise_iff_getElem] at hs
  constructor
  · intro h
    refine ⟨List.mem_of_mem_take h, ?_⟩
    obtain ⟨j, hj, rfl⟩ := List.getElem_of_mem h
    rw [List.length_take] at hj
    rw [List.getElem_take]
    by_cases e : j = i
    · subst e; exact .inl rfl
    · exact .inr (hs j i (by omega) hi (by omega))
  · rintro ⟨h1, h2⟩
    obtain ⟨j, hj, rfl⟩ := List.getElem_of_mem h1
    by_cases c : j ≤ i
    · exact List.mem_of_getElem (i := j) (h := by rw [List.length_take]; omega) (by rw [List.getElem_take])
    · have h3 := hs i j hi hj (by omega)
      rcases h2 with h2 | h2
      · rw [← h2] at h3
        unfold lexo at h3
        omega
      · exact absurd h3 fun h3 => lexo_asymm h2 h3
theorem ord_take (hs : Sorted o (posL o n) l') (hp : p < n) (h0 : 0 < o p) : ∃ i, i < l'.length ∧ ixOf (castL l') (p : Int) = (i : Int) ∧ OrdIs o n p (l'.take (i + 1)) := by
  obtain ⟨h1, h2⟩ := hs
  have hm : p ∈ l' := h1.mem_iff.2 (posL_mem.2 ⟨hp, h0⟩)
  have hi : l'.idxOf p < l'.length := List.idxOf_lt_length_of_mem hm
  have e : l'[l'.idxOf p] = p := List.getElem_idxOf hi
  refine ⟨l'.idxOf p, hi, ?_, h2.sublist (List.take_sublist _ _), fun x => ?_⟩
  · refine ix_at (by rw [castL_len]; exact hi) (fun j hj hlt => ?_) (by rw [castL_get (by rw [castL_len]; exact hi) hi, e])
    have hj2 : j < l'.length := by rwa [castL_len] at hj
    rw [castL_get hj hj2]
    intro c
    have := List.not_of_lt_findIdx (p := fun y => y == p) (xs := l') (i := j) (by simpa [List.idxOf] using hlt)
    have c2 : l'[j] = p := by omega
    simp [c2] at this
  · rw [take_mem h2 hi, e, h1.mem_iff, posL_mem]
    constructor
    · rintro ⟨⟨a, b⟩, c⟩; exact ⟨a, b, c⟩
    · rintro ⟨a, b, c⟩; exact ⟨⟨a, b⟩, c⟩
theorem ord_none (hs : Sorted o (posL o n) l') (h0 : o p = 0) : ixOf (castL l') (p : Int) = -1 ∧ OrdIs o n p [] := by
  refine ⟨ix_no fun j hj c => ?_, List.Pairwise.nil, fun x => ⟨fun h => (by cases h), fun ⟨_, a, b⟩ => ?_⟩⟩
  · have hj2 : j < l'.length := by rwa [castL_len] at hj
    rw [castL_get hj hj2] at c
    have hm : p ∈ l' := by
      have : l'[j] = p := by omega
      rw [← this]; exact List.getElem_mem hj2
    have := (posL_mem.1 (hs.1.mem_iff.1 hm)).2
    omega
  · rcases b with rfl | b
    · omega
    · unfold lexo at b; omega
end
structure PvI (wo wr : World) (pb B : Nat) (l1 l2 : List Nat) (u1 u2 : Value) : Prop where
  k : Kp [pb] wo wr
  p : Bk wr pb 56 [u1, u2]
  r1 : wr.ownsRow B 3 1 u1 l1.length (intsL l1)
  r2 : wr.ownsRow B 3 1 u2 l2.length (intsL l2)
  ap : ∀ b, u1.ownBlock = some b → u2.ownBlock ≠ some b
  lp : pb < B
  lo : wo.heap.size ≤ B
section
variable {wo W W' : World} {pb B : Nat} {l1 l2 : List Nat} {u1 u2 u : Value} {q : Nat}
theorem PvI.below (h : PvI wo W pb B l1 l2 u1 u2) (hb : Below W.heap.size W W') : PvI wo W' pb B l1 l2 u1 u2 :=
  ⟨h.k.below hb, h.p.below hb, own_below' h.r1 hb, own_below' h.r2 hb, h.ap, h.lp, h.lo⟩
theorem keepOff {x v : Value} {n : Nat} {xs : List Value} (hx : W.ownsRow B 3 1 x n xs) (hg : W.grownBy W' v.ownBlock) (ha : ∀ b, x.ownBlock = some b → v.ownBlock ≠ some b) : W'.ownsRow B 3 1 x n xs :=
  hx.kept hg (by
    cases hu : x.ownBlock with
    | none => exact .inl rfl
    | some b => exact .inr fun e => ha b hu e.symm)
theorem setOff {x : Value} {n j : Nat} {xs : List Value} (hx : W.ownsRow B 3 1 x n xs) (hp : pb < B) (y : Value) : (W.setCell ⟨pb, j, none⟩ y).ownsRow B 3 1 x n xs :=
  hx.kept (grown_set W ⟨pb, j, none⟩ y) (by
    cases hu : x.ownBlock with
    | none => exact .inl rfl
    | some b => exact .inr fun e => by have h1 := (hx.lt b hu).1; have h2 : b = pb := Option.some.inj e; omega)
theorem PvI.put1 (h : PvI wo W pb B l1 l2 u1 u2) (hg : W.grownBy W' u1.ownBlock) (ho : W'.ownsRow B 3 1 u (l1.length + 1) (intsL (l1 ++ [q]))) (hn : u.ownBlock = u1.ownBlock ∨ u.ownBlock = some W.heap.size) : PvI wo (W'.setCell ⟨pb, 0, none⟩ u) pb B (l1 ++ [q]) l2 u u2 := by
  refine ⟨(h.k.grown hg fun b e => .inr (Nat.le_trans h.lo (h.r1.lt b e).1)).set _ (.inl (by simp)), (h.p.grown hg fun e => by have := (h.r1.lt pb e.symm).1; have := h.lp; omega).set 0 u, ?_, setOff (keepOff h.r2 hg fun b e1 e2 => h.ap b e2 e1) h.lp u, fun b e1 e2 => ?_, h.lp, h.lo⟩
  · rw [List.length_append, List.length_singleton]; exact setOff ho h.lp u
  · rcases hn with hn | hn
    · exact h.ap b (by rw [← hn, e1]) e2
    · have := (h.r2.lt b e2).2
      rw [e1] at hn
      simp only [Option.some.injEq] at hn
      omega
theorem PvI.put2 (h : PvI wo W pb B l1 l2 u1 u2) (hg : W.grownBy W' u2.ownBlock) (ho : W'.ownsRow B 3 1 u (l2.length + 1) (intsL (l2 ++ [q]))) (hn : u.ownBlock = u2.ownBlock ∨ u.ownBlock = some W.heap.size) : PvI wo (W'.setCell ⟨pb, 1, none⟩ u) pb B l1 (l2 ++ [q]) u1 u := by
  refine ⟨(h.k.grown hg fun b e => .inr (Nat.le_trans h.lo (h.r2.lt b e).1)).set _ (.inl (by simp)), (h.p.grown hg fun e => by have := (h.r2.lt pb e.symm).1; have := h.lp; omega).set 1 u, setOff (keepOff h.r1 hg fun b e1 e2 => h.ap b e1 e2) h.lp u, ?_, fun b e1 e2 => ?_, h.lp, h.lo⟩
  · rw [List.length_append, List.length_singleton]; exact setOff ho h.lp u
  · rcases hn with hn | hn
    · exact h.ap b e1 (by rw [← hn, e2])
    · have := (h.r1.lt b e1).2
      rw [e2] at hn
      simp only [Option.some.injEq] at hn
      omega
end
end Co
end Go.Proofs.YtpmlhgmmobpilaaGreatDoor
namespace Go.Proofs.YtpmlhgmmobpilaaGreatDoor
open Go.RowKit Go.Shelf
namespace Co
open Nt Ci
/-- The sort is known for lists shorter than K. -/
def SortUpTo (K : Nat) : Prop := ∀ (rb b n bl cap : Nat) (o : Nat → Int) (l : List Nat) (w : World), 0 < l.length → l.length < K → (∀ x, x ∈ l → x < n) → l.Pairwise (· < ·) → (∀ j (hj : j < l.length), w.cell? ⟨bl, j, none⟩ = some (.int .i64 (l[j] : Int))) → (∀ j, w.frozen? ⟨bl, j, none⟩ = false) → bl < w.heap.size → w.cell? ⟨rb, 0, none⟩ = some (.slice (some ⟨b, 0, none⟩) n n) → rb < w.heap.size → RoI w b n o → rb ≠ bl → b ≠ bl →
  Calls Tryz.prog 53 #[.slice (some ⟨bl, 0, none⟩) l.length cap, .func (.func 77) #[] #[.pointer (some ⟨rb, 0, none⟩)]] w (SortPost o bl l w)
theorem sortUpTo_small : SortUpTo 20 := fun rb b n bl cap o l w h0 h20 hl asc hc hf hbl hrb hrl hR n1 n2 => sort_small rb b n bl cap o l w h0 h20 hl asc hc hf hbl hrb hrl hR n1 n2
/-- What Prove gives. -/
def PvPost (s : SR) (F : List Int) (party : Int) (w : World) (e : Ending) (w' : World) : Prop :=
  (if soundB s = true ∧ listB s.ps.length F = true ∧ 0 ≤ party ∧ party < s.ps.length then
    (if 0 ≤ rd (VT s) (toN F) party.toNat then ∃ A c l, e = .returned (.tuple #[.agg #[.slice A (List.length l) c, .slice none 0 0], .int .i64 0]) ∧ InInt w' A (castL l) ∧ OrdIs (rd (VT s) (toN F)) s.ps.length party.toNat l
      else ∃ A c, e = .returned (.tuple #[.agg #[.slice none 0 0, .slice A (clL (rd (VT s) (toN F)) s.ps.length).length c], .int .i64 0]) ∧ InInt w' A (castL (clL (rd (VT s) (toN F)) s.ps.length)))
    else e = .returned (.tuple #[.agg #[.slice none 0 0, .slice none 0 0], .int .i64 1])) ∧ Below w.heap.size w w'
theorem res_proof {tb : Nat} {u1 u2 : Value} {W : World} (hb : Bk W tb 56 [u1, u2]) {tmps : Array Value} (h6 : tmps.getD 6 undef = .pointer (some ⟨tb, 0, none⟩)) {e : Int} (h7 : tmps.getD 7 undef = .int .i64 e) :
    (results Tryz.f30 tmps).run Tryz.prog W = .ok (.tuple #[.agg #[u1, u2], .int .i64 e]) W := by
  have c0 := hb.cell (j := 0) rfl
  have c1 := hb.cell (j := 1) rfl
  have c9 := hb.lt
  rw [results_cell_tmp rfl, h6, h7]
  go_simp
theorem castL_far {W : World} {g t : Nat} {l : List Nat} {u v : Value} (h : InInt W (some ⟨g, 0, none⟩) (castL l)) (hg : g ≠ t) : InInt ((W.setCell ⟨t, 0, none⟩ u).setCell ⟨t, 1, none⟩ v) (some ⟨g, 0, none⟩) (castL l) := fun h0 => by
  obtain ⟨b, o, e, hb, hc⟩ := h h0
  simp only [Option.some.injEq, Addr.mk.injEq, and_true] at e
  obtain ⟨rfl, rfl⟩ := e
  refine ⟨_, _, rfl, by simpa using hb, fun j hj => ?_⟩
  rw [World.cell?_setCell_other _ _ _ _ (fun e => by injection e with e1 _; first | exact hg e1 | exact hg e1.symm), World.cell?_setCell_other _ _ _ _ (fun e => by injection e with e1 _; first | exact hg e1 | exact hg e1.symm)]
  exact hc j hj
theorem castL_in {W : World} {g : Nat} {l : List Nat} (hg : g < W.heap.size) (h : ∀ j (hj : j < l.length), W.cell? ⟨g, j, none⟩ = some (.int .i64 (l[j] : Int))) : InInt W (some ⟨g, 0, none⟩) (castL l) := fun _ => ⟨g, 0, rfl, hg, fun j hj => by
  have hj2 : j < l.length := by rwa [castL_len] at hj
  rw [Nat.zero_add, h j hj2]
  simp [castL]⟩
set_option maxRecDepth 100000 in
set_option maxHeartbeats 16000000 in
theorem Prove_w (K : Nat) (HS : SortUpTo K) (s : SR) (Ap Ac Av Af : Option Addr) (cp cc cv cf : Nat) (F : List Int) (party : Int) (w : World) (hE : Env w) (hs : StIn w s Ap Ac Av) (hc3 : s.cap.length ≤ 300) (hv3 : s.vot.length ≤ 300) (hF : InInt w Af F) (hFl : F.length ≤ 140737488355328) (hK : s.ps.length < K) :
    Calls Tryz.prog 30 #[.agg #[.slice Ap s.ps.length cp, .slice Ac s.cap.length cc, .slice Av s.vot.length cv], .slice Af F.length cf, .int .i64 party] w (PvPost s F party w) := by
  have hB1 : Hid (Below w.heap.size w ((w.alloc (.cells #[.slice Ap s.ps.length cp, .slice Ac s.cap.length cc, .slice Av s.vot.length cv] 54)).alloc (.cells #[.slice none 0 0, .slice none 0 0] 56))) := ((Below.refl _ w).alloc (Nat.le_refl _) _).alloc (by simp) _
  have hX1 : Hid (Bk ((w.alloc (.cells #[.slice Ap s.ps.length cp, .slice Ac s.cap.length cc, .slice Av s.vot.length cv] 54)).alloc (.cells #[.slice none 0 0, .slice none 0 0] 56)) w.heap.size 54 (SC s Ap Ac Av cp cc cv)) := (Bk.new w _ _).alloc _
  have hT1 : Hid (Bk ((w.alloc (.cells #[.slice Ap s.ps.length cp, .slice Ac s.cap.length cc, .slice Av s.vot.length cv] 54)).alloc (.cells #[.slice none 0 0, .slice none 0 0] 56)) (w.heap.size + 1) 56 [.slice none 0 0, .slice none 0 0]) := by have h := Bk.new (w.alloc (.cells #[.slice Ap s.ps.length cp, .slice Ac s.cap.length cc, .slice Av s.vot.length cv] 54)) 56 [.slice none 0 0, .slice none 0 0]; rw [World.size_alloc] at h; exact h
  have u0 := hX1.out.cell (j := 0) rfl; have u1 := hX1.out.cell (j := 1) rfl; have u2 := hX1.out.cell (j := 2) rfl; have u9 := hX1.out.lt
  have kc := Controlled_any s Ap Ac Av Af cp cc cv cf F _ (hE.below hB1.out) (hs.below hB1.out) hc3 hv3 (hF.below hB1.out) hFl
  obtain ⟨tb, htb⟩ : ∃ x, x = w.heap.size + 1 := ⟨_, rfl⟩
  obtain ⟨W1, hW1⟩ : ∃ W, W = ((w.alloc (.cells #[.slice Ap s.ps.length cp, .slice Ac s.cap.length cc, .slice Av s.vot.length cv] 54)).alloc (.cells #[.slice none 0 0, .slice none 0 0] 56)) := ⟨_, rfl⟩
  rw [← hW1] at hB1 hX1 hT1 kc u0 u1 u2 u9
  rw [← htb] at hT1
  have htw : Hid (w.heap.size ≤ tb) := by rw [htb]; exact Nat.le_succ _
  by_cases hgd : soundB s = true ∧ listB s.ps.length F = true
  · have kc2 : Hid (Calls Tryz.prog 28 #[.agg #[.slice Ap s.ps.length cp, .slice Ac s.cap.length cc, .slice Av s.vot.length cv], .slice Af F.length cf] W1 fun e w' => (∃ b, e = .returned (.tuple #[.slice (some ⟨b, 0, none⟩) s.ps.length s.ps.length, .int .i64 0]) ∧ W1.heap.size ≤ b ∧ RoI w' b s.ps.length (rd (VT s) (toN F))) ∧ Below W1.heap.size W1 w') := kc.mono fun e w' h => ⟨by have h1 := h.1; rw [if_pos hgd] at h1; exact h1, h.2⟩
    clear kc
    have hn60 := sound_n hgd.1
    by_cases hpa : 0 ≤ party ∧ party < s.ps.length
    · obtain ⟨p, rfl⟩ : ∃ p : Nat, party = (p : Int) := ⟨party.toNat, by omega⟩
      have hpn : p < s.ps.length := by omega
      have hP : Hid (∀ o, o = rd (VT s) (toN F) → (∀ e W, 0 ≤ o p → (∃ A c l, e = .returned (.tuple #[.agg #[.slice A (List.length l) c, .slice none 0 0], .int .i64 0]) ∧ InInt W A (castL l) ∧ OrdIs o s.ps.length p l) → Below w.heap.size w W → PvPost s F (p : Int) w e W) ∧ ∀ e W, ¬ 0 ≤ o p → (∃ A c, e = .returned (.tuple #[.agg #[.slice none 0 0, .slice A (clL o s.ps.length).length c], .int .i64 0]) ∧ InInt W A (castL (clL o s.ps.length))) → Below w.heap.size w W → PvPost s F (p : Int) w e W) := by
        rintro o rfl
        refine ⟨fun e W h0 h1 h2 => ⟨?_, h2⟩, fun e W h0 h1 h2 => ⟨?_, h2⟩⟩
        · rw [if_pos ⟨hgd.1, hgd.2, hpa⟩, if_pos (show 0 ≤ rd (VT s) (toN F) ((p : Int)).toNat from h0)]; exact h1
        · rw [if_pos ⟨hgd.1, hgd.2, hpa⟩, if_neg (show ¬ 0 ≤ rd (VT s) (toN F) ((p : Int)).toNat from h0)]; exact h1
      replace hgd := Lib.hid hgd
      go_enter Tryz.func30, Tryz.ntmps30
      go_wp2_with fail
      (try rw [← hW1])
      (try rw [← htb])
      replace hW1 := Lib.hid hW1; replace htb := Lib.hid htb
      refine kc2.out.mono ?_
      rintro e w3 ⟨⟨b, rfl, hb0, hR3⟩, hb⟩
      obtain ⟨o, ho⟩ : ∃ o, o = rd (VT s) (toN F) := ⟨_, rfl⟩
      rw [← ho] at hR3
      have hP2 := hP.out o ho
      replace hP := Lib.hid hP2
      clear hP2
      have hB3 := Lib.hid (hB1.out.trans (hb.mono hB1.out.size))
      have hT3 := Lib.hid (hT1.out.below hb)
      replace hR3 := Lib.hid hR3
      have hbt : Hid (b ≠ tb) := fun e => by have := hT1.out.lt; omega
      clear hb hX1 u0 u1 u2 u9 kc2 ho
      have hQ4 : Hid (Bk (w3.alloc (.cells #[.slice (some ⟨b, 0, none⟩) s.ps.length s.ps.length] 24)) w3.heap.size 24 [.slice (some ⟨b, 0, none⟩) s.ps.length s.ps.length]) := Bk.new w3 _ _
      have q0 := hQ4.out.cell (j := 0) rfl; have q9 := hQ4.out.lt
      have hb5 : Hid (Below w3.heap.size w3 ((w3.alloc (.cells #[.slice (some ⟨b, 0, none⟩) s.ps.length s.ps.length] 24)).alloc (.cells #[.slice none 0 0, .slice none 0 0] 56))) := ((Below.refl _ w3).alloc (Nat.le_refl _) _).alloc (by simp) _
      have hP5 : Hid (Bk ((w3.alloc (.cells #[.slice (some ⟨b, 0, none⟩) s.ps.length s.ps.length] 24)).alloc (.cells #[.slice none 0 0, .slice none 0 0] 56)) (w3.heap.size + 1) 56 [.slice none 0 0, .slice none 0 0]) := by have h := Bk.new (w3.alloc (.cells #[.slice (some ⟨b, 0, none⟩) s.ps.length s.ps.length] 24)) 56 [.slice none 0 0, .slice none 0 0]; rw [World.size_alloc] at h; exact h
      have hQ5 := Lib.hid (hQ4.out.alloc (.cells #[.slice none 0 0, .slice none 0 0] 56))
      have y0 := hQ5.out.cell (j := 0) rfl; have y9 := hQ5.out.lt
      have m1 : decide ((p : Int) < 0) = false := decide_eq_false (by omega); have m2 : decide ((s.ps.length : Int) ≤ (p : Int)) = false := decide_eq_false (by omega); have m2n : decide (s.ps.length ≤ p) = false := decide_eq_false (by omega)
      go_wp2_with fail
      obtain ⟨wo, hwo⟩ : ∃ W, W = ((w3.alloc (.cells #[.slice (some ⟨b, 0, none⟩) s.ps.length s.ps.length] 24)).alloc (.cells #[.slice none 0 0, .slice none 0 0] 56)) := ⟨_, rfl⟩
      rw [← hwo] at hb5 hP5 hQ5 ⊢
      obtain ⟨rb, hrb⟩ : ∃ x, x = w3.heap.size := ⟨_, rfl⟩
      have hsz : wo.heap.size = rb + 2 := by rw [hwo, hrb]; simp
      rw [← hrb] at hQ5 hP5 ⊢
      have hB5 := Lib.hid (hB3.out.trans (hb5.out.mono hB3.out.size)); have hT5 := Lib.hid (hT3.out.below hb5.out); have hR5 := Lib.hid (hR3.out.below hb5.out)
      have htr : Hid (tb < rb) := by have := hT3.out.lt; rw [hrb]; exact this
      have hbr : Hid (b < rb) := by have := hR3.out.lt; rw [hrb]; exact this
      have hwr : Hid (w.heap.size ≤ rb) := by rw [hrb]; exact hB3.out.size
      replace hwo := Lib.hid hwo; replace hrb := Lib.hid hrb
      clear hb5 hQ4 q0 q9 y0 y9 hB3 hT3 hR3 hT1 hB1
      obtain ⟨i0, hi0, hzz⟩ := Option.map_eq_some_iff.1 infoI
      simp only [Prod.mk.injEq] at hzz
      obtain ⟨hz0, hz1, hz2⟩ := hzz
      replace hi0 := Lib.hid hi0
      replace hz0 := Lib.hid hz0
      replace hz1 := Lib.hid hz1
      replace hz2 := Lib.hid hz2
      have hV0 : Hid (PvI wo wo (rb + 1) (rb + 2) (posL o 0) (clL o 0) (.slice none 0 0) (.slice none 0 0)) := ⟨Kp.refl _ _, hP5.out, World.ownsRow_nil _ _ _ _, World.ownsRow_nil _ _ _ _, fun b h => (by cases h), Nat.lt_succ_self _, by omega⟩
      go_loopw [34] (fun ix wr => ∃ (i c1 c2 : Nat) (A1 A2 : Option Addr), i ≤ s.ps.length ∧ ix = .int .i64 (i : Int) ∧ Hid (PvI wo wr (rb + 1) (rb + 2) (posL o i) (clL o i) (.slice A1 (posL o i).length c1) (.slice A2 (clL o i).length c2))) (fun ix _ => s.ps.length - (intOf ix).toNat)
      case atStart => exact ⟨0, 0, 0, none, none, Nat.zero_le _, rfl, hV0⟩
      case round =>
        obtain ⟨i, c1, c2, A1, A2, hi, rfl, hV⟩ := hrel
        clear hV0
        have hRi : Hid (RoI wr b s.ps.length o) := hR5.out.of_block hV.out.k.size (hV.out.k.block b hR5.out.lt (by simp; have := hbr.out; omega))
        have l1 := posL_len (o := o) (n := i); have l2 := clL_len (o := o) (n := i)
        by_cases hin : i < s.ps.length
        · have e1 := hRi.out.cell i hin; have e9 := hRi.out.lt
          have j0 : (0 : Int) ≤ (i : Int) := by omega
          have j1 : (i : Int) < (s.ps.length : Int) := by omega
          have v0 := hV.out.p.cell (j := 0) rfl; have v1 := hV.out.p.cell (j := 1) rfl; have v9 := hV.out.p.lt
          have hcl : o i < 0 ∨ o i = 0 ∨ 0 < o i := by omega
          generalize hoi : o i = d at e1 hcl
          rcases hcl with h1 | h1 | h1
          · have m3 : decide (0 < d) = false := decide_eq_false (by omega); have m4 : decide (0 ≤ d) = false := decide_eq_false (by omega)
            have hr : Hid (posL o (i + 1) = posL o i) := posL_no (by omega); have hs : Hid (clL o (i + 1) = clL o i) := clL_no (by omega)
            have hV2 : Hid (PvI wo wr (rb + 1) (rb + 2) (posL o (i + 1)) (clL o (i + 1)) (.slice A1 (posL o (i + 1)).length c1) (.slice A2 (clL o (i + 1)).length c2)) := by rw [hr.out, hs.out]; exact hV.out
            replace hoi := Lib.hid hoi; clear h1 hr hs l1 l2
            go_wp2
            exact ⟨⟨i + 1, c1, c2, A1, A2, by omega, by go_num, hV2⟩, by simp only [intOf]; omega⟩
          · have m3 : decide (0 < d) = false := decide_eq_false (by omega); have m4 : decide (0 ≤ d) = true := decide_eq_true (by omega)
            have hr : Hid (posL o (i + 1) = posL o i) := posL_no (by omega); have hs : Hid (clL o (i + 1) = clL o i ++ [i]) := clL_yes (by omega)
            have hsl : Hid ((clL o (i + 1)).length = (clL o i).length + 1) := by rw [hs.out]; exact List.length_append
            have hV7 := Lib.hid (hV.out.below ((Below.refl _ wr).alloc (Nat.le_refl _) (.cells #[.int .i64 (i : Int)] 3)))
            have hbs7 : Hid (rb + 2 ≤ (wr.alloc (.cells #[.int .i64 (i : Int)] 3)).heap.size) := (by have := hV7.out.k.size; show rb + 2 ≤ _; omega)
            have had7 : Hid (∀ j u, [(Value.int .i64 (i : Int))][j]? = some u → (wr.alloc (.cells #[.int .i64 (i : Int)] 3)).cell? (Addr.add ⟨wr.heap.size, 0, none⟩ j) = some u) := (by have h := head_new wr (.int .i64 (i : Int)) 3; (try rw [World.size_setCell] at h); exact h)
            have hrp7 : Hid (intsL (clL o i) ++ [.int .i64 (i : Int)] = intsL (clL o i ++ [i])) := (intsL_snoc _ _).symm
            replace hoi := Lib.hid hoi; clear h1
            go_wp2_with (at_builtin; refine wpList_append_new _ rfl _ _ 24 rfl (rb + 2) 3 i0 (.int .i64 0) 1 8 Tryz.underlying24 hi0.out hz0.out hz1.out hz2.out rfl (by decide) (.slice A2 (clL o i).length c2) (clL o i).length _ rfl hV7.out.r2 ⟨wr.heap.size, 0, none⟩ 1 1 [.int .i64 (i : Int)] rfl rfl had7.out (one_cell1 _ rfl) (by decide) (by unfold maxLen; omega) (by omega) hbs7.out ?_; intro vb7 wb7 ho7 hg7 hn7; obtain ⟨B7, d7, rfl⟩ := own_form ho7; rw [hrp7.out] at ho7; have hV79 := Lib.hid (hV7.out.put2 hg7 ho7 hn7); have z7 : wb7.cell? ⟨rb + 1, 1, none⟩ = some (.slice A2 (clL o i).length c2) := (World.cell?_of_block (a := ⟨rb + 1, 1, none⟩) (hg7.block (rb + 1) hV7.out.p.lt (fun e => by have := (hV7.out.r2.lt _ e.symm).1; omega))).trans (hV7.out.p.cell (j := 1) rfl); have y7 : wb7.frozen? ⟨rb + 1, 1, none⟩ = false := (World.frozen?_of_block (a := ⟨rb + 1, 1, none⟩) (hg7.block (rb + 1) hV7.out.p.lt (fun e => by have := (hV7.out.r2.lt _ e.symm).1; omega))).trans (hV7.out.p.frozen 1); have x7 : rb + 1 < wb7.heap.size := Nat.lt_of_lt_of_le hV7.out.p.lt hg7.size; clear hg7 hn7 ho7)
            have hV2 : Hid (PvI wo (wb7.setCell ⟨rb + 1, 1, none⟩ (.slice B7 ((clL o i).length + 1) d7)) (rb + 1) (rb + 2) (posL o (i + 1)) (clL o (i + 1)) (.slice A1 (posL o (i + 1)).length c1) (.slice B7 (clL o (i + 1)).length d7)) := by rw [hsl.out, hr.out, hs.out]; exact hV79.out
            go_roundw
            case rel => exact ⟨i + 1, c1, d7, A1, B7, by omega, by go_num, hV2⟩
            case measure => simp [intOf]; omega
          · have m3 : decide (0 < d) = true := decide_eq_true (by omega); have m4 : decide (0 ≤ d) = true := decide_eq_true (by omega)
            have hr : Hid (posL o (i + 1) = posL o i ++ [i]) := posL_yes (by omega); have hs : Hid (clL o (i + 1) = clL o i ++ [i]) := clL_yes (by omega)
            have hrl : Hid ((posL o (i + 1)).length = (posL o i).length + 1) := by rw [hr.out]; exact List.length_append
            have hsl : Hid ((clL o (i + 1)).length = (clL o i).length + 1) := by rw [hs.out]; exact List.length_append
            have hV7 := Lib.hid (hV.out.below ((Below.refl _ wr).alloc (Nat.le_refl _) (.cells #[.int .i64 (i : Int)] 3)))
            have hbs7 : Hid (rb + 2 ≤ (wr.alloc (.cells #[.int .i64 (i : Int)] 3)).heap.size) := (by have := hV7.out.k.size; show rb + 2 ≤ _; omega)
            have had7 : Hid (∀ j u, [(Value.int .i64 (i : Int))][j]? = some u → (wr.alloc (.cells #[.int .i64 (i : Int)] 3)).cell? (Addr.add ⟨wr.heap.size, 0, none⟩ j) = some u) := (by have h := head_new wr (.int .i64 (i : Int)) 3; (try rw [World.size_setCell] at h); exact h)
            have hrp7 : Hid (intsL (posL o i) ++ [.int .i64 (i : Int)] = intsL (posL o i ++ [i])) := (intsL_snoc _ _).symm
            replace hoi := Lib.hid hoi; clear h1
            go_wp2_with (first | (at_builtin; refine wpList_append_new _ rfl _ _ 24 rfl (rb + 2) 3 i0 (.int .i64 0) 1 8 Tryz.underlying24 hi0.out hz0.out hz1.out hz2.out rfl (by decide) (.slice A1 (posL o i).length c1) (posL o i).length _ rfl hV7.out.r1 ⟨wr.heap.size, 0, none⟩ 1 1 [.int .i64 (i : Int)] rfl rfl had7.out (one_cell1 _ rfl) (by decide) (by unfold maxLen; omega) (by omega) hbs7.out ?_; intro vb7 wb7 ho7 hg7 hn7; obtain ⟨B7, d7, rfl⟩ := own_form ho7; rw [hrp7.out] at ho7; have hV79 := Lib.hid (hV7.out.put1 hg7 ho7 hn7); have z7 : wb7.cell? ⟨rb + 1, 0, none⟩ = some (.slice A1 (posL o i).length c1) := (World.cell?_of_block (a := ⟨rb + 1, 0, none⟩) (hg7.block (rb + 1) hV7.out.p.lt (fun e => by have := (hV7.out.r1.lt _ e.symm).1; omega))).trans (hV7.out.p.cell (j := 0) rfl); have y7 : wb7.frozen? ⟨rb + 1, 0, none⟩ = false := (World.frozen?_of_block (a := ⟨rb + 1, 0, none⟩) (hg7.block (rb + 1) hV7.out.p.lt (fun e => by have := (hV7.out.r1.lt _ e.symm).1; omega))).trans (hV7.out.p.frozen 0); have x7 : rb + 1 < wb7.heap.size := Nat.lt_of_lt_of_le hV7.out.p.lt hg7.size; clear hg7 hn7 ho7; have s1 : (wb7.setCell ⟨rb + 1, 0, none⟩ (.slice B7 ((posL o i).length + 1) d7)).cell? ⟨rb + 1, 1, none⟩ = some (.slice A2 (clL o i).length c2) := hV79.out.p.cell (j := 1) rfl; have hV8 := Lib.hid (hV79.out.below ((Below.refl _ (wb7.setCell ⟨rb + 1, 0, none⟩ (.slice B7 ((posL o i).length + 1) d7))).alloc (Nat.le_refl _) (.cells #[.int .i64 (i : Int)] 3))); have hbs8 : Hid (rb + 2 ≤ ((wb7.setCell ⟨rb + 1, 0, none⟩ (.slice B7 ((posL o i).length + 1) d7)).alloc (.cells #[.int .i64 (i : Int)] 3)).heap.size) := (by have := hV8.out.k.size; show rb + 2 ≤ _; omega); have had8 : Hid (∀ j u, [(Value.int .i64 (i : Int))][j]? = some u → ((wb7.setCell ⟨rb + 1, 0, none⟩ (.slice B7 ((posL o i).length + 1) d7)).alloc (.cells #[.int .i64 (i : Int)] 3)).cell? (Addr.add ⟨wb7.heap.size, 0, none⟩ j) = some u) := (by have h := head_new (wb7.setCell ⟨rb + 1, 0, none⟩ (.slice B7 ((posL o i).length + 1) d7)) (.int .i64 (i : Int)) 3; (try rw [World.size_setCell] at h); exact h); have hrp8 : Hid (intsL (clL o i) ++ [.int .i64 (i : Int)] = intsL (clL o i ++ [i])) := (intsL_snoc _ _).symm) | (at_builtin; refine wpList_append_new _ rfl _ _ 24 rfl (rb + 2) 3 i0 (.int .i64 0) 1 8 Tryz.underlying24 hi0.out hz0.out hz1.out hz2.out rfl (by decide) (.slice A2 (clL o i).length c2) (clL o i).length _ rfl hV8.out.r2 ⟨wb7.heap.size, 0, none⟩ 1 1 [.int .i64 (i : Int)] rfl rfl had8.out (one_cell1 _ rfl) (by decide) (by unfold maxLen; omega) (by omega) hbs8.out ?_; intro vb8 wb8 ho8 hg8 hn8; obtain ⟨B8, d8, rfl⟩ := own_form ho8; rw [hrp8.out] at ho8; have hV89 := Lib.hid (hV8.out.put2 hg8 ho8 hn8); have z8 : wb8.cell? ⟨rb + 1, 1, none⟩ = some (.slice A2 (clL o i).length c2) := (World.cell?_of_block (a := ⟨rb + 1, 1, none⟩) (hg8.block (rb + 1) hV8.out.p.lt (fun e => by have := (hV8.out.r2.lt _ e.symm).1; omega))).trans (hV8.out.p.cell (j := 1) rfl); have y8 : wb8.frozen? ⟨rb + 1, 1, none⟩ = false := (World.frozen?_of_block (a := ⟨rb + 1, 1, none⟩) (hg8.block (rb + 1) hV8.out.p.lt (fun e => by have := (hV8.out.r2.lt _ e.symm).1; omega))).trans (hV8.out.p.frozen 1); have x8 : rb + 1 < wb8.heap.size := Nat.lt_of_lt_of_le hV8.out.p.lt hg8.size; clear hg8 hn8 ho8))
            have hV2 : Hid (PvI wo (wb8.setCell ⟨rb + 1, 1, none⟩ (.slice B8 ((clL o i).length + 1) d8)) (rb + 1) (rb + 2) (posL o (i + 1)) (clL o (i + 1)) (.slice B7 (posL o (i + 1)).length d7) (.slice B8 (clL o (i + 1)).length d8)) := by rw [hsl.out, hrl.out, hr.out, hs.out]; exact hV89.out
            go_roundw
            case rel => exact ⟨i + 1, d7, d8, B7, B8, by omega, by go_num, hV2⟩
            case measure => simp [intOf]; omega
        · obtain rfl : i = s.ps.length := by omega
          have l1 := posL_len (o := o) (n := s.ps.length)
          have hR9 := Lib.hid hRi.out; have hV9 := Lib.hid hV.out
          have hBr : Hid (Below w.heap.size w wr) := hV.out.k.to_below hB5.out fun x hx => by simp at hx; have := hwr.out; omega
          have hTr : Hid (Bk wr tb 56 [.slice none 0 0, .slice none 0 0]) := hT5.out.kp hV.out.k (by simp; have := htr.out; omega)
          have hQr : Hid (Bk wr rb 24 [.slice (some ⟨b, 0, none⟩) s.ps.length s.ps.length]) := hQ5.out.kp hV.out.k (by simp)
          have y0 := hQr.out.cell (j := 0) rfl; have y9 := hQr.out.lt; have e1 := hR9.out.cell p hpn; have e9 := hR9.out.lt
          have v0 := hV9.out.p.cell (j := 0) rfl; have v1 := hV9.out.p.cell (j := 1) rfl; have v9 := hV9.out.p.lt
          have t0 := hTr.out.cell (j := 0) rfl; have f0 := hTr.out.frozen 0
          have t1 := hTr.out.cell (j := 1) rfl; have f1 := hTr.out.frozen 1
          have t9 := hTr.out.lt
          have p0 : (0 : Int) ≤ (p : Int) := (by omega); have p1 : (p : Int) < (s.ps.length : Int) := by omega
          by_cases ho0 : 0 ≤ o p
          · have m3 : decide (o p < 0) = false := decide_eq_false (by omega)
            have hfin := Lib.hid (fun e W h => hP.out.1 e W ho0 h)
            have hoc : o p = 0 ∨ 0 < o p := by omega
            by_cases hnil : posL o s.ps.length = []
            · have hz : (posL o s.ps.length).length = 0 := by rw [hnil]; rfl
              have hop : o p = 0 := by rcases hoc with h | h; (· exact h); (· have : p ∈ posL o s.ps.length := posL_mem.2 ⟨hpn, h⟩; rw [hnil] at this; cases this)
              have hoi := ord_none (l' := []) (by refine ⟨?_, List.Pairwise.nil⟩; rw [hnil]) hop
              have hr1 := hV9.out.r1.2
              rw [hz] at v0 hr1
              have hOi := Lib.hid hoi.2
              generalize hd : o p = d at e1 m3
              replace hnil := Lib.hid hnil; replace hd := Lib.hid hd
              rcases hr1 with ⟨hA, _⟩ | ⟨g, cap, cur, hA, _⟩
              · simp only [Value.slice.injEq, true_and] at hA
                obtain ⟨rfl, rfl⟩ := hA
                have ks := Lib.hid (sortNil none 0 (.func (.func 77) #[] #[.pointer (some ⟨rb, 0, none⟩)]) wr)
                have ki : Hid (∀ W, Calls Tryz.prog 79 #[.slice none 0 0, .int .i64 (p : Int)] W fun e w' => e = .returned (.int .i64 (-1)) ∧ w' = W) := fun W => by have h := Index_any none 0 [] (p : Int) W (fun h => absurd h (by simp)) (by simp); have e : ixOf [] (p : Int) = -1 := (hoi.1); rw [e] at h; exact h
                have hVz : Hid (Bk wr (rb + 1) 56 [.slice none 0 0, .slice A2 (clL o s.ps.length).length c2]) := by have h := hV9.out.p; rw [hz] at h; exact h
                replace ki : Hid (∀ W, Below wr.heap.size wr W → _) := fun W _ => ki.out W
                clear hz hop hoi hoc
                go_wp2_with fail
                refine ks.out.mono ?_
                rintro e wq ⟨rfl, hq⟩
                obtain rfl := hq.symm
                clear v0 v1 v9 t0 t1 t9 f0 f1
                have hS : Hid (∀ W, Below wr.heap.size wr W → W.cell? ⟨rb + 1, 0, none⟩ = some (.slice none 0 0)) := fun W hb => (hVz.out.below hb).cell (j := 0) rfl
                have hd0 : Hid (Below wr.heap.size wr wr.drew) := (Below.refl _ _).drew
                have hT9 := Lib.hid hTr.out
                have htp : Hid (rb + 1 ≠ tb) := fun e => by have := htr.out; omega
                have hB9 : Hid (Below w.heap.size w ((wr.setCell ⟨tb, 0, none⟩ (.slice none 0 0)).setCell ⟨tb, 1, none⟩ (.slice none 0 0)).drew) := ((hBr.out.setCell (p := ⟨tb, 0, none⟩) htw.out _).setCell (p := ⟨tb, 1, none⟩) htw.out _).drew
                have hX9 : Hid (Bk ((wr.setCell ⟨tb, 0, none⟩ (.slice none 0 0)).setCell ⟨tb, 1, none⟩ (.slice none 0 0)).drew tb 56 [.slice none 0 0, .slice none 0 0]) := ((hT9.out.set 0 (.slice none 0 0)).set 1 (.slice none 0 0)).below (Below.refl _ _).drew
                have hP9 : Hid (Bk ((wr.setCell ⟨tb, 0, none⟩ (.slice none 0 0)).setCell ⟨tb, 1, none⟩ (.slice none 0 0)).drew (rb + 1) 56 _) := ((hVz.out.far (p := ⟨tb, 0, none⟩) htp.out (.slice none 0 0)).far (p := ⟨tb, 1, none⟩) htp.out (.slice none 0 0)).below (Below.refl _ _).drew
                have hI9 : Hid (InInt ((wr.setCell ⟨tb, 0, none⟩ (.slice none 0 0)).setCell ⟨tb, 1, none⟩ (.slice none 0 0)).drew none (castL [])) := fun h => absurd h (by simp [castL])
                have kw0 : IntKind.i64.wrap (0 : Int) = 0 := by decide
                go_wp2_with fail
                refine wp_region_noPanic ?_
                refine wp_region_held_drew (S := fun W => W.cell? ⟨rb + 1, 0, none⟩ = some (.slice none 0 0)) (by kernel_rfl) (hS.out _ hd0.out) (fun hS0 => ?_)
                replace hS0 := Lib.hid hS0
                refine wpAnyH_take (i := 0) (oi := _) (v := ?_) rfl (by kernel_rfl) (by kernel_rfl) (by kernel_rfl) (fun _ _ _ h => h) (Or.inl ⟨by rfl, ?_⟩) (hS0.out) ?_
                rotate_left
                · (intro w hSw; go_simp <;> with_reducible rfl)
                try simp only [Act.put, List.setIfInBounds_toArray]
                refine wpAnyH_take (i := 1) (oi := _) (v := ?_) rfl (by kernel_rfl) (by kernel_rfl) (by kernel_rfl) (fun _ _ _ h => h) (Or.inl ⟨by rfl, ?_⟩) (hS0.out) ?_
                rotate_left
                · (intro w hSw; go_simp <;> with_reducible rfl)
                try simp only [Act.put]
                refine wpAnyH_take (i := 2) (oi := _) (v := ?_) rfl (by kernel_rfl) (by kernel_rfl) (by kernel_rfl) (fun _ _ _ h => h) (Or.inl ⟨by rfl, ?_⟩) (hS0.out) ?_
                rotate_left
                · (intro w hSw; go_simp <;> with_reducible rfl)
                try simp only [Act.put]
                refine wpAnyH_take (i := 3) (oi := _) (v := ?_) rfl (by kernel_rfl) (by kernel_rfl) (by kernel_rfl) (fun _ _ _ h => h) (Or.inl ⟨by rfl, ?_⟩) (hS0.out) ?_
                rotate_left
                · (intro w hSw; go_simp <;> with_reducible rfl)
                try simp only [Act.put]
                refine wpAnyH_take (i := 4) (oi := _) (v := ?_) rfl (by kernel_rfl) (by kernel_rfl) (by kernel_rfl) (fun _ _ _ h => h) (Or.inl ⟨by rfl, ?_⟩) (hS0.out) ?_
                rotate_left
                · (intro w hSw; go_simp <;> with_reducible rfl)
                try simp only [Act.put]
                refine wpAnyH_ready (rs := [5]) (by kernel_rfl) (by simp) ?_
                refine AllReadyH.cons (o := _) rfl (fun K hK => ?_) AllReadyH.nil
                go_simp
                go_at_call 79
                refine (ki.out _ hd0.out).mono ?_
                rintro _ wq ⟨rfl, hq⟩
                obtain rfl := hq.symm
                go_wp2_with fail
                refine hK.out _ _ hS0.out (fun _ => ?_)
                clear hK K
                try simp only [Act.put, List.setIfInBounds_toArray, List.set_cons_zero, List.set_cons_succ]
                refine wpAnyH_take (i := 6) (oi := _) (v := ?_) rfl (by kernel_rfl) (by kernel_rfl) (by kernel_rfl) (fun _ _ _ h => h) (Or.inl ⟨by rfl, ?_⟩) (hS0.out) ?_
                rotate_left
                · (intro w hSw; go_simp <;> with_reducible rfl)
                try simp only [Act.put, List.setIfInBounds_toArray]
                refine wpAnyH_take (i := 7) (oi := _) (v := ?_) rfl (by kernel_rfl) (by kernel_rfl) (by kernel_rfl) (fun _ _ _ h => h) (Or.inl ⟨by rfl, ?_⟩) (hS0.out) ?_
                rotate_left
                · (intro w hSw; go_simp <;> with_reducible rfl)
                try simp only [Act.put]
                refine wpAnyH_take (i := 8) (oi := _) (v := ?_) rfl (by kernel_rfl) (by kernel_rfl) (by kernel_rfl) (fun _ _ _ h => h) (Or.inl ⟨by rfl, ?_⟩) (hS0.out) ?_
                rotate_left
                · (intro w hSw; go_simp <;> with_reducible rfl)
                try simp only [Act.put]
                refine wpAnyH_ready (rs := [9]) (by kernel_rfl) (by simp) ?_
                refine AllReadyH.cons (o := _) rfl (fun K hK => ?_) AllReadyH.nil
                have t0 := hT9.out.cell (j := 0) rfl; have f0 := hT9.out.frozen 0
                have t1 := hT9.out.cell (j := 1) rfl; have f1 := hT9.out.frozen 1
                have t9 := hT9.out.lt
                go_simp
                clear t0 t1 f0 f1 t9
                refine hK.out _ _ (hP9.out.cell (j := 0) rfl) (fun _ => ?_)
                clear hK K
                try simp only [Act.put, List.setIfInBounds_toArray, List.set_cons_zero, List.set_cons_succ]
                refine wpAnyH_take (i := 10) (oi := _) (v := ?_) rfl (by kernel_rfl) (by kernel_rfl) (by kernel_rfl) (fun _ _ _ h => h) (Or.inl ⟨by rfl, ?_⟩) (hP9.out.cell (j := 0) rfl) ?_
                rotate_left
                · (intro w hSw; go_simp <;> with_reducible rfl)
                try simp only [Act.put, List.setIfInBounds_toArray]
                try simp only [List.getElem_toArray, List.getElem_cons_succ, List.getElem_cons_zero, List.set_cons_zero, List.set_cons_succ]
                refine wpAnyH_done (by kernel_rfl) ?_ _
                refine NoPanic.normal ?_
                go_wp2
                (try simp only [Exit.inBlock, Exit.then])
                refine bodyPost_ret (res_proof (e := 0) hX9.out (by first | rfl | simp) (by first | rfl | simp)) rfl ?_
                · exact hfin.out _ _ ⟨none, 0, [], rfl, hI9.out, hOi.out⟩ hB9.out
              · simp only [Value.slice.injEq, true_and] at hA
                obtain ⟨rfl, rfl⟩ := hA
                have ks := Lib.hid (sortNil (some ⟨g, 0, none⟩) c1 (.func (.func 77) #[] #[.pointer (some ⟨rb, 0, none⟩)]) wr)
                have ki : Hid (∀ W, Calls Tryz.prog 79 #[.slice (some ⟨g, 0, none⟩) 0 c1, .int .i64 (p : Int)] W fun e w' => e = .returned (.int .i64 (-1)) ∧ w' = W) := fun W => by have h := Index_any (some ⟨g, 0, none⟩) c1 [] (p : Int) W (fun h => absurd h (by simp)) (by simp); have e : ixOf [] (p : Int) = -1 := (hoi.1); rw [e] at h; exact h
                have hVz : Hid (Bk wr (rb + 1) 56 [.slice (some ⟨g, 0, none⟩) 0 c1, .slice A2 (clL o s.ps.length).length c2]) := by have h := hV9.out.p; rw [hz] at h; exact h
                replace ki : Hid (∀ W, Below wr.heap.size wr W → _) := fun W _ => ki.out W
                clear hz hop hoi hoc
                go_wp2_with fail
                refine ks.out.mono ?_
                rintro e wq ⟨rfl, hq⟩
                obtain rfl := hq.symm
                clear v0 v1 v9 t0 t1 t9 f0 f1
                have hS : Hid (∀ W, Below wr.heap.size wr W → W.cell? ⟨rb + 1, 0, none⟩ = some (.slice (some ⟨g, 0, none⟩) 0 c1)) := fun W hb => (hVz.out.below hb).cell (j := 0) rfl
                have hd0 : Hid (Below wr.heap.size wr wr.drew) := (Below.refl _ _).drew
                have hT9 := Lib.hid hTr.out
                have htp : Hid (rb + 1 ≠ tb) := fun e => by have := htr.out; omega
                have hB9 : Hid (Below w.heap.size w ((wr.setCell ⟨tb, 0, none⟩ (.slice (some ⟨g, 0, none⟩) 0 c1)).setCell ⟨tb, 1, none⟩ (.slice none 0 0)).drew) := ((hBr.out.setCell (p := ⟨tb, 0, none⟩) htw.out _).setCell (p := ⟨tb, 1, none⟩) htw.out _).drew
                have hX9 : Hid (Bk ((wr.setCell ⟨tb, 0, none⟩ (.slice (some ⟨g, 0, none⟩) 0 c1)).setCell ⟨tb, 1, none⟩ (.slice none 0 0)).drew tb 56 [.slice (some ⟨g, 0, none⟩) 0 c1, .slice none 0 0]) := ((hT9.out.set 0 (.slice (some ⟨g, 0, none⟩) 0 c1)).set 1 (.slice none 0 0)).below (Below.refl _ _).drew
                have hP9 : Hid (Bk ((wr.setCell ⟨tb, 0, none⟩ (.slice (some ⟨g, 0, none⟩) 0 c1)).setCell ⟨tb, 1, none⟩ (.slice none 0 0)).drew (rb + 1) 56 _) := ((hVz.out.far (p := ⟨tb, 0, none⟩) htp.out (.slice (some ⟨g, 0, none⟩) 0 c1)).far (p := ⟨tb, 1, none⟩) htp.out (.slice none 0 0)).below (Below.refl _ _).drew
                have hI9 : Hid (InInt ((wr.setCell ⟨tb, 0, none⟩ (.slice (some ⟨g, 0, none⟩) 0 c1)).setCell ⟨tb, 1, none⟩ (.slice none 0 0)).drew (some ⟨g, 0, none⟩) (castL [])) := fun h => absurd h (by simp [castL])
                have kw0 : IntKind.i64.wrap (0 : Int) = 0 := by decide
                go_wp2_with fail
                refine wp_region_noPanic ?_
                refine wp_region_held_drew (S := fun W => W.cell? ⟨rb + 1, 0, none⟩ = some (.slice (some ⟨g, 0, none⟩) 0 c1)) (by kernel_rfl) (hS.out _ hd0.out) (fun hS0 => ?_)
                replace hS0 := Lib.hid hS0
                refine wpAnyH_take (i := 0) (oi := _) (v := ?_) rfl (by kernel_rfl) (by kernel_rfl) (by kernel_rfl) (fun _ _ _ h => h) (Or.inl ⟨by rfl, ?_⟩) (hS0.out) ?_
                rotate_left
                · (intro w hSw; go_simp <;> with_reducible rfl)
                try simp only [Act.put, List.setIfInBounds_toArray]
                refine wpAnyH_take (i := 1) (oi := _) (v := ?_) rfl (by kernel_rfl) (by kernel_rfl) (by kernel_rfl) (fun _ _ _ h => h) (Or.inl ⟨by rfl, ?_⟩) (hS0.out) ?_
                rotate_left
                · (intro w hSw; go_simp <;> with_reducible rfl)
                try simp only [Act.put]
                refine wpAnyH_take (i := 2) (oi := _) (v := ?_) rfl (by kernel_rfl) (by kernel_rfl) (by kernel_rfl) (fun _ _ _ h => h) (Or.inl ⟨by rfl, ?_⟩) (hS0.out) ?_
                rotate_left
                · (intro w hSw; go_simp <;> with_reducible rfl)
                try simp only [Act.put]
                refine wpAnyH_take (i := 3) (oi := _) (v := ?_) rfl (by kernel_rfl) (by kernel_rfl) (by kernel_rfl) (fun _ _ _ h => h) (Or.inl ⟨by rfl, ?_⟩) (hS0.out) ?_
                rotate_left
                · (intro w hSw; go_simp <;> with_reducible rfl)
                try simp only [Act.put]
                refine wpAnyH_take (i := 4) (oi := _) (v := ?_) rfl (by kernel_rfl) (by kernel_rfl) (by kernel_rfl) (fun _ _ _ h => h) (Or.inl ⟨by rfl, ?_⟩) (hS0.out) ?_
                rotate_left
                · (intro w hSw; go_simp <;> with_reducible rfl)
                try simp only [Act.put]
                refine wpAnyH_ready (rs := [5]) (by kernel_rfl) (by simp) ?_
                refine AllReadyH.cons (o := _) rfl (fun K hK => ?_) AllReadyH.nil
                go_simp
                go_at_call 79
                refine (ki.out _ hd0.out).mono ?_
                rintro _ wq ⟨rfl, hq⟩
                obtain rfl := hq.symm
                go_wp2_with fail
                refine hK.out _ _ hS0.out (fun _ => ?_)
                clear hK K
                try simp only [Act.put, List.setIfInBounds_toArray, List.set_cons_zero, List.set_cons_succ]
                refine wpAnyH_take (i := 6) (oi := _) (v := ?_) rfl (by kernel_rfl) (by kernel_rfl) (by kernel_rfl) (fun _ _ _ h => h) (Or.inl ⟨by rfl, ?_⟩) (hS0.out) ?_
                rotate_left
                · (intro w hSw; go_simp <;> with_reducible rfl)
                try simp only [Act.put, List.setIfInBounds_toArray]
                refine wpAnyH_take (i := 7) (oi := _) (v := ?_) rfl (by kernel_rfl) (by kernel_rfl) (by kernel_rfl) (fun _ _ _ h => h) (Or.inl ⟨by rfl, ?_⟩) (hS0.out) ?_
                rotate_left
                · (intro w hSw; go_simp <;> with_reducible rfl)
                try simp only [Act.put]
                refine wpAnyH_take (i := 8) (oi := _) (v := ?_) rfl (by kernel_rfl) (by kernel_rfl) (by kernel_rfl) (fun _ _ _ h => h) (Or.inl ⟨by rfl, ?_⟩) (hS0.out) ?_
                rotate_left
                · (intro w hSw; go_simp <;> with_reducible rfl)
                try simp only [Act.put]
                refine wpAnyH_ready (rs := [9]) (by kernel_rfl) (by simp) ?_
                refine AllReadyH.cons (o := _) rfl (fun K hK => ?_) AllReadyH.nil
                have t0 := hT9.out.cell (j := 0) rfl; have f0 := hT9.out.frozen 0
                have t1 := hT9.out.cell (j := 1) rfl; have f1 := hT9.out.frozen 1
                have t9 := hT9.out.lt
                go_simp
                clear t0 t1 f0 f1 t9
                refine hK.out _ _ (hP9.out.cell (j := 0) rfl) (fun _ => ?_)
                clear hK K
                try simp only [Act.put, List.setIfInBounds_toArray, List.set_cons_zero, List.set_cons_succ]
                refine wpAnyH_take (i := 10) (oi := _) (v := ?_) rfl (by kernel_rfl) (by kernel_rfl) (by kernel_rfl) (fun _ _ _ h => h) (Or.inl ⟨by rfl, ?_⟩) (hP9.out.cell (j := 0) rfl) ?_
                rotate_left
                · (intro w hSw; go_simp <;> with_reducible rfl)
                try simp only [Act.put, List.setIfInBounds_toArray]
                try simp only [List.getElem_toArray, List.getElem_cons_succ, List.getElem_cons_zero, List.set_cons_zero, List.set_cons_succ]
                refine wpAnyH_done (by kernel_rfl) ?_ _
                refine NoPanic.normal ?_
                go_wp2
                (try simp only [Exit.inBlock, Exit.then])
                refine bodyPost_ret (res_proof (e := 0) hX9.out (by first | rfl | simp) (by first | rfl | simp)) rfl ?_
                · exact hfin.out _ _ ⟨(some ⟨g, 0, none⟩), c1, [], rfl, hI9.out, hOi.out⟩ hB9.out
            · have hz : 0 < (posL o s.ps.length).length := List.length_pos_iff.2 hnil
              rcases own_ints hV9.out.r1 with ⟨_, h0⟩ | ⟨g, cap, hA, hgb, hgl, hgf, hgc⟩
              · exact absurd h0 hnil
              · simp only [Value.slice.injEq, true_and] at hA
                obtain ⟨rfl, rfl⟩ := hA
                have ks := Lib.hid (HS rb b s.ps.length g c1 o (posL o s.ps.length) wr hz (by omega) (fun x hx => (posL_mem.1 hx).1) posL_asc hgc hgf hgl y0 y9 hR9.out (by omega) (by have := hbr.out; omega))
                replace hnil := Lib.hid hnil
                go_wp2_with fail
                refine ks.out.mono ?_
                rintro e wq ⟨rfl, ⟨l', hso, hlc⟩, hKq⟩
                have hll : l'.length = (posL o s.ps.length).length := hso.1.length_eq
                have hix : ∃ k : Nat, k ≤ (posL o s.ps.length).length ∧ ixOf (castL l') (p : Int) + 1 = (k : Int) ∧ OrdIs o s.ps.length p (l'.take k) := by
                  rcases hoc with h | h
                  · obtain ⟨h1, h2⟩ := ord_none hso h
                    exact ⟨0, Nat.zero_le _, by rw [h1]; rfl, by simpa using h2⟩
                  · obtain ⟨i, h1, h2, h3⟩ := ord_take hso hpn h
                    exact ⟨i + 1, by omega, by rw [h2]; omega, h3⟩
                obtain ⟨k, hk1, hk2, hOi⟩ := hix
                have hInL : Hid (InInt wq (some ⟨g, 0, none⟩) (castL l')) := castL_in (Nat.lt_of_lt_of_le hgl hKq.size) hlc
                have hg2 : Hid (rb + 2 ≤ g) := hgb
                have hVq : Hid (Bk wq (rb + 1) 56 [.slice (some ⟨g, 0, none⟩) (posL o s.ps.length).length c1, .slice A2 (clL o s.ps.length).length c2]) := hV9.out.p.kp hKq (by simp; omega)
                have hTq : Hid (Bk wq tb 56 [.slice none 0 0, .slice none 0 0]) := hTr.out.kp hKq (by simp; have := htr.out; omega)
                have hBq : Hid (Below w.heap.size w wq) := hKq.to_below hBr.out fun x hx => by simp at hx; rw [hx]; have := hwr.out; omega
                have ki : Hid (∀ W, Below wq.heap.size wq W → Calls Tryz.prog 79 #[.slice (some ⟨g, 0, none⟩) (posL o s.ps.length).length c1, .int .i64 (p : Int)] W fun e w' => e = .returned (.int .i64 ((k : Int) - 1)) ∧ w' = W) := fun W hW => by have h := Index_any (some ⟨g, 0, none⟩) c1 (castL l') (p : Int) W (hInL.out.below hW) (by rw [castL_len]; omega); rw [castL_len, hll] at h; have e : ixOf (castL l') (p : Int) = (k : Int) - 1 := (by omega); rw [e] at h; exact h
                replace hlc := Lib.hid hlc; replace hOi := Lib.hid hOi; replace hso := Lib.hid hso; replace hKq := Lib.hid hKq
                clear y0 y9 e1 e9 v0 v1 v9 t0 t1 t9 f0 f1
                replace hll := Lib.hid hll; replace hk1 := Lib.hid hk1
                have hkn : k ≤ (posL o s.ps.length).length := hk1.out
                have gc1 : (posL o s.ps.length).length ≤ c1 := by have h := hV9.out.r1.2; rcases h with ⟨h, _⟩ | ⟨g', cap', cur', h, _, _, h2, _⟩; (· cases h); (· simp only [Value.slice.injEq, true_and] at h; omega)
                have k0 : (0 : Int) ≤ (k : Int) := by omega
                have k1 : (k : Int) ≤ (c1 : Int) := by omega
                have k2 : k ≤ c1 := by omega
                have k3 : ((k : Int) - 1) + 1 = (k : Int) := by omega
                have k4 : IntKind.i64.wrap (k : Int) = (k : Int) := IntWalk.i64_in _ (by omega)
                have hInT : Hid (InInt wq (some ⟨g, 0, none⟩) (castL (l'.take k))) := castL_in (Nat.lt_of_lt_of_le hgl hKq.out.size) fun j hj => by rw [List.getElem_take]; exact hlc.out j (by rw [List.length_take] at hj; omega)
                have hg3 : Hid (g ≠ tb) := fun e => by have := htr.out; have := hg2.out; omega
                have hS : Hid (∀ W, Below wq.heap.size wq W → W.cell? ⟨rb + 1, 0, none⟩ = some (.slice (some ⟨g, 0, none⟩) (posL o s.ps.length).length c1)) := fun W hb => (hVq.out.below hb).cell (j := 0) rfl
                have hd0 : Hid (Below wq.heap.size wq wq.drew) := (Below.refl _ _).drew
                have hT9 := Lib.hid hTq.out
                have htp : Hid (rb + 1 ≠ tb) := fun e => by have := htr.out; omega
                have hB9 : Hid (Below w.heap.size w ((wq.setCell ⟨tb, 0, none⟩ (.slice (some ⟨g, 0, none⟩) k c1)).setCell ⟨tb, 1, none⟩ (.slice none 0 0)).drew) := ((hBq.out.setCell (p := ⟨tb, 0, none⟩) htw.out _).setCell (p := ⟨tb, 1, none⟩) htw.out _).drew
                have hX9 : Hid (Bk ((wq.setCell ⟨tb, 0, none⟩ (.slice (some ⟨g, 0, none⟩) k c1)).setCell ⟨tb, 1, none⟩ (.slice none 0 0)).drew tb 56 [.slice (some ⟨g, 0, none⟩) k c1, .slice none 0 0]) := ((hT9.out.set 0 (.slice (some ⟨g, 0, none⟩) k c1)).set 1 (.slice none 0 0)).below (Below.refl _ _).drew
                have hP9 : Hid (Bk ((wq.setCell ⟨tb, 0, none⟩ (.slice (some ⟨g, 0, none⟩) k c1)).setCell ⟨tb, 1, none⟩ (.slice none 0 0)).drew (rb + 1) 56 _) := ((hVq.out.far (p := ⟨tb, 0, none⟩) htp.out (.slice (some ⟨g, 0, none⟩) k c1)).far (p := ⟨tb, 1, none⟩) htp.out (.slice none 0 0)).below (Below.refl _ _).drew
                have hI9 : Hid (InInt ((wq.setCell ⟨tb, 0, none⟩ (.slice (some ⟨g, 0, none⟩) k c1)).setCell ⟨tb, 1, none⟩ (.slice none 0 0)).drew (some ⟨g, 0, none⟩) (castL (l'.take k))) := (castL_far hInT.out hg3.out).below (Below.refl _ _).drew
                have kw0 : IntKind.i64.wrap (0 : Int) = 0 := by decide
                go_wp2_with fail
                refine wp_region_noPanic ?_
                refine wp_region_held_drew (S := fun W => W.cell? ⟨rb + 1, 0, none⟩ = some (.slice (some ⟨g, 0, none⟩) (posL o s.ps.length).length c1)) (by kernel_rfl) (hS.out _ hd0.out) (fun hS0 => ?_)
                replace hS0 := Lib.hid hS0
                refine wpAnyH_take (i := 0) (oi := _) (v := ?_) rfl (by kernel_rfl) (by kernel_rfl) (by kernel_rfl) (fun _ _ _ h => h) (Or.inl ⟨by rfl, ?_⟩) (hS0.out) ?_
                rotate_left
                · (intro w hSw; go_simp <;> with_reducible rfl)
                try simp only [Act.put, List.setIfInBounds_toArray]
                refine wpAnyH_take (i := 1) (oi := _) (v := ?_) rfl (by kernel_rfl) (by kernel_rfl) (by kernel_rfl) (fun _ _ _ h => h) (Or.inl ⟨by rfl, ?_⟩) (hS0.out) ?_
                rotate_left
                · (intro w hSw; go_simp <;> with_reducible rfl)
                try simp only [Act.put]
                refine wpAnyH_take (i := 2) (oi := _) (v := ?_) rfl (by kernel_rfl) (by kernel_rfl) (by kernel_rfl) (fun _ _ _ h => h) (Or.inl ⟨by rfl, ?_⟩) (hS0.out) ?_
                rotate_left
                · (intro w hSw; go_simp <;> with_reducible rfl)
                try simp only [Act.put]
                refine wpAnyH_take (i := 3) (oi := _) (v := ?_) rfl (by kernel_rfl) (by kernel_rfl) (by kernel_rfl) (fun _ _ _ h => h) (Or.inl ⟨by rfl, ?_⟩) (hS0.out) ?_
                rotate_left
                · (intro w hSw; go_simp <;> with_reducible rfl)
                try simp only [Act.put]
                refine wpAnyH_take (i := 4) (oi := _) (v := ?_) rfl (by kernel_rfl) (by kernel_rfl) (by kernel_rfl) (fun _ _ _ h => h) (Or.inl ⟨by rfl, ?_⟩) (hS0.out) ?_
                rotate_left
                · (intro w hSw; go_simp <;> with_reducible rfl)
                try simp only [Act.put]
                refine wpAnyH_ready (rs := [5]) (by kernel_rfl) (by simp) ?_
                refine AllReadyH.cons (o := _) rfl (fun K hK => ?_) AllReadyH.nil
                go_simp
                go_at_call 79
                refine (ki.out _ hd0.out).mono ?_
                rintro _ wq ⟨rfl, hq⟩
                obtain rfl := hq.symm
                go_wp2_with fail
                refine hK.out _ _ hS0.out (fun _ => ?_)
                clear hK K
                try simp only [Act.put, List.setIfInBounds_toArray, List.set_cons_zero, List.set_cons_succ]
                refine wpAnyH_take (i := 6) (oi := _) (v := ?_) rfl (by kernel_rfl) (by kernel_rfl) (by kernel_rfl) (fun _ _ _ h => h) (Or.inl ⟨by rfl, ?_⟩) (hS0.out) ?_
                rotate_left
                · (intro w hSw; go_simp <;> with_reducible rfl)
                try simp only [Act.put, List.setIfInBounds_toArray]
                refine wpAnyH_take (i := 7) (oi := _) (v := ?_) rfl (by kernel_rfl) (by kernel_rfl) (by kernel_rfl) (fun _ _ _ h => h) (Or.inl ⟨by rfl, ?_⟩) (hS0.out) ?_
                rotate_left
                · (intro w hSw; go_simp <;> with_reducible rfl)
                try simp only [Act.put]
                refine wpAnyH_take (i := 8) (oi := _) (v := ?_) rfl (by kernel_rfl) (by kernel_rfl) (by kernel_rfl) (fun _ _ _ h => h) (Or.inl ⟨by rfl, ?_⟩) (hS0.out) ?_
                rotate_left
                · (intro w hSw; go_simp <;> with_reducible rfl)
                try simp only [Act.put]
                refine wpAnyH_ready (rs := [9]) (by kernel_rfl) (by simp) ?_
                refine AllReadyH.cons (o := _) rfl (fun K hK => ?_) AllReadyH.nil
                have t0 := hT9.out.cell (j := 0) rfl; have f0 := hT9.out.frozen 0
                have t1 := hT9.out.cell (j := 1) rfl; have f1 := hT9.out.frozen 1
                have t9 := hT9.out.lt
                go_simp
                clear t0 t1 f0 f1 t9
                refine hK.out _ _ (hP9.out.cell (j := 0) rfl) (fun _ => ?_)
                clear hK K
                try simp only [Act.put, List.setIfInBounds_toArray, List.set_cons_zero, List.set_cons_succ]
                refine wpAnyH_take (i := 10) (oi := _) (v := ?_) rfl (by kernel_rfl) (by kernel_rfl) (by kernel_rfl) (fun _ _ _ h => h) (Or.inl ⟨by rfl, ?_⟩) (hP9.out.cell (j := 0) rfl) ?_
                rotate_left
                · (intro w hSw; go_simp <;> with_reducible rfl)
                try simp only [Act.put, List.setIfInBounds_toArray]
                try simp only [List.getElem_toArray, List.getElem_cons_succ, List.getElem_cons_zero, List.set_cons_zero, List.set_cons_succ]
                refine wpAnyH_done (by kernel_rfl) ?_ _
                refine NoPanic.normal ?_
                go_wp2
                (try simp only [Exit.inBlock, Exit.then])
                refine bodyPost_ret (res_proof (e := 0) hX9.out (by first | rfl | simp) (by first | rfl | simp)) rfl ?_
                · exact hfin.out _ _ ⟨(some ⟨g, 0, none⟩), c1, (l'.take k), by rw [List.length_take, hll.out, Nat.min_eq_left hk1.out], hI9.out, hOi.out⟩ hB9.out
          · have m3 : decide (o p < 0) = true := decide_eq_true (by omega)
            have hfin := Lib.hid (fun e W h => hP.out.2 e W (by omega) h)
            have hrow := own_inInt hV9.out.r2
            have hIn := hrow.2
            have hA2 : slA (Value.slice A2 (clL o s.ps.length).length c2) = A2 := by cases A2 <;> rfl
            rw [hA2] at hIn
            replace hIn := Lib.hid hIn
            generalize o p = d at e1 m3
            replace ho0 := Lib.hid ho0; clear hrow
            have hB9 : Hid (Below w.heap.size w ((wr.setCell ⟨tb, 0, none⟩ (.slice none 0 0)).setCell ⟨tb, 1, none⟩ (.slice A2 (clL o s.ps.length).length c2))) := (hBr.out.setCell (p := ⟨tb, 0, none⟩) htw.out _).setCell (p := ⟨tb, 1, none⟩) htw.out _
            have hX9 : Hid (Bk ((wr.setCell ⟨tb, 0, none⟩ (.slice none 0 0)).setCell ⟨tb, 1, none⟩ (.slice A2 (clL o s.ps.length).length c2)) tb 56 [.slice none 0 0, .slice A2 (clL o s.ps.length).length c2]) := (hTr.out.set 0 (.slice none 0 0)).set 1 (.slice A2 (clL o s.ps.length).length c2)
            have hI9 : Hid (InInt ((wr.setCell ⟨tb, 0, none⟩ (.slice none 0 0)).setCell ⟨tb, 1, none⟩ (.slice A2 (clL o s.ps.length).length c2)) A2 (castL (clL o s.ps.length))) := by
              have h1 := setOff (j := 1) (setOff (j := 0) hV9.out.r2 (pb := tb) (by have := htr.out; omega) (.slice none 0 0)) (pb := tb) (by have := htr.out; omega) (.slice A2 (clL o s.ps.length).length c2)
              have h2 := (own_inInt h1).2
              rw [hA2] at h2; exact h2
            go_wp2
            (try simp only [Exit.inBlock, Exit.then])
            refine bodyPost_ret (res_proof hX9.out rfl rfl) rfl ?_
            · exact hfin.out _ _ ⟨A2, c2, rfl, hI9.out⟩ hB9.out
    · have hP : Hid (∀ e W, e = .returned (.tuple #[.agg #[.slice none 0 0, .slice none 0 0], .int .i64 1]) → Below w.heap.size w W → PvPost s F party w e W) := fun e W h1 h2 => ⟨by rw [if_neg fun h => hpa h.2.2]; exact h1, h2⟩
      replace hgd := Lib.hid hgd
      by_cases hp0 : party < 0
      · have m1 : decide (party < 0) = true := decide_eq_true hp0
        replace hpa := Lib.hid hpa; replace hp0 := Lib.hid hp0
        go_enter Tryz.func30, Tryz.ntmps30
        go_wp2_with fail
        (try rw [← hW1])
        (try rw [← htb])
        replace hW1 := Lib.hid hW1; replace htb := Lib.hid htb
        refine kc2.out.mono ?_
        rintro e w3 ⟨⟨b, rfl, _, _⟩, hb⟩
        have hT3 := Lib.hid (hT1.out.below hb)
        have hB3 := Lib.hid (hB1.out.trans (hb.mono hB1.out.size))
        have hb4 : Hid (Below w3.heap.size w3 (w3.alloc (.cells #[.slice (some ⟨b, 0, none⟩) s.ps.length s.ps.length] 24))) := (Below.refl _ w3).alloc (Nat.le_refl _) _
        have hT4 := Lib.hid (hT3.out.below hb4.out)
        have hQ4 : Hid (Bk (w3.alloc (.cells #[.slice (some ⟨b, 0, none⟩) s.ps.length s.ps.length] 24)) w3.heap.size 24 [.slice (some ⟨b, 0, none⟩) s.ps.length s.ps.length]) := Bk.new w3 _ _
        have q0 := hQ4.out.cell (j := 0) rfl; have q9 := hQ4.out.lt
        have hB9 : Hid (Below w.heap.size w (((w3.alloc (.cells #[.slice (some ⟨b, 0, none⟩) s.ps.length s.ps.length] 24)).setCell ⟨tb, 0, none⟩ (.slice none 0 0)).setCell ⟨tb, 1, none⟩ (.slice none 0 0))) := (((hB3.out.trans (hb4.out.mono hB3.out.size))).setCell (p := ⟨tb, 0, none⟩) htw.out _).setCell (p := ⟨tb, 1, none⟩) htw.out _
        have hX9 : Hid (Bk (((w3.alloc (.cells #[.slice (some ⟨b, 0, none⟩) s.ps.length s.ps.length] 24)).setCell ⟨tb, 0, none⟩ (.slice none 0 0)).setCell ⟨tb, 1, none⟩ (.slice none 0 0)) tb 56 [.slice none 0 0, .slice none 0 0]) := ((hT4.out.set 0 (.slice none 0 0)).set 1 (.slice none 0 0))
        have t0 := hT4.out.cell (j := 0) rfl; have f0 := hT4.out.frozen 0
        have t1 := hT4.out.cell (j := 1) rfl; have f1 := hT4.out.frozen 1
        have t9 := hT4.out.lt
        clear hb u0 u1 u2 u9 hX1 kc2
        go_wp2
        (try simp only [Exit.inBlock, Exit.then])
        refine bodyPost_ret (res_proof hX9.out rfl rfl) rfl ?_
        · exact hP.out _ _ rfl hB9.out
      · have m1 : decide (party < 0) = false := decide_eq_false hp0; have m2 : decide ((s.ps.length : Int) ≤ party) = true := decide_eq_true (by omega)
        replace hpa := Lib.hid hpa; replace hp0 := Lib.hid hp0
        go_enter Tryz.func30, Tryz.ntmps30
        go_wp2_with fail
        (try rw [← hW1])
        (try rw [← htb])
        replace hW1 := Lib.hid hW1; replace htb := Lib.hid htb
        refine kc2.out.mono ?_
        rintro e w3 ⟨⟨b, rfl, _, _⟩, hb⟩
        have hT3 := Lib.hid (hT1.out.below hb)
        have hB3 := Lib.hid (hB1.out.trans (hb.mono hB1.out.size))
        have hb4 : Hid (Below w3.heap.size w3 (w3.alloc (.cells #[.slice (some ⟨b, 0, none⟩) s.ps.length s.ps.length] 24))) := (Below.refl _ w3).alloc (Nat.le_refl _) _
        have hT4 := Lib.hid (hT3.out.below hb4.out)
        have hQ4 : Hid (Bk (w3.alloc (.cells #[.slice (some ⟨b, 0, none⟩) s.ps.length s.ps.length] 24)) w3.heap.size 24 [.slice (some ⟨b, 0, none⟩) s.ps.length s.ps.length]) := Bk.new w3 _ _
        have q0 := hQ4.out.cell (j := 0) rfl; have q9 := hQ4.out.lt
        have hB9 : Hid (Below w.heap.size w (((w3.alloc (.cells #[.slice (some ⟨b, 0, none⟩) s.ps.length s.ps.length] 24)).setCell ⟨tb, 0, none⟩ (.slice none 0 0)).setCell ⟨tb, 1, none⟩ (.slice none 0 0))) := (((hB3.out.trans (hb4.out.mono hB3.out.size))).setCell (p := ⟨tb, 0, none⟩) htw.out _).setCell (p := ⟨tb, 1, none⟩) htw.out _
        have hX9 : Hid (Bk (((w3.alloc (.cells #[.slice (some ⟨b, 0, none⟩) s.ps.length s.ps.length] 24)).setCell ⟨tb, 0, none⟩ (.slice none 0 0)).setCell ⟨tb, 1, none⟩ (.slice none 0 0)) tb 56 [.slice none 0 0, .slice none 0 0]) := ((hT4.out.set 0 (.slice none 0 0)).set 1 (.slice none 0 0))
        have t0 := hT4.out.cell (j := 0) rfl; have f0 := hT4.out.frozen 0
        have t1 := hT4.out.cell (j := 1) rfl; have f1 := hT4.out.frozen 1
        have t9 := hT4.out.lt
        clear hb u0 u1 u2 u9 hX1 kc2
        go_wp2
        (try simp only [Exit.inBlock, Exit.then])
        refine bodyPost_ret (res_proof hX9.out rfl rfl) rfl ?_
        · exact hP.out _ _ rfl hB9.out
  · have kc2 : Hid (Calls Tryz.prog 28 #[.agg #[.slice Ap s.ps.length cp, .slice Ac s.cap.length cc, .slice Av s.vot.length cv], .slice Af F.length cf] W1 fun e w' => e = .returned (.tuple #[.slice none 0 0, .int .i64 1]) ∧ Below W1.heap.size W1 w') := kc.mono fun e w' h => ⟨by have h1 := h.1; rw [if_neg hgd] at h1; exact h1, h.2⟩
    clear kc
    have hP : Hid (∀ e W, e = .returned (.tuple #[.agg #[.slice none 0 0, .slice none 0 0], .int .i64 1]) → Below w.heap.size w W → PvPost s F party w e W) := fun e W h1 h2 => ⟨by rw [if_neg fun h => hgd ⟨h.1, h.2.1⟩]; exact h1, h2⟩
    replace hgd := Lib.hid hgd
    go_enter Tryz.func30, Tryz.ntmps30
    go_wp2_with fail
    (try rw [← hW1])
    (try rw [← htb])
    replace hW1 := Lib.hid hW1; replace htb := Lib.hid htb
    refine kc2.out.mono ?_
    rintro e w3 ⟨rfl, hb⟩
    have hT3 := Lib.hid (hT1.out.below hb)
    have hB3 := Lib.hid (hB1.out.trans (hb.mono hB1.out.size))
    have hb4 : Hid (Below w3.heap.size w3 (w3.alloc (.cells #[.slice none 0 0] 24))) := (Below.refl _ w3).alloc (Nat.le_refl _) _
    have hT4 := Lib.hid (hT3.out.below hb4.out)
    have hQ4 : Hid (Bk (w3.alloc (.cells #[.slice none 0 0] 24)) w3.heap.size 24 [.slice none 0 0]) := Bk.new w3 _ _
    have q0 := hQ4.out.cell (j := 0) rfl; have q9 := hQ4.out.lt
    have hB9 : Hid (Below w.heap.size w (((w3.alloc (.cells #[.slice none 0 0] 24)).setCell ⟨tb, 0, none⟩ (.slice none 0 0)).setCell ⟨tb, 1, none⟩ (.slice none 0 0))) := (((hB3.out.trans (hb4.out.mono hB3.out.size))).setCell (p := ⟨tb, 0, none⟩) htw.out _).setCell (p := ⟨tb, 1, none⟩) htw.out _
    have hX9 : Hid (Bk (((w3.alloc (.cells #[.slice none 0 0] 24)).setCell ⟨tb, 0, none⟩ (.slice none 0 0)).setCell ⟨tb, 1, none⟩ (.slice none 0 0)) tb 56 [.slice none 0 0, .slice none 0 0]) := ((hT4.out.set 0 (.slice none 0 0)).set 1 (.slice none 0 0))
    have t0 := hT4.out.cell (j := 0) rfl; have f0 := hT4.out.frozen 0
    have t1 := hT4.out.cell (j := 1) rfl; have f1 := hT4.out.frozen 1
    have t9 := hT4.out.lt
    clear hb u0 u1 u2 u9 hX1 kc2
    go_wp2
    (try simp only [Exit.inBlock, Exit.then])
    refine bodyPost_ret (res_proof hX9.out rfl rfl) rfl ?_
    · exact hP.out _ _ rfl hB9.out
end Co
end Go.Proofs.YtpmlhgmmobpilaaGreatDoor

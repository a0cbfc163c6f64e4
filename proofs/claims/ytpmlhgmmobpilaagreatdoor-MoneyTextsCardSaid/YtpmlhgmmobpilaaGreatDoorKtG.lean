/- Texts that the proof needs: CoB, StabSymPM. -/
import Derived.Sort.LotA
import Derived.Sort.WalkA
import Derived.Test.YtpmlhgmmobpilaaGreatDoorShelf
import Derived.Shelf.SlSortCmp.Insertion
import Derived.Deep.QuietTactic
import Derived.BigQuiet
import Derived.Laws.ResultCell
import Derived.Deep.RegionHeld3
import Derived.IntWalk
import Derived.Test.YtpmlhgmmobpilaaGreatDoorKtA
import Derived.Test.YtpmlhgmmobpilaaGreatDoorKtB
import Derived.Test.YtpmlhgmmobpilaaGreatDoorKtC
import Derived.Test.YtpmlhgmmobpilaaGreatDoorKtD
import Derived.Test.YtpmlhgmmobpilaaGreatDoorKtF
namespace Go.Proofs.YtpmlhgmmobpilaaGreatDoor
open Go.Sort
namespace St
section
variable {α : Type} [Inhabited α]
/-- Of d' it is said that d's parts [l, m) and [m, r) have changed places. -/
def IsRot (d : Array α) (l m r : Nat) (d' : Array α) : Prop :=
  d'.size = d.size ∧ ∀ k, d'[k]! = if l ≤ k ∧ k < l + (r - m) then d[k + (m - l)]! else if l + (r - m) ≤ k ∧ k < r then d[k - (r - m)]! else d[k]!
def swapRange (d : Array α) (a b : Nat) : Nat → Array α
  | 0 => d
  | n + 1 => swp (swapRange d a b n) (a + n) (b + n)
theorem swapRange_size (d : Array α) (a b n : Nat) : (swapRange d a b n).size = d.size := by
  induction n with
  | zero => rfl
  | succ n ih => unfold swapRange; rw [swp_size, ih]
theorem swapRange_get (d : Array α) (a b : Nat) : ∀ n, a + n ≤ b → b + n ≤ d.size → ∀ k, (swapRange d a b n)[k]! = if a ≤ k ∧ k < a + n then d[b + (k - a)]! else if b ≤ k ∧ k < b + n then d[a + (k - b)]! else d[k]! := by
  intro n
  induction n with
  | zero =>
    intro _ _ k
    rw [if_neg (by omega), if_neg (by omega)]
    rfl
  | succ n ih =>
    intro h1 h2 k
    have hs := swapRange_size d a b n
    have ih' := ih (by omega) (by omega)
    unfold swapRange
    rw [swp_get _ (by omega) (by omega)]
    by_cases e2 : k = b + n
    · subst e2
      have h3 := ih' (a + n)
      rw [if_neg (by omega), if_neg (by omega)] at h3
      rw [if_pos rfl, if_neg (by omega : ¬ (a ≤ b + n ∧ b + n < a + (n + 1))), if_pos (by omega : b ≤ b + n ∧ b + n < b + (n + 1)), h3]
      congr 1
      omega
    · rw [if_neg e2]
      by_cases e1 : k = a + n
      · subst e1
        have h3 := ih' (b + n)
        rw [if_neg (by omega), if_neg (by omega)] at h3
        rw [if_pos rfl, if_pos (by omega : a ≤ a + n ∧ a + n < a + (n + 1)), h3]
        congr 1
        omega
      · rw [if_neg e1, ih' k]
        by_cases c1 : a ≤ k ∧ k < a + n
        · rw [if_pos c1, if_pos (by omega)]
        · rw [if_neg c1]
          by_cases c2 : b ≤ k ∧ k < b + n
          · rw [if_pos c2, if_neg (by omega), if_pos (by omega)]
          · rw [if_neg c2, if_neg (by omega), if_neg (by omega)]
/-- The exchange of two neighbouring parts, i and j long, that meet at m. -/
def rot (d : Array α) (m i j : Nat) : Array α :=
  if i = 0 ∨ j = 0 then d
  else if i = j then swapRange d (m - i) m i
  else if j < i then rot (swapRange d (m - i) m j) m (i - j) j
  else rot (swapRange d (m - i) (m + j - i) i) m i (j - i)
termination_by i + j
decreasing_by
  · omega
  · omega
theorem rot_is : ∀ (n : Nat) (d : Array α) (m i j : Nat), i + j ≤ n → 0 < i → 0 < j → i ≤ m → m + j ≤ d.size → IsRot d (m - i) m (m + j) (rot d m i j) := by
  intro n
  induction n with
  | zero => intro d m i j h; omega
  | succ n ih =>
    intro d m i j hn hi hj him hmj
    unfold rot
    rw [if_neg (by omega)]
    by_cases e : i = j
    · subst e
      rw [if_pos rfl]
      refine ⟨swapRange_size _ _ _ _, fun k => ?_⟩
      rw [swapRange_get d (m - i) m i (by omega) hmj]
      by_cases c1 : m - i ≤ k ∧ k < m - i + i
      · rw [if_pos c1, if_pos (by omega)]
        congr 1
        omega
      · rw [if_neg c1]
        by_cases c2 : m ≤ k ∧ k < m + i
        · rw [if_pos c2, if_neg (by omega), if_pos (by omega)]
          congr 1
          omega
        · rw [if_neg c2, if_neg (by omega), if_neg (by omega)]
    · rw [if_neg e]
      by_cases c : j < i
      · rw [if_pos c]
        have hs := swapRange_size d (m - i) m j
        have hg := swapRange_get d (m - i) m j (by omega) hmj
        obtain ⟨h1, h2⟩ := ih (swapRange d (m - i) m j) m (i - j) j (by omega) (by omega) hj (by omega) (by omega)
        refine ⟨h1.trans hs, fun k => ?_⟩
        rw [h2 k]
        by_cases c1 : m - i ≤ k ∧ k < m - i + (m + j - m)
        · rw [if_neg (by omega), if_neg (by omega), if_pos c1, hg, if_pos (by omega)]
          congr 1
          omega
        · rw [if_neg c1]
          by_cases c2 : m - i + (m + j - m) ≤ k ∧ k < m + j
          · rw [if_pos c2]
            by_cases c3 : m - (i - j) ≤ k ∧ k < m - (i - j) + (m + j - m)
            · rw [if_pos c3, hg, if_neg (by omega), if_pos (by omega)]
              congr 1
              omega
            · rw [if_neg c3, if_pos (by omega), hg, if_neg (by omega), if_neg (by omega)]
          · rw [if_neg c2, if_neg (by omega), if_neg (by omega), hg, if_neg (by omega), if_neg (by omega)]
      · rw [if_neg c]
        have hs := swapRange_size d (m - i) (m + j - i) i
        have hg := swapRange_get d (m - i) (m + j - i) i (by omega) (by omega)
        obtain ⟨h1, h2⟩ := ih (swapRange d (m - i) (m + j - i) i) m i (j - i) (by omega) hi (by omega) him (by omega)
        refine ⟨h1.trans hs, fun k => ?_⟩
        rw [h2 k]
        by_cases c1 : m - i ≤ k ∧ k < m - i + (m + j - m)
        · rw [if_pos c1]
          by_cases c3 : m - i ≤ k ∧ k < m - i + (m + (j - i) - m)
          · rw [if_pos c3, hg, if_neg (by omega), if_neg (by omega)]
          · rw [if_neg c3, if_pos (by omega), hg, if_pos (by omega)]
            congr 1
            omega
        · rw [if_neg c1, if_neg (by omega), if_neg (by omega)]
          by_cases c2 : m - i + (m + j - m) ≤ k ∧ k < m + j
          · rw [if_pos c2, hg, if_neg (by omega), if_pos (by omega)]
            congr 1
            omega
          · rw [if_neg c2, hg, if_neg (by omega), if_neg (by omega)]
theorem get_list {d : Array α} {l r k : Nat} (hr : r ≤ d.size) (hk : k < r - l) : (d.extract l r).toList[k]? = some d[l + k]! := by
  rw [Array.toList_extract]
  simp only [List.extract_eq_take_drop, List.getElem?_take, List.getElem?_drop]
  rw [if_pos (by omega), Array.getElem?_toList, getElem!_def, Array.getElem?_eq_getElem (by omega)]
theorem IsRot.perm {d d' : Array α} {l m r : Nat} (h : IsRot d l m r d') (h1 : l ≤ m) (h2 : m ≤ r) (h3 : r ≤ d.size) : PermIn l r d d' := by
  obtain ⟨hs, hg⟩ := h
  refine ⟨hs, fun i hi => ?_, ?_⟩
  · rw [hg, if_neg (by omega), if_neg (by omega)]
  · have e1 : (d.extract l r).toList = (d.extract l m).toList ++ (d.extract m r).toList := by
      refine List.ext_getElem? fun k => ?_
      by_cases c : k < m - l
      · rw [get_list h3 (by omega), List.getElem?_append_left (by simp; omega), get_list (by omega) c]
      · by_cases c2 : k < r - l
        · rw [get_list h3 c2, List.getElem?_append_right (by simp; omega)]
          rw [show k - (d.extract l m).toList.length = k - (m - l) by simp; omega, get_list h3 (by omega)]
          congr 2
          omega
        · rw [List.getElem?_eq_none (by simp; omega), List.getElem?_eq_none (by simp; omega)]
    have e2 : (d'.extract l r).toList = (d.extract m r).toList ++ (d.extract l m).toList := by
      refine List.ext_getElem? fun k => ?_
      by_cases c : k < r - m
      · rw [get_list (by omega) (by omega), List.getElem?_append_left (by simp; omega), get_list h3 c, hg, if_pos (by omega)]
        congr 2
        omega
      · by_cases c2 : k < r - l
        · rw [get_list (by omega) c2, List.getElem?_append_right (by simp; omega)]
          rw [show k - (d.extract m r).toList.length = k - (r - m) by simp; omega, get_list (by omega) (by omega), hg, if_neg (by omega), if_pos (by omega)]
          congr 2
          omega
        · rw [List.getElem?_eq_none (by simp; omega), List.getElem?_eq_none (by simp; omega)]
    rw [e1, e2]
    exact List.perm_append_comm
def Srt (R : α → α → Prop) (a b : Nat) (d : Array α) : Prop := ∀ i j, a ≤ i → i < j → j < b → R d[i]! d[j]!
/-- The test that Go makes tells, of an element of the left part and one of the right, which comes first. -/
def Tells (lt : α → α → Bool) (R : α → α → Prop) (a m b : Nat) (d : Array α) : Prop := ∀ i j, a ≤ i → i < m → m ≤ j → j < b → (lt d[j]! d[i]! = true → R d[j]! d[i]!) ∧ (lt d[j]! d[i]! = false → R d[i]! d[j]!)
def Trn (R : α → α → Prop) : Prop := ∀ x y z, R x y → R y z → R x z
variable {lt : α → α → Bool} {R : α → α → Prop} {a m b : Nat} {d d' : Array α}
theorem Srt.le (h : Srt R a b d) (hT : Trn R) {i j k : Nat} (hi : a ≤ i) (hij : i ≤ j) (hj : j < b) (hk : R d[j]! d[k]!) : R d[i]! d[k]! := by
  by_cases e : i = j
  · rw [e]; exact hk
  · exact hT _ _ _ (h i j hi (by omega) hj) hk
theorem Srt.ge (h : Srt R a b d) (hT : Trn R) {i j k : Nat} (hi : a ≤ i) (hij : i ≤ j) (hj : j < b) (hk : R d[k]! d[i]!) : R d[k]! d[j]! := by
  by_cases e : i = j
  · rw [← e]; exact hk
  · exact hT _ _ _ hk (h i j hi (by omega) hj)
/-- Behind the exchange of [s, m) and [m, e) the two halves are apart, and each half has two ascending parts. -/
theorem merge_split (hT : Trn R) (h1 : Srt R a m d) (h2 : Srt R m b d) (hc : Tells lt R a m b d) {s e mid : Nat} (has : a ≤ s) (hsm : s ≤ m) (hme : m ≤ e) (heb : e ≤ b) (hmid : mid = s + (e - m))
    (hb1 : (s = a ∨ e = b) ∨ lt d[e]! d[s - 1]! = false) (hb2 : (e = m ∨ s = m) ∨ lt d[e - 1]! d[s]! = true) (hr : IsRot d s m e d') :
    (∀ x y, a ≤ x → x < mid → mid ≤ y → y < b → R d'[x]! d'[y]!) ∧ (Srt R a s d' ∧ Srt R s mid d' ∧ Tells lt R a s mid d') ∧ (Srt R mid e d' ∧ Srt R e b d' ∧ Tells lt R mid e b d') := by
  obtain ⟨_, hg⟩ := hr
  have g1 : ∀ x, x < s → d'[x]! = d[x]! := fun x hx => by rw [hg, if_neg (by omega), if_neg (by omega)]
  have g2 : ∀ x, s ≤ x → x < mid → d'[x]! = d[x + (m - s)]! := fun x h1 h2 => by rw [hg, if_pos (by omega)]
  have g3 : ∀ x, mid ≤ x → x < e → d'[x]! = d[x - (e - m)]! := fun x h1 h2 => by rw [hg, if_neg (by omega), if_pos (by omega)]
  have g4 : ∀ x, e ≤ x → d'[x]! = d[x]! := fun x hx => by rw [hg, if_neg (by omega), if_neg (by omega)]
  refine ⟨fun x y hx1 hx2 hy1 hy2 => ?_, ⟨fun i j hi hij hj => ?_, fun i j hi hij hj => ?_, fun i j hi him hmj hj => ?_⟩, fun i j hi hij hj => ?_, fun i j hi hij hj => ?_, fun i j hi him hmj hj => ?_⟩
  · by_cases cx : x < s
    · rw [g1 x cx]
      by_cases cy : y < e
      · rw [g3 y hy1 cy]
        exact h1 _ _ hx1 (by omega) (by omega)
      · rw [g4 y (by omega)]
        rcases hb1 with hb1 | hb1
        · omega
        · have k1 := (hc (s - 1) e (by omega) (by omega) (by omega) (by omega)).2 hb1
          exact h1.le hT hx1 (by omega : x ≤ s - 1) (by omega) (h2.ge hT (by omega) (by omega : e ≤ y) hy2 k1)
    · rw [g2 x (by omega) hx2]
      by_cases cy : y < e
      · rw [g3 y hy1 cy]
        rcases hb2 with hb2 | hb2
        · omega
        · have k1 := (hc s (e - 1) (by omega) (by omega) (by omega) (by omega)).1 hb2
          exact h2.le hT (by omega) (by omega : x + (m - s) ≤ e - 1) (by omega) (h1.ge hT (by omega) (by omega : s ≤ y - (e - m)) (by omega) k1)
      · rw [g4 y (by omega)]
        exact h2 _ _ (by omega) (by omega) hy2
  · rw [g1 i (by omega), g1 j hj]
    exact h1 i j hi hij (by omega)
  · rw [g2 i hi (by omega), g2 j (by omega) hj]
    exact h2 _ _ (by omega) (by omega) (by omega)
  · rw [g1 i him, g2 j hmj hj]
    exact hc _ _ hi (by omega) (by omega) (by omega)
  · rw [g3 i hi (by omega), g3 j (by omega) hj]
    exact h1 _ _ (by omega) (by omega) (by omega)
  · rw [g4 i hi, g4 j (by omega)]
    exact h2 i j (by omega) hij hj
  · rw [g3 i hi him, g4 j hmj]
    exact hc _ _ (by omega) (by omega) (by omega) hj
/-- Two ascending halves that are apart. -/
theorem srt_join {mid : Nat} (h1 : Srt R a mid d) (h2 : Srt R mid b d) (h3 : ∀ x y, a ≤ x → x < mid → mid ≤ y → y < b → R d[x]! d[y]!) : Srt R a b d := fun i j hi hij hj => by
  by_cases c1 : j < mid
  · exact h1 i j hi hij c1
  · by_cases c2 : i < mid
    · exact h3 i j hi c2 (by omega) hj
    · exact h2 i j (by omega) hij hj
/-- The one element of the left part goes to its place: i is the first of the right part behind which it belongs. -/
theorem merge_left (hT : Trn R) (h2 : Srt R (a + 1) b d) (hc : Tells lt R a (a + 1) b d) {i : Nat} (hi : a + 1 ≤ i) (hib : i ≤ b) (hb1 : i = a + 1 ∨ lt d[i - 1]! d[a]! = true) (hb2 : i = b ∨ lt d[i]! d[a]! = false) (hr : IsRot d a (a + 1) i d') : Srt R a b d' := by
  obtain ⟨hd, hs1, hs2⟩ := merge_split (lt := lt) (s := a) (e := i) (mid := a + (i - (a + 1))) hT (fun x y h1 h2 h3 => by omega) h2 hc (Nat.le_refl _) (by omega) hi hib rfl (.inl (.inl rfl)) (by
    rcases hb1 with hb1 | hb1
    · exact .inl (.inl hb1)
    · exact .inr hb1) hr
  refine srt_join hs1.2.1 ?_ hd
  refine srt_join (mid := i) hs2.1 hs2.2.1 fun x y hx1 hx2 hy1 hy2 => ?_
  have hx : x = i - 1 := by omega
  rcases hb2 with hb2 | hb2
  · omega
  · obtain ⟨_, hg⟩ := hr
    have k1 := (hc a i (Nat.le_refl _) (by omega) hi (by omega)).2 hb2
    have e1 : d'[x]! = d[a]! := by
      rw [hg, if_neg (by omega), if_pos (by omega)]
      congr 1
      omega
    have e2 : d'[y]! = d[y]! := by rw [hg, if_neg (by omega), if_neg (by omega)]
    rw [e1, e2]
    exact h2.ge hT (by omega) hy1 hy2 k1
/-- The one element of the right part goes to its place. -/
theorem merge_right (hT : Trn R) (h1 : Srt R a m d) (hc : Tells lt R a m (m + 1) d) {i : Nat} (hai : a ≤ i) (him : i ≤ m) (hb1 : i = a ∨ lt d[m]! d[i - 1]! = false) (hb2 : i = m ∨ lt d[m]! d[i]! = true) (hr : IsRot d i m (m + 1) d') : Srt R a (m + 1) d' := by
  obtain ⟨_, hg⟩ := hr
  have g1 : ∀ x, x < i → d'[x]! = d[x]! := fun x hx => by rw [hg, if_neg (by omega), if_neg (by omega)]
  have g2 : d'[i]! = d[m]! := by
    rw [hg, if_pos (by omega)]
    congr 1
    omega
  have g3 : ∀ x, i < x → x < m + 1 → d'[x]! = d[x - 1]! := fun x h1 h2 => by
    rw [hg, if_neg (by omega), if_pos (by omega)]
    congr 1
    omega
  intro x y hx hxy hy
  by_cases c1 : y < i
  · rw [g1 x (by omega), g1 y c1]
    exact h1 x y hx hxy (by omega)
  · by_cases c2 : y = i
    · rw [c2, g2, g1 x (by omega)]
      rcases hb1 with hb1 | hb1
      · omega
      · exact h1.le hT hx (by omega : x ≤ i - 1) (by omega) ((hc (i - 1) m (by omega) (by omega) (Nat.le_refl _) (by omega)).2 hb1)
    · rw [g3 y (by omega) hy]
      by_cases c3 : x < i
      · rw [g1 x c3]
        exact h1 x (y - 1) hx (by omega) (by omega)
      · by_cases c4 : x = i
        · rw [c4, g2]
          rcases hb2 with hb2 | hb2
          · omega
          · exact h1.ge hT (by omega) (by omega : i ≤ y - 1) (by omega) ((hc i m hai (by omega) (Nat.le_refl _) (by omega)).1 hb2)
        · rw [g3 x (by omega) (by omega)]
          exact h1 _ _ (by omega) (by omega) (by omega)
end
end St
end Go.Proofs.YtpmlhgmmobpilaaGreatDoor
namespace Go.Proofs.YtpmlhgmmobpilaaGreatDoor
open Go.Sort
namespace St
section
variable {α : Type} [Inhabited α] {lt lt' : α → α → Bool}
theorem swp_at {d : Array α} {j k : Nat} (hj : j + 1 < d.size) (hk : k < j) : (swp d (j + 1) j)[k]! = d[k]! := by
  rw [swp_get _ (by omega) (by omega), if_neg (by omega), if_neg (by omega)]
theorem swp_to {d : Array α} {j : Nat} (hj : j + 1 < d.size) : (swp d (j + 1) j)[j]! = d[j + 1]! := by
  rw [swp_get _ (by omega) (by omega), if_pos rfl]
theorem insInner_eq (a : Nat) : ∀ (j : Nat) (d : Array α), j < d.size → (∀ k, a ≤ k → k < j → lt d[j]! d[k]! = lt' d[j]! d[k]!) → insInner lt a j d = insInner lt' a j d := by
  intro j
  induction j with
  | zero => intro d _ _; rfl
  | succ j ih =>
    intro d hj h
    by_cases ha : j + 1 > a
    · have e := h j (by omega) (by omega)
      unfold insInner
      rw [e]
      by_cases c : lt' d[j + 1]! d[j]! = true
      · rw [c]
        simp only [ha, decide_true, Bool.and_self, if_true]
        refine ih _ (by rw [swp_size]; omega) fun k h1 h2 => ?_
        rw [swp_to hj, swp_at hj h2]
        exact h k h1 (by omega)
      · have c2 : lt' d[j + 1]! d[j]! = false := by simpa using c
        rw [c2]
        simp
    · unfold insInner
      simp [ha]
theorem insInner_perm (lt : α → α → Bool) (a b : Nat) : ∀ (j : Nat) (d : Array α), j < b → b ≤ d.size → PermIn a b d (insInner lt a j d) := by
  intro j
  induction j with
  | zero => intro d _ _; exact permIn_refl d a b
  | succ j ih =>
    intro d hj hb
    unfold insInner
    split
    · rename_i hc
      have ha : j + 1 > a := by
        simp only [Bool.and_eq_true, decide_eq_true_eq] at hc
        exact hc.1
      exact permIn_trans d _ _ a b (swp_permIn d a b (j + 1) j (by omega) hj (by omega) (by omega) hb) (ih _ (by omega) (by rw [swp_size]; exact hb))
    · exact permIn_refl d a b
theorem insInner_size (lt : α → α → Bool) (a : Nat) : ∀ (j : Nat) (d : Array α), (insInner lt a j d).size = d.size := by
  intro j
  induction j with
  | zero => intro d; rfl
  | succ j ih =>
    intro d
    unfold insInner
    split
    · rw [ih, swp_size]
    · rfl
theorem insOuter_size' (lt : α → α → Bool) (a b : Nat) : ∀ (n i : Nat) (d : Array α), b - i = n → (insOuter lt a b i d).size = d.size := by
  intro n
  induction n with
  | zero => intro i d hn; rw [insOuter_stop lt a b i d (by omega)]
  | succ n ih => intro i d hn; rw [insOuter_go lt a b i d (by omega), ih (i + 1) _ (by omega), insInner_size]
theorem insOuter_size (lt : α → α → Bool) (a b : Nat) (d : Array α) : (insertionSort lt d a b).size = d.size := insOuter_size' lt a b _ (a + 1) d rfl
theorem insOuter_eq (a b : Nat) : ∀ (n i : Nat) (d : Array α), b - i = n → a < i → b ≤ d.size → (∀ k j, a ≤ k → k < j → i ≤ j → j < b → lt d[j]! d[k]! = lt' d[j]! d[k]!) → insOuter lt a b i d = insOuter lt' a b i d := by
  intro n
  induction n with
  | zero =>
    intro i d hn _ _ _
    rw [insOuter_stop lt a b i d (by omega), insOuter_stop lt' a b i d (by omega)]
  | succ n ih =>
    intro i d hn hi hb h
    rw [insOuter_go lt a b i d (by omega), insOuter_go lt' a b i d (by omega), insInner_eq (lt := lt) (lt' := lt') a i d (by omega) fun k h1 h2 => h k i h1 h2 (Nat.le_refl _) (by omega)]
    have hp := insInner_perm lt' a (i + 1) i d (Nat.lt_succ_self _) (by omega)
    have hsz := hp.1
    refine ih (i + 1) _ (by omega) (by omega) (by rw [hsz]; exact hb) fun k j h1 h2 h3 h4 => ?_
    have e : (insInner lt' a i d)[j]! = d[j]! := hp.2.1 j (.inr h3)
    rw [e]
    by_cases c : k < i + 1
    · have hall := permIn_all d (insInner lt' a i d) a (i + 1) (fun x => lt d[j]! x = lt' d[j]! x) (by omega) hp fun k' h5 h6 => h k' j h5 (by omega) (by omega) h4
      exact hall k h1 c
    · rw [hp.2.1 k (.inr (by omega))]
      exact h k j h1 h2 (by omega) h4
theorem insertionSort_eq {a b : Nat} {d : Array α} (hb : b ≤ d.size) (h : ∀ k j, a ≤ k → k < j → j < b → lt d[j]! d[k]! = lt' d[j]! d[k]!) : insertionSort lt d a b = insertionSort lt' d a b :=
  insOuter_eq a b _ (a + 1) d rfl (Nat.lt_succ_self _) hb fun k j h1 h2 _ h4 => h k j h1 h2 h4
end
section
variable {α : Type}
def kLt (key : α → Int) (pos : α → Nat) (x y : α) : Bool := decide (key x < key y ∨ (key x = key y ∧ pos x < pos y))
theorem kLt_swo (key : α → Int) (pos : α → Nat) : SWO (kLt key pos) := by
  refine ⟨fun x => decide_eq_false (by omega), fun x y z h1 h2 => ?_, fun x y z h1 h2 => ?_⟩
  · have h1 := of_decide_eq_true h1
    have h2 := of_decide_eq_true h2
    exact decide_eq_true (by omega)
  · have h1 := of_decide_eq_false h1
    have h2 := of_decide_eq_false h2
    exact decide_eq_false (by omega)
end
end St
end Go.Proofs.YtpmlhgmmobpilaaGreatDoor
namespace Go.Proofs.YtpmlhgmmobpilaaGreatDoor
open Go.RowKit Go.Shelf Go.Sort
namespace St
open Nt Ci
section
variable {α : Type} [Inhabited α] {nm : α → Nat} {w w' w'' : World} {b : Nat} {d : Array α}
def en (nm : α → Nat) (x : α) : Value := .int .i64 (nm x : Int)
/-- Block b begins with the numbers of d. -/
structure Ro (nm : α → Nat) (w : World) (b : Nat) (d : Array α) : Prop where
  lt : b < w.heap.size
  cell : ∀ j, j < d.size → w.cell? ⟨b, j, none⟩ = some (.int .i64 (nm d[j]! : Int))
  fr : ∀ j, j < d.size → w.frozen? ⟨b, j, none⟩ = false
theorem Ro.of_block (h : Ro nm w b d) (hs : w.heap.size ≤ w'.heap.size) (hb : w'.heap[b]? = w.heap[b]?) : Ro nm w' b d :=
  ⟨Nat.lt_of_lt_of_le h.lt hs, fun j hj => (World.cell?_of_block (a := ⟨b, j, none⟩) hb).trans (h.cell j hj), fun j hj => (World.frozen?_of_block (a := ⟨b, j, none⟩) hb).trans (h.fr j hj)⟩
theorem Ro.below (h : Ro nm w b d) (hb : Below w.heap.size w w') : Ro nm w' b d := h.of_block hb.size (hb.block b h.lt)
theorem Ro.drewN (h : Ro nm w b d) (q : Nat) : Ro nm (w.drewN q) b d := h.below (blw_drewN (Below.refl _ w) q)
theorem Ro.swap (h : Ro nm w b d) {i j : Nat} (hi : i < d.size) (hj : j < d.size) {x y : Int} (hx : x = (nm d[j]! : Int)) (hy : y = (nm d[i]! : Int)) : Ro nm ((w.setCell ⟨b, i, none⟩ (.int .i64 x)).setCell ⟨b, j, none⟩ (.int .i64 y)) b (swp d i j) := by
  have hne : ∀ m n : Nat, m ≠ n → (⟨b, m, none⟩ : Addr) ≠ ⟨b, n, none⟩ := fun m n e1 e2 => by injection e2 with _ e3; exact e1 e3
  refine ⟨by simpa using h.lt, fun k hk => ?_, fun k hk => by simpa using h.fr k (by rwa [swp_size] at hk)⟩
  rw [swp_size] at hk
  rw [swp_get _ hi hj]
  by_cases e1 : k = j
  · subst e1
    have hc : ∃ u, (w.setCell ⟨b, i, none⟩ (.int .i64 x)).cell? ⟨b, k, none⟩ = some u := by
      by_cases e2 : k = i
      · subst e2; exact ⟨_, World.cell?_setCell_same _ _ _ (h.cell k hk)⟩
      · rw [World.cell?_setCell_other _ _ _ _ (by first | exact hne _ _ e2 | exact hne _ _ fun c => e2 c.symm)]
        exact ⟨_, h.cell k hk⟩
    obtain ⟨u, hc⟩ := hc
    rw [if_pos rfl, World.cell?_setCell_same _ _ _ hc, hy]
  · rw [if_neg e1, World.cell?_setCell_other _ _ _ _ (by first | exact hne _ _ e1 | exact hne _ _ fun c => e1 c.symm)]
    by_cases e2 : k = i
    · subst e2
      rw [if_pos rfl, World.cell?_setCell_same _ _ _ (h.cell k hk), hx]
    · rw [if_neg e2, World.cell?_setCell_other _ _ _ _ (by first | exact hne _ _ e2 | exact hne _ _ fun c => e2 c.symm)]
      exact h.cell k hk
theorem kp_swap (h : Kp [b] w w') (i j : Nat) (x y : Value) : Kp [b] w ((w'.setCell ⟨b, i, none⟩ x).setCell ⟨b, j, none⟩ y) := (h.set (a := ⟨b, i, none⟩) x (.inl (by simp))).set (a := ⟨b, j, none⟩) y (.inl (by simp))
theorem kp_trans {xs : List Nat} (h : Kp xs w w') (h2 : Kp xs w' w'') : Kp xs w w'' :=
  ⟨h2.os.trans h.os, h2.tape.trans h.tape, h2.output.trans h.output, Nat.le_trans h.size h2.size, fun k hk hx => (h2.block k (Nat.lt_of_lt_of_le hk h.size) hx).trans (h.block k hk hx)⟩
theorem kp_drewN {xs : List Nat} (h : Kp xs w w') (q : Nat) : Kp xs w (w'.drewN q) := h.below (blw_drewN (Below.refl _ _) q)
theorem kp_putRow {e : α → Value} (off : Nat) : Kp [b] w (putRow e w b off d) :=
  ⟨rfl, rfl, rfl, by simp [putRow, mapBlock], fun k _ hx => by
    have : b ≠ k := fun c => hx (by simp [c])
    simp [putRow, mapBlock, Array.getElem?_modify, this]⟩
theorem kp_grow {xs : List Nat} (os : Array Obj) (h : Kp xs w w') : Kp xs w (grow w' os) :=
  ⟨h.os, h.tape, h.output, by have := h.size; simp; omega, fun k hk hx => by
    have h1 : k < w'.heap.size := Nat.lt_of_lt_of_le hk h.size
    have h2 := h.block k hk hx
    rw [← h2]
    simp [grow, Array.getElem?_append, h1]⟩
theorem kp_ahead (xs : List Nat) (m : Nat) : Kp xs w (Sort.ahead w m) := ⟨rfl, rfl, rfl, Nat.le_refl _, fun _ _ _ => rfl⟩
theorem Ro.holds (h : Ro nm w b d) : Holds (en nm) w b 0 d := fun j hj => by
  rw [Nat.zero_add]
  exact ⟨h.cell j hj, h.fr j hj⟩
theorem Ro.of_holds (hl : b < w.heap.size) (h : Holds (en nm) w b 0 d) : Ro nm w b d := ⟨hl, fun j hj => by have := (h j hj).1; rwa [Nat.zero_add] at this, fun j hj => by have := (h j hj).2; rwa [Nat.zero_add] at this⟩
end
theorem en_one {α : Type} {nm : α → Nat} : OneCell (en nm) := fun _ => rfl
/-- What is asked of the comparison: in every world that differs in the row alone it says cf. -/
def CmpOn {α : Type} (P : Program) (g : Nat) (cb : Array Value) (nm : α → Nat) (cf : α → α → Int) (bl : Nat) (w0 : World) : Prop :=
  ∀ W, Kp [bl] w0 W → ∀ x y : α, Calls P g (#[.int .i64 (nm x : Int), .int .i64 (nm y : Int)] ++ cb) W fun e w' => e = .returned (.int .i64 (cf x y)) ∧ ∃ q, w' = W.drewN q
set_option maxRecDepth 100000 in
theorem ins_any {α : Type} [Inhabited α] (nm : α → Nat) (cf : α → α → Int) (g : Nat) (cb : Array Value) (eg : ∀ args w, (callFunc g args).run Tryz.prog w = .ok (.enter g args) w) (bl cap x y : Nat) (d : Array α) (w0 w : World) (hK : Kp [bl] w0 w) (HC : CmpOn Tryz.prog g cb nm cf bl w0) (hR : Ro nm w bl d) (hxy : x ≤ y) (hy : y ≤ d.size) (hs : d.size ≤ 1000) :
    Calls Tryz.prog 143 #[.slice (some ⟨bl, 0, none⟩) d.size cap, .int .i64 (x : Int), .int .i64 (y : Int), .func (.func g) #[] cb] w fun e w' => e = .returned (.tuple #[]) ∧ Ro nm w' bl (insertionSort (ltOf cf) d x y) ∧ Kp [bl] w w' := by
  have hcmp : CmpReads Tryz.prog g cb (en nm) cf bl 0 d.size w := fun m os dk _ p q => by
    have h1 : Kp [bl] w (sortWorld (en nm) w bl 0 m dk os) := kp_grow os (kp_trans (kp_ahead [bl] m) (kp_putRow 0))
    exact HC _ (kp_trans hK h1) p q
  refine (Any.insertionSortCmpFunc_one Tryz.insL (en nm) en_one cf g cb bl 0 cap x y d w eg hcmp hR.holds hxy hy (by omega)).mono ?_
  rintro e w' ⟨rfl, q, rfl⟩
  have hsz : (insertionSort (ltOf cf) d x y).size = d.size := insOuter_size _ _ _ _
  exact ⟨rfl, (Ro.of_holds (by have := hR.lt; simpa [putRow, mapBlock] using this) (holds_putRow _ _ _ _ _ _ hR.holds hsz)).drewN q, kp_drewN (kp_putRow 0) q⟩
set_option maxRecDepth 100000 in
set_option maxHeartbeats 4000000 in
theorem swapRange_any {α : Type} [Inhabited α] (nm : α → Nat) (bl cap x y n : Nat) (fv : Value) (d : Array α) (w : World) (hR : Ro nm w bl d) (hxy : x + n ≤ y) (hy : y + n ≤ d.size) (hs : d.size ≤ 1000) :
    Calls Tryz.prog 210 #[.slice (some ⟨bl, 0, none⟩) d.size cap, .int .i64 (x : Int), .int .i64 (y : Int), .int .i64 (n : Int), fv] w fun e w' => e = .returned (.tuple #[]) ∧ Ro nm w' bl (swapRange d x y n) ∧ Kp [bl] w w' := by
  replace hR := Lib.hid hR
  go_enter Tryz.func210, Tryz.ntmps210
  go_wp2
  go_loopw [10] (fun ix wr => ∃ (i : Nat), i ≤ n ∧ ix = .int .i64 (i : Int) ∧ Hid (Ro nm wr bl (swapRange d x y i)) ∧ Hid (Kp [bl] w wr)) (fun ix _ => n - (intOf ix).toNat)
  case atStart => exact ⟨0, Nat.zero_le _, rfl, hR, Kp.refl _ _⟩
  case round =>
    obtain ⟨i, hi, rfl, hO, hK⟩ := hrel
    have hsz : (swapRange d x y i).size = d.size := swapRange_size d x y i
    by_cases hlt : i < n
    · have c1 := hO.out.cell (x + i) (by omega)
      have c2 := hO.out.cell (y + i) (by omega)
      have f1 := hO.out.fr (x + i) (by omega)
      have f2 := hO.out.fr (y + i) (by omega)
      have l1 := hO.out.lt
      have hO9 : Hid (Ro nm ((wr.setCell ⟨bl, x + i, none⟩ (.int .i64 (nm (swapRange d x y i)[y + i]! : Int))).setCell ⟨bl, y + i, none⟩ (.int .i64 (nm (swapRange d x y i)[x + i]! : Int))).drew bl (swapRange d x y (i + 1))) := (hO.out.swap (by omega) (by omega) rfl rfl).below (Below.refl _ _).drew
      have hK9 := Lib.hid ((kp_swap hK.out (x + i) (y + i) (.int .i64 (nm (swapRange d x y i)[y + i]! : Int)) (.int .i64 (nm (swapRange d x y i)[x + i]! : Int))).drew)
      obtain ⟨p1, hp1⟩ : ∃ z, z = (nm (swapRange d x y i)[x + i]! : Int) := ⟨_, rfl⟩
      obtain ⟨p2, hp2⟩ : ∃ z, z = (nm (swapRange d x y i)[y + i]! : Int) := ⟨_, rfl⟩
      rw [← hp1] at c1 hO9 hK9
      rw [← hp2] at c2 hO9 hK9
      have j0 : (0 : Int) ≤ (x : Int) + (i : Int) := by omega
      have j1 : (x : Int) + (i : Int) < (d.size : Int) := by omega
      have j2 : (0 : Int) ≤ (y : Int) + (i : Int) := by omega
      have j3 : (y : Int) + (i : Int) < (d.size : Int) := by omega
      have j4 : ((x : Int) + (i : Int)).toNat = x + i := by omega
      have j5 : ((y : Int) + (i : Int)).toNat = y + i := by omega
      clear hp1 hp2 hO hK
      go_wp2_with fail
      go_region
      go_wp2
      exact ⟨⟨i + 1, by omega, by go_num, hO9, hK9⟩, by simp only [intOf]; omega⟩
    · obtain rfl : i = n := by omega
      go_wp2
      go_end0
      exact ⟨rfl, hO.out, hK.out⟩
end St
end Go.Proofs.YtpmlhgmmobpilaaGreatDoor
namespace Go.Proofs.YtpmlhgmmobpilaaGreatDoor
open Go.RowKit Go.Shelf Go.Sort
namespace Co
open Nt Ci St
/-- What the sort gives: the same numbers, by their keys, and where these are equal in their order. -/
def Sorted (o : Nat → Int) (l l' : List Nat) : Prop := l'.Perm l ∧ l'.Pairwise fun a b => o a < o b ∨ (o a = o b ∧ a < b)
section
variable {m : Nat}
/-- The numbers below m + 1 as an array. -/
def arr (l : List Nat) : Array (Fin (m + 1)) := (l.map fun x => (⟨min x m, by omega⟩ : Fin (m + 1))).toArray
theorem arr_size (l : List Nat) : (arr (m := m) l).size = l.length := by simp [arr]
theorem arr_at {l : List Nat} (h : ∀ x, x ∈ l → x < m + 1) {j : Nat} (hj : j < l.length) : ((arr (m := m) l)[j]!).val = l[j] := by
  have h1 := h l[j] (List.getElem_mem hj)
  rw [getElem!_pos _ j (by rw [arr_size]; exact hj)]
  simp [arr]
  omega
theorem val_map {l : List Nat} (h : ∀ x, x ∈ l → x < m + 1) : (arr (m := m) l).toList.map Fin.val = l := by
  refine List.ext_getElem (by simp [arr]) fun j h1 h2 => ?_
  have := h l[j] (List.getElem_mem h2)
  simp [arr]
  omega
/-- From the array to the list. -/
theorem sorted_of {o : Nat → Int} {l : List Nat} (h : ∀ x, x ∈ l → x < m + 1) (hnd : l.Pairwise (· < ·)) {d' : Array (Fin (m + 1))} (hp : PermIn 0 l.length (arr l) d') (hs : SortedIn (kLt (fun x : Fin (m + 1) => o x.val) Fin.val) 0 l.length d') : Sorted o l (d'.toList.map Fin.val) := by
  have hsz : d'.size = l.length := hp.1.trans (arr_size l)
  have hperm : (d'.toList.map Fin.val).Perm l := by
    have h1 := hp.2.2
    rw [show (arr (m := m) l).extract 0 l.length = arr l by rw [← arr_size (m := m) l]; simp, show d'.extract 0 l.length = d' by rw [← hsz]; simp] at h1
    have h2 := h1.map Fin.val
    rwa [val_map h] at h2
  refine ⟨hperm, ?_⟩
  have hnd2 : (d'.toList.map Fin.val).Nodup := (hperm.nodup_iff).2 (hnd.imp fun h => Nat.ne_of_lt h)
  rw [List.pairwise_iff_getElem]
  intro i j hi hj hij
  have hi2 : i < d'.size := by simpa using hi
  have hj2 : j < d'.size := by simpa using hj
  have h1 := hs i j (Nat.zero_le _) hij (by omega)
  rw [getElem!_pos _ i hi2, getElem!_pos _ j hj2] at h1
  replace h1 : ¬ (o d'[j].val < o d'[i].val ∨ (o d'[j].val = o d'[i].val ∧ d'[j].val < d'[i].val)) := of_decide_eq_false h1
  have h3 : (d'.toList.map Fin.val)[i] ≠ (d'.toList.map Fin.val)[j] := List.pairwise_iff_getElem.1 hnd2 i j hi hj hij
  simp only [List.getElem_map, Array.getElem_toList] at h3 ⊢
  omega
end
end Co
end Go.Proofs.YtpmlhgmmobpilaaGreatDoor
namespace Go.Proofs.YtpmlhgmmobpilaaGreatDoor
open Go.RowKit Go.Shelf
namespace Co
open Nt Ci
section
variable {o : Nat → Int} {n p i : Nat} {l l' : List Nat}
end
structure PvI (wo wr : World) (pb B : Nat) (l1 l2 : List Nat) (u1 u2 : Value) : Prop where
  k : Kp [pb] wo wr
  p : Bk wr pb 56 [u1, u2]
  r1 : wr.ownsRow B 3 1 u1 l1.length (intsL l1)
  r2 : wr.ownsRow B 3 1 u2 l2.length (intsL l2)
  ap : ∀ b, u1.ownBlock = some b → u2.ownBlock ≠ some b
  lp : pb < B
  lo : wo.heap.size ≤ B
section
variable {wo W W' : World} {pb B : Nat} {l1 l2 : List Nat} {u1 u2 u : Value} {q : Nat}
theorem PvI.below (h : PvI wo W pb B l1 l2 u1 u2) (hb : Below W.heap.size W W') : PvI wo W' pb B l1 l2 u1 u2 :=
  ⟨h.k.below hb, h.p.below hb, own_below' h.r1 hb, own_below' h.r2 hb, h.ap, h.lp, h.lo⟩
end
end Co
end Go.Proofs.YtpmlhgmmobpilaaGreatDoor
namespace Go.Proofs.YtpmlhgmmobpilaaGreatDoor
open Go.RowKit Go.Shelf
namespace Co
open Nt Ci
end Co
end Go.Proofs.YtpmlhgmmobpilaaGreatDoor

namespace Go.Proofs.YtpmlhgmmobpilaaGreatDoor
open Go.RowKit Go.Shelf Go.Sort
namespace St
section
variable {α : Type} [Inhabited α] {lt : α → α → Bool} {R : α → α → Prop} {a m b mid : Nat} {d d' d'' : Array α}
theorem isRot_triv {l r : Nat} (h : l = m ∨ m = r) (_hl : l ≤ m) (_hr : m ≤ r) : IsRot d l m r d := by
  refine ⟨rfl, fun k => ?_⟩
  split
  · rcases h with h | h
    · congr 1; omega
    · omega
  · split
    · rcases h with h | h
      · omega
      · congr 1; omega
    · rfl
theorem isRot_up {l k : Nat} (h : IsRot d l (l + 1) (k + 1) d') (hl : l ≤ k) (hk : k + 1 < d.size) : IsRot d l (l + 1) (k + 2) (swp d' k (k + 1)) := by
  obtain ⟨hs, hg⟩ := h
  refine ⟨by rw [swp_size]; exact hs, fun x => ?_⟩
  rw [swp_get _ (by omega) (by omega)]
  by_cases c1 : x = k + 1
  · subst c1
    rw [if_pos rfl, if_neg (by omega), if_pos (by omega), hg, if_neg (by omega), if_pos (by omega)]
    congr 1; omega
  · rw [if_neg c1]
    by_cases c2 : x = k
    · subst c2
      rw [if_pos rfl, hg, if_neg (by omega), if_neg (by omega), if_pos (by omega)]
      congr 1; omega
    · rw [if_neg c2, hg]
      by_cases c3 : l ≤ x ∧ x < k
      · rw [if_pos (by omega), if_pos (by omega)]
      · rw [if_neg (by omega), if_neg (by omega), if_neg (by omega), if_neg (by omega)]
theorem isRot_down {k : Nat} (h : IsRot d (k + 1) m (m + 1) d') (hk : k + 1 ≤ m) (hm : m < d.size) : IsRot d k m (m + 1) (swp d' (k + 1) k) := by
  obtain ⟨hs, hg⟩ := h
  refine ⟨by rw [swp_size]; exact hs, fun x => ?_⟩
  rw [swp_get _ (by omega) (by omega)]
  by_cases c1 : x = k
  · subst c1
    rw [if_pos rfl, if_pos (by omega), hg, if_pos (by omega)]
    congr 1; omega
  · rw [if_neg c1]
    by_cases c2 : x = k + 1
    · subst c2
      rw [if_pos rfl, if_neg (by omega), if_pos (by omega), hg, if_neg (by omega), if_neg (by omega)]
      congr 1; omega
    · rw [if_neg c2, hg]
      by_cases c3 : k + 1 < x ∧ x < m + 1
      · rw [if_neg (by omega), if_pos (by omega), if_neg (by omega), if_pos (by omega)]
      · rw [if_neg (by omega), if_neg (by omega), if_neg (by omega), if_neg (by omega)]
theorem Srt.out (h : Srt R a m d) {l r : Nat} (hp : PermIn l r d d') (ho : m ≤ l ∨ r ≤ a) : Srt R a m d' := fun i j h1 h2 h3 => by
  rw [hp.2.1 i (by omega), hp.2.1 j (by omega)]
  exact h i j h1 h2 h3
theorem Tells.out (h : Tells lt R a m b d) {l r : Nat} (hp : PermIn l r d d') (ho : b ≤ l ∨ r ≤ a) : Tells lt R a m b d' := fun i j h1 h2 h3 h4 => by
  rw [hp.2.1 i (by omega), hp.2.1 j (by omega)]
  exact h i j h1 h2 h3 h4
/-- The two halves are apart. -/
def Sep (R : α → α → Prop) (a mid b : Nat) (d : Array α) : Prop := ∀ x y, a ≤ x → x < mid → mid ≤ y → y < b → R d[x]! d[y]!
theorem Sep.left (h : Sep R a mid b d) (hp : PermIn a mid d d') (hm : mid ≤ d.size) : Sep R a mid b d' := fun x y h1 h2 h3 h4 => by
  rw [hp.2.1 y (.inr h3)]
  exact permIn_all d d' a mid (fun u => R u d[y]!) hm hp (fun k h5 h6 => h k y h5 h6 h3 h4) x h1 h2
theorem Sep.right (h : Sep R a mid b d) (hp : PermIn mid b d d') (hm : b ≤ d.size) : Sep R a mid b d' := fun x y h1 h2 h3 h4 => by
  rw [hp.2.1 x (.inl h2)]
  exact permIn_all d d' mid b (fun u => R d[x]! u) hm hp (fun k h5 h6 => h x k h1 h2 h5 h6) y h3 h4
/-- What a merge leaves. -/
def Mrg (R : α → α → Prop) (a b : Nat) (d d' : Array α) : Prop := PermIn a b d d' ∧ Srt R a b d'
theorem mrg_left (hT : Trn R) (h2 : Srt R (a + 1) b d) (hc : Tells lt R a (a + 1) b d) {i : Nat} (hi : a + 1 ≤ i) (hib : i ≤ b) (hb : b ≤ d.size) (hb1 : i = a + 1 ∨ lt d[i - 1]! d[a]! = true) (hb2 : i = b ∨ lt d[i]! d[a]! = false) (hr : IsRot d a (a + 1) i d') : Mrg R a b d d' :=
  ⟨permIn_mono _ _ a i a b (Nat.le_refl _) hib hb (hr.perm (by omega) hi (by omega)), merge_left hT h2 hc hi hib hb1 hb2 hr⟩
theorem mrg_right (hT : Trn R) (h1 : Srt R a m d) (hc : Tells lt R a m (m + 1) d) {i : Nat} (hai : a ≤ i) (him : i ≤ m) (hm : m < d.size) (hb1 : i = a ∨ lt d[m]! d[i - 1]! = false) (hb2 : i = m ∨ lt d[m]! d[i]! = true) (hr : IsRot d i m (m + 1) d') : Mrg R a (m + 1) d d' :=
  ⟨permIn_mono _ _ i (m + 1) a (m + 1) hai (Nat.le_refl _) hm (hr.perm him (by omega) hm), merge_right hT h1 hc hai him hb1 hb2 hr⟩
/-- The state behind the exchange. -/
structure Half (lt : α → α → Bool) (R : α → α → Prop) (a s mid e b : Nat) (d d' : Array α) : Prop where
  perm : PermIn a b d d'
  sep : Sep R a mid b d'
  l1 : Srt R a s d'
  l2 : Srt R s mid d'
  tl : Tells lt R a s mid d'
  r1 : Srt R mid e d'
  r2 : Srt R e b d'
  rt : Tells lt R mid e b d'
theorem Half.of (hT : Trn R) (h1 : Srt R a m d) (h2 : Srt R m b d) (hc : Tells lt R a m b d) {s e mid : Nat} (has : a ≤ s) (hsm : s ≤ m) (hme : m ≤ e) (heb : e ≤ b) (hb : b ≤ d.size) (hmid : mid = s + (e - m))
    (hb1 : (s = a ∨ e = b) ∨ lt d[e]! d[s - 1]! = false) (hb2 : (e = m ∨ s = m) ∨ lt d[e - 1]! d[s]! = true) (hr : IsRot d s m e d') : Half lt R a s mid e b d d' := by
  obtain ⟨k1, ⟨k2, k3, k4⟩, k5, k6, k7⟩ := merge_split hT h1 h2 hc has hsm hme heb hmid hb1 hb2 hr
  exact ⟨permIn_mono _ _ s e a b has heb hb (hr.perm hsm hme (by omega)), k1, k2, k3, k4, k5, k6, k7⟩
/-- Behind the first half's merge. -/
structure Half2 (lt : α → α → Bool) (R : α → α → Prop) (a mid e b : Nat) (d d' : Array α) : Prop where
  perm : PermIn a b d d'
  sep : Sep R a mid b d'
  l : Srt R a mid d'
  r1 : Srt R mid e d'
  r2 : Srt R e b d'
  rt : Tells lt R mid e b d'
theorem Half.merged {s e : Nat} (h : Half lt R a s mid e b d d') (hm : mid ≤ b) (hme : mid ≤ e) (hb : b ≤ d.size) (hk : Mrg R a mid d' d'') : Half2 lt R a mid e b d d'' := by
  obtain ⟨hp, hs⟩ := hk
  have hsz : d'.size = d.size := h.perm.1
  exact ⟨permIn_trans _ _ _ a b h.perm (permIn_mono _ _ a mid a b (Nat.le_refl _) hm (by omega) hp), h.sep.left hp (by omega), hs, h.r1.out hp (.inr (Nat.le_refl _)), h.r2.out hp (.inr hme), h.rt.out hp (.inr (Nat.le_refl _))⟩
theorem Half.still {s e : Nat} (h : Half lt R a s mid e b d d') (hs : ¬ a < s ∨ ¬ s < mid) (has : a ≤ s) (hsm : s ≤ mid) : Half2 lt R a mid e b d d' := by
  refine ⟨h.perm, h.sep, ?_, h.r1, h.r2, h.rt⟩
  rcases hs with hs | hs
  · obtain rfl : a = s := by omega
    exact h.l2
  · obtain rfl : s = mid := by omega
    exact h.l1
theorem Half2.merged {e : Nat} (h : Half2 lt R a mid e b d d') (ham : a ≤ mid) (hb : b ≤ d.size) (hk : Mrg R mid b d' d'') : Mrg R a b d d'' := by
  obtain ⟨hp, hs⟩ := hk
  have hsz : d'.size = d.size := h.perm.1
  exact ⟨permIn_trans _ _ _ a b h.perm (permIn_mono _ _ mid b a b ham (Nat.le_refl _) (by omega) hp), srt_join (h.l.out hp (.inl (Nat.le_refl _))) hs (h.sep.right hp (by omega))⟩
theorem Half2.still {e : Nat} (h : Half2 lt R a mid e b d d') (hs : ¬ mid < e ∨ ¬ e < b) (hme : mid ≤ e) (heb : e ≤ b) : Mrg R a b d d' := by
  refine ⟨h.perm, srt_join h.l ?_ h.sep⟩
  rcases hs with hs | hs
  · obtain rfl : mid = e := by omega
    exact h.r2
  · obtain rfl : e = b := by omega
    exact h.r1
end
end St
end Go.Proofs.YtpmlhgmmobpilaaGreatDoor

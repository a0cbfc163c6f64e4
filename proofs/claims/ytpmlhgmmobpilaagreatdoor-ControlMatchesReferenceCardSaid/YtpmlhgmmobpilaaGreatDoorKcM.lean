/- Texts that the proof needs: StabSymPM. -/
import Derived.Test.YtpmlhgmmobpilaaGreatDoorKcA
import Derived.Test.YtpmlhgmmobpilaaGreatDoorKcB
import Derived.Test.YtpmlhgmmobpilaaGreatDoorKcC
import Derived.Test.YtpmlhgmmobpilaaGreatDoorKcD
import Derived.Test.YtpmlhgmmobpilaaGreatDoorKcE
import Derived.Test.YtpmlhgmmobpilaaGreatDoorKcF
import Derived.Test.YtpmlhgmmobpilaaGreatDoorKcG
import Derived.Test.YtpmlhgmmobpilaaGreatDoorKcH
namespace Go.Proofs.YtpmlhgmmobpilaaGreatDoor
open Go.RowKit Go.Shelf Go.Sort
namespace St
section
variable {α : Type} [Inhabited α] {lt : α → α → Bool} {R : α → α → Prop} {a m b mid : Nat} {d d' d'' : Array α}
theorem isRot_triv {l r : Nat} (h : l = m ∨ m = r) (_hl : l ≤ m) (_hr : m ≤ r) : IsRot d l m r d := by
  refine ⟨rfl, fun k => ?_⟩
  split
  · rcases h with h | h
    · congr 1; omega
    · omega
  · split
    · rcases h with h | h
      · omega
      · congr 1; omega
    · rfl
theorem isRot_up {l k : Nat} (h : IsRot d l (l + 1) (k + 1) d') (hl : l ≤ k) (hk : k + 1 < d.size) : IsRot d l (l + 1) (k + 2) (swp d' k (k + 1)) := by
  obtain ⟨hs, hg⟩ := h
  refine ⟨by rw [swp_size]; exact hs, fun x => ?_⟩
  rw [swp_get _ (by omega) (by omega)]
  by_cases c1 : x = k + 1
  · subst c1
    rw [if_pos rfl, if_neg (by omega), if_pos (by omega), hg, if_neg (by omega), if_pos (by omega)]
    congr 1; omega
  · rw [if_neg c1]
    by_cases c2 : x = k
    · subst c2
      rw [if_pos rfl, hg, if_neg (by omega), if_neg (by omega), if_pos (by omega)]
      congr 1; omega
    · rw [if_neg c2, hg]
      by_cases c3 : l ≤ x ∧ x < k
      · rw [if_pos (by omega), if_pos (by omega)]
      · rw [if_neg (by omega), if_neg (by omega), if_neg (by omega), if_neg (by omega)]
theorem isRot_down {k : Nat} (h : IsRot d (k + 1) m (m + 1) d') (hk : k + 1 ≤ m) (hm : m < d.size) : IsRot d k m (m + 1) (swp d' (k + 1) k) := by
  obtain ⟨hs, hg⟩ := h
  refine ⟨by rw [swp_size]; exact hs, fun x => ?_⟩
  rw [swp_get _ (by omega) (by omega)]
  by_cases c1 : x = k
  · subst c1
    rw [if_pos rfl, if_pos (by omega), hg, if_pos (by omega)]
    congr 1; omega
  · rw [if_neg c1]
    by_cases c2 : x = k + 1
    · subst c2
      rw [if_pos rfl, if_neg (by omega), if_pos (by omega), hg, if_neg (by omega), if_neg (by omega)]
      congr 1; omega
    · rw [if_neg c2, hg]
      by_cases c3 : k + 1 < x ∧ x < m + 1
      · rw [if_neg (by omega), if_pos (by omega), if_neg (by omega), if_pos (by omega)]
      · rw [if_neg (by omega), if_neg (by omega), if_neg (by omega), if_neg (by omega)]
theorem Srt.out (h : Srt R a m d) {l r : Nat} (hp : PermIn l r d d') (ho : m ≤ l ∨ r ≤ a) : Srt R a m d' := fun i j h1 h2 h3 => by
  rw [hp.2.1 i (by omega), hp.2.1 j (by omega)]
  exact h i j h1 h2 h3
theorem Tells.out (h : Tells lt R a m b d) {l r : Nat} (hp : PermIn l r d d') (ho : b ≤ l ∨ r ≤ a) : Tells lt R a m b d' := fun i j h1 h2 h3 h4 => by
  rw [hp.2.1 i (by omega), hp.2.1 j (by omega)]
  exact h i j h1 h2 h3 h4
/-- The two halves are apart. -/
def Sep (R : α → α → Prop) (a mid b : Nat) (d : Array α) : Prop := ∀ x y, a ≤ x → x < mid → mid ≤ y → y < b → R d[x]! d[y]!
theorem Sep.left (h : Sep R a mid b d) (hp : PermIn a mid d d') (hm : mid ≤ d.size) : Sep R a mid b d' := fun x y h1 h2 h3 h4 => by
  rw [hp.2.1 y (.inr h3)]
  exact permIn_all d d' a mid (fun u => R u d[y]!) hm hp (fun k h5 h6 => h k y h5 h6 h3 h4) x h1 h2
theorem Sep.right (h : Sep R a mid b d) (hp : PermIn mid b d d') (hm : b ≤ d.size) : Sep R a mid b d' := fun x y h1 h2 h3 h4 => by
  rw [hp.2.1 x (.inl h2)]
  exact permIn_all d d' mid b (fun u => R d[x]! u) hm hp (fun k h5 h6 => h x k h1 h2 h5 h6) y h3 h4
/-- What a merge leaves. -/
def Mrg (R : α → α → Prop) (a b : Nat) (d d' : Array α) : Prop := PermIn a b d d' ∧ Srt R a b d'
theorem mrg_left (hT : Trn R) (h2 : Srt R (a + 1) b d) (hc : Tells lt R a (a + 1) b d) {i : Nat} (hi : a + 1 ≤ i) (hib : i ≤ b) (hb : b ≤ d.size) (hb1 : i = a + 1 ∨ lt d[i - 1]! d[a]! = true) (hb2 : i = b ∨ lt d[i]! d[a]! = false) (hr : IsRot d a (a + 1) i d') : Mrg R a b d d' :=
  ⟨permIn_mono _ _ a i a b (Nat.le_refl _) hib hb (hr.perm (by omega) hi (by omega)), merge_left hT h2 hc hi hib hb1 hb2 hr⟩
theorem mrg_right (hT : Trn R) (h1 : Srt R a m d) (hc : Tells lt R a m (m + 1) d) {i : Nat} (hai : a ≤ i) (him : i ≤ m) (hm : m < d.size) (hb1 : i = a ∨ lt d[m]! d[i - 1]! = false) (hb2 : i = m ∨ lt d[m]! d[i]! = true) (hr : IsRot d i m (m + 1) d') : Mrg R a (m + 1) d d' :=
  ⟨permIn_mono _ _ i (m + 1) a (m + 1) hai (Nat.le_refl _) hm (hr.perm him (by omega) hm), merge_right hT h1 hc hai him hb1 hb2 hr⟩
/-- The state behind the exchange. -/
structure Half (lt : α → α → Bool) (R : α → α → Prop) (a s mid e b : Nat) (d d' : Array α) : Prop where
  perm : PermIn a b d d'
  sep : Sep R a mid b d'
  l1 : Srt R a s d'
  l2 : Srt R s mid d'
  tl : Tells lt R a s mid d'
  r1 : Srt R mid e d'
  r2 : Srt R e b d'
  rt : Tells lt R mid e b d'
theorem Half.of (hT : Trn R) (h1 : Srt R a m d) (h2 : Srt R m b d) (hc : Tells lt R a m b d) {s e mid : Nat} (has : a ≤ s) (hsm : s ≤ m) (hme : m ≤ e) (heb : e ≤ b) (hb : b ≤ d.size) (hmid : mid = s + (e - m))
    (hb1 : (s = a ∨ e = b) ∨ lt d[e]! d[s - 1]! = false) (hb2 : (e = m ∨ s = m) ∨ lt d[e - 1]! d[s]! = true) (hr : IsRot d s m e d') : Half lt R a s mid e b d d' := by
  obtain ⟨k1, ⟨k2, k3, k4⟩, k5, k6, k7⟩ := merge_split hT h1 h2 hc has hsm hme heb hmid hb1 hb2 hr
  exact ⟨permIn_mono _ _ s e a b has heb hb (hr.perm hsm hme (by omega)), k1, k2, k3, k4, k5, k6, k7⟩
/-- Behind the first half's merge. -/
structure Half2 (lt : α → α → Bool) (R : α → α → Prop) (a mid e b : Nat) (d d' : Array α) : Prop where
  perm : PermIn a b d d'
  sep : Sep R a mid b d'
  l : Srt R a mid d'
  r1 : Srt R mid e d'
  r2 : Srt R e b d'
  rt : Tells lt R mid e b d'
theorem Half.merged {s e : Nat} (h : Half lt R a s mid e b d d') (hm : mid ≤ b) (hme : mid ≤ e) (hb : b ≤ d.size) (hk : Mrg R a mid d' d'') : Half2 lt R a mid e b d d'' := by
  obtain ⟨hp, hs⟩ := hk
  have hsz : d'.size = d.size := h.perm.1
  exact ⟨permIn_trans _ _ _ a b h.perm (permIn_mono _ _ a mid a b (Nat.le_refl _) hm (by omega) hp), h.sep.left hp (by omega), hs, h.r1.out hp (.inr (Nat.le_refl _)), h.r2.out hp (.inr hme), h.rt.out hp (.inr (Nat.le_refl _))⟩
theorem Half.still {s e : Nat} (h : Half lt R a s mid e b d d') (hs : ¬ a < s ∨ ¬ s < mid) (has : a ≤ s) (hsm : s ≤ mid) : Half2 lt R a mid e b d d' := by
  refine ⟨h.perm, h.sep, ?_, h.r1, h.r2, h.rt⟩
  rcases hs with hs | hs
  · obtain rfl : a = s := by omega
    exact h.l2
  · obtain rfl : s = mid := by omega
    exact h.l1
theorem Half2.merged {e : Nat} (h : Half2 lt R a mid e b d d') (ham : a ≤ mid) (hb : b ≤ d.size) (hk : Mrg R mid b d' d'') : Mrg R a b d d'' := by
  obtain ⟨hp, hs⟩ := hk
  have hsz : d'.size = d.size := h.perm.1
  exact ⟨permIn_trans _ _ _ a b h.perm (permIn_mono _ _ mid b a b ham (Nat.le_refl _) (by omega) hp), srt_join (h.l.out hp (.inl (Nat.le_refl _))) hs (h.sep.right hp (by omega))⟩
theorem Half2.still {e : Nat} (h : Half2 lt R a mid e b d d') (hs : ¬ mid < e ∨ ¬ e < b) (hme : mid ≤ e) (heb : e ≤ b) : Mrg R a b d d' := by
  refine ⟨h.perm, srt_join h.l ?_ h.sep⟩
  rcases hs with hs | hs
  · obtain rfl : mid = e := by omega
    exact h.r2
  · obtain rfl : e = b := by omega
    exact h.r1
end
end St
end Go.Proofs.YtpmlhgmmobpilaaGreatDoor

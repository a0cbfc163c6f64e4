/- The blocks of Go's stable sort: plain laws. -/
import Derived.Test.YtmekiidknjjfcaaGreatDoorStabSymPM
namespace Go.Proofs.YtmekiidknjjfcaaGreatDoor
open Go.RowKit Go.Shelf Go.Sort
namespace St
section
variable {α : Type} {key : α → Int} {pos : α → Nat}
/-- Not behind. -/
def Lek (key : α → Int) (pos : α → Nat) (x y : α) : Prop := kLt key pos y x = false
theorem lek_iff {x y : α} : Lek key pos x y ↔ key x < key y ∨ (key x = key y ∧ pos x ≤ pos y) := by
  unfold Lek kLt
  rw [decide_eq_false_iff_not]
  omega
theorem lek_trn : Trn (Lek key pos) := fun x y z h1 h2 => by
  rw [lek_iff] at h1 h2 ⊢
  omega
end
section
variable {α : Type} [Inhabited α] {key : α → Int} {pos : α → Nat} {lt : α → α → Bool} {d d' d0 : Array α} {n a b B : Nat}
/-- While the blocks of 20 are put in order. -/
structure InSt (key : α → Int) (pos : α → Nat) (n a : Nat) (d0 d : Array α) : Prop where
  perm : PermIn 0 n d0 d
  sz : d.size = n
  sep : ∀ i j, i / 20 < j / 20 → j < n → pos d[i]! < pos d[j]!
  asc : ∀ i j, a ≤ i → i < j → j < n → pos d[i]! < pos d[j]!
  done : ∀ i j, i < j → j < a → j < n → i / 20 = j / 20 → Lek key pos d[i]! d[j]!
/-- While blocks of B are merged. -/
structure BSt (key : α → Int) (pos : α → Nat) (B n a : Nat) (d0 d : Array α) : Prop where
  perm : PermIn 0 n d0 d
  sz : d.size = n
  sep2 : ∀ i j, i / (2 * B) < j / (2 * B) → j < n → pos d[i]! < pos d[j]!
  sep : ∀ i j, a ≤ i → i / B < j / B → j < n → pos d[i]! < pos d[j]!
  srt : ∀ i j, a ≤ i → i < j → j < n → i / B = j / B → Lek key pos d[i]! d[j]!
  done : ∀ i j, i < j → j < a → j < n → i / (2 * B) = j / (2 * B) → Lek key pos d[i]! d[j]!
theorem InSt.start (hs : d.size = n) (h : ∀ i j, i < j → j < n → pos d[i]! < pos d[j]!) : InSt key pos n 0 d d :=
  ⟨permIn_refl _ _ _, hs, fun i j h1 h2 => h i j (by omega) h2, fun i j _ h1 h2 => h i j h1 h2, fun i j _ h1 _ _ => absurd h1 (Nat.not_lt_zero _)⟩
/-- A relation of all pairs of two parts is kept where one of them is laid anew. -/
theorem pair_perm {P : α → α → Prop} (hp : PermIn a b d d') (hb : b ≤ d.size) {i j : Nat} (hij : ¬ (a ≤ i ∧ i < b ∧ a ≤ j ∧ j < b)) (h : ∀ i' j', (i' = i ∨ (a ≤ i ∧ i < b ∧ a ≤ i' ∧ i' < b)) → (j' = j ∨ (a ≤ j ∧ j < b ∧ a ≤ j' ∧ j' < b)) → P d[i']! d[j']!) : P d'[i]! d'[j]! := by
  by_cases ci : a ≤ i ∧ i < b
  · have ej : d'[j]! = d[j]! := hp.2.1 j (by omega)
    rw [ej]
    exact permIn_all d d' a b (fun u => P u d[j]!) hb hp (fun k h1 h2 => h k j (.inr ⟨ci.1, ci.2, h1, h2⟩) (.inl rfl)) i ci.1 ci.2
  · have ei : d'[i]! = d[i]! := hp.2.1 i (by omega)
    rw [ei]
    by_cases cj : a ≤ j ∧ j < b
    · exact permIn_all d d' a b (fun u => P d[i]! u) hb hp (fun k h1 h2 => h i k (.inl rfl) (.inr ⟨cj.1, cj.2, h1, h2⟩)) j cj.1 cj.2
    · have ej : d'[j]! = d[j]! := hp.2.1 j (by omega)
      rw [ej]
      exact h i j (.inl rfl) (.inl rfl)
theorem InSt.step (h : InSt key pos n a d0 d) (ha : a % 20 = 0) (hab : a ≤ b) (hb : b ≤ n) (hb2 : b ≤ a + 20) (hp : PermIn a b d d') (hs : SortedIn (kLt key pos) a b d') (_hbl : b = a + 20 ∨ b = n) : InSt key pos n b d0 d' := by
  have hsz := h.sz
  refine ⟨permIn_trans _ _ _ 0 n h.perm (permIn_mono _ _ a b 0 n (Nat.zero_le _) hb (by omega) hp), hp.1.trans hsz, fun i j h1 h2 => ?_, fun i j h1 h2 h3 => ?_, fun i j h1 h2 h3 h4 => ?_⟩
  · refine pair_perm (P := fun x y => pos x < pos y) hp (by omega) (by omega) fun i' j' hi hj => h.sep i' j' ?_ ?_
    · omega
    · omega
  · rw [hp.2.1 i (.inr h1), hp.2.1 j (.inr (by omega))]
    exact h.asc i j (by omega) h2 h3
  · by_cases c : j < a
    · rw [hp.2.1 i (.inl (by omega)), hp.2.1 j (.inl c)]
      exact h.done i j h1 c h3 h4
    · exact hs i j (by omega) h1 h2
theorem InSt.toB (h : InSt key pos n n d0 d) : BSt key pos 20 n 0 d0 d :=
  ⟨h.perm, h.sz, fun i j h1 h2 => h.sep i j (by omega) h2, fun i j _ h1 h2 => h.sep i j h1 h2, fun i j _ h1 h2 h3 => h.done i j h1 h2 h2 h3, fun i j _ h1 _ _ => absurd h1 (Nat.not_lt_zero _)⟩
theorem BSt.parts (h : BSt key pos B n a d0 d) (hB : B = 20 ∨ B = 40) (ha : a % (2 * B) = 0) (hm : a + B < b) (hb : b ≤ n) (hb2 : b ≤ a + 2 * B) (hlt : ∀ x y, lt x y = decide (key x < key y)) : Srt (Lek key pos) a (a + B) d ∧ Srt (Lek key pos) (a + B) b d ∧ Tells lt (Lek key pos) a (a + B) b d := by
  rcases hB with rfl | rfl
  all_goals
    refine ⟨fun i j h1 h2 h3 => h.srt i j h1 h2 (by omega) (by omega), fun i j h1 h2 h3 => h.srt i j (by omega) h2 (by omega) (by omega), fun i j h1 h2 h3 h4 => ?_⟩
    have hpos := h.sep i j h1 (by omega) (by omega)
    rw [hlt, decide_eq_true_iff, decide_eq_false_iff_not, lek_iff, lek_iff]
    omega
theorem BSt.step (h : BSt key pos B n a d0 d) (hB : B = 20 ∨ B = 40) (ha : a % (2 * B) = 0) (hm : a + B < b) (hb : b ≤ n) (hb2 : b ≤ a + 2 * B) (hbl : b = a + 2 * B ∨ b = n) (hM : Mrg (Lek key pos) a b d d') : BSt key pos B n (a + 2 * B) d0 d' := by
  have hsz := h.sz
  obtain ⟨hp, hs⟩ := hM
  refine ⟨permIn_trans _ _ _ 0 n h.perm (permIn_mono _ _ a b 0 n (Nat.zero_le _) hb (by omega) hp), hp.1.trans hsz, fun i j h1 h2 => ?_, fun i j h1 h2 h3 => ?_, fun i j h1 h2 h3 h4 => ?_, fun i j h1 h2 h3 h4 => ?_⟩
  · refine pair_perm (P := fun x y => pos x < pos y) hp (by omega) ?_ fun i' j' hi hj => h.sep2 i' j' ?_ ?_
    · rcases hB with rfl | rfl <;> omega
    · rcases hB with rfl | rfl <;> omega
    · omega
  · have hj : b ≤ j := by rcases hB with rfl | rfl <;> omega
    rw [hp.2.1 i (.inr (by omega)), hp.2.1 j (.inr hj)]
    exact h.sep i j (by omega) h2 h3
  · rw [hp.2.1 i (.inr (by omega)), hp.2.1 j (.inr (by omega))]
    exact h.srt i j (by omega) h2 h3 h4
  · by_cases c : j < a
    · rw [hp.2.1 i (.inl (by omega)), hp.2.1 j (.inl c)]
      exact h.done i j h1 c h3 h4
    · refine hs i j ?_ h1 (by omega)
      rcases hB with rfl | rfl <;> omega
theorem BSt.next (h : BSt key pos B n a d0 d) (hB : B = 20 ∨ B = 40) (ha : a % (2 * B) = 0) (hn : n ≤ a + B) : BSt key pos (2 * B) n 0 d0 d := by
  refine ⟨h.perm, h.sz, fun i j h1 h2 => h.sep2 i j ?_ h2, fun i j _ h1 h2 => h.sep2 i j h1 h2, fun i j _ h1 h2 h3 => ?_, fun i j _ h1 _ _ => absurd h1 (Nat.not_lt_zero _)⟩
  · rcases hB with rfl | rfl <;> omega
  · by_cases c : j < a
    · exact h.done i j h1 c h2 h3
    · refine h.srt i j ?_ h1 h2 ?_
      · rcases hB with rfl | rfl <;> omega
      · rcases hB with rfl | rfl <;> omega
theorem BSt.last (h : BSt key pos B n 0 d0 d) (hn : n ≤ B) : PermIn 0 n d0 d ∧ SortedIn (kLt key pos) 0 n d :=
  ⟨h.perm, fun i j h1 h2 h3 => h.srt i j h1 h2 h3 (by rw [Nat.div_eq_of_lt (by omega), Nat.div_eq_of_lt (by omega)])⟩
theorem ins_ok (h : InSt key pos n a d0 d) (hb : b ≤ n) (hab : a ≤ b) (hlt : ∀ x y, lt x y = decide (key x < key y)) : PermIn a b d (insertionSort lt d a b) ∧ SortedIn (kLt key pos) a b (insertionSort lt d a b) := by
  have e : insertionSort lt d a b = insertionSort (kLt key pos) d a b := by
    refine insertionSort_eq (by have := h.sz; omega) fun k j h1 h2 h3 => ?_
    have hpos := h.asc k j h1 h2 (by omega)
    rw [hlt]
    show decide _ = decide _
    rw [decide_eq_decide]
    omega
  rw [e]
  exact insertionSort_holds (kLt_swo key pos) d a b hab (by have := h.sz; omega)
end
end St
end Go.Proofs.YtmekiidknjjfcaaGreatDoor

/- Texts that the proof needs: CoG, MonSplitP, MonSort, MonSplit, MonInts, MonHead, MonRSplitP, MonRSplit, RatDuo, RatShow, NatBytes, RefA. -/
import Derived.ProofKit
import Derived.Deep.QuietTactic
import Derived.BigQuiet
import Derived.Laws.ResultCell
import Derived.IntWalk
import Derived.Laws.BytesArg
import Derived.Laws.OwnMore
import Derived.WalkLawsBesides
import Derived.WalkSpells
import Derived.Deep.OwnRows
import Derived.StillTailTactics
import Derived.RegionTactic
import Derived.Deep.LoopGhost
import Derived.Test.YtpmlhgmmobpilaaGreatDoorKvA
import Derived.Test.YtpmlhgmmobpilaaGreatDoorKvB
import Derived.Test.YtpmlhgmmobpilaaGreatDoorKvC
import Derived.Test.YtpmlhgmmobpilaaGreatDoorKvD
namespace Go.Proofs.YtpmlhgmmobpilaaGreatDoor
open Go.RowKit Go.Shelf Go.Sort
namespace St
section
variable {α : Type} {key : α → Int} {pos : α → Nat}
/-- Not behind. -/
def Lek (key : α → Int) (pos : α → Nat) (x y : α) : Prop := kLt key pos y x = false
theorem lek_iff {x y : α} : Lek key pos x y ↔ key x < key y ∨ (key x = key y ∧ pos x ≤ pos y) := by
  unfold Lek kLt
  rw [decide_eq_false_iff_not]
  omega
theorem lek_trn : Trn (Lek key pos) := fun x y z h1 h2 => by
  rw [lek_iff] at h1 h2 ⊢
  omega
end
section
variable {α : Type} [Inhabited α] {key : α → Int} {pos : α → Nat} {lt : α → α → Bool} {d d' d0 : Array α} {n a b B : Nat}
/-- While the blocks of 20 are put in order. -/
structure InSt (key : α → Int) (pos : α → Nat) (n a : Nat) (d0 d : Array α) : Prop where
  perm : PermIn 0 n d0 d
  sz : d.size = n
  sep : ∀ i j, i / 20 < j / 20 → j < n → pos d[i]! < pos d[j]!
  asc : ∀ i j, a ≤ i → i < j → j < n → pos d[i]! < pos d[j]!
  done : ∀ i j, i < j → j < a → j < n → i / 20 = j / 20 → Lek key pos d[i]! d[j]!
/-- While blocks of B are merged. -/
structure BSt (key : α → Int) (pos : α → Nat) (B n a : Nat) (d0 d : Array α) : Prop where
  perm : PermIn 0 n d0 d
  sz : d.size = n
  sep2 : ∀ i j, i / (2 * B) < j / (2 * B) → j < n → pos d[i]! < pos d[j]!
  sep : ∀ i j, a ≤ i → i / B < j / B → j < n → pos d[i]! < pos d[j]!
  srt : ∀ i j, a ≤ i → i < j → j < n → i / B = j / B → Lek key pos d[i]! d[j]!
  done : ∀ i j, i < j → j < a → j < n → i / (2 * B) = j / (2 * B) → Lek key pos d[i]! d[j]!
theorem InSt.start (hs : d.size = n) (h : ∀ i j, i < j → j < n → pos d[i]! < pos d[j]!) : InSt key pos n 0 d d :=
  ⟨permIn_refl _ _ _, hs, fun i j h1 h2 => h i j (by omega) h2, fun i j _ h1 h2 => h i j h1 h2, fun i j _ h1 _ _ => absurd h1 (Nat.not_lt_zero _)⟩
/-- A relation of all pairs of two parts is kept where one of them is laid anew. -/
theorem pair_perm {P : α → α → Prop} (hp : PermIn a b d d') (hb : b ≤ d.size) {i j : Nat} (hij : ¬ (a ≤ i ∧ i < b ∧ a ≤ j ∧ j < b)) (h : ∀ i' j', (i' = i ∨ (a ≤ i ∧ i < b ∧ a ≤ i' ∧ i' < b)) → (j' = j ∨ (a ≤ j ∧ j < b ∧ a ≤ j' ∧ j' < b)) → P d[i']! d[j']!) : P d'[i]! d'[j]! := by
  by_cases ci : a ≤ i ∧ i < b
  · have ej : d'[j]! = d[j]! := hp.2.1 j (by omega)
    rw [ej]
    exact permIn_all d d' a b (fun u => P u d[j]!) hb hp (fun k h1 h2 => h k j (.inr ⟨ci.1, ci.2, h1, h2⟩) (.inl rfl)) i ci.1 ci.2
  · have ei : d'[i]! = d[i]! := hp.2.1 i (by omega)
    rw [ei]
    by_cases cj : a ≤ j ∧ j < b
    · exact permIn_all d d' a b (fun u => P d[i]! u) hb hp (fun k h1 h2 => h i k (.inl rfl) (.inr ⟨cj.1, cj.2, h1, h2⟩)) j cj.1 cj.2
    · have ej : d'[j]! = d[j]! := hp.2.1 j (by omega)
      rw [ej]
      exact h i j (.inl rfl) (.inl rfl)
theorem InSt.step (h : InSt key pos n a d0 d) (ha : a % 20 = 0) (hab : a ≤ b) (hb : b ≤ n) (hb2 : b ≤ a + 20) (hp : PermIn a b d d') (hs : SortedIn (kLt key pos) a b d') (_hbl : b = a + 20 ∨ b = n) : InSt key pos n b d0 d' := by
  have hsz := h.sz
  refine ⟨permIn_trans _ _ _ 0 n h.perm (permIn_mono _ _ a b 0 n (Nat.zero_le _) hb (by omega) hp), hp.1.trans hsz, fun i j h1 h2 => ?_, fun i j h1 h2 h3 => ?_, fun i j h1 h2 h3 h4 => ?_⟩
  · refine pair_perm (P := fun x y => pos x < pos y) hp (by omega) (by omega) fun i' j' hi hj => h.sep i' j' ?_ ?_
    · omega
    · omega
  · rw [hp.2.1 i (.inr h1), hp.2.1 j (.inr (by omega))]
    exact h.asc i j (by omega) h2 h3
  · by_cases c : j < a
    · rw [hp.2.1 i (.inl (by omega)), hp.2.1 j (.inl c)]
      exact h.done i j h1 c h3 h4
    · exact hs i j (by omega) h1 h2
theorem InSt.toB (h : InSt key pos n n d0 d) : BSt key pos 20 n 0 d0 d :=
  ⟨h.perm, h.sz, fun i j h1 h2 => h.sep i j (by omega) h2, fun i j _ h1 h2 => h.sep i j h1 h2, fun i j _ h1 h2 h3 => h.done i j h1 h2 h2 h3, fun i j _ h1 _ _ => absurd h1 (Nat.not_lt_zero _)⟩
theorem BSt.parts (h : BSt key pos B n a d0 d) (hB : B = 20 ∨ B = 40) (ha : a % (2 * B) = 0) (hm : a + B < b) (hb : b ≤ n) (hb2 : b ≤ a + 2 * B) (hlt : ∀ x y, lt x y = decide (key x < key y)) : Srt (Lek key pos) a (a + B) d ∧ Srt (Lek key pos) (a + B) b d ∧ Tells lt (Lek key pos) a (a + B) b d := by
  rcases hB with rfl | rfl
  all_goals
    refine ⟨fun i j h1 h2 h3 => h.srt i j h1 h2 (by omega) (by omega), fun i j h1 h2 h3 => h.srt i j (by omega) h2 (by omega) (by omega), fun i j h1 h2 h3 h4 => ?_⟩
    have hpos := h.sep i j h1 (by omega) (by omega)
    rw [hlt, decide_eq_true_iff, decide_eq_false_iff_not, lek_iff, lek_iff]
    omega
theorem BSt.step (h : BSt key pos B n a d0 d) (hB : B = 20 ∨ B = 40) (ha : a % (2 * B) = 0) (hm : a + B < b) (hb : b ≤ n) (hb2 : b ≤ a + 2 * B) (hbl : b = a + 2 * B ∨ b = n) (hM : Mrg (Lek key pos) a b d d') : BSt key pos B n (a + 2 * B) d0 d' := by
  have hsz := h.sz
  obtain ⟨hp, hs⟩ := hM
  refine ⟨permIn_trans _ _ _ 0 n h.perm (permIn_mono _ _ a b 0 n (Nat.zero_le _) hb (by omega) hp), hp.1.trans hsz, fun i j h1 h2 => ?_, fun i j h1 h2 h3 => ?_, fun i j h1 h2 h3 h4 => ?_, fun i j h1 h2 h3 h4 => ?_⟩
  · refine pair_perm (P := fun x y => pos x < pos y) hp (by omega) ?_ fun i' j' hi hj => h.sep2 i' j' ?_ ?_
    · rcases hB with rfl | rfl <;> omega
    · rcases hB with rfl | rfl <;> omega
    · omega
  · have hj : b ≤ j := by rcases hB with rfl | rfl <;> omega
    rw [hp.2.1 i (.inr (by omega)), hp.2.1 j (.inr hj)]
    exact h.sep i j (by omega) h2 h3
  · rw [hp.2.1 i (.inr (by omega)), hp.2.1 j (.inr (by omega))]
    exact h.srt i j (by omega) h2 h3 h4
  · by_cases c : j < a
    · rw [hp.2.1 i (.inl (by omega)), hp.2.1 j (.inl c)]
      exact h.done i j h1 c h3 h4
    · refine hs i j ?_ h1 (by omega)
      rcases hB with rfl | rfl <;> omega
theorem BSt.next (h : BSt key pos B n a d0 d) (hB : B = 20 ∨ B = 40) (ha : a % (2 * B) = 0) (hn : n ≤ a + B) : BSt key pos (2 * B) n 0 d0 d := by
  refine ⟨h.perm, h.sz, fun i j h1 h2 => h.sep2 i j ?_ h2, fun i j _ h1 h2 => h.sep2 i j h1 h2, fun i j _ h1 h2 h3 => ?_, fun i j _ h1 _ _ => absurd h1 (Nat.not_lt_zero _)⟩
  · rcases hB with rfl | rfl <;> omega
  · by_cases c : j < a
    · exact h.done i j h1 c h2 h3
    · refine h.srt i j ?_ h1 h2 ?_
      · rcases hB with rfl | rfl <;> omega
      · rcases hB with rfl | rfl <;> omega
theorem BSt.last (h : BSt key pos B n 0 d0 d) (hn : n ≤ B) : PermIn 0 n d0 d ∧ SortedIn (kLt key pos) 0 n d :=
  ⟨h.perm, fun i j h1 h2 h3 => h.srt i j h1 h2 h3 (by rw [Nat.div_eq_of_lt (by omega), Nat.div_eq_of_lt (by omega)])⟩
theorem ins_ok (h : InSt key pos n a d0 d) (hb : b ≤ n) (hab : a ≤ b) (hlt : ∀ x y, lt x y = decide (key x < key y)) : PermIn a b d (insertionSort lt d a b) ∧ SortedIn (kLt key pos) a b (insertionSort lt d a b) := by
  have e : insertionSort lt d a b = insertionSort (kLt key pos) d a b := by
    refine insertionSort_eq (by have := h.sz; omega) fun k j h1 h2 h3 => ?_
    have hpos := h.asc k j h1 h2 (by omega)
    rw [hlt]
    show decide _ = decide _
    rw [decide_eq_decide]
    omega
  rw [e]
  exact insertionSort_holds (kLt_swo key pos) d a b hab (by have := h.sz; omega)
end
end St
end Go.Proofs.YtpmlhgmmobpilaaGreatDoor
namespace Go.Proofs.YtpmlhgmmobpilaaGreatDoor
open Go.RowKit Go.Shelf Go.Sort
namespace St
open Nt Ci
set_option maxRecDepth 100000 in
set_option maxHeartbeats 8000000 in
theorem stable_any {α : Type} [Inhabited α] (nm : α → Nat) (cf : α → α → Int) (g : Nat) (cb : Array Value) (eg : ∀ args w, (callFunc g args).run Tryz.prog w = .ok (.enter g args) w) (key : α → Int) (pos : α → Nat) (hlt : ∀ x y, ltOf cf x y = decide (key x < key y)) (bl cap n : Nat) (d : Array α) (w : World) (HC : CmpOn Tryz.prog g cb nm cf bl w) (hR : Ro nm w bl d) (hn : d.size = n) (hn80 : n < 80) (hasc : ∀ i j, i < j → j < n → pos d[i]! < pos d[j]!) :
    Calls Tryz.prog 108 #[.slice (some ⟨bl, 0, none⟩) n cap, .int .i64 (n : Int), .func (.func g) #[] cb] w fun e w' => e = .returned (.tuple #[]) ∧ (∃ d', (PermIn 0 n d d' ∧ SortedIn (kLt key pos) 0 n d') ∧ Ro nm w' bl d') ∧ Kp [bl] w w' := by
  have hI0 : Hid (InSt key pos n 0 d d) := InSt.start hn hasc
  have ki : Hid (∀ (a b : Nat) (D : Array α) (W : World), InSt key pos n a d D → Kp [bl] w W → Ro nm W bl D → a ≤ b → b ≤ n → Calls Tryz.prog 143 #[.slice (some ⟨bl, 0, none⟩) n cap, .int .i64 (a : Int), .int .i64 (b : Int), .func (.func g) #[] cb] W fun e w' => e = .returned (.tuple #[]) ∧ (∃ D', (PermIn a b D D' ∧ SortedIn (kLt key pos) a b D') ∧ Ro nm w' bl D') ∧ Kp [bl] W w') := fun a b D W hI hK hO hab hb => by
    have hD := hI.sz
    have h := ins_any nm cf g cb eg bl cap a b D w W hK HC hO hab (by omega) (by omega)
    rw [hD] at h
    exact h.mono fun e w' h => ⟨h.1, ⟨_, ins_ok hI hb hab hlt, h.2.1⟩, h.2.2⟩
  have ks : Hid (∀ (B a b : Nat) (D : Array α) (W : World), (B = 20 ∨ B = 40) → BSt key pos B n a d D → Kp [bl] w W → Ro nm W bl D → a % (2 * B) = 0 → a + B < b → b ≤ n → b ≤ a + 2 * B → Calls Tryz.prog 144 #[.slice (some ⟨bl, 0, none⟩) n cap, .int .i64 (a : Int), .int .i64 ((a + B : Nat) : Int), .int .i64 (b : Int), .func (.func g) #[] cb] W (SymPost nm (Lek key pos) bl a b D W)) := fun B a b D W hB hI hK hO ha hab hb hb2 => by
    have hD := hI.sz
    obtain ⟨p1, p2, p3⟩ := hI.parts (lt := ltOf cf) hB ha hab hb hb2 hlt
    have h := sym_any nm cf g cb eg (Lek key pos) lek_trn bl cap w HC (b - a) a (a + B) b D W (Nat.le_refl _) hK hO (by omega) (by omega) (by omega) (by omega) p1 p2 p3
    rwa [hD] at h
  replace hR := Lib.hid hR
  replace hlt := Lib.hid hlt
  clear hasc HC
  replace hn := Lib.hid hn
  go_enter Tryz.func108, Tryz.ntmps108
  go_wp2
  go_loopw [7, 8] (fun ax bx wr => ∃ (a : Nat) (D : Array α), a ≤ n ∧ a % 20 = 0 ∧ ax = .int .i64 (a : Int) ∧ bx = .int .i64 ((a + 20 : Nat) : Int) ∧ Hid (InSt key pos n a d D) ∧ Hid (Ro nm wr bl D) ∧ Hid (Kp [bl] w wr)) (fun ax _ _ => n - (intOf ax).toNat)
  case atStart => exact ⟨0, d, Nat.zero_le _, rfl, rfl, rfl, hI0, hR, Kp.refl _ _⟩
  case round =>
    obtain ⟨a, D, han, ha, rfl, rfl, hI, hO, hK⟩ := hrel
    by_cases hab : a + 20 ≤ n
    · have t1 : decide (((a + 20 : Nat) : Int) ≤ (n : Int)) = true := decide_eq_true (by omega)
      have kc := Lib.hid (ki.out a (a + 20) D wr hI.out hK.out hO.out (by omega) hab)
      obtain ⟨b, hb⟩ : ∃ b, b = a + 20 := ⟨_, rfl⟩
      rw [← hb] at t1 kc ⊢
      have t1n : decide (b ≤ n) = true := decide_eq_true (by omega)
      have hb9 : b ≤ 100 := by omega
      replace hb := Lib.hid hb
      go_wp2_with fail
      refine kc.out.mono ?_
      rintro e w2 ⟨rfl, ⟨D2, hM, hO2⟩, hK2⟩
      have hI2 : Hid (InSt key pos n b d D2) := hI.out.step ha (by have := hb.out; omega) (by have := hb.out; omega) (by have := hb.out; omega) hM.1 hM.2 (.inl hb.out)
      replace hO2 := Lib.hid hO2
      replace hK2 := Lib.hid (kp_trans hK.out hK2)
      clear hM kc hI hO hK
      go_wp2
      exact ⟨⟨b, D2, by have := hb.out; omega, by have := hb.out; omega, by first | rfl | trivial, by go_num, hI2, hO2, hK2⟩, by have := hb.out; simp only [intOf]; omega⟩
    · have t1 : decide (((a + 20 : Nat) : Int) ≤ (n : Int)) = false := decide_eq_false (by omega)
      have kc := Lib.hid (ki.out a n D wr hI.out hK.out hO.out han (Nat.le_refl _))
      obtain ⟨b, hb⟩ : ∃ b, b = a + 20 := ⟨_, rfl⟩
      rw [← hb] at t1 ⊢
      have t1n : decide (b ≤ n) = false := decide_eq_false (by omega)
      have hb9 : b ≤ 100 := by omega
      replace hb := Lib.hid hb
      replace hab := Lib.hid hab
      go_wp2_with fail
      refine kc.out.mono ?_
      rintro e w2 ⟨rfl, ⟨D2, hM, hO2⟩, hK2⟩
      have hI2 : Hid (InSt key pos n n d D2) := hI.out.step ha han (Nat.le_refl _) (by have := hab.out; omega) hM.1 hM.2 (.inr rfl)
      have hB2 : Hid (BSt key pos 20 n 0 d D2) := hI2.out.toB
      replace hO2 := Lib.hid hO2
      replace hK2 := Lib.hid (kp_trans hK.out hK2)
      clear hM kc hI hO hK hI2
      go_wp2
      go_loopw [6] (fun Bx wr => ∃ (B : Nat) (D : Array α), (B = 20 ∨ B = 40 ∨ B = 80) ∧ Bx = .int .i64 (B : Int) ∧ Hid (BSt key pos B n 0 d D) ∧ Hid (Ro nm wr bl D) ∧ Hid (Kp [bl] w wr)) (fun Bx _ => 80 - (intOf Bx).toNat)
      case atStart => exact ⟨20, D2, .inl rfl, rfl, hB2, hO2, hK2⟩
      case round =>
        obtain ⟨B, D3, hB, rfl, hI3, hO3, hK3⟩ := hrel
        by_cases hBn : B < n
        · have hB4 : B = 20 ∨ B = 40 := by omega
          have t2 : decide ((B : Int) < (n : Int)) = true := decide_eq_true (by omega)
          have t2n : decide (B < n) = true := decide_eq_true hBn
          have hb20 : 20 ≤ B := by omega
          have hb40 : B ≤ 40 := by omega
          replace hB := Lib.hid hB
          replace hB4 := Lib.hid hB4
          go_wp2
          go_loopw [7, 8] (fun ax bx wr => ∃ (a : Nat) (D : Array α), a ≤ n ∧ Hid (a % (2 * B) = 0) ∧ ax = .int .i64 (a : Int) ∧ bx = .int .i64 ((a + 2 * B : Nat) : Int) ∧ Hid (BSt key pos B n a d D) ∧ Hid (Ro nm wr bl D) ∧ Hid (Kp [bl] w wr)) (fun ax _ _ => n - (intOf ax).toNat)
          case atStart => exact ⟨0, D3, Nat.zero_le _, Nat.zero_mod _, rfl, by go_num, hI3, hO3, hK3⟩
          case round =>
            obtain ⟨a, D4, han, ha, rfl, rfl, hI4, hO4, hK4⟩ := hrel
            obtain ⟨b, hb⟩ : ∃ b, b = a + 2 * B := ⟨_, rfl⟩
            rw [← hb]
            by_cases hbn : b ≤ n
            · have kc := Lib.hid (ks.out B a b D4 wr hB4.out hI4.out hK4.out hO4.out ha.out (by omega) hbn (by omega))
              have t3 : decide ((b : Int) ≤ (n : Int)) = true := decide_eq_true (by omega)
              have t3n : decide (b ≤ n) = true := decide_eq_true hbn
              have hb9 : b ≤ 200 := by omega
              have ha2 : Hid (b % (2 * B) = 0) := by show _ = _; rw [hb, Nat.add_mod, ha.out]; simp
              rw [show ((a + B : Nat) : Int) = (a : Int) + (B : Int) by omega] at kc
              have hbN : Hid (a ≤ n ∧ b = a + 2 * B ∧ b ≤ n) := ⟨han, hb, hbn⟩
              clear hb
              go_wp2_with fail
              refine kc.out.mono ?_
              rintro e w5 ⟨rfl, ⟨D5, hM, hO5⟩, hK5⟩
              have hI5 : Hid (BSt key pos B n b d D5) := by
                have h := hI4.out.step hB4.out ha.out (b := b) (by have := hbN.out; omega) hbn (by have := hbN.out; omega) (.inl hbN.out.2.1) hM
                rw [← hbN.out.2.1] at h
                exact h
              replace hO5 := Lib.hid hO5
              replace hK5 := Lib.hid (kp_trans hK4.out hK5)
              clear hM kc hI4 hO4 hK4
              go_wp2
              exact ⟨⟨b, D5, hbn, ha2, by first | rfl | trivial, by go_num, hI5, hO5, hK5⟩, by have := hbN.out; simp only [intOf]; omega⟩
            · have t3 : decide ((b : Int) ≤ (n : Int)) = false := decide_eq_false (by omega)
              have t3n : decide (b ≤ n) = false := decide_eq_false hbn
              obtain ⟨m, hm⟩ : ∃ m, m = a + B := ⟨_, rfl⟩
              have t4 : (a : Int) + (B : Int) = (m : Int) := by omega
              have hm9 : m ≤ 200 := by omega
              by_cases hmn : m < n
              · have kc := Lib.hid (ks.out B a n D4 wr hB4.out hI4.out hK4.out hO4.out ha.out (by omega) (Nat.le_refl _) (by omega))
                rw [← hm] at kc
                have t5 : decide ((m : Int) < (n : Int)) = true := decide_eq_true (by omega)
                have t5n : decide (m < n) = true := decide_eq_true hmn
                have hbN : Hid (n < a + 2 * B ∧ a + B < n) := ⟨by omega, by omega⟩
                clear hb hbn; replace hm := Lib.hid hm
                go_wp2_with fail
                refine kc.out.mono ?_
                rintro e w5 ⟨rfl, ⟨D5, hM, hO5⟩, hK5⟩
                have hI5 : Hid (BSt key pos (2 * B) n 0 d D5) := by
                  have h := hI4.out.step hB4.out ha.out (b := n) hbN.out.2 (Nat.le_refl _) (by have := hbN.out; omega) (.inr rfl) hM
                  refine h.next hB4.out ?_ (by have := hbN.out; omega)
                  rw [Nat.add_mod, ha.out]; simp
                replace hO5 := Lib.hid hO5
                replace hK5 := Lib.hid (kp_trans hK4.out hK5)
                clear hM kc hI4 hO4 hK4
                go_wp2
                exact ⟨⟨2 * B, D5, by have := hB4.out; omega, by go_num, hI5, hO5, hK5⟩, by simp only [intOf]; omega⟩
              · have t5 : decide ((m : Int) < (n : Int)) = false := decide_eq_false (by omega)
                have t5n : decide (m < n) = false := decide_eq_false hmn
                have hI5 : Hid (BSt key pos (2 * B) n 0 d D4) := hI4.out.next hB4.out ha.out (by omega)
                clear hI4 hb hbn; replace hm := Lib.hid hm
                go_wp2
                exact ⟨⟨2 * B, D4, by have := hB4.out; omega, by go_num, hI5, hO4, hK4⟩, by simp only [intOf]; omega⟩
        · have t2 : decide ((B : Int) < (n : Int)) = false := decide_eq_false (by omega)
          have t2n : decide (B < n) = false := decide_eq_false hBn
          have hfin := Lib.hid (hI3.out.last (by omega))
          replace hB := Lib.hid hB
          go_wp2
          go_end0
          exact ⟨rfl, ⟨D3, hfin.out, hO3.out⟩, hK3.out⟩
end St
end Go.Proofs.YtpmlhgmmobpilaaGreatDoor
namespace Go.Proofs.YtpmlhgmmobpilaaGreatDoor
open Go.RowKit Go.Shelf Go.Sort
namespace Co
open Nt Ci St
end Co
end Go.Proofs.YtpmlhgmmobpilaaGreatDoor

namespace Go.Proofs.YtpmlhgmmobpilaaGreatDoor
namespace Mo
/-- a stands ahead of b: by the keys, and where these are equal by the numbers. -/
def Bef (o : Nat → Int) (a b : Nat) : Prop := o a < o b ∨ (o a = o b ∧ a < b)
instance (o : Nat → Int) (a b : Nat) : Decidable (Bef o a b) := inferInstanceAs (Decidable (_ ∨ _))
/-- How many of the numbers below n stand ahead of i. -/
def rankS (o : Nat → Int) (n i : Nat) : Nat := ((List.range n).filter fun j => decide (Bef o j i)).length
/-- l has the numbers below n, in their order. -/
def Srt (o : Nat → Int) (n : Nat) (l : List Nat) : Prop := l.Perm (List.range n) ∧ l.Pairwise (Bef o)
section
variable {o : Nat → Int} {n i k : Nat} {l : List Nat}
theorem Srt.len (h : Srt o n l) : l.length = n := by rw [h.1.length_eq, List.length_range]
theorem Srt.mem (h : Srt o n l) {x : Nat} : x ∈ l ↔ x < n := by rw [h.1.mem_iff, List.mem_range]
theorem bef_asymm {a b : Nat} (h : Bef o a b) (h2 : Bef o b a) : False := by unfold Bef at h h2; omega
theorem filter_lt {P : Nat → Bool} : ∀ {l : List Nat} {k : Nat}, k ≤ l.length → (∀ j (h : j < l.length), P l[j] = decide (j < k)) → (l.filter P).length = k := by
  intro l
  induction l with
  | nil => intro k hk _; simp at hk; simp [hk]
  | cons a l ih =>
    intro k hk h
    have h0 := h 0 (by simp)
    cases k with
    | zero =>
      have := ih (k := 0) (Nat.zero_le _) fun j hj => by have := h (j + 1) (by simpa using hj); simpa using this
      rw [List.filter_cons, if_neg (by simpa using h0)]
      exact this
    | succ k =>
      have := ih (k := k) (by simpa using hk) fun j hj => by
        have := h (j + 1) (by simpa using hj)
        rw [List.getElem_cons_succ] at this
        rw [this]
        exact decide_eq_decide.2 (by omega)
      rw [List.filter_cons, if_pos (by simpa using h0), List.length_cons, this]
/-- The rank of the element at place k is k. -/
theorem Srt.rank (h : Srt o n l) (hk : k < l.length) : rankS o n l[k] = k := by
  unfold rankS
  rw [← (h.1.filter _).length_eq]
  refine filter_lt (by omega) fun j hj => ?_
  have hp := List.pairwise_iff_getElem.1 h.2
  by_cases c : j < k
  · rw [decide_eq_true c]
    exact decide_eq_true (hp j k hj hk c)
  · rw [decide_eq_false c]
    refine decide_eq_false fun hb => ?_
    by_cases e : j = k
    · subst e; exact bef_asymm hb hb
    · exact bef_asymm hb (hp k j hk hj (by omega))
/-- The first ones are those of small rank. -/
theorem Srt.take (h : Srt o n l) (hi : i < n) : i ∈ l.take k ↔ rankS o n i < k := by
  obtain ⟨j, hj, rfl⟩ := List.getElem_of_mem (h.mem.2 hi)
  rw [h.rank hj]
  constructor
  · intro hm
    obtain ⟨j2, hj2, e⟩ := List.getElem_of_mem hm
    rw [List.length_take] at hj2
    rw [List.getElem_take] at e
    have h1 := h.rank hj
    rw [← e, h.rank (by omega)] at h1
    omega
  · intro hlt
    exact List.mem_of_getElem (i := j) (h := by rw [List.length_take]; omega) (by rw [List.getElem_take])
theorem rank_lt_of {i j : Nat} (hi : i < n) (hj : j < n) (h : Bef o i j) (hs : Srt o n l) : rankS o n i < rankS o n j := by
  obtain ⟨a, ha, rfl⟩ := List.getElem_of_mem (hs.mem.2 hi)
  obtain ⟨b, hb, rfl⟩ := List.getElem_of_mem (hs.mem.2 hj)
  rw [hs.rank ha, hs.rank hb]
  have hp := List.pairwise_iff_getElem.1 hs.2
  by_cases c : a < b
  · exact c
  · exfalso
    by_cases e : a = b
    · subst e; exact bef_asymm h h
    · exact bef_asymm h (hp b a hb ha (by omega))
/-- Two numbers stand in one order or the other. -/
theorem bef_total {a b : Nat} (h : a ≠ b) : Bef o a b ∨ Bef o b a := by unfold Bef; omega
theorem bef_trans {a b c : Nat} (h : Bef o a b) (h2 : Bef o b c) : Bef o a c := by unfold Bef at *; omega
/-- There is such an order. -/
def insB (o : Nat → Int) (x : Nat) : List Nat → List Nat
  | [] => [x]
  | a :: l => if Bef o x a then x :: a :: l else a :: insB o x l
theorem insB_perm (x : Nat) : ∀ l, (insB o x l).Perm (x :: l) := by
  intro l
  induction l with
  | nil => exact List.Perm.refl _
  | cons a l ih =>
    unfold insB
    split
    · exact List.Perm.refl _
    · exact (ih.cons a).trans (List.Perm.swap ..)
theorem insB_sorted (x : Nat) : ∀ l, x ∉ l → l.Pairwise (Bef o) → (insB o x l).Pairwise (Bef o) := by
  intro l
  induction l with
  | nil => intro _ _; exact List.pairwise_singleton ..
  | cons a l ih =>
    intro hx hp
    rw [List.pairwise_cons] at hp
    unfold insB
    split
    · rename_i h
      rw [List.pairwise_cons]
      refine ⟨fun b hb => ?_, List.pairwise_cons.2 hp⟩
      rcases List.mem_cons.1 hb with rfl | hb
      · exact h
      · exact bef_trans h (hp.1 b hb)
    · rename_i h
      have hne : x ≠ a := fun c => hx (c ▸ List.mem_cons_self ..)
      rw [List.pairwise_cons]
      refine ⟨fun b hb => ?_, ih (fun c => hx (List.mem_cons_of_mem _ c)) hp.2⟩
      rcases List.mem_cons.1 ((insB_perm x l).mem_iff.1 hb) with rfl | hb
      · exact (bef_total hne).resolve_left h
      · exact hp.1 b hb
theorem srt_ex (o : Nat → Int) : ∀ n, ∃ l, Srt o n l := by
  intro n
  induction n with
  | zero => exact ⟨[], List.Perm.refl _, List.Pairwise.nil⟩
  | succ n ih =>
    obtain ⟨l, hp, hs⟩ := ih
    refine ⟨insB o n l, ?_, insB_sorted n l (fun c => by have := List.mem_range.1 (hp.mem_iff.1 c); omega) hs⟩
    rw [List.range_succ]
    exact (insB_perm n l).trans ((hp.cons n).trans (List.perm_append_singleton n _).symm)
end
def sumI (l : List Int) : Int := l.foldl (· + ·) 0
theorem foldl_add (l : List Int) : ∀ a, l.foldl (· + ·) a = a + l.foldl (· + ·) 0 := by
  induction l with
  | nil => intro a; simp
  | cons x l ih => intro a; rw [List.foldl_cons, List.foldl_cons, ih (a + x), ih (0 + x)]; omega
theorem sumI_nil : sumI [] = 0 := rfl
theorem sumI_cons (x : Int) (l : List Int) : sumI (x :: l) = x + sumI l := by unfold sumI; rw [List.foldl_cons, foldl_add]; omega
theorem sumI_append (l m : List Int) : sumI (l ++ m) = sumI l + sumI m := by
  induction l with
  | nil => simp [sumI_nil]
  | cons x l ih => rw [List.cons_append, sumI_cons, sumI_cons, ih]; omega
theorem sumI_take {l : List Int} {k : Nat} (h : k < l.length) : sumI (l.take (k + 1)) = sumI (l.take k) + l[k] := by
  rw [List.take_succ_eq_append_getElem h, sumI_append, sumI_cons, sumI_nil]; omega
theorem sumI_nonneg {l : List Int} (h : ∀ x, x ∈ l → 0 ≤ x) : 0 ≤ sumI l := by
  induction l with
  | nil => simp [sumI_nil]
  | cons x l ih =>
    rw [sumI_cons]
    have := h x (List.mem_cons_self ..)
    have := ih fun y hy => h y (List.mem_cons_of_mem _ hy)
    omega
theorem sumI_le {l : List Int} {c : Int} (h : ∀ x, x ∈ l → x ≤ c) : sumI l ≤ c * l.length := by
  induction l with
  | nil => simp [sumI_nil]
  | cons x l ih =>
    rw [sumI_cons, List.length_cons]
    have := h x (List.mem_cons_self ..)
    have := ih fun y hy => h y (List.mem_cons_of_mem _ hy)
    have e : c * ((l.length + 1 : Nat) : Int) = c * l.length + c := by rw [Int.natCast_add, Int.mul_add]; simp
    omega
theorem sumI_map_add {α : Type} (l : List α) (f g : α → Int) : sumI (l.map fun x => f x + g x) = sumI (l.map f) + sumI (l.map g) := by
  induction l with
  | nil => simp [sumI_nil]
  | cons x l ih => simp only [List.map_cons, sumI_cons, ih]; omega
theorem sumI_map_mul {α : Type} (l : List α) (f : α → Int) (c : Int) : sumI (l.map fun x => c * f x) = c * sumI (l.map f) := by
  induction l with
  | nil => simp [sumI_nil]
  | cons x l ih => simp only [List.map_cons, sumI_cons, ih, Int.mul_add]
/-- The parts that Split accepts. -/
def okPart (p : Int) : Bool := decide (0 ≤ p ∧ p ≤ 1000000)
def splitOk (units : Int) (parts : List Int) : Bool := parts.all okPart && decide (0 ≤ units ∧ units ≤ 1000000000000) && decide (parts.length ≤ 400) && decide (sumI parts ≠ 0)
def flo (units : Int) (parts : List Int) (i : Nat) : Int := units * parts.getD i 0 / sumI parts
def rem (units : Int) (parts : List Int) (i : Nat) : Int := units * parts.getD i 0 % sumI parts
def leftS (units : Int) (parts : List Int) : Int := units - sumI ((List.range parts.length).map (flo units parts))
/-- What party i gets more than the share rounded down. -/
def incS (units : Int) (parts : List Int) (i : Nat) : Int := if (rankS (fun j => - rem units parts j) parts.length i : Int) < leftS units parts then 1 else 0
def splitR (units : Int) (parts : List Int) : List Int := (List.range parts.length).map fun i => flo units parts i + incS units parts i
section
variable {units : Int} {parts : List Int} {i : Nat}
theorem split_len : (splitR units parts).length = parts.length := by simp [splitR]
theorem range_getD (l : List Int) : (List.range l.length).map (fun i => l.getD i 0) = l := by
  refine List.ext_getElem (by simp) fun i h1 h2 => ?_
  simp [List.getD_eq_getElem?_getD, h2]
/-- What Split has accepted. -/
structure SplitOk (units : Int) (parts : List Int) : Prop where
  p : ∀ i, 0 ≤ parts.getD i 0 ∧ parts.getD i 0 ≤ 1000000
  u : 0 ≤ units ∧ units ≤ 1000000000000
  n : parts.length ≤ 400
  s : 0 < sumI parts ∧ sumI parts ≤ 400000000
theorem splitOk_iff : splitOk units parts = true → SplitOk units parts := by
  intro h
  unfold splitOk at h
  simp only [Bool.and_eq_true, decide_eq_true_eq, List.all_eq_true] at h
  obtain ⟨⟨⟨h1, h2⟩, h3⟩, h4⟩ := h
  have h1' : ∀ x, x ∈ parts → 0 ≤ x ∧ x ≤ 1000000 := fun x hx => of_decide_eq_true (h1 x hx)
  have s0 := sumI_nonneg fun x hx => (h1' x hx).1
  have s1 := sumI_le fun x hx => (h1' x hx).2
  refine ⟨fun i => ?_, h2, h3, ?_⟩
  · by_cases c : i < parts.length
    · have e : parts.getD i 0 = parts[i] := by simp [List.getD_eq_getElem?_getD, c]
      rw [e]
      exact h1' _ (List.getElem_mem c)
    · have e : parts.getD i 0 = 0 := by simp [List.getD_eq_getElem?_getD, Nat.le_of_not_lt c]
      rw [e]; omega
  · omega
theorem flo_rem (h : SplitOk units parts) (i : Nat) : units * parts.getD i 0 = sumI parts * flo units parts i + rem units parts i ∧ 0 ≤ rem units parts i ∧ rem units parts i < sumI parts ∧ 0 ≤ flo units parts i := by
  have hp := h.p i
  have hs := h.s
  have h0 : 0 ≤ units * parts.getD i 0 := Int.mul_nonneg h.u.1 hp.1
  unfold flo rem
  exact ⟨(Int.mul_ediv_add_emod _ _).symm, Int.emod_nonneg _ (by omega), Int.emod_lt_of_pos _ hs.1, Int.ediv_nonneg h0 (by omega)⟩
/-- What is left is the sum of the remainders. -/
theorem left_rem (h : SplitOk units parts) : sumI parts * leftS units parts = sumI ((List.range parts.length).map (rem units parts)) := by
  have e1 : sumI ((List.range parts.length).map fun i => units * parts.getD i 0) = units * sumI parts := by
    rw [sumI_map_mul, range_getD]
  have e2 : sumI ((List.range parts.length).map fun i => units * parts.getD i 0) = sumI ((List.range parts.length).map fun i => sumI parts * flo units parts i + rem units parts i) := by
    congr 1
    exact List.map_congr_left fun i _ => (flo_rem h i).1
  rw [e1, sumI_map_add, sumI_map_mul _ (flo units parts)] at e2
  unfold leftS
  rw [Int.mul_sub, Int.mul_comm (sumI parts) units]
  omega
theorem left_bounds (h : SplitOk units parts) : 0 ≤ leftS units parts ∧ leftS units parts ≤ parts.length := by
  have h1 := left_rem h
  have h2 : 0 ≤ sumI ((List.range parts.length).map (rem units parts)) := sumI_nonneg fun x hx => by
    obtain ⟨i, _, rfl⟩ := List.mem_map.1 hx
    exact (flo_rem h i).2.1
  have h3 : sumI ((List.range parts.length).map (rem units parts)) ≤ sumI parts * parts.length := by
    have := sumI_le (l := (List.range parts.length).map (rem units parts)) (c := sumI parts) fun x hx => by
      obtain ⟨i, _, rfl⟩ := List.mem_map.1 hx
      exact Int.le_of_lt (flo_rem h i).2.2.1
    simpa using this
  have hs := h.s.1
  rw [← h1] at h2 h3
  constructor
  · by_cases c : 0 ≤ leftS units parts
    · exact c
    · exfalso
      have : sumI parts * leftS units parts < 0 := Int.mul_neg_of_pos_of_neg hs (by omega)
      omega
  · exact Int.le_of_mul_le_mul_left h3 hs
end
end Mo
end Go.Proofs.YtpmlhgmmobpilaaGreatDoor

namespace Go.Proofs.YtpmlhgmmobpilaaGreatDoor
open Go.RowKit Go.Shelf Go.Sort
namespace Mo
open Nt Ci St
/-- What Split's inner functions read. -/
structure SpIn (w : World) (ub pb sb fb : Nat) (units : Int) (A : Option Addr) (c : Nat) (parts : List Int) : Prop where
  u : w.cell? ⟨ub, 0, none⟩ = some (.int .i64 units)
  p : w.cell? ⟨pb, 0, none⟩ = some (.slice A parts.length c)
  s : w.cell? ⟨sb, 0, none⟩ = some (.int .i64 (sumI parts))
  f : w.cell? ⟨fb, 0, none⟩ = some (.func (.func 52) #[] #[.pointer (some ⟨ub, 0, none⟩), .pointer (some ⟨pb, 0, none⟩), .pointer (some ⟨sb, 0, none⟩)])
  l : InInt w A parts
theorem SpIn.kp {w w' : World} {ub pb sb fb bl : Nat} {units : Int} {A : Option Addr} {c : Nat} {parts : List Int} (h : SpIn w ub pb sb fb units A c parts) (hk : Kp [bl] w w') (h1 : ub ≠ bl) (h2 : pb ≠ bl) (h3 : sb ≠ bl) (h4 : fb ≠ bl) (h5 : ∀ b o, A = some ⟨b, o, none⟩ → b ≠ bl) : SpIn w' ub pb sb fb units A c parts := by
  have hc : ∀ {a : Addr} {v : Value}, a.block ≠ bl → w.cell? a = some v → w'.cell? a = some v := fun {a v} hne hv =>
    (World.cell?_of_block (a := a) (hk.block a.block (World.block_lt_of_cell? w _ hv) (by simpa using hne))).trans hv
  refine ⟨hc (by simpa using h1) h.u, hc (by simpa using h2) h.p, hc (by simpa using h3) h.s, hc (by simpa using h4) h.f, fun h0 => ?_⟩
  obtain ⟨b, o, e, hl, hcc⟩ := h.l h0
  exact ⟨b, o, e, Nat.lt_of_lt_of_le hl hk.size, fun j hj => hc (by simpa using h5 b o e) (hcc j hj)⟩
section
variable {units : Int} {parts : List Int}
theorem mul_lim (h : SplitOk units parts) (i : Nat) : 0 ≤ units * parts.getD i 0 ∧ units * parts.getD i 0 ≤ 1000000000000000000 := by
  have hp := h.p i
  refine ⟨Int.mul_nonneg h.u.1 hp.1, ?_⟩
  have h1 : units * parts.getD i 0 ≤ 1000000000000 * 1000000 := Int.mul_le_mul h.u.2 hp.2 hp.1 (by decide)
  exact h1
theorem rem_tmod (h : SplitOk units parts) (i : Nat) : (units * parts.getD i 0).tmod (sumI parts) = rem units parts i := by
  unfold rem
  exact Int.tmod_eq_emod_of_nonneg (mul_lim h i).1
theorem flo_tdiv (h : SplitOk units parts) (i : Nat) : (units * parts.getD i 0).tdiv (sumI parts) = flo units parts i := by
  unfold flo
  exact Int.tdiv_eq_ediv_of_nonneg (mul_lim h i).1
theorem rem_lim (h : SplitOk units parts) (i : Nat) : 0 ≤ rem units parts i ∧ rem units parts i ≤ 400000000 := by
  have h1 := flo_rem h i
  have h2 := h.s
  omega
end
set_option maxRecDepth 100000 in
theorem rest_any (ub pb sb fb c i : Nat) (units : Int) (A : Option Addr) (parts : List Int) (w : World) (hS : SpIn w ub pb sb fb units A c parts) (h : SplitOk units parts) (hi : i < parts.length) :
    Calls Tryz.prog 52 #[.int .i64 (i : Int), .pointer (some ⟨ub, 0, none⟩), .pointer (some ⟨pb, 0, none⟩), .pointer (some ⟨sb, 0, none⟩)] w fun e w' => e = .returned (.int .i64 (rem units parts i)) ∧ ∃ q, w' = w.drewN q := by
  obtain ⟨b, o, rfl, hl, hcc⟩ := hS.l (by omega)
  have e1 := hcc i hi
  have c1 := hS.u; have c2 := hS.p; have c3 := hS.s
  have l1 := World.block_lt_of_cell? w _ c1; have l2 := World.block_lt_of_cell? w _ c2; have l3 := World.block_lt_of_cell? w _ c3
  have hg : parts.getD i 0 = parts[i] := by simp [List.getD_eq_getElem?_getD, hi]
  have hm := mul_lim h i
  have ht := rem_tmod h i
  have hr := rem_lim h i
  have hs := h.s
  have hd : units * parts.getD i 0 % sumI parts = rem units parts i := rfl
  rw [hg] at hm ht hd
  have j0 : (0 : Int) ≤ (i : Int) := by omega
  have j1 : (i : Int) < (parts.length : Int) := by omega
  have hn := h.n
  clear hcc hS
  generalize rem units parts i = r at ht hr hd ⊢
  generalize sumI parts = S at ht c3 hs hd
  generalize parts[i] = p at ht hm e1 hd
  obtain ⟨m, hme⟩ : ∃ m, m = units * p := ⟨_, rfl⟩
  rw [← hme] at ht hm
  have hmw : IntKind.i64.wrap (units * p) = m := by rw [← hme]; exact IntWalk.i64_in _ (by omega)
  replace hd := Lib.hid hd
  have hS0 : (S == 0) = false := by rw [beq_eq_false_iff_ne]; omega
  have hrw : IntKind.i64.wrap (m.tmod S) = r := by rw [ht]; exact IntWalk.i64_in _ (by omega)
  clear hg h
  go_enter Tryz.func52, Tryz.ntmps52
  go_wp2_with fail
  go_quiet (fail)
  go_wp2
  go_ret
  exact ⟨by rw [← hd.out]; rfl, _, rfl⟩
theorem SpIn.drewN {w : World} {ub pb sb fb : Nat} {units : Int} {A : Option Addr} {c : Nat} {parts : List Int} (h : SpIn w ub pb sb fb units A c parts) (q : Nat) : SpIn (w.drewN q) ub pb sb fb units A c parts := ⟨h.u, h.p, h.s, h.f, h.l⟩
set_option maxRecDepth 100000 in
set_option maxHeartbeats 4000000 in
/-- The comparison that Split hands to the sort. -/
theorem cmpS_any (r : Nat → Int) (ub pb sb fb c x y : Nat) (units : Int) (A : Option Addr) (parts : List Int) (w : World) (hS : SpIn w ub pb sb fb units A c parts) (h : SplitOk units parts) (hx : x < parts.length) (hy : y < parts.length) (hr : r = rem units parts) :
    Calls Tryz.prog 54 #[.int .i64 (x : Int), .int .i64 (y : Int), .pointer (some ⟨fb, 0, none⟩)] w fun e w' => e = .returned (.int .i64 (r y - r x)) ∧ ∃ q, w' = w.drewN q := by
  rw [hr]
  have kx : Hid (∀ q, Calls Tryz.prog 52 #[.int .i64 (x : Int), .pointer (some ⟨ub, 0, none⟩), .pointer (some ⟨pb, 0, none⟩), .pointer (some ⟨sb, 0, none⟩)] (w.drewN q) fun e w' => e = .returned (.int .i64 (rem units parts x)) ∧ ∃ q2, w' = (w.drewN q).drewN q2) := fun q => rest_any ub pb sb fb c x units A parts (w.drewN q) (hS.drewN q) h hx
  have ky : Hid (∀ q, Calls Tryz.prog 52 #[.int .i64 (y : Int), .pointer (some ⟨ub, 0, none⟩), .pointer (some ⟨pb, 0, none⟩), .pointer (some ⟨sb, 0, none⟩)] (w.drewN q) fun e w' => e = .returned (.int .i64 (rem units parts y)) ∧ ∃ q2, w' = (w.drewN q).drewN q2) := fun q => rest_any ub pb sb fb c y units A parts (w.drewN q) (hS.drewN q) h hy
  have c4 := hS.f
  have l4 := World.block_lt_of_cell? w _ c4
  have rx := rem_lim h x
  have ry := rem_lim h y
  generalize rem units parts x = vx at kx rx ⊢
  generalize rem units parts y = vy at ky ry ⊢
  have hsw : IntKind.i64.wrap (vy - vx) = vy - vx := IntWalk.i64_in _ (by omega)
  clear hS h
  go_enter Tryz.func54, Tryz.ntmps54
  go_wp2_with fail
  go_quiet (first | (with_reducible exact Calls.quiet_of (ky.out _)) | (with_reducible exact Calls.quiet_of (kx.out _)))
  go_wp2
  go_ret
  exact ⟨rfl, _, rfl⟩
theorem cmpS_lt (a b : Int) : decide (b - a < 0) = decide (-a < -b) := by rw [decide_eq_decide]; omega
set_option maxRecDepth 100000 in
set_option maxHeartbeats 4000000 in
/-- slices.SortStableFunc as Split calls it. -/
theorem sortS_any (r : Nat → Int) (ub pb sb fb bl cap c : Nat) (units : Int) (A : Option Addr) (parts : List Int) (w : World) (hS : SpIn w ub pb sb fb units A c parts) (h : SplitOk units parts) (h80 : parts.length < 80) (hR : RoI w bl parts.length fun i => (i : Int)) (h1 : ub ≠ bl) (h2 : pb ≠ bl) (h3 : sb ≠ bl) (h4 : fb ≠ bl) (h5 : ∀ b o, A = some ⟨b, o, none⟩ → b ≠ bl) (hr : r = rem units parts) :
    Calls Tryz.prog 53 #[.slice (some ⟨bl, 0, none⟩) parts.length cap, .func (.func 54) #[] #[.pointer (some ⟨fb, 0, none⟩)]] w fun e w' => e = .returned (.tuple #[]) ∧ (∃ l', Srt (fun j => - r j) parts.length l' ∧ ∀ j (hj : j < l'.length), w'.cell? ⟨bl, j, none⟩ = some (.int .i64 (l'[j] : Int))) ∧ Kp [bl] w w' := by
  obtain ⟨m, hm⟩ : ∃ m, parts.length = m + 1 := ⟨parts.length - 1, by
    have := h.s
    cases parts with
    | nil => simp [sumI_nil] at this
    | cons a l => simp⟩
  have hl : ∀ x, x ∈ List.range parts.length → x < m + 1 := fun x hx => by have := List.mem_range.1 hx; omega
  have hRo : Ro (fun x : Fin (m + 1) => x.val) w bl (Co.arr (List.range parts.length)) := ⟨hR.lt, fun j hj => by
    have hj2 : j < (List.range parts.length).length := by rwa [Co.arr_size] at hj
    rw [Co.arr_at hl hj2, List.getElem_range]
    exact hR.cell j (by simpa using hj2), fun j _ => hR.fr j⟩
  have hC : CmpOn Tryz.prog 54 #[.pointer (some ⟨fb, 0, none⟩)] (fun x : Fin (m + 1) => x.val) (fun x y => r y.val - r x.val) bl w := fun W hW x y =>
    cmpS_any r ub pb sb fb c x.val y.val units A parts W (hS.kp hW h1 h2 h3 h4 h5) h (by have := x.isLt; omega) (by have := y.isLt; omega) hr
  have hsz : (Co.arr (m := m) (List.range parts.length)).size = parts.length := by rw [Co.arr_size, List.length_range]
  have ks := stable_any (fun x : Fin (m + 1) => x.val) (fun x y => r y.val - r x.val) 54 #[.pointer (some ⟨fb, 0, none⟩)] (enters_of Tryz.func54 (by kernel_rfl) rfl) (fun x : Fin (m + 1) => - r x.val) Fin.val (fun x y => cmpS_lt _ _) bl cap parts.length (Co.arr (List.range parts.length)) w hC hRo hsz h80 fun i j hij hj => by
    rw [Co.arr_at hl (by simp; omega), Co.arr_at hl (by simpa using hj)]
    simpa using hij
  have ks2 : Hid (Calls Tryz.prog 108 #[.slice (some ⟨bl, 0, none⟩) parts.length cap, .int .i64 (parts.length : Int), .func (.func 54) #[] #[.pointer (some ⟨fb, 0, none⟩)]] w fun e w' => e = .returned (.tuple #[]) ∧ (∃ l', Srt (fun j => - r j) parts.length l' ∧ ∀ j (hj : j < l'.length), w'.cell? ⟨bl, j, none⟩ = some (.int .i64 (l'[j] : Int))) ∧ Kp [bl] w w') := ks.mono fun e w' h => by
    obtain ⟨h1, ⟨d', ⟨hp, hs⟩, hO⟩, hk⟩ := h
    have hp2 : PermIn 0 (List.range parts.length).length (Co.arr (m := m) (List.range parts.length)) d' := by rw [List.length_range]; exact hp
    have hs2 : SortedIn (kLt (fun x : Fin (m + 1) => - r x.val) Fin.val) 0 (List.range parts.length).length d' := by rw [List.length_range]; exact hs
    refine ⟨h1, ⟨d'.toList.map Fin.val, Co.sorted_of (o := fun j => - r j) hl List.pairwise_lt_range hp2 hs2, fun j hj => ?_⟩, hk⟩
    have hj2 : j < d'.size := by simpa using hj
    have h4 := hO.cell j hj2
    rw [getElem!_pos _ j hj2] at h4
    simpa using h4
  have hP : Hid (∀ (e : Ending) (W : World), e = .returned (.tuple #[]) → (∃ l', Srt (fun j => - r j) parts.length l' ∧ ∀ j (hj : j < l'.length), W.cell? ⟨bl, j, none⟩ = some (.int .i64 (l'[j] : Int))) → Kp [bl] w W → e = .returned (.tuple #[]) ∧ (∃ l', Srt (fun j => - r j) parts.length l' ∧ ∀ j (hj : j < l'.length), W.cell? ⟨bl, j, none⟩ = some (.int .i64 (l'[j] : Int))) ∧ Kp [bl] w W) := fun e W h1 h2 h3 => ⟨h1, h2, h3⟩
  clear hRo hC ks hR hS h h1 h2 h3 h4 h5 hsz hl hm
  go_enter Tryz.func53, Tryz.ntmps53
  go_wp2_with fail
  refine ks2.out.mono ?_
  rintro e w2 ⟨rfl, h1, h2⟩
  replace h1 := Lib.hid h1
  replace h2 := Lib.hid h2
  go_wp2
  go_end0
  exact hP.out _ _ rfl h1.out h2.out
end Mo
end Go.Proofs.YtpmlhgmmobpilaaGreatDoor

namespace Go.Proofs.YtpmlhgmmobpilaaGreatDoor
open Go.RowKit Go.Shelf
namespace Mo
open Nt Ci
/-- What Split returns. -/
def splitL (units : Int) (parts : List Int) : List Int := if splitOk units parts = true then splitR units parts else []
def splitE (units : Int) (parts : List Int) : Int := if splitOk units parts = true then 0 else 1
section
variable {units : Int} {parts : List Int}
theorem okPart_iff {p : Int} : okPart p = true ↔ 0 ≤ p ∧ p ≤ 1000000 := decide_eq_true_iff
theorem split_no (h : splitOk units parts = false) : splitL units parts = [] ∧ splitE units parts = 1 := by
  unfold splitL splitE
  rw [h]
  exact ⟨rfl, rfl⟩
theorem split_yes (h : splitOk units parts = true) : splitL units parts = splitR units parts ∧ splitE units parts = 0 := by
  unfold splitL splitE
  rw [h]
  exact ⟨rfl, rfl⟩
theorem splitOk_bad {k : Nat} (h : k < parts.length) (hb : ¬ (0 ≤ parts[k] ∧ parts[k] ≤ 1000000)) : splitOk units parts = false := by
  unfold splitOk
  have : parts.all okPart = false := by
    rw [List.all_eq_false]
    exact ⟨_, List.getElem_mem h, fun c => hb (okPart_iff.1 c)⟩
  rw [this]; rfl
theorem splitOk_of (h : ∀ k (h : k < parts.length), 0 ≤ parts[k] ∧ parts[k] ≤ 1000000) : splitOk units parts = (decide (0 ≤ units ∧ units ≤ 1000000000000) && decide (parts.length ≤ 400) && decide (sumI parts ≠ 0)) := by
  unfold splitOk
  have : parts.all okPart = true := by
    rw [List.all_eq_true]
    intro x hx
    obtain ⟨k, hk, rfl⟩ := List.getElem_of_mem hx
    exact okPart_iff.2 (h k hk)
  rw [this, Bool.true_and]
theorem sum_lim (k : Nat) (hk : k ≤ parts.length) (h : ∀ i (h : i < parts.length), i < k → 0 ≤ parts[i] ∧ parts[i] ≤ 1000000) : 0 ≤ sumI (parts.take k) ∧ sumI (parts.take k) ≤ 1000000 * k := by
  have hm : ∀ x, x ∈ parts.take k → 0 ≤ x ∧ x ≤ 1000000 := fun x hx => by
    obtain ⟨i, hi, rfl⟩ := List.getElem_of_mem hx
    rw [List.length_take] at hi
    rw [List.getElem_take]
    exact h i (by omega) (by omega)
  refine ⟨sumI_nonneg fun x hx => (hm x hx).1, ?_⟩
  have := sumI_le (l := parts.take k) (c := 1000000) fun x hx => (hm x hx).2
  rwa [List.length_take, Nat.min_eq_left hk] at this
/-- What is left behind the first k. -/
def leftK (units : Int) (parts : List Int) (k : Nat) : Int := units - sumI ((List.range k).map (flo units parts))
theorem leftK_succ (k : Nat) : leftK units parts (k + 1) = leftK units parts k - flo units parts k := by
  unfold leftK
  rw [List.range_succ, List.map_append, sumI_append, List.map_singleton, sumI_cons, sumI_nil]
  omega
theorem flo_lim (h : SplitOk units parts) (i : Nat) : 0 ≤ flo units parts i ∧ flo units parts i ≤ 1000000000000000000 := by
  have h1 := flo_rem h i
  have h2 := mul_lim h i
  have h3 := h.s.1
  refine ⟨h1.2.2.2, ?_⟩
  have h4 : 1 * flo units parts i ≤ sumI parts * flo units parts i := Int.mul_le_mul_of_nonneg_right (by omega) h1.2.2.2
  omega
theorem sum_flo_le (h : SplitOk units parts) (k : Nat) (hk : k ≤ parts.length) : 0 ≤ sumI ((List.range k).map (flo units parts)) ∧ sumI ((List.range k).map (flo units parts)) ≤ units := by
  have hp : ∀ m, 0 ≤ sumI ((List.range m).map (flo units parts)) := fun m => sumI_nonneg fun x hx => by
    obtain ⟨i, _, rfl⟩ := List.mem_map.1 hx
    exact (flo_lim h i).1
  refine ⟨hp k, ?_⟩
  have hl := (left_bounds h).1
  unfold leftS at hl
  have : ∀ d, k + d ≤ parts.length → sumI ((List.range k).map (flo units parts)) ≤ sumI ((List.range (k + d)).map (flo units parts)) := by
    intro d
    induction d with
    | zero => intro _; exact Int.le_refl _
    | succ d ih =>
      intro hd
      have h1 := ih (by omega)
      have h2 := (flo_lim h (k + d)).1
      rw [show k + (d + 1) = (k + d) + 1 from rfl, List.range_succ, List.map_append, sumI_append, List.map_singleton, sumI_cons, sumI_nil]
      omega
  have h3 := this (parts.length - k) (by omega)
  rw [show k + (parts.length - k) = parts.length by omega] at h3
  omega
/-- The results while they are laid, and while the rest is handed out. -/
def outK (units : Int) (parts : List Int) (k x : Nat) : Int := if x < k then flo units parts x else 0
def ordK (k x : Nat) : Int := if x < k then (x : Int) else 0
def addK (units : Int) (parts : List Int) (l : List Nat) (j x : Nat) : Int := flo units parts x + if x ∈ l.take j then 1 else 0
theorem outK_succ (k : Nat) (x : Nat) : setI (outK units parts k) k (flo units parts k) x = outK units parts (k + 1) x := by
  unfold setI outK
  by_cases c : x = k
  · rw [if_pos c, c, if_pos (Nat.lt_succ_self _)]
  · rw [if_neg c]
    by_cases d : x < k
    · rw [if_pos d, if_pos (by omega)]
    · rw [if_neg d, if_neg (by omega)]
theorem ordK_succ (k x : Nat) : setI (ordK k) k (k : Int) x = ordK (k + 1) x := by
  unfold setI ordK
  by_cases c : x = k
  · rw [if_pos c, c, if_pos (Nat.lt_succ_self _)]
  · rw [if_neg c]
    by_cases d : x < k
    · rw [if_pos d, if_pos (by omega)]
    · rw [if_neg d, if_neg (by omega)]
theorem addK_succ {l : List Nat} {j : Nat} (hnd : l.Nodup) (hj : j < l.length) (x : Nat) : setI (addK units parts l j) l[j] (addK units parts l j l[j] + 1) x = addK units parts l (j + 1) x := by
  have hn : l[j] ∉ l.take j := fun c => by
    obtain ⟨i, hi, e⟩ := List.getElem_of_mem c
    rw [List.length_take] at hi
    rw [List.getElem_take] at e
    have := (List.pairwise_iff_getElem.1 hnd) i j (by omega) hj (by omega)
    exact this e
  unfold setI addK
  have hm : ∀ y, y ∈ l.take (j + 1) ↔ y ∈ l.take j ∨ y = l[j] := fun y => by rw [List.take_succ_eq_append_getElem hj, List.mem_append, List.mem_singleton]
  by_cases c : x = l[j]
  · rw [if_pos c, c, if_neg hn, if_pos ((hm _).2 (.inr rfl))]
    omega
  · rw [if_neg c]
    congr 1
    by_cases d : x ∈ l.take j
    · rw [if_pos d, if_pos ((hm _).2 (.inl d))]
    · rw [if_neg d, if_neg fun h => ((hm _).1 h).elim d c]
theorem addK_all {l : List Nat} (h : SplitOk units parts) (hl : Srt (fun j => - rem units parts j) parts.length l) {x : Nat} (hx : x < parts.length) : addK units parts l (leftS units parts).toNat x = flo units parts x + incS units parts x := by
  have hb := left_bounds h
  unfold addK incS
  congr 1
  by_cases c : x ∈ l.take (leftS units parts).toNat
  · rw [if_pos c, if_pos]
    have := (hl.take hx).1 c
    omega
  · rw [if_neg c, if_neg]
    intro d
    exact c ((hl.take hx).2 (by omega))
theorem addK_zero {l : List Nat} {x : Nat} : addK units parts l 0 x = flo units parts x := by unfold addK; simp
end
def SpPost (units : Int) (parts : List Int) (w : World) (e : Ending) (w' : World) : Prop := (∃ B d, e = .returned (.tuple #[.slice B (splitL units parts).length d, .int .i64 (splitE units parts)]) ∧ InInt w' B (splitL units parts)) ∧ Below w.heap.size w w'
set_option maxRecDepth 100000 in
set_option maxHeartbeats 16000000 in
theorem Split_any (units : Int) (A : Option Addr) (c : Nat) (parts : List Int) (w : World) (hp : InInt w A parts) (h80 : parts.length < 80) :
    Calls Tryz.prog 14 #[.int .i64 units, .slice A parts.length c] w (SpPost units parts w) := by
  obtain ⟨ub, hub⟩ : ∃ x, x = w.heap.size := ⟨_, rfl⟩
  obtain ⟨pb, hpb⟩ : ∃ x, x = w.heap.size + 1 := ⟨_, rfl⟩
  obtain ⟨sb, hsb⟩ : ∃ x, x = w.heap.size + 1 + 1 := ⟨_, rfl⟩
  have hB1 : Hid (Below w.heap.size w (((w.alloc (.cells #[.int .i64 units] 3)).alloc (.cells #[.slice A parts.length c] 24)).alloc (.cells #[.int .i64 0] 3))) := (((Below.refl _ w).alloc (Nat.le_refl _) _).alloc (by simp) _).alloc (by simp; omega) _
  have hu1 : Hid (Bk (((w.alloc (.cells #[.int .i64 units] 3)).alloc (.cells #[.slice A parts.length c] 24)).alloc (.cells #[.int .i64 0] 3)) ub 3 [.int .i64 units]) := by rw [hub]; exact ((Bk.new w _ _).alloc _).alloc _
  have hq1 : Hid (Bk (((w.alloc (.cells #[.int .i64 units] 3)).alloc (.cells #[.slice A parts.length c] 24)).alloc (.cells #[.int .i64 0] 3)) pb 24 [.slice A parts.length c]) := by have h := (Bk.new (w.alloc (.cells #[.int .i64 units] 3)) 24 [.slice A parts.length c]).alloc (.cells #[.int .i64 0] 3); rw [World.size_alloc, ← hpb] at h; exact h
  have hs1 : Hid (Bk (((w.alloc (.cells #[.int .i64 units] 3)).alloc (.cells #[.slice A parts.length c] 24)).alloc (.cells #[.int .i64 0] 3)) sb 3 [.int .i64 (sumI (parts.take 0))]) := by have h := Bk.new ((w.alloc (.cells #[.int .i64 units] 3)).alloc (.cells #[.slice A parts.length c] 24)) 3 [.int .i64 0]; rw [World.size_alloc, World.size_alloc, ← hsb] at h; exact h
  have hbd := Lib.hid (fun (k : Nat) (h : k < parts.length) hb => splitOk_bad (units := units) h hb)
  have hof := Lib.hid (fun h => splitOk_of (units := units) (parts := parts) h)
  have hlm := Lib.hid (fun k hk h => sum_lim (parts := parts) k hk h)
  have hno := Lib.hid (fun h => split_no (units := units) (parts := parts) h); have hye := Lib.hid (fun h => split_yes (units := units) (parts := parts) h)
  have hPn : Hid (∀ (e : Ending) (W : World), splitOk units parts = false → e = .returned (.tuple #[.slice none 0 0, .int .i64 1]) → Below w.heap.size w W → SpPost units parts w e W) := fun e W h1 h2 h3 => ⟨⟨none, 0, by rw [(split_no h1).1, (split_no h1).2]; exact h2, by rw [(split_no h1).1]; exact fun h => absurd h (by simp)⟩, h3⟩
  have hPy : Hid (∀ (e : Ending) (W : World) (ob : Nat), splitOk units parts = true → e = .returned (.tuple #[.slice (some ⟨ob, 0, none⟩) parts.length parts.length, .int .i64 0]) → RoI W ob parts.length (fun i => flo units parts i + incS units parts i) → Below w.heap.size w W → SpPost units parts w e W) := fun e W ob h1 h2 h3 h4 => ⟨⟨some ⟨ob, 0, none⟩, parts.length, by rw [(split_yes h1).1, (split_yes h1).2, split_len]; exact h2, by rw [(split_yes h1).1]; exact h3.inInt⟩, h4⟩
  have hpw := Lib.hid (fun W (hb : Below w.heap.size w W) => hp.below hb)
  have hA : Hid (∀ b o, A = some ⟨b, o, none⟩ → 0 < parts.length → b < w.heap.size) := fun b o e h0 => by obtain ⟨b2, o2, e2, hl, _⟩ := hp h0; rw [e] at e2; cases e2; exact hl
  clear hp
  have hwub : Hid (w.heap.size ≤ ub ∧ w.heap.size ≤ pb ∧ w.heap.size ≤ sb ∧ ub ≠ sb ∧ pb ≠ sb) := by refine ⟨?_, ?_, ?_, ?_, ?_⟩ <;> omega
  obtain ⟨W1, hW1⟩ : ∃ W, W = (((w.alloc (.cells #[.int .i64 units] 3)).alloc (.cells #[.slice A parts.length c] 24)).alloc (.cells #[.int .i64 0] 3)) := ⟨_, rfl⟩
  rw [← hW1] at hB1 hu1 hq1 hs1
  have q0 := hq1.out.cell (j := 0) rfl; have q9 := hq1.out.lt
  rw [hpb, hW1] at q0 q9
  go_enter Tryz.func14, Tryz.ntmps14
  go_wp2_with fail
  (try rw [← hW1])
  (try rw [← hsb])
  (try rw [← hpb])
  (try rw [← hub])
  replace hW1 := Lib.hid hW1; replace hub := Lib.hid hub; replace hpb := Lib.hid hpb; replace hsb := Lib.hid hsb
  clear q0 q9
  go_loopw [8, 19] (fun _ ix wr => ∃ (k : Nat), k ≤ parts.length ∧ ix = .int .i64 (k : Int) ∧ Hid (Below w.heap.size w wr) ∧ Hid (Bk wr ub 3 [.int .i64 units]) ∧ Hid (Bk wr pb 24 [.slice A parts.length c]) ∧ Hid (Bk wr sb 3 [.int .i64 (sumI (parts.take k))]) ∧ Hid (∀ i (h : i < parts.length), i < k → 0 ≤ parts[i] ∧ parts[i] ≤ 1000000)) (fun _ ix _ => parts.length - (intOf ix).toNat)
  case atStart => exact ⟨0, Nat.zero_le _, rfl, hB1, hu1, hq1, hs1, fun i _ h => absurd h (Nat.not_lt_zero _)⟩
  case round =>
    clear hB1 hu1 hq1 hs1
    obtain ⟨k, hk, rfl, hB, hu, hq, hs, hI⟩ := hrel
    obtain ⟨wz, rfl⟩ : ∃ z, z = wr := ⟨_, rfl⟩
    obtain ⟨hw1, hw2, hw3, hw4, hw5⟩ := hwub.out
    have hsl := hlm.out k hk hI.out
    by_cases hkl : k < parts.length
    · obtain ⟨vb, vo, rfl, hvl, hcc⟩ := (hpw.out wz hB.out) (by omega)
      have e1 := hcc k hkl
      clear hcc
      have hst := sumI_take hkl
      have hbk := Lib.hid (hbd.out k hkl)
      have j0 : (0 : Int) ≤ (k : Int) := by omega
      have j1 : (k : Int) < (parts.length : Int) := by omega
      have hAl : Hid (0 ≤ parts[k] ∧ parts[k] ≤ 1000000 → ∀ i (h : i < parts.length), i < k + 1 → 0 ≤ parts[i] ∧ parts[i] ≤ 1000000) := fun h i hi h2 => by
        by_cases e : i = k
        · subst e; exact h
        · exact hI.out i hi (by omega)
      have s0 := hs.out.cell (j := 0) rfl; have s1 := hs.out.frozen 0; have s9 := hs.out.lt
      generalize parts[k] = p at e1 hbk hAl hst
      generalize sumI (parts.take k) = S at s0 hsl hst
      replace hst := Lib.hid hst
      by_cases c1 : p < 0
      · have m1 : decide (p < 0) = true := decide_eq_true c1
        skip
        have hno1 : Hid (splitOk units parts = false) := hbk.out fun h => by omega
        clear hAl
        go_wp2
        go_ret2
        exact hPn.out _ _ hno1.out rfl hB.out
      · have m1 : decide (p < 0) = false := decide_eq_false c1
        by_cases c2 : 1000000 < p
        · have m2 : decide (1000000 < p) = true := decide_eq_true c2
          skip
          have hno1 : Hid (splitOk units parts = false) := hbk.out fun h => by omega
          clear hAl
          go_wp2
          go_ret2
          exact hPn.out _ _ hno1.out rfl hB.out
        · have m2 : decide (1000000 < p) = false := decide_eq_false c2
          have hI2 := Lib.hid (hAl.out ⟨by omega, by omega⟩)
          have hB2 : Hid (Below w.heap.size w (wz.setCell ⟨sb, 0, none⟩ (.int .i64 (S + p)))) := hB.out.setCell (p := ⟨sb, 0, none⟩) hw3 _
          have hu2 : Hid (Bk (wz.setCell ⟨sb, 0, none⟩ (.int .i64 (S + p))) ub 3 [.int .i64 units]) := hu.out.far (p := ⟨sb, 0, none⟩) hw4 _
          have hq2 : Hid (Bk (wz.setCell ⟨sb, 0, none⟩ (.int .i64 (S + p))) pb 24 [.slice (some ⟨vb, vo, none⟩) parts.length c]) := hq.out.far (p := ⟨sb, 0, none⟩) hw5 _
          have hs2 : Hid (Bk (wz.setCell ⟨sb, 0, none⟩ (.int .i64 (S + p))) sb 3 [.int .i64 (sumI (parts.take (k + 1)))]) := by rw [hst.out]; exact hs.out.set 0 (.int .i64 (S + p))
          clear hAl hbk hI
          go_wp2
          exact ⟨⟨k + 1, by omega, by go_num, hB2, hu2, hq2, hs2, hI2⟩, by simp only [intOf]; omega⟩
    · obtain rfl : k = parts.length := by omega
      rw [List.take_length] at hs hsl
      have hok := hof.out fun i hi => hI.out i hi hi
      rw [decide_eq_true (by omega : parts.length ≤ 400), Bool.and_true] at hok
      have s0 := hs.out.cell (j := 0) rfl; have s9 := hs.out.lt; have u0 := hu.out.cell (j := 0) rfl; have u9 := hu.out.lt; have q0 := hq.out.cell (j := 0) rfl; have q9 := hq.out.lt
      have m4 : decide (400 < (parts.length : Int)) = false := decide_eq_false (by omega); have m4n : decide (400 < parts.length) = false := decide_eq_false (by omega)
      clear hI hbd hof hlm
      by_cases c1 : units < 0
      · have m1 : decide (units < 0) = true := decide_eq_true c1
        have hno1 : Hid (splitOk units parts = false) := by rw [hok, decide_eq_false (by omega : ¬ (0 ≤ units ∧ units ≤ 1000000000000))]; rfl
        clear hok
        go_wp2
        go_ret2
        exact hPn.out _ _ hno1.out rfl hB.out
      · have m1 : decide (units < 0) = false := decide_eq_false c1
        by_cases c2 : 1000000000000 < units
        · have m2 : decide (1000000000000 < units) = true := decide_eq_true c2
          have hno1 : Hid (splitOk units parts = false) := by rw [hok, decide_eq_false (by omega : ¬ (0 ≤ units ∧ units ≤ 1000000000000))]; rfl
          clear hok
          go_wp2
          go_ret2
          exact hPn.out _ _ hno1.out rfl hB.out
        · have m2 : decide (1000000000000 < units) = false := decide_eq_false c2
          by_cases c3 : sumI parts = 0
          · have m3 : (sumI parts == 0) = true := by rw [beq_iff_eq]; exact c3
            have hno1 : splitOk units parts = false := by rw [hok]; simp [c3]
            replace hno1 := Lib.hid hno1
            clear hok
            replace c3 := Lib.hid c3
            skip
            go_wp2
            go_ret2
            exact hPn.out _ _ hno1.out rfl hB.out
          · have m3 : (sumI parts == 0) = false := by rw [beq_eq_false_iff_ne]; exact c3
            have hsok : splitOk units parts = true := by rw [hok, decide_eq_true (by omega : 0 ≤ units ∧ units ≤ 1000000000000), decide_eq_true c3]; rfl
            have hSO := splitOk_iff hsok
            clear hok
            have h0 : 0 < parts.length := by
              cases parts with
              | nil => exact absurd rfl c3
              | cons a l => simp
            have hmk := run_make_row' (P := Tryz.prog) 24 3 (.int .i64 0) 8 Tryz.underlying24 Ci.infoI rfl .i64 .i64 parts.length (by omega) (by omega)
            replace hsok := Lib.hid hsok; replace hSO := Lib.hid hSO; replace c3 := Lib.hid c3; replace h0 := Lib.hid h0
            have hBd : Hid (Below w.heap.size w wz.drew) := hB.out.drew
            have hcs : Hid (∀ W, Below wz.heap.size wz W → W.cell? ⟨pb, 0, none⟩ = some (.slice A parts.length c) ∧ W.cell? ⟨ub, 0, none⟩ = some (.int .i64 units)) := fun W hb => ⟨(hq.out.below hb).cell (j := 0) rfl, (hu.out.below hb).cell (j := 0) rfl⟩
            go_wp2_with fail
            go_region_held3 (fun W => W.cell? ⟨pb, 0, none⟩ = some (.slice A parts.length c) ∧ W.cell? ⟨ub, 0, none⟩ = some (.int .i64 units)) (first | (with_reducible exact hcs.out _ (Below.refl _ _)) | (with_reducible exact hcs.out _ (Below.refl _ _).drew) | (with_reducible exact hcs.out _ ((Below.refl _ _).drew.alloc (Nat.le_refl _) _)) | (with_reducible exact hcs.out _ (((Below.refl _ _).drew.alloc (Nat.le_refl _) _).alloc (by simp) _)) | go_keep) (fail)
            · skip
              have hb7 : Hid (Below wz.heap.size wz ((wz.alloc (.cells (madeCells #[.int .i64 0] parts.length) 3)).alloc (.cells (madeCells #[.int .i64 0] parts.length) 3)).drew) := (((Below.refl _ wz).alloc (Nat.le_refl _) _).alloc (by simp) _).drew
              have hz1 : Hid (RoI ((wz.alloc (.cells (madeCells #[.int .i64 0] parts.length) 3)).alloc (.cells (madeCells #[.int .i64 0] parts.length) 3)).drew wz.heap.size parts.length fun _ => 0) := ((RoI.made wz parts.length 3).below ((Below.refl _ _).alloc (Nat.le_refl _) _)).below (Below.refl _ _).drew
              have hz2 : Hid (RoI ((wz.alloc (.cells (madeCells #[.int .i64 0] parts.length) 3)).alloc (.cells (madeCells #[.int .i64 0] parts.length) 3)).drew (wz.heap.size + 1) parts.length fun _ => 0) := by have h := (RoI.made (wz.alloc (.cells (madeCells #[.int .i64 0] parts.length) 3)) parts.length 3).below (Below.refl _ _).drew; rw [World.size_alloc] at h; exact h
              have hl1 := hu.out.lt; have hl2 := hq.out.lt; have hl3 := hs.out.lt
              obtain ⟨rb, hrb⟩ : ∃ x, x = wz.heap.size + 1 := ⟨_, rfl⟩; obtain ⟨ob, hob⟩ : ∃ x, x = wz.heap.size := ⟨_, rfl⟩
              rw [← hrb] at hz2 ⊢
              rw [← hob] at hz1 ⊢
              have hO7 : Hid (RoI ((wz.alloc (.cells (madeCells #[.int .i64 0] parts.length) 3)).alloc (.cells (madeCells #[.int .i64 0] parts.length) 3)).drew ob parts.length (outK units parts 0)) := hz1.out.congr fun x _ => by unfold outK; rw [if_neg (Nat.not_lt_zero _)]
              have hR7 : Hid (RoI ((wz.alloc (.cells (madeCells #[.int .i64 0] parts.length) 3)).alloc (.cells (madeCells #[.int .i64 0] parts.length) 3)).drew rb parts.length (ordK 0)) := hz2.out.congr fun x _ => by unfold ordK; rw [if_neg (Nat.not_lt_zero _)]
              have hn1 : Hid (ob ≠ rb ∧ ub ≠ ob ∧ pb ≠ ob ∧ sb ≠ ob ∧ ub ≠ rb ∧ pb ≠ rb ∧ sb ≠ rb ∧ w.heap.size ≤ ob ∧ w.heap.size ≤ rb) := by have := hB.out.size; refine ⟨?_, ?_, ?_, ?_, ?_, ?_, ?_, ?_, ?_⟩ <;> omega
              have hAo : Hid (∀ b o, A = some ⟨b, o, none⟩ → b ≠ ob ∧ b ≠ rb) := fun b o e => by have := hA.out b o e h0.out; have := hB.out.size; constructor <;> omega
              have hB7 := Lib.hid (hB.out.trans (hb7.out.mono hB.out.size)); have hu7 := Lib.hid (hu.out.below hb7.out); have hq7 := Lib.hid (hq.out.below hb7.out); have hs7 := Lib.hid (hs.out.below hb7.out)
              replace hrb := Lib.hid hrb; replace hob := Lib.hid hob
              clear hz1 hz2 hl1 hl2 hl3 hb7 hB hu hq hs hsl s0 s9 u0 u9 q0 q9 hmk hBd hcs
              have q0 := hq7.out.cell (j := 0) rfl; have q9 := hq7.out.lt
              have hlk0 : Hid (units = leftK units parts 0) := by unfold leftK; show _ = units - sumI []; rw [sumI_nil]; omega
              go_wp2
              clear q0 q9
              go_loopw [11, 12, 13, 57] (fun lx _ _ ix wr => ∃ (k : Nat), k ≤ parts.length ∧ ix = .int .i64 (k : Int) ∧ lx = .int .i64 (leftK units parts k) ∧ Hid (Below w.heap.size w wr) ∧ Hid (Bk wr ub 3 [.int .i64 units]) ∧ Hid (Bk wr pb 24 [.slice A parts.length c]) ∧ Hid (Bk wr sb 3 [.int .i64 (sumI parts)]) ∧ Hid (RoI wr ob parts.length (outK units parts k)) ∧ Hid (RoI wr rb parts.length (ordK k))) (fun _ _ _ ix _ => parts.length - (intOf ix).toNat)
              case atStart => exact ⟨0, Nat.zero_le _, rfl, by rw [← hlk0.out], hB7, hu7, hq7, hs7, hO7, hR7⟩
              case round =>
                clear hB7 hu7 hq7 hs7 hO7 hR7 hlk0
                obtain ⟨k, hk, rfl, rfl, hB, hu, hq, hs, hO, hR⟩ := hrel
                obtain ⟨wy, rfl⟩ : ∃ z, z = wr := ⟨_, rfl⟩
                obtain ⟨n1, n2, n3, n4, n5, n6, n7, n8, n9⟩ := hn1.out
                by_cases hkl : k < parts.length
                · obtain ⟨vb, vo, rfl, hvl, hcc⟩ := (hpw.out wy hB.out) h0.out
                  have e1 := hcc k hkl
                  clear hcc
                  have j0 : (0 : Int) ≤ (k : Int) := by omega
                  have j1 : (k : Int) < (parts.length : Int) := by omega
                  have hgd : parts.getD k 0 = parts[k] := by simp [List.getD_eq_getElem?_getD, hkl]
                  have hml := mul_lim hSO.out k; have hft := flo_tdiv hSO.out k; have hfl := flo_lim hSO.out k; have hSs := hSO.out.s
                  rw [hgd] at hml hft
                  have hfe : units * parts[k] / sumI parts = flo units parts k := by rw [← hgd]; rfl
                  have hlk := leftK_succ (units := units) (parts := parts) k
                  have hsf := sum_flo_le hSO.out k hk
                  have hlb : -1000000000000 ≤ leftK units parts k ∧ leftK units parts k ≤ 1000000000000 := by unfold leftK; have := hSO.out.u; omega
                  have hos := Lib.hid (outK_succ (units := units) (parts := parts) k)
                  have hor := Lib.hid (ordK_succ k)
                  have s0 := hs.out.cell (j := 0) rfl; have s9 := hs.out.lt; have u0 := hu.out.cell (j := 0) rfl; have u9 := hu.out.lt
                  have o1 := hO.out.cell k hkl; have o2 := hO.out.fr k; have o3 := hO.out.lt; have r1 := hR.out.cell k hkl; have r2 := hR.out.fr k; have r3 := hR.out.lt
                  generalize outK units parts k k = ov at o1
                  generalize ordK k k = rv at r1
                  obtain ⟨f, hf⟩ : ∃ f, f = flo units parts k := ⟨_, rfl⟩
                  rw [← hf] at hft hfl hfe hlk hos
                  have hB2 : Hid (Below w.heap.size w ((wy.setCell ⟨ob, k, none⟩ (.int .i64 f)).setCell ⟨rb, k, none⟩ (.int .i64 (k : Int)))) := (hB.out.setCell (p := ⟨ob, k, none⟩) n8 _).setCell (p := ⟨rb, k, none⟩) n9 _
                  have hu2 : Hid (Bk ((wy.setCell ⟨ob, k, none⟩ (.int .i64 f)).setCell ⟨rb, k, none⟩ (.int .i64 (k : Int))) ub 3 [.int .i64 units]) := (hu.out.far (p := ⟨ob, k, none⟩) n2 _).far (p := ⟨rb, k, none⟩) n5 _
                  have hq2 : Hid (Bk ((wy.setCell ⟨ob, k, none⟩ (.int .i64 f)).setCell ⟨rb, k, none⟩ (.int .i64 (k : Int))) pb 24 [.slice (some ⟨vb, vo, none⟩) parts.length c]) := (hq.out.far (p := ⟨ob, k, none⟩) n3 _).far (p := ⟨rb, k, none⟩) n6 _
                  have hs2 : Hid (Bk ((wy.setCell ⟨ob, k, none⟩ (.int .i64 f)).setCell ⟨rb, k, none⟩ (.int .i64 (k : Int))) sb 3 [.int .i64 (sumI parts)]) := (hs.out.far (p := ⟨ob, k, none⟩) n4 _).far (p := ⟨rb, k, none⟩) n7 _
                  have hO2 : Hid (RoI ((wy.setCell ⟨ob, k, none⟩ (.int .i64 f)).setCell ⟨rb, k, none⟩ (.int .i64 (k : Int))) ob parts.length (outK units parts (k + 1))) := (((hO.out.set hkl f).congr fun x _ => hos.out x).grown (grown_set _ ⟨rb, k, none⟩ _) fun e => n1 (by cases e; rfl))
                  have hR2 : Hid (RoI ((wy.setCell ⟨ob, k, none⟩ (.int .i64 f)).setCell ⟨rb, k, none⟩ (.int .i64 (k : Int))) rb parts.length (ordK (k + 1))) := ((hR.out.grown (grown_set _ ⟨ob, k, none⟩ _) fun e => n1 (by cases e; rfl)).set hkl (k : Int)).congr fun x _ => hor.out x
                  generalize sumI parts = S at s0 hft hfe hSs hs2
                  generalize parts[k] = p at e1 hml hft hfe
                  have hS0 : (S == 0) = false := by rw [beq_eq_false_iff_ne]; omega
                  obtain ⟨ml0, ml1⟩ := hml
                  have hlk2 : leftK units parts k - f = leftK units parts (k + 1) := hlk.symm
                  generalize leftK units parts k = lv at hlb hlk2 ⊢
                  replace hlk := Lib.hid hlk
                  clear hsf hgd hlk hos hor
                  replace hf := Lib.hid hf
                  have n1b : rb ≠ ob := Ne.symm n1
                  go_wp2
                  exact ⟨⟨k + 1, by omega, by go_num, rfl, hB2, hu2, hq2, hs2, hO2, hR2⟩, by simp only [intOf]; omega⟩
                · obtain rfl : k = parts.length := by omega
                  have hba : Hid (Below wy.heap.size wy (wy.alloc (.cells #[.func (.func 52) #[] #[.pointer (some ⟨ub, 0, none⟩), .pointer (some ⟨pb, 0, none⟩), .pointer (some ⟨sb, 0, none⟩)]] 74))) := (Below.refl _ _).alloc (Nat.le_refl _) _
                  have hB10 := Lib.hid (hB.out.trans (hba.out.mono hB.out.size)); have hO10 := Lib.hid (hO.out.below hba.out); have hR10 : Hid (RoI (wy.alloc (.cells #[.func (.func 52) #[] #[.pointer (some ⟨ub, 0, none⟩), .pointer (some ⟨pb, 0, none⟩), .pointer (some ⟨sb, 0, none⟩)]] 74)) rb parts.length fun i => (i : Int)) := (hR.out.below hba.out).congr fun x hx => by unfold ordK; rw [if_pos hx]
                  have hf10 : Hid (Bk (wy.alloc (.cells #[.func (.func 52) #[] #[.pointer (some ⟨ub, 0, none⟩), .pointer (some ⟨pb, 0, none⟩), .pointer (some ⟨sb, 0, none⟩)]] 74)) wy.heap.size 74 [.func (.func 52) #[] #[.pointer (some ⟨ub, 0, none⟩), .pointer (some ⟨pb, 0, none⟩), .pointer (some ⟨sb, 0, none⟩)]]) := Bk.new _ _ _
                  have hfb : Hid (wy.heap.size ≠ rb) := by have := hR.out.lt; show _ ≠ _; omega
                  have hSp : Hid (SpIn (wy.alloc (.cells #[.func (.func 52) #[] #[.pointer (some ⟨ub, 0, none⟩), .pointer (some ⟨pb, 0, none⟩), .pointer (some ⟨sb, 0, none⟩)]] 74)) ub pb sb wy.heap.size units A c parts) := ⟨(hu.out.below hba.out).cell (j := 0) rfl, (hq.out.below hba.out).cell (j := 0) rfl, (hs.out.below hba.out).cell (j := 0) rfl, hf10.out.cell (j := 0) rfl, hpw.out _ hB10.out⟩
                  have ks := Lib.hid (sortS_any (rem units parts) ub pb sb wy.heap.size rb parts.length c units A parts (wy.alloc (.cells #[.func (.func 52) #[] #[.pointer (some ⟨ub, 0, none⟩), .pointer (some ⟨pb, 0, none⟩), .pointer (some ⟨sb, 0, none⟩)]] 74)) hSp.out hSO.out h80 hR10.out n5 n6 n7 hfb.out (fun b o e => (hAo.out b o e).2) rfl)
                  have hnx := hf10.out.lt
                  clear hba hR10 hSp hu hq hs hR
                  go_wp2_with fail
                  refine ks.out.mono ?_
                  rintro e w11 ⟨rfl, ⟨l', hSr, hlc⟩, hK⟩
                  have hB11 : Hid (Below w.heap.size w w11) := hK.to_below hB10.out fun x hx => by simp at hx; rw [hx]; exact n9
                  have hO11 : Hid (RoI w11 ob parts.length (addK units parts l' 0)) := (hO10.out.of_block hK.size (hK.block ob hO10.out.lt (by simpa using n1))).congr fun x hx => by rw [addK_zero]; unfold outK; rw [if_pos hx]
                  have hll : l'.length = parts.length := hSr.len
                  have hlc2 : Hid (∀ j (hj : j < l'.length), w11.cell? ⟨rb, j, none⟩ = some (.int .i64 (l'[j] : Int))) := hlc
                  have hrl : Hid (rb < w11.heap.size) := Nat.lt_of_lt_of_le (by have := hnx; have := n9; exact World.block_lt_of_cell? w11 _ (hlc 0 (by rw [hll]; exact h0.out))) (Nat.le_refl _)
                  have hnd : Hid (l'.Nodup) := hSr.2.imp fun {x y} h e => by subst e; exact bef_asymm h h
                  obtain ⟨q, hqe⟩ : ∃ q : Nat, q = (leftS units parts).toNat := ⟨_, rfl⟩
                  have hlbs := left_bounds hSO.out
                  have hlq : leftK units parts parts.length = (q : Int) := by rw [hqe]; show leftS units parts = _; omega
                  have hqn : q ≤ parts.length := by omega
                  have hall : Hid (∀ x, x < parts.length → addK units parts l' q x = flo units parts x + incS units parts x) := fun x hx => by rw [hqe]; exact addK_all hSO.out hSr hx
                  rw [hlq]
                  replace hqe := Lib.hid hqe; replace hlq := Lib.hid hlq
                  have hfl := Lib.hid (fun i => flo_lim hSO.out i)
                  clear hlbs hK hlc hO10 hB10 hf10 hfb ks hnx hO hB
                  have k0 : (0 : Int) ≤ (q : Int) := by omega
                  have k1 : (q : Int) ≤ (parts.length : Int) := by omega
                  have k2 : q ≤ parts.length := hqn
                  replace hll := Lib.hid hll; replace hSr := Lib.hid hSr
                  go_wp2
                  go_loopw [16, 89] (fun _ ix wr => ∃ (j : Nat), j ≤ q ∧ ix = .int .i64 (j : Int) ∧ Hid (Below w.heap.size w wr) ∧ Hid (RoI wr ob parts.length (addK units parts l' j)) ∧ Hid (∀ i (hi : i < l'.length), wr.cell? ⟨rb, i, none⟩ = some (.int .i64 (l'[i] : Int))) ∧ Hid (rb < wr.heap.size)) (fun _ ix _ => q - (intOf ix).toNat)
                  case atStart => exact ⟨0, Nat.zero_le _, rfl, hB11, hO11, hlc2, hrl⟩
                  case round =>
                    clear hB11 hO11 hlc2 hrl
                    obtain ⟨j, hj, rfl, hB, hO, hl, hr⟩ := hrel
                    obtain ⟨wx, rfl⟩ : ∃ z, z = wr := ⟨_, rfl⟩
                    by_cases hjq : j < q
                    · have hjl : j < l'.length := by have := hll.out; omega
                      have e1 := hl.out j hjl; have e9 := hr.out
                      have hxn : l'[j] < parts.length := hSr.out.mem.1 (List.getElem_mem hjl)
                      have hsc := Lib.hid (addK_succ (units := units) (parts := parts) hnd.out hjl)
                      have hxl : 0 ≤ addK units parts l' j l'[j] ∧ addK units parts l' j l'[j] ≤ 1000000000000000001 := by have := hfl.out l'[j]; unfold addK; split <;> omega
                      generalize l'[j] = x at e1 hxn hsc hxl
                      have o1 := hO.out.cell x hxn; have o2 := hO.out.fr x; have o9 := hO.out.lt
                      obtain ⟨av, hav⟩ : ∃ v, v = addK units parts l' j x := ⟨_, rfl⟩
                      rw [← hav] at o1 hsc hxl
                      replace hav := Lib.hid hav
                      have j0 : (0 : Int) ≤ (j : Int) := by omega
                      have j1 : (j : Int) < (q : Int) := by omega
                      have x0 : (0 : Int) ≤ (x : Int) := by omega
                      have x1 : (x : Int) < (parts.length : Int) := by omega
                      have hB2 : Hid (Below w.heap.size w (wx.setCell ⟨ob, x, none⟩ (.int .i64 (av + 1)))) := hB.out.setCell (p := ⟨ob, x, none⟩) n8 _
                      have hO2 : Hid (RoI (wx.setCell ⟨ob, x, none⟩ (.int .i64 (av + 1))) ob parts.length (addK units parts l' (j + 1))) := (hO.out.set hxn (av + 1)).congr fun y _ => hsc.out y
                      have hl2 : Hid (∀ i (hi : i < l'.length), (wx.setCell ⟨ob, x, none⟩ (.int .i64 (av + 1))).cell? ⟨rb, i, none⟩ = some (.int .i64 (l'[i] : Int))) := fun i hi => by rw [World.cell?_setCell_other _ _ _ _ (fun e => by injection e with e1 _; first | exact n1 e1 | exact n1 e1.symm)]; exact hl.out i hi
                      have hr2 : Hid (rb < (wx.setCell ⟨ob, x, none⟩ (.int .i64 (av + 1))).heap.size) := by have := hr.out; show rb < _; simpa using this
                      clear hsc
                      go_wp2
                      exact ⟨⟨j + 1, by omega, by go_num, hB2, hO2, hl2, hr2⟩, by simp only [intOf]; omega⟩
                    · obtain rfl : j = q := by omega
                      have hOf : Hid (RoI wx ob parts.length fun i => flo units parts i + incS units parts i) := hO.out.congr fun x hx => hall.out x hx
                      clear hall hO hl hfl
                      go_wp2
                      go_ret2
                      exact hPy.out _ _ ob hsok.out rfl hOf.out hB.out
            · skip
              have hb7 : Hid (Below wz.heap.size wz ((wz.alloc (.cells (madeCells #[.int .i64 0] parts.length) 3)).alloc (.cells (madeCells #[.int .i64 0] parts.length) 3)).drew) := (((Below.refl _ wz).alloc (Nat.le_refl _) _).alloc (by simp) _).drew
              have hz1 : Hid (RoI ((wz.alloc (.cells (madeCells #[.int .i64 0] parts.length) 3)).alloc (.cells (madeCells #[.int .i64 0] parts.length) 3)).drew wz.heap.size parts.length fun _ => 0) := ((RoI.made wz parts.length 3).below ((Below.refl _ _).alloc (Nat.le_refl _) _)).below (Below.refl _ _).drew
              have hz2 : Hid (RoI ((wz.alloc (.cells (madeCells #[.int .i64 0] parts.length) 3)).alloc (.cells (madeCells #[.int .i64 0] parts.length) 3)).drew (wz.heap.size + 1) parts.length fun _ => 0) := by have h := (RoI.made (wz.alloc (.cells (madeCells #[.int .i64 0] parts.length) 3)) parts.length 3).below (Below.refl _ _).drew; rw [World.size_alloc] at h; exact h
              have hl1 := hu.out.lt; have hl2 := hq.out.lt; have hl3 := hs.out.lt
              obtain ⟨rb, hrb⟩ : ∃ x, x = wz.heap.size := ⟨_, rfl⟩; obtain ⟨ob, hob⟩ : ∃ x, x = wz.heap.size + 1 := ⟨_, rfl⟩
              rw [← hob] at hz2 ⊢
              rw [← hrb] at hz1 ⊢
              have hO7 : Hid (RoI ((wz.alloc (.cells (madeCells #[.int .i64 0] parts.length) 3)).alloc (.cells (madeCells #[.int .i64 0] parts.length) 3)).drew ob parts.length (outK units parts 0)) := hz2.out.congr fun x _ => by unfold outK; rw [if_neg (Nat.not_lt_zero _)]
              have hR7 : Hid (RoI ((wz.alloc (.cells (madeCells #[.int .i64 0] parts.length) 3)).alloc (.cells (madeCells #[.int .i64 0] parts.length) 3)).drew rb parts.length (ordK 0)) := hz1.out.congr fun x _ => by unfold ordK; rw [if_neg (Nat.not_lt_zero _)]
              have hn1 : Hid (ob ≠ rb ∧ ub ≠ ob ∧ pb ≠ ob ∧ sb ≠ ob ∧ ub ≠ rb ∧ pb ≠ rb ∧ sb ≠ rb ∧ w.heap.size ≤ ob ∧ w.heap.size ≤ rb) := by have := hB.out.size; refine ⟨?_, ?_, ?_, ?_, ?_, ?_, ?_, ?_, ?_⟩ <;> omega
              have hAo : Hid (∀ b o, A = some ⟨b, o, none⟩ → b ≠ ob ∧ b ≠ rb) := fun b o e => by have := hA.out b o e h0.out; have := hB.out.size; constructor <;> omega
              have hB7 := Lib.hid (hB.out.trans (hb7.out.mono hB.out.size)); have hu7 := Lib.hid (hu.out.below hb7.out); have hq7 := Lib.hid (hq.out.below hb7.out); have hs7 := Lib.hid (hs.out.below hb7.out)
              replace hrb := Lib.hid hrb; replace hob := Lib.hid hob
              clear hz1 hz2 hl1 hl2 hl3 hb7 hB hu hq hs hsl s0 s9 u0 u9 q0 q9 hmk hBd hcs
              have q0 := hq7.out.cell (j := 0) rfl; have q9 := hq7.out.lt
              have hlk0 : Hid (units = leftK units parts 0) := by unfold leftK; show _ = units - sumI []; rw [sumI_nil]; omega
              go_wp2
              clear q0 q9
              go_loopw [11, 12, 13, 57] (fun lx _ _ ix wr => ∃ (k : Nat), k ≤ parts.length ∧ ix = .int .i64 (k : Int) ∧ lx = .int .i64 (leftK units parts k) ∧ Hid (Below w.heap.size w wr) ∧ Hid (Bk wr ub 3 [.int .i64 units]) ∧ Hid (Bk wr pb 24 [.slice A parts.length c]) ∧ Hid (Bk wr sb 3 [.int .i64 (sumI parts)]) ∧ Hid (RoI wr ob parts.length (outK units parts k)) ∧ Hid (RoI wr rb parts.length (ordK k))) (fun _ _ _ ix _ => parts.length - (intOf ix).toNat)
              case atStart => exact ⟨0, Nat.zero_le _, rfl, by rw [← hlk0.out], hB7, hu7, hq7, hs7, hO7, hR7⟩
              case round =>
                clear hB7 hu7 hq7 hs7 hO7 hR7 hlk0
                obtain ⟨k, hk, rfl, rfl, hB, hu, hq, hs, hO, hR⟩ := hrel
                obtain ⟨wy, rfl⟩ : ∃ z, z = wr := ⟨_, rfl⟩
                obtain ⟨n1, n2, n3, n4, n5, n6, n7, n8, n9⟩ := hn1.out
                by_cases hkl : k < parts.length
                · obtain ⟨vb, vo, rfl, hvl, hcc⟩ := (hpw.out wy hB.out) h0.out
                  have e1 := hcc k hkl
                  clear hcc
                  have j0 : (0 : Int) ≤ (k : Int) := by omega
                  have j1 : (k : Int) < (parts.length : Int) := by omega
                  have hgd : parts.getD k 0 = parts[k] := by simp [List.getD_eq_getElem?_getD, hkl]
                  have hml := mul_lim hSO.out k; have hft := flo_tdiv hSO.out k; have hfl := flo_lim hSO.out k; have hSs := hSO.out.s
                  rw [hgd] at hml hft
                  have hfe : units * parts[k] / sumI parts = flo units parts k := by rw [← hgd]; rfl
                  have hlk := leftK_succ (units := units) (parts := parts) k
                  have hsf := sum_flo_le hSO.out k hk
                  have hlb : -1000000000000 ≤ leftK units parts k ∧ leftK units parts k ≤ 1000000000000 := by unfold leftK; have := hSO.out.u; omega
                  have hos := Lib.hid (outK_succ (units := units) (parts := parts) k)
                  have hor := Lib.hid (ordK_succ k)
                  have s0 := hs.out.cell (j := 0) rfl; have s9 := hs.out.lt; have u0 := hu.out.cell (j := 0) rfl; have u9 := hu.out.lt
                  have o1 := hO.out.cell k hkl; have o2 := hO.out.fr k; have o3 := hO.out.lt; have r1 := hR.out.cell k hkl; have r2 := hR.out.fr k; have r3 := hR.out.lt
                  generalize outK units parts k k = ov at o1
                  generalize ordK k k = rv at r1
                  obtain ⟨f, hf⟩ : ∃ f, f = flo units parts k := ⟨_, rfl⟩
                  rw [← hf] at hft hfl hfe hlk hos
                  have hB2 : Hid (Below w.heap.size w ((wy.setCell ⟨ob, k, none⟩ (.int .i64 f)).setCell ⟨rb, k, none⟩ (.int .i64 (k : Int)))) := (hB.out.setCell (p := ⟨ob, k, none⟩) n8 _).setCell (p := ⟨rb, k, none⟩) n9 _
                  have hu2 : Hid (Bk ((wy.setCell ⟨ob, k, none⟩ (.int .i64 f)).setCell ⟨rb, k, none⟩ (.int .i64 (k : Int))) ub 3 [.int .i64 units]) := (hu.out.far (p := ⟨ob, k, none⟩) n2 _).far (p := ⟨rb, k, none⟩) n5 _
                  have hq2 : Hid (Bk ((wy.setCell ⟨ob, k, none⟩ (.int .i64 f)).setCell ⟨rb, k, none⟩ (.int .i64 (k : Int))) pb 24 [.slice (some ⟨vb, vo, none⟩) parts.length c]) := (hq.out.far (p := ⟨ob, k, none⟩) n3 _).far (p := ⟨rb, k, none⟩) n6 _
                  have hs2 : Hid (Bk ((wy.setCell ⟨ob, k, none⟩ (.int .i64 f)).setCell ⟨rb, k, none⟩ (.int .i64 (k : Int))) sb 3 [.int .i64 (sumI parts)]) := (hs.out.far (p := ⟨ob, k, none⟩) n4 _).far (p := ⟨rb, k, none⟩) n7 _
                  have hO2 : Hid (RoI ((wy.setCell ⟨ob, k, none⟩ (.int .i64 f)).setCell ⟨rb, k, none⟩ (.int .i64 (k : Int))) ob parts.length (outK units parts (k + 1))) := (((hO.out.set hkl f).congr fun x _ => hos.out x).grown (grown_set _ ⟨rb, k, none⟩ _) fun e => n1 (by cases e; rfl))
                  have hR2 : Hid (RoI ((wy.setCell ⟨ob, k, none⟩ (.int .i64 f)).setCell ⟨rb, k, none⟩ (.int .i64 (k : Int))) rb parts.length (ordK (k + 1))) := ((hR.out.grown (grown_set _ ⟨ob, k, none⟩ _) fun e => n1 (by cases e; rfl)).set hkl (k : Int)).congr fun x _ => hor.out x
                  generalize sumI parts = S at s0 hft hfe hSs hs2
                  generalize parts[k] = p at e1 hml hft hfe
                  have hS0 : (S == 0) = false := by rw [beq_eq_false_iff_ne]; omega
                  obtain ⟨ml0, ml1⟩ := hml
                  have hlk2 : leftK units parts k - f = leftK units parts (k + 1) := hlk.symm
                  generalize leftK units parts k = lv at hlb hlk2 ⊢
                  replace hlk := Lib.hid hlk
                  clear hsf hgd hlk hos hor
                  replace hf := Lib.hid hf
                  have n1b : rb ≠ ob := Ne.symm n1
                  go_wp2
                  exact ⟨⟨k + 1, by omega, by go_num, rfl, hB2, hu2, hq2, hs2, hO2, hR2⟩, by simp only [intOf]; omega⟩
                · obtain rfl : k = parts.length := by omega
                  have hba : Hid (Below wy.heap.size wy (wy.alloc (.cells #[.func (.func 52) #[] #[.pointer (some ⟨ub, 0, none⟩), .pointer (some ⟨pb, 0, none⟩), .pointer (some ⟨sb, 0, none⟩)]] 74))) := (Below.refl _ _).alloc (Nat.le_refl _) _
                  have hB10 := Lib.hid (hB.out.trans (hba.out.mono hB.out.size)); have hO10 := Lib.hid (hO.out.below hba.out); have hR10 : Hid (RoI (wy.alloc (.cells #[.func (.func 52) #[] #[.pointer (some ⟨ub, 0, none⟩), .pointer (some ⟨pb, 0, none⟩), .pointer (some ⟨sb, 0, none⟩)]] 74)) rb parts.length fun i => (i : Int)) := (hR.out.below hba.out).congr fun x hx => by unfold ordK; rw [if_pos hx]
                  have hf10 : Hid (Bk (wy.alloc (.cells #[.func (.func 52) #[] #[.pointer (some ⟨ub, 0, none⟩), .pointer (some ⟨pb, 0, none⟩), .pointer (some ⟨sb, 0, none⟩)]] 74)) wy.heap.size 74 [.func (.func 52) #[] #[.pointer (some ⟨ub, 0, none⟩), .pointer (some ⟨pb, 0, none⟩), .pointer (some ⟨sb, 0, none⟩)]]) := Bk.new _ _ _
                  have hfb : Hid (wy.heap.size ≠ rb) := by have := hR.out.lt; show _ ≠ _; omega
                  have hSp : Hid (SpIn (wy.alloc (.cells #[.func (.func 52) #[] #[.pointer (some ⟨ub, 0, none⟩), .pointer (some ⟨pb, 0, none⟩), .pointer (some ⟨sb, 0, none⟩)]] 74)) ub pb sb wy.heap.size units A c parts) := ⟨(hu.out.below hba.out).cell (j := 0) rfl, (hq.out.below hba.out).cell (j := 0) rfl, (hs.out.below hba.out).cell (j := 0) rfl, hf10.out.cell (j := 0) rfl, hpw.out _ hB10.out⟩
                  have ks := Lib.hid (sortS_any (rem units parts) ub pb sb wy.heap.size rb parts.length c units A parts (wy.alloc (.cells #[.func (.func 52) #[] #[.pointer (some ⟨ub, 0, none⟩), .pointer (some ⟨pb, 0, none⟩), .pointer (some ⟨sb, 0, none⟩)]] 74)) hSp.out hSO.out h80 hR10.out n5 n6 n7 hfb.out (fun b o e => (hAo.out b o e).2) rfl)
                  have hnx := hf10.out.lt
                  clear hba hR10 hSp hu hq hs hR
                  go_wp2_with fail
                  refine ks.out.mono ?_
                  rintro e w11 ⟨rfl, ⟨l', hSr, hlc⟩, hK⟩
                  have hB11 : Hid (Below w.heap.size w w11) := hK.to_below hB10.out fun x hx => by simp at hx; rw [hx]; exact n9
                  have hO11 : Hid (RoI w11 ob parts.length (addK units parts l' 0)) := (hO10.out.of_block hK.size (hK.block ob hO10.out.lt (by simpa using n1))).congr fun x hx => by rw [addK_zero]; unfold outK; rw [if_pos hx]
                  have hll : l'.length = parts.length := hSr.len
                  have hlc2 : Hid (∀ j (hj : j < l'.length), w11.cell? ⟨rb, j, none⟩ = some (.int .i64 (l'[j] : Int))) := hlc
                  have hrl : Hid (rb < w11.heap.size) := Nat.lt_of_lt_of_le (by have := hnx; have := n9; exact World.block_lt_of_cell? w11 _ (hlc 0 (by rw [hll]; exact h0.out))) (Nat.le_refl _)
                  have hnd : Hid (l'.Nodup) := hSr.2.imp fun {x y} h e => by subst e; exact bef_asymm h h
                  obtain ⟨q, hqe⟩ : ∃ q : Nat, q = (leftS units parts).toNat := ⟨_, rfl⟩
                  have hlbs := left_bounds hSO.out
                  have hlq : leftK units parts parts.length = (q : Int) := by rw [hqe]; show leftS units parts = _; omega
                  have hqn : q ≤ parts.length := by omega
                  have hall : Hid (∀ x, x < parts.length → addK units parts l' q x = flo units parts x + incS units parts x) := fun x hx => by rw [hqe]; exact addK_all hSO.out hSr hx
                  rw [hlq]
                  replace hqe := Lib.hid hqe; replace hlq := Lib.hid hlq
                  have hfl := Lib.hid (fun i => flo_lim hSO.out i)
                  clear hlbs hK hlc hO10 hB10 hf10 hfb ks hnx hO hB
                  have k0 : (0 : Int) ≤ (q : Int) := by omega
                  have k1 : (q : Int) ≤ (parts.length : Int) := by omega
                  have k2 : q ≤ parts.length := hqn
                  replace hll := Lib.hid hll; replace hSr := Lib.hid hSr
                  go_wp2
                  go_loopw [16, 89] (fun _ ix wr => ∃ (j : Nat), j ≤ q ∧ ix = .int .i64 (j : Int) ∧ Hid (Below w.heap.size w wr) ∧ Hid (RoI wr ob parts.length (addK units parts l' j)) ∧ Hid (∀ i (hi : i < l'.length), wr.cell? ⟨rb, i, none⟩ = some (.int .i64 (l'[i] : Int))) ∧ Hid (rb < wr.heap.size)) (fun _ ix _ => q - (intOf ix).toNat)
                  case atStart => exact ⟨0, Nat.zero_le _, rfl, hB11, hO11, hlc2, hrl⟩
                  case round =>
                    clear hB11 hO11 hlc2 hrl
                    obtain ⟨j, hj, rfl, hB, hO, hl, hr⟩ := hrel
                    obtain ⟨wx, rfl⟩ : ∃ z, z = wr := ⟨_, rfl⟩
                    by_cases hjq : j < q
                    · have hjl : j < l'.length := by have := hll.out; omega
                      have e1 := hl.out j hjl; have e9 := hr.out
                      have hxn : l'[j] < parts.length := hSr.out.mem.1 (List.getElem_mem hjl)
                      have hsc := Lib.hid (addK_succ (units := units) (parts := parts) hnd.out hjl)
                      have hxl : 0 ≤ addK units parts l' j l'[j] ∧ addK units parts l' j l'[j] ≤ 1000000000000000001 := by have := hfl.out l'[j]; unfold addK; split <;> omega
                      generalize l'[j] = x at e1 hxn hsc hxl
                      have o1 := hO.out.cell x hxn; have o2 := hO.out.fr x; have o9 := hO.out.lt
                      obtain ⟨av, hav⟩ : ∃ v, v = addK units parts l' j x := ⟨_, rfl⟩
                      rw [← hav] at o1 hsc hxl
                      replace hav := Lib.hid hav
                      have j0 : (0 : Int) ≤ (j : Int) := by omega
                      have j1 : (j : Int) < (q : Int) := by omega
                      have x0 : (0 : Int) ≤ (x : Int) := by omega
                      have x1 : (x : Int) < (parts.length : Int) := by omega
                      have hB2 : Hid (Below w.heap.size w (wx.setCell ⟨ob, x, none⟩ (.int .i64 (av + 1)))) := hB.out.setCell (p := ⟨ob, x, none⟩) n8 _
                      have hO2 : Hid (RoI (wx.setCell ⟨ob, x, none⟩ (.int .i64 (av + 1))) ob parts.length (addK units parts l' (j + 1))) := (hO.out.set hxn (av + 1)).congr fun y _ => hsc.out y
                      have hl2 : Hid (∀ i (hi : i < l'.length), (wx.setCell ⟨ob, x, none⟩ (.int .i64 (av + 1))).cell? ⟨rb, i, none⟩ = some (.int .i64 (l'[i] : Int))) := fun i hi => by rw [World.cell?_setCell_other _ _ _ _ (fun e => by injection e with e1 _; first | exact n1 e1 | exact n1 e1.symm)]; exact hl.out i hi
                      have hr2 : Hid (rb < (wx.setCell ⟨ob, x, none⟩ (.int .i64 (av + 1))).heap.size) := by have := hr.out; show rb < _; simpa using this
                      clear hsc
                      go_wp2
                      exact ⟨⟨j + 1, by omega, by go_num, hB2, hO2, hl2, hr2⟩, by simp only [intOf]; omega⟩
                    · obtain rfl : j = q := by omega
                      have hOf : Hid (RoI wx ob parts.length fun i => flo units parts i + incS units parts i) := hO.out.congr fun x hx => hall.out x hx
                      clear hall hO hl hfl
                      go_wp2
                      go_ret2
                      exact hPy.out _ _ ob hsok.out rfl hOf.out hB.out
end Mo
end Go.Proofs.YtpmlhgmmobpilaaGreatDoor

namespace Go.Proofs.YtpmlhgmmobpilaaGreatDoor
open Go.RowKit Go.Shelf
namespace Mo
open Nt Ci
set_option maxRecDepth 100000 in
set_option maxHeartbeats 4000000 in
theorem Ints8_any (A B : Option Addr) (ca cb : Nat) (a b : List Int) (w : World) (hA : InInt w A a) (hB : InInt w B b) (ha : a.length ≤ 140737488355328) :
    Calls Tryz.prog 16 #[.slice A a.length ca, .slice B b.length cb] w fun e w' => e = .returned (.bool (decide (a = b))) ∧ ∃ q, w' = w.drewN q := by
  by_cases hl : a.length = b.length
  · have hN := Lib.hid (fun (k : Nat) (h1 : k < a.length) (h2 : k < b.length) => ints_ne (a := a) (b := b) h1 h2)
    have hY := Lib.hid (ints_eq (a := a) (b := b) hl)
    rw [← hl]
    have m1 : ((a.length : Int) != (a.length : Int)) = false := by simp
    replace hl := Lib.hid hl
    replace hA := Lib.hid hA
    replace hB := Lib.hid hB
    go_enter Tryz.func16, Tryz.ntmps16
    go_wp2
    go_loopw [5] (fun i wr => ∃ k q : Nat, k ≤ a.length ∧ i = .int .i64 (k : Int) ∧ wr = w.drewN q ∧ Hid (∀ j (h1 : j < a.length) (h2 : j < b.length), j < k → a[j] = b[j])) (fun i _ => a.length - (intOf i).toNat)
    case atStart => exact ⟨0, 0, Nat.zero_le _, rfl, rfl, fun j _ _ h => absurd h (Nat.not_lt_zero _)⟩
    case round =>
      obtain ⟨k, q, hk, rfl, rfl, hI⟩ := hrel
      by_cases hlt : k < a.length
      · have hlb : k < b.length := by rw [← hl.out]; exact hlt
        obtain ⟨b1, o1, rfl, hb1, hc1⟩ := hA.out (by omega)
        obtain ⟨b2, o2, rfl, hb2, hc2⟩ := hB.out (by omega)
        have e1 : (w.drewN q).cell? ⟨b1, o1 + k, none⟩ = some (.int .i64 a[k]) := hc1 k hlt
        have e2 : (w.drewN q).cell? ⟨b2, o2 + k, none⟩ = some (.int .i64 b[k]) := hc2 k hlb
        have hNk := Lib.hid (hN.out k hlt hlb)
        have hIk : Hid (a[k] = b[k] → ∀ j (h1 : j < a.length) (h2 : j < b.length), j < k + 1 → a[j] = b[j]) := fun h j h1 h2 h3 => by
          by_cases e : j = k
          · subst e; exact h
          · exact hI.out j h1 h2 (by omega)
        obtain ⟨x, hx⟩ : ∃ x, x = a[k] := ⟨_, rfl⟩
        obtain ⟨y, hy⟩ : ∃ y, y = b[k] := ⟨_, rfl⟩
        rw [← hx] at e1 hNk hIk
        rw [← hy] at e2 hNk hIk
        have j0 : (0 : Int) ≤ (k : Int) := by omega
        have j1 : (k : Int) < (a.length : Int) := by omega
        clear hc1 hc2 hI hx hy
        generalize hwq : w.drewN q = wq at *
        replace hwq := Lib.hid hwq
        by_cases hxy : x = y
        · have m2 : (x != y) = false := by rw [bne_eq_false_iff_eq]; exact hxy
          have hI2 := Lib.hid (hIk.out hxy)
          replace hxy := Lib.hid hxy
          go_wp2_with fail
          go_quiet (fail)
          go_wp2
          refine ⟨⟨k + 1, q + nq, by omega, by go_num, by rw [← hwq.out, World.drewN_drewN], hI2⟩, by simp only [intOf]; omega⟩
        · have m2 : (x != y) = true := by rw [bne_iff_ne]; exact hxy
          have hG := Lib.hid (hNk.out hxy)
          replace hxy := Lib.hid hxy
          go_wp2_with fail
          go_quiet (fail)
          go_wp2
          go_ret
          exact ⟨ret_bool hG.out.symm, q + nq, by rw [← hwq.out, World.drewN_drewN]⟩
      · obtain rfl : k = a.length := by omega
        have hG := Lib.hid (hY.out fun j h1 h2 => hI.out j h1 h2 h1)
        generalize hwq : w.drewN q = wq at *
        replace hwq := Lib.hid hwq
        go_wp2
        go_ret
        exact ⟨ret_bool hG.out.symm, q, hwq.out.symm⟩
  · have hG : Hid (decide (a = b) = false) := decide_eq_false fun e => hl (by rw [e])
    have h1 : ((a.length : Int) == (b.length : Int)) = false := by rw [beq_eq_false_iff_ne]; omega
    have h2 : ((a.length : Int) != (b.length : Int)) = true := by rw [bne_iff_ne]; omega
    have h3 : (a.length == b.length) = false := by rw [beq_eq_false_iff_ne]; exact hl
    clear hA hB
    go_enter Tryz.func16, Tryz.ntmps16
    go_wp2
    go_ret
    exact ⟨ret_bool hG.out.symm, 0, rfl⟩
end Mo
end Go.Proofs.YtpmlhgmmobpilaaGreatDoor

namespace Go.Proofs.YtpmlhgmmobpilaaGreatDoor
open Go.RowKit Go.Shelf
namespace Mo
open Nt Ci
set_option maxRecDepth 100000 in
theorem of_any (m n : Int) (w : World) (hE : Env w) (hm0 : -9223372036854775808 ≤ m) (hm1 : m ≤ 9223372036854775807) (hn0 : -9223372036854775808 ≤ n) (hn1 : n ≤ 9223372036854775807) (h0 : n ≠ 0) :
    Calls Tryz.prog 18 #[.int .i64 m, .int .i64 n] w fun e w' => e = .returned (qv (ofQ m n)) ∧ Below w.heap.size w w' := by
  obtain ⟨g, x, d, q0⟩ := agg_qv (ofQ m n)
  have hB1 : Hid (Below w.heap.size w (w.alloc (.cells #[.bool false, .string ⟨#[]⟩, .string ⟨#[]⟩] 23))) := (Below.refl _ w).alloc (Nat.le_refl _) _
  have hr1 : Hid (Bk (w.alloc (.cells #[.bool false, .string ⟨#[]⟩, .string ⟨#[]⟩] 23)) w.heap.size 23 [.bool false, .string ⟨#[]⟩, .string ⟨#[]⟩]) := Bk.new w _ _
  have ko : Hid (Calls Tryz.prog 46 #[.int .i64 m, .int .i64 n] (w.alloc (.cells #[.bool false, .string ⟨#[]⟩, .string ⟨#[]⟩] 23)) fun e w' => e = .returned (.tuple #[.agg #[.bool g, .string x, .string d], .int .i64 0]) ∧ Below (w.alloc (.cells #[.bool false, .string ⟨#[]⟩, .string ⟨#[]⟩] 23)).heap.size (w.alloc (.cells #[.bool false, .string ⟨#[]⟩, .string ⟨#[]⟩] 23)) w') := by
    have h := RatOf_any m n hm0 hm1 hn0 hn1 h0 _ (hE.below hB1.out)
    rw [q0] at h
    exact h
  rw [q0]
  clear hE
  go_enter Tryz.func18, Tryz.ntmps18
  go_wp2_with fail
  refine ko.out.mono ?_
  rintro e w2 ⟨rfl, hb⟩
  have hB2 := Lib.hid (hB1.out.trans (hb.mono hB1.out.size))
  have hr2 := Lib.hid (hr1.out.below hb)
  clear hb hB1 hr1 ko
  have r0 := hr2.out.cell (j := 0) rfl; have r1 := hr2.out.cell (j := 1) rfl; have r2 := hr2.out.cell (j := 2) rfl
  have f0 := hr2.out.frozen 0; have f1 := hr2.out.frozen 1; have f2 := hr2.out.frozen 2
  have r9 := hr2.out.lt
  have hB5 : Hid (Below w.heap.size w ((((w2.setCell ⟨w.heap.size, 0, none⟩ (.bool g)).setCell ⟨w.heap.size, 1, none⟩ (.string x)).setCell ⟨w.heap.size, 2, none⟩ (.string d)).alloc (.cells #[.bool g, .string x, .string d] 23))) := by
    have h := ((hB2.out.setCell (p := ⟨w.heap.size, 0, none⟩) (Nat.le_refl _) (.bool g)).setCell (p := ⟨w.heap.size, 1, none⟩) (Nat.le_refl _) (.string x)).setCell (p := ⟨w.heap.size, 2, none⟩) (Nat.le_refl _) (.string d)
    exact h.alloc h.size _
  have hR5 : Hid (Bk ((((w2.setCell ⟨w.heap.size, 0, none⟩ (.bool g)).setCell ⟨w.heap.size, 1, none⟩ (.string x)).setCell ⟨w.heap.size, 2, none⟩ (.string d)).alloc (.cells #[.bool g, .string x, .string d] 23)) w.heap.size 23 [.bool g, .string x, .string d]) := (((hr2.out.set 0 (.bool g)).set 1 (.string x)).set 2 (.string d)).alloc _
  go_wp2
  (try simp only [Exit.inBlock, Exit.then])
  have s0 := hR5.out.cell (j := 0) rfl; have s1 := hR5.out.cell (j := 1) rfl; have s2 := hR5.out.cell (j := 2) rfl
  have s9 := hR5.out.lt
  refine bodyPost_ret (v := .agg #[.bool g, .string x, .string d]) (by simp [results, Tryz.results18, go_sem, s0, s1, s2]) rfl ⟨rfl, hB5.out⟩
def ratesL : List Rt := [(⟨#[85, 83, 68]⟩, 10, 4, 5), (⟨#[85, 83, 68]⟩, 0, 9, 10), (⟨#[67, 72, 70]⟩, 0, 1, 1)]
set_option maxRecDepth 100000 in
theorem rates_any (w : World) : Calls Tryz.prog 43 #[] w fun e w' => (e = .returned (.slice (some ⟨w.heap.size, 0, none⟩) 3 3) ∧ InRt w' (some ⟨w.heap.size, 0, none⟩) ratesL ∧ w.heap.size < w'.heap.size) ∧ Below w.heap.size w w' := by
  have hb := Lib.hid (Bk.new w 42 [.string ⟨#[85, 83, 68]⟩, .int .i64 10, .int .i64 4, .int .i64 5, .string ⟨#[85, 83, 68]⟩, .int .i64 0, .int .i64 9, .int .i64 10, .string ⟨#[67, 72, 70]⟩, .int .i64 0, .int .i64 1, .int .i64 1])
  have hB1 : Hid (Below w.heap.size w (w.alloc (.cells #[.string ⟨#[85, 83, 68]⟩, .int .i64 10, .int .i64 4, .int .i64 5, .string ⟨#[85, 83, 68]⟩, .int .i64 0, .int .i64 9, .int .i64 10, .string ⟨#[67, 72, 70]⟩, .int .i64 0, .int .i64 1, .int .i64 1] 42))) := (Below.refl _ w).alloc (Nat.le_refl _) _
  have hI : Hid (InRt (w.alloc (.cells #[.string ⟨#[85, 83, 68]⟩, .int .i64 10, .int .i64 4, .int .i64 5, .string ⟨#[85, 83, 68]⟩, .int .i64 0, .int .i64 9, .int .i64 10, .string ⟨#[67, 72, 70]⟩, .int .i64 0, .int .i64 1, .int .i64 1] 42)) (some ⟨w.heap.size, 0, none⟩) ratesL) := fun _ => ⟨w.heap.size, 0, rfl, hb.out.lt, fun j hj => by
    match j, hj with
    | 0, _ => exact ⟨hb.out.cell (j := 0) rfl, hb.out.cell (j := 1) rfl, hb.out.cell (j := 2) rfl, hb.out.cell (j := 3) rfl⟩
    | 1, _ => exact ⟨hb.out.cell (j := 4) rfl, hb.out.cell (j := 5) rfl, hb.out.cell (j := 6) rfl, hb.out.cell (j := 7) rfl⟩
    | 2, _ => exact ⟨hb.out.cell (j := 8) rfl, hb.out.cell (j := 9) rfl, hb.out.cell (j := 10) rfl, hb.out.cell (j := 11) rfl⟩
    | j + 3, hj => exact absurd hj (by simp [ratesL])⟩
  have hl := Lib.hid hb.out.lt
  clear hb
  go_enter Tryz.func43, Tryz.ntmps43
  go_wp2
  go_ret
  exact ⟨⟨rfl, hI.out, hl.out⟩, hB1.out⟩
theorem rates_sz : RtSz ratesL := by
  intro x hx
  simp only [ratesL, List.mem_cons, List.mem_nil_iff, or_false] at hx
  rcases hx with rfl | rfl | rfl <;> decide
set_option maxRecDepth 100000 in
set_option maxHeartbeats 4000000 in
theorem head1_any (c tc : ByteArray) (u day m n : Int) (lb : Nat) (A : Option Addr) (w : World) (hE : Env w) (hlb : w.cell? ⟨lb, 0, none⟩ = some (.slice A 3 3)) (hA : InRt w A ratesL) (hc : c.size ≤ 100) (ht : tc.size ≤ 100) (hm : -1000 ≤ m ∧ m ≤ 1000) (hn : 1 ≤ n ∧ n ≤ 1000) (hv : convR ratesL ⟨#[69, 85, 82]⟩ c u tc day = (some (ofQ m n), 0)) :
    Calls Tryz.prog 44 #[.string c, .int .i64 u, .string tc, .int .i64 day, .int .i64 m, .int .i64 n, .pointer (some ⟨lb, 0, none⟩)] w fun e w' => e = .returned (.bool true) ∧ Below w.heap.size w w' := by
  obtain ⟨g, x, d, q0⟩ := agg_qv (ofQ m n)
  have kc : Hid (Calls Tryz.prog 17 #[.slice A 3 3, .string ⟨#[69, 85, 82]⟩, .agg #[.string c, .int .i64 u], .string tc, .int .i64 day] w fun e w' => e = .returned (.tuple #[.agg #[.bool g, .string x, .string d], .int .i64 0]) ∧ Below w.heap.size w w') := by
    have h := Convert_any ratesL A 3 ⟨#[69, 85, 82]⟩ c u tc day w hE hA (by decide) (by decide) (by omega) (by omega) rates_sz
    rw [hv] at h
    rw [show cvV (some (ofQ m n), (0 : Int)).1 = .agg #[.bool g, .string x, .string d] from q0] at h
    exact h
  have ko : Hid (∀ W, Env W → Calls Tryz.prog 18 #[.int .i64 m, .int .i64 n] W fun e w' => e = .returned (.agg #[.bool g, .string x, .string d]) ∧ Below W.heap.size W w') := fun W hW => by
    have h := of_any m n W hW (by omega) (by omega) (by omega) (by omega) (by omega)
    rw [q0] at h
    exact h
  have hll := World.block_lt_of_cell? w _ hlb
  replace hE := Lib.hid hE
  clear hA hv q0
  go_enter Tryz.func44, Tryz.ntmps44
  go_wp2_with fail
  refine kc.out.mono ?_
  rintro e w2 ⟨rfl, hb⟩
  have hB3 : Hid (Below w.heap.size w (w2.alloc (.cells #[.bool g, .string x, .string d] 23))) := hb.alloc hb.size _
  have hr3 : Hid (Bk (w2.alloc (.cells #[.bool g, .string x, .string d] 23)) w2.heap.size 23 [.bool g, .string x, .string d]) := Bk.new _ _ _
  clear hb kc hlb hll
  go_wp2_with fail
  obtain ⟨w3, hw3⟩ : ∃ W, W = w2.alloc (.cells #[.bool g, .string x, .string d] 23) := ⟨_, rfl⟩
  rw [← hw3] at hB3 hr3 ⊢
  obtain ⟨rb, hrb⟩ : ∃ x, x = w2.heap.size := ⟨_, rfl⟩
  rw [← hrb] at hr3 ⊢
  replace hw3 := Lib.hid hw3; replace hrb := Lib.hid hrb
  have hB3d : Hid (Below w.heap.size w w3.drew) := hB3.out.drew
  have r0 := hr3.out.cell (j := 0) rfl; have r1 := hr3.out.cell (j := 1) rfl; have r2 := hr3.out.cell (j := 2) rfl; have r9 := hr3.out.lt
  have hS : Hid (∀ W, Below w3.heap.size w3 W → W.cell? ⟨rb, 0, none⟩ = some (.bool g) ∧ W.cell? ⟨rb, 1, none⟩ = some (.string x) ∧ W.cell? ⟨rb, 2, none⟩ = some (.string d)) := fun W hb => ⟨(hr3.out.below hb).cell (j := 0) rfl, (hr3.out.below hb).cell (j := 1) rfl, (hr3.out.below hb).cell (j := 2) rfl⟩
  go_region_held3 (fun W => W.cell? ⟨rb, 0, none⟩ = some (.bool g) ∧ W.cell? ⟨rb, 1, none⟩ = some (.string x) ∧ W.cell? ⟨rb, 2, none⟩ = some (.string d)) (first | (with_reducible exact hS.out _ (Below.refl _ _)) | (with_reducible exact hS.out _ (Below.refl _ _).drew) | (with_reducible exact hS.out _ hb4.out) | go_keep) (first | (refine (ko.out _ (hE.out.below hB3d.out)).mono ?_; rintro e w4 ⟨rfl, hb⟩; have hB4 := Lib.hid (hB3d.out.trans (hb.mono hB3d.out.size)); have hb4 : Hid (Below w3.heap.size w3 w4) := ((Below.refl _ w3).drew.trans (hb.mono (Nat.le_refl _))); clear hb))
  go_wp2
  go_ret
  exact ⟨by simp, hB4.out⟩
theorem hv1 : convR ratesL ⟨#[69, 85, 82]⟩ ⟨#[85, 83, 68]⟩ 100 ⟨#[69, 85, 82]⟩ 9 = (some (ofQ 90 1), 0) := by decide +kernel
theorem hv2 : convR ratesL ⟨#[69, 85, 82]⟩ ⟨#[85, 83, 68]⟩ 100 ⟨#[69, 85, 82]⟩ 10 = (some (ofQ 80 1), 0) := by decide +kernel
theorem hv3 : convR ratesL ⟨#[69, 85, 82]⟩ ⟨#[69, 85, 82]⟩ 10 ⟨#[85, 83, 68]⟩ 10 = (some (ofQ 25 2), 0) := by decide +kernel
theorem hv4 : convR ratesL ⟨#[69, 85, 82]⟩ ⟨#[67, 72, 70]⟩ 9 ⟨#[85, 83, 68]⟩ 0 = (some (ofQ 10 1), 0) := by decide +kernel
theorem hf1 : findR ratesL ⟨#[69, 85, 82]⟩ ⟨#[71, 66, 80]⟩ 5 = (noR, 11) := by decide +kernel
theorem hr1 : roundV (ofQ 5 2) = (2, 0) := by decide +kernel
theorem hr2 : roundV (ofQ 7 2) = (4, 0) := by decide +kernel
theorem hr3 : roundV (ofQ (-5) 2) = (-2, 0) := by decide +kernel
theorem hs1 : splitL 10 [1, 1, 1] = [4, 3, 3] := by decide +kernel
theorem he1 : splitE 10 [1, 1, 1] = 0 := by decide +kernel
theorem hs2 : splitL 7 [0, 2, 1] = [0, 5, 2] := by decide +kernel
theorem he2 : splitE 7 [0, 2, 1] = 0 := by decide +kernel
theorem sh1 : ShortQ (ofQ 5 2) := (ofQ_dg (by decide) (by decide)).short (by omega)
theorem sh2 : ShortQ (ofQ 7 2) := (ofQ_dg (by decide) (by decide)).short (by omega)
theorem sh3 : ShortQ (ofQ (-5) 2) := by
  have h := mkRat_le (sg (!(decide ((-5 : Int) < 0) == decide ((2 : Int) < 0))) (-5 : Int).natAbs) (2 : Int).natAbs (by decide)
  have d : Dg 7 (ofQ (-5) 2) := ⟨Nat.lt_of_le_of_lt h.1 (by rw [sg_natAbs]; decide), Nat.lt_of_le_of_lt h.2 (by decide)⟩
  exact d.short (by omega)
/-- A slice of three ints that was just laid. -/
theorem in3 (w : World) (a b c : Int) : InInt (w.alloc (.cells #[.int .i64 a, .int .i64 b, .int .i64 c] 3)) (some ⟨w.heap.size, 0, none⟩) [a, b, c] := fun _ => by
  have h := Bk.new w 3 [.int .i64 a, .int .i64 b, .int .i64 c]
  refine ⟨w.heap.size, 0, rfl, h.lt, fun j hj => ?_⟩
  match j, hj with
  | 0, _ => exact h.cell (j := 0) rfl
  | 1, _ => exact h.cell (j := 1) rfl
  | 2, _ => exact h.cell (j := 2) rfl
  | j + 3, hj => exact absurd hj (by simp)
set_option maxRecDepth 100000 in
set_option maxHeartbeats 8000000 in
theorem head8_any (w : World) (hE : Env w) : Calls Tryz.prog 11 #[] w fun e w' => e = .returned (.bool true) ∧ Below w.heap.size w w' := by
  replace hE := Lib.hid hE
  have hB0 : Hid (Below w.heap.size w w) := Below.refl _ _
  have kr := Lib.hid (rates_any w)
  go_enter Tryz.func11, Tryz.ntmps11
  go_wp2_with fail
  refine kr.out.mono ?_
  rintro e w1 ⟨⟨rfl, hI1, hlt⟩, hb⟩
  have hB1 := Lib.hid hb; replace hI1 := Lib.hid hI1; clear hb kr hB0
  have hbb : Hid (Below w1.heap.size w1 (w1.alloc (.cells #[.slice (some ⟨w.heap.size, 0, none⟩) 3 3] 33))) := (Below.refl _ _).alloc (Nat.le_refl _) _
  have hBb := Lib.hid (hB1.out.trans (hbb.out.mono hB1.out.size))
  have hIb := Lib.hid (hI1.out.below hbb.out)
  clear hbb hB1 hI1
  have hLb : Hid (Bk (w1.alloc (.cells #[.slice (some ⟨w.heap.size, 0, none⟩) 3 3] 33)) w1.heap.size 33 [.slice (some ⟨w.heap.size, 0, none⟩) 3 3]) := Bk.new _ _ _
  obtain ⟨lb, hlb⟩ : ∃ x, x = w1.heap.size := ⟨_, rfl⟩
  have kf : Hid (Calls Tryz.prog 21 #[.slice (some ⟨w.heap.size, 0, none⟩) 3 3, .string ⟨#[69, 85, 82]⟩, .string ⟨#[71, 66, 80]⟩, .int .i64 5] (w1.alloc (.cells #[.slice (some ⟨w.heap.size, 0, none⟩) 3 3] 33)) fun e w' => e = .returned (.tuple #[.agg #[.string ⟨#[]⟩, .int .i64 0, .int .i64 0, .int .i64 0], .int .i64 11]) ∧ Below ((w1.alloc (.cells #[.slice (some ⟨w.heap.size, 0, none⟩) 3 3] 33))).heap.size (w1.alloc (.cells #[.slice (some ⟨w.heap.size, 0, none⟩) 3 3] 33)) w') := by have h := Find_any ratesL (some ⟨w.heap.size, 0, none⟩) 3 ⟨#[69, 85, 82]⟩ ⟨#[71, 66, 80]⟩ 5 (w1.alloc (.cells #[.slice (some ⟨w.heap.size, 0, none⟩) 3 3] 33)) hIb.out (by decide) (by decide) (by decide) rates_sz; rw [hf1] at h; exact h
  have l0 := hLb.out.cell (j := 0) rfl; have l9 := hLb.out.lt
  go_wp2_with fail
  refine kf.out.mono ?_
  rintro e w2 ⟨rfl, hb⟩
  clear kf l0 l9 hlt
  have hB2 := Lib.hid (hBb.out.trans (hb.mono hBb.out.size))
  have hI2 := Lib.hid (hIb.out.below hb)
  have hL2 := Lib.hid (hLb.out.below hb)
  clear hb hBb hIb hLb
  rw [← hlb] at hL2
  (try rw [← hlb])
  replace hlb := Lib.hid hlb
  have hbb : Hid (Below w2.heap.size w2 (w2.alloc (.cells #[.string ⟨#[]⟩, .int .i64 0, .int .i64 0, .int .i64 0] 42))) := (Below.refl _ _).alloc (Nat.le_refl _) _
  have hBb := Lib.hid (hB2.out.trans (hbb.out.mono hB2.out.size))
  have hIb := Lib.hid (hI2.out.below hbb.out)
  have hLb := Lib.hid (hL2.out.below hbb.out)
  clear hbb hB2 hI2 hL2
  obtain ⟨g0, x0, d0, q0⟩ := agg_qv (ofQ 5 2)
  have ko : Hid (Calls Tryz.prog 18 #[.int .i64 5, .int .i64 2] (w2.alloc (.cells #[.string ⟨#[]⟩, .int .i64 0, .int .i64 0, .int .i64 0] 42)) fun e w' => e = .returned (.agg #[.bool g0, .string x0, .string d0]) ∧ Below ((w2.alloc (.cells #[.string ⟨#[]⟩, .int .i64 0, .int .i64 0, .int .i64 0] 42))).heap.size (w2.alloc (.cells #[.string ⟨#[]⟩, .int .i64 0, .int .i64 0, .int .i64 0] 42)) w') := by have h := of_any 5 2 (w2.alloc (.cells #[.string ⟨#[]⟩, .int .i64 0, .int .i64 0, .int .i64 0] 42)) (hE.out.below hBb.out) (by decide) (by decide) (by decide) (by decide) (by decide); rw [q0] at h; exact h
  go_wp2_with fail
  refine ko.out.mono ?_
  rintro e w3 ⟨rfl, hb⟩
  clear ko
  have hB3 := Lib.hid (hBb.out.trans (hb.mono hBb.out.size))
  have hI3 := Lib.hid (hIb.out.below hb)
  have hL3 := Lib.hid (hLb.out.below hb)
  clear hb hBb hIb hLb
  have ko : Hid (Calls Tryz.prog 12 #[.agg #[.bool g0, .string x0, .string d0]] w3 fun e w' => e = .returned (.tuple #[.int .i64 2, .int .i64 0]) ∧ Below w3.heap.size w3 w') := by have h := Round_short (ofQ 5 2) sh1 w3 (hE.out.below hB3.out); rw [hr1, q0] at h; exact h
  go_wp2_with fail
  refine ko.out.mono ?_
  rintro e w4 ⟨rfl, hb⟩
  clear ko q0
  have hB4 := Lib.hid (hB3.out.trans (hb.mono hB3.out.size))
  have hI4 := Lib.hid (hI3.out.below hb)
  have hL4 := Lib.hid (hL3.out.below hb)
  clear hb hB3 hI3 hL3
  obtain ⟨g1, x1, d1, q1⟩ := agg_qv (ofQ 7 2)
  have ko : Hid (Calls Tryz.prog 18 #[.int .i64 7, .int .i64 2] w4 fun e w' => e = .returned (.agg #[.bool g1, .string x1, .string d1]) ∧ Below (w4).heap.size w4 w') := by have h := of_any 7 2 w4 (hE.out.below hB4.out) (by decide) (by decide) (by decide) (by decide) (by decide); rw [q1] at h; exact h
  go_wp2_with fail
  refine ko.out.mono ?_
  rintro e w5 ⟨rfl, hb⟩
  clear ko
  have hB5 := Lib.hid (hB4.out.trans (hb.mono hB4.out.size))
  have hI5 := Lib.hid (hI4.out.below hb)
  have hL5 := Lib.hid (hL4.out.below hb)
  clear hb hB4 hI4 hL4
  have ko : Hid (Calls Tryz.prog 12 #[.agg #[.bool g1, .string x1, .string d1]] w5 fun e w' => e = .returned (.tuple #[.int .i64 4, .int .i64 0]) ∧ Below w5.heap.size w5 w') := by have h := Round_short (ofQ 7 2) sh2 w5 (hE.out.below hB5.out); rw [hr2, q1] at h; exact h
  go_wp2_with fail
  refine ko.out.mono ?_
  rintro e w6 ⟨rfl, hb⟩
  clear ko q1
  have hB6 := Lib.hid (hB5.out.trans (hb.mono hB5.out.size))
  have hI6 := Lib.hid (hI5.out.below hb)
  have hL6 := Lib.hid (hL5.out.below hb)
  clear hb hB5 hI5 hL5
  obtain ⟨g2, x2, d2, q2⟩ := agg_qv (ofQ (-5) 2)
  have ko : Hid (Calls Tryz.prog 18 #[.int .i64 (-5), .int .i64 2] w6 fun e w' => e = .returned (.agg #[.bool g2, .string x2, .string d2]) ∧ Below (w6).heap.size w6 w') := by have h := of_any (-5) 2 w6 (hE.out.below hB6.out) (by decide) (by decide) (by decide) (by decide) (by decide); rw [q2] at h; exact h
  go_wp2_with fail
  refine ko.out.mono ?_
  rintro e w7 ⟨rfl, hb⟩
  clear ko
  have hB7 := Lib.hid (hB6.out.trans (hb.mono hB6.out.size))
  have hI7 := Lib.hid (hI6.out.below hb)
  have hL7 := Lib.hid (hL6.out.below hb)
  clear hb hB6 hI6 hL6
  have ko : Hid (Calls Tryz.prog 12 #[.agg #[.bool g2, .string x2, .string d2]] w7 fun e w' => e = .returned (.tuple #[.int .i64 (-2), .int .i64 0]) ∧ Below w7.heap.size w7 w') := by have h := Round_short (ofQ (-5) 2) sh3 w7 (hE.out.below hB7.out); rw [hr3, q2] at h; exact h
  go_wp2_with fail
  refine ko.out.mono ?_
  rintro e w8 ⟨rfl, hb⟩
  clear ko q2
  have hB8 := Lib.hid (hB7.out.trans (hb.mono hB7.out.size))
  have hI8 := Lib.hid (hI7.out.below hb)
  have hL8 := Lib.hid (hL7.out.below hb)
  clear hb hB7 hI7 hL7
  have hT : Hid (InInt (w8.alloc (.cells #[.int .i64 1, .int .i64 1, .int .i64 1] 3)) (some ⟨w8.heap.size, 0, none⟩) [1, 1, 1]) := in3 _ _ _ _
  have hbb : Hid (Below w8.heap.size w8 (w8.alloc (.cells #[.int .i64 1, .int .i64 1, .int .i64 1] 3))) := (Below.refl _ _).alloc (Nat.le_refl _) _
  have hBb := Lib.hid (hB8.out.trans (hbb.out.mono hB8.out.size))
  have hIb := Lib.hid (hI8.out.below hbb.out)
  have hLb := Lib.hid (hL8.out.below hbb.out)
  clear hbb hB8 hI8 hL8
  have ks : Hid (Calls Tryz.prog 14 #[.int .i64 10, .slice (some ⟨w8.heap.size, 0, none⟩) 3 3] (w8.alloc (.cells #[.int .i64 1, .int .i64 1, .int .i64 1] 3)) (SpPost 10 [1, 1, 1] (w8.alloc (.cells #[.int .i64 1, .int .i64 1, .int .i64 1] 3)))) := Split_any 10 (some ⟨w8.heap.size, 0, none⟩) 3 [1, 1, 1] (w8.alloc (.cells #[.int .i64 1, .int .i64 1, .int .i64 1] 3)) hT.out (by decide)
  go_wp2_with fail
  refine ks.out.mono ?_
  rintro e w9 ⟨⟨B0, c0, he, hin⟩, hb⟩
  rw [hs1, he1] at he; rw [hs1] at hin
  obtain rfl := he
  replace hin := Lib.hid hin
  clear ks hT
  have hB9 := Lib.hid (hBb.out.trans (hb.mono hBb.out.size))
  have hI9 := Lib.hid (hIb.out.below hb)
  have hL9 := Lib.hid (hLb.out.below hb)
  clear hb hBb hIb hLb
  have hPa9 := hin; clear hin
  have hT : Hid (InInt (w9.alloc (.cells #[.int .i64 0, .int .i64 2, .int .i64 1] 3)) (some ⟨w9.heap.size, 0, none⟩) [0, 2, 1]) := in3 _ _ _ _
  have hbb : Hid (Below w9.heap.size w9 (w9.alloc (.cells #[.int .i64 0, .int .i64 2, .int .i64 1] 3))) := (Below.refl _ _).alloc (Nat.le_refl _) _
  have hBb := Lib.hid (hB9.out.trans (hbb.out.mono hB9.out.size))
  have hIb := Lib.hid (hI9.out.below hbb.out)
  have hLb := Lib.hid (hL9.out.below hbb.out)
  have hPab := Lib.hid (hPa9.out.below hbb.out)
  clear hbb hB9 hI9 hL9 hPa9
  have ks : Hid (Calls Tryz.prog 14 #[.int .i64 7, .slice (some ⟨w9.heap.size, 0, none⟩) 3 3] (w9.alloc (.cells #[.int .i64 0, .int .i64 2, .int .i64 1] 3)) (SpPost 7 [0, 2, 1] (w9.alloc (.cells #[.int .i64 0, .int .i64 2, .int .i64 1] 3)))) := Split_any 7 (some ⟨w9.heap.size, 0, none⟩) 3 [0, 2, 1] (w9.alloc (.cells #[.int .i64 0, .int .i64 2, .int .i64 1] 3)) hT.out (by decide)
  go_wp2_with fail
  refine ks.out.mono ?_
  rintro e w10 ⟨⟨B1, c1, he, hin⟩, hb⟩
  rw [hs2, he2] at he; rw [hs2] at hin
  obtain rfl := he
  replace hin := Lib.hid hin
  clear ks hT
  have hB10 := Lib.hid (hBb.out.trans (hb.mono hBb.out.size))
  have hI10 := Lib.hid (hIb.out.below hb)
  have hL10 := Lib.hid (hLb.out.below hb)
  have hPa10 := Lib.hid (hPab.out.below hb)
  clear hb hBb hIb hLb hPab
  have hPb10 := hin; clear hin
  have kh := Lib.hid (head1_any ⟨#[85, 83, 68]⟩ ⟨#[69, 85, 82]⟩ 100 9 90 1 lb (some ⟨w.heap.size, 0, none⟩) w10 (hE.out.below hB10.out) (hL10.out.cell (j := 0) rfl) hI10.out (by decide) (by decide) (by decide) (by decide) hv1)
  go_wp2_with fail
  refine kh.out.mono ?_
  rintro e w11 ⟨rfl, hb⟩
  clear kh
  have hB11 := Lib.hid (hB10.out.trans (hb.mono hB10.out.size))
  have hI11 := Lib.hid (hI10.out.below hb)
  have hL11 := Lib.hid (hL10.out.below hb)
  have hPa11 := Lib.hid (hPa10.out.below hb)
  have hPb11 := Lib.hid (hPb10.out.below hb)
  clear hb hB10 hI10 hL10 hPa10 hPb10
  have kh := Lib.hid (head1_any ⟨#[85, 83, 68]⟩ ⟨#[69, 85, 82]⟩ 100 10 80 1 lb (some ⟨w.heap.size, 0, none⟩) w11 (hE.out.below hB11.out) (hL11.out.cell (j := 0) rfl) hI11.out (by decide) (by decide) (by decide) (by decide) hv2)
  go_wp2_with fail
  refine kh.out.mono ?_
  rintro e w12 ⟨rfl, hb⟩
  clear kh
  have hB12 := Lib.hid (hB11.out.trans (hb.mono hB11.out.size))
  have hI12 := Lib.hid (hI11.out.below hb)
  have hL12 := Lib.hid (hL11.out.below hb)
  have hPa12 := Lib.hid (hPa11.out.below hb)
  have hPb12 := Lib.hid (hPb11.out.below hb)
  clear hb hB11 hI11 hL11 hPa11 hPb11
  have kh := Lib.hid (head1_any ⟨#[69, 85, 82]⟩ ⟨#[85, 83, 68]⟩ 10 10 25 2 lb (some ⟨w.heap.size, 0, none⟩) w12 (hE.out.below hB12.out) (hL12.out.cell (j := 0) rfl) hI12.out (by decide) (by decide) (by decide) (by decide) hv3)
  go_wp2_with fail
  refine kh.out.mono ?_
  rintro e w13 ⟨rfl, hb⟩
  clear kh
  have hB13 := Lib.hid (hB12.out.trans (hb.mono hB12.out.size))
  have hI13 := Lib.hid (hI12.out.below hb)
  have hL13 := Lib.hid (hL12.out.below hb)
  have hPa13 := Lib.hid (hPa12.out.below hb)
  have hPb13 := Lib.hid (hPb12.out.below hb)
  clear hb hB12 hI12 hL12 hPa12 hPb12
  have kh := Lib.hid (head1_any ⟨#[67, 72, 70]⟩ ⟨#[85, 83, 68]⟩ 9 0 10 1 lb (some ⟨w.heap.size, 0, none⟩) w13 (hE.out.below hB13.out) (hL13.out.cell (j := 0) rfl) hI13.out (by decide) (by decide) (by decide) (by decide) hv4)
  go_wp2_with fail
  refine kh.out.mono ?_
  rintro e w14 ⟨rfl, hb⟩
  clear kh
  have hB14 := Lib.hid (hB13.out.trans (hb.mono hB13.out.size))
  have hI14 := Lib.hid (hI13.out.below hb)
  have hL14 := Lib.hid (hL13.out.below hb)
  have hPa14 := Lib.hid (hPa13.out.below hb)
  have hPb14 := Lib.hid (hPb13.out.below hb)
  clear hb hB13 hI13 hL13 hPa13 hPb13
  have hT : Hid (InInt (w14.alloc (.cells #[.int .i64 4, .int .i64 3, .int .i64 3] 3)) (some ⟨w14.heap.size, 0, none⟩) [4, 3, 3]) := in3 _ _ _ _
  have hbb : Hid (Below w14.heap.size w14 (w14.alloc (.cells #[.int .i64 4, .int .i64 3, .int .i64 3] 3))) := (Below.refl _ _).alloc (Nat.le_refl _) _
  have hBb := Lib.hid (hB14.out.trans (hbb.out.mono hB14.out.size))
  have hIb := Lib.hid (hI14.out.below hbb.out)
  have hLb := Lib.hid (hL14.out.below hbb.out)
  have hPab := Lib.hid (hPa14.out.below hbb.out)
  have hPbb := Lib.hid (hPb14.out.below hbb.out)
  clear hbb hB14 hI14 hL14 hPa14 hPb14
  have ki : Hid (Calls Tryz.prog 16 #[.slice B0 3 c0, .slice (some ⟨w14.heap.size, 0, none⟩) 3 3] (w14.alloc (.cells #[.int .i64 4, .int .i64 3, .int .i64 3] 3)) fun e w' => e = .returned (.bool true) ∧ Below ((w14.alloc (.cells #[.int .i64 4, .int .i64 3, .int .i64 3] 3))).heap.size (w14.alloc (.cells #[.int .i64 4, .int .i64 3, .int .i64 3] 3)) w') := (Ints8_any B0 (some ⟨w14.heap.size, 0, none⟩) c0 3 [4, 3, 3] [4, 3, 3] (w14.alloc (.cells #[.int .i64 4, .int .i64 3, .int .i64 3] 3)) hPab.out hT.out (by decide)).mono fun e w' h => ⟨by rw [h.1, decide_eq_true rfl], by obtain ⟨q, rfl⟩ := h.2; exact blw_drewN (Below.refl _ _) q⟩
  go_wp2_with fail
  refine ki.out.mono ?_
  rintro e w15 ⟨rfl, hb⟩
  clear ki hT
  have hB15 := Lib.hid (hBb.out.trans (hb.mono hBb.out.size))
  have hI15 := Lib.hid (hIb.out.below hb)
  have hL15 := Lib.hid (hLb.out.below hb)
  have hPa15 := Lib.hid (hPab.out.below hb)
  have hPb15 := Lib.hid (hPbb.out.below hb)
  clear hb hBb hIb hLb hPab hPbb
  have hT : Hid (InInt (w15.alloc (.cells #[.int .i64 0, .int .i64 5, .int .i64 2] 3)) (some ⟨w15.heap.size, 0, none⟩) [0, 5, 2]) := in3 _ _ _ _
  have hbb : Hid (Below w15.heap.size w15 (w15.alloc (.cells #[.int .i64 0, .int .i64 5, .int .i64 2] 3))) := (Below.refl _ _).alloc (Nat.le_refl _) _
  have hBb := Lib.hid (hB15.out.trans (hbb.out.mono hB15.out.size))
  have hIb := Lib.hid (hI15.out.below hbb.out)
  have hLb := Lib.hid (hL15.out.below hbb.out)
  have hPab := Lib.hid (hPa15.out.below hbb.out)
  have hPbb := Lib.hid (hPb15.out.below hbb.out)
  clear hbb hB15 hI15 hL15 hPa15 hPb15
  have ki : Hid (Calls Tryz.prog 16 #[.slice B1 3 c1, .slice (some ⟨w15.heap.size, 0, none⟩) 3 3] (w15.alloc (.cells #[.int .i64 0, .int .i64 5, .int .i64 2] 3)) fun e w' => e = .returned (.bool true) ∧ Below ((w15.alloc (.cells #[.int .i64 0, .int .i64 5, .int .i64 2] 3))).heap.size (w15.alloc (.cells #[.int .i64 0, .int .i64 5, .int .i64 2] 3)) w') := (Ints8_any B1 (some ⟨w15.heap.size, 0, none⟩) c1 3 [0, 5, 2] [0, 5, 2] (w15.alloc (.cells #[.int .i64 0, .int .i64 5, .int .i64 2] 3)) hPbb.out hT.out (by decide)).mono fun e w' h => ⟨by rw [h.1, decide_eq_true rfl], by obtain ⟨q, rfl⟩ := h.2; exact blw_drewN (Below.refl _ _) q⟩
  go_wp2_with fail
  refine ki.out.mono ?_
  rintro e w16 ⟨rfl, hb⟩
  clear ki hT
  have hB16 := Lib.hid (hBb.out.trans (hb.mono hBb.out.size))
  have hI16 := Lib.hid (hIb.out.below hb)
  have hL16 := Lib.hid (hLb.out.below hb)
  have hPa16 := Lib.hid (hPab.out.below hb)
  have hPb16 := Lib.hid (hPbb.out.below hb)
  clear hb hBb hIb hLb hPab hPbb
  go_wp2
  go_ret
  exact ⟨rfl, hB16.out⟩
end Mo
end Go.Proofs.YtpmlhgmmobpilaaGreatDoor

namespace Go.Proofs.YtpmlhgmmobpilaaGreatDoor
namespace Mo
section
variable {units : Int} {parts : List Int}
/-- The remainders when t units are handed out, and what each has then. -/
def rankR (units : Int) (parts : List Int) (x : Nat) : Nat := rankS (fun j => - rem units parts j) parts.length x
def restT (units : Int) (parts : List Int) (t x : Nat) : Int := if rankR units parts x < t then -1 else rem units parts x
def outT (units : Int) (parts : List Int) (t x : Nat) : Int := flo units parts x + if rankR units parts x < t then 1 else 0
/-- best is the first greatest of the remainders before i. -/
def BestT (units : Int) (parts : List Int) (t i best : Nat) : Prop := best < i ∧ ∀ j, j < i → restT units parts t j ≤ restT units parts t best ∧ (restT units parts t j = restT units parts t best → best ≤ j)
theorem rank_inj {l : List Nat} {o : Nat → Int} {n i j : Nat} (hl : Srt o n l) (hi : i < n) (hj : j < n) (e : rankS o n i = rankS o n j) : i = j := by
  by_cases c : i = j
  · exact c
  · rcases bef_total (o := o) c with b | b
    · have := rank_lt_of hi hj b hl; omega
    · have := rank_lt_of hj hi b hl; omega
theorem best_next (h : SplitOk units parts) {t best : Nat} (ht : t < parts.length) (hb : BestT units parts t parts.length best) : rankR units parts best = t := by
  obtain ⟨l, hl⟩ := srt_ex (fun j => - rem units parts j) parts.length
  have htl : t < l.length := by rw [hl.len]; exact ht
  have hxn : l[t] < parts.length := hl.mem.1 (List.getElem_mem htl)
  have hr : rankR units parts l[t] = t := hl.rank htl
  obtain ⟨hbn, hb2⟩ := hb
  obtain ⟨a1, a2⟩ := hb2 _ hxn
  have e1 : restT units parts t l[t] = rem units parts l[t] := by unfold restT; rw [if_neg (by omega)]
  have h0 := (flo_rem h l[t]).2.1
  rw [e1] at a1 a2
  have hnb : ¬ rankR units parts best < t := fun c => by
    unfold restT at a1
    rw [if_pos c] at a1
    omega
  have e2 : restT units parts t best = rem units parts best := by unfold restT; rw [if_neg hnb]
  rw [e2] at a1 a2
  by_cases c : rankR units parts best = t
  · exact c
  · exfalso
    have hne : l[t] ≠ best := fun e => by rw [← e] at c; exact c hr
    rcases bef_total (o := fun j => - rem units parts j) hne with b | b
    · unfold Bef at b
      dsimp only at b
      rcases b with b | ⟨b, b2⟩
      · omega
      · have := a2 (by omega); omega
    · have := rank_lt_of hbn hxn b hl
      unfold rankR at hr hnb
      omega
theorem rank_ne (_ : SplitOk units parts) {t best x : Nat} (hr : rankR units parts best = t) (hx : x < parts.length) (hb : best < parts.length) : rankR units parts x < t + 1 ↔ rankR units parts x < t ∨ x = best := by
  obtain ⟨l, hl⟩ := srt_ex (fun j => - rem units parts j) parts.length
  constructor
  · intro c
    by_cases d : rankR units parts x < t
    · exact .inl d
    · exact .inr (rank_inj hl hx hb (by unfold rankR at c d hr; omega))
  · rintro (c | rfl) <;> omega
theorem outT_zero {x : Nat} : outT units parts 0 x = flo units parts x := by unfold outT; rw [if_neg (by omega)]; omega
theorem restT_zero {x : Nat} : restT units parts 0 x = rem units parts x := by unfold restT; rw [if_neg (by omega)]
theorem outT_succ (h : SplitOk units parts) {t best x : Nat} (hr : rankR units parts best = t) (hx : x < parts.length) (hb : best < parts.length) : outT units parts (t + 1) x = if x = best then outT units parts t best + 1 else outT units parts t x := by
  have hn := rank_ne h hr hx hb
  unfold outT
  by_cases e : x = best
  · subst e; rw [if_pos (by omega), if_pos rfl, if_neg (by omega)]; omega
  · rw [if_neg e]
    by_cases c : rankR units parts x < t
    · rw [if_pos c, if_pos (hn.2 (.inl c))]
    · rw [if_neg c, if_neg fun d => (hn.1 d).elim c e]
theorem restT_succ (h : SplitOk units parts) {t best x : Nat} (hr : rankR units parts best = t) (hx : x < parts.length) (hb : best < parts.length) : restT units parts (t + 1) x = if x = best then -1 else restT units parts t x := by
  have hn := rank_ne h hr hx hb
  unfold restT
  by_cases e : x = best
  · subst e; rw [if_pos (by omega), if_pos rfl]
  · rw [if_neg e]
    by_cases c : rankR units parts x < t
    · rw [if_pos c, if_pos (hn.2 (.inl c))]
    · rw [if_neg c, if_neg fun d => (hn.1 d).elim c e]
theorem outT_all (h : SplitOk units parts) {x : Nat} : outT units parts (leftS units parts).toNat x = flo units parts x + incS units parts x := by
  have := left_bounds h
  unfold outT incS rankR
  by_cases c : rankS (fun j => - rem units parts j) parts.length x < (leftS units parts).toNat
  · rw [if_pos c, if_pos (by omega)]
  · rw [if_neg c, if_neg (by omega)]
end
end Mo
end Go.Proofs.YtpmlhgmmobpilaaGreatDoor

namespace Go.Proofs.YtpmlhgmmobpilaaGreatDoor
open Go.RowKit Go.Shelf
namespace Mo
open Nt Ci
def remK (units : Int) (parts : List Int) (k x : Nat) : Int := if x < k then rem units parts x else 0
theorem remK_succ {units : Int} {parts : List Int} (k : Nat) (x : Nat) : setI (remK units parts k) k (rem units parts k) x = remK units parts (k + 1) x := by
  unfold setI remK
  by_cases c : x = k
  · rw [if_pos c, c, if_pos (Nat.lt_succ_self _)]
  · rw [if_neg c]
    by_cases d : x < k
    · rw [if_pos d, if_pos (by omega)]
    · rw [if_neg d, if_neg (by omega)]
theorem restT_lim {units : Int} {parts : List Int} (h : SplitOk units parts) (t i : Nat) : -1 ≤ restT units parts t i ∧ restT units parts t i ≤ 400000000 := by
  have := rem_lim h i
  unfold restT
  split <;> omega
theorem outT_lim {units : Int} {parts : List Int} (h : SplitOk units parts) (t i : Nat) : 0 ≤ outT units parts t i ∧ outT units parts t i ≤ 1000000000000000001 := by
  have := flo_lim h i
  unfold outT
  split <;> omega
theorem best_step {units : Int} {parts : List Int} {t i b : Nat} (h : BestT units parts t i b) : BestT units parts t (i + 1) (if restT units parts t b < restT units parts t i then i else b) := by
  obtain ⟨h1, h2⟩ := h
  by_cases c : restT units parts t b < restT units parts t i
  · rw [if_pos c]
    refine ⟨Nat.lt_succ_self _, fun j hj => ?_⟩
    by_cases e : j = i
    · subst e; exact ⟨Int.le_refl _, fun _ => Nat.le_refl _⟩
    · have := h2 j (by omega); exact ⟨by omega, fun e2 => by omega⟩
  · rw [if_neg c]
    refine ⟨by omega, fun j hj => ?_⟩
    by_cases e : j = i
    · subst e
      exact ⟨by omega, fun _ => by omega⟩
    · exact h2 j (by omega)
set_option maxRecDepth 100000 in
set_option maxHeartbeats 16000000 in
theorem RSplit_any (units : Int) (A : Option Addr) (c : Nat) (parts : List Int) (w : World) (hp : InInt w A parts) (h80 : parts.length < 80) :
    Calls Tryz.prog 15 #[.int .i64 units, .slice A parts.length c] w (SpPost units parts w) := by
  have hbd := Lib.hid (fun (k : Nat) (h : k < parts.length) hb => splitOk_bad (units := units) h hb)
  have hof := Lib.hid (fun h => splitOk_of (units := units) (parts := parts) h)
  have hlm := Lib.hid (fun k hk h => sum_lim (parts := parts) k hk h)
  have hPn : Hid (∀ (e : Ending) (W : World), splitOk units parts = false → e = .returned (.tuple #[.slice none 0 0, .int .i64 1]) → Below w.heap.size w W → SpPost units parts w e W) := fun e W h1 h2 h3 => ⟨⟨none, 0, by rw [(split_no h1).1, (split_no h1).2]; exact h2, by rw [(split_no h1).1]; exact fun h => absurd h (by simp)⟩, h3⟩
  have hPy : Hid (∀ (e : Ending) (W : World) (ob : Nat), splitOk units parts = true → e = .returned (.tuple #[.slice (some ⟨ob, 0, none⟩) parts.length parts.length, .int .i64 0]) → RoI W ob parts.length (fun i => flo units parts i + incS units parts i) → Below w.heap.size w W → SpPost units parts w e W) := fun e W ob h1 h2 h3 h4 => ⟨⟨some ⟨ob, 0, none⟩, parts.length, by rw [(split_yes h1).1, (split_yes h1).2, split_len]; exact h2, by rw [(split_yes h1).1]; exact h3.inInt⟩, h4⟩
  have hpw := Lib.hid (fun W (hb : Below w.heap.size w W) => hp.below hb)
  clear hp
  have hn80 : parts.length ≤ 400 := by omega
  have m4 : decide (400 < (parts.length : Int)) = false := decide_eq_false (by omega); have m4n : decide (400 < parts.length) = false := decide_eq_false (by omega)
  have hB0 : Hid (Below w.heap.size w w) := Below.refl _ _
  by_cases c1 : units < 0
  · have m1 : decide (units < 0) = true := decide_eq_true c1
    have hno1 : splitOk units parts = false := by unfold splitOk; rw [decide_eq_false (by omega : ¬ (0 ≤ units ∧ units ≤ 1000000000000))]; simp
    replace hno1 := Lib.hid hno1
    clear hbd hof hlm
    go_enter Tryz.func15, Tryz.ntmps15
    go_wp2
    go_ret2
    exact hPn.out _ _ hno1.out rfl hB0.out
  · have m1 : decide (units < 0) = false := decide_eq_false c1
    by_cases c2 : 1000000000000 < units
    · have m2 : decide (1000000000000 < units) = true := decide_eq_true c2
      have hno1 : splitOk units parts = false := by unfold splitOk; rw [decide_eq_false (by omega : ¬ (0 ≤ units ∧ units ≤ 1000000000000))]; simp
      replace hno1 := Lib.hid hno1
      clear hbd hof hlm
      go_enter Tryz.func15, Tryz.ntmps15
      go_wp2
      go_ret2
      exact hPn.out _ _ hno1.out rfl hB0.out
    · have m2 : decide (1000000000000 < units) = false := decide_eq_false c2
      go_enter Tryz.func15, Tryz.ntmps15
      go_wp2_with fail
      go_loopw [6, 7] (fun sx ix wr => wr = w ∧ ∃ (k : Nat), k ≤ parts.length ∧ sx = .int .i64 (sumI (parts.take k)) ∧ ix = .int .i64 (k : Int) ∧ Hid (∀ i (h : i < parts.length), i < k → 0 ≤ parts[i] ∧ parts[i] ≤ 1000000)) (fun _ ix _ => parts.length - (intOf ix).toNat)
      case atStart => exact ⟨rfl, 0, Nat.zero_le _, rfl, rfl, fun i _ h => absurd h (Nat.not_lt_zero _)⟩
      case round =>
        obtain ⟨rfl, k, hk, rfl, rfl, hI⟩ := hrel
        obtain ⟨wz, rfl⟩ : ∃ z, z = wr := ⟨_, rfl⟩
        have hsl := hlm.out k hk hI.out
        by_cases hkl : k < parts.length
        · obtain ⟨vb, vo, rfl, hvl, hcc⟩ := (hpw.out wz hB0.out) (by omega)
          have e1 := hcc k hkl
          clear hcc
          have hst := sumI_take hkl
          have hbk := Lib.hid (hbd.out k hkl)
          have j0 : (0 : Int) ≤ (k : Int) := by omega
          have j1 : (k : Int) < (parts.length : Int) := by omega
          have hAl : Hid (0 ≤ parts[k] ∧ parts[k] ≤ 1000000 → ∀ i (h : i < parts.length), i < k + 1 → 0 ≤ parts[i] ∧ parts[i] ≤ 1000000) := fun h i hi h2 => by
            by_cases e : i = k
            · subst e; exact h
            · exact hI.out i hi (by omega)
          generalize parts[k] = p at e1 hbk hAl hst
          generalize sumI (parts.take k) = S at hsl hst ⊢
          obtain ⟨T, hT⟩ : ∃ T, T = sumI (parts.take (k + 1)) := ⟨_, rfl⟩
          rw [← hT] at hst
          have hst2 : Value.int .i64 (S + p) = .int .i64 (sumI (parts.take (k + 1))) := by rw [← hT, hst]
          replace hst2 := Lib.hid hst2
          replace hT := Lib.hid hT
          replace hst := Lib.hid hst
          by_cases d1 : p < 0
          · have q1 : decide (p < 0) = true := decide_eq_true d1
            have hno1 : Hid (splitOk units parts = false) := hbk.out fun h => by omega
            clear hAl
            go_wp2
            go_ret2
            exact hPn.out _ _ hno1.out rfl hB0.out
          · have q1 : decide (p < 0) = false := decide_eq_false d1
            by_cases d2 : 1000000 < p
            · have q2 : decide (1000000 < p) = true := decide_eq_true d2
              have hno1 : Hid (splitOk units parts = false) := hbk.out fun h => by omega
              clear hAl
              go_wp2
              go_ret2
              exact hPn.out _ _ hno1.out rfl hB0.out
            · have q2 : decide (1000000 < p) = false := decide_eq_false d2
              have hI2 := Lib.hid (hAl.out ⟨by omega, by omega⟩)
              clear hAl hbk hI
              go_wp2
              exact ⟨⟨(by first | rfl | trivial), k + 1, by omega, hst2.out, by go_num, hI2⟩, by simp only [intOf]; omega⟩
        · obtain rfl : k = parts.length := by omega
          rw [List.take_length] at hsl
          rw [List.take_length]
          have hok := hof.out fun i hi => hI.out i hi hi
          rw [decide_eq_true hn80, Bool.and_true, decide_eq_true (by omega : 0 ≤ units ∧ units ≤ 1000000000000), Bool.true_and] at hok
          clear hI hbd hof hlm
          by_cases c3 : sumI parts = 0
          · have m3 : (sumI parts == 0) = true := by rw [beq_iff_eq]; exact c3
            have hno1 : splitOk units parts = false := by rw [hok]; simp [c3]
            replace hno1 := Lib.hid hno1
            clear hok
            replace c3 := Lib.hid c3
            go_wp2
            go_ret2
            exact hPn.out _ _ hno1.out rfl hB0.out
          · have m3 : (sumI parts == 0) = false := by rw [beq_eq_false_iff_ne]; exact c3
            have hsok : splitOk units parts = true := by rw [hok, decide_eq_true c3]
            have hSO := splitOk_iff hsok
            clear hok
            have h0 : 0 < parts.length := by
              cases parts with
              | nil => exact absurd rfl c3
              | cons a l => simp
            have hmk := run_make_row' (P := Tryz.prog) 24 3 (.int .i64 0) 8 Tryz.underlying24 Ci.infoI rfl .i64 .i64 parts.length (by omega) (by omega)
            replace hsok := Lib.hid hsok; replace hSO := Lib.hid hSO; replace c3 := Lib.hid c3; replace h0 := Lib.hid h0
            obtain ⟨ob, hob⟩ : ∃ x, x = wz.heap.size := ⟨_, rfl⟩
            obtain ⟨rb, hrb⟩ : ∃ x, x = wz.heap.size + 1 := ⟨_, rfl⟩
            obtain ⟨W7, hW7⟩ : ∃ W, W = (wz.alloc (.cells (madeCells #[.int .i64 0] parts.length) 3)).alloc (.cells (madeCells #[.int .i64 0] parts.length) 3) := ⟨_, rfl⟩
            have hB7 : Below wz.heap.size wz W7 := by rw [hW7]; exact ((Below.refl _ wz).alloc (Nat.le_refl _) _).alloc (by simp) _
            replace hB7 := Lib.hid hB7
            have hO7 : Hid (RoI W7 ob parts.length (outK units parts 0)) := by
              rw [hob, hW7]
              exact ((RoI.made wz parts.length 3).below ((Below.refl _ _).alloc (Nat.le_refl _) _)).congr fun x _ => by unfold outK; rw [if_neg (Nat.not_lt_zero _)]
            have hR7 : Hid (RoI W7 rb parts.length (remK units parts 0)) := by
              have h := (RoI.made (wz.alloc (.cells (madeCells #[.int .i64 0] parts.length) 3)) parts.length 3)
              rw [World.size_alloc] at h
              rw [hrb, hW7]
              exact h.congr fun x _ => by unfold remK; rw [if_neg (Nat.not_lt_zero _)]
            have hlk0 : Value.int .i64 units = .int .i64 (leftK units parts 0) := by unfold leftK; simp [sumI_nil]
            replace hlk0 := Lib.hid hlk0
            have n1 : ob ≠ rb := by omega
            have n2 : Hid (wz.heap.size ≤ ob ∧ wz.heap.size ≤ rb) := ⟨by omega, by omega⟩
            have hsz1 : (wz.alloc (.cells (madeCells #[.int .i64 0] parts.length) 3)).heap.size = rb := by rw [World.size_alloc, hrb]
            replace hsz1 := Lib.hid hsz1
            go_wp2_with fail
            (try rw [← hW7])
            (try rw [hsz1.out])
            (try rw [World.size_alloc])
            (try rw [← hrb])
            (try rw [← hob])
            replace hW7 := Lib.hid hW7; replace hob := Lib.hid hob; replace hrb := Lib.hid hrb
            clear hmk
            go_loopw [10, 11] (fun lx ix wr => ∃ (k : Nat), k ≤ parts.length ∧ ix = .int .i64 (k : Int) ∧ lx = .int .i64 (leftK units parts k) ∧ Hid (Below wz.heap.size wz wr) ∧ Hid (RoI wr ob parts.length (outK units parts k)) ∧ Hid (RoI wr rb parts.length (remK units parts k))) (fun _ ix _ => parts.length - (intOf ix).toNat)
            case atStart => exact ⟨0, Nat.zero_le _, rfl, hlk0.out, hB7, hO7, hR7⟩
            case round =>
              clear hB7 hO7 hR7 hlk0
              obtain ⟨k, hk, rfl, rfl, hB, hO, hR⟩ := hrel
              obtain ⟨wy, rfl⟩ : ∃ z, z = wr := ⟨_, rfl⟩
              by_cases hkl : k < parts.length
              · obtain ⟨vb, vo, rfl, hvl, hcc⟩ := (hpw.out wy hB.out) h0.out
                have e1 := hcc k hkl
                obtain ⟨hvl0, _⟩ : Hid (vb < wz.heap.size) ∧ True := ⟨by obtain ⟨b2, o2, e2, hl, _⟩ := (hpw.out wz (Below.refl _ _)) h0.out; cases e2; exact hl, trivial⟩
                clear hcc
                have nv1 : vb ≠ ob := fun e => by have := hvl0.out; have := n2.out; omega
                have nv2 : vb ≠ rb := fun e => by have := hvl0.out; have := n2.out; omega
                have j0 : (0 : Int) ≤ (k : Int) := by omega
                have j1 : (k : Int) < (parts.length : Int) := by omega
                have hgd : parts.getD k 0 = parts[k] := by simp [List.getD_eq_getElem?_getD, hkl]
                have hml := mul_lim hSO.out k; have hft := flo_tdiv hSO.out k; have hrt := rem_tmod hSO.out k; have hfl := flo_lim hSO.out k; have hrl := rem_lim hSO.out k; have hSs := hSO.out.s
                rw [hgd] at hml hft hrt
                have hlk := leftK_succ (units := units) (parts := parts) k
                have hsf := sum_flo_le hSO.out k hk
                have hlb : -1000000000000 ≤ leftK units parts k ∧ leftK units parts k ≤ 1000000000000 := by unfold leftK; have := hSO.out.u; omega
                have hos := Lib.hid (outK_succ (units := units) (parts := parts) k)
                have hor := Lib.hid (remK_succ (units := units) (parts := parts) k)
                have o1 := hO.out.cell k hkl; have o2 := hO.out.fr k; have o3 := hO.out.lt; have r1 := hR.out.cell k hkl; have r2 := hR.out.fr k; have r3 := hR.out.lt
                generalize outK units parts k k = ov at o1
                generalize remK units parts k k = rv at r1
                obtain ⟨f, hf⟩ : ∃ f, f = flo units parts k := ⟨_, rfl⟩
                obtain ⟨m, hm⟩ : ∃ m, m = rem units parts k := ⟨_, rfl⟩
                rw [← hf] at hft hfl hlk hos
                rw [← hm] at hrt hrl hor
                have hB2 : Hid (Below wz.heap.size wz ((wy.setCell ⟨ob, k, none⟩ (.int .i64 f)).setCell ⟨rb, k, none⟩ (.int .i64 m))) := (hB.out.setCell (p := ⟨ob, k, none⟩) n2.out.1 _).setCell (p := ⟨rb, k, none⟩) n2.out.2 _
                have hO2 : Hid (RoI ((wy.setCell ⟨ob, k, none⟩ (.int .i64 f)).setCell ⟨rb, k, none⟩ (.int .i64 m)) ob parts.length (outK units parts (k + 1))) := (((hO.out.set hkl f).congr fun x _ => hos.out x).grown (grown_set _ ⟨rb, k, none⟩ _) fun e => n1 (by cases e; rfl))
                have hR2 : Hid (RoI ((wy.setCell ⟨ob, k, none⟩ (.int .i64 f)).setCell ⟨rb, k, none⟩ (.int .i64 m)) rb parts.length (remK units parts (k + 1))) := ((hR.out.grown (grown_set _ ⟨ob, k, none⟩ _) fun e => n1 (by cases e; rfl)).set hkl m).congr fun x _ => hor.out x
                generalize sumI parts = S at hft hrt hSs
                generalize parts[k] = p at e1 hml hft hrt
                have hS0 : (S == 0) = false := by rw [beq_eq_false_iff_ne]; omega
                obtain ⟨ml0, ml1⟩ := hml
                have hlk2 : leftK units parts k - f = leftK units parts (k + 1) := hlk.symm
                generalize leftK units parts k = lv at hlb hlk2 ⊢
                replace hlk := Lib.hid hlk
                have hlk3 : Value.int .i64 (lv - f) = .int .i64 (leftK units parts (k + 1)) := by rw [hlk2]
                replace hlk3 := Lib.hid hlk3
                replace hlk2 := Lib.hid hlk2
                clear hsf hgd hlk hos hor
                replace hf := Lib.hid hf; replace hm := Lib.hid hm
                have n1b : rb ≠ ob := Ne.symm n1
                go_wp2
                exact ⟨⟨k + 1, by omega, by go_num, hlk3.out, hB2, hO2, hR2⟩, by simp only [intOf]; omega⟩
              · obtain rfl : k = parts.length := by omega
                have hO3 : Hid (RoI wy ob parts.length (outT units parts 0)) := hO.out.congr fun x hx => by unfold outK; rw [if_pos hx, outT_zero]
                have hR3 : Hid (RoI wy rb parts.length (restT units parts 0)) := hR.out.congr fun x hx => by unfold remK; rw [if_pos hx, restT_zero]
                have hlb := left_bounds hSO.out
                have hl0 : Value.int .i64 (leftK units parts parts.length) = .int .i64 (leftS units parts - (0 : Nat)) := by unfold leftK leftS; simp
                replace hl0 := Lib.hid hl0
                clear hO hR
                go_wp2_with fail
                go_loopw [10, 12, 13] (fun lx _ _ wr => ∃ (t : Nat), (t : Int) ≤ leftS units parts ∧ lx = .int .i64 (leftS units parts - (t : Int)) ∧ Hid (Below wz.heap.size wz wr) ∧ Hid (RoI wr ob parts.length (outT units parts t)) ∧ Hid (RoI wr rb parts.length (restT units parts t))) (fun lx _ _ _ => (intOf lx).toNat)
                case atStart => exact ⟨0, by simpa using hlb.1, hl0.out, hB, hO3, hR3⟩
                case round =>
                  clear hB hO3 hR3 hl0
                  obtain ⟨t, ht, rfl, hB, hO, hR⟩ := hrel
                  obtain ⟨wx, rfl⟩ : ∃ z, z = wr := ⟨_, rfl⟩
                  by_cases htl : (t : Int) < leftS units parts
                  · have tt : decide (0 < leftS units parts - (t : Int)) = true := decide_eq_true (by omega)
                    have htn : t < parts.length := by omega
                    have hb0 : Hid (BestT units parts t 1 0) := ⟨Nat.zero_lt_one, fun j hj => by obtain rfl : j = 0 := (by omega); exact ⟨Int.le_refl _, fun _ => Nat.le_refl _⟩⟩
                    have hL1 : Hid (1 ≤ parts.length) := h0.out
                    go_wp2_with fail
                    go_loopw [12, 13] (fun bx ix wr => ∃ (i b : Nat), i ≤ parts.length ∧ ix = .int .i64 (i : Int) ∧ bx = .int .i64 (b : Int) ∧ Hid (BestT units parts t i b) ∧ Hid (Below wz.heap.size wz wr) ∧ Hid (RoI wr ob parts.length (outT units parts t)) ∧ Hid (RoI wr rb parts.length (restT units parts t))) (fun _ ix _ => parts.length - (intOf ix).toNat)
                    case atStart => exact ⟨1, 0, hL1.out, rfl, rfl, hb0, hB, hO, hR⟩
                    case round =>
                      clear hB hO hR hb0
                      obtain ⟨i, b, hi, rfl, rfl, hbt, hB, hO, hR⟩ := hrel
                      obtain ⟨wy2, rfl⟩ : ∃ z, z = wr := ⟨_, rfl⟩
                      have hbi := hbt.out.1
                      by_cases hil : i < parts.length
                      · have hbn : b < parts.length := by omega
                        have j0 : (0 : Int) ≤ (i : Int) := by omega
                        have j1 : (i : Int) < (parts.length : Int) := by omega
                        have b0 : (0 : Int) ≤ (b : Int) := by omega
                        have b1 : (b : Int) < (parts.length : Int) := by omega
                        have r1 := hR.out.cell i hil; have r2 := hR.out.cell b hbn; have r9 := hR.out.lt
                        have l1 := restT_lim hSO.out t i; have l2 := restT_lim hSO.out t b
                        have hbs := best_step hbt.out
                        have hB2 := Lib.hid (hB.out.drew)
                        have hO2 := Lib.hid (hO.out.below (Below.refl _ wy2).drew)
                        have hR2 := Lib.hid (hR.out.below (Below.refl _ wy2).drew)
                        generalize restT units parts t i = ri at r1 l1 hbs
                        generalize restT units parts t b = rv at r2 l2 hbs
                        by_cases hc : rv < ri
                        · have v1 : decide (rv < ri) = true := decide_eq_true hc
                          rw [if_pos hc] at hbs
                          replace hbs := Lib.hid hbs; replace hc := Lib.hid hc
                          clear hbt hbi
                          go_wp2_with fail
                          go_region
                          all_goals go_wp2
                          all_goals exact ⟨⟨i + 1, i, by omega, by go_num, rfl, hbs, hB2, hO2, hR2⟩, by simp only [intOf]; omega⟩
                        · have v1 : decide (rv < ri) = false := decide_eq_false hc
                          rw [if_neg hc] at hbs
                          replace hbs := Lib.hid hbs; replace hc := Lib.hid hc
                          clear hbt hbi
                          go_wp2_with fail
                          go_region
                          all_goals go_wp2
                          all_goals exact ⟨⟨i + 1, b, by omega, by go_num, rfl, hbs, hB2, hO2, hR2⟩, by simp only [intOf]; omega⟩
                      · obtain rfl : i = parts.length := by omega
                        have hrk := best_next hSO.out htn hbt.out
                        have b0 : (0 : Int) ≤ (b : Int) := by omega
                        have b1 : (b : Int) < (parts.length : Int) := by omega
                        have o1 := hO.out.cell b hbi; have o2 := hO.out.fr b; have o9 := hO.out.lt
                        have r1 := hR.out.cell b hbi; have r2 := hR.out.fr b; have r9 := hR.out.lt
                        have l1 := outT_lim hSO.out t b
                        have hos : Hid (∀ x, x < parts.length → setI (outT units parts t) b (outT units parts t b + 1) x = outT units parts (t + 1) x) := fun x hx => by rw [outT_succ hSO.out hrk hx hbi]; rfl
                        have hrs : Hid (∀ x, x < parts.length → setI (restT units parts t) b (-1) x = restT units parts (t + 1) x) := fun x hx => by rw [restT_succ hSO.out hrk hx hbi]; rfl
                        replace hrk := Lib.hid hrk
                        generalize outT units parts t b = ov at o1 l1 hos
                        generalize restT units parts t b = rv at r1
                        have hB2 : Hid (Below wz.heap.size wz ((wy2.setCell ⟨ob, b, none⟩ (.int .i64 (ov + 1))).setCell ⟨rb, b, none⟩ (.int .i64 (-1)))) := (hB.out.setCell (p := ⟨ob, b, none⟩) n2.out.1 _).setCell (p := ⟨rb, b, none⟩) n2.out.2 _
                        have hO2 : Hid (RoI ((wy2.setCell ⟨ob, b, none⟩ (.int .i64 (ov + 1))).setCell ⟨rb, b, none⟩ (.int .i64 (-1))) ob parts.length (outT units parts (t + 1))) := (((hO.out.set hbi (ov + 1)).congr fun x hx => hos.out x hx).grown (grown_set _ ⟨rb, b, none⟩ _) fun e => n1 (by cases e; rfl))
                        have hR2 : Hid (RoI ((wy2.setCell ⟨ob, b, none⟩ (.int .i64 (ov + 1))).setCell ⟨rb, b, none⟩ (.int .i64 (-1))) rb parts.length (restT units parts (t + 1))) := ((hR.out.grown (grown_set _ ⟨ob, b, none⟩ _) fun e => n1 (by cases e; rfl)).set hbi (-1)).congr fun x hx => hrs.out x hx
                        have n1b : rb ≠ ob := Ne.symm n1
                        have hlx : Value.int .i64 (leftS units parts - (t : Int) - 1) = .int .i64 (leftS units parts - ((t + 1 : Nat) : Int)) := by congr 1; omega
                        replace hlx := Lib.hid hlx
                        have hms : (leftS units parts - (t : Int) - 1).toNat < (leftS units parts - (t : Int)).toNat := by omega
                        replace hms := Lib.hid hms
                        have ht2 : ((t + 1 : Nat) : Int) ≤ leftS units parts := by omega
                        replace ht2 := Lib.hid ht2
                        clear hos hrs hbt
                        go_wp2
                        exact ⟨⟨t + 1, ht2.out, hlx.out, hB2, hO2, hR2⟩, by simp only [intOf]; exact hms.out⟩
                  · have tt : decide (0 < leftS units parts - (t : Int)) = false := decide_eq_false (by omega)
                    have hte : t = (leftS units parts).toNat := by omega
                    have hO2 : Hid (RoI wx ob parts.length fun i => flo units parts i + incS units parts i) := hO.out.congr fun x hx => by rw [hte]; exact outT_all hSO.out
                    clear hte
                    go_wp2
                    go_ret2
                    exact hPy.out _ _ ob hsok.out rfl hO2.out hB.out
end Mo
end Go.Proofs.YtpmlhgmmobpilaaGreatDoor

namespace Go.Proofs.YtpmlhgmmobpilaaGreatDoor
open Go.RowKit Go.Shelf
namespace Nt
abbrev uniW (w : World) (g1 : Bool) (n1 d1 : ByteArray) : World := w.alloc (.cells #[.bool g1, .string n1, .string d1] 23)
theorem uniW_below (w : World) (g1 : Bool) (n1 d1 : ByteArray) : Below w.heap.size w (uniW w g1 n1 d1) := (Below.refl _ w).alloc (Nat.le_refl _) _
end Nt
end Go.Proofs.YtpmlhgmmobpilaaGreatDoor

namespace Go.Proofs.YtpmlhgmmobpilaaGreatDoor
open Go.RowKit Go.Shelf
namespace Nt
theorem ba_ext {a b : ByteArray} (h : a.data.toList = b.data.toList) : a = b := by
  cases a; cases b; exact congrArg ByteArray.mk (Array.toList_inj.1 h)
end Nt
end Go.Proofs.YtpmlhgmmobpilaaGreatDoor

namespace Go.Proofs.YtpmlhgmmobpilaaGreatDoor
open Go.RowKit Go.Shelf
namespace Nt
/-- A row of bytes of the call's own, which may grow. -/
def OwnB (B : Nat) (w : World) (v : Value) (l : List UInt8) : Prop := w.ownsRow B 5 1 v l.length (Lib.byteCells l)
theorem infoB : (Tryz.prog.info? 5).map (fun i => (i.zero, i.size, i.bytes)) = some (some (.int .u8 0), 1, 1) := by kernel_rfl
theorem byteCells_snoc (l : List UInt8) (c : UInt8) : Lib.byteCells l ++ [Value.int .u8 (c.toNat : Int)] = Lib.byteCells (l ++ [c]) := by simp [Lib.byteCells]
theorem OwnB.below {B : Nat} {w w' : World} {v : Value} {l : List UInt8} (h : OwnB B w v l) (hb : Below w.heap.size w w') : OwnB B w' v l := by
  obtain ⟨h1, h2⟩ := h
  refine ⟨h1, ?_⟩
  rcases h2 with h2 | ⟨g, cap, cur, hv, hg, hh, r⟩
  · exact Or.inl h2
  · exact Or.inr ⟨g, cap, cur, hv, hg, by rw [hb.block g (Array.getElem?_eq_some_iff.1 hh).1]; exact hh, r⟩
theorem OwnB.form {B : Nat} {w : World} {v : Value} {l : List UInt8} (h : OwnB B w v l) : (v = .slice none 0 0 ∧ l = []) ∨ ∃ g cap, B ≤ g ∧ v = .slice (some ⟨g, 0, none⟩) l.length cap ∧ ∀ j (hj : j < l.length), w.cell? ⟨g, j, none⟩ = some (.int .u8 (l[j].toNat : Int)) := by
  rcases id h.2 with ⟨h1, h2⟩ | ⟨g, cap, cur, h1, hg, _⟩
  · exact .inl ⟨h1, List.length_eq_zero_iff.1 h2⟩
  · refine .inr ⟨g, cap, hg, h1, fun j hj => ?_⟩
    subst h1
    rw [World.ownsRow.cellAt h j (by omega)]
    simp [Lib.byteCells, hj]
/-- The text of a row of bytes. -/
theorem OwnB.text {B : Nat} {w : World} {v : Value} {l : List UInt8} (h : OwnB B w v l) :
    (convert 171 9 v).run Tryz.prog w = .ok (.string ⟨l.toArray⟩) w := by
  rcases h.form with ⟨rfl, rfl⟩ | ⟨g, cap, _, rfl, hc⟩
  · exact run_convert_bytes_nil w _ _ Tryz.underlying171 Tryz.underlying5 0 0 _ Tryz.underlying9
  · have := run_convert_bytes_arg (P := Tryz.prog) w 171 5 Tryz.underlying171 Tryz.underlying5 g 0 l.length cap (l.map fun c => (c.toNat : Int)) (by simp)
      (fun i hi => by rw [Nat.zero_add, hc i hi]; simp [hi]) 9 Tryz.underlying9
    rw [this]
    have e : (l.map ((fun n : Int => UInt8.ofNat n.toNat) ∘ fun c : UInt8 => (c.toNat : Int))) = l := by
      conv => rhs; rw [← List.map_id l]
      exact List.map_congr_left fun c _ => by simp
    simp only [strOfNums, List.map_map, e]
theorem OwnB.lit (B : Nat) (w : World) (c : UInt8) (hb : B ≤ w.heap.size) : OwnB B (w.alloc (.cells #[.int .u8 (c.toNat : Int)] 5)) (.slice (some ⟨w.heap.size, 0, none⟩) 1 1) [c] :=
  World.ownsRow_lit w #[.int .u8 (c.toNat : Int)] 1 hb (by unfold maxLen; omega) rfl
end Nt
end Go.Proofs.YtpmlhgmmobpilaaGreatDoor

namespace Go.Proofs.YtpmlhgmmobpilaaGreatDoor
open Go.RowKit
namespace Nt
/-- The digit of a row of bytes at a place from the right; 0 beyond its first one. -/
def dgt (l : List UInt8) (i : Nat) : Nat := if h : i < l.length then (l[l.length - 1 - i]'(by omega)).toNat - 48 else 0
theorem dgt_snoc_zero (l : List UInt8) (c : UInt8) : dgt (l ++ [c]) 0 = c.toNat - 48 := by
  unfold dgt
  rw [dif_pos (by simp)]
  simp
theorem dgt_snoc_succ (l : List UInt8) (c : UInt8) (i : Nat) : dgt (l ++ [c]) (i + 1) = dgt l i := by
  unfold dgt
  by_cases h : i < l.length
  · rw [dif_pos (by simp; omega), dif_pos h]
    have e : (l ++ [c]).length - 1 - (i + 1) = l.length - 1 - i := by simp; omega
    simp only [e]
    rw [List.getElem_append_left (by omega)]
  · rw [dif_neg (by simp; omega), dif_neg h]
theorem dgt_dec (n i : Nat) : dgt (Lib.decDigits n) i = n / 10 ^ i % 10 := by
  induction i generalizing n with
  | zero =>
    rw [Lib.decDigits]
    split
    · rw [show ([UInt8.ofNat (48 + n)] : List UInt8) = [] ++ [UInt8.ofNat (48 + n)] from rfl, dgt_snoc_zero, toNat_dig _ (by omega)]
      simp; omega
    · rw [dgt_snoc_zero, toNat_dig _ (Nat.mod_lt _ (by omega))]
      simp
  | succ i ih =>
    rw [Lib.decDigits]
    split
    · rename_i h
      rw [show ([UInt8.ofNat (48 + n)] : List UInt8) = [] ++ [UInt8.ofNat (48 + n)] from rfl, dgt_snoc_succ]
      have h1 : dgt [] i = 0 := rfl
      have h2 : n / 10 ^ (i + 1) = 0 := Nat.div_eq_of_lt (Nat.lt_of_lt_of_le h (by rw [Nat.pow_succ]; have : 0 < 10 ^ i := Nat.pow_pos (by omega); omega))
      rw [h1, h2]
    · rw [dgt_snoc_succ, ih, Nat.pow_succ, Nat.mul_comm, Nat.div_div_eq_div_mul]
/-- The value of digits, the last one first; they need not be less than 10. -/
def dv : List Nat → Nat
  | [] => 0
  | x :: xs => x + 10 * dv xs
theorem dv_append (xs ys : List Nat) : dv (xs ++ ys) = dv xs + 10 ^ xs.length * dv ys := by
  induction xs with
  | nil => simp [dv]
  | cons x xs ih =>
    simp only [List.cons_append, dv, ih, List.length_cons, Nat.pow_succ, Nat.mul_add]
    rw [Nat.mul_comm (10 ^ xs.length) 10, Nat.mul_assoc]
    omega
theorem dv_snoc (xs : List Nat) (y : Nat) : dv (xs ++ [y]) = dv xs + 10 ^ xs.length * y := by rw [dv_append]; simp [dv]
theorem dv_set (zs : List Nat) (p y : Nat) (h : p < zs.length) : dv (zs.set p y) + 10 ^ p * lim zs p = dv zs + 10 ^ p * y := by
  induction zs generalizing p with
  | nil => simp at h
  | cons z zs ih =>
    cases p with
    | zero => simp [dv, lim]; omega
    | succ p =>
      have := ih p (by simpa using h)
      have e : lim (z :: zs) (p + 1) = lim zs p := by simp [lim]
      rw [e]
      simp only [List.set_cons_succ, dv, Nat.pow_succ]
      rw [Nat.mul_comm (10 ^ p) 10, Nat.mul_assoc, Nat.mul_assoc]
      omega
theorem dv_zeros (n : Nat) : dv (List.replicate n 0) = 0 := by
  induction n with
  | zero => rfl
  | succ n ih => rw [List.replicate_succ, dv, ih]
theorem dv_ge (zs : List Nat) (p : Nat) (h : p < zs.length) : 10 ^ p * lim zs p ≤ dv zs := by
  have := dv_set zs p 0 h
  omega
/-- The bytes of digits: the last one first. -/
def dbytes (ds : List Nat) : List UInt8 := (ds.map fun d => UInt8.ofNat (48 + d)).reverse
theorem dbytes_len (ds : List Nat) : (dbytes ds).length = ds.length := by simp [dbytes]
theorem dbytes_dig {ds : List Nat} (h : ∀ d ∈ ds, d < 10) : ∀ c ∈ dbytes ds, isDig c := by
  intro c hc
  simp only [dbytes, List.mem_reverse, List.mem_map] at hc
  obtain ⟨d, hd, rfl⟩ := hc
  have := h d hd
  unfold isDig
  rw [toNat_dig _ this]
  omega
theorem dval_dbytes {ds : List Nat} (h : ∀ d ∈ ds, d < 10) : dval (dbytes ds) = dv ds := by
  induction ds with
  | nil => rfl
  | cons d ds ih =>
    have e : dbytes (d :: ds) = dbytes ds ++ [UInt8.ofNat (48 + d)] := by simp [dbytes]
    rw [e, dval_append, ih (fun x hx => h x (by simp [hx]))]
    have hd := h d (by simp)
    simp only [List.length_cons, List.length_nil, dval, List.foldl_cons, List.foldl_nil, toNat_dig d hd, dv]
    omega
/-- Leading zeros gone. -/
theorem trimmed {l : List UInt8} {i : Nat} (hd : ∀ c ∈ l, isDig c) (hi : i < l.length) (hz : ∀ j, (h : j < i) → l[j]'(by omega) = 48) (he : i + 1 = l.length ∨ l[i] ≠ 48) :
    l.drop i = Lib.decDigits (dval l) := by
  have hv : dval (l.drop i) = dval l := by
    have e : l = List.replicate i 48 ++ l.drop i := by
      conv => lhs; rw [← List.take_append_drop i l]
      congr 1
      apply List.ext_getElem
      · simp; omega
      · intro j h1 h2
        simp at h1
        simp [hz j (by omega)]
    conv => rhs; rw [e, dval_zeros]
  rw [← hv]
  refine (decDigits_dval _ _ rfl ?_ (fun c hc => hd c (List.mem_of_mem_drop hc)) ?_).symm
  · intro h
    have := congrArg List.length h
    simp at this
    omega
  · rcases he with he | he
    · left; simp; omega
    · right
      rw [List.head?_drop, List.getElem?_eq_getElem hi]
      intro e
      exact he (Option.some.inj e)
/-- Texts of the same length compare as their values do; a shorter one is less. -/
theorem dec_len_lt {a b : Nat} (h : (Lib.decDigits a).length < (Lib.decDigits b).length) : a < b := by
  have h0 : 0 < (Lib.decDigits a).length := List.length_pos_iff.2 (decDigits_ne a)
  have h1 := (decDigits_len_iff a _ h0).1 (Nat.le_refl _)
  have h2 : ¬ b < 10 ^ (Lib.decDigits a).length := fun h' => by
    have := decDigits_len h' h0
    omega
  omega
theorem bytes_lt : ∀ {l m : List UInt8}, l.length = m.length → (∀ c ∈ l, isDig c) → (∀ c ∈ m, isDig c) → (Op.bytesLess l m = true ↔ dval l < dval m) := by
  intro l
  induction l with
  | nil =>
    intro m hl _ _
    have : m = [] := List.length_eq_zero_iff.1 hl.symm
    subst this
    simp [Op.bytesLess]
  | cons a l ih =>
    intro m hl hd he
    cases m with
    | nil => simp at hl
    | cons b m =>
      have hl' : l.length = m.length := by simpa using hl
      have i := ih hl' (fun c hc => hd c (by simp [hc])) (fun c hc => he c (by simp [hc]))
      have ha := hd a (by simp)
      have hb := he b (by simp)
      have h1 := dval_lt (l := l) (fun c hc => hd c (by simp [hc]))
      have h2 := dval_lt (l := m) (fun c hc => he c (by simp [hc]))
      rw [dval_cons, dval_cons, hl']
      rw [hl'] at h1
      generalize 10 ^ m.length = P at *
      unfold Op.bytesLess
      rcases Nat.lt_trichotomy a.toNat b.toNat with h | h | h
      · have e : (a < b) = True := by simp [UInt8.lt_iff_toNat_lt, h]
        have h3 : (a.toNat - 48 + 1) * P ≤ (b.toNat - 48) * P := Nat.mul_le_mul_right _ (by have := ha.1; omega)
        rw [Nat.add_mul] at h3
        simp only [e, decide_true, Bool.true_or, true_iff]
        omega
      · obtain rfl : a = b := UInt8.toNat_inj.1 h
        have e : (a < a) = False := by simp
        simp only [e, decide_false, beq_self_eq_true, Bool.true_and, Bool.false_or, i]
        omega
      · have e : (a < b) = False := by simp [UInt8.lt_iff_toNat_lt]; omega
        have e2 : (a == b) = false := by rw [beq_eq_false_iff_ne]; intro h'; subst h'; omega
        have h3 : (b.toNat - 48 + 1) * P ≤ (a.toNat - 48) * P := Nat.mul_le_mul_right _ (by have := hb.1; omega)
        rw [Nat.add_mul] at h3
        simp only [e, e2, decide_false, Bool.false_and, Bool.or_false, Bool.false_eq_true, false_iff]
        omega
theorem dec_less {a b : Nat} (h : (Lib.decDigits a).length = (Lib.decDigits b).length) : Op.bytesLess (Lib.decDigits a) (Lib.decDigits b) = true ↔ a < b := by
  have := bytes_lt h (decDigits_dig a) (decDigits_dig b)
  rwa [dval_decDigits, dval_decDigits] at this
/-- The lowest digits of a number, one more at a time. -/
theorem mod_pow_succ (a i : Nat) : a % 10 ^ (i + 1) = a % 10 ^ i + 10 ^ i * (a / 10 ^ i % 10) := by
  rw [Nat.pow_succ, Nat.mod_mul]
/-- One round of an addition. -/
theorem plus_round {D a b i c : Nat} (h : D + 10 ^ i * c = a % 10 ^ i + b % 10 ^ i) :
    D + 10 ^ i * ((a / 10 ^ i % 10 + b / 10 ^ i % 10 + c) % 10) + 10 ^ (i + 1) * ((a / 10 ^ i % 10 + b / 10 ^ i % 10 + c) / 10) = a % 10 ^ (i + 1) + b % 10 ^ (i + 1) := by
  rw [mod_pow_succ, mod_pow_succ, Nat.pow_succ]
  generalize a / 10 ^ i % 10 = x
  generalize b / 10 ^ i % 10 = y
  generalize 10 ^ i = P at *
  have e : P * (x + y + c) = P * ((x + y + c) % 10) + P * 10 * ((x + y + c) / 10) := by
    rw [Nat.mul_assoc, ← Nat.mul_add, Nat.mod_add_div]
  rw [Nat.mul_add, Nat.mul_add] at e
  omega
/-- One round of a subtraction. -/
theorem minus_round {D a b i c z c' : Nat} (h : D + b % 10 ^ i = a % 10 ^ i + 10 ^ i * c) (e : z + b / 10 ^ i % 10 + c = a / 10 ^ i % 10 + 10 * c') :
    D + 10 ^ i * z + b % 10 ^ (i + 1) = a % 10 ^ (i + 1) + 10 ^ (i + 1) * c' := by
  rw [mod_pow_succ, mod_pow_succ, Nat.pow_succ]
  generalize a / 10 ^ i % 10 = x at *
  generalize b / 10 ^ i % 10 = y at *
  generalize 10 ^ i = P at *
  have e2 : P * z + P * y + P * c = P * x + P * 10 * c' := by
    rw [Nat.mul_assoc, ← Nat.mul_add, ← Nat.mul_add, ← Nat.mul_add, e]
  omega
theorem mod_all {a i : Nat} (h : (Lib.decDigits a).length ≤ i) : a % 10 ^ i = a := by
  have h0 : 0 < (Lib.decDigits a).length := List.length_pos_iff.2 (decDigits_ne a)
  exact Nat.mod_eq_of_lt ((decDigits_len_iff a i (by omega)).1 h)
end Nt
end Go.Proofs.YtpmlhgmmobpilaaGreatDoor
namespace Go.Proofs.YtpmlhgmmobpilaaGreatDoor
open Go.RowKit Go.Shelf
namespace Nt
theorem ret_str {a b : ByteArray} (h : a = b) : Ending.returned (.string a) = .returned (.string b) := by rw [h]
theorem ret_i64 {a b : Int} (h : a = b) : Ending.returned (.int .i64 a) = .returned (.int .i64 b) := by rw [h]
theorem ret_b {a b : Bool} (h : a = b) : Ending.returned (.bool a) = .returned (.bool b) := by rw [h]
theorem bytes_ext {a b : ByteArray} (h : a.data.toList = b.data.toList) : a = b := by
  obtain ⟨a⟩ := a
  obtain ⟨b⟩ := b
  exact congrArg ByteArray.mk (Array.toList_inj.1 h)
theorem num_list (n : Nat) : (num n).data.toList = Lib.decDigits n := rfl
theorem num_size (n : Nat) : (num n).size = (Lib.decDigits n).length := by simp [num, ByteArray.size]
/-- The byte of a digit, kept folded. -/
@[irreducible] def dch (d : Nat) : UInt8 := UInt8.ofNat (48 + d)
theorem dch_eq (d : Nat) : dch d = UInt8.ofNat (48 + d) := by unfold dch; rfl
/-- The digits still to come, and those that are there. -/
def DgRel (N m : Nat) (t : ByteArray) : Prop := (if m = 0 then [] else Lib.decDigits m) ++ t.data.toList = Lib.decDigits N
theorem DgRel.start (N : Nat) : DgRel N (N / 10) ⟨#[UInt8.ofNat (48 + N % 10)]⟩ := by
  unfold DgRel
  conv => rhs; rw [Lib.decDigits]
  split
  · rename_i h
    rw [dif_pos (by omega)]
    simp
    congr 2; omega
  · rename_i h
    rw [dif_neg (by omega)]
theorem DgRel.step {N m : Nat} {t : ByteArray} (h : DgRel N m t) (hm : 0 < m) : DgRel N (m / 10) (⟨#[UInt8.ofNat (48 + m % 10)]⟩ ++ t) := by
  have h2 := DgRel.start m
  unfold DgRel at *
  rw [if_neg (by omega), ← h2] at h
  rw [← h]
  simp
theorem DgRel.done {N : Nat} {t : ByteArray} (h : DgRel N 0 t) : t = num N := bytes_ext (by unfold DgRel at h; simpa [num] using h)
theorem DgRel.size {N m : Nat} {t : ByteArray} (h : DgRel N m t) (hN : N < 18446744073709551616) : t.size ≤ 20 := by
  have h1 := decDigits_len (k := 20) (u := N) (by omega) (by omega)
  have h2 := congrArg List.length h
  have h3 : t.size = t.data.toList.length := Lib.size_eq _
  rw [List.length_append] at h2
  omega
/-- One digit cut out of the text of all digits. -/
theorem run_one_digit (d : Nat) (h : d < 10) (w : World) :
    (Instr.slice 9 (.string ⟨#[48, 49, 50, 51, 52, 53, 54, 55, 56, 57]⟩) (some (.int .u64 (d : Int))) (some (.int .u64 ((d : Int) + 1))) none).run Tryz.prog w = .ok (.string ⟨#[dch d]⟩) w := by
  rw [dch_eq]
  obtain rfl | rfl | rfl | rfl | rfl | rfl | rfl | rfl | rfl | rfl : d = 0 ∨ d = 1 ∨ d = 2 ∨ d = 3 ∨ d = 4 ∨ d = 5 ∨ d = 6 ∨ d = 7 ∨ d = 8 ∨ d = 9 := by omega
  all_goals kernel_rfl
set_option maxRecDepth 100000 in
theorem digits_any (n : Nat) (w : World) (hn : n < 18446744073709551616) :
    Calls Tryz.prog 209 #[.int .u64 (n : Int)] w fun e w' => e = .returned (.string (num n)) ∧ w = w' := by
  obtain ⟨d, hd⟩ : ∃ d, d = n % 10 := ⟨_, rfl⟩
  have hdl : d < 10 := by omega
  have hdi : (n : Int) % 10 = (d : Int) := by omega
  have hrun := run_one_digit d hdl
  have HD := Lib.hid hd
  clear hd
  go_enter Tryz.func209, Tryz.ntmps209
  go_wp2
  clear hdi hrun
  go_loop [0, 3] (fun m t => ∃ (k : Nat) (s : ByteArray), m = .int .u64 (k : Int) ∧ t = .string s ∧ k ≤ n ∧ DgRel n k s) (fun m _ => (intOf m).toNat)
  case atStart => exact ⟨n / 10, _, by first | rfl | (congr 1; omega), rfl, Nat.div_le_self _ _, by rw [dch_eq, HD.out]; exact DgRel.start n⟩
  case round =>
    obtain ⟨k, s, rfl, rfl, hk, hr⟩ := hrel
    by_cases h0 : k = 0
    · subst h0
      have hs := Lib.hid hr.done
      clear hr
      go_wp2
      go_ret
      exact ⟨ret_str hs.out, rfl⟩
    · obtain ⟨d, hd⟩ : ∃ d, d = k % 10 := ⟨_, rfl⟩
      have hdl : d < 10 := by omega
      have hdi : (k : Int) % 10 = (d : Int) := by omega
      have hrun := run_one_digit d hdl
      have HD := Lib.hid hd
      have hz := hr.size hn
      have hpos : (0 : Int) < (k : Int) := by omega
      replace hr := Lib.hid hr
      clear hd
      go_wp2
      go_round
      case rel => exact ⟨k / 10, _, by first | rfl | (congr 1; omega), rfl, by omega, by rw [dch_eq, HD.out]; exact hr.out.step (by omega)⟩
      case measure => simp [intOf]; omega
theorem Decimal_any (n : Nat) (w : World) (hn : n ≤ 9223372036854775807) :
    Calls Tryz.prog 180 #[.int .i64 (n : Int)] w fun e w' => e = .returned (.string (num n)) ∧ w = w' := by
  go_enter Tryz.func180, Tryz.ntmps180
  go_wp2_with (go_at_call 209; refine (digits_any n _ (by omega)).mono ?_; rintro e w' ⟨rfl, rfl⟩)
  go_ret
  exact ⟨rfl, rfl⟩
/-- Whether a row of bytes has the form of a number, of whatever length. -/
def numB (l : List UInt8) : Bool := l.all (fun c => decide (48 ≤ c.toNat ∧ c.toNat ≤ 57)) && (decide (l.length = 1) || (decide (1 < l.length) && decide (l.head? ≠ some 48)))
theorem isN_numB (s : ByteArray) : isN s = (decide (s.size ≤ 300) && numB s.data.toList) := by
  have hz : s.size = s.data.toList.length := Lib.size_eq _
  unfold isN isNL numB
  rw [hz]
  generalize s.data.toList = l
  cases l with
  | nil => rfl
  | cons a l =>
    cases l with
    | nil => simp
    | cons b l => simp
theorem numB_bad {l : List UInt8} {k : Nat} (h : k < l.length) (hb : ¬ isDig l[k]) : numB l = false := by
  unfold numB
  have : l.all (fun c => decide (48 ≤ c.toNat ∧ c.toNat ≤ 57)) = false := by
    rw [List.all_eq_false]
    exact ⟨l[k], List.getElem_mem h, by simpa [isDig] using hb⟩
  rw [this, Bool.false_and]
theorem numB_good {l : List UInt8} (h : ∀ c ∈ l, isDig c) : numB l = (decide (l.length = 1) || (decide (1 < l.length) && decide (l.head? ≠ some 48))) := by
  unfold numB
  have : l.all (fun c => decide (48 ≤ c.toNat ∧ c.toNat ≤ 57)) = true := by
    rw [List.all_eq_true]
    intro c hc
    simpa [isDig] using h c hc
  rw [this, Bool.true_and]
set_option maxRecDepth 100000 in
theorem rnumber_any (s : ByteArray) (w : World) (hs : s.size ≤ 140737488355328) :
    Calls Tryz.prog 134 #[.string s] w fun e w' => e = .returned (.bool (numB s.data.toList)) ∧ w = w' := by
  have hz : s.data.toList.length = s.size := (Lib.size_eq _).symm
  have HZ := Lib.hid hz
  clear hz
  go_enter Tryz.func134, Tryz.ntmps134
  go_wp2
  go_loop [3] (fun i => ∃ k : Nat, k ≤ s.size ∧ i = .int .i64 (k : Int) ∧ Hid (∀ j (h : j < s.size), j < k → isDig (s[j]))) (fun i => s.size - (intOf i).toNat)
  case atStart => exact ⟨0, Nat.zero_le _, rfl, fun j _ h => absurd h (by omega)⟩
  case round =>
    obtain ⟨k, hk, rfl, hd⟩ := hrel
    by_cases hlt : k < s.size
    · have hb : Hid (¬ isDig s[k] → numB s.data.toList = false) := fun h => numB_bad (k := k) (by have := HZ.out; omega) h
      by_cases h1 : (s[k].toNat : Int) < 48
      · go_wp2
        go_ret
        exact ⟨ret_b (hb.out (fun h => by have := h.1; omega)).symm, rfl⟩
      · by_cases h2 : (57 : Int) < (s[k].toNat : Int)
        · go_wp2
          go_ret
          exact ⟨ret_b (hb.out (fun h => by have := h.2; omega)).symm, rfl⟩
        · go_wp2
          go_round
          case rel =>
            refine ⟨k + 1, by omega, by go_num, fun j h hj => ?_⟩
            by_cases e : j = k
            · subst e; exact ⟨by omega, by omega⟩
            · exact hd.out j h (by omega)
          case measure => simp [intOf]; omega
    · have hG := Lib.hid (numB_good (l := s.data.toList) (fun c hc => by
        obtain ⟨j, hj, rfl⟩ := List.getElem_of_mem hc
        exact hd.out j (by have := HZ.out; omega) (by have := HZ.out; omega)))
      have hl := HZ.out
      by_cases e1 : s.size = 1
      · have f1 : ((s.size : Int) == 1) = true := by simp [e1]
        have hv : numB s.data.toList = true := by rw [hG.out, hl, e1]; rfl
        have HV := Lib.hid hv
        clear hl hv e1
        go_wp2
        go_ret
        exact ⟨ret_b HV.out.symm, rfl⟩
      · have f1 : ((s.size : Int) == 1) = false := by rw [beq_eq_false_iff_ne]; omega
        by_cases e0 : s.size = 0
        · have hv : numB s.data.toList = false := by rw [hG.out, hl, e0]; rfl
          have HV := Lib.hid hv
          have f2 : decide ((1 : Int) < (s.size : Int)) = false := by simp; omega
          clear hl hv e1 e0
          go_wp2
          go_ret
          exact ⟨ret_b HV.out.symm, rfl⟩
        · have hp : 1 < s.size := by omega
          have hp0 : 0 < s.size := by omega
          have hv : numB s.data.toList = decide ((s[0].toNat : Int) ≠ 48) := by
            rw [hG.out, hl, decide_eq_false e1, decide_eq_true hp, Bool.false_or, Bool.true_and]
            have e : s.data.toList.head? = some s[0] := by
              rw [List.head?_eq_getElem?, List.getElem?_eq_getElem (by omega)]
              rfl
            rw [e]
            have key : (¬ some s[0] = some (48 : UInt8)) ↔ ¬ ((s[0].toNat : Int) = 48) := by
              rw [Option.some.injEq, ← UInt8.toNat_inj]
              have : (48 : UInt8).toNat = 48 := rfl
              omega
            exact decide_eq_decide.2 key
          have HV := Lib.hid hv
          by_cases h48 : (s[0].toNat : Int) = 48
          · have f3 : ((s[0].toNat : Int) == 48) = true := by rw [beq_iff_eq]; exact h48
            have f4 : ((s[0].toNat : Int) != 48) = false := by simp [h48]
            have HW : Hid (numB s.data.toList = false) := by unfold Hid; rw [HV.out]; simp [h48]
            clear hl hv e1 e0 h48
            go_wp2
            go_ret
            exact ⟨ret_b HW.out.symm, rfl⟩
          · have f3 : ((s[0].toNat : Int) == 48) = false := by rw [beq_eq_false_iff_ne]; exact h48
            have f4 : ((s[0].toNat : Int) != 48) = true := by simp [h48]
            have HW : Hid (numB s.data.toList = true) := by unfold Hid; rw [HV.out]; simp [h48]
            clear hl hv e1 e0 h48
            go_wp2
            go_ret
            exact ⟨ret_b HW.out.symm, rfl⟩
theorem RefIs_any (s : ByteArray) (w : World) (hs : s.size ≤ 140737488355328) :
    Calls Tryz.prog 98 #[.string s] w fun e w' => e = .returned (.bool (isN s)) ∧ w = w' := by
  have HN := Lib.hid (isN_numB s)
  by_cases h : s.size ≤ 300
  · rw [decide_eq_true h, Bool.true_and] at HN
    have h' : (s.size : Int) ≤ 300 := by omega
    go_enter Tryz.func98, Tryz.ntmps98
    go_wp2_with (go_at_call 134; refine (rnumber_any s _ hs).mono ?_; rintro e w' ⟨rfl, rfl⟩)
    go_ret
    exact ⟨ret_b HN.out.symm, rfl⟩
  · rw [decide_eq_false h, Bool.false_and] at HN
    have h' : decide ((s.size : Int) ≤ 300) = false := by simp; omega
    go_enter Tryz.func98, Tryz.ntmps98
    go_wp2
    go_ret
    exact ⟨ret_b HN.out.symm, rfl⟩
theorem Order_any (a b : Nat) (w : World) (_ha : (num a).size ≤ 140737488355328) (_hb : (num b).size ≤ 140737488355328) :
    Calls Tryz.prog 137 #[.string (num a), .string (num b)] w fun e w' => e = .returned (.int .i64 (cmpN a b)) ∧ w = w' := by
  have ea := num_size a
  have eb := num_size b
  rcases Nat.lt_trichotomy (num a).size (num b).size with h | h | h
  · have hab : a < b := dec_len_lt (by omega)
    have HC := Lib.hid (cmpN_lt hab)
    clear ea eb hab
    go_enter Tryz.func137, Tryz.ntmps137
    go_wp2
    go_ret
    exact ⟨ret_i64 HC.out.symm, rfl⟩
  · have f1 : decide ((num a).size < (num b).size) = false := by simp; omega
    have f2 : (((num a).size : Int) == ((num b).size : Int)) = true := by simp [h]
    have hbl : Op.bytesLess (num a).toList (num b).toList = decide (a < b) := by
      rw [Lib.toList_data, Lib.toList_data, num_list, num_list, Bool.eq_iff_iff, dec_less (by omega)]
      simp
    have hq : ((num a).toList == (num b).toList) = decide (a = b) := by
      rw [Lib.toList_data, Lib.toList_data, num_list, num_list, Bool.eq_iff_iff, beq_iff_eq, decide_eq_true_iff]
      constructor
      · intro e
        have := congrArg dval e
        rwa [dval_decDigits, dval_decDigits] at this
      · intro e; rw [e]
    rcases Nat.lt_trichotomy a b with hab | hab | hab
    · rw [decide_eq_true hab] at hbl
      have HC := Lib.hid (cmpN_lt hab)
      clear ea eb h hab hq
      go_enter Tryz.func137, Tryz.ntmps137
      go_wp2
      go_ret
      exact ⟨ret_i64 HC.out.symm, rfl⟩
    · rw [decide_eq_false (by omega)] at hbl
      rw [decide_eq_true hab] at hq
      have HC : Hid (cmpN a b = 0) := by unfold Hid; rw [hab]; exact cmpN_eq b
      clear ea eb h hab
      go_enter Tryz.func137, Tryz.ntmps137
      go_wp2
      go_ret
      exact ⟨ret_i64 HC.out.symm, rfl⟩
    · rw [decide_eq_false (by omega)] at hbl
      rw [decide_eq_false (by omega)] at hq
      have HC : Hid (cmpN a b = 1) := by unfold Hid cmpN; simp [hab, Nat.lt_asymm hab]
      clear ea eb h hab
      go_enter Tryz.func137, Tryz.ntmps137
      go_wp2
      go_ret
      exact ⟨ret_i64 HC.out.symm, rfl⟩
  · have hab : b < a := dec_len_lt (by omega)
    have f1 : decide ((num a).size < (num b).size) = false := by simp; omega
    have f2 : (((num a).size : Int) == ((num b).size : Int)) = false := by rw [beq_eq_false_iff_ne]; omega
    have hq : ((num a).toList == (num b).toList) = false := by
      rw [beq_eq_false_iff_ne, Lib.toList_data, Lib.toList_data]
      intro e
      have := congrArg List.length e
      rw [num_list, num_list] at this
      omega
    have HC : Hid (cmpN a b = 1) := by unfold Hid cmpN; simp [hab, Nat.lt_asymm hab]
    clear ea eb hab
    go_enter Tryz.func137, Tryz.ntmps137
    go_wp2
    go_ret
    exact ⟨ret_i64 HC.out.symm, rfl⟩
theorem dval_take_lt {l : List UInt8} (h : ∀ c ∈ l, isDig c) (k : Nat) : dval (l.take k) < 10 ^ k := by
  have h1 := dval_lt (l := l.take k) (fun c hc => h c (List.mem_of_mem_take hc))
  exact Nat.lt_of_lt_of_le h1 (Nat.pow_le_pow_right (by omega) (by simp; omega))
theorem dval_take_succ (s : ByteArray) (k : Nat) (h : k < s.size) : dval (s.data.toList.take (k + 1)) = dval (s.data.toList.take k) * 10 + (s[k].toNat - 48) := by
  rw [List.take_succ_eq_append_getElem (by simpa using h), dval_append]
  simp [dval]
  rfl
set_option maxRecDepth 100000 in
theorem value_any (s : ByteArray) (w : World) (hs : s.size ≤ 18) (hd : ∀ c ∈ s.data.toList, isDig c) :
    Calls Tryz.prog 181 #[.string s] w fun e w' => e = .returned (.int .i64 (dval s.data.toList : Nat)) ∧ w = w' := by
  have HD := Lib.hid hd
  clear hd
  go_enter Tryz.func181, Tryz.ntmps181
  go_wp2
  go_loop [3, 4] (fun n i => ∃ k v : Nat, k ≤ s.size ∧ i = .int .i64 (k : Int) ∧ n = .int .i64 (v : Int) ∧ Hid (v = dval (s.data.toList.take k))) (fun _ i => s.size - (intOf i).toNat)
  case atStart => exact ⟨0, 0, Nat.zero_le _, rfl, rfl, rfl⟩
  case round =>
    obtain ⟨k, v, hk, rfl, rfl, hv⟩ := hrel
    by_cases hlt : k < s.size
    · have hb : v < 100000000000000000 := by
        have h1 := dval_take_lt HD.out k
        have h2 : 10 ^ k ≤ 10 ^ 17 := Nat.pow_le_pow_right (by omega) (by omega)
        have := hv.out
        omega
      have hdk : isDig s[k] := HD.out _ (by
        have : s[k] = s.data.toList[k]'(by simpa using hlt) := rfl
        rw [this]; exact List.getElem_mem _)
      have h48 : (48 : Int) ≤ (s[k].toNat : Int) := by have := hdk.1; omega
      have h57 : (s[k].toNat : Int) ≤ 57 := by have := hdk.2; omega
      have HS := Lib.hid (dval_take_succ s k hlt)
      clear hdk
      go_wp2
      go_round
      case rel => exact ⟨k + 1, v * 10 + (s[k].toNat - 48), by omega, by go_num, by go_num, by unfold Hid; rw [HS.out, ← hv.out]⟩
      case measure => simp [intOf]; omega
    · obtain rfl : k = s.size := by omega
      have e : s.data.toList.take s.size = s.data.toList := List.take_of_length_le (by simp)
      rw [e] at hv
      go_wp2
      go_ret
      exact ⟨ret_i64 (by rw [hv.out]), rfl⟩
theorem value_num (n : Nat) (w : World) (hs : (num n).size ≤ 18) :
    Calls Tryz.prog 181 #[.string (num n)] w fun e w' => e = .returned (.int .i64 (n : Nat)) ∧ w = w' := by
  have := value_any (num n) w hs (by rw [num_list]; exact decDigits_dig n)
  rwa [num_list, dval_decDigits] at this
set_option maxRecDepth 100000 in
theorem reftrim_any (s : ByteArray) (w : World) (hs : s.size ≤ 140737488355328) (h0 : 0 < s.size) (hd : ∀ c ∈ s.data.toList, isDig c) :
    Calls Tryz.prog 182 #[.string s] w fun e w' => e = .returned (.string (num (dval s.data.toList))) ∧ w = w' := by
  have HD := Lib.hid hd
  have HZ : Hid (s.data.toList.length = s.size) := (Lib.size_eq _).symm
  clear hd
  go_enter Tryz.func182, Tryz.ntmps182
  go_wp2
  go_loop [3] (fun i => ∃ k : Nat, k < s.size ∧ i = .int .i64 (k : Int) ∧ Hid (∀ j (h : j < s.data.toList.length), j < k → s.data.toList[j] = 48)) (fun i => s.size - (intOf i).toNat)
  case atStart => exact ⟨0, h0, rfl, fun j _ h => absurd h (by omega)⟩
  case round =>
    obtain ⟨k, hk, rfl, hz⟩ := hrel
    have hfin : Hid (k + 1 = s.size ∨ s[k] ≠ 48 → s.extract k s.size = num (dval s.data.toList)) := fun h => by
      apply bytes_ext
      rw [Lib.extract_to_end, num_list]
      have hz' := HZ.out
      refine trimmed HD.out (i := k) (by omega) (fun j hj => hz.out j (by omega) hj) ?_
      rcases h with h | h
      · left; omega
      · right; exact h
    by_cases he : k + 1 = s.size
    · have f1 : decide ((k : Int) < (s.size : Int) - 1) = false := by simp; omega
      have HE := Lib.hid he
      clear he
      go_wp2
      go_ret
      exact ⟨ret_str (hfin.out (.inl HE.out)), rfl⟩
    · have hl : (k : Int) < (s.size : Int) - 1 := by omega
      clear he
      by_cases h48 : s[k] = 48
      · have hc : (s[k].toNat : Int) = 48 := by rw [h48]; rfl
        have f2 : ((s[k].toNat : Int) == 48) = true := by rw [beq_iff_eq]; exact hc
        have H48 := Lib.hid h48
        clear hc h48
        go_wp2
        go_round
        case rel =>
          refine ⟨k + 1, by omega, by go_num, fun j h hj => ?_⟩
          by_cases e : j = k
          · subst e; exact H48.out
          · exact hz.out j h (by omega)
        case measure => simp [intOf]; omega
      · have f2 : ((s[k].toNat : Int) == 48) = false := by
          rw [beq_eq_false_iff_ne]
          intro e
          apply h48
          apply UInt8.toNat_inj.1
          have : (48 : UInt8).toNat = 48 := rfl
          omega
        have H48 := Lib.hid h48
        clear h48
        go_wp2
        go_ret
        exact ⟨ret_str (hfin.out (.inr H48.out)), rfl⟩
theorem digit_any (n i : Nat) (w : World) (hs : (num n).size ≤ 140737488355328) (hi : i ≤ 140737488355328) :
    Calls Tryz.prog 183 #[.string (num n), .int .i64 (i : Int)] w fun e w' => e = .returned (.int .i64 ((n / 10 ^ i % 10 : Nat) : Int)) ∧ w = w' := by
  have hd : Hid (n / 10 ^ i % 10 = dgt (Lib.decDigits n) i) := (dgt_dec n i).symm
  have hz : Hid ((num n).size = (Lib.decDigits n).length) := num_size n
  generalize hv : n / 10 ^ i % 10 = v at hd
  by_cases h : i < (num n).size
  · have hj : ((num n).size : Int) - 1 - (i : Int) = (((num n).size - 1 - i : Nat) : Int) := by omega
    have hjl : (num n).size - 1 - i < (num n).size := by omega
    have hdg : isDig ((num n)[(num n).size - 1 - i]) := decDigits_dig n _ (by
      have : (num n)[(num n).size - 1 - i] = (num n).data.toList[(num n).size - 1 - i]'(by simpa using hjl) := rfl
      rw [this]; exact List.getElem_mem _)
    have hval : Hid (v = (num n)[(num n).size - 1 - i].toNat - 48) := by
      unfold Hid
      rw [hd.out, dgt, dif_pos (by have := hz.out; omega)]
      congr 2
    have h48 : (48 : Int) ≤ ((num n)[(num n).size - 1 - i].toNat : Int) := by have := hdg.1; omega
    have h57 : ((num n)[(num n).size - 1 - i].toNat : Int) ≤ 57 := by have := hdg.2; omega
    clear hdg hv
    go_enter Tryz.func183, Tryz.ntmps183
    go_wp2
    go_ret
    exact ⟨ret_i64 (by rw [hval.out]; omega), rfl⟩
  · have hval : Hid (v = 0) := by
      unfold Hid
      rw [hd.out, dgt, dif_neg (by have := hz.out; omega)]
    clear hv
    go_enter Tryz.func183, Tryz.ntmps183
    go_wp2
    go_ret
    exact ⟨ret_i64 (by rw [hval.out]; rfl), rfl⟩
theorem reflimited_any (k : Nat) (w : World) (_hs : (num k).size ≤ 140737488355328) :
    Calls Tryz.prog 138 #[.string (num k)] w fun e w' => e = .returned (.tuple #[.string (strL k), .int .i64 (errL k)]) ∧ w = w' := by
  have hz := num_size k
  have h : 300 < (num k).size ↔ ¬ k < Lim := by
    have e : (Lib.decDigits k).length ≤ 300 ↔ k < Lim := by
      have := decDigits_len_iff k mxd (by rw [mxd_eq]; omega)
      rw [← mxd_eq]
      exact this
    omega
  have HG : Hid ((k < Lim → strL k = num k ∧ errL k = 0) ∧ (¬ k < Lim → strL k = ⟨#[]⟩ ∧ errL k = 2)) := by
    unfold Hid strL errL
    exact ⟨fun h => by rw [if_pos h, if_pos h]; exact ⟨rfl, rfl⟩, fun h => by rw [if_neg h, if_neg h]; exact ⟨rfl, rfl⟩⟩
  by_cases hk : k < Lim
  · have f : decide ((300 : Int) < ((num k).size : Int)) = false := by simp; have := (not_congr h).2 (by simpa using hk); omega
    have HK := HG.out.1 hk
    replace HK := Lib.hid HK
    clear hz h hk HG
    go_enter Tryz.func138, Tryz.ntmps138
    go_wp2
    go_ret2
    exact ⟨by rw [HK.out.1, HK.out.2]; rfl, rfl⟩
  · have f : (300 : Int) < ((num k).size : Int) := by have := h.2 hk; omega
    have HK := HG.out.2 hk
    replace HK := Lib.hid HK
    clear hz h hk HG
    go_enter Tryz.func138, Tryz.ntmps138
    go_wp2
    go_ret2
    exact ⟨by rw [HK.out.1, HK.out.2]; rfl, rfl⟩
end Nt
end Go.Proofs.YtpmlhgmmobpilaaGreatDoor
namespace Go.Proofs.YtpmlhgmmobpilaaGreatDoor
open Go.RowKit Go.Shelf
namespace Nt
theorem infoI : (Tryz.prog.info? 3).map (fun i => (i.zero, i.size, i.bytes)) = some (some (.int .i64 0), 1, 8) := by kernel_rfl
/-- The cells of ints. -/
def ivals (ds : List Nat) : List Value := ds.map fun d : Nat => Value.int .i64 (d : Int)
theorem ivals_snoc (ds : List Nat) (d : Nat) : ivals ds ++ [Value.int .i64 (d : Int)] = ivals (ds ++ [d]) := by simp [ivals]
/-- A row of ints of the call's own, which may grow. -/
def OwnI (B : Nat) (w : World) (v : Value) (ds : List Nat) : Prop := w.ownsRow B 3 1 v ds.length (ivals ds)
/-- A slice of ints, all in a block of memory. -/
def IntsAt (w : World) (v : Value) (ds : List Nat) : Prop :=
  ∃ g off cap, v = .slice (some ⟨g, off, none⟩) ds.length cap ∧ g < w.heap.size ∧ ∀ i, i < ds.length → w.cell? ⟨g, off + i, none⟩ = some (.int .i64 (lim ds i))
theorem OwnI.at {B : Nat} {w : World} {v : Value} {ds : List Nat} (h : OwnI B w v ds) (h0 : ds ≠ []) : IntsAt w v ds := by
  rcases id h.2 with ⟨rfl, hx⟩ | ⟨g, cap, cur, rfl, hg, hh, hn, hcm, hcs, ht⟩
  · exact absurd (List.length_eq_zero_iff.1 hx) h0
  · refine ⟨g, 0, cap, rfl, (Array.getElem?_eq_some_iff.1 hh).1, fun i hi => ?_⟩
    rw [Nat.zero_add, World.ownsRow.cellAt h i (by omega)]
    simp [ivals, lim, hi]
/-- A block of memory that holds bytes, all of it. -/
def RfRow (w : World) (g : Nat) (bs : List UInt8) : Prop := w.heap[g]? = some (.cells (bs.map fun c : UInt8 => Value.int .u8 (c.toNat : Int)).toArray 5 (0, 0))
theorem RfRow.frozen {w : World} {g : Nat} {bs : List UInt8} (h : RfRow w g bs) (i : Nat) : w.frozen? ⟨g, i, none⟩ = false := by
  unfold RfRow at h
  simp [World.frozen?, h]
theorem RfRow.cell {w : World} {g : Nat} {bs : List UInt8} (h : RfRow w g bs) {i : Nat} (hi : i < bs.length) : w.cell? ⟨g, i, none⟩ = some (.int .u8 (bs[i].toNat : Int)) := by
  unfold RfRow at h
  simp only [World.cell?, h]
  simp [hi]
theorem RfRow.set {w : World} {g : Nat} {bs : List UInt8} (h : RfRow w g bs) (i : Nat) (c : UInt8) : RfRow (w.setCell ⟨g, i, none⟩ (.int .u8 (c.toNat : Int))) g (bs.set i c) := by
  unfold RfRow at h ⊢
  simp only [World.setCell, Array.getElem?_modify, h]
  simp [List.map_set]
theorem madeZeroB (n : Nat) : madeCells #[.int .u8 0] n = ((List.replicate n (0 : UInt8)).map fun c : UInt8 => Value.int .u8 (c.toNat : Int)).toArray := by
  unfold madeCells
  apply Array.ext
  · simp
  · intro i h1 h2
    have e : i % 1 = 0 := Nat.mod_one i
    simp [e]
theorem RfRow.made0 (w : World) (n : Nat) : RfRow (w.alloc (.cells (madeCells #[.int .u8 0] n) 5)) w.heap.size (List.replicate n 0) := by
  unfold RfRow
  rw [heap_alloc_new, madeZeroB]
theorem RfRow.text {w : World} {g : Nat} {bs : List UInt8} (h : RfRow w g bs) : (convert 171 9 (.slice (some ⟨g, 0, none⟩) bs.length bs.length)).run Tryz.prog w = .ok (.string ⟨bs.toArray⟩) w := by
  have := run_convert_bytes_arg (P := Tryz.prog) w 171 5 Tryz.underlying171 Tryz.underlying5 g 0 bs.length bs.length (bs.map fun c => (c.toNat : Int)) (by simp)
    (fun i hi => by rw [Nat.zero_add, h.cell hi]; simp [hi]) 9 Tryz.underlying9
  rw [this]
  have e : (bs.map ((fun n : Int => UInt8.ofNat n.toNat) ∘ fun c : UInt8 => (c.toNat : Int))) = bs := by
    conv => rhs; rw [← List.map_id bs]
    exact List.map_congr_left fun c _ => by simp
  simp only [strOfNums, List.map_map, e]
theorem run_make_bytes (n : Nat) (hn : n ≤ 1000000) (w : World) :
    (Instr.makeSlice 171 (.int .i64 (n : Int)) (.int .i64 (n : Int))).run Tryz.prog w =
      .ok (.slice (some ⟨w.heap.size, 0, none⟩) n n) (w.alloc (.cells (madeCells #[.int .u8 0] n) 5)) :=
  run_make_row' 171 5 (.int .u8 0) 1 Tryz.underlying171 infoB rfl .i64 .i64 n (by omega) (by omega) w
/-- The bytes while the text is being filled in from behind. -/
def fillB (ds : List Nat) (k : Nat) : List UInt8 := List.replicate (ds.length - k) 0 ++ dbytes (ds.take k)
theorem fillB_len (ds : List Nat) (k : Nat) (h : k ≤ ds.length) : (fillB ds k).length = ds.length := by simp [fillB, dbytes_len]; omega
theorem fillB_zero (ds : List Nat) : fillB ds 0 = List.replicate ds.length 0 := by simp [fillB, dbytes]
theorem fillB_all (ds : List Nat) : fillB ds ds.length = dbytes ds := by simp [fillB]
theorem dbytes_snoc (ds : List Nat) (d : Nat) : dbytes (ds ++ [d]) = UInt8.ofNat (48 + d) :: dbytes ds := by simp [dbytes]
theorem fillB_step (ds : List Nat) (k : Nat) (h : k < ds.length) : (fillB ds k).set (ds.length - 1 - k) (UInt8.ofNat (48 + lim ds k)) = fillB ds (k + 1) := by
  unfold fillB
  rw [List.take_succ_eq_append_getElem h, dbytes_snoc, lim_lt _ _ h]
  have e : ds.length - k = (ds.length - (k + 1)) + 1 := by omega
  rw [e, List.replicate_succ', List.append_assoc]
  have e2 : ds.length - 1 - k = (List.replicate (ds.length - (k + 1)) (0 : UInt8)).length := by simp; omega
  rw [e2, List.set_append_right _ _ (Nat.le_refl _)]
  simp
def TextRel (w : World) (ds : List Nat) (k : Nat) (wr : World) : Prop := RfRow wr w.heap.size (fillB ds k) ∧ Below w.heap.size w wr
set_option maxRecDepth 100000 in
set_option maxHeartbeats 1000000 in
theorem reftext_any (w : World) (v : Value) (ds : List Nat) (h : IntsAt w v ds) (h0 : 0 < ds.length) (hl : ds.length ≤ 100000) (hd : ∀ d ∈ ds, d < 10) :
    Calls Tryz.prog 184 #[v] w fun e w' => e = .returned (.string (num (dv ds))) ∧ Below w.heap.size w w' := by
  obtain ⟨g, off, cap, rfl, hg, hc⟩ := h
  have hmk := run_make_bytes ds.length (by omega)
  have HD := Lib.hid hd
  have HC := Lib.hid hc
  have HV : Hid (dval (dbytes ds) = dv ds) := dval_dbytes hd
  clear hd hc
  go_enter Tryz.func184, Tryz.ntmps184
  go_wp2
  go_loopw [4] (fun i wr => ∃ k : Nat, k ≤ ds.length ∧ i = .int .i64 (k : Int) ∧ TextRel w ds k wr) (fun i _ => ds.length - (intOf i).toNat)
  case atStart => exact ⟨0, Nat.zero_le _, rfl, by rw [fillB_zero]; exact RfRow.made0 _ _, (Below.refl _ _).alloc (Nat.le_refl _) _⟩
  case round =>
    obtain ⟨k, hk, rfl, z1, z2⟩ := hrel
    have hsz := z2.size
    by_cases hlt : k < ds.length
    · have hck := (z2.cell (p := ⟨g, off + k, none⟩) hg).trans (HC.out k hlt)
      have hdk : lim ds k < 10 := by rw [lim_lt _ _ hlt]; exact HD.out _ (List.getElem_mem _)
      have hj : (ds.length : Int) - 1 - (k : Int) = ((ds.length - 1 - k : Nat) : Int) := by omega
      have hjl : ds.length - 1 - k < ds.length := by omega
      have hcell := z1.cell (i := ds.length - 1 - k) (by rw [fillB_len _ _ hk]; omega)
      have hfz := z1.frozen (ds.length - 1 - k)
      have HS : Hid (RfRow (wr.setCell ⟨w.heap.size, ds.length - 1 - k, none⟩ (.int .u8 (48 + (lim ds k : Int)))) w.heap.size (fillB ds (k + 1))) := by
        have := z1.set (ds.length - 1 - k) (UInt8.ofNat (48 + lim ds k))
        rw [fillB_step _ _ hlt, toNat_dig _ hdk] at this
        have e : ((48 + lim ds k : Nat) : Int) = 48 + (lim ds k : Int) := by omega
        rw [e] at this
        exact this
      replace z2 := Lib.hid z2
      clear z1 hmk
      go_wp2
      go_roundw
      case rel => exact ⟨k + 1, by omega, by go_num, HS.out, z2.out.setCell (Nat.le_refl _) _⟩
      case measure => simp [intOf]; omega
    · obtain rfl : k = ds.length := by omega
      rw [fillB_all] at z1
      have ht := z1.text
      rw [dbytes_len] at ht
      replace z2 := Lib.hid z2
      clear z1 hmk
      go_wp2_with fail
      refine (reftrim_any ⟨(dbytes ds).toArray⟩ _ (by have := dbytes_len ds; simp [ByteArray.size]; omega) (by have := dbytes_len ds; simp [ByteArray.size]; omega) (by simpa using dbytes_dig HD.out)).mono ?_
      rintro e w' ⟨rfl, rfl⟩
      go_wp2
      go_ret
      exact ⟨ret_str (by rw [← HV.out]), z2.out⟩
end Nt
end Go.Proofs.YtpmlhgmmobpilaaGreatDoor
namespace Go.Proofs.YtpmlhgmmobpilaaGreatDoor
open Go.RowKit Go.Shelf
namespace Nt
theorem dv_lt {ds : List Nat} (h : ∀ d ∈ ds, d < 10) : dv ds < 10 ^ ds.length := by
  rw [← dval_dbytes h]
  have := dval_lt (dbytes_dig h)
  rwa [dbytes_len] at this
theorem lt_pow_size (n : Nat) : n < 10 ^ (num n).size := by
  rw [num_size]
  exact (decDigits_len_iff n _ (List.length_pos_iff.2 (decDigits_ne n))).1 (Nat.le_refl _)
theorem size_pos (n : Nat) : 0 < (num n).size := by rw [num_size]; exact List.length_pos_iff.2 (decDigits_ne n)
theorem size_mono {a b : Nat} (h : a ≤ b) : (num a).size ≤ (num b).size := by
  have h1 := lt_pow_size b
  have h2 := size_pos b
  rw [num_size a]
  exact decDigits_len (Nat.lt_of_le_of_lt h h1) h2
theorem mod_size {a k : Nat} (h : (num a).size ≤ k) : a % 10 ^ k = a := mod_all (by rw [num_size] at h; exact h)
theorem snoc_all {ds : List Nat} {d : Nat} (h : ∀ x ∈ ds, x < 10) (hd : d < 10) : ∀ x ∈ ds ++ [d], x < 10 := by
  intro x hx
  rcases List.mem_append.1 hx with h1 | h1
  · exact h x h1
  · simp at h1; omega
def PlusRel (w : World) (a b : Nat) (k c : Nat) (v : Value) (wr : World) : Prop :=
  ∃ ds, ds.length = k ∧ (∀ d ∈ ds, d < 10) ∧ OwnI w.heap.size wr v ds ∧ dv ds + 10 ^ k * c = a % 10 ^ k + b % 10 ^ k ∧ Below w.heap.size w wr
theorem plus_end {D a b M c : Nat} (h : D + 10 ^ (M + 1) * c = a % 10 ^ (M + 1) + b % 10 ^ (M + 1)) (ha : a < 10 ^ M) (hb : b < 10 ^ M) : D = a + b := by
  have e : 10 ^ (M + 1) = 10 ^ M * 10 := Nat.pow_succ ..
  rw [Nat.mod_eq_of_lt (by omega), Nat.mod_eq_of_lt (by omega)] at h
  rcases Nat.eq_zero_or_pos c with h0 | h0
  · subst h0; omega
  · have : 10 ^ (M + 1) * 1 ≤ 10 ^ (M + 1) * c := Nat.mul_le_mul_left _ h0
    omega
set_option maxRecDepth 100000 in
set_option maxHeartbeats 1000000 in
theorem Plus_big (a b : Nat) (w : World) (ha : (num a).size ≤ 10000) (hb : (num b).size ≤ 10000) (hbig : ¬ ((num a).size ≤ 18 ∧ (num b).size ≤ 18)) :
    Calls Tryz.prog 139 #[.string (num a), .string (num b)] w fun e w' => e = .returned (.string (num (a + b))) ∧ Below w.heap.size w w' := by
  obtain ⟨i0, hi, hz0, hz1, hz2⟩ := info_parts infoI
  obtain ⟨M, hM⟩ : ∃ M, M = max (num a).size (num b).size := ⟨_, rfl⟩
  have hmx : max ((num a).size : Int) ((num b).size : Int) = (M : Int) := by omega
  have hM2 : M ≤ 10000 := by omega
  have HA : Hid (a < 10 ^ M ∧ b < 10 ^ M) := ⟨Nat.lt_of_lt_of_le (lt_pow_size a) (Nat.pow_le_pow_right (by omega) (by omega)), Nat.lt_of_lt_of_le (lt_pow_size b) (Nat.pow_le_pow_right (by omega) (by omega))⟩
  have hcs : 18 < (num a).size ∨ ((num a).size ≤ 18 ∧ 18 < (num b).size) := by omega
  clear hM hbig
  rcases hcs with h18 | ⟨h18, h19⟩
  all_goals
    go_enter Tryz.func139, Tryz.ntmps139
    go_wp2
    go_loopw [5, 6, 7] (fun v c i wr => ∃ k cc : Nat, k ≤ M + 1 ∧ i = .int .i64 (k : Int) ∧ c = .int .i64 (cc : Int) ∧ cc ≤ 1 ∧ PlusRel w a b k cc v wr) (fun _ _ i _ => M + 1 - (intOf i).toNat)
    case atStart => exact ⟨0, 0, by omega, rfl, rfl, by omega, [], rfl, fun _ h => absurd h (by simp), World.ownsRow_nil _ _ _ _, by simp [dv, Nat.mod_one], Below.refl _ _⟩
    case round =>
      obtain ⟨k, cc, hk, rfl, rfl, hcc, ds, z1, z2, z3, z4, z5⟩ := hrel
      have hsz := z5.size
      by_cases hlt : k < M + 1
      · obtain ⟨x, hx⟩ : ∃ x, x = a / 10 ^ k % 10 := ⟨_, rfl⟩
        obtain ⟨y, hy⟩ : ∃ y, y = b / 10 ^ k % 10 := ⟨_, rfl⟩
        have cx := digit_any a k wr (by omega) (by omega)
        have cy := digit_any b k wr (by omega) (by omega)
        have hr := plus_round z4
        rw [← hx] at cx hr
        rw [← hy] at cy hr
        have hx9 : x < 10 := by omega
        have hy9 : y < 10 := by omega
        have e1 : (((x + y + cc) % 10 : Nat) : Int) = ((x : Int) + (y : Int) + (cc : Int)) % 10 := by omega
        have HS : Hid (∀ w2 v2, w2.ownsRow w.heap.size 3 1 v2 (ds.length + 1) (ivals ds ++ [Value.int .i64 (((x : Int) + (y : Int) + (cc : Int)) % 10)]) → Below w.heap.size w w2 → PlusRel w a b (k + 1) ((x + y + cc) / 10) v2 w2) := fun w2 v2 ho hb => by
          refine ⟨ds ++ [(x + y + cc) % 10], by simp [z1], snoc_all z2 (by omega), ?_, ?_, hb⟩
          · unfold OwnI
            rw [← ivals_snoc, e1, List.length_append]
            exact ho
          · rw [dv_snoc, z1]
            exact hr
        have HO : Hid (wr.ownsRow w.heap.size 3 1 u5 ds.length (ivals ds)) := z3
        have HB := Lib.hid z5
        have HL : Hid (ds.length = k) := z1
        clear z1 z2 z3 z4 z5 hx hy hr e1
        go_wp2_with fail
        refine cx.mono ?_
        rintro e w1 ⟨rfl, rfl⟩
        go_wp2_with fail
        refine cy.mono ?_
        rintro e w1 ⟨rfl, rfl⟩
        clear cx cy
        go_wp2_with (at_builtin; refine wpList_append_own _ rfl _ _ 24 rfl w.heap.size 3 i0 (.int .i64 0) 1 8 Tryz.underlying24 hi hz0 hz1 hz2 rfl (by decide) u5 ds.length (ivals ds) rfl (HO.out.alloc _) ⟨wr.heap.size, 0, none⟩ 1 1 [.int .i64 (((x : Int) + (y : Int) + (cc : Int)) % 10)] rfl rfl (one_new _ _ _) (one_cell _ _) (by have := HL.out; unfold maxLen; omega) (by have := HL.out; omega) (by simp; omega) ?_; intro v2 w2 hown2 hgr2 _)
        refine ⟨⟨k + 1, (x + y + cc) / 10, by omega, by go_num, by go_num, by omega, HS.out w2 v2 hown2 ((HB.out.alloc (by omega) _).grown hgr2 (by simp; omega) (fun b e => (HO.out.lt b e).1))⟩, by simp only [intOf]; omega⟩
      · obtain rfl : k = M + 1 := by omega
        have hv := plus_end z4 HA.out.1 HA.out.2
        have ct := reftext_any wr u5 ds (z3.at (by intro h; rw [h] at z1; simp at z1)) (by omega) (by omega) z2
        rw [hv] at ct
        replace z5 := Lib.hid z5
        clear z1 z2 z3 z4 hv
        go_wp2_with fail
        refine ct.mono ?_
        rintro e w1 ⟨rfl, hb⟩
        have hB := Lib.hid (z5.out.trans (hb.mono hsz))
        clear hb ct
        go_wp2
        go_ret
        exact ⟨rfl, hB.out⟩
theorem pow18 {a : Nat} (h : (num a).size ≤ 18) : a < 1000000000000000000 := by
  have h1 := lt_pow_size a
  have h2 : 10 ^ (num a).size ≤ 10 ^ 18 := Nat.pow_le_pow_right (by omega) h
  omega
theorem pow9 {a : Nat} (h : (num a).size ≤ 9) : a < 1000000000 := by
  have h1 := lt_pow_size a
  have h2 : 10 ^ (num a).size ≤ 10 ^ 9 := Nat.pow_le_pow_right (by omega) h
  omega
theorem Plus_small (a b : Nat) (w : World) (ha : (num a).size ≤ 18) (hb : (num b).size ≤ 18) :
    Calls Tryz.prog 139 #[.string (num a), .string (num b)] w fun e w' => e = .returned (.string (num (a + b))) ∧ w = w' := by
  have h1 := pow18 ha
  have h2 := pow18 hb
  have c1 := value_num a w ha
  have c2 := value_num b w hb
  have c3 := Decimal_any (a + b) w (by omega)
  rw [Int.natCast_add] at c3
  go_enter Tryz.func139, Tryz.ntmps139
  go_wp2_with fail
  refine c1.mono ?_
  rintro e w1 ⟨rfl, rfl⟩
  go_wp2_with fail
  refine c2.mono ?_
  rintro e w1 ⟨rfl, rfl⟩
  go_wp2_with fail
  refine c3.mono ?_
  rintro e w1 ⟨rfl, rfl⟩
  go_wp2
  go_ret
  exact ⟨rfl, rfl⟩
theorem Plus_any (a b : Nat) (w : World) (ha : (num a).size ≤ 10000) (hb : (num b).size ≤ 10000) :
    Calls Tryz.prog 139 #[.string (num a), .string (num b)] w fun e w' => e = .returned (.string (num (a + b))) ∧ Below w.heap.size w w' := by
  by_cases h : (num a).size ≤ 18 ∧ (num b).size ≤ 18
  · refine (Plus_small a b w h.1 h.2).mono ?_
    rintro e w' ⟨rfl, rfl⟩
    exact ⟨rfl, Below.refl _ _⟩
  · exact Plus_big a b w ha hb h
def MinusRel (w : World) (a b : Nat) (k c : Nat) (v : Value) (wr : World) : Prop :=
  ∃ ds, ds.length = k ∧ (∀ d ∈ ds, d < 10) ∧ OwnI w.heap.size wr v ds ∧ dv ds + b % 10 ^ k = a % 10 ^ k + 10 ^ k * c ∧ Below w.heap.size w wr
theorem minus_end {D a b k c : Nat} (h : D + b % 10 ^ k = a % 10 ^ k + 10 ^ k * c) (ha : a < 10 ^ k) (hb : b ≤ a) (hD : D < 10 ^ k) : D = a - b := by
  rw [Nat.mod_eq_of_lt (by omega), Nat.mod_eq_of_lt ha] at h
  rcases Nat.eq_zero_or_pos c with h0 | h0
  · subst h0; omega
  · have : 10 ^ k * 1 ≤ 10 ^ k * c := Nat.mul_le_mul_left _ h0
    omega
set_option maxRecDepth 100000 in
set_option maxHeartbeats 1000000 in
theorem Minus_any (a b : Nat) (w : World) (ha : (num a).size ≤ 10000) (hle : b ≤ a) :
    Calls Tryz.prog 140 #[.string (num a), .string (num b)] w fun e w' => e = .returned (.string (num (a - b))) ∧ Below w.heap.size w w' := by
  obtain ⟨i0, hi, hz0, hz1, hz2⟩ := info_parts infoI
  have hb := size_mono hle
  have ha0 := size_pos a
  have HA := Lib.hid (lt_pow_size a)
  replace hle := Lib.hid hle
  go_enter Tryz.func140, Tryz.ntmps140
  go_wp2
  go_loopw [5, 6, 7] (fun v c i wr => ∃ k cc : Nat, k ≤ (num a).size ∧ i = .int .i64 (k : Int) ∧ c = .int .i64 (cc : Int) ∧ cc ≤ 1 ∧ MinusRel w a b k cc v wr) (fun _ _ i _ => (num a).size - (intOf i).toNat)
  case atStart => exact ⟨0, 0, by omega, rfl, rfl, by omega, [], rfl, fun _ h => absurd h (by simp), World.ownsRow_nil _ _ _ _, by simp [dv, Nat.mod_one], Below.refl _ _⟩
  case round =>
    obtain ⟨k, cc, hk, rfl, rfl, hcc, ds, z1, z2, z3, z4, z5⟩ := hrel
    have hsz := z5.size
    by_cases hlt : k < (num a).size
    · obtain ⟨x, hx⟩ : ∃ x, x = a / 10 ^ k % 10 := ⟨_, rfl⟩
      obtain ⟨y, hy⟩ : ∃ y, y = b / 10 ^ k % 10 := ⟨_, rfl⟩
      have cx := digit_any a k wr (by omega) (by omega)
      have cy := digit_any b k wr (by omega) (by omega)
      rw [← hx] at cx
      rw [← hy] at cy
      have hx9 : x < 10 := by omega
      have hy9 : y < 10 := by omega
      have HS : Hid (∀ (z c' : Nat) (d : Int) w2 v2, z < 10 → c' ≤ 1 → z + y + cc = x + 10 * c' → d = (z : Int) → w2.ownsRow w.heap.size 3 1 v2 (ds.length + 1) (ivals ds ++ [Value.int .i64 d]) → Below w.heap.size w w2 → MinusRel w a b (k + 1) c' v2 w2) := fun z c' d w2 v2 hz hc he hdz ho hb => by
        subst hdz
        refine ⟨ds ++ [z], by simp [z1], snoc_all z2 hz, ?_, ?_, hb⟩
        · unfold OwnI
          rw [← ivals_snoc, List.length_append]
          exact ho
        · rw [dv_snoc, z1]
          exact minus_round z4 (by rw [← hx, ← hy]; exact he)
      have HO : Hid (wr.ownsRow w.heap.size 3 1 u5 ds.length (ivals ds)) := z3
      have HB := Lib.hid z5
      have HL : Hid (ds.length = k) := z1
      clear z1 z2 z3 z4 z5 hx hy
      by_cases hneg : x < y + cc
      all_goals
        go_wp2_with fail
        refine cx.mono ?_
        rintro e w1 ⟨rfl, rfl⟩
        go_wp2_with fail
        refine cy.mono ?_
        rintro e w1 ⟨rfl, rfl⟩
        clear cx cy
      · go_wp2_with (at_builtin; refine wpList_append_own _ rfl _ _ 24 rfl w.heap.size 3 i0 (.int .i64 0) 1 8 Tryz.underlying24 hi hz0 hz1 hz2 rfl (by decide) u5 ds.length (ivals ds) rfl (HO.out.alloc _) ⟨wr.heap.size, 0, none⟩ 1 1 [.int .i64 ((x : Int) - (y : Int) - (cc : Int) + 10)] rfl rfl (one_new _ _ _) (one_cell _ _) (by have := HL.out; unfold maxLen; omega) (by have := HL.out; omega) (by simp; omega) ?_; intro v2 w2 hown2 hgr2 _)
        refine ⟨⟨k + 1, 1, by omega, by go_num, by go_num, by omega, HS.out (x + 10 - y - cc) 1 _ w2 v2 (by omega) (by omega) (by omega) (by omega) hown2 ((HB.out.alloc (by omega) _).grown hgr2 (by simp; omega) (fun b e => (HO.out.lt b e).1))⟩, by simp only [intOf]; omega⟩
      · go_wp2_with (at_builtin; refine wpList_append_own _ rfl _ _ 24 rfl w.heap.size 3 i0 (.int .i64 0) 1 8 Tryz.underlying24 hi hz0 hz1 hz2 rfl (by decide) u5 ds.length (ivals ds) rfl (HO.out.alloc _) ⟨wr.heap.size, 0, none⟩ 1 1 [.int .i64 ((x : Int) - (y : Int) - (cc : Int))] rfl rfl (one_new _ _ _) (one_cell _ _) (by have := HL.out; unfold maxLen; omega) (by have := HL.out; omega) (by simp; omega) ?_; intro v2 w2 hown2 hgr2 _)
        refine ⟨⟨k + 1, 0, by omega, by go_num, by go_num, by omega, HS.out (x - y - cc) 0 _ w2 v2 (by omega) (by omega) (by omega) (by omega) hown2 ((HB.out.alloc (by omega) _).grown hgr2 (by simp; omega) (fun b e => (HO.out.lt b e).1))⟩, by simp only [intOf]; omega⟩
    · obtain rfl : k = (num a).size := by omega
      have hD := dv_lt z2
      rw [z1] at hD
      have hv := minus_end z4 HA.out hle.out hD
      have ct := reftext_any wr u5 ds (z3.at (by intro h; rw [h] at z1; simp at z1; omega)) (by omega) (by omega) z2
      rw [hv] at ct
      replace z5 := Lib.hid z5
      clear z1 z2 z3 z4 hv hD
      go_wp2_with fail
      refine ct.mono ?_
      rintro e w1 ⟨rfl, hb⟩
      have hB := Lib.hid (z5.out.trans (hb.mono hsz))
      clear hb ct
      go_wp2
      go_ret
      exact ⟨rfl, hB.out⟩
end Nt
end Go.Proofs.YtpmlhgmmobpilaaGreatDoor
namespace Go.Proofs.YtpmlhgmmobpilaaGreatDoor
open Go.RowKit Go.Shelf
namespace Nt
/-- A block of memory that holds ints, all of it. -/
def RowI (w : World) (g : Nat) (zs : List Nat) : Prop := w.heap[g]? = some (.cells (ivals zs).toArray 3 (0, 0))
theorem RowI.lt {w : World} {g : Nat} {zs : List Nat} (h : RowI w g zs) : g < w.heap.size := (Array.getElem?_eq_some_iff.1 h).1
theorem RowI.frozen {w : World} {g : Nat} {zs : List Nat} (h : RowI w g zs) (i : Nat) : w.frozen? ⟨g, i, none⟩ = false := by
  unfold RowI at h
  simp [World.frozen?, h]
theorem RowI.cell {w : World} {g : Nat} {zs : List Nat} (h : RowI w g zs) {i : Nat} (hi : i < zs.length) : w.cell? ⟨g, i, none⟩ = some (.int .i64 (lim zs i)) := by
  unfold RowI at h
  simp only [World.cell?, h]
  simp [ivals, lim, hi]
theorem RowI.set {w : World} {g : Nat} {zs : List Nat} (h : RowI w g zs) (i : Nat) (y : Nat) : RowI (w.setCell ⟨g, i, none⟩ (.int .i64 (y : Int))) g (zs.set i y) := by
  unfold RowI at h ⊢
  simp only [World.setCell, Array.getElem?_modify, h]
  simp [ivals, List.map_set]
theorem madeZeroI (n : Nat) : madeCells #[.int .i64 0] n = (ivals (List.replicate n 0)).toArray := by
  unfold madeCells ivals
  apply Array.ext
  · simp
  · intro i h1 h2
    have e : i % 1 = 0 := Nat.mod_one i
    simp [e]
theorem RowI.made0 (w : World) (n : Nat) : RowI (w.alloc (.cells (madeCells #[.int .i64 0] n) 3)) w.heap.size (List.replicate n 0) := by
  unfold RowI
  rw [heap_alloc_new, madeZeroI]
theorem RowI.at {w : World} {g : Nat} {zs : List Nat} (h : RowI w g zs) : IntsAt w (.slice (some ⟨g, 0, none⟩) zs.length zs.length) zs :=
  ⟨g, 0, zs.length, rfl, h.lt, fun i hi => by rw [Nat.zero_add]; exact h.cell hi⟩
theorem run_make_ints (n : Nat) (hn : n ≤ 1000000) (w : World) :
    (Instr.makeSlice 24 (.int .i64 (n : Int)) (.int .i64 (n : Int))).run Tryz.prog w =
      .ok (.slice (some ⟨w.heap.size, 0, none⟩) n n) (w.alloc (.cells (madeCells #[.int .i64 0] n) 3)) :=
  run_make_row' 24 3 (.int .i64 0) 8 Tryz.underlying24 infoI rfl .i64 .i64 n (by omega) (by omega) w
theorem digit_still (n i : Nat) (w : World) (hs : (num n).size ≤ 140737488355328) (hi : i ≤ 140737488355328) :
    Calls Tryz.prog 183 #[.string (num n), .int .i64 (i : Int)] w fun e w' => e = .returned (.int .i64 ((n / 10 ^ i % 10 : Nat) : Int)) ∧ w' = w :=
  (digit_any n i w hs hi).mono fun _ _ h => ⟨h.1, h.2.symm⟩
def TOut (w : World) (a b L g i : Nat) (wr : World) : Prop :=
  ∃ zs, zs.length = L ∧ RowI wr g zs ∧ (∀ p, lim zs p ≤ 81 * i) ∧ dv zs = (a % 10 ^ i) * b ∧ Below w.heap.size w wr
def TIn (w : World) (a b L g i j : Nat) (wr : World) : Prop :=
  ∃ zs, zs.length = L ∧ RowI wr g zs ∧ (∀ p, lim zs p ≤ 81 * (i + 1)) ∧ (∀ p, i + j ≤ p → lim zs p ≤ 81 * i) ∧ dv zs = (a % 10 ^ i) * b + 10 ^ i * ((a / 10 ^ i % 10) * (b % 10 ^ j)) ∧ Below w.heap.size w wr
theorem TOut.start {w wr : World} {a b L g i : Nat} (h : TOut w a b L g i wr) : TIn w a b L g i 0 wr := by
  obtain ⟨zs, h1, h2, h3, h4, h5⟩ := h
  exact ⟨zs, h1, h2, fun p => by have := h3 p; omega, fun p _ => h3 p, by simp [h4, Nat.mod_one], h5⟩
theorem TIn.done {w wr : World} {a b L g i : Nat} (h : TIn w a b L g i (num b).size wr) : TOut w a b L g (i + 1) wr := by
  obtain ⟨zs, h1, h2, h3, h4, h5, h6⟩ := h
  refine ⟨zs, h1, h2, h3, ?_, h6⟩
  rw [h5, mod_size (Nat.le_refl _), mod_pow_succ, Nat.add_mul, Nat.mul_assoc]
theorem TIn.at {w wr : World} {a b L g i j : Nat} (h : TIn w a b L g i j wr) (hl : i + j < L) :
    ∃ z : Nat, z ≤ 81 * i ∧ wr.cell? ⟨g, i + j, none⟩ = some (.int .i64 (z : Int)) ∧ wr.frozen? ⟨g, i + j, none⟩ = false := by
  obtain ⟨zs, h1, h2, h3, h4, h5, h6⟩ := h
  exact ⟨lim zs (i + j), h4 _ (Nat.le_refl _), h2.cell (by omega), h2.frozen _⟩
theorem TIn.step {w wr : World} {a b L g i j : Nat} (h : TIn w a b L g i j wr) (hl : i + j < L) (hg : w.heap.size ≤ g) {z x y : Nat} {d : Int} (hz : wr.cell? ⟨g, i + j, none⟩ = some (.int .i64 (z : Int)))
    (hx : x = a / 10 ^ i % 10) (hy : y = b / 10 ^ j % 10) (hd : d = ((z + x * y : Nat) : Int)) : TIn w a b L g i (j + 1) (wr.drew.setCell ⟨g, i + j, none⟩ (.int .i64 d)) := by
  subst hd
  obtain ⟨zs, h1, h2, h3, h4, h5, h6⟩ := h
  have hc := h2.cell (i := i + j) (by omega)
  rw [hz] at hc
  have hzz : z = lim zs (i + j) := by simp at hc; omega
  have hxy : x * y ≤ 9 * 9 := Nat.mul_le_mul (by omega) (by omega)
  have hzl := h4 (i + j) (Nat.le_refl _)
  have h2' : RowI wr.drew g zs := h2
  refine ⟨zs.set (i + j) (z + x * y), by simpa using h1, h2'.set _ _, fun p => ?_, fun p hp => ?_, ?_, h6.drew.setCell hg _⟩
  · by_cases e : p = i + j
    · subst e; rw [lim_set _ _ _ (by omega)]; omega
    · rw [lim_set_ne _ _ _ _ e]; exact h3 p
  · rw [lim_set_ne _ _ _ _ (by omega)]; exact h4 p (by omega)
  · have hs := dv_set zs (i + j) (z + x * y) (by omega)
    rw [← hzz, Nat.mul_add] at hs
    rw [mod_pow_succ b j, ← hy, ← hx, Nat.mul_add, Nat.mul_add]
    have e : 10 ^ (i + j) * (x * y) = 10 ^ i * (x * (10 ^ j * y)) := by rw [Nat.pow_add, Nat.mul_assoc, Nat.mul_left_comm (10 ^ j)]
    rw [← hx] at h5
    omega
/-- While the carries are moved on. -/
def TCar (w : World) (a b L g i : Nat) (wr : World) : Prop :=
  ∃ zs, zs.length = L ∧ RowI wr g zs ∧ (∀ p, p < i → lim zs p < 10) ∧ lim zs i ≤ 900000 ∧ (∀ p, i < p → lim zs p ≤ 810000) ∧ dv zs = a * b ∧ Below w.heap.size w wr
theorem TOut.car {w wr : World} {a b L g : Nat} (h : TOut w a b L g (num a).size wr) (ha : (num a).size ≤ 10000) : TCar w a b L g 0 wr := by
  obtain ⟨zs, h1, h2, h3, h4, h5⟩ := h
  exact ⟨zs, h1, h2, fun p hp => absurd hp (by omega), by have := h3 0; omega, fun p _ => by have := h3 p; omega, by rw [h4, mod_size (Nat.le_refl _)], h5⟩
theorem TCar.at {w wr : World} {a b L g i : Nat} (h : TCar w a b L g i wr) (hl : i + 1 < L) :
    ∃ z y : Nat, z ≤ 900000 ∧ y ≤ 810000 ∧ wr.cell? ⟨g, i, none⟩ = some (.int .i64 (z : Int)) ∧ wr.cell? ⟨g, i + 1, none⟩ = some (.int .i64 (y : Int)) ∧ wr.frozen? ⟨g, i, none⟩ = false ∧ wr.frozen? ⟨g, i + 1, none⟩ = false := by
  obtain ⟨zs, h1, h2, h3, h4, h5, h6, h7⟩ := h
  exact ⟨lim zs i, lim zs (i + 1), h4, h5 _ (by omega), h2.cell (by omega), h2.cell (by omega), h2.frozen _, h2.frozen _⟩
theorem TCar.step {w wr : World} {a b L g i : Nat} (h : TCar w a b L g i wr) (hl : i + 1 < L) (hg : w.heap.size ≤ g) {z y : Nat} {d1 d2 : Int} (hz : wr.cell? ⟨g, i, none⟩ = some (.int .i64 (z : Int))) (hy : wr.cell? ⟨g, i + 1, none⟩ = some (.int .i64 (y : Int)))
    (e1 : d1 = ((y + z / 10 : Nat) : Int)) (e2 : d2 = ((z % 10 : Nat) : Int)) : TCar w a b L g (i + 1) ((wr.drew.setCell ⟨g, i + 1, none⟩ (.int .i64 d1)).setCell ⟨g, i, none⟩ (.int .i64 d2)) := by
  subst e1 e2
  obtain ⟨zs, h1, h2, h3, h4, h5, h6, h7⟩ := h
  have hc := h2.cell (i := i) (by omega)
  rw [hz] at hc
  have hzz : z = lim zs i := by simp at hc; omega
  have hc2 := h2.cell (i := i + 1) (by omega)
  rw [hy] at hc2
  have hyy : y = lim zs (i + 1) := by simp at hc2; omega
  have h2' : RowI wr.drew g zs := h2
  have hb := h5 (i + 1) (by omega)
  refine ⟨(zs.set (i + 1) (y + z / 10)).set i (z % 10), by simpa using h1, (h2'.set _ _).set _ _, fun p hp => ?_, ?_, fun p hp => ?_, ?_, (h7.drew.setCell hg _).setCell hg _⟩
  · by_cases e : p = i
    · subst e; rw [lim_set _ _ _ (by simp; omega)]; omega
    · rw [lim_set_ne _ _ _ _ e, lim_set_ne _ _ _ _ (by omega)]; exact h3 p (by omega)
  · rw [lim_set_ne _ _ _ _ (by omega), lim_set _ _ _ (by omega)]; omega
  · rw [lim_set_ne _ _ _ _ (by omega), lim_set_ne _ _ _ _ (by omega)]; exact h5 p (by omega)
  · have s1 := dv_set zs (i + 1) (y + z / 10) (by omega)
    have s2 := dv_set (zs.set (i + 1) (y + z / 10)) i (z % 10) (by simp; omega)
    rw [lim_set_ne _ _ _ _ (by omega), ← hzz] at s2
    rw [← hyy, Nat.pow_succ] at s1
    rw [← h6]
    generalize 10 ^ i = P at s1 s2
    have e3 : P * z = P * (z % 10) + P * 10 * (z / 10) := by rw [Nat.mul_assoc, ← Nat.mul_add, Nat.mod_add_div]
    rw [Nat.mul_add] at s1
    omega
theorem TCar.end {w wr : World} {a b L g : Nat} (h : TCar w a b (L + 1) g L wr) (hL : a * b < 10 ^ L) : ∃ zs, zs.length = L + 1 ∧ RowI wr g zs ∧ (∀ d ∈ zs, d < 10) ∧ dv zs = a * b ∧ Below w.heap.size w wr := by
  obtain ⟨zs, h1, h2, h3, h4, h5, h6, h7⟩ := h
  refine ⟨zs, h1, h2, fun d hd => ?_, h6, h7⟩
  obtain ⟨p, hp, rfl⟩ := List.getElem_of_mem hd
  rw [← lim_lt _ _ hp]
  by_cases e : p < L
  · exact h3 p e
  · obtain rfl : p = L := by omega
    have h8 := dv_ge zs p hp
    rcases Nat.eq_zero_or_pos (lim zs p) with h0 | h0
    · omega
    · have : 10 ^ p * 1 ≤ 10 ^ p * lim zs p := Nat.mul_le_mul_left _ h0
      omega
theorem Times_small (a b : Nat) (w : World) (ha : (num a).size ≤ 9) (hb : (num b).size ≤ 9) :
    Calls Tryz.prog 160 #[.string (num a), .string (num b)] w fun e w' => e = .returned (.string (num (a * b))) ∧ w = w' := by
  have h1 := pow9 ha
  have h2 := pow9 hb
  have hp : a * b ≤ 999999999 * 999999999 := Nat.mul_le_mul (by omega) (by omega)
  have c1 := value_num a w (by omega)
  have c2 := value_num b w (by omega)
  have c3 := Decimal_any (a * b) w (by omega)
  have e : ((a * b : Nat) : Int) = (a : Int) * (b : Int) := Int.natCast_mul _ _
  have hp1 : (a : Int) * (b : Int) ≤ 999999998000000001 := by rw [← e]; omega
  have hp0 : 0 ≤ (a : Int) * (b : Int) := by rw [← e]; omega
  rw [e] at c3
  clear e hp
  go_enter Tryz.func160, Tryz.ntmps160
  go_wp2_with fail
  refine c1.mono ?_
  rintro e w1 ⟨rfl, rfl⟩
  go_wp2_with fail
  refine c2.mono ?_
  rintro e w1 ⟨rfl, rfl⟩
  go_wp2_with fail
  refine c3.mono ?_
  rintro e w1 ⟨rfl, rfl⟩
  go_wp2
  go_ret
  exact ⟨rfl, rfl⟩
set_option maxRecDepth 100000 in
set_option maxHeartbeats 4000000 in
theorem Times_big (a b : Nat) (w : World) (ha : (num a).size ≤ 10000) (hb : (num b).size ≤ 10000) (hbig : ¬ ((num a).size ≤ 9 ∧ (num b).size ≤ 9)) :
    Calls Tryz.prog 160 #[.string (num a), .string (num b)] w fun e w' => e = .returned (.string (num (a * b))) ∧ Below w.heap.size w w' := by
  have hmk := run_make_ints ((num a).size + (num b).size + 1) (by omega)
  rw [Int.natCast_add, Int.natCast_add, Int.natCast_one] at hmk
  have HL : Hid (a * b < 10 ^ ((num a).size + (num b).size)) := by
    unfold Hid
    rw [Nat.pow_add]
    exact Nat.mul_lt_mul'' (lt_pow_size a) (lt_pow_size b)
  have hcs : 9 < (num a).size ∨ ((num a).size ≤ 9 ∧ 9 < (num b).size) := by omega
  clear hbig
  rcases hcs with h18 | ⟨h18, h19⟩
  all_goals
    go_enter Tryz.func160, Tryz.ntmps160
    go_wp2
    go_loopw [6] (fun i wr => ∃ k : Nat, k ≤ (num a).size ∧ i = .int .i64 (k : Int) ∧ TOut w a b ((num a).size + (num b).size + 1) w.heap.size k wr) (fun i _ => (num a).size - (intOf i).toNat)
    case atStart => exact ⟨0, Nat.zero_le _, rfl, List.replicate ((num a).size + (num b).size + 1) 0, by simp, RowI.made0 _ _, fun p => by rw [lim_zeros]; omega, by rw [dv_zeros]; simp [Nat.mod_one], (Below.refl _ _).alloc (Nat.le_refl _) _⟩
    case round =>
      obtain ⟨k, hk, rfl, hrel⟩ := hrel
      by_cases hkn : k < (num a).size
      · have HR := Lib.hid hrel
        clear hrel hmk
        go_wp2
        obtain ⟨wo, rfl⟩ : ∃ wo : World, wo = wr := ⟨_, rfl⟩
        go_loopw [7] (fun j wr => ∃ q : Nat, q ≤ (num b).size ∧ j = .int .i64 (q : Int) ∧ TIn w a b ((num a).size + (num b).size + 1) w.heap.size k q wr) (fun j _ => (num b).size - (intOf j).toNat)
        case atStart => exact ⟨0, Nat.zero_le _, rfl, HR.out.start⟩
        case round =>
          obtain ⟨q, hq, rfl, hrel⟩ := hrel
          by_cases hqn : q < (num b).size
          · obtain ⟨z, hz, hzc, hzf⟩ := hrel.at (by omega)
            obtain ⟨x, hx⟩ : ∃ x, x = a / 10 ^ k % 10 := ⟨_, rfl⟩
            obtain ⟨y, hy⟩ : ∃ y, y = b / 10 ^ q % 10 := ⟨_, rfl⟩
            have cx := fun W => digit_still a k W (by omega) (by omega)
            have cy := fun W => digit_still b q W (by omega) (by omega)
            rw [← hx] at cx
            rw [← hy] at cy
            have hx9 : x < 10 := by omega
            have hy9 : y < 10 := by omega
            have hxy : x * y ≤ 9 * 9 := Nat.mul_le_mul (by omega) (by omega)
            have exy : ((x * y : Nat) : Int) = (x : Int) * (y : Int) := Int.natCast_mul _ _
            have hxy1 : (x : Int) * (y : Int) ≤ 81 := by rw [← exy]; omega
            have hxy0 : 0 ≤ (x : Int) * (y : Int) := by rw [← exy]; omega
            have HS := Lib.hid (fun d hd => hrel.step (d := d) (by omega) (Nat.le_refl _) hzc hx hy hd)
            have s1 : IntKind.i64.wrap ((k : Int) + (q : Int)) = (k : Int) + (q : Int) := IntWalk.i64_in _ (by omega)
            have s2 : (0 : Int) ≤ (k : Int) + (q : Int) := by omega
            have s3 : (k : Int) + (q : Int) < ((num a).size : Int) + ((num b).size : Int) + 1 := by omega
            have s4 : ((k : Int) + (q : Int)).toNat = k + q := by omega
            have s5 : IntKind.i64.wrap ((x : Int) * (y : Int)) = (x : Int) * (y : Int) := IntWalk.i64_in _ (by omega)
            have s6 : IntKind.i64.wrap ((z : Int) + (x : Int) * (y : Int)) = (z : Int) + (x : Int) * (y : Int) := IntWalk.i64_in _ (by omega)
            clear hx hy hrel hxy exy HR
            go_wp2
            refine wp_region_still_tail 15 (by kernel_rfl) (by kernel_rfl) ?_
            simp only [List.take_succ_cons, List.take_zero, List.drop_succ_cons, List.drop_zero]
            repeat still_step
            still_call (cx _)
            repeat still_step
            still_call (cy _)
            repeat still_step
            refine wpStill_nil ?_
            change wpList _ _ _ _ _ wr.drew
            go_wp2
            exact ⟨⟨q + 1, by omega, by go_num, HS.out _ (by simp)⟩, by simp only [intOf]; omega⟩
          · obtain rfl : q = (num b).size := by omega
            have HT := Lib.hid hrel.done
            clear hrel HR
            go_wp2
            exact ⟨⟨k + 1, by omega, by go_num, HT.out⟩, by simp only [intOf]; omega⟩
      · obtain rfl : k = (num a).size := by omega
        have HT := Lib.hid (hrel.car ha)
        clear hrel hmk
        go_wp2
        go_loopw [8] (fun i wr => ∃ k : Nat, k ≤ (num a).size + (num b).size ∧ i = .int .i64 (k : Int) ∧ TCar w a b ((num a).size + (num b).size + 1) w.heap.size k wr) (fun i _ => (num a).size + (num b).size - (intOf i).toNat)
        case atStart => exact ⟨0, Nat.zero_le _, rfl, HT.out⟩
        case round =>
          obtain ⟨k, hk, rfl, hrel⟩ := hrel
          by_cases hkn : k < (num a).size + (num b).size
          · obtain ⟨z, y, hz, hy, hzc, hyc, hzf, hyf⟩ := hrel.at (by omega)
            have HS := Lib.hid (fun d1 d2 e1 e2 => hrel.step (d1 := d1) (d2 := d2) (by omega) (Nat.le_refl _) hzc hyc e1 e2)
            have s1 : IntKind.i64.wrap ((k : Int) + 1) = (k : Int) + 1 := IntWalk.i64_in _ (by omega)
            have s2 : (0 : Int) ≤ (k : Int) + 1 := by omega
            have s3 : (k : Int) < ((num a).size : Int) + ((num b).size : Int) := by omega
            have s4 : ((k : Int) + 1).toNat = k + 1 := by omega
            have s8 : (k : Int) < ((num a).size : Int) + ((num b).size : Int) + 1 := by omega
            have s5 : (z : Int).tdiv 10 = ((z / 10 : Nat) : Int) := by rw [Int.tdiv_eq_ediv_of_nonneg (by omega)]; rfl
            have s6 : IntKind.i64.wrap ((z / 10 : Nat) : Int) = ((z / 10 : Nat) : Int) := IntWalk.i64_in _ (by omega)
            have s7 : IntKind.i64.wrap ((y : Int) + ((z / 10 : Nat) : Int)) = (y : Int) + ((z / 10 : Nat) : Int) := IntWalk.i64_in _ (by omega)
            clear hrel HT
            go_wp2
            refine wp_region_still_tail 12 (by kernel_rfl) (by kernel_rfl) ?_
            simp only [List.take_succ_cons, List.take_zero, List.drop_succ_cons, List.drop_zero]
            repeat still_step
            refine wpStill_nil ?_
            change wpList _ _ _ _ _ wr.drew
            go_wp2
            exact ⟨⟨k + 1, by omega, by go_num, HS.out _ _ (by omega) (by omega)⟩, by simp only [intOf]; omega⟩
          · obtain rfl : k = (num a).size + (num b).size := by omega
            obtain ⟨zs, z1, z2, z3, z4, z5⟩ := hrel.end HL.out
            have hat := z2.at
            have ct := reftext_any wr _ zs hat (by omega) (by omega) z3
            rw [z1, z4] at ct
            have hsz := z5.size
            replace z5 := Lib.hid z5
            clear hrel HT z1 z2 z3 z4 hat
            go_wp2_with fail
            refine ct.mono ?_
            rintro e w1 ⟨rfl, hb⟩
            have hB := Lib.hid (z5.out.trans (hb.mono hsz))
            clear hb ct
            go_wp2
            go_ret
            exact ⟨rfl, hB.out⟩
theorem Times_any (a b : Nat) (w : World) (ha : (num a).size ≤ 10000) (hb : (num b).size ≤ 10000) :
    Calls Tryz.prog 160 #[.string (num a), .string (num b)] w fun e w' => e = .returned (.string (num (a * b))) ∧ Below w.heap.size w w' := by
  by_cases h : (num a).size ≤ 9 ∧ (num b).size ≤ 9
  · refine (Times_small a b w h.1 h.2).mono ?_
    rintro e w' ⟨rfl, rfl⟩
    exact ⟨rfl, Below.refl _ _⟩
  · exact Times_big a b w ha hb h
end Nt
end Go.Proofs.YtpmlhgmmobpilaaGreatDoor
namespace Go.Proofs.YtpmlhgmmobpilaaGreatDoor
open Go.RowKit Go.Shelf
namespace Nt
theorem num_zero : num 0 = ⟨#[48]⟩ := num_lit [48] 0 (by decide) (by decide)
theorem Over_less (a b : Nat) (w : World) (ha : (num a).size ≤ 10000) (hb : (num b).size ≤ 10000) (h : a < b) :
    Calls Tryz.prog 136 #[.string (num a), .string (num b)] w fun e w' => e = .returned (.tuple #[.string (num (a / b)), .string (num (a % b))]) ∧ w = w' := by
  have c1 := Order_any a b w (by omega) (by omega)
  rw [cmpN_lt h] at c1
  have HV : Hid (num (a / b) = ⟨#[48]⟩ ∧ num (a % b) = num a) := ⟨by rw [Nat.div_eq_of_lt h, num_zero], by rw [Nat.mod_eq_of_lt h]⟩
  clear h
  go_enter Tryz.func136, Tryz.ntmps136
  go_wp2_with fail
  refine c1.mono ?_
  rintro e w1 ⟨rfl, rfl⟩
  go_wp2
  go_ret2
  exact ⟨by rw [HV.out.1, HV.out.2]; rfl, rfl⟩
theorem cmpN_ge {a b : Nat} (h : b ≤ a) : ∃ c : Int, c = cmpN a b ∧ 0 ≤ c ∧ c ≤ 1 := by
  refine ⟨_, rfl, ?_⟩
  unfold cmpN
  rw [if_neg (by omega)]
  split <;> omega
set_option maxRecDepth 100000 in
theorem Over_small (a b : Nat) (w : World) (ha : (num a).size ≤ 18) (hb0 : b ≠ 0) (h : b ≤ a) :
    Calls Tryz.prog 136 #[.string (num a), .string (num b)] w fun e w' => e = .returned (.tuple #[.string (num (a / b)), .string (num (a % b))]) ∧ w = w' := by
  have hb := size_mono h
  have h1 := pow18 ha
  have c1 := Order_any a b w (by omega) (by omega)
  obtain ⟨c, hc, hc0, hc1⟩ := cmpN_ge h
  rw [← hc] at c1
  have v1 := value_num a w ha
  have v2 := value_num b w (by omega)
  have hq := Nat.div_le_self a b
  have hr : a % b < b := Nat.mod_lt _ (by omega)
  have d1 := Decimal_any (a / b) w (by omega)
  have d2 := Decimal_any (a % b) w (by omega)
  rw [Int.natCast_ediv] at d1
  rw [Int.natCast_emod] at d2
  have hz : ((b : Int) == 0) = false := by rw [beq_eq_false_iff_ne]; omega
  have hw : wrap64 ((a : Int) / (b : Int)) = (a : Int) / (b : Int) := by
    have e : (a : Int) / (b : Int) = ((a / b : Nat) : Int) := by simp
    rw [e]
    generalize a / b = q at hq
    exact IntWalk.wrap64_in _ ⟨by omega, by omega⟩
  clear hc hq hr
  replace hb0 := Lib.hid hb0
  go_enter Tryz.func136, Tryz.ntmps136
  go_wp2_with fail
  refine c1.mono ?_
  rintro e w1 ⟨rfl, rfl⟩
  go_wp2_with fail
  refine v1.mono ?_
  rintro e w1 ⟨rfl, rfl⟩
  go_wp2_with fail
  refine v2.mono ?_
  rintro e w1 ⟨rfl, rfl⟩
  go_wp2_with fail
  refine d1.mono ?_
  rintro e w1 ⟨rfl, rfl⟩
  go_wp2_with fail
  refine v1.mono ?_
  rintro e w1 ⟨rfl, rfl⟩
  go_wp2_with fail
  refine v2.mono ?_
  rintro e w1 ⟨rfl, rfl⟩
  go_wp2_with fail
  refine d2.mono ?_
  rintro e w1 ⟨rfl, rfl⟩
  go_wp2
  go_ret2
  exact ⟨rfl, rfl⟩
/-- Between two rounds of a long division. -/
def OvRel (w : World) (a b i : Nat) (v : Value) (s : ByteArray) (wr : World) : Prop :=
  ∃ qs : List UInt8, (∀ c ∈ qs, isDig c) ∧ (∀ c ∈ s.data.toList, isDig c) ∧ s.size ≤ 20000 ∧ qs.length ≤ i ∧ dval ((num a).data.toList.take i) = dval qs * b + val s ∧ val s < b ∧
    (i + 1 = (num b).size ∨ (s = num (val s) ∧ qs ≠ [])) ∧ OwnB w.heap.size wr v qs ∧ Below w.heap.size w wr
/-- Between two subtractions. -/
def SubRel (w : World) (R b : Nat) (qs : List UInt8) (v : Value) (t r : Nat) (wr : World) : Prop := r + t * b = R ∧ OwnB w.heap.size wr v qs ∧ Below w.heap.size w wr
theorem ov_digits {s a : ByteArray} {i : Nat} (hi : i < a.size) (hs : ∀ c ∈ s.data.toList, isDig c) (ha : ∀ c ∈ a.data.toList, isDig c) :
    (s ++ a.extract i (i + 1)).data.toList = s.data.toList ++ [a[i]] ∧ (∀ c ∈ (s ++ a.extract i (i + 1)).data.toList, isDig c) ∧ (s ++ a.extract i (i + 1)).size = s.size + 1 := by
  have e : (s ++ a.extract i (i + 1)).data.toList = s.data.toList ++ [a[i]] := by
    rw [ByteArray.toList_data_append, Lib.extract_data, show i + 1 - i = 1 by omega]
    congr 1
    rw [List.drop_eq_getElem_cons (by simpa using hi)]
    rfl
  refine ⟨e, fun c hc => ?_, ?_⟩
  · rw [e] at hc
    rcases List.mem_append.1 hc with h | h
    · exact hs c h
    · simp at h
      subst h
      exact ha _ (by
        have : a[i] = a.data.toList[i]'(by simpa using hi) := rfl
        rw [this]; exact List.getElem_mem _)
  · rw [Lib.size_eq, e]
    simp
theorem ov_start (a b : Nat) (hb0 : b ≠ 0) :
    ((num a).extract 0 ((num b).size - 1)).data.toList = (num a).data.toList.take ((num b).size - 1) ∧ dval ((num a).data.toList.take ((num b).size - 1)) < b := by
  constructor
  · rw [Lib.extract_data]; simp
  · have h1 := dval_take_lt (l := (num a).data.toList) (by rw [num_list]; exact decDigits_dig a) ((num b).size - 1)
    have hp := size_pos b
    by_cases hs : (num b).size - 1 = 0
    · rw [hs] at h1 ⊢
      simp only [List.take_zero, dval_nil]
      omega
    · have h2 : ¬ b < 10 ^ ((num b).size - 1) := fun hc => by
        have := decDigits_len hc (by omega)
        rw [← num_size] at this
        omega
      omega
theorem sub_done {A Q S b c t r : Nat} (h1 : A = Q * b + S) (h2 : r + t * b = S * 10 + c) : A * 10 + c = (Q * 10 + t) * b + r := by
  rw [h1, Nat.add_mul, Nat.add_mul, Nat.mul_assoc, Nat.mul_assoc, Nat.mul_comm b 10]
  omega
theorem ov_lt {S b c : Nat} (h1 : S < b) (h2 : c ≤ 9) : S * 10 + c < 10 * b := by omega
theorem sub_more {t r b R : Nat} (h : r + t * b = R) (hR : R < 10 * b) (hr : b ≤ r) : t + 1 ≤ 9 ∧ (r - b) + (t + 1) * b = R := by
  have e : (t + 1) * b = t * b + b := Nat.succ_mul t b
  refine ⟨?_, by omega⟩
  rcases Nat.lt_or_ge t 9 with h9 | h9
  · omega
  · have : 9 * b ≤ t * b := Nat.mul_le_mul_right _ h9
    omega
theorem div_done {a b Q S : Nat} (h : a = Q * b + S) (hs : S < b) : Q = a / b ∧ S = a % b := by
  subst h
  constructor
  · rw [Nat.add_comm, Nat.add_mul_div_right _ _ (by omega), Nat.div_eq_of_lt hs, Nat.zero_add]
  · rw [Nat.add_comm, Nat.add_mul_mod_self_right, Nat.mod_eq_of_lt hs]
set_option maxRecDepth 100000 in
set_option maxHeartbeats 4000000 in
theorem Over_big (a b : Nat) (w : World) (ha : (num a).size ≤ 9000) (ha18 : 18 < (num a).size) (hb0 : b ≠ 0) (h : b ≤ a) :
    Calls Tryz.prog 136 #[.string (num a), .string (num b)] w fun e w' => e = .returned (.tuple #[.string (num (a / b)), .string (num (a % b))]) ∧ Below w.heap.size w w' := by
  obtain ⟨i0, hi, hz0, hz1, hz2⟩ := info_parts infoB
  have hb := size_mono h
  have hbp := size_pos b
  have c1 := Order_any a b w (by omega) (by omega)
  obtain ⟨c, hc, hc0, hc1⟩ := cmpN_ge h
  rw [← hc] at c1
  have hbi : ((num b).size : Int) - 1 = (((num b).size - 1 : Nat) : Int) := by omega
  have hbl : (num b).size - 1 ≤ (num a).size := by omega
  have HS := Lib.hid (ov_start a b hb0)
  have HD : Hid (∀ c ∈ (num a).data.toList, isDig c) := by unfold Hid; rw [num_list]; exact decDigits_dig a
  have HV : Hid (dval ((num a).data.toList.take (num a).size) = a) := by
    unfold Hid
    rw [List.take_of_length_le (by rw [num_size, num_list]; exact Nat.le_refl _), num_list, dval_decDigits]
  replace hb0 := Lib.hid hb0
  clear hc h
  go_enter Tryz.func136, Tryz.ntmps136
  go_wp2_with fail
  refine c1.mono ?_
  rintro e w1 ⟨rfl, rfl⟩
  clear c1
  go_wp2_with (at_make; refine wpList_make_own _ rfl _ _ 171 rfl w.heap.size 5 i0 (.int .u8 0) 1 Tryz.underlying171 hi hz0 hz1 _ _ _ (num a).size rfl rfl (by omega) (by rw [hz2]; omega) (by unfold maxLen; omega) (Nat.le_refl _) ?_; intro w1 hown1 hgr1)
  have h0 : OwnB w.heap.size w1 (.slice (some ⟨w.heap.size, 0, none⟩) 0 (num a).size) [] := hown1
  have hw1 : Below w.heap.size w w1 := (Below.refl _ _).grown hgr1 (Nat.le_refl _) (fun k e => by cases e)
  replace h0 := Lib.hid h0
  replace hw1 := Lib.hid hw1
  clear hown1 hgr1
  go_loopw [6, 7, 8] (fun v r i wr => ∃ (k : Nat) (s : ByteArray), (num b).size ≤ k + 1 ∧ k ≤ (num a).size ∧ i = .int .i64 (k : Int) ∧ r = .string s ∧ OvRel w a b k v s wr) (fun _ _ i _ => (num a).size - (intOf i).toNat)
  case atStart =>
    refine ⟨(num b).size - 1, _, by omega, by omega, rfl, rfl, [], fun _ h => absurd h (by simp), ?_, ?_, by simp, ?_, ?_, .inl (by omega), h0.out, hw1.out⟩
    · rw [HS.out.1]; exact fun c hc => HD.out c (List.mem_of_mem_take hc)
    · rw [Lib.size_eq, HS.out.1]; simp; omega
    · unfold val; rw [HS.out.1]; simp [dval]
    · unfold val; rw [HS.out.1]; exact HS.out.2
  case round =>
    obtain ⟨k, s, hk1, hk, rfl, rfl, qs, z1, z2, z3, z4, z5, z6, z7, z8, z9⟩ := hrel
    clear h0 hw1
    have hsz := z9.size
    by_cases hlt : k < (num a).size
    · have hov := ov_digits hlt z2 HD.out
      have ct := reftrim_any (s ++ (num a).extract k (k + 1)) wr (by omega) (by omega) hov.2.1
      obtain ⟨c, hc⟩ : ∃ c, c = (num a)[k].toNat - 48 := ⟨_, rfl⟩
      have hcd : isDig ((num a)[k]) := HD.out _ (by
        have : (num a)[k] = (num a).data.toList[k]'(by simpa using hlt) := rfl
        rw [this]; exact List.getElem_mem _)
      have hc9 : c ≤ 9 := by have := hcd.2; omega
      have hR : dval (s ++ (num a).extract k (k + 1)).data.toList = val s * 10 + c := by
        rw [hov.1, dval_append, hc]; simp [dval, val]
      rw [hR] at ct
      have hA := dval_take_succ (num a) k hlt
      rw [← hc] at hA
      have hRl := ov_lt z6 hc9
      obtain ⟨R, hRe⟩ : ∃ R, R = val s * 10 + c := ⟨_, rfl⟩
      rw [← hRe] at ct hRl
      have HN : Hid (∀ (t r : Nat) (d : Int) v2 w2, r + t * b = R → r < b → t ≤ 9 → d = 48 + (t : Int) → w2.ownsRow w.heap.size 5 1 v2 (qs.length + 1) (Lib.byteCells qs ++ [Value.int .u8 d]) → Below w.heap.size w w2 → (num r).size ≤ 20000 → OvRel w a b (k + 1) v2 (num r) w2) := by
        intro t r d v2 w2 h1 h2 h3 h4 ho hb' hsz'
        refine ⟨qs ++ [UInt8.ofNat (48 + t)], ?_, by rw [num_list]; exact decDigits_dig r, hsz', by simp; omega, ?_, by rw [val_num]; exact h2, .inr ⟨by rw [val_num], by simp⟩, ?_, hb'⟩
        · intro x hx
          rcases List.mem_append.1 hx with h | h
          · exact z1 x h
          · simp at h; subst h
            unfold isDig
            have := toNat_dig t (by omega)
            rw [show (48 + UInt8.ofNat t : UInt8) = UInt8.ofNat (48 + t) from by simp] 
            omega
        · rw [hA, dval_append, val_num]
          have e : dval [UInt8.ofNat (48 + t)] = t := by
            have := toNat_dig t (by omega)
            simp only [dval, List.foldl_cons, List.foldl_nil]
            omega
          rw [e]
          simp only [List.length_cons, List.length_nil]
          exact sub_done z5 (by rw [h1, hRe])
        · unfold OwnB
          rw [← byteCells_snoc, List.length_append, toNat_dig t (by omega)]
          have e : ((48 + t : Nat) : Int) = d := by omega
          rw [e]
          exact ho
      have HO : Hid (OwnB w.heap.size wr u6 qs) := z8
      have HB := Lib.hid z9
      have HL : Hid (qs.length ≤ k) := z4
      have HR := Lib.hid hRl
      clear z1 z2 z4 z5 z6 z7 z8 z9 hov hR hA hRl hcd hc hRe
      have hki : ((k : Int) + 1).toNat = k + 1 := by omega
      go_wp2_with fail
      refine ct.mono ?_
      rintro e w2 ⟨rfl, rfl⟩
      clear ct
      go_wp2
      obtain ⟨wo, rfl⟩ : ∃ wo : World, wo = wr := ⟨_, rfl⟩
      go_loopw [7, 9] (fun r d wr => ∃ t r' : Nat, t ≤ 9 ∧ r = .string (num r') ∧ d = .int .u8 (48 + (t : Int)) ∧ SubRel w R b qs u6 t r' wr) (fun _ d _ => 57 - (intOf d).toNat)
      case atStart => exact ⟨0, R, by omega, rfl, rfl, by simp, HO.out, HB.out⟩
      case round =>
        obtain ⟨t, r', ht, rfl, rfl, y1, y2, y3⟩ := hrel
        have hr' : (num r').size ≤ 10000 := by
          have h1 := size_mono (show r' ≤ R by omega)
          have h2 := HR.out
          have h3 : (num R).size ≤ (num b).size + 1 := by
            rw [num_size]
            refine decDigits_len ?_ (by omega)
            have := lt_pow_size b
            rw [Nat.pow_succ]
            omega
          omega
        have cm := Minus_any r' b wr hr'
        have co := Order_any r' b wr (by omega) (by omega)
        have hsz := y3.size
        replace y1 := Lib.hid y1
        replace y3 := Lib.hid y3
        by_cases hlt2 : r' < b
        · rw [cmpN_lt hlt2] at co
          have HQ : Hid (wr.ownsRow w.heap.size 5 1 u6 qs.length (Lib.byteCells qs)) := y2
          replace hlt2 := Lib.hid hlt2
          clear y2 cm
          go_wp2_with fail
          refine co.mono ?_
          rintro e w2 ⟨rfl, rfl⟩
          clear co
          go_wp2_with (at_builtin; refine wpList_append_own _ rfl _ _ 171 rfl w.heap.size 5 i0 (.int .u8 0) 1 1 Tryz.underlying171 hi hz0 hz1 hz2 rfl (by decide) u6 qs.length (Lib.byteCells qs) rfl (HQ.out.alloc _) ⟨wr.heap.size, 0, none⟩ 1 1 [.int .u8 (48 + (t : Int))] rfl rfl (one_new _ _ _) (one_cell _ _) (by have := HL.out; unfold maxLen; omega) (by have := HL.out; omega) (by simp; omega) ?_; intro v2 w2 hown2 hgr2 _)
          exact ⟨⟨k + 1, num r', by omega, by omega, by go_num, rfl, HN.out t r' _ v2 w2 y1.out hlt2.out ht rfl hown2 ((y3.out.alloc (by omega) _).grown hgr2 (by simp; omega) (fun b e => (HQ.out.lt b e).1)) (by omega)⟩, by simp only [intOf]; omega⟩
        · have hge : b ≤ r' := by omega
          obtain ⟨c, hc, hc0, hc1⟩ := cmpN_ge hge
          rw [← hc] at co
          have hmore := Lib.hid (sub_more y1.out HR.out hge)
          have cm := cm hge
          replace y2 := Lib.hid y2
          clear hc hlt2
          go_wp2_with fail
          refine co.mono ?_
          rintro e w2 ⟨rfl, rfl⟩
          clear co
          go_wp2_with fail
          refine cm.mono ?_
          rintro e w2 ⟨rfl, hb2⟩
          replace hb2 := Lib.hid hb2
          clear cm
          go_wp2
          refine ⟨⟨t + 1, r' - b, hmore.out.1, rfl, by go_num, hmore.out.2, y2.out.below hb2.out, y3.out.trans (hb2.out.mono hsz)⟩, ?_⟩
          have := hmore.out.1
          simp only [intOf]
          omega
    · obtain rfl : k = (num a).size := by omega
      have hz7 : s = num (val s) ∧ qs ≠ [] := by
        rcases z7 with h | h
        · omega
        · exact h
      have hdd := div_done (a := a) (by rw [← z5]; exact HV.out.symm) z6
      have ht := z8.text
      have hql : 0 < qs.length := List.length_pos_iff.2 hz7.2
      have ct := reftrim_any ⟨qs.toArray⟩ wr (by simp [ByteArray.size]; omega) (by simp [ByteArray.size]; omega) (by simpa using z1)
      have e : (⟨qs.toArray⟩ : ByteArray).data.toList = qs := rfl
      rw [e, hdd.1] at ct
      have HF : Hid (s = num (a % b)) := by unfold Hid; rw [← hdd.2]; exact hz7.1
      have HB := Lib.hid z9
      clear z1 z2 z4 z5 z6 z7 z8 z9 hz7 hdd hql e
      go_wp2_with fail
      refine ct.mono ?_
      rintro e w2 ⟨rfl, rfl⟩
      go_wp2
      go_ret2
      exact ⟨by rw [HF.out]; rfl, HB.out⟩
theorem Over_any (a b : Nat) (w : World) (ha : (num a).size ≤ 9000) (hb : (num b).size ≤ 9000) (hb0 : b ≠ 0) :
    Calls Tryz.prog 136 #[.string (num a), .string (num b)] w fun e w' => e = .returned (.tuple #[.string (num (a / b)), .string (num (a % b))]) ∧ Below w.heap.size w w' := by
  rcases Nat.lt_or_ge a b with h | h
  · refine (Over_less a b w (by omega) (by omega) h).mono ?_
    rintro e w' ⟨rfl, rfl⟩
    exact ⟨rfl, Below.refl _ _⟩
  · by_cases h18 : (num a).size ≤ 18
    · refine (Over_small a b w h18 hb0 h).mono ?_
      rintro e w' ⟨rfl, rfl⟩
      exact ⟨rfl, Below.refl _ _⟩
    · exact Over_big a b w ha (by omega) hb0 h
def ComRel (G : Nat) (w : World) (g : Nat) (v u : Value) (wr : World) : Prop :=
  ∃ k : Nat, v = .string (num k) ∧ u = .string (num g) ∧ Nat.gcd k g = G ∧ (num k).size ≤ 9000 ∧ (num g).size ≤ 9000 ∧ Below w.heap.size w wr
theorem num_is_zero (g : Nat) : ((num g).toList == [48]) = decide (g = 0) := by
  rw [Lib.toList_data, num_list, Bool.eq_iff_iff, beq_iff_eq, decide_eq_true_iff]
  constructor
  · intro e
    have := congrArg dval e
    rw [dval_decDigits] at this
    rw [this]; rfl
  · intro e; subst e; rw [Lib.decDigits_one (by omega)]; rfl
set_option maxHeartbeats 1000000 in
theorem Common_any (a b : Nat) (w : World) (ha : (num a).size ≤ 9000) (hb : (num b).size ≤ 9000) :
    Calls Tryz.prog 135 #[.string (num a), .string (num b)] w fun e w' => e = .returned (.string (num (Nat.gcd a b))) ∧ Below w.heap.size w w' := by
  go_enter Tryz.func135, Tryz.ntmps135
  go_wp2
  go_loopg [0, 1] b (fun g v u wr => ComRel (Nat.gcd a b) w g v u wr)
  case atStart => exact ⟨a, rfl, rfl, rfl, ha, hb, Below.refl _ _⟩
  case round =>
    obtain ⟨k, rfl, rfl, h3, h4, h5, h6⟩ := hrel
    have hsz := h6.size
    have hz := num_is_zero gk
    by_cases hg : gk = 0
    · rw [decide_eq_true hg] at hz
      have HF : Hid (num k = num (Nat.gcd a b)) := by unfold Hid; rw [← h3, hg, Nat.gcd_zero_right]
      replace h6 := Lib.hid h6
      clear h3 hg
      go_wp2
      go_ret
      exact ⟨ret_str HF.out, h6.out⟩
    · rw [decide_eq_false hg] at hz
      have hc := Over_any k gk wr h4 h5 hg
      replace h3 := Lib.hid h3
      replace h6 := Lib.hid h6
      replace hg := Lib.hid hg
      go_wp2_with fail
      refine hc.mono ?_
      rintro e w2 ⟨rfl, hb2⟩
      replace hb2 := Lib.hid hb2
      clear hc
      go_wp2
      go_roundg (k % gk)
      case measure => exact Nat.mod_lt _ (by have := hg.out; omega)
      case rel =>
        refine ⟨gk, rfl, rfl, ?_, h5, ?_, h6.out.trans (hb2.out.mono hsz)⟩
        · rw [← h3.out, Nat.gcd_comm gk, ← Nat.gcd_rec, Nat.gcd_comm]
        · exact Nat.le_trans (size_mono (Nat.le_of_lt (Nat.mod_lt k (by have := hg.out; omega)))) h5
end Nt
end Go.Proofs.YtpmlhgmmobpilaaGreatDoor
namespace Go.Proofs.YtpmlhgmmobpilaaGreatDoor
open Go.RowKit Go.Shelf
namespace Nt
theorem lim_size {n : Nat} (h : n < Lim) : (num n).size ≤ 300 := by
  have := decDigits_len (k := mxd) h (by rw [mxd_eq]; omega)
  rw [num_size, ← mxd_eq]
  exact this
theorem RefOf_any (n : Int) (w : World) (hl : -9223372036854775808 ≤ n) (h : n ≤ 9223372036854775807) :
    Calls Tryz.prog 141 #[.int .i64 n] w fun e w' => e = .returned (.string (ofS n)) ∧ w = w' := by
  by_cases hn : n < 0
  · have HG : Hid (ofS n = ⟨#[]⟩) := by unfold Hid ofS; rw [if_pos hn]
    go_enter Tryz.func141, Tryz.ntmps141
    go_wp2
    go_ret
    exact ⟨ret_str HG.out.symm, rfl⟩
  · have HG : Hid (ofS n = num n.toNat) := by unfold Hid ofS; rw [if_neg hn]
    have hc := Decimal_any n.toNat w (by omega)
    rw [Int.toNat_of_nonneg (by omega)] at hc
    go_enter Tryz.func141, Tryz.ntmps141
    go_wp2_with fail
    refine hc.mono ?_
    rintro e w' ⟨rfl, rfl⟩
    go_wp2
    go_ret
    exact ⟨ret_str HG.out.symm, rfl⟩
set_option maxRecDepth 100000 in
theorem RefAdd_num (a b : Nat) (w : World) (ha : a < Lim) (hb : b < Lim) (hsz : (num (a + b)).size ≤ 1000) :
    Calls Tryz.prog 102 #[.string (num a), .string (num b)] w fun e w' => e = .returned (.tuple #[.string (strL (a + b)), .int .i64 (errL (a + b))]) ∧ Below w.heap.size w w' := by
  have c1 := Plus_any a b w (by have := lim_size ha; omega) (by have := lim_size hb; omega)
  have i1 := RefIs_any (num a) w (by have := lim_size ha; omega)
  have i2 := RefIs_any (num b) w (by have := lim_size hb; omega)
  rw [isN_num ha] at i1
  rw [isN_num hb] at i2
  have c2 := fun W => reflimited_any (a + b) W (by omega)
  go_enter Tryz.func102, Tryz.ntmps102
  go_wp2_with fail
  refine i1.mono ?_
  rintro e w' ⟨rfl, rfl⟩
  go_wp2_with fail
  refine i2.mono ?_
  rintro e w' ⟨rfl, rfl⟩
  clear i1 i2
  go_wp2_with fail
  refine (c1).mono ?_
  rintro e w1 ⟨rfl, hb1⟩
  replace hb1 := Lib.hid hb1
  go_wp2_with fail
  refine (c2 _).mono ?_
  rintro e w2 ⟨rfl, rfl⟩
  clear c1 c2
  go_wp2
  go_ret2
  exact ⟨rfl, hb1.out⟩
set_option maxRecDepth 100000 in
theorem RefMul_num (a b : Nat) (w : World) (ha : a < Lim) (hb : b < Lim) (hsz : (num (a * b)).size ≤ 1000) :
    Calls Tryz.prog 124 #[.string (num a), .string (num b)] w fun e w' => e = .returned (.tuple #[.string (strL (a * b)), .int .i64 (errL (a * b))]) ∧ Below w.heap.size w w' := by
  have c1 := Times_any a b w (by have := lim_size ha; omega) (by have := lim_size hb; omega)
  have i1 := RefIs_any (num a) w (by have := lim_size ha; omega)
  have i2 := RefIs_any (num b) w (by have := lim_size hb; omega)
  rw [isN_num ha] at i1
  rw [isN_num hb] at i2
  have c2 := fun W => reflimited_any (a * b) W (by omega)
  go_enter Tryz.func124, Tryz.ntmps124
  go_wp2_with fail
  refine i1.mono ?_
  rintro e w' ⟨rfl, rfl⟩
  go_wp2_with fail
  refine i2.mono ?_
  rintro e w' ⟨rfl, rfl⟩
  clear i1 i2
  go_wp2_with fail
  refine (c1).mono ?_
  rintro e w1 ⟨rfl, hb1⟩
  replace hb1 := Lib.hid hb1
  go_wp2_with fail
  refine (c2 _).mono ?_
  rintro e w2 ⟨rfl, rfl⟩
  clear c1 c2
  go_wp2
  go_ret2
  exact ⟨rfl, hb1.out⟩
set_option maxRecDepth 100000 in
theorem RefGcd_num (a b : Nat) (w : World) (ha : a < Lim) (hb : b < Lim) :
    Calls Tryz.prog 99 #[.string (num a), .string (num b)] w fun e w' => e = .returned (.tuple #[.string (num (Nat.gcd a b)), .int .i64 0]) ∧ Below w.heap.size w w' := by
  have c1 := Common_any a b w (by have := lim_size ha; omega) (by have := lim_size hb; omega)
  have i1 := RefIs_any (num a) w (by have := lim_size ha; omega)
  have i2 := RefIs_any (num b) w (by have := lim_size hb; omega)
  rw [isN_num ha] at i1
  rw [isN_num hb] at i2
  go_enter Tryz.func99, Tryz.ntmps99
  go_wp2_with fail
  refine i1.mono ?_
  rintro e w' ⟨rfl, rfl⟩
  go_wp2_with fail
  refine i2.mono ?_
  rintro e w' ⟨rfl, rfl⟩
  clear i1 i2
  go_wp2_with fail
  refine (c1).mono ?_
  rintro e w1 ⟨rfl, hb1⟩
  replace hb1 := Lib.hid hb1
  clear c1
  go_wp2
  go_ret2
  exact ⟨rfl, hb1.out⟩
set_option maxRecDepth 100000 in
theorem RefCompare_num (a b : Nat) (w : World) (ha : a < Lim) (hb : b < Lim) :
    Calls Tryz.prog 142 #[.string (num a), .string (num b)] w fun e w' => e = .returned (.tuple #[.int .i64 (cmpN a b), .int .i64 0]) ∧ Below w.heap.size w w' := by
  have c1 := Order_any a b w (by have := lim_size ha; omega) (by have := lim_size hb; omega)
  have i1 := RefIs_any (num a) w (by have := lim_size ha; omega)
  have i2 := RefIs_any (num b) w (by have := lim_size hb; omega)
  rw [isN_num ha] at i1
  rw [isN_num hb] at i2
  go_enter Tryz.func142, Tryz.ntmps142
  go_wp2_with fail
  refine i1.mono ?_
  rintro e w' ⟨rfl, rfl⟩
  go_wp2_with fail
  refine i2.mono ?_
  rintro e w' ⟨rfl, rfl⟩
  clear i1 i2
  go_wp2_with fail
  refine c1.mono ?_
  rintro e w1 ⟨rfl, rfl⟩
  clear c1
  go_wp2
  go_ret2
  exact ⟨rfl, Below.refl _ _⟩
set_option maxRecDepth 100000 in
theorem RefSub_num (a b : Nat) (w : World) (ha : a < Lim) (hb : b < Lim) (h : b ≤ a) :
    Calls Tryz.prog 103 #[.string (num a), .string (num b)] w fun e w' => e = .returned (.tuple #[.string (num (a - b)), .int .i64 0]) ∧ Below w.heap.size w w' := by
  have c1 := Order_any a b w (by have := lim_size ha; omega) (by have := lim_size hb; omega)
  obtain ⟨c, hc, hc0, hc1⟩ := cmpN_ge h
  rw [← hc] at c1
  have c2 := Minus_any a b w (by have := lim_size ha; omega) h
  clear hc
  have i1 := RefIs_any (num a) w (by have := lim_size ha; omega)
  have i2 := RefIs_any (num b) w (by have := lim_size hb; omega)
  rw [isN_num ha] at i1
  rw [isN_num hb] at i2
  go_enter Tryz.func103, Tryz.ntmps103
  go_wp2_with fail
  refine i1.mono ?_
  rintro e w' ⟨rfl, rfl⟩
  go_wp2_with fail
  refine i2.mono ?_
  rintro e w' ⟨rfl, rfl⟩
  clear i1 i2
  go_wp2_with fail
  refine c1.mono ?_
  rintro e w1 ⟨rfl, rfl⟩
  go_wp2_with fail
  refine (c2).mono ?_
  rintro e w1 ⟨rfl, hb1⟩
  replace hb1 := Lib.hid hb1
  clear c1 c2
  go_wp2
  go_ret2
  exact ⟨rfl, hb1.out⟩
set_option maxRecDepth 100000 in
theorem RefDiv_num (a b : Nat) (w : World) (ha : a < Lim) (hb : b < Lim) (h : b ≠ 0) :
    Calls Tryz.prog 100 #[.string (num a), .string (num b)] w fun e w' => e = .returned (.tuple #[.string (num (a / b)), .string (num (a % b)), .int .i64 0]) ∧ Below w.heap.size w w' := by
  have c1 := Over_any a b w (by have := lim_size ha; omega) (by have := lim_size hb; omega) h
  have hz := num_is_zero b
  rw [decide_eq_false h] at hz
  replace h := Lib.hid h
  have i1 := RefIs_any (num a) w (by have := lim_size ha; omega)
  have i2 := RefIs_any (num b) w (by have := lim_size hb; omega)
  rw [isN_num ha] at i1
  rw [isN_num hb] at i2
  go_enter Tryz.func100, Tryz.ntmps100
  go_wp2_with fail
  refine i1.mono ?_
  rintro e w' ⟨rfl, rfl⟩
  go_wp2_with fail
  refine i2.mono ?_
  rintro e w' ⟨rfl, rfl⟩
  clear i1 i2
  go_wp2_with fail
  refine (c1).mono ?_
  rintro e w1 ⟨rfl, hb1⟩
  replace hb1 := Lib.hid hb1
  clear c1
  go_wp2
  go_ret3
  exact ⟨rfl, hb1.out⟩
/-- While Int reads the digits. -/
theorem RefInt_bad (s : ByteArray) (w : World) (hs : s.size ≤ 140737488355328) (h : isN s = false) :
    Calls Tryz.prog 101 #[.string s] w fun e w' => e = .returned (.tuple #[.int .i64 (intV s), .int .i64 (intE s)]) ∧ Below w.heap.size w w' := by
  have HG : Hid (intV s = 0 ∧ intE s = 1) := by unfold Hid intV intE; rw [if_neg (by rw [h]; simp), if_neg (by rw [h]; simp)]; exact ⟨rfl, rfl⟩
  have c1 := RefIs_any s w hs
  rw [h] at c1
  clear h
  go_enter Tryz.func101, Tryz.ntmps101
  go_wp2_with fail
  refine c1.mono ?_
  rintro e w' ⟨rfl, rfl⟩
  go_wp2
  go_ret2
  exact ⟨by rw [HG.out.1, HG.out.2]; rfl, Below.refl _ _⟩
theorem max_num : (⟨#[57, 50, 50, 51, 51, 55, 50, 48, 51, 54, 56, 53, 52, 55, 55, 53, 56, 48, 55]⟩ : ByteArray) = num 9223372036854775807 := (num_lit [57, 50, 50, 51, 51, 55, 50, 48, 51, 54, 56, 53, 52, 55, 55, 53, 56, 48, 55] _ (by decide) (by decide)).symm
theorem Order_max (a : Nat) (w : World) (ha : (num a).size ≤ 140737488355328) :
    Calls Tryz.prog 137 #[.string (num a), .string ⟨#[57, 50, 50, 51, 51, 55, 50, 48, 51, 54, 56, 53, 52, 55, 55, 53, 56, 48, 55]⟩] w fun e w' => e = .returned (.int .i64 (cmpN a 9223372036854775807)) ∧ w = w' := by
  rw [max_num]
  exact Order_any a 9223372036854775807 w ha (by rw [← max_num]; decide)
theorem RefInt_over (a : Nat) (w : World) (ha : a < Lim) (h : 9223372036854775807 < a) :
    Calls Tryz.prog 101 #[.string (num a)] w fun e w' => e = .returned (.tuple #[.int .i64 0, .int .i64 10]) ∧ Below w.heap.size w w' := by
  have c1 := RefIs_any (num a) w (by have := lim_size ha; omega)
  rw [isN_num ha] at c1
  have c2 := Order_max a w (by have := lim_size ha; omega)
  rw [cmpN_gt h] at c2
  clear h
  go_enter Tryz.func101, Tryz.ntmps101
  go_wp2_with fail
  refine c1.mono ?_
  rintro e w' ⟨rfl, rfl⟩
  go_wp2_with fail
  refine c2.mono ?_
  rintro e w' ⟨rfl, rfl⟩
  go_wp2
  go_ret2
  exact ⟨rfl, Below.refl _ _⟩
theorem cmpN_le {a b : Nat} (h : a ≤ b) : ∃ c : Int, c = cmpN a b ∧ c ≤ 0 := by
  refine ⟨_, rfl, ?_⟩
  unfold cmpN
  split
  · omega
  · rw [if_neg (by omega)]; omega
set_option maxRecDepth 100000 in
theorem RefInt_num (a : Nat) (w : World) (ha : a ≤ 9223372036854775807) (hal : a < Lim) :
    Calls Tryz.prog 101 #[.string (num a)] w fun e w' => e = .returned (.tuple #[.int .i64 (a : Int), .int .i64 0]) ∧ Below w.heap.size w w' := by
  have hsz := lim_size hal
  have c1 := RefIs_any (num a) w (by omega)
  rw [isN_num hal] at c1
  have c2 := Order_max a w (by omega)
  obtain ⟨c, hc, hc0⟩ := cmpN_le ha
  rw [← hc] at c2
  have HD : Hid (∀ c ∈ (num a).data.toList, isDig c) := by unfold Hid; rw [num_list]; exact decDigits_dig a
  have HV : Hid (dval (num a).data.toList = a) := by unfold Hid; rw [num_list, dval_decDigits]
  replace ha := Lib.hid ha
  clear hc hal
  go_enter Tryz.func101, Tryz.ntmps101
  go_wp2_with fail
  refine c1.mono ?_
  rintro e w' ⟨rfl, rfl⟩
  go_wp2_with fail
  refine c2.mono ?_
  rintro e w' ⟨rfl, rfl⟩
  clear c1 c2
  go_wp2
  go_loop [4, 5] (fun n i => ∃ k v : Nat, k ≤ (num a).size ∧ i = .int .i64 (k : Int) ∧ n = .int .i64 (v : Int) ∧ Hid (v = dval ((num a).data.toList.take k))) (fun _ i => (num a).size - (intOf i).toNat)
  case atStart => exact ⟨0, 0, Nat.zero_le _, rfl, rfl, rfl⟩
  case round =>
    obtain ⟨k, v, hk, rfl, rfl, hv⟩ := hrel
    by_cases hlt : k < (num a).size
    · have HS := Lib.hid (dval_take_succ (num a) k hlt)
      have hb : v * 10 + ((num a)[k].toNat - 48) ≤ a := by
        have h2 : dval ((num a).data.toList.take (k + 1)) * 10 ^ ((num a).data.toList.drop (k + 1)).length + dval ((num a).data.toList.drop (k + 1)) = a := by
          rw [← dval_append, List.take_append_drop]; exact HV.out
        rw [hv.out, ← HS.out]
        have h3 : 1 ≤ 10 ^ ((num a).data.toList.drop (k + 1)).length := Nat.pow_pos (by omega)
        have h4 := Nat.mul_le_mul_left (dval ((num a).data.toList.take (k + 1))) h3
        omega
      have hb2 := ha.out
      have hdk : isDig (num a)[k] := HD.out _ (by
        have : (num a)[k] = (num a).data.toList[k]'(by simpa using hlt) := rfl
        rw [this]; exact List.getElem_mem _)
      have h48 : (48 : Int) ≤ ((num a)[k].toNat : Int) := by have := hdk.1; omega
      have h57 : ((num a)[k].toNat : Int) ≤ 57 := by have := hdk.2; omega
      have hvb : (v : Int) * 10 + (((num a)[k].toNat : Int) - 48) ≤ 9223372036854775807 := by omega
      have hvb2 : (v : Int) * 10 ≤ 9223372036854775807 := by omega
      clear hdk hb hb2
      go_wp2
      go_round
      case rel => exact ⟨k + 1, v * 10 + ((num a)[k].toNat - 48), by omega, by go_num, by go_num, by unfold Hid; rw [HS.out, ← hv.out]⟩
      case measure => simp [intOf]; omega
    · obtain rfl : k = (num a).size := by omega
      have e : (num a).data.toList.take (num a).size = (num a).data.toList := List.take_of_length_le (by simp)
      have HF : Hid (v = a) := by unfold Hid; rw [hv.out, e, HV.out]
      clear e
      go_wp2
      go_ret2
      exact ⟨by rw [HF.out]; rfl, Below.refl _ _⟩
theorem RefInt_any (s : ByteArray) (w : World) (hs : s.size ≤ 140737488355328) :
    Calls Tryz.prog 101 #[.string s] w fun e w' => e = .returned (.tuple #[.int .i64 (intV s), .int .i64 (intE s)]) ∧ Below w.heap.size w w' := by
  cases h : isN s with
  | false => exact RefInt_bad s w hs h
  | true =>
    obtain ⟨a, ha, rfl⟩ := num_of_isN h
    unfold intV intE
    rw [val_num, if_pos h]
    by_cases hk : a ≤ 9223372036854775807
    · rw [if_pos ⟨h, hk⟩, if_pos hk]
      exact RefInt_num a w hk ha
    · rw [if_neg (fun c => hk c.2), if_neg hk]
      exact RefInt_over a w ha (by omega)
end Nt
end Go.Proofs.YtpmlhgmmobpilaaGreatDoor

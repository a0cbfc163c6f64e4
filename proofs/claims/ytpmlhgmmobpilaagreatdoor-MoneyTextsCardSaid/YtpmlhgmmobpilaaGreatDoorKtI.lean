/- Texts that the proof needs: CoG, MonSplitP, MonSort, MonSplit, MonInts. -/
import Derived.ProofKit
import Derived.Deep.QuietTactic
import Derived.BigQuiet
import Derived.Laws.ResultCell
import Derived.IntWalk
import Derived.Test.YtpmlhgmmobpilaaGreatDoorKtA
import Derived.Test.YtpmlhgmmobpilaaGreatDoorKtB
import Derived.Test.YtpmlhgmmobpilaaGreatDoorKtC
import Derived.Test.YtpmlhgmmobpilaaGreatDoorKtD
import Derived.Test.YtpmlhgmmobpilaaGreatDoorKtE
import Derived.Test.YtpmlhgmmobpilaaGreatDoorKtF
import Derived.Test.YtpmlhgmmobpilaaGreatDoorKtG
import Derived.Test.YtpmlhgmmobpilaaGreatDoorKtH
namespace Go.Proofs.YtpmlhgmmobpilaaGreatDoor
open Go.RowKit Go.Shelf Go.Sort
namespace St
section
variable {α : Type} {key : α → Int} {pos : α → Nat}
/-- Not behind. -/
def Lek (key : α → Int) (pos : α → Nat) (x y : α) : Prop := kLt key pos y x = false
theorem lek_iff {x y : α} : Lek key pos x y ↔ key x < key y ∨ (key x = key y ∧ pos x ≤ pos y) := by
  unfold Lek kLt
  rw [decide_eq_false_iff_not]
  omega
theorem lek_trn : Trn (Lek key pos) := fun x y z h1 h2 => by
  rw [lek_iff] at h1 h2 ⊢
  omega
end
section
variable {α : Type} [Inhabited α] {key : α → Int} {pos : α → Nat} {lt : α → α → Bool} {d d' d0 : Array α} {n a b B : Nat}
/-- While the blocks of 20 are put in order. -/
structure InSt (key : α → Int) (pos : α → Nat) (n a : Nat) (d0 d : Array α) : Prop where
  perm : PermIn 0 n d0 d
  sz : d.size = n
  sep : ∀ i j, i / 20 < j / 20 → j < n → pos d[i]! < pos d[j]!
  asc : ∀ i j, a ≤ i → i < j → j < n → pos d[i]! < pos d[j]!
  done : ∀ i j, i < j → j < a → j < n → i / 20 = j / 20 → Lek key pos d[i]! d[j]!
/-- While blocks of B are merged. -/
structure BSt (key : α → Int) (pos : α → Nat) (B n a : Nat) (d0 d : Array α) : Prop where
  perm : PermIn 0 n d0 d
  sz : d.size = n
  sep2 : ∀ i j, i / (2 * B) < j / (2 * B) → j < n → pos d[i]! < pos d[j]!
  sep : ∀ i j, a ≤ i → i / B < j / B → j < n → pos d[i]! < pos d[j]!
  srt : ∀ i j, a ≤ i → i < j → j < n → i / B = j / B → Lek key pos d[i]! d[j]!
  done : ∀ i j, i < j → j < a → j < n → i / (2 * B) = j / (2 * B) → Lek key pos d[i]! d[j]!
theorem InSt.start (hs : d.size = n) (h : ∀ i j, i < j → j < n → pos d[i]! < pos d[j]!) : InSt key pos n 0 d d :=
  ⟨permIn_refl _ _ _, hs, fun i j h1 h2 => h i j (by omega) h2, fun i j _ h1 h2 => h i j h1 h2, fun i j _ h1 _ _ => absurd h1 (Nat.not_lt_zero _)⟩
/-- A relation of all pairs of two parts is kept where one of them is laid anew. -/
theorem pair_perm {P : α → α → Prop} (hp : PermIn a b d d') (hb : b ≤ d.size) {i j : Nat} (hij : ¬ (a ≤ i ∧ i < b ∧ a ≤ j ∧ j < b)) (h : ∀ i' j', (i' = i ∨ (a ≤ i ∧ i < b ∧ a ≤ i' ∧ i' < b)) → (j' = j ∨ (a ≤ j ∧ j < b ∧ a ≤ j' ∧ j' < b)) → P d[i']! d[j']!) : P d'[i]! d'[j]! := by
  by_cases ci : a ≤ i ∧ i < b
  · have ej : d'[j]! = d[j]! := hp.2.1 j (by omega)
    rw [ej]
    exact permIn_all d d' a b (fun u => P u d[j]!) hb hp (fun k h1 h2 => h k j (.inr ⟨ci.1, ci.2, h1, h2⟩) (.inl rfl)) i ci.1 ci.2
  · have ei : d'[i]! = d[i]! := hp.2.1 i (by omega)
    rw [ei]
    by_cases cj : a ≤ j ∧ j < b
    · exact permIn_all d d' a b (fun u => P d[i]! u) hb hp (fun k h1 h2 => h i k (.inl rfl) (.inr ⟨cj.1, cj.2, h1, h2⟩)) j cj.1 cj.2
    · have ej : d'[j]! = d[j]! := hp.2.1 j (by omega)
      rw [ej]
      exact h i j (.inl rfl) (.inl rfl)
theorem InSt.step (h : InSt key pos n a d0 d) (ha : a % 20 = 0) (hab : a ≤ b) (hb : b ≤ n) (hb2 : b ≤ a + 20) (hp : PermIn a b d d') (hs : SortedIn (kLt key pos) a b d') (_hbl : b = a + 20 ∨ b = n) : InSt key pos n b d0 d' := by
  have hsz := h.sz
  refine ⟨permIn_trans _ _ _ 0 n h.perm (permIn_mono _ _ a b 0 n (Nat.zero_le _) hb (by omega) hp), hp.1.trans hsz, fun i j h1 h2 => ?_, fun i j h1 h2 h3 => ?_, fun i j h1 h2 h3 h4 => ?_⟩
  · refine pair_perm (P := fun x y => pos x < pos y) hp (by omega) (by omega) fun i' j' hi hj => h.sep i' j' ?_ ?_
    · omega
    · omega
  · rw [hp.2.1 i (.inr h1), hp.2.1 j (.inr (by omega))]
    exact h.asc i j (by omega) h2 h3
  · by_cases c : j < a
    · rw [hp.2.1 i (.inl (by omega)), hp.2.1 j (.inl c)]
      exact h.done i j h1 c h3 h4
    · exact hs i j (by omega) h1 h2
theorem InSt.toB (h : InSt key pos n n d0 d) : BSt key pos 20 n 0 d0 d :=
  ⟨h.perm, h.sz, fun i j h1 h2 => h.sep i j (by omega) h2, fun i j _ h1 h2 => h.sep i j h1 h2, fun i j _ h1 h2 h3 => h.done i j h1 h2 h2 h3, fun i j _ h1 _ _ => absurd h1 (Nat.not_lt_zero _)⟩
theorem BSt.parts (h : BSt key pos B n a d0 d) (hB : B = 20 ∨ B = 40) (ha : a % (2 * B) = 0) (hm : a + B < b) (hb : b ≤ n) (hb2 : b ≤ a + 2 * B) (hlt : ∀ x y, lt x y = decide (key x < key y)) : Srt (Lek key pos) a (a + B) d ∧ Srt (Lek key pos) (a + B) b d ∧ Tells lt (Lek key pos) a (a + B) b d := by
  rcases hB with rfl | rfl
  all_goals
    refine ⟨fun i j h1 h2 h3 => h.srt i j h1 h2 (by omega) (by omega), fun i j h1 h2 h3 => h.srt i j (by omega) h2 (by omega) (by omega), fun i j h1 h2 h3 h4 => ?_⟩
    have hpos := h.sep i j h1 (by omega) (by omega)
    rw [hlt, decide_eq_true_iff, decide_eq_false_iff_not, lek_iff, lek_iff]
    omega
theorem BSt.step (h : BSt key pos B n a d0 d) (hB : B = 20 ∨ B = 40) (ha : a % (2 * B) = 0) (hm : a + B < b) (hb : b ≤ n) (hb2 : b ≤ a + 2 * B) (hbl : b = a + 2 * B ∨ b = n) (hM : Mrg (Lek key pos) a b d d') : BSt key pos B n (a + 2 * B) d0 d' := by
  have hsz := h.sz
  obtain ⟨hp, hs⟩ := hM
  refine ⟨permIn_trans _ _ _ 0 n h.perm (permIn_mono _ _ a b 0 n (Nat.zero_le _) hb (by omega) hp), hp.1.trans hsz, fun i j h1 h2 => ?_, fun i j h1 h2 h3 => ?_, fun i j h1 h2 h3 h4 => ?_, fun i j h1 h2 h3 h4 => ?_⟩
  · refine pair_perm (P := fun x y => pos x < pos y) hp (by omega) ?_ fun i' j' hi hj => h.sep2 i' j' ?_ ?_
    · rcases hB with rfl | rfl <;> omega
    · rcases hB with rfl | rfl <;> omega
    · omega
  · have hj : b ≤ j := by rcases hB with rfl | rfl <;> omega
    rw [hp.2.1 i (.inr (by omega)), hp.2.1 j (.inr hj)]
    exact h.sep i j (by omega) h2 h3
  · rw [hp.2.1 i (.inr (by omega)), hp.2.1 j (.inr (by omega))]
    exact h.srt i j (by omega) h2 h3 h4
  · by_cases c : j < a
    · rw [hp.2.1 i (.inl (by omega)), hp.2.1 j (.inl c)]
      exact h.done i j h1 c h3 h4
    · refine hs i j ?_ h1 (by omega)
      rcases hB with rfl | rfl <;> omega
theorem BSt.next (h : BSt key pos B n a d0 d) (hB : B = 20 ∨ B = 40) (ha : a % (2 * B) = 0) (hn : n ≤ a + B) : BSt key pos (2 * B) n 0 d0 d := by
  refine ⟨h.perm, h.sz, fun i j h1 h2 => h.sep2 i j ?_ h2, fun i j _ h1 h2 => h.sep2 i j h1 h2, fun i j _ h1 h2 h3 => ?_, fun i j _ h1 _ _ => absurd h1 (Nat.not_lt_zero _)⟩
  · rcases hB with rfl | rfl <;> omega
  · by_cases c : j < a
    · exact h.done i j h1 c h2 h3
    · refine h.srt i j ?_ h1 h2 ?_
      · rcases hB with rfl | rfl <;> omega
      · rcases hB with rfl | rfl <;> omega
theorem BSt.last (h : BSt key pos B n 0 d0 d) (hn : n ≤ B) : PermIn 0 n d0 d ∧ SortedIn (kLt key pos) 0 n d :=
  ⟨h.perm, fun i j h1 h2 h3 => h.srt i j h1 h2 h3 (by rw [Nat.div_eq_of_lt (by omega), Nat.div_eq_of_lt (by omega)])⟩
theorem ins_ok (h : InSt key pos n a d0 d) (hb : b ≤ n) (hab : a ≤ b) (hlt : ∀ x y, lt x y = decide (key x < key y)) : PermIn a b d (insertionSort lt d a b) ∧ SortedIn (kLt key pos) a b (insertionSort lt d a b) := by
  have e : insertionSort lt d a b = insertionSort (kLt key pos) d a b := by
    refine insertionSort_eq (by have := h.sz; omega) fun k j h1 h2 h3 => ?_
    have hpos := h.asc k j h1 h2 (by omega)
    rw [hlt]
    show decide _ = decide _
    rw [decide_eq_decide]
    omega
  rw [e]
  exact insertionSort_holds (kLt_swo key pos) d a b hab (by have := h.sz; omega)
end
end St
end Go.Proofs.YtpmlhgmmobpilaaGreatDoor
namespace Go.Proofs.YtpmlhgmmobpilaaGreatDoor
open Go.RowKit Go.Shelf Go.Sort
namespace St
open Nt Ci
set_option maxRecDepth 100000 in
set_option maxHeartbeats 8000000 in
theorem stable_any {α : Type} [Inhabited α] (nm : α → Nat) (cf : α → α → Int) (g : Nat) (cb : Array Value) (eg : ∀ args w, (callFunc g args).run Tryz.prog w = .ok (.enter g args) w) (key : α → Int) (pos : α → Nat) (hlt : ∀ x y, ltOf cf x y = decide (key x < key y)) (bl cap n : Nat) (d : Array α) (w : World) (HC : CmpOn Tryz.prog g cb nm cf bl w) (hR : Ro nm w bl d) (hn : d.size = n) (hn80 : n < 80) (hasc : ∀ i j, i < j → j < n → pos d[i]! < pos d[j]!) :
    Calls Tryz.prog 108 #[.slice (some ⟨bl, 0, none⟩) n cap, .int .i64 (n : Int), .func (.func g) #[] cb] w fun e w' => e = .returned (.tuple #[]) ∧ (∃ d', (PermIn 0 n d d' ∧ SortedIn (kLt key pos) 0 n d') ∧ Ro nm w' bl d') ∧ Kp [bl] w w' := by
  have hI0 : Hid (InSt key pos n 0 d d) := InSt.start hn hasc
  have ki : Hid (∀ (a b : Nat) (D : Array α) (W : World), InSt key pos n a d D → Kp [bl] w W → Ro nm W bl D → a ≤ b → b ≤ n → Calls Tryz.prog 143 #[.slice (some ⟨bl, 0, none⟩) n cap, .int .i64 (a : Int), .int .i64 (b : Int), .func (.func g) #[] cb] W fun e w' => e = .returned (.tuple #[]) ∧ (∃ D', (PermIn a b D D' ∧ SortedIn (kLt key pos) a b D') ∧ Ro nm w' bl D') ∧ Kp [bl] W w') := fun a b D W hI hK hO hab hb => by
    have hD := hI.sz
    have h := ins_any nm cf g cb eg bl cap a b D w W hK HC hO hab (by omega) (by omega)
    rw [hD] at h
    exact h.mono fun e w' h => ⟨h.1, ⟨_, ins_ok hI hb hab hlt, h.2.1⟩, h.2.2⟩
  have ks : Hid (∀ (B a b : Nat) (D : Array α) (W : World), (B = 20 ∨ B = 40) → BSt key pos B n a d D → Kp [bl] w W → Ro nm W bl D → a % (2 * B) = 0 → a + B < b → b ≤ n → b ≤ a + 2 * B → Calls Tryz.prog 144 #[.slice (some ⟨bl, 0, none⟩) n cap, .int .i64 (a : Int), .int .i64 ((a + B : Nat) : Int), .int .i64 (b : Int), .func (.func g) #[] cb] W (SymPost nm (Lek key pos) bl a b D W)) := fun B a b D W hB hI hK hO ha hab hb hb2 => by
    have hD := hI.sz
    obtain ⟨p1, p2, p3⟩ := hI.parts (lt := ltOf cf) hB ha hab hb hb2 hlt
    have h := sym_any nm cf g cb eg (Lek key pos) lek_trn bl cap w HC (b - a) a (a + B) b D W (Nat.le_refl _) hK hO (by omega) (by omega) (by omega) (by omega) p1 p2 p3
    rwa [hD] at h
  replace hR := Lib.hid hR
  replace hlt := Lib.hid hlt
  clear hasc HC
  replace hn := Lib.hid hn
  go_enter Tryz.func108, Tryz.ntmps108
  go_wp2
  go_loopw [7, 8] (fun ax bx wr => ∃ (a : Nat) (D : Array α), a ≤ n ∧ a % 20 = 0 ∧ ax = .int .i64 (a : Int) ∧ bx = .int .i64 ((a + 20 : Nat) : Int) ∧ Hid (InSt key pos n a d D) ∧ Hid (Ro nm wr bl D) ∧ Hid (Kp [bl] w wr)) (fun ax _ _ => n - (intOf ax).toNat)
  case atStart => exact ⟨0, d, Nat.zero_le _, rfl, rfl, rfl, hI0, hR, Kp.refl _ _⟩
  case round =>
    obtain ⟨a, D, han, ha, rfl, rfl, hI, hO, hK⟩ := hrel
    by_cases hab : a + 20 ≤ n
    · have t1 : decide (((a + 20 : Nat) : Int) ≤ (n : Int)) = true := decide_eq_true (by omega)
      have kc := Lib.hid (ki.out a (a + 20) D wr hI.out hK.out hO.out (by omega) hab)
      obtain ⟨b, hb⟩ : ∃ b, b = a + 20 := ⟨_, rfl⟩
      rw [← hb] at t1 kc ⊢
      have t1n : decide (b ≤ n) = true := decide_eq_true (by omega)
      have hb9 : b ≤ 100 := by omega
      replace hb := Lib.hid hb
      go_wp2_with fail
      refine kc.out.mono ?_
      rintro e w2 ⟨rfl, ⟨D2, hM, hO2⟩, hK2⟩
      have hI2 : Hid (InSt key pos n b d D2) := hI.out.step ha (by have := hb.out; omega) (by have := hb.out; omega) (by have := hb.out; omega) hM.1 hM.2 (.inl hb.out)
      replace hO2 := Lib.hid hO2
      replace hK2 := Lib.hid (kp_trans hK.out hK2)
      clear hM kc hI hO hK
      go_wp2
      exact ⟨⟨b, D2, by have := hb.out; omega, by have := hb.out; omega, by first | rfl | trivial, by go_num, hI2, hO2, hK2⟩, by have := hb.out; simp only [intOf]; omega⟩
    · have t1 : decide (((a + 20 : Nat) : Int) ≤ (n : Int)) = false := decide_eq_false (by omega)
      have kc := Lib.hid (ki.out a n D wr hI.out hK.out hO.out han (Nat.le_refl _))
      obtain ⟨b, hb⟩ : ∃ b, b = a + 20 := ⟨_, rfl⟩
      rw [← hb] at t1 ⊢
      have t1n : decide (b ≤ n) = false := decide_eq_false (by omega)
      have hb9 : b ≤ 100 := by omega
      replace hb := Lib.hid hb
      replace hab := Lib.hid hab
      go_wp2_with fail
      refine kc.out.mono ?_
      rintro e w2 ⟨rfl, ⟨D2, hM, hO2⟩, hK2⟩
      have hI2 : Hid (InSt key pos n n d D2) := hI.out.step ha han (Nat.le_refl _) (by have := hab.out; omega) hM.1 hM.2 (.inr rfl)
      have hB2 : Hid (BSt key pos 20 n 0 d D2) := hI2.out.toB
      replace hO2 := Lib.hid hO2
      replace hK2 := Lib.hid (kp_trans hK.out hK2)
      clear hM kc hI hO hK hI2
      go_wp2
      go_loopw [6] (fun Bx wr => ∃ (B : Nat) (D : Array α), (B = 20 ∨ B = 40 ∨ B = 80) ∧ Bx = .int .i64 (B : Int) ∧ Hid (BSt key pos B n 0 d D) ∧ Hid (Ro nm wr bl D) ∧ Hid (Kp [bl] w wr)) (fun Bx _ => 80 - (intOf Bx).toNat)
      case atStart => exact ⟨20, D2, .inl rfl, rfl, hB2, hO2, hK2⟩
      case round =>
        obtain ⟨B, D3, hB, rfl, hI3, hO3, hK3⟩ := hrel
        by_cases hBn : B < n
        · have hB4 : B = 20 ∨ B = 40 := by omega
          have t2 : decide ((B : Int) < (n : Int)) = true := decide_eq_true (by omega)
          have t2n : decide (B < n) = true := decide_eq_true hBn
          have hb20 : 20 ≤ B := by omega
          have hb40 : B ≤ 40 := by omega
          replace hB := Lib.hid hB
          replace hB4 := Lib.hid hB4
          go_wp2
          go_loopw [7, 8] (fun ax bx wr => ∃ (a : Nat) (D : Array α), a ≤ n ∧ Hid (a % (2 * B) = 0) ∧ ax = .int .i64 (a : Int) ∧ bx = .int .i64 ((a + 2 * B : Nat) : Int) ∧ Hid (BSt key pos B n a d D) ∧ Hid (Ro nm wr bl D) ∧ Hid (Kp [bl] w wr)) (fun ax _ _ => n - (intOf ax).toNat)
          case atStart => exact ⟨0, D3, Nat.zero_le _, Nat.zero_mod _, rfl, by go_num, hI3, hO3, hK3⟩
          case round =>
            obtain ⟨a, D4, han, ha, rfl, rfl, hI4, hO4, hK4⟩ := hrel
            obtain ⟨b, hb⟩ : ∃ b, b = a + 2 * B := ⟨_, rfl⟩
            rw [← hb]
            by_cases hbn : b ≤ n
            · have kc := Lib.hid (ks.out B a b D4 wr hB4.out hI4.out hK4.out hO4.out ha.out (by omega) hbn (by omega))
              have t3 : decide ((b : Int) ≤ (n : Int)) = true := decide_eq_true (by omega)
              have t3n : decide (b ≤ n) = true := decide_eq_true hbn
              have hb9 : b ≤ 200 := by omega
              have ha2 : Hid (b % (2 * B) = 0) := by show _ = _; rw [hb, Nat.add_mod, ha.out]; simp
              rw [show ((a + B : Nat) : Int) = (a : Int) + (B : Int) by omega] at kc
              have hbN : Hid (a ≤ n ∧ b = a + 2 * B ∧ b ≤ n) := ⟨han, hb, hbn⟩
              clear hb
              go_wp2_with fail
              refine kc.out.mono ?_
              rintro e w5 ⟨rfl, ⟨D5, hM, hO5⟩, hK5⟩
              have hI5 : Hid (BSt key pos B n b d D5) := by
                have h := hI4.out.step hB4.out ha.out (b := b) (by have := hbN.out; omega) hbn (by have := hbN.out; omega) (.inl hbN.out.2.1) hM
                rw [← hbN.out.2.1] at h
                exact h
              replace hO5 := Lib.hid hO5
              replace hK5 := Lib.hid (kp_trans hK4.out hK5)
              clear hM kc hI4 hO4 hK4
              go_wp2
              exact ⟨⟨b, D5, hbn, ha2, by first | rfl | trivial, by go_num, hI5, hO5, hK5⟩, by have := hbN.out; simp only [intOf]; omega⟩
            · have t3 : decide ((b : Int) ≤ (n : Int)) = false := decide_eq_false (by omega)
              have t3n : decide (b ≤ n) = false := decide_eq_false hbn
              obtain ⟨m, hm⟩ : ∃ m, m = a + B := ⟨_, rfl⟩
              have t4 : (a : Int) + (B : Int) = (m : Int) := by omega
              have hm9 : m ≤ 200 := by omega
              by_cases hmn : m < n
              · have kc := Lib.hid (ks.out B a n D4 wr hB4.out hI4.out hK4.out hO4.out ha.out (by omega) (Nat.le_refl _) (by omega))
                rw [← hm] at kc
                have t5 : decide ((m : Int) < (n : Int)) = true := decide_eq_true (by omega)
                have t5n : decide (m < n) = true := decide_eq_true hmn
                have hbN : Hid (n < a + 2 * B ∧ a + B < n) := ⟨by omega, by omega⟩
                clear hb hbn; replace hm := Lib.hid hm
                go_wp2_with fail
                refine kc.out.mono ?_
                rintro e w5 ⟨rfl, ⟨D5, hM, hO5⟩, hK5⟩
                have hI5 : Hid (BSt key pos (2 * B) n 0 d D5) := by
                  have h := hI4.out.step hB4.out ha.out (b := n) hbN.out.2 (Nat.le_refl _) (by have := hbN.out; omega) (.inr rfl) hM
                  refine h.next hB4.out ?_ (by have := hbN.out; omega)
                  rw [Nat.add_mod, ha.out]; simp
                replace hO5 := Lib.hid hO5
                replace hK5 := Lib.hid (kp_trans hK4.out hK5)
                clear hM kc hI4 hO4 hK4
                go_wp2
                exact ⟨⟨2 * B, D5, by have := hB4.out; omega, by go_num, hI5, hO5, hK5⟩, by simp only [intOf]; omega⟩
              · have t5 : decide ((m : Int) < (n : Int)) = false := decide_eq_false (by omega)
                have t5n : decide (m < n) = false := decide_eq_false hmn
                have hI5 : Hid (BSt key pos (2 * B) n 0 d D4) := hI4.out.next hB4.out ha.out (by omega)
                clear hI4 hb hbn; replace hm := Lib.hid hm
                go_wp2
                exact ⟨⟨2 * B, D4, by have := hB4.out; omega, by go_num, hI5, hO4, hK4⟩, by simp only [intOf]; omega⟩
        · have t2 : decide ((B : Int) < (n : Int)) = false := decide_eq_false (by omega)
          have t2n : decide (B < n) = false := decide_eq_false hBn
          have hfin := Lib.hid (hI3.out.last (by omega))
          replace hB := Lib.hid hB
          go_wp2
          go_end0
          exact ⟨rfl, ⟨D3, hfin.out, hO3.out⟩, hK3.out⟩
end St
end Go.Proofs.YtpmlhgmmobpilaaGreatDoor
namespace Go.Proofs.YtpmlhgmmobpilaaGreatDoor
open Go.RowKit Go.Shelf Go.Sort
namespace Co
open Nt Ci St
end Co
end Go.Proofs.YtpmlhgmmobpilaaGreatDoor

namespace Go.Proofs.YtpmlhgmmobpilaaGreatDoor
namespace Mo
/-- a stands ahead of b: by the keys, and where these are equal by the numbers. -/
def Bef (o : Nat → Int) (a b : Nat) : Prop := o a < o b ∨ (o a = o b ∧ a < b)
instance (o : Nat → Int) (a b : Nat) : Decidable (Bef o a b) := inferInstanceAs (Decidable (_ ∨ _))
/-- How many of the numbers below n stand ahead of i. -/
def rankS (o : Nat → Int) (n i : Nat) : Nat := ((List.range n).filter fun j => decide (Bef o j i)).length
/-- l has the numbers below n, in their order. -/
def Srt (o : Nat → Int) (n : Nat) (l : List Nat) : Prop := l.Perm (List.range n) ∧ l.Pairwise (Bef o)
section
variable {o : Nat → Int} {n i k : Nat} {l : List Nat}
theorem Srt.len (h : Srt o n l) : l.length = n := by rw [h.1.length_eq, List.length_range]
theorem Srt.mem (h : Srt o n l) {x : Nat} : x ∈ l ↔ x < n := by rw [h.1.mem_iff, List.mem_range]
theorem bef_asymm {a b : Nat} (h : Bef o a b) (h2 : Bef o b a) : False := by unfold Bef at h h2; omega
theorem filter_lt {P : Nat → Bool} : ∀ {l : List Nat} {k : Nat}, k ≤ l.length → (∀ j (h : j < l.length), P l[j] = decide (j < k)) → (l.filter P).length = k := by
  intro l
  induction l with
  | nil => intro k hk _; simp at hk; simp [hk]
  | cons a l ih =>
    intro k hk h
    have h0 := h 0 (by simp)
    cases k with
    | zero =>
      have := ih (k := 0) (Nat.zero_le _) fun j hj => by have := h (j + 1) (by simpa using hj); simpa using this
      rw [List.filter_cons, if_neg (by simpa using h0)]
      exact this
    | succ k =>
      have := ih (k := k) (by simpa using hk) fun j hj => by
        have := h (j + 1) (by simpa using hj)
        rw [List.getElem_cons_succ] at this
        rw [this]
        exact decide_eq_decide.2 (by omega)
      rw [List.filter_cons, if_pos (by simpa using h0), List.length_cons, this]
/-- The rank of the element at place k is k. -/
theorem Srt.rank (h : Srt o n l) (hk : k < l.length) : rankS o n l[k] = k := by
  unfold rankS
  rw [← (h.1.filter _).length_eq]
  refine filter_lt (by omega) fun j hj => ?_
  have hp := List.pairwise_iff_getElem.1 h.2
  by_cases c : j < k
  · rw [decide_eq_true c]
    exact decide_eq_true (hp j k hj hk c)
  · rw [decide_eq_false c]
    refine decide_eq_false fun hb => ?_
    by_cases e : j = k
    · subst e; exact bef_asymm hb hb
    · exact bef_asymm hb (hp k j hk hj (by omega))
/-- The first ones are those of small rank. -/
theorem Srt.take (h : Srt o n l) (hi : i < n) : i ∈ l.take k ↔ rankS o n i < k := by
  obtain ⟨j, hj, rfl⟩ := List.getElem_of_mem (h.mem.2 hi)
  rw [h.rank hj]
  constructor
  · intro hm
    obtain ⟨j2, hj2, e⟩ := List.getElem_of_mem hm
    rw [List.length_take] at hj2
    rw [List.getElem_take] at e
    have h1 := h.rank hj
    rw [← e, h.rank (by omega)] at h1
    omega
  · intro hlt
    exact List.mem_of_getElem (i := j) (h := by rw [List.length_take]; omega) (by rw [List.getElem_take])
end
def sumI (l : List Int) : Int := l.foldl (· + ·) 0
theorem foldl_add (l : List Int) : ∀ a, l.foldl (· + ·) a = a + l.foldl (· + ·) 0 := by
  induction l with
  | nil => intro a; simp
  | cons x l ih => intro a; rw [List.foldl_cons, List.foldl_cons, ih (a + x), ih (0 + x)]; omega
theorem sumI_nil : sumI [] = 0 := rfl
theorem sumI_cons (x : Int) (l : List Int) : sumI (x :: l) = x + sumI l := by unfold sumI; rw [List.foldl_cons, foldl_add]; omega
theorem sumI_append (l m : List Int) : sumI (l ++ m) = sumI l + sumI m := by
  induction l with
  | nil => simp [sumI_nil]
  | cons x l ih => rw [List.cons_append, sumI_cons, sumI_cons, ih]; omega
theorem sumI_take {l : List Int} {k : Nat} (h : k < l.length) : sumI (l.take (k + 1)) = sumI (l.take k) + l[k] := by
  rw [List.take_succ_eq_append_getElem h, sumI_append, sumI_cons, sumI_nil]; omega
theorem sumI_nonneg {l : List Int} (h : ∀ x, x ∈ l → 0 ≤ x) : 0 ≤ sumI l := by
  induction l with
  | nil => simp [sumI_nil]
  | cons x l ih =>
    rw [sumI_cons]
    have := h x (List.mem_cons_self ..)
    have := ih fun y hy => h y (List.mem_cons_of_mem _ hy)
    omega
theorem sumI_le {l : List Int} {c : Int} (h : ∀ x, x ∈ l → x ≤ c) : sumI l ≤ c * l.length := by
  induction l with
  | nil => simp [sumI_nil]
  | cons x l ih =>
    rw [sumI_cons, List.length_cons]
    have := h x (List.mem_cons_self ..)
    have := ih fun y hy => h y (List.mem_cons_of_mem _ hy)
    have e : c * ((l.length + 1 : Nat) : Int) = c * l.length + c := by rw [Int.natCast_add, Int.mul_add]; simp
    omega
theorem sumI_map_add {α : Type} (l : List α) (f g : α → Int) : sumI (l.map fun x => f x + g x) = sumI (l.map f) + sumI (l.map g) := by
  induction l with
  | nil => simp [sumI_nil]
  | cons x l ih => simp only [List.map_cons, sumI_cons, ih]; omega
theorem sumI_map_mul {α : Type} (l : List α) (f : α → Int) (c : Int) : sumI (l.map fun x => c * f x) = c * sumI (l.map f) := by
  induction l with
  | nil => simp [sumI_nil]
  | cons x l ih => simp only [List.map_cons, sumI_cons, ih, Int.mul_add]
/-- The parts that Split accepts. -/
def okPart (p : Int) : Bool := decide (0 ≤ p ∧ p ≤ 1000000)
def splitOk (units : Int) (parts : List Int) : Bool := parts.all okPart && decide (0 ≤ units ∧ units ≤ 1000000000000) && decide (parts.length ≤ 400) && decide (sumI parts ≠ 0)
def flo (units : Int) (parts : List Int) (i : Nat) : Int := units * parts.getD i 0 / sumI parts
def rem (units : Int) (parts : List Int) (i : Nat) : Int := units * parts.getD i 0 % sumI parts
def leftS (units : Int) (parts : List Int) : Int := units - sumI ((List.range parts.length).map (flo units parts))
/-- What party i gets more than the share rounded down. -/
def incS (units : Int) (parts : List Int) (i : Nat) : Int := if (rankS (fun j => - rem units parts j) parts.length i : Int) < leftS units parts then 1 else 0
def splitR (units : Int) (parts : List Int) : List Int := (List.range parts.length).map fun i => flo units parts i + incS units parts i
section
variable {units : Int} {parts : List Int} {i : Nat}
theorem split_len : (splitR units parts).length = parts.length := by simp [splitR]
theorem range_getD (l : List Int) : (List.range l.length).map (fun i => l.getD i 0) = l := by
  refine List.ext_getElem (by simp) fun i h1 h2 => ?_
  simp [List.getD_eq_getElem?_getD, h2]
/-- What Split has accepted. -/
structure SplitOk (units : Int) (parts : List Int) : Prop where
  p : ∀ i, 0 ≤ parts.getD i 0 ∧ parts.getD i 0 ≤ 1000000
  u : 0 ≤ units ∧ units ≤ 1000000000000
  n : parts.length ≤ 400
  s : 0 < sumI parts ∧ sumI parts ≤ 400000000
theorem splitOk_iff : splitOk units parts = true → SplitOk units parts := by
  intro h
  unfold splitOk at h
  simp only [Bool.and_eq_true, decide_eq_true_eq, List.all_eq_true] at h
  obtain ⟨⟨⟨h1, h2⟩, h3⟩, h4⟩ := h
  have h1' : ∀ x, x ∈ parts → 0 ≤ x ∧ x ≤ 1000000 := fun x hx => of_decide_eq_true (h1 x hx)
  have s0 := sumI_nonneg fun x hx => (h1' x hx).1
  have s1 := sumI_le fun x hx => (h1' x hx).2
  refine ⟨fun i => ?_, h2, h3, ?_⟩
  · by_cases c : i < parts.length
    · have e : parts.getD i 0 = parts[i] := by simp [List.getD_eq_getElem?_getD, c]
      rw [e]
      exact h1' _ (List.getElem_mem c)
    · have e : parts.getD i 0 = 0 := by simp [List.getD_eq_getElem?_getD, Nat.le_of_not_lt c]
      rw [e]; omega
  · omega
theorem flo_rem (h : SplitOk units parts) (i : Nat) : units * parts.getD i 0 = sumI parts * flo units parts i + rem units parts i ∧ 0 ≤ rem units parts i ∧ rem units parts i < sumI parts ∧ 0 ≤ flo units parts i := by
  have hp := h.p i
  have hs := h.s
  have h0 : 0 ≤ units * parts.getD i 0 := Int.mul_nonneg h.u.1 hp.1
  unfold flo rem
  exact ⟨(Int.mul_ediv_add_emod _ _).symm, Int.emod_nonneg _ (by omega), Int.emod_lt_of_pos _ hs.1, Int.ediv_nonneg h0 (by omega)⟩
/-- What is left is the sum of the remainders. -/
theorem left_rem (h : SplitOk units parts) : sumI parts * leftS units parts = sumI ((List.range parts.length).map (rem units parts)) := by
  have e1 : sumI ((List.range parts.length).map fun i => units * parts.getD i 0) = units * sumI parts := by
    rw [sumI_map_mul, range_getD]
  have e2 : sumI ((List.range parts.length).map fun i => units * parts.getD i 0) = sumI ((List.range parts.length).map fun i => sumI parts * flo units parts i + rem units parts i) := by
    congr 1
    exact List.map_congr_left fun i _ => (flo_rem h i).1
  rw [e1, sumI_map_add, sumI_map_mul _ (flo units parts)] at e2
  unfold leftS
  rw [Int.mul_sub, Int.mul_comm (sumI parts) units]
  omega
theorem left_bounds (h : SplitOk units parts) : 0 ≤ leftS units parts ∧ leftS units parts ≤ parts.length := by
  have h1 := left_rem h
  have h2 : 0 ≤ sumI ((List.range parts.length).map (rem units parts)) := sumI_nonneg fun x hx => by
    obtain ⟨i, _, rfl⟩ := List.mem_map.1 hx
    exact (flo_rem h i).2.1
  have h3 : sumI ((List.range parts.length).map (rem units parts)) ≤ sumI parts * parts.length := by
    have := sumI_le (l := (List.range parts.length).map (rem units parts)) (c := sumI parts) fun x hx => by
      obtain ⟨i, _, rfl⟩ := List.mem_map.1 hx
      exact Int.le_of_lt (flo_rem h i).2.2.1
    simpa using this
  have hs := h.s.1
  rw [← h1] at h2 h3
  constructor
  · by_cases c : 0 ≤ leftS units parts
    · exact c
    · exfalso
      have : sumI parts * leftS units parts < 0 := Int.mul_neg_of_pos_of_neg hs (by omega)
      omega
  · exact Int.le_of_mul_le_mul_left h3 hs
end
end Mo
end Go.Proofs.YtpmlhgmmobpilaaGreatDoor

namespace Go.Proofs.YtpmlhgmmobpilaaGreatDoor
open Go.RowKit Go.Shelf Go.Sort
namespace Mo
open Nt Ci St
/-- What Split's inner functions read. -/
structure SpIn (w : World) (ub pb sb fb : Nat) (units : Int) (A : Option Addr) (c : Nat) (parts : List Int) : Prop where
  u : w.cell? ⟨ub, 0, none⟩ = some (.int .i64 units)
  p : w.cell? ⟨pb, 0, none⟩ = some (.slice A parts.length c)
  s : w.cell? ⟨sb, 0, none⟩ = some (.int .i64 (sumI parts))
  f : w.cell? ⟨fb, 0, none⟩ = some (.func (.func 52) #[] #[.pointer (some ⟨ub, 0, none⟩), .pointer (some ⟨pb, 0, none⟩), .pointer (some ⟨sb, 0, none⟩)])
  l : InInt w A parts
theorem SpIn.kp {w w' : World} {ub pb sb fb bl : Nat} {units : Int} {A : Option Addr} {c : Nat} {parts : List Int} (h : SpIn w ub pb sb fb units A c parts) (hk : Kp [bl] w w') (h1 : ub ≠ bl) (h2 : pb ≠ bl) (h3 : sb ≠ bl) (h4 : fb ≠ bl) (h5 : ∀ b o, A = some ⟨b, o, none⟩ → b ≠ bl) : SpIn w' ub pb sb fb units A c parts := by
  have hc : ∀ {a : Addr} {v : Value}, a.block ≠ bl → w.cell? a = some v → w'.cell? a = some v := fun {a v} hne hv =>
    (World.cell?_of_block (a := a) (hk.block a.block (World.block_lt_of_cell? w _ hv) (by simpa using hne))).trans hv
  refine ⟨hc (by simpa using h1) h.u, hc (by simpa using h2) h.p, hc (by simpa using h3) h.s, hc (by simpa using h4) h.f, fun h0 => ?_⟩
  obtain ⟨b, o, e, hl, hcc⟩ := h.l h0
  exact ⟨b, o, e, Nat.lt_of_lt_of_le hl hk.size, fun j hj => hc (by simpa using h5 b o e) (hcc j hj)⟩
section
variable {units : Int} {parts : List Int}
theorem mul_lim (h : SplitOk units parts) (i : Nat) : 0 ≤ units * parts.getD i 0 ∧ units * parts.getD i 0 ≤ 1000000000000000000 := by
  have hp := h.p i
  refine ⟨Int.mul_nonneg h.u.1 hp.1, ?_⟩
  have h1 : units * parts.getD i 0 ≤ 1000000000000 * 1000000 := Int.mul_le_mul h.u.2 hp.2 hp.1 (by decide)
  exact h1
theorem rem_tmod (h : SplitOk units parts) (i : Nat) : (units * parts.getD i 0).tmod (sumI parts) = rem units parts i := by
  unfold rem
  exact Int.tmod_eq_emod_of_nonneg (mul_lim h i).1
theorem flo_tdiv (h : SplitOk units parts) (i : Nat) : (units * parts.getD i 0).tdiv (sumI parts) = flo units parts i := by
  unfold flo
  exact Int.tdiv_eq_ediv_of_nonneg (mul_lim h i).1
theorem rem_lim (h : SplitOk units parts) (i : Nat) : 0 ≤ rem units parts i ∧ rem units parts i ≤ 400000000 := by
  have h1 := flo_rem h i
  have h2 := h.s
  omega
end
set_option maxRecDepth 100000 in
theorem rest_any (ub pb sb fb c i : Nat) (units : Int) (A : Option Addr) (parts : List Int) (w : World) (hS : SpIn w ub pb sb fb units A c parts) (h : SplitOk units parts) (hi : i < parts.length) :
    Calls Tryz.prog 52 #[.int .i64 (i : Int), .pointer (some ⟨ub, 0, none⟩), .pointer (some ⟨pb, 0, none⟩), .pointer (some ⟨sb, 0, none⟩)] w fun e w' => e = .returned (.int .i64 (rem units parts i)) ∧ ∃ q, w' = w.drewN q := by
  obtain ⟨b, o, rfl, hl, hcc⟩ := hS.l (by omega)
  have e1 := hcc i hi
  have c1 := hS.u; have c2 := hS.p; have c3 := hS.s
  have l1 := World.block_lt_of_cell? w _ c1; have l2 := World.block_lt_of_cell? w _ c2; have l3 := World.block_lt_of_cell? w _ c3
  have hg : parts.getD i 0 = parts[i] := by simp [List.getD_eq_getElem?_getD, hi]
  have hm := mul_lim h i
  have ht := rem_tmod h i
  have hr := rem_lim h i
  have hs := h.s
  have hd : units * parts.getD i 0 % sumI parts = rem units parts i := rfl
  rw [hg] at hm ht hd
  have j0 : (0 : Int) ≤ (i : Int) := by omega
  have j1 : (i : Int) < (parts.length : Int) := by omega
  have hn := h.n
  clear hcc hS
  generalize rem units parts i = r at ht hr hd ⊢
  generalize sumI parts = S at ht c3 hs hd
  generalize parts[i] = p at ht hm e1 hd
  obtain ⟨m, hme⟩ : ∃ m, m = units * p := ⟨_, rfl⟩
  rw [← hme] at ht hm
  have hmw : IntKind.i64.wrap (units * p) = m := by rw [← hme]; exact IntWalk.i64_in _ (by omega)
  replace hd := Lib.hid hd
  have hS0 : (S == 0) = false := by rw [beq_eq_false_iff_ne]; omega
  have hrw : IntKind.i64.wrap (m.tmod S) = r := by rw [ht]; exact IntWalk.i64_in _ (by omega)
  clear hg h
  go_enter Tryz.func52, Tryz.ntmps52
  go_wp2_with fail
  go_quiet (fail)
  go_wp2
  go_ret
  exact ⟨by rw [← hd.out]; rfl, _, rfl⟩
theorem SpIn.drewN {w : World} {ub pb sb fb : Nat} {units : Int} {A : Option Addr} {c : Nat} {parts : List Int} (h : SpIn w ub pb sb fb units A c parts) (q : Nat) : SpIn (w.drewN q) ub pb sb fb units A c parts := ⟨h.u, h.p, h.s, h.f, h.l⟩
set_option maxRecDepth 100000 in
set_option maxHeartbeats 4000000 in
/-- The comparison that Split hands to the sort. -/
theorem cmpS_any (r : Nat → Int) (ub pb sb fb c x y : Nat) (units : Int) (A : Option Addr) (parts : List Int) (w : World) (hS : SpIn w ub pb sb fb units A c parts) (h : SplitOk units parts) (hx : x < parts.length) (hy : y < parts.length) (hr : r = rem units parts) :
    Calls Tryz.prog 54 #[.int .i64 (x : Int), .int .i64 (y : Int), .pointer (some ⟨fb, 0, none⟩)] w fun e w' => e = .returned (.int .i64 (r y - r x)) ∧ ∃ q, w' = w.drewN q := by
  rw [hr]
  have kx : Hid (∀ q, Calls Tryz.prog 52 #[.int .i64 (x : Int), .pointer (some ⟨ub, 0, none⟩), .pointer (some ⟨pb, 0, none⟩), .pointer (some ⟨sb, 0, none⟩)] (w.drewN q) fun e w' => e = .returned (.int .i64 (rem units parts x)) ∧ ∃ q2, w' = (w.drewN q).drewN q2) := fun q => rest_any ub pb sb fb c x units A parts (w.drewN q) (hS.drewN q) h hx
  have ky : Hid (∀ q, Calls Tryz.prog 52 #[.int .i64 (y : Int), .pointer (some ⟨ub, 0, none⟩), .pointer (some ⟨pb, 0, none⟩), .pointer (some ⟨sb, 0, none⟩)] (w.drewN q) fun e w' => e = .returned (.int .i64 (rem units parts y)) ∧ ∃ q2, w' = (w.drewN q).drewN q2) := fun q => rest_any ub pb sb fb c y units A parts (w.drewN q) (hS.drewN q) h hy
  have c4 := hS.f
  have l4 := World.block_lt_of_cell? w _ c4
  have rx := rem_lim h x
  have ry := rem_lim h y
  generalize rem units parts x = vx at kx rx ⊢
  generalize rem units parts y = vy at ky ry ⊢
  have hsw : IntKind.i64.wrap (vy - vx) = vy - vx := IntWalk.i64_in _ (by omega)
  clear hS h
  go_enter Tryz.func54, Tryz.ntmps54
  go_wp2_with fail
  go_quiet (first | (with_reducible exact Calls.quiet_of (ky.out _)) | (with_reducible exact Calls.quiet_of (kx.out _)))
  go_wp2
  go_ret
  exact ⟨rfl, _, rfl⟩
theorem cmpS_lt (a b : Int) : decide (b - a < 0) = decide (-a < -b) := by rw [decide_eq_decide]; omega
set_option maxRecDepth 100000 in
set_option maxHeartbeats 4000000 in
/-- slices.SortStableFunc as Split calls it. -/
theorem sortS_any (r : Nat → Int) (ub pb sb fb bl cap c : Nat) (units : Int) (A : Option Addr) (parts : List Int) (w : World) (hS : SpIn w ub pb sb fb units A c parts) (h : SplitOk units parts) (h80 : parts.length < 80) (hR : RoI w bl parts.length fun i => (i : Int)) (h1 : ub ≠ bl) (h2 : pb ≠ bl) (h3 : sb ≠ bl) (h4 : fb ≠ bl) (h5 : ∀ b o, A = some ⟨b, o, none⟩ → b ≠ bl) (hr : r = rem units parts) :
    Calls Tryz.prog 53 #[.slice (some ⟨bl, 0, none⟩) parts.length cap, .func (.func 54) #[] #[.pointer (some ⟨fb, 0, none⟩)]] w fun e w' => e = .returned (.tuple #[]) ∧ (∃ l', Srt (fun j => - r j) parts.length l' ∧ ∀ j (hj : j < l'.length), w'.cell? ⟨bl, j, none⟩ = some (.int .i64 (l'[j] : Int))) ∧ Kp [bl] w w' := by
  obtain ⟨m, hm⟩ : ∃ m, parts.length = m + 1 := ⟨parts.length - 1, by
    have := h.s
    cases parts with
    | nil => simp [sumI_nil] at this
    | cons a l => simp⟩
  have hl : ∀ x, x ∈ List.range parts.length → x < m + 1 := fun x hx => by have := List.mem_range.1 hx; omega
  have hRo : Ro (fun x : Fin (m + 1) => x.val) w bl (Co.arr (List.range parts.length)) := ⟨hR.lt, fun j hj => by
    have hj2 : j < (List.range parts.length).length := by rwa [Co.arr_size] at hj
    rw [Co.arr_at hl hj2, List.getElem_range]
    exact hR.cell j (by simpa using hj2), fun j _ => hR.fr j⟩
  have hC : CmpOn Tryz.prog 54 #[.pointer (some ⟨fb, 0, none⟩)] (fun x : Fin (m + 1) => x.val) (fun x y => r y.val - r x.val) bl w := fun W hW x y =>
    cmpS_any r ub pb sb fb c x.val y.val units A parts W (hS.kp hW h1 h2 h3 h4 h5) h (by have := x.isLt; omega) (by have := y.isLt; omega) hr
  have hsz : (Co.arr (m := m) (List.range parts.length)).size = parts.length := by rw [Co.arr_size, List.length_range]
  have ks := stable_any (fun x : Fin (m + 1) => x.val) (fun x y => r y.val - r x.val) 54 #[.pointer (some ⟨fb, 0, none⟩)] (enters_of Tryz.func54 (by kernel_rfl) rfl) (fun x : Fin (m + 1) => - r x.val) Fin.val (fun x y => cmpS_lt _ _) bl cap parts.length (Co.arr (List.range parts.length)) w hC hRo hsz h80 fun i j hij hj => by
    rw [Co.arr_at hl (by simp; omega), Co.arr_at hl (by simpa using hj)]
    simpa using hij
  have ks2 : Hid (Calls Tryz.prog 108 #[.slice (some ⟨bl, 0, none⟩) parts.length cap, .int .i64 (parts.length : Int), .func (.func 54) #[] #[.pointer (some ⟨fb, 0, none⟩)]] w fun e w' => e = .returned (.tuple #[]) ∧ (∃ l', Srt (fun j => - r j) parts.length l' ∧ ∀ j (hj : j < l'.length), w'.cell? ⟨bl, j, none⟩ = some (.int .i64 (l'[j] : Int))) ∧ Kp [bl] w w') := ks.mono fun e w' h => by
    obtain ⟨h1, ⟨d', ⟨hp, hs⟩, hO⟩, hk⟩ := h
    have hp2 : PermIn 0 (List.range parts.length).length (Co.arr (m := m) (List.range parts.length)) d' := by rw [List.length_range]; exact hp
    have hs2 : SortedIn (kLt (fun x : Fin (m + 1) => - r x.val) Fin.val) 0 (List.range parts.length).length d' := by rw [List.length_range]; exact hs
    refine ⟨h1, ⟨d'.toList.map Fin.val, Co.sorted_of (o := fun j => - r j) hl List.pairwise_lt_range hp2 hs2, fun j hj => ?_⟩, hk⟩
    have hj2 : j < d'.size := by simpa using hj
    have h4 := hO.cell j hj2
    rw [getElem!_pos _ j hj2] at h4
    simpa using h4
  have hP : Hid (∀ (e : Ending) (W : World), e = .returned (.tuple #[]) → (∃ l', Srt (fun j => - r j) parts.length l' ∧ ∀ j (hj : j < l'.length), W.cell? ⟨bl, j, none⟩ = some (.int .i64 (l'[j] : Int))) → Kp [bl] w W → e = .returned (.tuple #[]) ∧ (∃ l', Srt (fun j => - r j) parts.length l' ∧ ∀ j (hj : j < l'.length), W.cell? ⟨bl, j, none⟩ = some (.int .i64 (l'[j] : Int))) ∧ Kp [bl] w W) := fun e W h1 h2 h3 => ⟨h1, h2, h3⟩
  clear hRo hC ks hR hS h h1 h2 h3 h4 h5 hsz hl hm
  go_enter Tryz.func53, Tryz.ntmps53
  go_wp2_with fail
  refine ks2.out.mono ?_
  rintro e w2 ⟨rfl, h1, h2⟩
  replace h1 := Lib.hid h1
  replace h2 := Lib.hid h2
  go_wp2
  go_end0
  exact hP.out _ _ rfl h1.out h2.out
end Mo
end Go.Proofs.YtpmlhgmmobpilaaGreatDoor

namespace Go.Proofs.YtpmlhgmmobpilaaGreatDoor
open Go.RowKit Go.Shelf
namespace Mo
open Nt Ci
/-- What Split returns. -/
def splitL (units : Int) (parts : List Int) : List Int := if splitOk units parts = true then splitR units parts else []
def splitE (units : Int) (parts : List Int) : Int := if splitOk units parts = true then 0 else 1
section
variable {units : Int} {parts : List Int}
theorem okPart_iff {p : Int} : okPart p = true ↔ 0 ≤ p ∧ p ≤ 1000000 := decide_eq_true_iff
theorem split_no (h : splitOk units parts = false) : splitL units parts = [] ∧ splitE units parts = 1 := by
  unfold splitL splitE
  rw [h]
  exact ⟨rfl, rfl⟩
theorem split_yes (h : splitOk units parts = true) : splitL units parts = splitR units parts ∧ splitE units parts = 0 := by
  unfold splitL splitE
  rw [h]
  exact ⟨rfl, rfl⟩
theorem splitOk_bad {k : Nat} (h : k < parts.length) (hb : ¬ (0 ≤ parts[k] ∧ parts[k] ≤ 1000000)) : splitOk units parts = false := by
  unfold splitOk
  have : parts.all okPart = false := by
    rw [List.all_eq_false]
    exact ⟨_, List.getElem_mem h, fun c => hb (okPart_iff.1 c)⟩
  rw [this]; rfl
theorem splitOk_of (h : ∀ k (h : k < parts.length), 0 ≤ parts[k] ∧ parts[k] ≤ 1000000) : splitOk units parts = (decide (0 ≤ units ∧ units ≤ 1000000000000) && decide (parts.length ≤ 400) && decide (sumI parts ≠ 0)) := by
  unfold splitOk
  have : parts.all okPart = true := by
    rw [List.all_eq_true]
    intro x hx
    obtain ⟨k, hk, rfl⟩ := List.getElem_of_mem hx
    exact okPart_iff.2 (h k hk)
  rw [this, Bool.true_and]
theorem sum_lim (k : Nat) (hk : k ≤ parts.length) (h : ∀ i (h : i < parts.length), i < k → 0 ≤ parts[i] ∧ parts[i] ≤ 1000000) : 0 ≤ sumI (parts.take k) ∧ sumI (parts.take k) ≤ 1000000 * k := by
  have hm : ∀ x, x ∈ parts.take k → 0 ≤ x ∧ x ≤ 1000000 := fun x hx => by
    obtain ⟨i, hi, rfl⟩ := List.getElem_of_mem hx
    rw [List.length_take] at hi
    rw [List.getElem_take]
    exact h i (by omega) (by omega)
  refine ⟨sumI_nonneg fun x hx => (hm x hx).1, ?_⟩
  have := sumI_le (l := parts.take k) (c := 1000000) fun x hx => (hm x hx).2
  rwa [List.length_take, Nat.min_eq_left hk] at this
/-- What is left behind the first k. -/
def leftK (units : Int) (parts : List Int) (k : Nat) : Int := units - sumI ((List.range k).map (flo units parts))
theorem leftK_succ (k : Nat) : leftK units parts (k + 1) = leftK units parts k - flo units parts k := by
  unfold leftK
  rw [List.range_succ, List.map_append, sumI_append, List.map_singleton, sumI_cons, sumI_nil]
  omega
theorem flo_lim (h : SplitOk units parts) (i : Nat) : 0 ≤ flo units parts i ∧ flo units parts i ≤ 1000000000000000000 := by
  have h1 := flo_rem h i
  have h2 := mul_lim h i
  have h3 := h.s.1
  refine ⟨h1.2.2.2, ?_⟩
  have h4 : 1 * flo units parts i ≤ sumI parts * flo units parts i := Int.mul_le_mul_of_nonneg_right (by omega) h1.2.2.2
  omega
theorem sum_flo_le (h : SplitOk units parts) (k : Nat) (hk : k ≤ parts.length) : 0 ≤ sumI ((List.range k).map (flo units parts)) ∧ sumI ((List.range k).map (flo units parts)) ≤ units := by
  have hp : ∀ m, 0 ≤ sumI ((List.range m).map (flo units parts)) := fun m => sumI_nonneg fun x hx => by
    obtain ⟨i, _, rfl⟩ := List.mem_map.1 hx
    exact (flo_lim h i).1
  refine ⟨hp k, ?_⟩
  have hl := (left_bounds h).1
  unfold leftS at hl
  have : ∀ d, k + d ≤ parts.length → sumI ((List.range k).map (flo units parts)) ≤ sumI ((List.range (k + d)).map (flo units parts)) := by
    intro d
    induction d with
    | zero => intro _; exact Int.le_refl _
    | succ d ih =>
      intro hd
      have h1 := ih (by omega)
      have h2 := (flo_lim h (k + d)).1
      rw [show k + (d + 1) = (k + d) + 1 from rfl, List.range_succ, List.map_append, sumI_append, List.map_singleton, sumI_cons, sumI_nil]
      omega
  have h3 := this (parts.length - k) (by omega)
  rw [show k + (parts.length - k) = parts.length by omega] at h3
  omega
/-- The results while they are laid, and while the rest is handed out. -/
def outK (units : Int) (parts : List Int) (k x : Nat) : Int := if x < k then flo units parts x else 0
def ordK (k x : Nat) : Int := if x < k then (x : Int) else 0
def addK (units : Int) (parts : List Int) (l : List Nat) (j x : Nat) : Int := flo units parts x + if x ∈ l.take j then 1 else 0
theorem outK_succ (k : Nat) (x : Nat) : setI (outK units parts k) k (flo units parts k) x = outK units parts (k + 1) x := by
  unfold setI outK
  by_cases c : x = k
  · rw [if_pos c, c, if_pos (Nat.lt_succ_self _)]
  · rw [if_neg c]
    by_cases d : x < k
    · rw [if_pos d, if_pos (by omega)]
    · rw [if_neg d, if_neg (by omega)]
theorem ordK_succ (k x : Nat) : setI (ordK k) k (k : Int) x = ordK (k + 1) x := by
  unfold setI ordK
  by_cases c : x = k
  · rw [if_pos c, c, if_pos (Nat.lt_succ_self _)]
  · rw [if_neg c]
    by_cases d : x < k
    · rw [if_pos d, if_pos (by omega)]
    · rw [if_neg d, if_neg (by omega)]
theorem addK_succ {l : List Nat} {j : Nat} (hnd : l.Nodup) (hj : j < l.length) (x : Nat) : setI (addK units parts l j) l[j] (addK units parts l j l[j] + 1) x = addK units parts l (j + 1) x := by
  have hn : l[j] ∉ l.take j := fun c => by
    obtain ⟨i, hi, e⟩ := List.getElem_of_mem c
    rw [List.length_take] at hi
    rw [List.getElem_take] at e
    have := (List.pairwise_iff_getElem.1 hnd) i j (by omega) hj (by omega)
    exact this e
  unfold setI addK
  have hm : ∀ y, y ∈ l.take (j + 1) ↔ y ∈ l.take j ∨ y = l[j] := fun y => by rw [List.take_succ_eq_append_getElem hj, List.mem_append, List.mem_singleton]
  by_cases c : x = l[j]
  · rw [if_pos c, c, if_neg hn, if_pos ((hm _).2 (.inr rfl))]
    omega
  · rw [if_neg c]
    congr 1
    by_cases d : x ∈ l.take j
    · rw [if_pos d, if_pos ((hm _).2 (.inl d))]
    · rw [if_neg d, if_neg fun h => ((hm _).1 h).elim d c]
theorem addK_all {l : List Nat} (h : SplitOk units parts) (hl : Srt (fun j => - rem units parts j) parts.length l) {x : Nat} (hx : x < parts.length) : addK units parts l (leftS units parts).toNat x = flo units parts x + incS units parts x := by
  have hb := left_bounds h
  unfold addK incS
  congr 1
  by_cases c : x ∈ l.take (leftS units parts).toNat
  · rw [if_pos c, if_pos]
    have := (hl.take hx).1 c
    omega
  · rw [if_neg c, if_neg]
    intro d
    exact c ((hl.take hx).2 (by omega))
theorem addK_zero {l : List Nat} {x : Nat} : addK units parts l 0 x = flo units parts x := by unfold addK; simp
end
def SpPost (units : Int) (parts : List Int) (w : World) (e : Ending) (w' : World) : Prop := (∃ B d, e = .returned (.tuple #[.slice B (splitL units parts).length d, .int .i64 (splitE units parts)]) ∧ InInt w' B (splitL units parts)) ∧ Below w.heap.size w w'
set_option maxRecDepth 100000 in
set_option maxHeartbeats 16000000 in
theorem Split_any (units : Int) (A : Option Addr) (c : Nat) (parts : List Int) (w : World) (hp : InInt w A parts) (h80 : parts.length < 80) :
    Calls Tryz.prog 14 #[.int .i64 units, .slice A parts.length c] w (SpPost units parts w) := by
  obtain ⟨ub, hub⟩ : ∃ x, x = w.heap.size := ⟨_, rfl⟩
  obtain ⟨pb, hpb⟩ : ∃ x, x = w.heap.size + 1 := ⟨_, rfl⟩
  obtain ⟨sb, hsb⟩ : ∃ x, x = w.heap.size + 1 + 1 := ⟨_, rfl⟩
  have hB1 : Hid (Below w.heap.size w (((w.alloc (.cells #[.int .i64 units] 3)).alloc (.cells #[.slice A parts.length c] 24)).alloc (.cells #[.int .i64 0] 3))) := (((Below.refl _ w).alloc (Nat.le_refl _) _).alloc (by simp) _).alloc (by simp; omega) _
  have hu1 : Hid (Bk (((w.alloc (.cells #[.int .i64 units] 3)).alloc (.cells #[.slice A parts.length c] 24)).alloc (.cells #[.int .i64 0] 3)) ub 3 [.int .i64 units]) := by rw [hub]; exact ((Bk.new w _ _).alloc _).alloc _
  have hq1 : Hid (Bk (((w.alloc (.cells #[.int .i64 units] 3)).alloc (.cells #[.slice A parts.length c] 24)).alloc (.cells #[.int .i64 0] 3)) pb 24 [.slice A parts.length c]) := by have h := (Bk.new (w.alloc (.cells #[.int .i64 units] 3)) 24 [.slice A parts.length c]).alloc (.cells #[.int .i64 0] 3); rw [World.size_alloc, ← hpb] at h; exact h
  have hs1 : Hid (Bk (((w.alloc (.cells #[.int .i64 units] 3)).alloc (.cells #[.slice A parts.length c] 24)).alloc (.cells #[.int .i64 0] 3)) sb 3 [.int .i64 (sumI (parts.take 0))]) := by have h := Bk.new ((w.alloc (.cells #[.int .i64 units] 3)).alloc (.cells #[.slice A parts.length c] 24)) 3 [.int .i64 0]; rw [World.size_alloc, World.size_alloc, ← hsb] at h; exact h
  have hbd := Lib.hid (fun (k : Nat) (h : k < parts.length) hb => splitOk_bad (units := units) h hb)
  have hof := Lib.hid (fun h => splitOk_of (units := units) (parts := parts) h)
  have hlm := Lib.hid (fun k hk h => sum_lim (parts := parts) k hk h)
  have hno := Lib.hid (fun h => split_no (units := units) (parts := parts) h); have hye := Lib.hid (fun h => split_yes (units := units) (parts := parts) h)
  have hPn : Hid (∀ (e : Ending) (W : World), splitOk units parts = false → e = .returned (.tuple #[.slice none 0 0, .int .i64 1]) → Below w.heap.size w W → SpPost units parts w e W) := fun e W h1 h2 h3 => ⟨⟨none, 0, by rw [(split_no h1).1, (split_no h1).2]; exact h2, by rw [(split_no h1).1]; exact fun h => absurd h (by simp)⟩, h3⟩
  have hPy : Hid (∀ (e : Ending) (W : World) (ob : Nat), splitOk units parts = true → e = .returned (.tuple #[.slice (some ⟨ob, 0, none⟩) parts.length parts.length, .int .i64 0]) → RoI W ob parts.length (fun i => flo units parts i + incS units parts i) → Below w.heap.size w W → SpPost units parts w e W) := fun e W ob h1 h2 h3 h4 => ⟨⟨some ⟨ob, 0, none⟩, parts.length, by rw [(split_yes h1).1, (split_yes h1).2, split_len]; exact h2, by rw [(split_yes h1).1]; exact h3.inInt⟩, h4⟩
  have hpw := Lib.hid (fun W (hb : Below w.heap.size w W) => hp.below hb)
  have hA : Hid (∀ b o, A = some ⟨b, o, none⟩ → 0 < parts.length → b < w.heap.size) := fun b o e h0 => by obtain ⟨b2, o2, e2, hl, _⟩ := hp h0; rw [e] at e2; cases e2; exact hl
  clear hp
  have hwub : Hid (w.heap.size ≤ ub ∧ w.heap.size ≤ pb ∧ w.heap.size ≤ sb ∧ ub ≠ sb ∧ pb ≠ sb) := by refine ⟨?_, ?_, ?_, ?_, ?_⟩ <;> omega
  obtain ⟨W1, hW1⟩ : ∃ W, W = (((w.alloc (.cells #[.int .i64 units] 3)).alloc (.cells #[.slice A parts.length c] 24)).alloc (.cells #[.int .i64 0] 3)) := ⟨_, rfl⟩
  rw [← hW1] at hB1 hu1 hq1 hs1
  have q0 := hq1.out.cell (j := 0) rfl; have q9 := hq1.out.lt
  rw [hpb, hW1] at q0 q9
  go_enter Tryz.func14, Tryz.ntmps14
  go_wp2_with fail
  (try rw [← hW1])
  (try rw [← hsb])
  (try rw [← hpb])
  (try rw [← hub])
  replace hW1 := Lib.hid hW1; replace hub := Lib.hid hub; replace hpb := Lib.hid hpb; replace hsb := Lib.hid hsb
  clear q0 q9
  go_loopw [8, 19] (fun _ ix wr => ∃ (k : Nat), k ≤ parts.length ∧ ix = .int .i64 (k : Int) ∧ Hid (Below w.heap.size w wr) ∧ Hid (Bk wr ub 3 [.int .i64 units]) ∧ Hid (Bk wr pb 24 [.slice A parts.length c]) ∧ Hid (Bk wr sb 3 [.int .i64 (sumI (parts.take k))]) ∧ Hid (∀ i (h : i < parts.length), i < k → 0 ≤ parts[i] ∧ parts[i] ≤ 1000000)) (fun _ ix _ => parts.length - (intOf ix).toNat)
  case atStart => exact ⟨0, Nat.zero_le _, rfl, hB1, hu1, hq1, hs1, fun i _ h => absurd h (Nat.not_lt_zero _)⟩
  case round =>
    clear hB1 hu1 hq1 hs1
    obtain ⟨k, hk, rfl, hB, hu, hq, hs, hI⟩ := hrel
    obtain ⟨wz, rfl⟩ : ∃ z, z = wr := ⟨_, rfl⟩
    obtain ⟨hw1, hw2, hw3, hw4, hw5⟩ := hwub.out
    have hsl := hlm.out k hk hI.out
    by_cases hkl : k < parts.length
    · obtain ⟨vb, vo, rfl, hvl, hcc⟩ := (hpw.out wz hB.out) (by omega)
      have e1 := hcc k hkl
      clear hcc
      have hst := sumI_take hkl
      have hbk := Lib.hid (hbd.out k hkl)
      have j0 : (0 : Int) ≤ (k : Int) := by omega
      have j1 : (k : Int) < (parts.length : Int) := by omega
      have hAl : Hid (0 ≤ parts[k] ∧ parts[k] ≤ 1000000 → ∀ i (h : i < parts.length), i < k + 1 → 0 ≤ parts[i] ∧ parts[i] ≤ 1000000) := fun h i hi h2 => by
        by_cases e : i = k
        · subst e; exact h
        · exact hI.out i hi (by omega)
      have s0 := hs.out.cell (j := 0) rfl; have s1 := hs.out.frozen 0; have s9 := hs.out.lt
      generalize parts[k] = p at e1 hbk hAl hst
      generalize sumI (parts.take k) = S at s0 hsl hst
      replace hst := Lib.hid hst
      by_cases c1 : p < 0
      · have m1 : decide (p < 0) = true := decide_eq_true c1
        skip
        have hno1 : Hid (splitOk units parts = false) := hbk.out fun h => by omega
        clear hAl
        go_wp2
        go_ret2
        exact hPn.out _ _ hno1.out rfl hB.out
      · have m1 : decide (p < 0) = false := decide_eq_false c1
        by_cases c2 : 1000000 < p
        · have m2 : decide (1000000 < p) = true := decide_eq_true c2
          skip
          have hno1 : Hid (splitOk units parts = false) := hbk.out fun h => by omega
          clear hAl
          go_wp2
          go_ret2
          exact hPn.out _ _ hno1.out rfl hB.out
        · have m2 : decide (1000000 < p) = false := decide_eq_false c2
          have hI2 := Lib.hid (hAl.out ⟨by omega, by omega⟩)
          have hB2 : Hid (Below w.heap.size w (wz.setCell ⟨sb, 0, none⟩ (.int .i64 (S + p)))) := hB.out.setCell (p := ⟨sb, 0, none⟩) hw3 _
          have hu2 : Hid (Bk (wz.setCell ⟨sb, 0, none⟩ (.int .i64 (S + p))) ub 3 [.int .i64 units]) := hu.out.far (p := ⟨sb, 0, none⟩) hw4 _
          have hq2 : Hid (Bk (wz.setCell ⟨sb, 0, none⟩ (.int .i64 (S + p))) pb 24 [.slice (some ⟨vb, vo, none⟩) parts.length c]) := hq.out.far (p := ⟨sb, 0, none⟩) hw5 _
          have hs2 : Hid (Bk (wz.setCell ⟨sb, 0, none⟩ (.int .i64 (S + p))) sb 3 [.int .i64 (sumI (parts.take (k + 1)))]) := by rw [hst.out]; exact hs.out.set 0 (.int .i64 (S + p))
          clear hAl hbk hI
          go_wp2
          exact ⟨⟨k + 1, by omega, by go_num, hB2, hu2, hq2, hs2, hI2⟩, by simp only [intOf]; omega⟩
    · obtain rfl : k = parts.length := by omega
      rw [List.take_length] at hs hsl
      have hok := hof.out fun i hi => hI.out i hi hi
      rw [decide_eq_true (by omega : parts.length ≤ 400), Bool.and_true] at hok
      have s0 := hs.out.cell (j := 0) rfl; have s9 := hs.out.lt; have u0 := hu.out.cell (j := 0) rfl; have u9 := hu.out.lt; have q0 := hq.out.cell (j := 0) rfl; have q9 := hq.out.lt
      have m4 : decide (400 < (parts.length : Int)) = false := decide_eq_false (by omega); have m4n : decide (400 < parts.length) = false := decide_eq_false (by omega)
      clear hI hbd hof hlm
      by_cases c1 : units < 0
      · have m1 : decide (units < 0) = true := decide_eq_true c1
        have hno1 : Hid (splitOk units parts = false) := by rw [hok, decide_eq_false (by omega : ¬ (0 ≤ units ∧ units ≤ 1000000000000))]; rfl
        clear hok
        go_wp2
        go_ret2
        exact hPn.out _ _ hno1.out rfl hB.out
      · have m1 : decide (units < 0) = false := decide_eq_false c1
        by_cases c2 : 1000000000000 < units
        · have m2 : decide (1000000000000 < units) = true := decide_eq_true c2
          have hno1 : Hid (splitOk units parts = false) := by rw [hok, decide_eq_false (by omega : ¬ (0 ≤ units ∧ units ≤ 1000000000000))]; rfl
          clear hok
          go_wp2
          go_ret2
          exact hPn.out _ _ hno1.out rfl hB.out
        · have m2 : decide (1000000000000 < units) = false := decide_eq_false c2
          by_cases c3 : sumI parts = 0
          · have m3 : (sumI parts == 0) = true := by rw [beq_iff_eq]; exact c3
            have hno1 : splitOk units parts = false := by rw [hok]; simp [c3]
            replace hno1 := Lib.hid hno1
            clear hok
            replace c3 := Lib.hid c3
            skip
            go_wp2
            go_ret2
            exact hPn.out _ _ hno1.out rfl hB.out
          · have m3 : (sumI parts == 0) = false := by rw [beq_eq_false_iff_ne]; exact c3
            have hsok : splitOk units parts = true := by rw [hok, decide_eq_true (by omega : 0 ≤ units ∧ units ≤ 1000000000000), decide_eq_true c3]; rfl
            have hSO := splitOk_iff hsok
            clear hok
            have h0 : 0 < parts.length := by
              cases parts with
              | nil => exact absurd rfl c3
              | cons a l => simp
            have hmk := run_make_row' (P := Tryz.prog) 24 3 (.int .i64 0) 8 Tryz.underlying24 Ci.infoI rfl .i64 .i64 parts.length (by omega) (by omega)
            replace hsok := Lib.hid hsok; replace hSO := Lib.hid hSO; replace c3 := Lib.hid c3; replace h0 := Lib.hid h0
            have hBd : Hid (Below w.heap.size w wz.drew) := hB.out.drew
            have hcs : Hid (∀ W, Below wz.heap.size wz W → W.cell? ⟨pb, 0, none⟩ = some (.slice A parts.length c) ∧ W.cell? ⟨ub, 0, none⟩ = some (.int .i64 units)) := fun W hb => ⟨(hq.out.below hb).cell (j := 0) rfl, (hu.out.below hb).cell (j := 0) rfl⟩
            go_wp2_with fail
            go_region_held3 (fun W => W.cell? ⟨pb, 0, none⟩ = some (.slice A parts.length c) ∧ W.cell? ⟨ub, 0, none⟩ = some (.int .i64 units)) (first | (with_reducible exact hcs.out _ (Below.refl _ _)) | (with_reducible exact hcs.out _ (Below.refl _ _).drew) | (with_reducible exact hcs.out _ ((Below.refl _ _).drew.alloc (Nat.le_refl _) _)) | (with_reducible exact hcs.out _ (((Below.refl _ _).drew.alloc (Nat.le_refl _) _).alloc (by simp) _)) | go_keep) (fail)
            · skip
              have hb7 : Hid (Below wz.heap.size wz ((wz.alloc (.cells (madeCells #[.int .i64 0] parts.length) 3)).alloc (.cells (madeCells #[.int .i64 0] parts.length) 3)).drew) := (((Below.refl _ wz).alloc (Nat.le_refl _) _).alloc (by simp) _).drew
              have hz1 : Hid (RoI ((wz.alloc (.cells (madeCells #[.int .i64 0] parts.length) 3)).alloc (.cells (madeCells #[.int .i64 0] parts.length) 3)).drew wz.heap.size parts.length fun _ => 0) := ((RoI.made wz parts.length 3).below ((Below.refl _ _).alloc (Nat.le_refl _) _)).below (Below.refl _ _).drew
              have hz2 : Hid (RoI ((wz.alloc (.cells (madeCells #[.int .i64 0] parts.length) 3)).alloc (.cells (madeCells #[.int .i64 0] parts.length) 3)).drew (wz.heap.size + 1) parts.length fun _ => 0) := by have h := (RoI.made (wz.alloc (.cells (madeCells #[.int .i64 0] parts.length) 3)) parts.length 3).below (Below.refl _ _).drew; rw [World.size_alloc] at h; exact h
              have hl1 := hu.out.lt; have hl2 := hq.out.lt; have hl3 := hs.out.lt
              obtain ⟨rb, hrb⟩ : ∃ x, x = wz.heap.size + 1 := ⟨_, rfl⟩; obtain ⟨ob, hob⟩ : ∃ x, x = wz.heap.size := ⟨_, rfl⟩
              rw [← hrb] at hz2 ⊢
              rw [← hob] at hz1 ⊢
              have hO7 : Hid (RoI ((wz.alloc (.cells (madeCells #[.int .i64 0] parts.length) 3)).alloc (.cells (madeCells #[.int .i64 0] parts.length) 3)).drew ob parts.length (outK units parts 0)) := hz1.out.congr fun x _ => by unfold outK; rw [if_neg (Nat.not_lt_zero _)]
              have hR7 : Hid (RoI ((wz.alloc (.cells (madeCells #[.int .i64 0] parts.length) 3)).alloc (.cells (madeCells #[.int .i64 0] parts.length) 3)).drew rb parts.length (ordK 0)) := hz2.out.congr fun x _ => by unfold ordK; rw [if_neg (Nat.not_lt_zero _)]
              have hn1 : Hid (ob ≠ rb ∧ ub ≠ ob ∧ pb ≠ ob ∧ sb ≠ ob ∧ ub ≠ rb ∧ pb ≠ rb ∧ sb ≠ rb ∧ w.heap.size ≤ ob ∧ w.heap.size ≤ rb) := by have := hB.out.size; refine ⟨?_, ?_, ?_, ?_, ?_, ?_, ?_, ?_, ?_⟩ <;> omega
              have hAo : Hid (∀ b o, A = some ⟨b, o, none⟩ → b ≠ ob ∧ b ≠ rb) := fun b o e => by have := hA.out b o e h0.out; have := hB.out.size; constructor <;> omega
              have hB7 := Lib.hid (hB.out.trans (hb7.out.mono hB.out.size)); have hu7 := Lib.hid (hu.out.below hb7.out); have hq7 := Lib.hid (hq.out.below hb7.out); have hs7 := Lib.hid (hs.out.below hb7.out)
              replace hrb := Lib.hid hrb; replace hob := Lib.hid hob
              clear hz1 hz2 hl1 hl2 hl3 hb7 hB hu hq hs hsl s0 s9 u0 u9 q0 q9 hmk hBd hcs
              have q0 := hq7.out.cell (j := 0) rfl; have q9 := hq7.out.lt
              have hlk0 : Hid (units = leftK units parts 0) := by unfold leftK; show _ = units - sumI []; rw [sumI_nil]; omega
              go_wp2
              clear q0 q9
              go_loopw [11, 12, 13, 57] (fun lx _ _ ix wr => ∃ (k : Nat), k ≤ parts.length ∧ ix = .int .i64 (k : Int) ∧ lx = .int .i64 (leftK units parts k) ∧ Hid (Below w.heap.size w wr) ∧ Hid (Bk wr ub 3 [.int .i64 units]) ∧ Hid (Bk wr pb 24 [.slice A parts.length c]) ∧ Hid (Bk wr sb 3 [.int .i64 (sumI parts)]) ∧ Hid (RoI wr ob parts.length (outK units parts k)) ∧ Hid (RoI wr rb parts.length (ordK k))) (fun _ _ _ ix _ => parts.length - (intOf ix).toNat)
              case atStart => exact ⟨0, Nat.zero_le _, rfl, by rw [← hlk0.out], hB7, hu7, hq7, hs7, hO7, hR7⟩
              case round =>
                clear hB7 hu7 hq7 hs7 hO7 hR7 hlk0
                obtain ⟨k, hk, rfl, rfl, hB, hu, hq, hs, hO, hR⟩ := hrel
                obtain ⟨wy, rfl⟩ : ∃ z, z = wr := ⟨_, rfl⟩
                obtain ⟨n1, n2, n3, n4, n5, n6, n7, n8, n9⟩ := hn1.out
                by_cases hkl : k < parts.length
                · obtain ⟨vb, vo, rfl, hvl, hcc⟩ := (hpw.out wy hB.out) h0.out
                  have e1 := hcc k hkl
                  clear hcc
                  have j0 : (0 : Int) ≤ (k : Int) := by omega
                  have j1 : (k : Int) < (parts.length : Int) := by omega
                  have hgd : parts.getD k 0 = parts[k] := by simp [List.getD_eq_getElem?_getD, hkl]
                  have hml := mul_lim hSO.out k; have hft := flo_tdiv hSO.out k; have hfl := flo_lim hSO.out k; have hSs := hSO.out.s
                  rw [hgd] at hml hft
                  have hfe : units * parts[k] / sumI parts = flo units parts k := by rw [← hgd]; rfl
                  have hlk := leftK_succ (units := units) (parts := parts) k
                  have hsf := sum_flo_le hSO.out k hk
                  have hlb : -1000000000000 ≤ leftK units parts k ∧ leftK units parts k ≤ 1000000000000 := by unfold leftK; have := hSO.out.u; omega
                  have hos := Lib.hid (outK_succ (units := units) (parts := parts) k)
                  have hor := Lib.hid (ordK_succ k)
                  have s0 := hs.out.cell (j := 0) rfl; have s9 := hs.out.lt; have u0 := hu.out.cell (j := 0) rfl; have u9 := hu.out.lt
                  have o1 := hO.out.cell k hkl; have o2 := hO.out.fr k; have o3 := hO.out.lt; have r1 := hR.out.cell k hkl; have r2 := hR.out.fr k; have r3 := hR.out.lt
                  generalize outK units parts k k = ov at o1
                  generalize ordK k k = rv at r1
                  obtain ⟨f, hf⟩ : ∃ f, f = flo units parts k := ⟨_, rfl⟩
                  rw [← hf] at hft hfl hfe hlk hos
                  have hB2 : Hid (Below w.heap.size w ((wy.setCell ⟨ob, k, none⟩ (.int .i64 f)).setCell ⟨rb, k, none⟩ (.int .i64 (k : Int)))) := (hB.out.setCell (p := ⟨ob, k, none⟩) n8 _).setCell (p := ⟨rb, k, none⟩) n9 _
                  have hu2 : Hid (Bk ((wy.setCell ⟨ob, k, none⟩ (.int .i64 f)).setCell ⟨rb, k, none⟩ (.int .i64 (k : Int))) ub 3 [.int .i64 units]) := (hu.out.far (p := ⟨ob, k, none⟩) n2 _).far (p := ⟨rb, k, none⟩) n5 _
                  have hq2 : Hid (Bk ((wy.setCell ⟨ob, k, none⟩ (.int .i64 f)).setCell ⟨rb, k, none⟩ (.int .i64 (k : Int))) pb 24 [.slice (some ⟨vb, vo, none⟩) parts.length c]) := (hq.out.far (p := ⟨ob, k, none⟩) n3 _).far (p := ⟨rb, k, none⟩) n6 _
                  have hs2 : Hid (Bk ((wy.setCell ⟨ob, k, none⟩ (.int .i64 f)).setCell ⟨rb, k, none⟩ (.int .i64 (k : Int))) sb 3 [.int .i64 (sumI parts)]) := (hs.out.far (p := ⟨ob, k, none⟩) n4 _).far (p := ⟨rb, k, none⟩) n7 _
                  have hO2 : Hid (RoI ((wy.setCell ⟨ob, k, none⟩ (.int .i64 f)).setCell ⟨rb, k, none⟩ (.int .i64 (k : Int))) ob parts.length (outK units parts (k + 1))) := (((hO.out.set hkl f).congr fun x _ => hos.out x).grown (grown_set _ ⟨rb, k, none⟩ _) fun e => n1 (by cases e; rfl))
                  have hR2 : Hid (RoI ((wy.setCell ⟨ob, k, none⟩ (.int .i64 f)).setCell ⟨rb, k, none⟩ (.int .i64 (k : Int))) rb parts.length (ordK (k + 1))) := ((hR.out.grown (grown_set _ ⟨ob, k, none⟩ _) fun e => n1 (by cases e; rfl)).set hkl (k : Int)).congr fun x _ => hor.out x
                  generalize sumI parts = S at s0 hft hfe hSs hs2
                  generalize parts[k] = p at e1 hml hft hfe
                  have hS0 : (S == 0) = false := by rw [beq_eq_false_iff_ne]; omega
                  obtain ⟨ml0, ml1⟩ := hml
                  have hlk2 : leftK units parts k - f = leftK units parts (k + 1) := hlk.symm
                  generalize leftK units parts k = lv at hlb hlk2 ⊢
                  replace hlk := Lib.hid hlk
                  clear hsf hgd hlk hos hor
                  replace hf := Lib.hid hf
                  have n1b : rb ≠ ob := Ne.symm n1
                  go_wp2
                  exact ⟨⟨k + 1, by omega, by go_num, rfl, hB2, hu2, hq2, hs2, hO2, hR2⟩, by simp only [intOf]; omega⟩
                · obtain rfl : k = parts.length := by omega
                  have hba : Hid (Below wy.heap.size wy (wy.alloc (.cells #[.func (.func 52) #[] #[.pointer (some ⟨ub, 0, none⟩), .pointer (some ⟨pb, 0, none⟩), .pointer (some ⟨sb, 0, none⟩)]] 74))) := (Below.refl _ _).alloc (Nat.le_refl _) _
                  have hB10 := Lib.hid (hB.out.trans (hba.out.mono hB.out.size)); have hO10 := Lib.hid (hO.out.below hba.out); have hR10 : Hid (RoI (wy.alloc (.cells #[.func (.func 52) #[] #[.pointer (some ⟨ub, 0, none⟩), .pointer (some ⟨pb, 0, none⟩), .pointer (some ⟨sb, 0, none⟩)]] 74)) rb parts.length fun i => (i : Int)) := (hR.out.below hba.out).congr fun x hx => by unfold ordK; rw [if_pos hx]
                  have hf10 : Hid (Bk (wy.alloc (.cells #[.func (.func 52) #[] #[.pointer (some ⟨ub, 0, none⟩), .pointer (some ⟨pb, 0, none⟩), .pointer (some ⟨sb, 0, none⟩)]] 74)) wy.heap.size 74 [.func (.func 52) #[] #[.pointer (some ⟨ub, 0, none⟩), .pointer (some ⟨pb, 0, none⟩), .pointer (some ⟨sb, 0, none⟩)]]) := Bk.new _ _ _
                  have hfb : Hid (wy.heap.size ≠ rb) := by have := hR.out.lt; show _ ≠ _; omega
                  have hSp : Hid (SpIn (wy.alloc (.cells #[.func (.func 52) #[] #[.pointer (some ⟨ub, 0, none⟩), .pointer (some ⟨pb, 0, none⟩), .pointer (some ⟨sb, 0, none⟩)]] 74)) ub pb sb wy.heap.size units A c parts) := ⟨(hu.out.below hba.out).cell (j := 0) rfl, (hq.out.below hba.out).cell (j := 0) rfl, (hs.out.below hba.out).cell (j := 0) rfl, hf10.out.cell (j := 0) rfl, hpw.out _ hB10.out⟩
                  have ks := Lib.hid (sortS_any (rem units parts) ub pb sb wy.heap.size rb parts.length c units A parts (wy.alloc (.cells #[.func (.func 52) #[] #[.pointer (some ⟨ub, 0, none⟩), .pointer (some ⟨pb, 0, none⟩), .pointer (some ⟨sb, 0, none⟩)]] 74)) hSp.out hSO.out h80 hR10.out n5 n6 n7 hfb.out (fun b o e => (hAo.out b o e).2) rfl)
                  have hnx := hf10.out.lt
                  clear hba hR10 hSp hu hq hs hR
                  go_wp2_with fail
                  refine ks.out.mono ?_
                  rintro e w11 ⟨rfl, ⟨l', hSr, hlc⟩, hK⟩
                  have hB11 : Hid (Below w.heap.size w w11) := hK.to_below hB10.out fun x hx => by simp at hx; rw [hx]; exact n9
                  have hO11 : Hid (RoI w11 ob parts.length (addK units parts l' 0)) := (hO10.out.of_block hK.size (hK.block ob hO10.out.lt (by simpa using n1))).congr fun x hx => by rw [addK_zero]; unfold outK; rw [if_pos hx]
                  have hll : l'.length = parts.length := hSr.len
                  have hlc2 : Hid (∀ j (hj : j < l'.length), w11.cell? ⟨rb, j, none⟩ = some (.int .i64 (l'[j] : Int))) := hlc
                  have hrl : Hid (rb < w11.heap.size) := Nat.lt_of_lt_of_le (by have := hnx; have := n9; exact World.block_lt_of_cell? w11 _ (hlc 0 (by rw [hll]; exact h0.out))) (Nat.le_refl _)
                  have hnd : Hid (l'.Nodup) := hSr.2.imp fun {x y} h e => by subst e; exact bef_asymm h h
                  obtain ⟨q, hqe⟩ : ∃ q : Nat, q = (leftS units parts).toNat := ⟨_, rfl⟩
                  have hlbs := left_bounds hSO.out
                  have hlq : leftK units parts parts.length = (q : Int) := by rw [hqe]; show leftS units parts = _; omega
                  have hqn : q ≤ parts.length := by omega
                  have hall : Hid (∀ x, x < parts.length → addK units parts l' q x = flo units parts x + incS units parts x) := fun x hx => by rw [hqe]; exact addK_all hSO.out hSr hx
                  rw [hlq]
                  replace hqe := Lib.hid hqe; replace hlq := Lib.hid hlq
                  have hfl := Lib.hid (fun i => flo_lim hSO.out i)
                  clear hlbs hK hlc hO10 hB10 hf10 hfb ks hnx hO hB
                  have k0 : (0 : Int) ≤ (q : Int) := by omega
                  have k1 : (q : Int) ≤ (parts.length : Int) := by omega
                  have k2 : q ≤ parts.length := hqn
                  replace hll := Lib.hid hll; replace hSr := Lib.hid hSr
                  go_wp2
                  go_loopw [16, 89] (fun _ ix wr => ∃ (j : Nat), j ≤ q ∧ ix = .int .i64 (j : Int) ∧ Hid (Below w.heap.size w wr) ∧ Hid (RoI wr ob parts.length (addK units parts l' j)) ∧ Hid (∀ i (hi : i < l'.length), wr.cell? ⟨rb, i, none⟩ = some (.int .i64 (l'[i] : Int))) ∧ Hid (rb < wr.heap.size)) (fun _ ix _ => q - (intOf ix).toNat)
                  case atStart => exact ⟨0, Nat.zero_le _, rfl, hB11, hO11, hlc2, hrl⟩
                  case round =>
                    clear hB11 hO11 hlc2 hrl
                    obtain ⟨j, hj, rfl, hB, hO, hl, hr⟩ := hrel
                    obtain ⟨wx, rfl⟩ : ∃ z, z = wr := ⟨_, rfl⟩
                    by_cases hjq : j < q
                    · have hjl : j < l'.length := by have := hll.out; omega
                      have e1 := hl.out j hjl; have e9 := hr.out
                      have hxn : l'[j] < parts.length := hSr.out.mem.1 (List.getElem_mem hjl)
                      have hsc := Lib.hid (addK_succ (units := units) (parts := parts) hnd.out hjl)
                      have hxl : 0 ≤ addK units parts l' j l'[j] ∧ addK units parts l' j l'[j] ≤ 1000000000000000001 := by have := hfl.out l'[j]; unfold addK; split <;> omega
                      generalize l'[j] = x at e1 hxn hsc hxl
                      have o1 := hO.out.cell x hxn; have o2 := hO.out.fr x; have o9 := hO.out.lt
                      obtain ⟨av, hav⟩ : ∃ v, v = addK units parts l' j x := ⟨_, rfl⟩
                      rw [← hav] at o1 hsc hxl
                      replace hav := Lib.hid hav
                      have j0 : (0 : Int) ≤ (j : Int) := by omega
                      have j1 : (j : Int) < (q : Int) := by omega
                      have x0 : (0 : Int) ≤ (x : Int) := by omega
                      have x1 : (x : Int) < (parts.length : Int) := by omega
                      have hB2 : Hid (Below w.heap.size w (wx.setCell ⟨ob, x, none⟩ (.int .i64 (av + 1)))) := hB.out.setCell (p := ⟨ob, x, none⟩) n8 _
                      have hO2 : Hid (RoI (wx.setCell ⟨ob, x, none⟩ (.int .i64 (av + 1))) ob parts.length (addK units parts l' (j + 1))) := (hO.out.set hxn (av + 1)).congr fun y _ => hsc.out y
                      have hl2 : Hid (∀ i (hi : i < l'.length), (wx.setCell ⟨ob, x, none⟩ (.int .i64 (av + 1))).cell? ⟨rb, i, none⟩ = some (.int .i64 (l'[i] : Int))) := fun i hi => by rw [World.cell?_setCell_other _ _ _ _ (fun e => by injection e with e1 _; first | exact n1 e1 | exact n1 e1.symm)]; exact hl.out i hi
                      have hr2 : Hid (rb < (wx.setCell ⟨ob, x, none⟩ (.int .i64 (av + 1))).heap.size) := by have := hr.out; show rb < _; simpa using this
                      clear hsc
                      go_wp2
                      exact ⟨⟨j + 1, by omega, by go_num, hB2, hO2, hl2, hr2⟩, by simp only [intOf]; omega⟩
                    · obtain rfl : j = q := by omega
                      have hOf : Hid (RoI wx ob parts.length fun i => flo units parts i + incS units parts i) := hO.out.congr fun x hx => hall.out x hx
                      clear hall hO hl hfl
                      go_wp2
                      go_ret2
                      exact hPy.out _ _ ob hsok.out rfl hOf.out hB.out
            · skip
              have hb7 : Hid (Below wz.heap.size wz ((wz.alloc (.cells (madeCells #[.int .i64 0] parts.length) 3)).alloc (.cells (madeCells #[.int .i64 0] parts.length) 3)).drew) := (((Below.refl _ wz).alloc (Nat.le_refl _) _).alloc (by simp) _).drew
              have hz1 : Hid (RoI ((wz.alloc (.cells (madeCells #[.int .i64 0] parts.length) 3)).alloc (.cells (madeCells #[.int .i64 0] parts.length) 3)).drew wz.heap.size parts.length fun _ => 0) := ((RoI.made wz parts.length 3).below ((Below.refl _ _).alloc (Nat.le_refl _) _)).below (Below.refl _ _).drew
              have hz2 : Hid (RoI ((wz.alloc (.cells (madeCells #[.int .i64 0] parts.length) 3)).alloc (.cells (madeCells #[.int .i64 0] parts.length) 3)).drew (wz.heap.size + 1) parts.length fun _ => 0) := by have h := (RoI.made (wz.alloc (.cells (madeCells #[.int .i64 0] parts.length) 3)) parts.length 3).below (Below.refl _ _).drew; rw [World.size_alloc] at h; exact h
              have hl1 := hu.out.lt; have hl2 := hq.out.lt; have hl3 := hs.out.lt
              obtain ⟨rb, hrb⟩ : ∃ x, x = wz.heap.size := ⟨_, rfl⟩; obtain ⟨ob, hob⟩ : ∃ x, x = wz.heap.size + 1 := ⟨_, rfl⟩
              rw [← hob] at hz2 ⊢
              rw [← hrb] at hz1 ⊢
              have hO7 : Hid (RoI ((wz.alloc (.cells (madeCells #[.int .i64 0] parts.length) 3)).alloc (.cells (madeCells #[.int .i64 0] parts.length) 3)).drew ob parts.length (outK units parts 0)) := hz2.out.congr fun x _ => by unfold outK; rw [if_neg (Nat.not_lt_zero _)]
              have hR7 : Hid (RoI ((wz.alloc (.cells (madeCells #[.int .i64 0] parts.length) 3)).alloc (.cells (madeCells #[.int .i64 0] parts.length) 3)).drew rb parts.length (ordK 0)) := hz1.out.congr fun x _ => by unfold ordK; rw [if_neg (Nat.not_lt_zero _)]
              have hn1 : Hid (ob ≠ rb ∧ ub ≠ ob ∧ pb ≠ ob ∧ sb ≠ ob ∧ ub ≠ rb ∧ pb ≠ rb ∧ sb ≠ rb ∧ w.heap.size ≤ ob ∧ w.heap.size ≤ rb) := by have := hB.out.size; refine ⟨?_, ?_, ?_, ?_, ?_, ?_, ?_, ?_, ?_⟩ <;> omega
              have hAo : Hid (∀ b o, A = some ⟨b, o, none⟩ → b ≠ ob ∧ b ≠ rb) := fun b o e => by have := hA.out b o e h0.out; have := hB.out.size; constructor <;> omega
              have hB7 := Lib.hid (hB.out.trans (hb7.out.mono hB.out.size)); have hu7 := Lib.hid (hu.out.below hb7.out); have hq7 := Lib.hid (hq.out.below hb7.out); have hs7 := Lib.hid (hs.out.below hb7.out)
              replace hrb := Lib.hid hrb; replace hob := Lib.hid hob
              clear hz1 hz2 hl1 hl2 hl3 hb7 hB hu hq hs hsl s0 s9 u0 u9 q0 q9 hmk hBd hcs
              have q0 := hq7.out.cell (j := 0) rfl; have q9 := hq7.out.lt
              have hlk0 : Hid (units = leftK units parts 0) := by unfold leftK; show _ = units - sumI []; rw [sumI_nil]; omega
              go_wp2
              clear q0 q9
              go_loopw [11, 12, 13, 57] (fun lx _ _ ix wr => ∃ (k : Nat), k ≤ parts.length ∧ ix = .int .i64 (k : Int) ∧ lx = .int .i64 (leftK units parts k) ∧ Hid (Below w.heap.size w wr) ∧ Hid (Bk wr ub 3 [.int .i64 units]) ∧ Hid (Bk wr pb 24 [.slice A parts.length c]) ∧ Hid (Bk wr sb 3 [.int .i64 (sumI parts)]) ∧ Hid (RoI wr ob parts.length (outK units parts k)) ∧ Hid (RoI wr rb parts.length (ordK k))) (fun _ _ _ ix _ => parts.length - (intOf ix).toNat)
              case atStart => exact ⟨0, Nat.zero_le _, rfl, by rw [← hlk0.out], hB7, hu7, hq7, hs7, hO7, hR7⟩
              case round =>
                clear hB7 hu7 hq7 hs7 hO7 hR7 hlk0
                obtain ⟨k, hk, rfl, rfl, hB, hu, hq, hs, hO, hR⟩ := hrel
                obtain ⟨wy, rfl⟩ : ∃ z, z = wr := ⟨_, rfl⟩
                obtain ⟨n1, n2, n3, n4, n5, n6, n7, n8, n9⟩ := hn1.out
                by_cases hkl : k < parts.length
                · obtain ⟨vb, vo, rfl, hvl, hcc⟩ := (hpw.out wy hB.out) h0.out
                  have e1 := hcc k hkl
                  clear hcc
                  have j0 : (0 : Int) ≤ (k : Int) := by omega
                  have j1 : (k : Int) < (parts.length : Int) := by omega
                  have hgd : parts.getD k 0 = parts[k] := by simp [List.getD_eq_getElem?_getD, hkl]
                  have hml := mul_lim hSO.out k; have hft := flo_tdiv hSO.out k; have hfl := flo_lim hSO.out k; have hSs := hSO.out.s
                  rw [hgd] at hml hft
                  have hfe : units * parts[k] / sumI parts = flo units parts k := by rw [← hgd]; rfl
                  have hlk := leftK_succ (units := units) (parts := parts) k
                  have hsf := sum_flo_le hSO.out k hk
                  have hlb : -1000000000000 ≤ leftK units parts k ∧ leftK units parts k ≤ 1000000000000 := by unfold leftK; have := hSO.out.u; omega
                  have hos := Lib.hid (outK_succ (units := units) (parts := parts) k)
                  have hor := Lib.hid (ordK_succ k)
                  have s0 := hs.out.cell (j := 0) rfl; have s9 := hs.out.lt; have u0 := hu.out.cell (j := 0) rfl; have u9 := hu.out.lt
                  have o1 := hO.out.cell k hkl; have o2 := hO.out.fr k; have o3 := hO.out.lt; have r1 := hR.out.cell k hkl; have r2 := hR.out.fr k; have r3 := hR.out.lt
                  generalize outK units parts k k = ov at o1
                  generalize ordK k k = rv at r1
                  obtain ⟨f, hf⟩ : ∃ f, f = flo units parts k := ⟨_, rfl⟩
                  rw [← hf] at hft hfl hfe hlk hos
                  have hB2 : Hid (Below w.heap.size w ((wy.setCell ⟨ob, k, none⟩ (.int .i64 f)).setCell ⟨rb, k, none⟩ (.int .i64 (k : Int)))) := (hB.out.setCell (p := ⟨ob, k, none⟩) n8 _).setCell (p := ⟨rb, k, none⟩) n9 _
                  have hu2 : Hid (Bk ((wy.setCell ⟨ob, k, none⟩ (.int .i64 f)).setCell ⟨rb, k, none⟩ (.int .i64 (k : Int))) ub 3 [.int .i64 units]) := (hu.out.far (p := ⟨ob, k, none⟩) n2 _).far (p := ⟨rb, k, none⟩) n5 _
                  have hq2 : Hid (Bk ((wy.setCell ⟨ob, k, none⟩ (.int .i64 f)).setCell ⟨rb, k, none⟩ (.int .i64 (k : Int))) pb 24 [.slice (some ⟨vb, vo, none⟩) parts.length c]) := (hq.out.far (p := ⟨ob, k, none⟩) n3 _).far (p := ⟨rb, k, none⟩) n6 _
                  have hs2 : Hid (Bk ((wy.setCell ⟨ob, k, none⟩ (.int .i64 f)).setCell ⟨rb, k, none⟩ (.int .i64 (k : Int))) sb 3 [.int .i64 (sumI parts)]) := (hs.out.far (p := ⟨ob, k, none⟩) n4 _).far (p := ⟨rb, k, none⟩) n7 _
                  have hO2 : Hid (RoI ((wy.setCell ⟨ob, k, none⟩ (.int .i64 f)).setCell ⟨rb, k, none⟩ (.int .i64 (k : Int))) ob parts.length (outK units parts (k + 1))) := (((hO.out.set hkl f).congr fun x _ => hos.out x).grown (grown_set _ ⟨rb, k, none⟩ _) fun e => n1 (by cases e; rfl))
                  have hR2 : Hid (RoI ((wy.setCell ⟨ob, k, none⟩ (.int .i64 f)).setCell ⟨rb, k, none⟩ (.int .i64 (k : Int))) rb parts.length (ordK (k + 1))) := ((hR.out.grown (grown_set _ ⟨ob, k, none⟩ _) fun e => n1 (by cases e; rfl)).set hkl (k : Int)).congr fun x _ => hor.out x
                  generalize sumI parts = S at s0 hft hfe hSs hs2
                  generalize parts[k] = p at e1 hml hft hfe
                  have hS0 : (S == 0) = false := by rw [beq_eq_false_iff_ne]; omega
                  obtain ⟨ml0, ml1⟩ := hml
                  have hlk2 : leftK units parts k - f = leftK units parts (k + 1) := hlk.symm
                  generalize leftK units parts k = lv at hlb hlk2 ⊢
                  replace hlk := Lib.hid hlk
                  clear hsf hgd hlk hos hor
                  replace hf := Lib.hid hf
                  have n1b : rb ≠ ob := Ne.symm n1
                  go_wp2
                  exact ⟨⟨k + 1, by omega, by go_num, rfl, hB2, hu2, hq2, hs2, hO2, hR2⟩, by simp only [intOf]; omega⟩
                · obtain rfl : k = parts.length := by omega
                  have hba : Hid (Below wy.heap.size wy (wy.alloc (.cells #[.func (.func 52) #[] #[.pointer (some ⟨ub, 0, none⟩), .pointer (some ⟨pb, 0, none⟩), .pointer (some ⟨sb, 0, none⟩)]] 74))) := (Below.refl _ _).alloc (Nat.le_refl _) _
                  have hB10 := Lib.hid (hB.out.trans (hba.out.mono hB.out.size)); have hO10 := Lib.hid (hO.out.below hba.out); have hR10 : Hid (RoI (wy.alloc (.cells #[.func (.func 52) #[] #[.pointer (some ⟨ub, 0, none⟩), .pointer (some ⟨pb, 0, none⟩), .pointer (some ⟨sb, 0, none⟩)]] 74)) rb parts.length fun i => (i : Int)) := (hR.out.below hba.out).congr fun x hx => by unfold ordK; rw [if_pos hx]
                  have hf10 : Hid (Bk (wy.alloc (.cells #[.func (.func 52) #[] #[.pointer (some ⟨ub, 0, none⟩), .pointer (some ⟨pb, 0, none⟩), .pointer (some ⟨sb, 0, none⟩)]] 74)) wy.heap.size 74 [.func (.func 52) #[] #[.pointer (some ⟨ub, 0, none⟩), .pointer (some ⟨pb, 0, none⟩), .pointer (some ⟨sb, 0, none⟩)]]) := Bk.new _ _ _
                  have hfb : Hid (wy.heap.size ≠ rb) := by have := hR.out.lt; show _ ≠ _; omega
                  have hSp : Hid (SpIn (wy.alloc (.cells #[.func (.func 52) #[] #[.pointer (some ⟨ub, 0, none⟩), .pointer (some ⟨pb, 0, none⟩), .pointer (some ⟨sb, 0, none⟩)]] 74)) ub pb sb wy.heap.size units A c parts) := ⟨(hu.out.below hba.out).cell (j := 0) rfl, (hq.out.below hba.out).cell (j := 0) rfl, (hs.out.below hba.out).cell (j := 0) rfl, hf10.out.cell (j := 0) rfl, hpw.out _ hB10.out⟩
                  have ks := Lib.hid (sortS_any (rem units parts) ub pb sb wy.heap.size rb parts.length c units A parts (wy.alloc (.cells #[.func (.func 52) #[] #[.pointer (some ⟨ub, 0, none⟩), .pointer (some ⟨pb, 0, none⟩), .pointer (some ⟨sb, 0, none⟩)]] 74)) hSp.out hSO.out h80 hR10.out n5 n6 n7 hfb.out (fun b o e => (hAo.out b o e).2) rfl)
                  have hnx := hf10.out.lt
                  clear hba hR10 hSp hu hq hs hR
                  go_wp2_with fail
                  refine ks.out.mono ?_
                  rintro e w11 ⟨rfl, ⟨l', hSr, hlc⟩, hK⟩
                  have hB11 : Hid (Below w.heap.size w w11) := hK.to_below hB10.out fun x hx => by simp at hx; rw [hx]; exact n9
                  have hO11 : Hid (RoI w11 ob parts.length (addK units parts l' 0)) := (hO10.out.of_block hK.size (hK.block ob hO10.out.lt (by simpa using n1))).congr fun x hx => by rw [addK_zero]; unfold outK; rw [if_pos hx]
                  have hll : l'.length = parts.length := hSr.len
                  have hlc2 : Hid (∀ j (hj : j < l'.length), w11.cell? ⟨rb, j, none⟩ = some (.int .i64 (l'[j] : Int))) := hlc
                  have hrl : Hid (rb < w11.heap.size) := Nat.lt_of_lt_of_le (by have := hnx; have := n9; exact World.block_lt_of_cell? w11 _ (hlc 0 (by rw [hll]; exact h0.out))) (Nat.le_refl _)
                  have hnd : Hid (l'.Nodup) := hSr.2.imp fun {x y} h e => by subst e; exact bef_asymm h h
                  obtain ⟨q, hqe⟩ : ∃ q : Nat, q = (leftS units parts).toNat := ⟨_, rfl⟩
                  have hlbs := left_bounds hSO.out
                  have hlq : leftK units parts parts.length = (q : Int) := by rw [hqe]; show leftS units parts = _; omega
                  have hqn : q ≤ parts.length := by omega
                  have hall : Hid (∀ x, x < parts.length → addK units parts l' q x = flo units parts x + incS units parts x) := fun x hx => by rw [hqe]; exact addK_all hSO.out hSr hx
                  rw [hlq]
                  replace hqe := Lib.hid hqe; replace hlq := Lib.hid hlq
                  have hfl := Lib.hid (fun i => flo_lim hSO.out i)
                  clear hlbs hK hlc hO10 hB10 hf10 hfb ks hnx hO hB
                  have k0 : (0 : Int) ≤ (q : Int) := by omega
                  have k1 : (q : Int) ≤ (parts.length : Int) := by omega
                  have k2 : q ≤ parts.length := hqn
                  replace hll := Lib.hid hll; replace hSr := Lib.hid hSr
                  go_wp2
                  go_loopw [16, 89] (fun _ ix wr => ∃ (j : Nat), j ≤ q ∧ ix = .int .i64 (j : Int) ∧ Hid (Below w.heap.size w wr) ∧ Hid (RoI wr ob parts.length (addK units parts l' j)) ∧ Hid (∀ i (hi : i < l'.length), wr.cell? ⟨rb, i, none⟩ = some (.int .i64 (l'[i] : Int))) ∧ Hid (rb < wr.heap.size)) (fun _ ix _ => q - (intOf ix).toNat)
                  case atStart => exact ⟨0, Nat.zero_le _, rfl, hB11, hO11, hlc2, hrl⟩
                  case round =>
                    clear hB11 hO11 hlc2 hrl
                    obtain ⟨j, hj, rfl, hB, hO, hl, hr⟩ := hrel
                    obtain ⟨wx, rfl⟩ : ∃ z, z = wr := ⟨_, rfl⟩
                    by_cases hjq : j < q
                    · have hjl : j < l'.length := by have := hll.out; omega
                      have e1 := hl.out j hjl; have e9 := hr.out
                      have hxn : l'[j] < parts.length := hSr.out.mem.1 (List.getElem_mem hjl)
                      have hsc := Lib.hid (addK_succ (units := units) (parts := parts) hnd.out hjl)
                      have hxl : 0 ≤ addK units parts l' j l'[j] ∧ addK units parts l' j l'[j] ≤ 1000000000000000001 := by have := hfl.out l'[j]; unfold addK; split <;> omega
                      generalize l'[j] = x at e1 hxn hsc hxl
                      have o1 := hO.out.cell x hxn; have o2 := hO.out.fr x; have o9 := hO.out.lt
                      obtain ⟨av, hav⟩ : ∃ v, v = addK units parts l' j x := ⟨_, rfl⟩
                      rw [← hav] at o1 hsc hxl
                      replace hav := Lib.hid hav
                      have j0 : (0 : Int) ≤ (j : Int) := by omega
                      have j1 : (j : Int) < (q : Int) := by omega
                      have x0 : (0 : Int) ≤ (x : Int) := by omega
                      have x1 : (x : Int) < (parts.length : Int) := by omega
                      have hB2 : Hid (Below w.heap.size w (wx.setCell ⟨ob, x, none⟩ (.int .i64 (av + 1)))) := hB.out.setCell (p := ⟨ob, x, none⟩) n8 _
                      have hO2 : Hid (RoI (wx.setCell ⟨ob, x, none⟩ (.int .i64 (av + 1))) ob parts.length (addK units parts l' (j + 1))) := (hO.out.set hxn (av + 1)).congr fun y _ => hsc.out y
                      have hl2 : Hid (∀ i (hi : i < l'.length), (wx.setCell ⟨ob, x, none⟩ (.int .i64 (av + 1))).cell? ⟨rb, i, none⟩ = some (.int .i64 (l'[i] : Int))) := fun i hi => by rw [World.cell?_setCell_other _ _ _ _ (fun e => by injection e with e1 _; first | exact n1 e1 | exact n1 e1.symm)]; exact hl.out i hi
                      have hr2 : Hid (rb < (wx.setCell ⟨ob, x, none⟩ (.int .i64 (av + 1))).heap.size) := by have := hr.out; show rb < _; simpa using this
                      clear hsc
                      go_wp2
                      exact ⟨⟨j + 1, by omega, by go_num, hB2, hO2, hl2, hr2⟩, by simp only [intOf]; omega⟩
                    · obtain rfl : j = q := by omega
                      have hOf : Hid (RoI wx ob parts.length fun i => flo units parts i + incS units parts i) := hO.out.congr fun x hx => hall.out x hx
                      clear hall hO hl hfl
                      go_wp2
                      go_ret2
                      exact hPy.out _ _ ob hsok.out rfl hOf.out hB.out
end Mo
end Go.Proofs.YtpmlhgmmobpilaaGreatDoor

namespace Go.Proofs.YtpmlhgmmobpilaaGreatDoor
open Go.RowKit Go.Shelf
namespace Mo
open Nt Ci
set_option maxRecDepth 100000 in
set_option maxHeartbeats 4000000 in
theorem Ints8_any (A B : Option Addr) (ca cb : Nat) (a b : List Int) (w : World) (hA : InInt w A a) (hB : InInt w B b) (ha : a.length ≤ 140737488355328) :
    Calls Tryz.prog 16 #[.slice A a.length ca, .slice B b.length cb] w fun e w' => e = .returned (.bool (decide (a = b))) ∧ ∃ q, w' = w.drewN q := by
  by_cases hl : a.length = b.length
  · have hN := Lib.hid (fun (k : Nat) (h1 : k < a.length) (h2 : k < b.length) => ints_ne (a := a) (b := b) h1 h2)
    have hY := Lib.hid (ints_eq (a := a) (b := b) hl)
    rw [← hl]
    have m1 : ((a.length : Int) != (a.length : Int)) = false := by simp
    replace hl := Lib.hid hl
    replace hA := Lib.hid hA
    replace hB := Lib.hid hB
    go_enter Tryz.func16, Tryz.ntmps16
    go_wp2
    go_loopw [5] (fun i wr => ∃ k q : Nat, k ≤ a.length ∧ i = .int .i64 (k : Int) ∧ wr = w.drewN q ∧ Hid (∀ j (h1 : j < a.length) (h2 : j < b.length), j < k → a[j] = b[j])) (fun i _ => a.length - (intOf i).toNat)
    case atStart => exact ⟨0, 0, Nat.zero_le _, rfl, rfl, fun j _ _ h => absurd h (Nat.not_lt_zero _)⟩
    case round =>
      obtain ⟨k, q, hk, rfl, rfl, hI⟩ := hrel
      by_cases hlt : k < a.length
      · have hlb : k < b.length := by rw [← hl.out]; exact hlt
        obtain ⟨b1, o1, rfl, hb1, hc1⟩ := hA.out (by omega)
        obtain ⟨b2, o2, rfl, hb2, hc2⟩ := hB.out (by omega)
        have e1 : (w.drewN q).cell? ⟨b1, o1 + k, none⟩ = some (.int .i64 a[k]) := hc1 k hlt
        have e2 : (w.drewN q).cell? ⟨b2, o2 + k, none⟩ = some (.int .i64 b[k]) := hc2 k hlb
        have hNk := Lib.hid (hN.out k hlt hlb)
        have hIk : Hid (a[k] = b[k] → ∀ j (h1 : j < a.length) (h2 : j < b.length), j < k + 1 → a[j] = b[j]) := fun h j h1 h2 h3 => by
          by_cases e : j = k
          · subst e; exact h
          · exact hI.out j h1 h2 (by omega)
        obtain ⟨x, hx⟩ : ∃ x, x = a[k] := ⟨_, rfl⟩
        obtain ⟨y, hy⟩ : ∃ y, y = b[k] := ⟨_, rfl⟩
        rw [← hx] at e1 hNk hIk
        rw [← hy] at e2 hNk hIk
        have j0 : (0 : Int) ≤ (k : Int) := by omega
        have j1 : (k : Int) < (a.length : Int) := by omega
        clear hc1 hc2 hI hx hy
        generalize hwq : w.drewN q = wq at *
        replace hwq := Lib.hid hwq
        by_cases hxy : x = y
        · have m2 : (x != y) = false := by rw [bne_eq_false_iff_eq]; exact hxy
          have hI2 := Lib.hid (hIk.out hxy)
          replace hxy := Lib.hid hxy
          go_wp2_with fail
          go_quiet (fail)
          go_wp2
          refine ⟨⟨k + 1, q + nq, by omega, by go_num, by rw [← hwq.out, World.drewN_drewN], hI2⟩, by simp only [intOf]; omega⟩
        · have m2 : (x != y) = true := by rw [bne_iff_ne]; exact hxy
          have hG := Lib.hid (hNk.out hxy)
          replace hxy := Lib.hid hxy
          go_wp2_with fail
          go_quiet (fail)
          go_wp2
          go_ret
          exact ⟨ret_bool hG.out.symm, q + nq, by rw [← hwq.out, World.drewN_drewN]⟩
      · obtain rfl : k = a.length := by omega
        have hG := Lib.hid (hY.out fun j h1 h2 => hI.out j h1 h2 h1)
        generalize hwq : w.drewN q = wq at *
        replace hwq := Lib.hid hwq
        go_wp2
        go_ret
        exact ⟨ret_bool hG.out.symm, q, hwq.out.symm⟩
  · have hG : Hid (decide (a = b) = false) := decide_eq_false fun e => hl (by rw [e])
    have h1 : ((a.length : Int) == (b.length : Int)) = false := by rw [beq_eq_false_iff_ne]; omega
    have h2 : ((a.length : Int) != (b.length : Int)) = true := by rw [bne_iff_ne]; omega
    have h3 : (a.length == b.length) = false := by rw [beq_eq_false_iff_ne]; exact hl
    clear hA hB
    go_enter Tryz.func16, Tryz.ntmps16
    go_wp2
    go_ret
    exact ⟨ret_bool hG.out.symm, 0, rfl⟩
end Mo
end Go.Proofs.YtpmlhgmmobpilaaGreatDoor

/- Texts that the proof needs: CoG, LawCoMatchM. -/
import Derived.Test.YtpmlhgmmobpilaaGreatDoorKcA
import Derived.Test.YtpmlhgmmobpilaaGreatDoorKcB
import Derived.Test.YtpmlhgmmobpilaaGreatDoorKcC
import Derived.Test.YtpmlhgmmobpilaaGreatDoorKcD
import Derived.Test.YtpmlhgmmobpilaaGreatDoorKcE
import Derived.Test.YtpmlhgmmobpilaaGreatDoorKcF
import Derived.Test.YtpmlhgmmobpilaaGreatDoorKcG
import Derived.Test.YtpmlhgmmobpilaaGreatDoorKcH
import Derived.Test.YtpmlhgmmobpilaaGreatDoorKcI
import Derived.Test.YtpmlhgmmobpilaaGreatDoorKcJ
import Derived.Test.YtpmlhgmmobpilaaGreatDoorKcK
import Derived.Test.YtpmlhgmmobpilaaGreatDoorKcL
import Derived.Test.YtpmlhgmmobpilaaGreatDoorKcM
import Derived.Test.YtpmlhgmmobpilaaGreatDoorKcN
namespace Go.Proofs.YtpmlhgmmobpilaaGreatDoor
open Go.RowKit Go.Shelf Go.Sort
namespace St
section
variable {α : Type} {key : α → Int} {pos : α → Nat}
/-- Not behind. -/
def Lek (key : α → Int) (pos : α → Nat) (x y : α) : Prop := kLt key pos y x = false
theorem lek_iff {x y : α} : Lek key pos x y ↔ key x < key y ∨ (key x = key y ∧ pos x ≤ pos y) := by
  unfold Lek kLt
  rw [decide_eq_false_iff_not]
  omega
theorem lek_trn : Trn (Lek key pos) := fun x y z h1 h2 => by
  rw [lek_iff] at h1 h2 ⊢
  omega
end
section
variable {α : Type} [Inhabited α] {key : α → Int} {pos : α → Nat} {lt : α → α → Bool} {d d' d0 : Array α} {n a b B : Nat}
/-- While the blocks of 20 are put in order. -/
structure InSt (key : α → Int) (pos : α → Nat) (n a : Nat) (d0 d : Array α) : Prop where
  perm : PermIn 0 n d0 d
  sz : d.size = n
  sep : ∀ i j, i / 20 < j / 20 → j < n → pos d[i]! < pos d[j]!
  asc : ∀ i j, a ≤ i → i < j → j < n → pos d[i]! < pos d[j]!
  done : ∀ i j, i < j → j < a → j < n → i / 20 = j / 20 → Lek key pos d[i]! d[j]!
/-- While blocks of B are merged. -/
structure BSt (key : α → Int) (pos : α → Nat) (B n a : Nat) (d0 d : Array α) : Prop where
  perm : PermIn 0 n d0 d
  sz : d.size = n
  sep2 : ∀ i j, i / (2 * B) < j / (2 * B) → j < n → pos d[i]! < pos d[j]!
  sep : ∀ i j, a ≤ i → i / B < j / B → j < n → pos d[i]! < pos d[j]!
  srt : ∀ i j, a ≤ i → i < j → j < n → i / B = j / B → Lek key pos d[i]! d[j]!
  done : ∀ i j, i < j → j < a → j < n → i / (2 * B) = j / (2 * B) → Lek key pos d[i]! d[j]!
theorem InSt.start (hs : d.size = n) (h : ∀ i j, i < j → j < n → pos d[i]! < pos d[j]!) : InSt key pos n 0 d d :=
  ⟨permIn_refl _ _ _, hs, fun i j h1 h2 => h i j (by omega) h2, fun i j _ h1 h2 => h i j h1 h2, fun i j _ h1 _ _ => absurd h1 (Nat.not_lt_zero _)⟩
/-- A relation of all pairs of two parts is kept where one of them is laid anew. -/
theorem pair_perm {P : α → α → Prop} (hp : PermIn a b d d') (hb : b ≤ d.size) {i j : Nat} (hij : ¬ (a ≤ i ∧ i < b ∧ a ≤ j ∧ j < b)) (h : ∀ i' j', (i' = i ∨ (a ≤ i ∧ i < b ∧ a ≤ i' ∧ i' < b)) → (j' = j ∨ (a ≤ j ∧ j < b ∧ a ≤ j' ∧ j' < b)) → P d[i']! d[j']!) : P d'[i]! d'[j]! := by
  by_cases ci : a ≤ i ∧ i < b
  · have ej : d'[j]! = d[j]! := hp.2.1 j (by omega)
    rw [ej]
    exact permIn_all d d' a b (fun u => P u d[j]!) hb hp (fun k h1 h2 => h k j (.inr ⟨ci.1, ci.2, h1, h2⟩) (.inl rfl)) i ci.1 ci.2
  · have ei : d'[i]! = d[i]! := hp.2.1 i (by omega)
    rw [ei]
    by_cases cj : a ≤ j ∧ j < b
    · exact permIn_all d d' a b (fun u => P d[i]! u) hb hp (fun k h1 h2 => h i k (.inl rfl) (.inr ⟨cj.1, cj.2, h1, h2⟩)) j cj.1 cj.2
    · have ej : d'[j]! = d[j]! := hp.2.1 j (by omega)
      rw [ej]
      exact h i j (.inl rfl) (.inl rfl)
theorem InSt.step (h : InSt key pos n a d0 d) (ha : a % 20 = 0) (hab : a ≤ b) (hb : b ≤ n) (hb2 : b ≤ a + 20) (hp : PermIn a b d d') (hs : SortedIn (kLt key pos) a b d') (_hbl : b = a + 20 ∨ b = n) : InSt key pos n b d0 d' := by
  have hsz := h.sz
  refine ⟨permIn_trans _ _ _ 0 n h.perm (permIn_mono _ _ a b 0 n (Nat.zero_le _) hb (by omega) hp), hp.1.trans hsz, fun i j h1 h2 => ?_, fun i j h1 h2 h3 => ?_, fun i j h1 h2 h3 h4 => ?_⟩
  · refine pair_perm (P := fun x y => pos x < pos y) hp (by omega) (by omega) fun i' j' hi hj => h.sep i' j' ?_ ?_
    · omega
    · omega
  · rw [hp.2.1 i (.inr h1), hp.2.1 j (.inr (by omega))]
    exact h.asc i j (by omega) h2 h3
  · by_cases c : j < a
    · rw [hp.2.1 i (.inl (by omega)), hp.2.1 j (.inl c)]
      exact h.done i j h1 c h3 h4
    · exact hs i j (by omega) h1 h2
theorem InSt.toB (h : InSt key pos n n d0 d) : BSt key pos 20 n 0 d0 d :=
  ⟨h.perm, h.sz, fun i j h1 h2 => h.sep i j (by omega) h2, fun i j _ h1 h2 => h.sep i j h1 h2, fun i j _ h1 h2 h3 => h.done i j h1 h2 h2 h3, fun i j _ h1 _ _ => absurd h1 (Nat.not_lt_zero _)⟩
theorem BSt.parts (h : BSt key pos B n a d0 d) (hB : B = 20 ∨ B = 40) (ha : a % (2 * B) = 0) (hm : a + B < b) (hb : b ≤ n) (hb2 : b ≤ a + 2 * B) (hlt : ∀ x y, lt x y = decide (key x < key y)) : Srt (Lek key pos) a (a + B) d ∧ Srt (Lek key pos) (a + B) b d ∧ Tells lt (Lek key pos) a (a + B) b d := by
  rcases hB with rfl | rfl
  all_goals
    refine ⟨fun i j h1 h2 h3 => h.srt i j h1 h2 (by omega) (by omega), fun i j h1 h2 h3 => h.srt i j (by omega) h2 (by omega) (by omega), fun i j h1 h2 h3 h4 => ?_⟩
    have hpos := h.sep i j h1 (by omega) (by omega)
    rw [hlt, decide_eq_true_iff, decide_eq_false_iff_not, lek_iff, lek_iff]
    omega
theorem BSt.step (h : BSt key pos B n a d0 d) (hB : B = 20 ∨ B = 40) (ha : a % (2 * B) = 0) (hm : a + B < b) (hb : b ≤ n) (hb2 : b ≤ a + 2 * B) (hbl : b = a + 2 * B ∨ b = n) (hM : Mrg (Lek key pos) a b d d') : BSt key pos B n (a + 2 * B) d0 d' := by
  have hsz := h.sz
  obtain ⟨hp, hs⟩ := hM
  refine ⟨permIn_trans _ _ _ 0 n h.perm (permIn_mono _ _ a b 0 n (Nat.zero_le _) hb (by omega) hp), hp.1.trans hsz, fun i j h1 h2 => ?_, fun i j h1 h2 h3 => ?_, fun i j h1 h2 h3 h4 => ?_, fun i j h1 h2 h3 h4 => ?_⟩
  · refine pair_perm (P := fun x y => pos x < pos y) hp (by omega) ?_ fun i' j' hi hj => h.sep2 i' j' ?_ ?_
    · rcases hB with rfl | rfl <;> omega
    · rcases hB with rfl | rfl <;> omega
    · omega
  · have hj : b ≤ j := by rcases hB with rfl | rfl <;> omega
    rw [hp.2.1 i (.inr (by omega)), hp.2.1 j (.inr hj)]
    exact h.sep i j (by omega) h2 h3
  · rw [hp.2.1 i (.inr (by omega)), hp.2.1 j (.inr (by omega))]
    exact h.srt i j (by omega) h2 h3 h4
  · by_cases c : j < a
    · rw [hp.2.1 i (.inl (by omega)), hp.2.1 j (.inl c)]
      exact h.done i j h1 c h3 h4
    · refine hs i j ?_ h1 (by omega)
      rcases hB with rfl | rfl <;> omega
theorem BSt.next (h : BSt key pos B n a d0 d) (hB : B = 20 ∨ B = 40) (ha : a % (2 * B) = 0) (hn : n ≤ a + B) : BSt key pos (2 * B) n 0 d0 d := by
  refine ⟨h.perm, h.sz, fun i j h1 h2 => h.sep2 i j ?_ h2, fun i j _ h1 h2 => h.sep2 i j h1 h2, fun i j _ h1 h2 h3 => ?_, fun i j _ h1 _ _ => absurd h1 (Nat.not_lt_zero _)⟩
  · rcases hB with rfl | rfl <;> omega
  · by_cases c : j < a
    · exact h.done i j h1 c h2 h3
    · refine h.srt i j ?_ h1 h2 ?_
      · rcases hB with rfl | rfl <;> omega
      · rcases hB with rfl | rfl <;> omega
theorem BSt.last (h : BSt key pos B n 0 d0 d) (hn : n ≤ B) : PermIn 0 n d0 d ∧ SortedIn (kLt key pos) 0 n d :=
  ⟨h.perm, fun i j h1 h2 h3 => h.srt i j h1 h2 h3 (by rw [Nat.div_eq_of_lt (by omega), Nat.div_eq_of_lt (by omega)])⟩
theorem ins_ok (h : InSt key pos n a d0 d) (hb : b ≤ n) (hab : a ≤ b) (hlt : ∀ x y, lt x y = decide (key x < key y)) : PermIn a b d (insertionSort lt d a b) ∧ SortedIn (kLt key pos) a b (insertionSort lt d a b) := by
  have e : insertionSort lt d a b = insertionSort (kLt key pos) d a b := by
    refine insertionSort_eq (by have := h.sz; omega) fun k j h1 h2 h3 => ?_
    have hpos := h.asc k j h1 h2 (by omega)
    rw [hlt]
    show decide _ = decide _
    rw [decide_eq_decide]
    omega
  rw [e]
  exact insertionSort_holds (kLt_swo key pos) d a b hab (by have := h.sz; omega)
end
end St
end Go.Proofs.YtpmlhgmmobpilaaGreatDoor
namespace Go.Proofs.YtpmlhgmmobpilaaGreatDoor
open Go.RowKit Go.Shelf Go.Sort
namespace St
open Nt Ci
set_option maxRecDepth 100000 in
set_option maxHeartbeats 8000000 in
theorem stable_any {α : Type} [Inhabited α] (nm : α → Nat) (cf : α → α → Int) (g : Nat) (cb : Array Value) (eg : ∀ args w, (callFunc g args).run Tryz.prog w = .ok (.enter g args) w) (key : α → Int) (pos : α → Nat) (hlt : ∀ x y, ltOf cf x y = decide (key x < key y)) (bl cap n : Nat) (d : Array α) (w : World) (HC : CmpOn Tryz.prog g cb nm cf bl w) (hR : Ro nm w bl d) (hn : d.size = n) (hn80 : n < 80) (hasc : ∀ i j, i < j → j < n → pos d[i]! < pos d[j]!) :
    Calls Tryz.prog 108 #[.slice (some ⟨bl, 0, none⟩) n cap, .int .i64 (n : Int), .func (.func g) #[] cb] w fun e w' => e = .returned (.tuple #[]) ∧ (∃ d', (PermIn 0 n d d' ∧ SortedIn (kLt key pos) 0 n d') ∧ Ro nm w' bl d') ∧ Kp [bl] w w' := by
  have hI0 : Hid (InSt key pos n 0 d d) := InSt.start hn hasc
  have ki : Hid (∀ (a b : Nat) (D : Array α) (W : World), InSt key pos n a d D → Kp [bl] w W → Ro nm W bl D → a ≤ b → b ≤ n → Calls Tryz.prog 143 #[.slice (some ⟨bl, 0, none⟩) n cap, .int .i64 (a : Int), .int .i64 (b : Int), .func (.func g) #[] cb] W fun e w' => e = .returned (.tuple #[]) ∧ (∃ D', (PermIn a b D D' ∧ SortedIn (kLt key pos) a b D') ∧ Ro nm w' bl D') ∧ Kp [bl] W w') := fun a b D W hI hK hO hab hb => by
    have hD := hI.sz
    have h := ins_any nm cf g cb eg bl cap a b D w W hK HC hO hab (by omega) (by omega)
    rw [hD] at h
    exact h.mono fun e w' h => ⟨h.1, ⟨_, ins_ok hI hb hab hlt, h.2.1⟩, h.2.2⟩
  have ks : Hid (∀ (B a b : Nat) (D : Array α) (W : World), (B = 20 ∨ B = 40) → BSt key pos B n a d D → Kp [bl] w W → Ro nm W bl D → a % (2 * B) = 0 → a + B < b → b ≤ n → b ≤ a + 2 * B → Calls Tryz.prog 144 #[.slice (some ⟨bl, 0, none⟩) n cap, .int .i64 (a : Int), .int .i64 ((a + B : Nat) : Int), .int .i64 (b : Int), .func (.func g) #[] cb] W (SymPost nm (Lek key pos) bl a b D W)) := fun B a b D W hB hI hK hO ha hab hb hb2 => by
    have hD := hI.sz
    obtain ⟨p1, p2, p3⟩ := hI.parts (lt := ltOf cf) hB ha hab hb hb2 hlt
    have h := sym_any nm cf g cb eg (Lek key pos) lek_trn bl cap w HC (b - a) a (a + B) b D W (Nat.le_refl _) hK hO (by omega) (by omega) (by omega) (by omega) p1 p2 p3
    rwa [hD] at h
  replace hR := Lib.hid hR
  replace hlt := Lib.hid hlt
  clear hasc HC
  replace hn := Lib.hid hn
  go_enter Tryz.func108, Tryz.ntmps108
  go_wp2
  go_loopw [7, 8] (fun ax bx wr => ∃ (a : Nat) (D : Array α), a ≤ n ∧ a % 20 = 0 ∧ ax = .int .i64 (a : Int) ∧ bx = .int .i64 ((a + 20 : Nat) : Int) ∧ Hid (InSt key pos n a d D) ∧ Hid (Ro nm wr bl D) ∧ Hid (Kp [bl] w wr)) (fun ax _ _ => n - (intOf ax).toNat)
  case atStart => exact ⟨0, d, Nat.zero_le _, rfl, rfl, rfl, hI0, hR, Kp.refl _ _⟩
  case round =>
    obtain ⟨a, D, han, ha, rfl, rfl, hI, hO, hK⟩ := hrel
    by_cases hab : a + 20 ≤ n
    · have t1 : decide (((a + 20 : Nat) : Int) ≤ (n : Int)) = true := decide_eq_true (by omega)
      have kc := Lib.hid (ki.out a (a + 20) D wr hI.out hK.out hO.out (by omega) hab)
      obtain ⟨b, hb⟩ : ∃ b, b = a + 20 := ⟨_, rfl⟩
      rw [← hb] at t1 kc ⊢
      have t1n : decide (b ≤ n) = true := decide_eq_true (by omega)
      have hb9 : b ≤ 100 := by omega
      replace hb := Lib.hid hb
      go_wp2_with fail
      refine kc.out.mono ?_
      rintro e w2 ⟨rfl, ⟨D2, hM, hO2⟩, hK2⟩
      have hI2 : Hid (InSt key pos n b d D2) := hI.out.step ha (by have := hb.out; omega) (by have := hb.out; omega) (by have := hb.out; omega) hM.1 hM.2 (.inl hb.out)
      replace hO2 := Lib.hid hO2
      replace hK2 := Lib.hid (kp_trans hK.out hK2)
      clear hM kc hI hO hK
      go_wp2
      exact ⟨⟨b, D2, by have := hb.out; omega, by have := hb.out; omega, by first | rfl | trivial, by go_num, hI2, hO2, hK2⟩, by have := hb.out; simp only [intOf]; omega⟩
    · have t1 : decide (((a + 20 : Nat) : Int) ≤ (n : Int)) = false := decide_eq_false (by omega)
      have kc := Lib.hid (ki.out a n D wr hI.out hK.out hO.out han (Nat.le_refl _))
      obtain ⟨b, hb⟩ : ∃ b, b = a + 20 := ⟨_, rfl⟩
      rw [← hb] at t1 ⊢
      have t1n : decide (b ≤ n) = false := decide_eq_false (by omega)
      have hb9 : b ≤ 100 := by omega
      replace hb := Lib.hid hb
      replace hab := Lib.hid hab
      go_wp2_with fail
      refine kc.out.mono ?_
      rintro e w2 ⟨rfl, ⟨D2, hM, hO2⟩, hK2⟩
      have hI2 : Hid (InSt key pos n n d D2) := hI.out.step ha han (Nat.le_refl _) (by have := hab.out; omega) hM.1 hM.2 (.inr rfl)
      have hB2 : Hid (BSt key pos 20 n 0 d D2) := hI2.out.toB
      replace hO2 := Lib.hid hO2
      replace hK2 := Lib.hid (kp_trans hK.out hK2)
      clear hM kc hI hO hK hI2
      go_wp2
      go_loopw [6] (fun Bx wr => ∃ (B : Nat) (D : Array α), (B = 20 ∨ B = 40 ∨ B = 80) ∧ Bx = .int .i64 (B : Int) ∧ Hid (BSt key pos B n 0 d D) ∧ Hid (Ro nm wr bl D) ∧ Hid (Kp [bl] w wr)) (fun Bx _ => 80 - (intOf Bx).toNat)
      case atStart => exact ⟨20, D2, .inl rfl, rfl, hB2, hO2, hK2⟩
      case round =>
        obtain ⟨B, D3, hB, rfl, hI3, hO3, hK3⟩ := hrel
        by_cases hBn : B < n
        · have hB4 : B = 20 ∨ B = 40 := by omega
          have t2 : decide ((B : Int) < (n : Int)) = true := decide_eq_true (by omega)
          have t2n : decide (B < n) = true := decide_eq_true hBn
          have hb20 : 20 ≤ B := by omega
          have hb40 : B ≤ 40 := by omega
          replace hB := Lib.hid hB
          replace hB4 := Lib.hid hB4
          go_wp2
          go_loopw [7, 8] (fun ax bx wr => ∃ (a : Nat) (D : Array α), a ≤ n ∧ Hid (a % (2 * B) = 0) ∧ ax = .int .i64 (a : Int) ∧ bx = .int .i64 ((a + 2 * B : Nat) : Int) ∧ Hid (BSt key pos B n a d D) ∧ Hid (Ro nm wr bl D) ∧ Hid (Kp [bl] w wr)) (fun ax _ _ => n - (intOf ax).toNat)
          case atStart => exact ⟨0, D3, Nat.zero_le _, Nat.zero_mod _, rfl, by go_num, hI3, hO3, hK3⟩
          case round =>
            obtain ⟨a, D4, han, ha, rfl, rfl, hI4, hO4, hK4⟩ := hrel
            obtain ⟨b, hb⟩ : ∃ b, b = a + 2 * B := ⟨_, rfl⟩
            rw [← hb]
            by_cases hbn : b ≤ n
            · have kc := Lib.hid (ks.out B a b D4 wr hB4.out hI4.out hK4.out hO4.out ha.out (by omega) hbn (by omega))
              have t3 : decide ((b : Int) ≤ (n : Int)) = true := decide_eq_true (by omega)
              have t3n : decide (b ≤ n) = true := decide_eq_true hbn
              have hb9 : b ≤ 200 := by omega
              have ha2 : Hid (b % (2 * B) = 0) := by show _ = _; rw [hb, Nat.add_mod, ha.out]; simp
              rw [show ((a + B : Nat) : Int) = (a : Int) + (B : Int) by omega] at kc
              have hbN : Hid (a ≤ n ∧ b = a + 2 * B ∧ b ≤ n) := ⟨han, hb, hbn⟩
              clear hb
              go_wp2_with fail
              refine kc.out.mono ?_
              rintro e w5 ⟨rfl, ⟨D5, hM, hO5⟩, hK5⟩
              have hI5 : Hid (BSt key pos B n b d D5) := by
                have h := hI4.out.step hB4.out ha.out (b := b) (by have := hbN.out; omega) hbn (by have := hbN.out; omega) (.inl hbN.out.2.1) hM
                rw [← hbN.out.2.1] at h
                exact h
              replace hO5 := Lib.hid hO5
              replace hK5 := Lib.hid (kp_trans hK4.out hK5)
              clear hM kc hI4 hO4 hK4
              go_wp2
              exact ⟨⟨b, D5, hbn, ha2, by first | rfl | trivial, by go_num, hI5, hO5, hK5⟩, by have := hbN.out; simp only [intOf]; omega⟩
            · have t3 : decide ((b : Int) ≤ (n : Int)) = false := decide_eq_false (by omega)
              have t3n : decide (b ≤ n) = false := decide_eq_false hbn
              obtain ⟨m, hm⟩ : ∃ m, m = a + B := ⟨_, rfl⟩
              have t4 : (a : Int) + (B : Int) = (m : Int) := by omega
              have hm9 : m ≤ 200 := by omega
              by_cases hmn : m < n
              · have kc := Lib.hid (ks.out B a n D4 wr hB4.out hI4.out hK4.out hO4.out ha.out (by omega) (Nat.le_refl _) (by omega))
                rw [← hm] at kc
                have t5 : decide ((m : Int) < (n : Int)) = true := decide_eq_true (by omega)
                have t5n : decide (m < n) = true := decide_eq_true hmn
                have hbN : Hid (n < a + 2 * B ∧ a + B < n) := ⟨by omega, by omega⟩
                clear hb hbn; replace hm := Lib.hid hm
                go_wp2_with fail
                refine kc.out.mono ?_
                rintro e w5 ⟨rfl, ⟨D5, hM, hO5⟩, hK5⟩
                have hI5 : Hid (BSt key pos (2 * B) n 0 d D5) := by
                  have h := hI4.out.step hB4.out ha.out (b := n) hbN.out.2 (Nat.le_refl _) (by have := hbN.out; omega) (.inr rfl) hM
                  refine h.next hB4.out ?_ (by have := hbN.out; omega)
                  rw [Nat.add_mod, ha.out]; simp
                replace hO5 := Lib.hid hO5
                replace hK5 := Lib.hid (kp_trans hK4.out hK5)
                clear hM kc hI4 hO4 hK4
                go_wp2
                exact ⟨⟨2 * B, D5, by have := hB4.out; omega, by go_num, hI5, hO5, hK5⟩, by simp only [intOf]; omega⟩
              · have t5 : decide ((m : Int) < (n : Int)) = false := decide_eq_false (by omega)
                have t5n : decide (m < n) = false := decide_eq_false hmn
                have hI5 : Hid (BSt key pos (2 * B) n 0 d D4) := hI4.out.next hB4.out ha.out (by omega)
                clear hI4 hb hbn; replace hm := Lib.hid hm
                go_wp2
                exact ⟨⟨2 * B, D4, by have := hB4.out; omega, by go_num, hI5, hO4, hK4⟩, by simp only [intOf]; omega⟩
        · have t2 : decide ((B : Int) < (n : Int)) = false := decide_eq_false (by omega)
          have t2n : decide (B < n) = false := decide_eq_false hBn
          have hfin := Lib.hid (hI3.out.last (by omega))
          replace hB := Lib.hid hB
          go_wp2
          go_end0
          exact ⟨rfl, ⟨D3, hfin.out, hO3.out⟩, hK3.out⟩
end St
end Go.Proofs.YtpmlhgmmobpilaaGreatDoor
namespace Go.Proofs.YtpmlhgmmobpilaaGreatDoor
open Go.RowKit Go.Shelf Go.Sort
namespace Co
open Nt Ci St
set_option maxRecDepth 100000 in
theorem sortUpTo_80 : SortUpTo 80 := by
  intro rb b n bl cap o l w h0 h80 hl asc hcell hfr hbl hrb hrl hR n1 n2
  obtain ⟨m, rfl⟩ : ∃ m, n = m + 1 := ⟨n - 1, by have := hl l[0] (List.getElem_mem h0); omega⟩
  have hRo : Ro (fun x : Fin (m + 1) => x.val) w bl (arr l) := ⟨hbl, fun j hj => by
    have hj2 : j < l.length := by rwa [arr_size] at hj
    rw [hcell j hj2, arr_at hl hj2], fun j _ => hfr j⟩
  have hC : CmpOn Tryz.prog 77 #[.pointer (some ⟨rb, 0, none⟩)] (fun x : Fin (m + 1) => x.val) (fun x y => Lib.compareInt (o x.val) (o y.val)) bl w := fun W hW x y => by
    refine cmp_any rb b (m + 1) x.val y.val o W ?_ (Nat.lt_of_lt_of_le hrl hW.size) (hR.of_block hW.size (hW.block b hR.lt (by simpa using n2))) x.isLt y.isLt
    exact (World.cell?_of_block (a := ⟨rb, 0, none⟩) (hW.block rb hrl (by simpa using n1))).trans hrb
  have ks := stable_any (fun x : Fin (m + 1) => x.val) (fun x y => Lib.compareInt (o x.val) (o y.val)) 77 #[.pointer (some ⟨rb, 0, none⟩)] (enters_of Tryz.func77 (by kernel_rfl) rfl) (fun x : Fin (m + 1) => o x.val) Fin.val (fun x y => cmp_lt (o x.val) (o y.val)) bl cap l.length (arr l) w hC hRo (arr_size l) h80 fun i j hij hj => by
    rw [arr_at hl hj, arr_at hl (by omega : i < l.length)]
    exact List.pairwise_iff_getElem.1 asc i j (by omega) hj hij
  have ks2 : Hid (Calls Tryz.prog 108 #[.slice (some ⟨bl, 0, none⟩) l.length cap, .int .i64 (l.length : Int), .func (.func 77) #[] #[.pointer (some ⟨rb, 0, none⟩)]] w fun e w' => e = .returned (.tuple #[]) ∧ (∃ l', Sorted o l l' ∧ ∀ j (hj : j < l'.length), w'.cell? ⟨bl, j, none⟩ = some (.int .i64 (l'[j] : Int))) ∧ Kp [bl] w w') := ks.mono fun e w' h => by
    obtain ⟨h1, ⟨d', ⟨hp, hs⟩, hO⟩, hk⟩ := h
    refine ⟨h1, ⟨d'.toList.map Fin.val, sorted_of hl asc hp hs, fun j hj => ?_⟩, hk⟩
    have hj2 : j < d'.size := by simpa using hj
    have h4 := hO.cell j hj2
    rw [getElem!_pos _ j hj2] at h4
    simpa using h4
  have hP : Hid (∀ e W, e = .returned (.tuple #[]) → (∃ l', Sorted o l l' ∧ ∀ j (hj : j < l'.length), W.cell? ⟨bl, j, none⟩ = some (.int .i64 (l'[j] : Int))) → Kp [bl] w W → SortPost o bl l w e W) := fun e W h1 h2 h3 => ⟨h1, h2, h3⟩
  clear hRo hC ks hcell hfr hrb hR asc hl
  go_enter Tryz.func53, Tryz.ntmps53
  go_wp2_with fail
  refine ks2.out.mono ?_
  rintro e w2 ⟨rfl, h1, h2⟩
  replace h1 := Lib.hid h1
  replace h2 := Lib.hid h2
  go_wp2
  go_end0
  exact hP.out _ _ rfl h1.out h2.out
end Co
end Go.Proofs.YtpmlhgmmobpilaaGreatDoor

namespace Go.Proofs.YtpmlhgmmobpilaaGreatDoor
open Go.RowKit Go.Shelf
namespace Co
open Nt Ci
noncomputable def ctL (s : SR) (F : List Int) : List Int := if soundB s = true ∧ listB s.ps.length F = true then (List.range s.ps.length).map (rd (VT s) (toN F)) else []
def ctE (s : SR) (F : List Int) : Int := if soundB s = true ∧ listB s.ps.length F = true then 0 else 1
section
variable {s : SR} {F : List Int} {party : Int} {w W : World} {e : Ending}
theorem ctl_list (h : CtPost s F w e W) : ∃ A c, e = .returned (.tuple #[.slice A (ctL s F).length c, .int .i64 (ctE s F)]) ∧ InInt W A (ctL s F) := by
  have h1 := h.1
  unfold ctL ctE
  by_cases c : soundB s = true ∧ listB s.ps.length F = true
  · rw [if_pos c] at h1
    obtain ⟨b, he, _, hR⟩ := h1
    rw [if_pos c, if_pos c]
    refine ⟨_, s.ps.length, ?_, hR.inInt⟩
    rw [he]
    simp
  · rw [if_neg c] at h1
    rw [if_neg c, if_neg c]
    exact ⟨none, 0, h1, fun h => absurd h (by simp)⟩
/-- What Prove gives, as lists. -/
def PvIs (s : SR) (F : List Int) (party : Int) (a b : List Int) (E : Int) : Prop :=
  if soundB s = true ∧ listB s.ps.length F = true ∧ 0 ≤ party ∧ party < s.ps.length then
    E = 0 ∧ (if 0 ≤ rd (VT s) (toN F) party.toNat then b = [] ∧ ∃ l, a = castL l ∧ OrdIs (rd (VT s) (toN F)) s.ps.length party.toNat l else a = [] ∧ b = castL (clL (rd (VT s) (toN F)) s.ps.length))
  else E = 1 ∧ a = [] ∧ b = []
theorem pv_list (h : PvPost s F party w e W) : ∃ A1 c1 A2 c2 a b E, e = .returned (.tuple #[.agg #[.slice A1 (List.length a) c1, .slice A2 (List.length b) c2], .int .i64 E]) ∧ InInt W A1 a ∧ InInt W A2 b ∧ PvIs s F party a b E := by
  have h1 := h.1
  unfold PvIs
  by_cases c : soundB s = true ∧ listB s.ps.length F = true ∧ 0 ≤ party ∧ party < s.ps.length
  · rw [if_pos c] at h1
    by_cases c2 : 0 ≤ rd (VT s) (toN F) party.toNat
    · rw [if_pos c2] at h1
      obtain ⟨A, d, l, he, hI, hO⟩ := h1
      refine ⟨A, d, none, 0, castL l, [], 0, ?_, hI, fun h => absurd h (by simp), ?_⟩
      · rw [he, castL_len]; rfl
      · rw [if_pos c, if_pos c2]; exact ⟨rfl, rfl, l, rfl, hO⟩
    · rw [if_neg c2] at h1
      obtain ⟨A, d, he, hI⟩ := h1
      refine ⟨none, 0, A, d, [], castL (clL (rd (VT s) (toN F)) s.ps.length), 0, ?_, fun h => absurd h (by simp), hI, ?_⟩
      · rw [he, castL_len]; rfl
      · rw [if_pos c, if_neg c2]; exact ⟨rfl, rfl, rfl⟩
  · rw [if_neg c] at h1
    refine ⟨none, 0, none, 0, [], [], 1, h1, fun h => absurd h (by simp), fun h => absurd h (by simp), ?_⟩
    rw [if_neg c]; exact ⟨rfl, rfl, rfl⟩
theorem sorted_one {R : Nat → Nat → Prop} (hR : ∀ {x y}, R x y → R y x → False) : ∀ {l m : List Nat}, l.Pairwise R → m.Pairwise R → (∀ x, x ∈ l ↔ x ∈ m) → l = m := by
  intro l
  induction l with
  | nil =>
    intro m _ _ h
    exact (List.eq_nil_iff_forall_not_mem.2 fun x hx => by have := (h x).2 hx; cases this).symm
  | cons a l ih =>
    intro m hl hm h
    cases m with
    | nil => have := (h a).1 (List.mem_cons_self ..); cases this
    | cons b m =>
      rw [List.pairwise_cons] at hl hm
      have hab : a = b := by
        rcases List.mem_cons.1 ((h a).1 (List.mem_cons_self ..)) with h1 | h1
        · exact h1
        · rcases List.mem_cons.1 ((h b).2 (List.mem_cons_self ..)) with h2 | h2
          · exact h2.symm
          · exact absurd (hm.1 a h1) fun c => hR c (hl.1 b h2)
      subst hab
      congr 1
      refine ih hl.2 hm.2 fun x => ⟨fun hx => ?_, fun hx => ?_⟩
      · rcases List.mem_cons.1 ((h x).1 (List.mem_cons_of_mem _ hx)) with h1 | h1
        · subst h1; exact absurd (hl.1 _ hx) fun c => hR c c
        · exact h1
      · rcases List.mem_cons.1 ((h x).2 (List.mem_cons_of_mem _ hx)) with h1 | h1
        · subst h1; exact absurd (hm.1 _ hx) fun c => hR c c
        · exact h1
theorem pv_one {a b a' b' : List Int} {E E' : Int} (h : PvIs s F party a b E) (h2 : PvIs s F party a' b' E') : a = a' ∧ b = b' ∧ E = E' := by
  unfold PvIs at h h2
  by_cases c : soundB s = true ∧ listB s.ps.length F = true ∧ 0 ≤ party ∧ party < s.ps.length
  · rw [if_pos c] at h h2
    obtain ⟨rfl, h⟩ := h
    obtain ⟨rfl, h2⟩ := h2
    by_cases c2 : 0 ≤ rd (VT s) (toN F) party.toNat
    · rw [if_pos c2] at h h2
      obtain ⟨rfl, l, rfl, hl⟩ := h
      obtain ⟨rfl, l', rfl, hl'⟩ := h2
      rw [sorted_one (fun h h' => lexo_asymm h h') hl.1 hl'.1 fun x => by rw [hl.2, hl'.2]]
      exact ⟨rfl, rfl, rfl⟩
    · rw [if_neg c2] at h h2
      obtain ⟨rfl, rfl⟩ := h
      obtain ⟨rfl, rfl⟩ := h2
      exact ⟨rfl, rfl, rfl⟩
  · rw [if_neg c] at h h2
    obtain ⟨rfl, rfl, rfl⟩ := h
    obtain ⟨rfl, rfl, rfl⟩ := h2
    exact ⟨rfl, rfl, rfl⟩
theorem nodup_le : ∀ (n : Nat) (l : List Nat), l.Nodup → (∀ x, x ∈ l → x < n) → l.length ≤ n := by
  intro n
  induction n with
  | zero =>
    intro l _ h
    cases l with
    | nil => exact Nat.le_refl _
    | cons a l => have := h a (List.mem_cons_self ..); omega
  | succ n ih =>
    intro l hn h
    have h1 := ih (l.erase n) (hn.erase n) fun x hx => by
      have h2 := (hn.mem_erase_iff).1 hx
      have := h x h2.2
      have := h2.1
      omega
    rw [List.length_erase] at h1
    split at h1 <;> omega
theorem ctL_len : (ctL s F).length ≤ s.ps.length := by unfold ctL; split <;> simp
theorem pv_len {a b : List Int} {E : Int} (h : PvIs s F party a b E) : a.length ≤ s.ps.length ∧ b.length ≤ s.ps.length := by
  unfold PvIs at h
  split at h
  · obtain ⟨_, h⟩ := h
    split at h
    · obtain ⟨rfl, l, rfl, hl⟩ := h
      refine ⟨?_, Nat.zero_le _⟩
      rw [castL_len]
      have hnd : l.Nodup := hl.1.imp fun {x y} h c => by subst c; exact lexo_asymm h h
      exact nodup_le _ l hnd fun x hx => ((hl.2 x).1 hx).1
    · obtain ⟨rfl, rfl⟩ := h
      exact ⟨Nat.zero_le _, by rw [castL_len]; exact clL_len⟩
  · obtain ⟨_, rfl, rfl⟩ := h
    exact ⟨Nat.zero_le _, Nat.zero_le _⟩
end
set_option maxRecDepth 100000 in
set_option maxHeartbeats 16000000 in
theorem lawCo_match (s : SR) (Ap Ac Av Af : Option Addr) (cp cc cv cf : Nat) (F : List Int) (party : Int) (Ao Al : Option Addr) (co cl : Nat) (lo lc : List Int) (w : World) (hE : Env w) (hs : StIn w s Ap Ac Av) (hF : InInt w Af F) (hFl : F.length ≤ 140737488355328) (hlo : InInt w Ao lo) (hlc : InInt w Al lc) (_hol : lo.length ≤ 140737488355328) (_hcl : lc.length ≤ 140737488355328) :
    Calls Tryz.prog 8 #[.agg #[.slice Ap s.ps.length cp, .slice Ac s.cap.length cc, .slice Av s.vot.length cv], .slice Af F.length cf, .int .i64 party, .agg #[.slice Ao lo.length co, .slice Al lc.length cl]] w fun e w' => e = .returned (.bool true) ∧ Below w.heap.size w w' := by
  have hX1 : Hid (Bk ((w.alloc (.cells #[.slice Ap s.ps.length cp, .slice Ac s.cap.length cc, .slice Av s.vot.length cv] 54)).alloc (.cells #[.slice Ao lo.length co, .slice Al lc.length cl] 56)) w.heap.size 54 (SC s Ap Ac Av cp cc cv)) := (Bk.new w _ _).alloc _
  have hB1 : Hid (Below w.heap.size w ((w.alloc (.cells #[.slice Ap s.ps.length cp, .slice Ac s.cap.length cc, .slice Av s.vot.length cv] 54)).alloc (.cells #[.slice Ao lo.length co, .slice Al lc.length cl] 56))) := ((Below.refl _ w).alloc (Nat.le_refl _) _).alloc (by simp) _
  have hP1 : Hid (Bk ((w.alloc (.cells #[.slice Ap s.ps.length cp, .slice Ac s.cap.length cc, .slice Av s.vot.length cv] 54)).alloc (.cells #[.slice Ao lo.length co, .slice Al lc.length cl] 56)) (w.heap.size + 1) 56 [.slice Ao lo.length co, .slice Al lc.length cl]) := by have h := Bk.new (w.alloc (.cells #[.slice Ap s.ps.length cp, .slice Ac s.cap.length cc, .slice Av s.vot.length cv] 54)) 56 [.slice Ao lo.length co, .slice Al lc.length cl]; rw [World.size_alloc] at h; exact h
  replace hE := Lib.hid hE
  replace hs := Lib.hid hs
  replace hF := Lib.hid hF
  replace hlo := Lib.hid hlo
  replace hlc := Lib.hid hlc
  go_enter Tryz.func8, Tryz.ntmps8
  go_wp2_with fail
  refine (headCo_any _ (hE.out.below hB1.out)).mono ?_
  rintro e w2 ⟨rfl, hb⟩
  have hX2 := Lib.hid (hX1.out.below hb)
  have hB2 := Lib.hid (hB1.out.trans (hb.mono hB1.out.size))
  have hP2 := Lib.hid (hP1.out.below hb)
  clear hb hX1 hB1 hP1
  have p0 := hP2.out.cell (j := 0) rfl; have p1 := hP2.out.cell (j := 1) rfl; have p9 := hP2.out.lt
  have u0 := hX2.out.cell (j := 0) rfl
  have u1 := hX2.out.cell (j := 1) rfl
  have u2 := hX2.out.cell (j := 2) rfl
  have u9 := hX2.out.lt
  have hLb : Hid (Below w2.heap.size w2 (w2.alloc (.cells #[.slice Af F.length cf, .slice Ao lo.length co, .slice Al lc.length cl] 24))) := (Below.refl _ _).alloc (Nat.le_refl _) _
  have hLk : Hid (Bk (w2.alloc (.cells #[.slice Af F.length cf, .slice Ao lo.length co, .slice Al lc.length cl] 24)) w2.heap.size 24 [.slice Af F.length cf, .slice Ao lo.length co, .slice Al lc.length cl]) := Bk.new _ _ _
  have hLi : Hid (InLens (w2.alloc (.cells #[.slice Af F.length cf, .slice Ao lo.length co, .slice Al lc.length cl] 24)) w2.heap.size [F.length, lo.length, lc.length]) := ⟨hLk.out.lt, fun j hj => by
    match j, hj with
    | 0, _ => exact ⟨_, _, hLk.out.cell (j := 0) rfl⟩
    | 1, _ => exact ⟨_, _, hLk.out.cell (j := 1) rfl⟩
    | 2, _ => exact ⟨_, _, hLk.out.cell (j := 2) rfl⟩
    | j + 3, hj => exact absurd hj (by simp)⟩
  have kf := Lib.hid (few_some s Ap Ac Av cp cc cv w2.heap.size [F.length, lo.length, lc.length] (w2.alloc (.cells #[.slice Af F.length cf, .slice Ao lo.length co, .slice Al lc.length cl] 24)) (hs.out.below (hB2.out.trans (hLb.out.mono hB2.out.size))) hLi.out (by simp))
  go_wp2_with fail
  refine kf.out.mono ?_
  rintro e w3 ⟨⟨r, rfl, hr⟩, hb0⟩
  have hb := hLb.out.trans (hb0.mono hLb.out.size)
  replace hr := Lib.hid hr
  clear hb0 hLb hLk hLi kf
  have hX3 := Lib.hid (hX2.out.below hb)
  have hB3 := Lib.hid (hB2.out.trans (hb.mono hB2.out.size))
  have hP3 := Lib.hid (hP2.out.below hb)
  clear hb hX2 hB2 hP2
  clear u0 u1 u2 u9
  clear p0 p1 p9
  cases r with
  | false =>
    go_wp2
    go_ret
    exact ⟨rfl, hB3.out⟩
  | true =>
    obtain ⟨⟨hp60, hc30, hv30⟩, hl70⟩ := hr.out rfl
    replace hl70 := Lib.hid hl70
    clear hr
    have z1 := hl70.out lo.length (by simp); have z2 := hl70.out lc.length (by simp); have z3 := hl70.out F.length (by simp)
    have u0 := hX3.out.cell (j := 0) rfl
    have u1 := hX3.out.cell (j := 1) rfl
    have u2 := hX3.out.cell (j := 2) rfl
    have u9 := hX3.out.lt
    have kk := Lib.hid (Controlled_any s Ap Ac Av Af cp cc cv cf F w3 (hE.out.below hB3.out) (hs.out.below hB3.out) (by omega) (by omega) (hF.out.below hB3.out) hFl)
    go_wp2_with fail
    refine kk.out.mono ?_
    rintro e w4 hpost
    obtain ⟨hA1, hc1, rfl, hIa⟩ := ctl_list hpost
    have hb := hpost.2
    clear hpost kk
    clear u0 u1 u2 u9
    have hX4 := Lib.hid (hX3.out.below hb)
    have hB4 := Lib.hid (hB3.out.trans (hb.mono hB3.out.size))
    have hP4 := Lib.hid (hP3.out.below hb)
    clear hb hX3 hB3 hP3
    have hIa4 := Lib.hid hIa
    clear hIa
    have u0 := hX4.out.cell (j := 0) rfl
    have u1 := hX4.out.cell (j := 1) rfl
    have u2 := hX4.out.cell (j := 2) rfl
    have u9 := hX4.out.lt
    have kk := Lib.hid (RCtl_any s Ap Ac Av Af cp cc cv cf F w4 (hs.out.below hB4.out) (by omega) (hF.out.below hB4.out) hFl)
    go_wp2_with fail
    refine kk.out.mono ?_
    rintro e w5 hpost
    obtain ⟨hA2, hc2, rfl, hIb⟩ := ctl_list hpost
    have hb := hpost.2
    clear hpost kk
    clear u0 u1 u2 u9
    have hX5 := Lib.hid (hX4.out.below hb)
    have hB5 := Lib.hid (hB4.out.trans (hb.mono hB4.out.size))
    have hP5 := Lib.hid (hP4.out.below hb)
    have hIa5 := Lib.hid (hIa4.out.below hb)
    clear hb hX4 hB4 hP4 hIa4
    have hIb5 := Lib.hid hIb
    clear hIb
    have u0 := hX5.out.cell (j := 0) rfl
    have u1 := hX5.out.cell (j := 1) rfl
    have u2 := hX5.out.cell (j := 2) rfl
    have u9 := hX5.out.lt
    have kk := Lib.hid (Prove_w 80 sortUpTo_80 s Ap Ac Av Af cp cc cv cf F party w5 (hE.out.below hB5.out) (hs.out.below hB5.out) (by omega) (by omega) (hF.out.below hB5.out) hFl (by omega))
    go_wp2_with fail
    refine kk.out.mono ?_
    rintro e w6 hpost
    obtain ⟨pA, pc, pB, pd, pa, pb, pE, rfl, hIc, hId, hPa⟩ := pv_list hpost
    have hb := hpost.2
    replace hPa := Lib.hid hPa
    clear hpost kk
    clear u0 u1 u2 u9
    have hX6 := Lib.hid (hX5.out.below hb)
    have hB6 := Lib.hid (hB5.out.trans (hb.mono hB5.out.size))
    have hP6 := Lib.hid (hP5.out.below hb)
    have hIa6 := Lib.hid (hIa5.out.below hb)
    have hIb6 := Lib.hid (hIb5.out.below hb)
    clear hb hX5 hB5 hP5 hIa5 hIb5
    have hIc6 := Lib.hid hIc
    clear hIc
    have hId6 := Lib.hid hId
    clear hId
    have hbb : Hid (Below w6.heap.size w6 (w6.alloc (.cells #[.slice pA pa.length pc, .slice pB pb.length pd] 56))) := (Below.refl _ _).alloc (Nat.le_refl _) _
    have hYb : Hid (Bk (w6.alloc (.cells #[.slice pA pa.length pc, .slice pB pb.length pd] 56)) w6.heap.size 56 [.slice pA pa.length pc, .slice pB pb.length pd]) := Bk.new _ _ _
    have hXb := Lib.hid (hX6.out.below hbb.out)
    have hBb := Lib.hid (hB6.out.trans (hbb.out.mono hB6.out.size))
    have hPb := Lib.hid (hP6.out.below hbb.out)
    have hIab := Lib.hid (hIa6.out.below hbb.out)
    have hIbb := Lib.hid (hIb6.out.below hbb.out)
    have hIcb := Lib.hid (hIc6.out.below hbb.out)
    have hIdb := Lib.hid (hId6.out.below hbb.out)
    clear hbb hX6 hB6 hP6 hIa6 hIb6 hIc6 hId6
    have u0 := hXb.out.cell (j := 0) rfl
    have u1 := hXb.out.cell (j := 1) rfl
    have u2 := hXb.out.cell (j := 2) rfl
    have u9 := hXb.out.lt
    have kk := Lib.hid (RProve_any s Ap Ac Av Af cp cc cv cf F party (w6.alloc (.cells #[.slice pA pa.length pc, .slice pB pb.length pd] 56)) (hs.out.below hBb.out) (by omega) (hF.out.below hBb.out) hFl)
    go_wp2_with fail
    refine kk.out.mono ?_
    rintro e w7 hpost
    obtain ⟨qA, qc, qB, qd, qa, qb, qE, rfl, hIe, hIf, hPb⟩ := pv_list hpost
    have hb := hpost.2
    obtain ⟨rfl, rfl, rfl⟩ := pv_one hPa.out hPb
    clear hpost kk hPb
    clear u0 u1 u2 u9
    have hX7 := Lib.hid (hXb.out.below hb)
    have hB7 := Lib.hid (hBb.out.trans (hb.mono hBb.out.size))
    have hP7 := Lib.hid (hPb.out.below hb)
    have hIa7 := Lib.hid (hIab.out.below hb)
    have hIb7 := Lib.hid (hIbb.out.below hb)
    have hIc7 := Lib.hid (hIcb.out.below hb)
    have hId7 := Lib.hid (hIdb.out.below hb)
    have hY7 := Lib.hid (hYb.out.below hb)
    clear hb hXb hBb hPb hIab hIbb hIcb hIdb hYb
    have hIe7 := Lib.hid hIe
    clear hIe
    have hIf7 := Lib.hid hIf
    clear hIf
    have hpl := pv_len hPa.out
    obtain ⟨z4, z5⟩ := hpl
    have z6 := ctL_len (s := s) (F := F)
    have hbb : Hid (Below w7.heap.size w7 (w7.alloc (.cells #[.slice qA pa.length qc, .slice qB pb.length qd] 56))) := (Below.refl _ _).alloc (Nat.le_refl _) _
    have hZb : Hid (Bk (w7.alloc (.cells #[.slice qA pa.length qc, .slice qB pb.length qd] 56)) w7.heap.size 56 [.slice qA pa.length qc, .slice qB pb.length qd]) := Bk.new _ _ _
    have hXb := Lib.hid (hX7.out.below hbb.out)
    have hBb := Lib.hid (hB7.out.trans (hbb.out.mono hB7.out.size))
    have hPb := Lib.hid (hP7.out.below hbb.out)
    have hIab := Lib.hid (hIa7.out.below hbb.out)
    have hIbb := Lib.hid (hIb7.out.below hbb.out)
    have hIcb := Lib.hid (hIc7.out.below hbb.out)
    have hIdb := Lib.hid (hId7.out.below hbb.out)
    have hYb := Lib.hid (hY7.out.below hbb.out)
    have hIeb := Lib.hid (hIe7.out.below hbb.out)
    have hIfb := Lib.hid (hIf7.out.below hbb.out)
    clear hbb hX7 hB7 hP7 hIa7 hIb7 hIc7 hId7 hY7 hIe7 hIf7
    have u0 := hXb.out.cell (j := 0) rfl
    have u1 := hXb.out.cell (j := 1) rfl
    have u2 := hXb.out.cell (j := 2) rfl
    have u9 := hXb.out.lt
    have p0 := hPb.out.cell (j := 0) rfl; have p1 := hPb.out.cell (j := 1) rfl; have p9 := hPb.out.lt
    have kk := Lib.hid (Check_any s Ap Ac Av Af Ao Al cp cc cv cf co cl F lo lc party (w7.alloc (.cells #[.slice qA pa.length qc, .slice qB pb.length qd] 56)) (hE.out.below hBb.out) (hs.out.below hBb.out) (by omega) (by omega) (hF.out.below hBb.out) hFl (hlo.out.below hBb.out) (by omega) (hlc.out.below hBb.out) (by omega))
    obtain ⟨r1, hr1⟩ : ∃ x, x = (chk s F party lo lc).1 := ⟨_, rfl⟩; obtain ⟨r2, hr2⟩ : ∃ x, x = (chk s F party lo lc).2 := ⟨_, rfl⟩
    rw [← hr1, ← hr2] at kk
    replace hr1 := Lib.hid hr1; replace hr2 := Lib.hid hr2
    go_wp2_with fail
    refine kk.out.mono ?_
    rintro e w8 ⟨rfl, hb⟩
    clear kk p0 p1 p9
    clear u0 u1 u2 u9
    have hX8 := Lib.hid (hXb.out.below hb)
    have hB8 := Lib.hid (hBb.out.trans (hb.mono hBb.out.size))
    have hP8 := Lib.hid (hPb.out.below hb)
    have hIa8 := Lib.hid (hIab.out.below hb)
    have hIb8 := Lib.hid (hIbb.out.below hb)
    have hIc8 := Lib.hid (hIcb.out.below hb)
    have hId8 := Lib.hid (hIdb.out.below hb)
    have hY8 := Lib.hid (hYb.out.below hb)
    have hIe8 := Lib.hid (hIeb.out.below hb)
    have hIf8 := Lib.hid (hIfb.out.below hb)
    have hZ8 := Lib.hid (hZb.out.below hb)
    clear hb hXb hBb hPb hIab hIbb hIcb hIdb hYb hIeb hIfb hZb
    have u0 := hX8.out.cell (j := 0) rfl
    have u1 := hX8.out.cell (j := 1) rfl
    have u2 := hX8.out.cell (j := 2) rfl
    have u9 := hX8.out.lt
    have p0 := hP8.out.cell (j := 0) rfl; have p1 := hP8.out.cell (j := 1) rfl; have p9 := hP8.out.lt
    have kk := Lib.hid (RCheck_any s Ap Ac Av Af Ao Al cp cc cv cf co cl F lo lc party w8 (hs.out.below hB8.out) (by omega) (hF.out.below hB8.out) hFl (hlo.out.below hB8.out) (by omega) (hlc.out.below hB8.out) (by omega))
    rw [← hr1.out, ← hr2.out] at kk
    clear hr1 hr2
    go_wp2_with fail
    refine kk.out.mono ?_
    rintro e w9 ⟨rfl, hb⟩
    clear kk p0 p1 p9
    clear u0 u1 u2 u9
    have hX9 := Lib.hid (hX8.out.below hb)
    have hB9 := Lib.hid (hB8.out.trans (hb.mono hB8.out.size))
    have hP9 := Lib.hid (hP8.out.below hb)
    have hIa9 := Lib.hid (hIa8.out.below hb)
    have hIb9 := Lib.hid (hIb8.out.below hb)
    have hIc9 := Lib.hid (hIc8.out.below hb)
    have hId9 := Lib.hid (hId8.out.below hb)
    have hY9 := Lib.hid (hY8.out.below hb)
    have hIe9 := Lib.hid (hIe8.out.below hb)
    have hIf9 := Lib.hid (hIf8.out.below hb)
    have hZ9 := Lib.hid (hZ8.out.below hb)
    clear hb hX8 hB8 hP8 hIa8 hIb8 hIc8 hId8 hY8 hIe8 hIf8 hZ8
    have k1 : Hid (Calls Tryz.prog 34 #[.slice hA1 (ctL s F).length hc1, .slice hA2 (ctL s F).length hc2] w9 fun e w' => e = .returned (.bool true) ∧ Below w9.heap.size w9 w') := (Ints_any hA1 hA2 hc1 hc2 (ctL s F) (ctL s F) w9 hIa9.out hIb9.out (by omega)).mono fun e w' h => ⟨by rw [h.1, decide_eq_true rfl], by obtain ⟨q, rfl⟩ := h.2; exact blDrewN (Below.refl _ _) q⟩
    generalize (ctL s F).length = cn at k1 ⊢
    generalize ctE s F = ce
    go_wp2_with fail
    refine k1.out.mono ?_
    rintro e w10 ⟨rfl, hb⟩
    clear k1
    have hX10 := Lib.hid (hX9.out.below hb)
    have hB10 := Lib.hid (hB9.out.trans (hb.mono hB9.out.size))
    have hP10 := Lib.hid (hP9.out.below hb)
    have hIa10 := Lib.hid (hIa9.out.below hb)
    have hIb10 := Lib.hid (hIb9.out.below hb)
    have hIc10 := Lib.hid (hIc9.out.below hb)
    have hId10 := Lib.hid (hId9.out.below hb)
    have hY10 := Lib.hid (hY9.out.below hb)
    have hIe10 := Lib.hid (hIe9.out.below hb)
    have hIf10 := Lib.hid (hIf9.out.below hb)
    have hZ10 := Lib.hid (hZ9.out.below hb)
    clear hb hX9 hB9 hP9 hIa9 hIb9 hIc9 hId9 hY9 hIe9 hIf9 hZ9
    have k2 : Hid (Calls Tryz.prog 35 #[.agg #[.slice pA pa.length pc, .slice pB pb.length pd], .agg #[.slice qA pa.length qc, .slice qB pb.length qd]] w10 fun e w' => e = .returned (.bool true) ∧ Below w10.heap.size w10 w') := (Same_any pA pB qA qB pc pd qc qd pa pb pa pb w10 hIc10.out hId10.out hIe10.out hIf10.out (by omega) (by omega)).mono fun e w' h => ⟨by rw [h.1, decide_eq_true rfl, decide_eq_true rfl]; rfl, h.2⟩
    have y0 := hY10.out.cell (j := 0) rfl; have y1 := hY10.out.cell (j := 1) rfl; have y9 := hY10.out.lt
    have v0 := hZ10.out.cell (j := 0) rfl; have v1 := hZ10.out.cell (j := 1) rfl; have v9 := hZ10.out.lt
    go_wp2_with fail
    refine k2.out.mono ?_
    rintro e w11 ⟨rfl, hb⟩
    clear k2 y0 y1 y9 v0 v1 v9
    clear hY10 hZ10
    have hX11 := Lib.hid (hX10.out.below hb)
    have hB11 := Lib.hid (hB10.out.trans (hb.mono hB10.out.size))
    have hP11 := Lib.hid (hP10.out.below hb)
    have hIa11 := Lib.hid (hIa10.out.below hb)
    have hIb11 := Lib.hid (hIb10.out.below hb)
    have hIc11 := Lib.hid (hIc10.out.below hb)
    have hId11 := Lib.hid (hId10.out.below hb)
    have hIe11 := Lib.hid (hIe10.out.below hb)
    have hIf11 := Lib.hid (hIf10.out.below hb)
    clear hb hX10 hB10 hP10 hIa10 hIb10 hIc10 hId10 hIe10 hIf10
    go_wp2
    go_ret
    exact ⟨rfl, hB11.out⟩
end Co
end Go.Proofs.YtpmlhgmmobpilaaGreatDoor

/- Texts that the proof needs: CoG, MonSplitP, MonSort, MonSplit, MonInts, MonHead, MonConvP, LawMConverts, MonOwn, LawMRates. -/
import Derived.ProofKit
import Derived.Deep.QuietTactic
import Derived.BigQuiet
import Derived.Laws.ResultCell
import Derived.IntWalk
import Derived.Deep.RegionHeld3
import Derived.Test.YtpmlhgmmobpilaaGreatDoorKuA
import Derived.Test.YtpmlhgmmobpilaaGreatDoorKuB
import Derived.Test.YtpmlhgmmobpilaaGreatDoorKuC
import Derived.Test.YtpmlhgmmobpilaaGreatDoorKuD
namespace Go.Proofs.YtpmlhgmmobpilaaGreatDoor
open Go.RowKit Go.Shelf Go.Sort
namespace St
section
variable {α : Type} {key : α → Int} {pos : α → Nat}
/-- Not behind. -/
def Lek (key : α → Int) (pos : α → Nat) (x y : α) : Prop := kLt key pos y x = false
theorem lek_iff {x y : α} : Lek key pos x y ↔ key x < key y ∨ (key x = key y ∧ pos x ≤ pos y) := by
  unfold Lek kLt
  rw [decide_eq_false_iff_not]
  omega
theorem lek_trn : Trn (Lek key pos) := fun x y z h1 h2 => by
  rw [lek_iff] at h1 h2 ⊢
  omega
end
section
variable {α : Type} [Inhabited α] {key : α → Int} {pos : α → Nat} {lt : α → α → Bool} {d d' d0 : Array α} {n a b B : Nat}
/-- While the blocks of 20 are put in order. -/
structure InSt (key : α → Int) (pos : α → Nat) (n a : Nat) (d0 d : Array α) : Prop where
  perm : PermIn 0 n d0 d
  sz : d.size = n
  sep : ∀ i j, i / 20 < j / 20 → j < n → pos d[i]! < pos d[j]!
  asc : ∀ i j, a ≤ i → i < j → j < n → pos d[i]! < pos d[j]!
  done : ∀ i j, i < j → j < a → j < n → i / 20 = j / 20 → Lek key pos d[i]! d[j]!
/-- While blocks of B are merged. -/
structure BSt (key : α → Int) (pos : α → Nat) (B n a : Nat) (d0 d : Array α) : Prop where
  perm : PermIn 0 n d0 d
  sz : d.size = n
  sep2 : ∀ i j, i / (2 * B) < j / (2 * B) → j < n → pos d[i]! < pos d[j]!
  sep : ∀ i j, a ≤ i → i / B < j / B → j < n → pos d[i]! < pos d[j]!
  srt : ∀ i j, a ≤ i → i < j → j < n → i / B = j / B → Lek key pos d[i]! d[j]!
  done : ∀ i j, i < j → j < a → j < n → i / (2 * B) = j / (2 * B) → Lek key pos d[i]! d[j]!
theorem InSt.start (hs : d.size = n) (h : ∀ i j, i < j → j < n → pos d[i]! < pos d[j]!) : InSt key pos n 0 d d :=
  ⟨permIn_refl _ _ _, hs, fun i j h1 h2 => h i j (by omega) h2, fun i j _ h1 h2 => h i j h1 h2, fun i j _ h1 _ _ => absurd h1 (Nat.not_lt_zero _)⟩
/-- A relation of all pairs of two parts is kept where one of them is laid anew. -/
theorem pair_perm {P : α → α → Prop} (hp : PermIn a b d d') (hb : b ≤ d.size) {i j : Nat} (hij : ¬ (a ≤ i ∧ i < b ∧ a ≤ j ∧ j < b)) (h : ∀ i' j', (i' = i ∨ (a ≤ i ∧ i < b ∧ a ≤ i' ∧ i' < b)) → (j' = j ∨ (a ≤ j ∧ j < b ∧ a ≤ j' ∧ j' < b)) → P d[i']! d[j']!) : P d'[i]! d'[j]! := by
  by_cases ci : a ≤ i ∧ i < b
  · have ej : d'[j]! = d[j]! := hp.2.1 j (by omega)
    rw [ej]
    exact permIn_all d d' a b (fun u => P u d[j]!) hb hp (fun k h1 h2 => h k j (.inr ⟨ci.1, ci.2, h1, h2⟩) (.inl rfl)) i ci.1 ci.2
  · have ei : d'[i]! = d[i]! := hp.2.1 i (by omega)
    rw [ei]
    by_cases cj : a ≤ j ∧ j < b
    · exact permIn_all d d' a b (fun u => P d[i]! u) hb hp (fun k h1 h2 => h i k (.inl rfl) (.inr ⟨cj.1, cj.2, h1, h2⟩)) j cj.1 cj.2
    · have ej : d'[j]! = d[j]! := hp.2.1 j (by omega)
      rw [ej]
      exact h i j (.inl rfl) (.inl rfl)
theorem InSt.step (h : InSt key pos n a d0 d) (ha : a % 20 = 0) (hab : a ≤ b) (hb : b ≤ n) (hb2 : b ≤ a + 20) (hp : PermIn a b d d') (hs : SortedIn (kLt key pos) a b d') (_hbl : b = a + 20 ∨ b = n) : InSt key pos n b d0 d' := by
  have hsz := h.sz
  refine ⟨permIn_trans _ _ _ 0 n h.perm (permIn_mono _ _ a b 0 n (Nat.zero_le _) hb (by omega) hp), hp.1.trans hsz, fun i j h1 h2 => ?_, fun i j h1 h2 h3 => ?_, fun i j h1 h2 h3 h4 => ?_⟩
  · refine pair_perm (P := fun x y => pos x < pos y) hp (by omega) (by omega) fun i' j' hi hj => h.sep i' j' ?_ ?_
    · omega
    · omega
  · rw [hp.2.1 i (.inr h1), hp.2.1 j (.inr (by omega))]
    exact h.asc i j (by omega) h2 h3
  · by_cases c : j < a
    · rw [hp.2.1 i (.inl (by omega)), hp.2.1 j (.inl c)]
      exact h.done i j h1 c h3 h4
    · exact hs i j (by omega) h1 h2
theorem InSt.toB (h : InSt key pos n n d0 d) : BSt key pos 20 n 0 d0 d :=
  ⟨h.perm, h.sz, fun i j h1 h2 => h.sep i j (by omega) h2, fun i j _ h1 h2 => h.sep i j h1 h2, fun i j _ h1 h2 h3 => h.done i j h1 h2 h2 h3, fun i j _ h1 _ _ => absurd h1 (Nat.not_lt_zero _)⟩
theorem BSt.parts (h : BSt key pos B n a d0 d) (hB : B = 20 ∨ B = 40) (ha : a % (2 * B) = 0) (hm : a + B < b) (hb : b ≤ n) (hb2 : b ≤ a + 2 * B) (hlt : ∀ x y, lt x y = decide (key x < key y)) : Srt (Lek key pos) a (a + B) d ∧ Srt (Lek key pos) (a + B) b d ∧ Tells lt (Lek key pos) a (a + B) b d := by
  rcases hB with rfl | rfl
  all_goals
    refine ⟨fun i j h1 h2 h3 => h.srt i j h1 h2 (by omega) (by omega), fun i j h1 h2 h3 => h.srt i j (by omega) h2 (by omega) (by omega), fun i j h1 h2 h3 h4 => ?_⟩
    have hpos := h.sep i j h1 (by omega) (by omega)
    rw [hlt, decide_eq_true_iff, decide_eq_false_iff_not, lek_iff, lek_iff]
    omega
theorem BSt.step (h : BSt key pos B n a d0 d) (hB : B = 20 ∨ B = 40) (ha : a % (2 * B) = 0) (hm : a + B < b) (hb : b ≤ n) (hb2 : b ≤ a + 2 * B) (hbl : b = a + 2 * B ∨ b = n) (hM : Mrg (Lek key pos) a b d d') : BSt key pos B n (a + 2 * B) d0 d' := by
  have hsz := h.sz
  obtain ⟨hp, hs⟩ := hM
  refine ⟨permIn_trans _ _ _ 0 n h.perm (permIn_mono _ _ a b 0 n (Nat.zero_le _) hb (by omega) hp), hp.1.trans hsz, fun i j h1 h2 => ?_, fun i j h1 h2 h3 => ?_, fun i j h1 h2 h3 h4 => ?_, fun i j h1 h2 h3 h4 => ?_⟩
  · refine pair_perm (P := fun x y => pos x < pos y) hp (by omega) ?_ fun i' j' hi hj => h.sep2 i' j' ?_ ?_
    · rcases hB with rfl | rfl <;> omega
    · rcases hB with rfl | rfl <;> omega
    · omega
  · have hj : b ≤ j := by rcases hB with rfl | rfl <;> omega
    rw [hp.2.1 i (.inr (by omega)), hp.2.1 j (.inr hj)]
    exact h.sep i j (by omega) h2 h3
  · rw [hp.2.1 i (.inr (by omega)), hp.2.1 j (.inr (by omega))]
    exact h.srt i j (by omega) h2 h3 h4
  · by_cases c : j < a
    · rw [hp.2.1 i (.inl (by omega)), hp.2.1 j (.inl c)]
      exact h.done i j h1 c h3 h4
    · refine hs i j ?_ h1 (by omega)
      rcases hB with rfl | rfl <;> omega
theorem BSt.next (h : BSt key pos B n a d0 d) (hB : B = 20 ∨ B = 40) (ha : a % (2 * B) = 0) (hn : n ≤ a + B) : BSt key pos (2 * B) n 0 d0 d := by
  refine ⟨h.perm, h.sz, fun i j h1 h2 => h.sep2 i j ?_ h2, fun i j _ h1 h2 => h.sep2 i j h1 h2, fun i j _ h1 h2 h3 => ?_, fun i j _ h1 _ _ => absurd h1 (Nat.not_lt_zero _)⟩
  · rcases hB with rfl | rfl <;> omega
  · by_cases c : j < a
    · exact h.done i j h1 c h2 h3
    · refine h.srt i j ?_ h1 h2 ?_
      · rcases hB with rfl | rfl <;> omega
      · rcases hB with rfl | rfl <;> omega
theorem BSt.last (h : BSt key pos B n 0 d0 d) (hn : n ≤ B) : PermIn 0 n d0 d ∧ SortedIn (kLt key pos) 0 n d :=
  ⟨h.perm, fun i j h1 h2 h3 => h.srt i j h1 h2 h3 (by rw [Nat.div_eq_of_lt (by omega), Nat.div_eq_of_lt (by omega)])⟩
theorem ins_ok (h : InSt key pos n a d0 d) (hb : b ≤ n) (hab : a ≤ b) (hlt : ∀ x y, lt x y = decide (key x < key y)) : PermIn a b d (insertionSort lt d a b) ∧ SortedIn (kLt key pos) a b (insertionSort lt d a b) := by
  have e : insertionSort lt d a b = insertionSort (kLt key pos) d a b := by
    refine insertionSort_eq (by have := h.sz; omega) fun k j h1 h2 h3 => ?_
    have hpos := h.asc k j h1 h2 (by omega)
    rw [hlt]
    show decide _ = decide _
    rw [decide_eq_decide]
    omega
  rw [e]
  exact insertionSort_holds (kLt_swo key pos) d a b hab (by have := h.sz; omega)
end
end St
end Go.Proofs.YtpmlhgmmobpilaaGreatDoor
namespace Go.Proofs.YtpmlhgmmobpilaaGreatDoor
open Go.RowKit Go.Shelf Go.Sort
namespace St
open Nt Ci
set_option maxRecDepth 100000 in
set_option maxHeartbeats 8000000 in
theorem stable_any {α : Type} [Inhabited α] (nm : α → Nat) (cf : α → α → Int) (g : Nat) (cb : Array Value) (eg : ∀ args w, (callFunc g args).run Tryz.prog w = .ok (.enter g args) w) (key : α → Int) (pos : α → Nat) (hlt : ∀ x y, ltOf cf x y = decide (key x < key y)) (bl cap n : Nat) (d : Array α) (w : World) (HC : CmpOn Tryz.prog g cb nm cf bl w) (hR : Ro nm w bl d) (hn : d.size = n) (hn80 : n < 80) (hasc : ∀ i j, i < j → j < n → pos d[i]! < pos d[j]!) :
    Calls Tryz.prog 108 #[.slice (some ⟨bl, 0, none⟩) n cap, .int .i64 (n : Int), .func (.func g) #[] cb] w fun e w' => e = .returned (.tuple #[]) ∧ (∃ d', (PermIn 0 n d d' ∧ SortedIn (kLt key pos) 0 n d') ∧ Ro nm w' bl d') ∧ Kp [bl] w w' := by
  have hI0 : Hid (InSt key pos n 0 d d) := InSt.start hn hasc
  have ki : Hid (∀ (a b : Nat) (D : Array α) (W : World), InSt key pos n a d D → Kp [bl] w W → Ro nm W bl D → a ≤ b → b ≤ n → Calls Tryz.prog 143 #[.slice (some ⟨bl, 0, none⟩) n cap, .int .i64 (a : Int), .int .i64 (b : Int), .func (.func g) #[] cb] W fun e w' => e = .returned (.tuple #[]) ∧ (∃ D', (PermIn a b D D' ∧ SortedIn (kLt key pos) a b D') ∧ Ro nm w' bl D') ∧ Kp [bl] W w') := fun a b D W hI hK hO hab hb => by
    have hD := hI.sz
    have h := ins_any nm cf g cb eg bl cap a b D w W hK HC hO hab (by omega) (by omega)
    rw [hD] at h
    exact h.mono fun e w' h => ⟨h.1, ⟨_, ins_ok hI hb hab hlt, h.2.1⟩, h.2.2⟩
  have ks : Hid (∀ (B a b : Nat) (D : Array α) (W : World), (B = 20 ∨ B = 40) → BSt key pos B n a d D → Kp [bl] w W → Ro nm W bl D → a % (2 * B) = 0 → a + B < b → b ≤ n → b ≤ a + 2 * B → Calls Tryz.prog 144 #[.slice (some ⟨bl, 0, none⟩) n cap, .int .i64 (a : Int), .int .i64 ((a + B : Nat) : Int), .int .i64 (b : Int), .func (.func g) #[] cb] W (SymPost nm (Lek key pos) bl a b D W)) := fun B a b D W hB hI hK hO ha hab hb hb2 => by
    have hD := hI.sz
    obtain ⟨p1, p2, p3⟩ := hI.parts (lt := ltOf cf) hB ha hab hb hb2 hlt
    have h := sym_any nm cf g cb eg (Lek key pos) lek_trn bl cap w HC (b - a) a (a + B) b D W (Nat.le_refl _) hK hO (by omega) (by omega) (by omega) (by omega) p1 p2 p3
    rwa [hD] at h
  replace hR := Lib.hid hR
  replace hlt := Lib.hid hlt
  clear hasc HC
  replace hn := Lib.hid hn
  go_enter Tryz.func108, Tryz.ntmps108
  go_wp2
  go_loopw [7, 8] (fun ax bx wr => ∃ (a : Nat) (D : Array α), a ≤ n ∧ a % 20 = 0 ∧ ax = .int .i64 (a : Int) ∧ bx = .int .i64 ((a + 20 : Nat) : Int) ∧ Hid (InSt key pos n a d D) ∧ Hid (Ro nm wr bl D) ∧ Hid (Kp [bl] w wr)) (fun ax _ _ => n - (intOf ax).toNat)
  case atStart => exact ⟨0, d, Nat.zero_le _, rfl, rfl, rfl, hI0, hR, Kp.refl _ _⟩
  case round =>
    obtain ⟨a, D, han, ha, rfl, rfl, hI, hO, hK⟩ := hrel
    by_cases hab : a + 20 ≤ n
    · have t1 : decide (((a + 20 : Nat) : Int) ≤ (n : Int)) = true := decide_eq_true (by omega)
      have kc := Lib.hid (ki.out a (a + 20) D wr hI.out hK.out hO.out (by omega) hab)
      obtain ⟨b, hb⟩ : ∃ b, b = a + 20 := ⟨_, rfl⟩
      rw [← hb] at t1 kc ⊢
      have t1n : decide (b ≤ n) = true := decide_eq_true (by omega)
      have hb9 : b ≤ 100 := by omega
      replace hb := Lib.hid hb
      go_wp2_with fail
      refine kc.out.mono ?_
      rintro e w2 ⟨rfl, ⟨D2, hM, hO2⟩, hK2⟩
      have hI2 : Hid (InSt key pos n b d D2) := hI.out.step ha (by have := hb.out; omega) (by have := hb.out; omega) (by have := hb.out; omega) hM.1 hM.2 (.inl hb.out)
      replace hO2 := Lib.hid hO2
      replace hK2 := Lib.hid (kp_trans hK.out hK2)
      clear hM kc hI hO hK
      go_wp2
      exact ⟨⟨b, D2, by have := hb.out; omega, by have := hb.out; omega, by first | rfl | trivial, by go_num, hI2, hO2, hK2⟩, by have := hb.out; simp only [intOf]; omega⟩
    · have t1 : decide (((a + 20 : Nat) : Int) ≤ (n : Int)) = false := decide_eq_false (by omega)
      have kc := Lib.hid (ki.out a n D wr hI.out hK.out hO.out han (Nat.le_refl _))
      obtain ⟨b, hb⟩ : ∃ b, b = a + 20 := ⟨_, rfl⟩
      rw [← hb] at t1 ⊢
      have t1n : decide (b ≤ n) = false := decide_eq_false (by omega)
      have hb9 : b ≤ 100 := by omega
      replace hb := Lib.hid hb
      replace hab := Lib.hid hab
      go_wp2_with fail
      refine kc.out.mono ?_
      rintro e w2 ⟨rfl, ⟨D2, hM, hO2⟩, hK2⟩
      have hI2 : Hid (InSt key pos n n d D2) := hI.out.step ha han (Nat.le_refl _) (by have := hab.out; omega) hM.1 hM.2 (.inr rfl)
      have hB2 : Hid (BSt key pos 20 n 0 d D2) := hI2.out.toB
      replace hO2 := Lib.hid hO2
      replace hK2 := Lib.hid (kp_trans hK.out hK2)
      clear hM kc hI hO hK hI2
      go_wp2
      go_loopw [6] (fun Bx wr => ∃ (B : Nat) (D : Array α), (B = 20 ∨ B = 40 ∨ B = 80) ∧ Bx = .int .i64 (B : Int) ∧ Hid (BSt key pos B n 0 d D) ∧ Hid (Ro nm wr bl D) ∧ Hid (Kp [bl] w wr)) (fun Bx _ => 80 - (intOf Bx).toNat)
      case atStart => exact ⟨20, D2, .inl rfl, rfl, hB2, hO2, hK2⟩
      case round =>
        obtain ⟨B, D3, hB, rfl, hI3, hO3, hK3⟩ := hrel
        by_cases hBn : B < n
        · have hB4 : B = 20 ∨ B = 40 := by omega
          have t2 : decide ((B : Int) < (n : Int)) = true := decide_eq_true (by omega)
          have t2n : decide (B < n) = true := decide_eq_true hBn
          have hb20 : 20 ≤ B := by omega
          have hb40 : B ≤ 40 := by omega
          replace hB := Lib.hid hB
          replace hB4 := Lib.hid hB4
          go_wp2
          go_loopw [7, 8] (fun ax bx wr => ∃ (a : Nat) (D : Array α), a ≤ n ∧ Hid (a % (2 * B) = 0) ∧ ax = .int .i64 (a : Int) ∧ bx = .int .i64 ((a + 2 * B : Nat) : Int) ∧ Hid (BSt key pos B n a d D) ∧ Hid (Ro nm wr bl D) ∧ Hid (Kp [bl] w wr)) (fun ax _ _ => n - (intOf ax).toNat)
          case atStart => exact ⟨0, D3, Nat.zero_le _, Nat.zero_mod _, rfl, by go_num, hI3, hO3, hK3⟩
          case round =>
            obtain ⟨a, D4, han, ha, rfl, rfl, hI4, hO4, hK4⟩ := hrel
            obtain ⟨b, hb⟩ : ∃ b, b = a + 2 * B := ⟨_, rfl⟩
            rw [← hb]
            by_cases hbn : b ≤ n
            · have kc := Lib.hid (ks.out B a b D4 wr hB4.out hI4.out hK4.out hO4.out ha.out (by omega) hbn (by omega))
              have t3 : decide ((b : Int) ≤ (n : Int)) = true := decide_eq_true (by omega)
              have t3n : decide (b ≤ n) = true := decide_eq_true hbn
              have hb9 : b ≤ 200 := by omega
              have ha2 : Hid (b % (2 * B) = 0) := by show _ = _; rw [hb, Nat.add_mod, ha.out]; simp
              rw [show ((a + B : Nat) : Int) = (a : Int) + (B : Int) by omega] at kc
              have hbN : Hid (a ≤ n ∧ b = a + 2 * B ∧ b ≤ n) := ⟨han, hb, hbn⟩
              clear hb
              go_wp2_with fail
              refine kc.out.mono ?_
              rintro e w5 ⟨rfl, ⟨D5, hM, hO5⟩, hK5⟩
              have hI5 : Hid (BSt key pos B n b d D5) := by
                have h := hI4.out.step hB4.out ha.out (b := b) (by have := hbN.out; omega) hbn (by have := hbN.out; omega) (.inl hbN.out.2.1) hM
                rw [← hbN.out.2.1] at h
                exact h
              replace hO5 := Lib.hid hO5
              replace hK5 := Lib.hid (kp_trans hK4.out hK5)
              clear hM kc hI4 hO4 hK4
              go_wp2
              exact ⟨⟨b, D5, hbn, ha2, by first | rfl | trivial, by go_num, hI5, hO5, hK5⟩, by have := hbN.out; simp only [intOf]; omega⟩
            · have t3 : decide ((b : Int) ≤ (n : Int)) = false := decide_eq_false (by omega)
              have t3n : decide (b ≤ n) = false := decide_eq_false hbn
              obtain ⟨m, hm⟩ : ∃ m, m = a + B := ⟨_, rfl⟩
              have t4 : (a : Int) + (B : Int) = (m : Int) := by omega
              have hm9 : m ≤ 200 := by omega
              by_cases hmn : m < n
              · have kc := Lib.hid (ks.out B a n D4 wr hB4.out hI4.out hK4.out hO4.out ha.out (by omega) (Nat.le_refl _) (by omega))
                rw [← hm] at kc
                have t5 : decide ((m : Int) < (n : Int)) = true := decide_eq_true (by omega)
                have t5n : decide (m < n) = true := decide_eq_true hmn
                have hbN : Hid (n < a + 2 * B ∧ a + B < n) := ⟨by omega, by omega⟩
                clear hb hbn; replace hm := Lib.hid hm
                go_wp2_with fail
                refine kc.out.mono ?_
                rintro e w5 ⟨rfl, ⟨D5, hM, hO5⟩, hK5⟩
                have hI5 : Hid (BSt key pos (2 * B) n 0 d D5) := by
                  have h := hI4.out.step hB4.out ha.out (b := n) hbN.out.2 (Nat.le_refl _) (by have := hbN.out; omega) (.inr rfl) hM
                  refine h.next hB4.out ?_ (by have := hbN.out; omega)
                  rw [Nat.add_mod, ha.out]; simp
                replace hO5 := Lib.hid hO5
                replace hK5 := Lib.hid (kp_trans hK4.out hK5)
                clear hM kc hI4 hO4 hK4
                go_wp2
                exact ⟨⟨2 * B, D5, by have := hB4.out; omega, by go_num, hI5, hO5, hK5⟩, by simp only [intOf]; omega⟩
              · have t5 : decide ((m : Int) < (n : Int)) = false := decide_eq_false (by omega)
                have t5n : decide (m < n) = false := decide_eq_false hmn
                have hI5 : Hid (BSt key pos (2 * B) n 0 d D4) := hI4.out.next hB4.out ha.out (by omega)
                clear hI4 hb hbn; replace hm := Lib.hid hm
                go_wp2
                exact ⟨⟨2 * B, D4, by have := hB4.out; omega, by go_num, hI5, hO4, hK4⟩, by simp only [intOf]; omega⟩
        · have t2 : decide ((B : Int) < (n : Int)) = false := decide_eq_false (by omega)
          have t2n : decide (B < n) = false := decide_eq_false hBn
          have hfin := Lib.hid (hI3.out.last (by omega))
          replace hB := Lib.hid hB
          go_wp2
          go_end0
          exact ⟨rfl, ⟨D3, hfin.out, hO3.out⟩, hK3.out⟩
end St
end Go.Proofs.YtpmlhgmmobpilaaGreatDoor
namespace Go.Proofs.YtpmlhgmmobpilaaGreatDoor
open Go.RowKit Go.Shelf Go.Sort
namespace Co
open Nt Ci St
end Co
end Go.Proofs.YtpmlhgmmobpilaaGreatDoor

namespace Go.Proofs.YtpmlhgmmobpilaaGreatDoor
namespace Mo
/-- a stands ahead of b: by the keys, and where these are equal by the numbers. -/
def Bef (o : Nat → Int) (a b : Nat) : Prop := o a < o b ∨ (o a = o b ∧ a < b)
instance (o : Nat → Int) (a b : Nat) : Decidable (Bef o a b) := inferInstanceAs (Decidable (_ ∨ _))
/-- How many of the numbers below n stand ahead of i. -/
def rankS (o : Nat → Int) (n i : Nat) : Nat := ((List.range n).filter fun j => decide (Bef o j i)).length
/-- l has the numbers below n, in their order. -/
def Srt (o : Nat → Int) (n : Nat) (l : List Nat) : Prop := l.Perm (List.range n) ∧ l.Pairwise (Bef o)
section
variable {o : Nat → Int} {n i k : Nat} {l : List Nat}
theorem Srt.len (h : Srt o n l) : l.length = n := by rw [h.1.length_eq, List.length_range]
theorem Srt.mem (h : Srt o n l) {x : Nat} : x ∈ l ↔ x < n := by rw [h.1.mem_iff, List.mem_range]
theorem bef_asymm {a b : Nat} (h : Bef o a b) (h2 : Bef o b a) : False := by unfold Bef at h h2; omega
theorem filter_lt {P : Nat → Bool} : ∀ {l : List Nat} {k : Nat}, k ≤ l.length → (∀ j (h : j < l.length), P l[j] = decide (j < k)) → (l.filter P).length = k := by
  intro l
  induction l with
  | nil => intro k hk _; simp at hk; simp [hk]
  | cons a l ih =>
    intro k hk h
    have h0 := h 0 (by simp)
    cases k with
    | zero =>
      have := ih (k := 0) (Nat.zero_le _) fun j hj => by have := h (j + 1) (by simpa using hj); simpa using this
      rw [List.filter_cons, if_neg (by simpa using h0)]
      exact this
    | succ k =>
      have := ih (k := k) (by simpa using hk) fun j hj => by
        have := h (j + 1) (by simpa using hj)
        rw [List.getElem_cons_succ] at this
        rw [this]
        exact decide_eq_decide.2 (by omega)
      rw [List.filter_cons, if_pos (by simpa using h0), List.length_cons, this]
/-- The rank of the element at place k is k. -/
theorem Srt.rank (h : Srt o n l) (hk : k < l.length) : rankS o n l[k] = k := by
  unfold rankS
  rw [← (h.1.filter _).length_eq]
  refine filter_lt (by omega) fun j hj => ?_
  have hp := List.pairwise_iff_getElem.1 h.2
  by_cases c : j < k
  · rw [decide_eq_true c]
    exact decide_eq_true (hp j k hj hk c)
  · rw [decide_eq_false c]
    refine decide_eq_false fun hb => ?_
    by_cases e : j = k
    · subst e; exact bef_asymm hb hb
    · exact bef_asymm hb (hp k j hk hj (by omega))
/-- The first ones are those of small rank. -/
theorem Srt.take (h : Srt o n l) (hi : i < n) : i ∈ l.take k ↔ rankS o n i < k := by
  obtain ⟨j, hj, rfl⟩ := List.getElem_of_mem (h.mem.2 hi)
  rw [h.rank hj]
  constructor
  · intro hm
    obtain ⟨j2, hj2, e⟩ := List.getElem_of_mem hm
    rw [List.length_take] at hj2
    rw [List.getElem_take] at e
    have h1 := h.rank hj
    rw [← e, h.rank (by omega)] at h1
    omega
  · intro hlt
    exact List.mem_of_getElem (i := j) (h := by rw [List.length_take]; omega) (by rw [List.getElem_take])
end
def sumI (l : List Int) : Int := l.foldl (· + ·) 0
theorem foldl_add (l : List Int) : ∀ a, l.foldl (· + ·) a = a + l.foldl (· + ·) 0 := by
  induction l with
  | nil => intro a; simp
  | cons x l ih => intro a; rw [List.foldl_cons, List.foldl_cons, ih (a + x), ih (0 + x)]; omega
theorem sumI_nil : sumI [] = 0 := rfl
theorem sumI_cons (x : Int) (l : List Int) : sumI (x :: l) = x + sumI l := by unfold sumI; rw [List.foldl_cons, foldl_add]; omega
theorem sumI_append (l m : List Int) : sumI (l ++ m) = sumI l + sumI m := by
  induction l with
  | nil => simp [sumI_nil]
  | cons x l ih => rw [List.cons_append, sumI_cons, sumI_cons, ih]; omega
theorem sumI_take {l : List Int} {k : Nat} (h : k < l.length) : sumI (l.take (k + 1)) = sumI (l.take k) + l[k] := by
  rw [List.take_succ_eq_append_getElem h, sumI_append, sumI_cons, sumI_nil]; omega
theorem sumI_nonneg {l : List Int} (h : ∀ x, x ∈ l → 0 ≤ x) : 0 ≤ sumI l := by
  induction l with
  | nil => simp [sumI_nil]
  | cons x l ih =>
    rw [sumI_cons]
    have := h x (List.mem_cons_self ..)
    have := ih fun y hy => h y (List.mem_cons_of_mem _ hy)
    omega
theorem sumI_le {l : List Int} {c : Int} (h : ∀ x, x ∈ l → x ≤ c) : sumI l ≤ c * l.length := by
  induction l with
  | nil => simp [sumI_nil]
  | cons x l ih =>
    rw [sumI_cons, List.length_cons]
    have := h x (List.mem_cons_self ..)
    have := ih fun y hy => h y (List.mem_cons_of_mem _ hy)
    have e : c * ((l.length + 1 : Nat) : Int) = c * l.length + c := by rw [Int.natCast_add, Int.mul_add]; simp
    omega
theorem sumI_map_add {α : Type} (l : List α) (f g : α → Int) : sumI (l.map fun x => f x + g x) = sumI (l.map f) + sumI (l.map g) := by
  induction l with
  | nil => simp [sumI_nil]
  | cons x l ih => simp only [List.map_cons, sumI_cons, ih]; omega
theorem sumI_map_mul {α : Type} (l : List α) (f : α → Int) (c : Int) : sumI (l.map fun x => c * f x) = c * sumI (l.map f) := by
  induction l with
  | nil => simp [sumI_nil]
  | cons x l ih => simp only [List.map_cons, sumI_cons, ih, Int.mul_add]
/-- The parts that Split accepts. -/
def okPart (p : Int) : Bool := decide (0 ≤ p ∧ p ≤ 1000000)
def splitOk (units : Int) (parts : List Int) : Bool := parts.all okPart && decide (0 ≤ units ∧ units ≤ 1000000000000) && decide (parts.length ≤ 400) && decide (sumI parts ≠ 0)
def flo (units : Int) (parts : List Int) (i : Nat) : Int := units * parts.getD i 0 / sumI parts
def rem (units : Int) (parts : List Int) (i : Nat) : Int := units * parts.getD i 0 % sumI parts
def leftS (units : Int) (parts : List Int) : Int := units - sumI ((List.range parts.length).map (flo units parts))
/-- What party i gets more than the share rounded down. -/
def incS (units : Int) (parts : List Int) (i : Nat) : Int := if (rankS (fun j => - rem units parts j) parts.length i : Int) < leftS units parts then 1 else 0
def splitR (units : Int) (parts : List Int) : List Int := (List.range parts.length).map fun i => flo units parts i + incS units parts i
section
variable {units : Int} {parts : List Int} {i : Nat}
theorem split_len : (splitR units parts).length = parts.length := by simp [splitR]
theorem range_getD (l : List Int) : (List.range l.length).map (fun i => l.getD i 0) = l := by
  refine List.ext_getElem (by simp) fun i h1 h2 => ?_
  simp [List.getD_eq_getElem?_getD, h2]
/-- What Split has accepted. -/
structure SplitOk (units : Int) (parts : List Int) : Prop where
  p : ∀ i, 0 ≤ parts.getD i 0 ∧ parts.getD i 0 ≤ 1000000
  u : 0 ≤ units ∧ units ≤ 1000000000000
  n : parts.length ≤ 400
  s : 0 < sumI parts ∧ sumI parts ≤ 400000000
theorem splitOk_iff : splitOk units parts = true → SplitOk units parts := by
  intro h
  unfold splitOk at h
  simp only [Bool.and_eq_true, decide_eq_true_eq, List.all_eq_true] at h
  obtain ⟨⟨⟨h1, h2⟩, h3⟩, h4⟩ := h
  have h1' : ∀ x, x ∈ parts → 0 ≤ x ∧ x ≤ 1000000 := fun x hx => of_decide_eq_true (h1 x hx)
  have s0 := sumI_nonneg fun x hx => (h1' x hx).1
  have s1 := sumI_le fun x hx => (h1' x hx).2
  refine ⟨fun i => ?_, h2, h3, ?_⟩
  · by_cases c : i < parts.length
    · have e : parts.getD i 0 = parts[i] := by simp [List.getD_eq_getElem?_getD, c]
      rw [e]
      exact h1' _ (List.getElem_mem c)
    · have e : parts.getD i 0 = 0 := by simp [List.getD_eq_getElem?_getD, Nat.le_of_not_lt c]
      rw [e]; omega
  · omega
theorem flo_rem (h : SplitOk units parts) (i : Nat) : units * parts.getD i 0 = sumI parts * flo units parts i + rem units parts i ∧ 0 ≤ rem units parts i ∧ rem units parts i < sumI parts ∧ 0 ≤ flo units parts i := by
  have hp := h.p i
  have hs := h.s
  have h0 : 0 ≤ units * parts.getD i 0 := Int.mul_nonneg h.u.1 hp.1
  unfold flo rem
  exact ⟨(Int.mul_ediv_add_emod _ _).symm, Int.emod_nonneg _ (by omega), Int.emod_lt_of_pos _ hs.1, Int.ediv_nonneg h0 (by omega)⟩
/-- What is left is the sum of the remainders. -/
theorem left_rem (h : SplitOk units parts) : sumI parts * leftS units parts = sumI ((List.range parts.length).map (rem units parts)) := by
  have e1 : sumI ((List.range parts.length).map fun i => units * parts.getD i 0) = units * sumI parts := by
    rw [sumI_map_mul, range_getD]
  have e2 : sumI ((List.range parts.length).map fun i => units * parts.getD i 0) = sumI ((List.range parts.length).map fun i => sumI parts * flo units parts i + rem units parts i) := by
    congr 1
    exact List.map_congr_left fun i _ => (flo_rem h i).1
  rw [e1, sumI_map_add, sumI_map_mul _ (flo units parts)] at e2
  unfold leftS
  rw [Int.mul_sub, Int.mul_comm (sumI parts) units]
  omega
theorem left_bounds (h : SplitOk units parts) : 0 ≤ leftS units parts ∧ leftS units parts ≤ parts.length := by
  have h1 := left_rem h
  have h2 : 0 ≤ sumI ((List.range parts.length).map (rem units parts)) := sumI_nonneg fun x hx => by
    obtain ⟨i, _, rfl⟩ := List.mem_map.1 hx
    exact (flo_rem h i).2.1
  have h3 : sumI ((List.range parts.length).map (rem units parts)) ≤ sumI parts * parts.length := by
    have := sumI_le (l := (List.range parts.length).map (rem units parts)) (c := sumI parts) fun x hx => by
      obtain ⟨i, _, rfl⟩ := List.mem_map.1 hx
      exact Int.le_of_lt (flo_rem h i).2.2.1
    simpa using this
  have hs := h.s.1
  rw [← h1] at h2 h3
  constructor
  · by_cases c : 0 ≤ leftS units parts
    · exact c
    · exfalso
      have : sumI parts * leftS units parts < 0 := Int.mul_neg_of_pos_of_neg hs (by omega)
      omega
  · exact Int.le_of_mul_le_mul_left h3 hs
end
end Mo
end Go.Proofs.YtpmlhgmmobpilaaGreatDoor

namespace Go.Proofs.YtpmlhgmmobpilaaGreatDoor
open Go.RowKit Go.Shelf Go.Sort
namespace Mo
open Nt Ci St
/-- What Split's inner functions read. -/
structure SpIn (w : World) (ub pb sb fb : Nat) (units : Int) (A : Option Addr) (c : Nat) (parts : List Int) : Prop where
  u : w.cell? ⟨ub, 0, none⟩ = some (.int .i64 units)
  p : w.cell? ⟨pb, 0, none⟩ = some (.slice A parts.length c)
  s : w.cell? ⟨sb, 0, none⟩ = some (.int .i64 (sumI parts))
  f : w.cell? ⟨fb, 0, none⟩ = some (.func (.func 52) #[] #[.pointer (some ⟨ub, 0, none⟩), .pointer (some ⟨pb, 0, none⟩), .pointer (some ⟨sb, 0, none⟩)])
  l : InInt w A parts
theorem SpIn.kp {w w' : World} {ub pb sb fb bl : Nat} {units : Int} {A : Option Addr} {c : Nat} {parts : List Int} (h : SpIn w ub pb sb fb units A c parts) (hk : Kp [bl] w w') (h1 : ub ≠ bl) (h2 : pb ≠ bl) (h3 : sb ≠ bl) (h4 : fb ≠ bl) (h5 : ∀ b o, A = some ⟨b, o, none⟩ → b ≠ bl) : SpIn w' ub pb sb fb units A c parts := by
  have hc : ∀ {a : Addr} {v : Value}, a.block ≠ bl → w.cell? a = some v → w'.cell? a = some v := fun {a v} hne hv =>
    (World.cell?_of_block (a := a) (hk.block a.block (World.block_lt_of_cell? w _ hv) (by simpa using hne))).trans hv
  refine ⟨hc (by simpa using h1) h.u, hc (by simpa using h2) h.p, hc (by simpa using h3) h.s, hc (by simpa using h4) h.f, fun h0 => ?_⟩
  obtain ⟨b, o, e, hl, hcc⟩ := h.l h0
  exact ⟨b, o, e, Nat.lt_of_lt_of_le hl hk.size, fun j hj => hc (by simpa using h5 b o e) (hcc j hj)⟩
section
variable {units : Int} {parts : List Int}
theorem mul_lim (h : SplitOk units parts) (i : Nat) : 0 ≤ units * parts.getD i 0 ∧ units * parts.getD i 0 ≤ 1000000000000000000 := by
  have hp := h.p i
  refine ⟨Int.mul_nonneg h.u.1 hp.1, ?_⟩
  have h1 : units * parts.getD i 0 ≤ 1000000000000 * 1000000 := Int.mul_le_mul h.u.2 hp.2 hp.1 (by decide)
  exact h1
theorem rem_tmod (h : SplitOk units parts) (i : Nat) : (units * parts.getD i 0).tmod (sumI parts) = rem units parts i := by
  unfold rem
  exact Int.tmod_eq_emod_of_nonneg (mul_lim h i).1
theorem flo_tdiv (h : SplitOk units parts) (i : Nat) : (units * parts.getD i 0).tdiv (sumI parts) = flo units parts i := by
  unfold flo
  exact Int.tdiv_eq_ediv_of_nonneg (mul_lim h i).1
theorem rem_lim (h : SplitOk units parts) (i : Nat) : 0 ≤ rem units parts i ∧ rem units parts i ≤ 400000000 := by
  have h1 := flo_rem h i
  have h2 := h.s
  omega
end
set_option maxRecDepth 100000 in
theorem rest_any (ub pb sb fb c i : Nat) (units : Int) (A : Option Addr) (parts : List Int) (w : World) (hS : SpIn w ub pb sb fb units A c parts) (h : SplitOk units parts) (hi : i < parts.length) :
    Calls Tryz.prog 52 #[.int .i64 (i : Int), .pointer (some ⟨ub, 0, none⟩), .pointer (some ⟨pb, 0, none⟩), .pointer (some ⟨sb, 0, none⟩)] w fun e w' => e = .returned (.int .i64 (rem units parts i)) ∧ ∃ q, w' = w.drewN q := by
  obtain ⟨b, o, rfl, hl, hcc⟩ := hS.l (by omega)
  have e1 := hcc i hi
  have c1 := hS.u; have c2 := hS.p; have c3 := hS.s
  have l1 := World.block_lt_of_cell? w _ c1; have l2 := World.block_lt_of_cell? w _ c2; have l3 := World.block_lt_of_cell? w _ c3
  have hg : parts.getD i 0 = parts[i] := by simp [List.getD_eq_getElem?_getD, hi]
  have hm := mul_lim h i
  have ht := rem_tmod h i
  have hr := rem_lim h i
  have hs := h.s
  have hd : units * parts.getD i 0 % sumI parts = rem units parts i := rfl
  rw [hg] at hm ht hd
  have j0 : (0 : Int) ≤ (i : Int) := by omega
  have j1 : (i : Int) < (parts.length : Int) := by omega
  have hn := h.n
  clear hcc hS
  generalize rem units parts i = r at ht hr hd ⊢
  generalize sumI parts = S at ht c3 hs hd
  generalize parts[i] = p at ht hm e1 hd
  obtain ⟨m, hme⟩ : ∃ m, m = units * p := ⟨_, rfl⟩
  rw [← hme] at ht hm
  have hmw : IntKind.i64.wrap (units * p) = m := by rw [← hme]; exact IntWalk.i64_in _ (by omega)
  replace hd := Lib.hid hd
  have hS0 : (S == 0) = false := by rw [beq_eq_false_iff_ne]; omega
  have hrw : IntKind.i64.wrap (m.tmod S) = r := by rw [ht]; exact IntWalk.i64_in _ (by omega)
  clear hg h
  go_enter Tryz.func52, Tryz.ntmps52
  go_wp2_with fail
  go_quiet (fail)
  go_wp2
  go_ret
  exact ⟨by rw [← hd.out]; rfl, _, rfl⟩
theorem SpIn.drewN {w : World} {ub pb sb fb : Nat} {units : Int} {A : Option Addr} {c : Nat} {parts : List Int} (h : SpIn w ub pb sb fb units A c parts) (q : Nat) : SpIn (w.drewN q) ub pb sb fb units A c parts := ⟨h.u, h.p, h.s, h.f, h.l⟩
set_option maxRecDepth 100000 in
set_option maxHeartbeats 4000000 in
/-- The comparison that Split hands to the sort. -/
theorem cmpS_any (r : Nat → Int) (ub pb sb fb c x y : Nat) (units : Int) (A : Option Addr) (parts : List Int) (w : World) (hS : SpIn w ub pb sb fb units A c parts) (h : SplitOk units parts) (hx : x < parts.length) (hy : y < parts.length) (hr : r = rem units parts) :
    Calls Tryz.prog 54 #[.int .i64 (x : Int), .int .i64 (y : Int), .pointer (some ⟨fb, 0, none⟩)] w fun e w' => e = .returned (.int .i64 (r y - r x)) ∧ ∃ q, w' = w.drewN q := by
  rw [hr]
  have kx : Hid (∀ q, Calls Tryz.prog 52 #[.int .i64 (x : Int), .pointer (some ⟨ub, 0, none⟩), .pointer (some ⟨pb, 0, none⟩), .pointer (some ⟨sb, 0, none⟩)] (w.drewN q) fun e w' => e = .returned (.int .i64 (rem units parts x)) ∧ ∃ q2, w' = (w.drewN q).drewN q2) := fun q => rest_any ub pb sb fb c x units A parts (w.drewN q) (hS.drewN q) h hx
  have ky : Hid (∀ q, Calls Tryz.prog 52 #[.int .i64 (y : Int), .pointer (some ⟨ub, 0, none⟩), .pointer (some ⟨pb, 0, none⟩), .pointer (some ⟨sb, 0, none⟩)] (w.drewN q) fun e w' => e = .returned (.int .i64 (rem units parts y)) ∧ ∃ q2, w' = (w.drewN q).drewN q2) := fun q => rest_any ub pb sb fb c y units A parts (w.drewN q) (hS.drewN q) h hy
  have c4 := hS.f
  have l4 := World.block_lt_of_cell? w _ c4
  have rx := rem_lim h x
  have ry := rem_lim h y
  generalize rem units parts x = vx at kx rx ⊢
  generalize rem units parts y = vy at ky ry ⊢
  have hsw : IntKind.i64.wrap (vy - vx) = vy - vx := IntWalk.i64_in _ (by omega)
  clear hS h
  go_enter Tryz.func54, Tryz.ntmps54
  go_wp2_with fail
  go_quiet (first | (with_reducible exact Calls.quiet_of (ky.out _)) | (with_reducible exact Calls.quiet_of (kx.out _)))
  go_wp2
  go_ret
  exact ⟨rfl, _, rfl⟩
theorem cmpS_lt (a b : Int) : decide (b - a < 0) = decide (-a < -b) := by rw [decide_eq_decide]; omega
set_option maxRecDepth 100000 in
set_option maxHeartbeats 4000000 in
/-- slices.SortStableFunc as Split calls it. -/
theorem sortS_any (r : Nat → Int) (ub pb sb fb bl cap c : Nat) (units : Int) (A : Option Addr) (parts : List Int) (w : World) (hS : SpIn w ub pb sb fb units A c parts) (h : SplitOk units parts) (h80 : parts.length < 80) (hR : RoI w bl parts.length fun i => (i : Int)) (h1 : ub ≠ bl) (h2 : pb ≠ bl) (h3 : sb ≠ bl) (h4 : fb ≠ bl) (h5 : ∀ b o, A = some ⟨b, o, none⟩ → b ≠ bl) (hr : r = rem units parts) :
    Calls Tryz.prog 53 #[.slice (some ⟨bl, 0, none⟩) parts.length cap, .func (.func 54) #[] #[.pointer (some ⟨fb, 0, none⟩)]] w fun e w' => e = .returned (.tuple #[]) ∧ (∃ l', Srt (fun j => - r j) parts.length l' ∧ ∀ j (hj : j < l'.length), w'.cell? ⟨bl, j, none⟩ = some (.int .i64 (l'[j] : Int))) ∧ Kp [bl] w w' := by
  obtain ⟨m, hm⟩ : ∃ m, parts.length = m + 1 := ⟨parts.length - 1, by
    have := h.s
    cases parts with
    | nil => simp [sumI_nil] at this
    | cons a l => simp⟩
  have hl : ∀ x, x ∈ List.range parts.length → x < m + 1 := fun x hx => by have := List.mem_range.1 hx; omega
  have hRo : Ro (fun x : Fin (m + 1) => x.val) w bl (Co.arr (List.range parts.length)) := ⟨hR.lt, fun j hj => by
    have hj2 : j < (List.range parts.length).length := by rwa [Co.arr_size] at hj
    rw [Co.arr_at hl hj2, List.getElem_range]
    exact hR.cell j (by simpa using hj2), fun j _ => hR.fr j⟩
  have hC : CmpOn Tryz.prog 54 #[.pointer (some ⟨fb, 0, none⟩)] (fun x : Fin (m + 1) => x.val) (fun x y => r y.val - r x.val) bl w := fun W hW x y =>
    cmpS_any r ub pb sb fb c x.val y.val units A parts W (hS.kp hW h1 h2 h3 h4 h5) h (by have := x.isLt; omega) (by have := y.isLt; omega) hr
  have hsz : (Co.arr (m := m) (List.range parts.length)).size = parts.length := by rw [Co.arr_size, List.length_range]
  have ks := stable_any (fun x : Fin (m + 1) => x.val) (fun x y => r y.val - r x.val) 54 #[.pointer (some ⟨fb, 0, none⟩)] (enters_of Tryz.func54 (by kernel_rfl) rfl) (fun x : Fin (m + 1) => - r x.val) Fin.val (fun x y => cmpS_lt _ _) bl cap parts.length (Co.arr (List.range parts.length)) w hC hRo hsz h80 fun i j hij hj => by
    rw [Co.arr_at hl (by simp; omega), Co.arr_at hl (by simpa using hj)]
    simpa using hij
  have ks2 : Hid (Calls Tryz.prog 108 #[.slice (some ⟨bl, 0, none⟩) parts.length cap, .int .i64 (parts.length : Int), .func (.func 54) #[] #[.pointer (some ⟨fb, 0, none⟩)]] w fun e w' => e = .returned (.tuple #[]) ∧ (∃ l', Srt (fun j => - r j) parts.length l' ∧ ∀ j (hj : j < l'.length), w'.cell? ⟨bl, j, none⟩ = some (.int .i64 (l'[j] : Int))) ∧ Kp [bl] w w') := ks.mono fun e w' h => by
    obtain ⟨h1, ⟨d', ⟨hp, hs⟩, hO⟩, hk⟩ := h
    have hp2 : PermIn 0 (List.range parts.length).length (Co.arr (m := m) (List.range parts.length)) d' := by rw [List.length_range]; exact hp
    have hs2 : SortedIn (kLt (fun x : Fin (m + 1) => - r x.val) Fin.val) 0 (List.range parts.length).length d' := by rw [List.length_range]; exact hs
    refine ⟨h1, ⟨d'.toList.map Fin.val, Co.sorted_of (o := fun j => - r j) hl List.pairwise_lt_range hp2 hs2, fun j hj => ?_⟩, hk⟩
    have hj2 : j < d'.size := by simpa using hj
    have h4 := hO.cell j hj2
    rw [getElem!_pos _ j hj2] at h4
    simpa using h4
  have hP : Hid (∀ (e : Ending) (W : World), e = .returned (.tuple #[]) → (∃ l', Srt (fun j => - r j) parts.length l' ∧ ∀ j (hj : j < l'.length), W.cell? ⟨bl, j, none⟩ = some (.int .i64 (l'[j] : Int))) → Kp [bl] w W → e = .returned (.tuple #[]) ∧ (∃ l', Srt (fun j => - r j) parts.length l' ∧ ∀ j (hj : j < l'.length), W.cell? ⟨bl, j, none⟩ = some (.int .i64 (l'[j] : Int))) ∧ Kp [bl] w W) := fun e W h1 h2 h3 => ⟨h1, h2, h3⟩
  clear hRo hC ks hR hS h h1 h2 h3 h4 h5 hsz hl hm
  go_enter Tryz.func53, Tryz.ntmps53
  go_wp2_with fail
  refine ks2.out.mono ?_
  rintro e w2 ⟨rfl, h1, h2⟩
  replace h1 := Lib.hid h1
  replace h2 := Lib.hid h2
  go_wp2
  go_end0
  exact hP.out _ _ rfl h1.out h2.out
end Mo
end Go.Proofs.YtpmlhgmmobpilaaGreatDoor

namespace Go.Proofs.YtpmlhgmmobpilaaGreatDoor
open Go.RowKit Go.Shelf
namespace Mo
open Nt Ci
/-- What Split returns. -/
def splitL (units : Int) (parts : List Int) : List Int := if splitOk units parts = true then splitR units parts else []
def splitE (units : Int) (parts : List Int) : Int := if splitOk units parts = true then 0 else 1
section
variable {units : Int} {parts : List Int}
theorem okPart_iff {p : Int} : okPart p = true ↔ 0 ≤ p ∧ p ≤ 1000000 := decide_eq_true_iff
theorem split_no (h : splitOk units parts = false) : splitL units parts = [] ∧ splitE units parts = 1 := by
  unfold splitL splitE
  rw [h]
  exact ⟨rfl, rfl⟩
theorem split_yes (h : splitOk units parts = true) : splitL units parts = splitR units parts ∧ splitE units parts = 0 := by
  unfold splitL splitE
  rw [h]
  exact ⟨rfl, rfl⟩
theorem splitOk_bad {k : Nat} (h : k < parts.length) (hb : ¬ (0 ≤ parts[k] ∧ parts[k] ≤ 1000000)) : splitOk units parts = false := by
  unfold splitOk
  have : parts.all okPart = false := by
    rw [List.all_eq_false]
    exact ⟨_, List.getElem_mem h, fun c => hb (okPart_iff.1 c)⟩
  rw [this]; rfl
theorem splitOk_of (h : ∀ k (h : k < parts.length), 0 ≤ parts[k] ∧ parts[k] ≤ 1000000) : splitOk units parts = (decide (0 ≤ units ∧ units ≤ 1000000000000) && decide (parts.length ≤ 400) && decide (sumI parts ≠ 0)) := by
  unfold splitOk
  have : parts.all okPart = true := by
    rw [List.all_eq_true]
    intro x hx
    obtain ⟨k, hk, rfl⟩ := List.getElem_of_mem hx
    exact okPart_iff.2 (h k hk)
  rw [this, Bool.true_and]
theorem sum_lim (k : Nat) (hk : k ≤ parts.length) (h : ∀ i (h : i < parts.length), i < k → 0 ≤ parts[i] ∧ parts[i] ≤ 1000000) : 0 ≤ sumI (parts.take k) ∧ sumI (parts.take k) ≤ 1000000 * k := by
  have hm : ∀ x, x ∈ parts.take k → 0 ≤ x ∧ x ≤ 1000000 := fun x hx => by
    obtain ⟨i, hi, rfl⟩ := List.getElem_of_mem hx
    rw [List.length_take] at hi
    rw [List.getElem_take]
    exact h i (by omega) (by omega)
  refine ⟨sumI_nonneg fun x hx => (hm x hx).1, ?_⟩
  have := sumI_le (l := parts.take k) (c := 1000000) fun x hx => (hm x hx).2
  rwa [List.length_take, Nat.min_eq_left hk] at this
/-- What is left behind the first k. -/
def leftK (units : Int) (parts : List Int) (k : Nat) : Int := units - sumI ((List.range k).map (flo units parts))
theorem leftK_succ (k : Nat) : leftK units parts (k + 1) = leftK units parts k - flo units parts k := by
  unfold leftK
  rw [List.range_succ, List.map_append, sumI_append, List.map_singleton, sumI_cons, sumI_nil]
  omega
theorem flo_lim (h : SplitOk units parts) (i : Nat) : 0 ≤ flo units parts i ∧ flo units parts i ≤ 1000000000000000000 := by
  have h1 := flo_rem h i
  have h2 := mul_lim h i
  have h3 := h.s.1
  refine ⟨h1.2.2.2, ?_⟩
  have h4 : 1 * flo units parts i ≤ sumI parts * flo units parts i := Int.mul_le_mul_of_nonneg_right (by omega) h1.2.2.2
  omega
theorem sum_flo_le (h : SplitOk units parts) (k : Nat) (hk : k ≤ parts.length) : 0 ≤ sumI ((List.range k).map (flo units parts)) ∧ sumI ((List.range k).map (flo units parts)) ≤ units := by
  have hp : ∀ m, 0 ≤ sumI ((List.range m).map (flo units parts)) := fun m => sumI_nonneg fun x hx => by
    obtain ⟨i, _, rfl⟩ := List.mem_map.1 hx
    exact (flo_lim h i).1
  refine ⟨hp k, ?_⟩
  have hl := (left_bounds h).1
  unfold leftS at hl
  have : ∀ d, k + d ≤ parts.length → sumI ((List.range k).map (flo units parts)) ≤ sumI ((List.range (k + d)).map (flo units parts)) := by
    intro d
    induction d with
    | zero => intro _; exact Int.le_refl _
    | succ d ih =>
      intro hd
      have h1 := ih (by omega)
      have h2 := (flo_lim h (k + d)).1
      rw [show k + (d + 1) = (k + d) + 1 from rfl, List.range_succ, List.map_append, sumI_append, List.map_singleton, sumI_cons, sumI_nil]
      omega
  have h3 := this (parts.length - k) (by omega)
  rw [show k + (parts.length - k) = parts.length by omega] at h3
  omega
/-- The results while they are laid, and while the rest is handed out. -/
def outK (units : Int) (parts : List Int) (k x : Nat) : Int := if x < k then flo units parts x else 0
def ordK (k x : Nat) : Int := if x < k then (x : Int) else 0
def addK (units : Int) (parts : List Int) (l : List Nat) (j x : Nat) : Int := flo units parts x + if x ∈ l.take j then 1 else 0
theorem outK_succ (k : Nat) (x : Nat) : setI (outK units parts k) k (flo units parts k) x = outK units parts (k + 1) x := by
  unfold setI outK
  by_cases c : x = k
  · rw [if_pos c, c, if_pos (Nat.lt_succ_self _)]
  · rw [if_neg c]
    by_cases d : x < k
    · rw [if_pos d, if_pos (by omega)]
    · rw [if_neg d, if_neg (by omega)]
theorem ordK_succ (k x : Nat) : setI (ordK k) k (k : Int) x = ordK (k + 1) x := by
  unfold setI ordK
  by_cases c : x = k
  · rw [if_pos c, c, if_pos (Nat.lt_succ_self _)]
  · rw [if_neg c]
    by_cases d : x < k
    · rw [if_pos d, if_pos (by omega)]
    · rw [if_neg d, if_neg (by omega)]
theorem addK_succ {l : List Nat} {j : Nat} (hnd : l.Nodup) (hj : j < l.length) (x : Nat) : setI (addK units parts l j) l[j] (addK units parts l j l[j] + 1) x = addK units parts l (j + 1) x := by
  have hn : l[j] ∉ l.take j := fun c => by
    obtain ⟨i, hi, e⟩ := List.getElem_of_mem c
    rw [List.length_take] at hi
    rw [List.getElem_take] at e
    have := (List.pairwise_iff_getElem.1 hnd) i j (by omega) hj (by omega)
    exact this e
  unfold setI addK
  have hm : ∀ y, y ∈ l.take (j + 1) ↔ y ∈ l.take j ∨ y = l[j] := fun y => by rw [List.take_succ_eq_append_getElem hj, List.mem_append, List.mem_singleton]
  by_cases c : x = l[j]
  · rw [if_pos c, c, if_neg hn, if_pos ((hm _).2 (.inr rfl))]
    omega
  · rw [if_neg c]
    congr 1
    by_cases d : x ∈ l.take j
    · rw [if_pos d, if_pos ((hm _).2 (.inl d))]
    · rw [if_neg d, if_neg fun h => ((hm _).1 h).elim d c]
theorem addK_all {l : List Nat} (h : SplitOk units parts) (hl : Srt (fun j => - rem units parts j) parts.length l) {x : Nat} (hx : x < parts.length) : addK units parts l (leftS units parts).toNat x = flo units parts x + incS units parts x := by
  have hb := left_bounds h
  unfold addK incS
  congr 1
  by_cases c : x ∈ l.take (leftS units parts).toNat
  · rw [if_pos c, if_pos]
    have := (hl.take hx).1 c
    omega
  · rw [if_neg c, if_neg]
    intro d
    exact c ((hl.take hx).2 (by omega))
theorem addK_zero {l : List Nat} {x : Nat} : addK units parts l 0 x = flo units parts x := by unfold addK; simp
end
def SpPost (units : Int) (parts : List Int) (w : World) (e : Ending) (w' : World) : Prop := (∃ B d, e = .returned (.tuple #[.slice B (splitL units parts).length d, .int .i64 (splitE units parts)]) ∧ InInt w' B (splitL units parts)) ∧ Below w.heap.size w w'
set_option maxRecDepth 100000 in
set_option maxHeartbeats 16000000 in
theorem Split_any (units : Int) (A : Option Addr) (c : Nat) (parts : List Int) (w : World) (hp : InInt w A parts) (h80 : parts.length < 80) :
    Calls Tryz.prog 14 #[.int .i64 units, .slice A parts.length c] w (SpPost units parts w) := by
  obtain ⟨ub, hub⟩ : ∃ x, x = w.heap.size := ⟨_, rfl⟩
  obtain ⟨pb, hpb⟩ : ∃ x, x = w.heap.size + 1 := ⟨_, rfl⟩
  obtain ⟨sb, hsb⟩ : ∃ x, x = w.heap.size + 1 + 1 := ⟨_, rfl⟩
  have hB1 : Hid (Below w.heap.size w (((w.alloc (.cells #[.int .i64 units] 3)).alloc (.cells #[.slice A parts.length c] 24)).alloc (.cells #[.int .i64 0] 3))) := (((Below.refl _ w).alloc (Nat.le_refl _) _).alloc (by simp) _).alloc (by simp; omega) _
  have hu1 : Hid (Bk (((w.alloc (.cells #[.int .i64 units] 3)).alloc (.cells #[.slice A parts.length c] 24)).alloc (.cells #[.int .i64 0] 3)) ub 3 [.int .i64 units]) := by rw [hub]; exact ((Bk.new w _ _).alloc _).alloc _
  have hq1 : Hid (Bk (((w.alloc (.cells #[.int .i64 units] 3)).alloc (.cells #[.slice A parts.length c] 24)).alloc (.cells #[.int .i64 0] 3)) pb 24 [.slice A parts.length c]) := by have h := (Bk.new (w.alloc (.cells #[.int .i64 units] 3)) 24 [.slice A parts.length c]).alloc (.cells #[.int .i64 0] 3); rw [World.size_alloc, ← hpb] at h; exact h
  have hs1 : Hid (Bk (((w.alloc (.cells #[.int .i64 units] 3)).alloc (.cells #[.slice A parts.length c] 24)).alloc (.cells #[.int .i64 0] 3)) sb 3 [.int .i64 (sumI (parts.take 0))]) := by have h := Bk.new ((w.alloc (.cells #[.int .i64 units] 3)).alloc (.cells #[.slice A parts.length c] 24)) 3 [.int .i64 0]; rw [World.size_alloc, World.size_alloc, ← hsb] at h; exact h
  have hbd := Lib.hid (fun (k : Nat) (h : k < parts.length) hb => splitOk_bad (units := units) h hb)
  have hof := Lib.hid (fun h => splitOk_of (units := units) (parts := parts) h)
  have hlm := Lib.hid (fun k hk h => sum_lim (parts := parts) k hk h)
  have hno := Lib.hid (fun h => split_no (units := units) (parts := parts) h); have hye := Lib.hid (fun h => split_yes (units := units) (parts := parts) h)
  have hPn : Hid (∀ (e : Ending) (W : World), splitOk units parts = false → e = .returned (.tuple #[.slice none 0 0, .int .i64 1]) → Below w.heap.size w W → SpPost units parts w e W) := fun e W h1 h2 h3 => ⟨⟨none, 0, by rw [(split_no h1).1, (split_no h1).2]; exact h2, by rw [(split_no h1).1]; exact fun h => absurd h (by simp)⟩, h3⟩
  have hPy : Hid (∀ (e : Ending) (W : World) (ob : Nat), splitOk units parts = true → e = .returned (.tuple #[.slice (some ⟨ob, 0, none⟩) parts.length parts.length, .int .i64 0]) → RoI W ob parts.length (fun i => flo units parts i + incS units parts i) → Below w.heap.size w W → SpPost units parts w e W) := fun e W ob h1 h2 h3 h4 => ⟨⟨some ⟨ob, 0, none⟩, parts.length, by rw [(split_yes h1).1, (split_yes h1).2, split_len]; exact h2, by rw [(split_yes h1).1]; exact h3.inInt⟩, h4⟩
  have hpw := Lib.hid (fun W (hb : Below w.heap.size w W) => hp.below hb)
  have hA : Hid (∀ b o, A = some ⟨b, o, none⟩ → 0 < parts.length → b < w.heap.size) := fun b o e h0 => by obtain ⟨b2, o2, e2, hl, _⟩ := hp h0; rw [e] at e2; cases e2; exact hl
  clear hp
  have hwub : Hid (w.heap.size ≤ ub ∧ w.heap.size ≤ pb ∧ w.heap.size ≤ sb ∧ ub ≠ sb ∧ pb ≠ sb) := by refine ⟨?_, ?_, ?_, ?_, ?_⟩ <;> omega
  obtain ⟨W1, hW1⟩ : ∃ W, W = (((w.alloc (.cells #[.int .i64 units] 3)).alloc (.cells #[.slice A parts.length c] 24)).alloc (.cells #[.int .i64 0] 3)) := ⟨_, rfl⟩
  rw [← hW1] at hB1 hu1 hq1 hs1
  have q0 := hq1.out.cell (j := 0) rfl; have q9 := hq1.out.lt
  rw [hpb, hW1] at q0 q9
  go_enter Tryz.func14, Tryz.ntmps14
  go_wp2_with fail
  (try rw [← hW1])
  (try rw [← hsb])
  (try rw [← hpb])
  (try rw [← hub])
  replace hW1 := Lib.hid hW1; replace hub := Lib.hid hub; replace hpb := Lib.hid hpb; replace hsb := Lib.hid hsb
  clear q0 q9
  go_loopw [8, 19] (fun _ ix wr => ∃ (k : Nat), k ≤ parts.length ∧ ix = .int .i64 (k : Int) ∧ Hid (Below w.heap.size w wr) ∧ Hid (Bk wr ub 3 [.int .i64 units]) ∧ Hid (Bk wr pb 24 [.slice A parts.length c]) ∧ Hid (Bk wr sb 3 [.int .i64 (sumI (parts.take k))]) ∧ Hid (∀ i (h : i < parts.length), i < k → 0 ≤ parts[i] ∧ parts[i] ≤ 1000000)) (fun _ ix _ => parts.length - (intOf ix).toNat)
  case atStart => exact ⟨0, Nat.zero_le _, rfl, hB1, hu1, hq1, hs1, fun i _ h => absurd h (Nat.not_lt_zero _)⟩
  case round =>
    clear hB1 hu1 hq1 hs1
    obtain ⟨k, hk, rfl, hB, hu, hq, hs, hI⟩ := hrel
    obtain ⟨wz, rfl⟩ : ∃ z, z = wr := ⟨_, rfl⟩
    obtain ⟨hw1, hw2, hw3, hw4, hw5⟩ := hwub.out
    have hsl := hlm.out k hk hI.out
    by_cases hkl : k < parts.length
    · obtain ⟨vb, vo, rfl, hvl, hcc⟩ := (hpw.out wz hB.out) (by omega)
      have e1 := hcc k hkl
      clear hcc
      have hst := sumI_take hkl
      have hbk := Lib.hid (hbd.out k hkl)
      have j0 : (0 : Int) ≤ (k : Int) := by omega
      have j1 : (k : Int) < (parts.length : Int) := by omega
      have hAl : Hid (0 ≤ parts[k] ∧ parts[k] ≤ 1000000 → ∀ i (h : i < parts.length), i < k + 1 → 0 ≤ parts[i] ∧ parts[i] ≤ 1000000) := fun h i hi h2 => by
        by_cases e : i = k
        · subst e; exact h
        · exact hI.out i hi (by omega)
      have s0 := hs.out.cell (j := 0) rfl; have s1 := hs.out.frozen 0; have s9 := hs.out.lt
      generalize parts[k] = p at e1 hbk hAl hst
      generalize sumI (parts.take k) = S at s0 hsl hst
      replace hst := Lib.hid hst
      by_cases c1 : p < 0
      · have m1 : decide (p < 0) = true := decide_eq_true c1
        skip
        have hno1 : Hid (splitOk units parts = false) := hbk.out fun h => by omega
        clear hAl
        go_wp2
        go_ret2
        exact hPn.out _ _ hno1.out rfl hB.out
      · have m1 : decide (p < 0) = false := decide_eq_false c1
        by_cases c2 : 1000000 < p
        · have m2 : decide (1000000 < p) = true := decide_eq_true c2
          skip
          have hno1 : Hid (splitOk units parts = false) := hbk.out fun h => by omega
          clear hAl
          go_wp2
          go_ret2
          exact hPn.out _ _ hno1.out rfl hB.out
        · have m2 : decide (1000000 < p) = false := decide_eq_false c2
          have hI2 := Lib.hid (hAl.out ⟨by omega, by omega⟩)
          have hB2 : Hid (Below w.heap.size w (wz.setCell ⟨sb, 0, none⟩ (.int .i64 (S + p)))) := hB.out.setCell (p := ⟨sb, 0, none⟩) hw3 _
          have hu2 : Hid (Bk (wz.setCell ⟨sb, 0, none⟩ (.int .i64 (S + p))) ub 3 [.int .i64 units]) := hu.out.far (p := ⟨sb, 0, none⟩) hw4 _
          have hq2 : Hid (Bk (wz.setCell ⟨sb, 0, none⟩ (.int .i64 (S + p))) pb 24 [.slice (some ⟨vb, vo, none⟩) parts.length c]) := hq.out.far (p := ⟨sb, 0, none⟩) hw5 _
          have hs2 : Hid (Bk (wz.setCell ⟨sb, 0, none⟩ (.int .i64 (S + p))) sb 3 [.int .i64 (sumI (parts.take (k + 1)))]) := by rw [hst.out]; exact hs.out.set 0 (.int .i64 (S + p))
          clear hAl hbk hI
          go_wp2
          exact ⟨⟨k + 1, by omega, by go_num, hB2, hu2, hq2, hs2, hI2⟩, by simp only [intOf]; omega⟩
    · obtain rfl : k = parts.length := by omega
      rw [List.take_length] at hs hsl
      have hok := hof.out fun i hi => hI.out i hi hi
      rw [decide_eq_true (by omega : parts.length ≤ 400), Bool.and_true] at hok
      have s0 := hs.out.cell (j := 0) rfl; have s9 := hs.out.lt; have u0 := hu.out.cell (j := 0) rfl; have u9 := hu.out.lt; have q0 := hq.out.cell (j := 0) rfl; have q9 := hq.out.lt
      have m4 : decide (400 < (parts.length : Int)) = false := decide_eq_false (by omega); have m4n : decide (400 < parts.length) = false := decide_eq_false (by omega)
      clear hI hbd hof hlm
      by_cases c1 : units < 0
      · have m1 : decide (units < 0) = true := decide_eq_true c1
        have hno1 : Hid (splitOk units parts = false) := by rw [hok, decide_eq_false (by omega : ¬ (0 ≤ units ∧ units ≤ 1000000000000))]; rfl
        clear hok
        go_wp2
        go_ret2
        exact hPn.out _ _ hno1.out rfl hB.out
      · have m1 : decide (units < 0) = false := decide_eq_false c1
        by_cases c2 : 1000000000000 < units
        · have m2 : decide (1000000000000 < units) = true := decide_eq_true c2
          have hno1 : Hid (splitOk units parts = false) := by rw [hok, decide_eq_false (by omega : ¬ (0 ≤ units ∧ units ≤ 1000000000000))]; rfl
          clear hok
          go_wp2
          go_ret2
          exact hPn.out _ _ hno1.out rfl hB.out
        · have m2 : decide (1000000000000 < units) = false := decide_eq_false c2
          by_cases c3 : sumI parts = 0
          · have m3 : (sumI parts == 0) = true := by rw [beq_iff_eq]; exact c3
            have hno1 : splitOk units parts = false := by rw [hok]; simp [c3]
            replace hno1 := Lib.hid hno1
            clear hok
            replace c3 := Lib.hid c3
            skip
            go_wp2
            go_ret2
            exact hPn.out _ _ hno1.out rfl hB.out
          · have m3 : (sumI parts == 0) = false := by rw [beq_eq_false_iff_ne]; exact c3
            have hsok : splitOk units parts = true := by rw [hok, decide_eq_true (by omega : 0 ≤ units ∧ units ≤ 1000000000000), decide_eq_true c3]; rfl
            have hSO := splitOk_iff hsok
            clear hok
            have h0 : 0 < parts.length := by
              cases parts with
              | nil => exact absurd rfl c3
              | cons a l => simp
            have hmk := run_make_row' (P := Tryz.prog) 24 3 (.int .i64 0) 8 Tryz.underlying24 Ci.infoI rfl .i64 .i64 parts.length (by omega) (by omega)
            replace hsok := Lib.hid hsok; replace hSO := Lib.hid hSO; replace c3 := Lib.hid c3; replace h0 := Lib.hid h0
            have hBd : Hid (Below w.heap.size w wz.drew) := hB.out.drew
            have hcs : Hid (∀ W, Below wz.heap.size wz W → W.cell? ⟨pb, 0, none⟩ = some (.slice A parts.length c) ∧ W.cell? ⟨ub, 0, none⟩ = some (.int .i64 units)) := fun W hb => ⟨(hq.out.below hb).cell (j := 0) rfl, (hu.out.below hb).cell (j := 0) rfl⟩
            go_wp2_with fail
            go_region_held3 (fun W => W.cell? ⟨pb, 0, none⟩ = some (.slice A parts.length c) ∧ W.cell? ⟨ub, 0, none⟩ = some (.int .i64 units)) (first | (with_reducible exact hcs.out _ (Below.refl _ _)) | (with_reducible exact hcs.out _ (Below.refl _ _).drew) | (with_reducible exact hcs.out _ ((Below.refl _ _).drew.alloc (Nat.le_refl _) _)) | (with_reducible exact hcs.out _ (((Below.refl _ _).drew.alloc (Nat.le_refl _) _).alloc (by simp) _)) | go_keep) (fail)
            · skip
              have hb7 : Hid (Below wz.heap.size wz ((wz.alloc (.cells (madeCells #[.int .i64 0] parts.length) 3)).alloc (.cells (madeCells #[.int .i64 0] parts.length) 3)).drew) := (((Below.refl _ wz).alloc (Nat.le_refl _) _).alloc (by simp) _).drew
              have hz1 : Hid (RoI ((wz.alloc (.cells (madeCells #[.int .i64 0] parts.length) 3)).alloc (.cells (madeCells #[.int .i64 0] parts.length) 3)).drew wz.heap.size parts.length fun _ => 0) := ((RoI.made wz parts.length 3).below ((Below.refl _ _).alloc (Nat.le_refl _) _)).below (Below.refl _ _).drew
              have hz2 : Hid (RoI ((wz.alloc (.cells (madeCells #[.int .i64 0] parts.length) 3)).alloc (.cells (madeCells #[.int .i64 0] parts.length) 3)).drew (wz.heap.size + 1) parts.length fun _ => 0) := by have h := (RoI.made (wz.alloc (.cells (madeCells #[.int .i64 0] parts.length) 3)) parts.length 3).below (Below.refl _ _).drew; rw [World.size_alloc] at h; exact h
              have hl1 := hu.out.lt; have hl2 := hq.out.lt; have hl3 := hs.out.lt
              obtain ⟨rb, hrb⟩ : ∃ x, x = wz.heap.size + 1 := ⟨_, rfl⟩; obtain ⟨ob, hob⟩ : ∃ x, x = wz.heap.size := ⟨_, rfl⟩
              rw [← hrb] at hz2 ⊢
              rw [← hob] at hz1 ⊢
              have hO7 : Hid (RoI ((wz.alloc (.cells (madeCells #[.int .i64 0] parts.length) 3)).alloc (.cells (madeCells #[.int .i64 0] parts.length) 3)).drew ob parts.length (outK units parts 0)) := hz1.out.congr fun x _ => by unfold outK; rw [if_neg (Nat.not_lt_zero _)]
              have hR7 : Hid (RoI ((wz.alloc (.cells (madeCells #[.int .i64 0] parts.length) 3)).alloc (.cells (madeCells #[.int .i64 0] parts.length) 3)).drew rb parts.length (ordK 0)) := hz2.out.congr fun x _ => by unfold ordK; rw [if_neg (Nat.not_lt_zero _)]
              have hn1 : Hid (ob ≠ rb ∧ ub ≠ ob ∧ pb ≠ ob ∧ sb ≠ ob ∧ ub ≠ rb ∧ pb ≠ rb ∧ sb ≠ rb ∧ w.heap.size ≤ ob ∧ w.heap.size ≤ rb) := by have := hB.out.size; refine ⟨?_, ?_, ?_, ?_, ?_, ?_, ?_, ?_, ?_⟩ <;> omega
              have hAo : Hid (∀ b o, A = some ⟨b, o, none⟩ → b ≠ ob ∧ b ≠ rb) := fun b o e => by have := hA.out b o e h0.out; have := hB.out.size; constructor <;> omega
              have hB7 := Lib.hid (hB.out.trans (hb7.out.mono hB.out.size)); have hu7 := Lib.hid (hu.out.below hb7.out); have hq7 := Lib.hid (hq.out.below hb7.out); have hs7 := Lib.hid (hs.out.below hb7.out)
              replace hrb := Lib.hid hrb; replace hob := Lib.hid hob
              clear hz1 hz2 hl1 hl2 hl3 hb7 hB hu hq hs hsl s0 s9 u0 u9 q0 q9 hmk hBd hcs
              have q0 := hq7.out.cell (j := 0) rfl; have q9 := hq7.out.lt
              have hlk0 : Hid (units = leftK units parts 0) := by unfold leftK; show _ = units - sumI []; rw [sumI_nil]; omega
              go_wp2
              clear q0 q9
              go_loopw [11, 12, 13, 57] (fun lx _ _ ix wr => ∃ (k : Nat), k ≤ parts.length ∧ ix = .int .i64 (k : Int) ∧ lx = .int .i64 (leftK units parts k) ∧ Hid (Below w.heap.size w wr) ∧ Hid (Bk wr ub 3 [.int .i64 units]) ∧ Hid (Bk wr pb 24 [.slice A parts.length c]) ∧ Hid (Bk wr sb 3 [.int .i64 (sumI parts)]) ∧ Hid (RoI wr ob parts.length (outK units parts k)) ∧ Hid (RoI wr rb parts.length (ordK k))) (fun _ _ _ ix _ => parts.length - (intOf ix).toNat)
              case atStart => exact ⟨0, Nat.zero_le _, rfl, by rw [← hlk0.out], hB7, hu7, hq7, hs7, hO7, hR7⟩
              case round =>
                clear hB7 hu7 hq7 hs7 hO7 hR7 hlk0
                obtain ⟨k, hk, rfl, rfl, hB, hu, hq, hs, hO, hR⟩ := hrel
                obtain ⟨wy, rfl⟩ : ∃ z, z = wr := ⟨_, rfl⟩
                obtain ⟨n1, n2, n3, n4, n5, n6, n7, n8, n9⟩ := hn1.out
                by_cases hkl : k < parts.length
                · obtain ⟨vb, vo, rfl, hvl, hcc⟩ := (hpw.out wy hB.out) h0.out
                  have e1 := hcc k hkl
                  clear hcc
                  have j0 : (0 : Int) ≤ (k : Int) := by omega
                  have j1 : (k : Int) < (parts.length : Int) := by omega
                  have hgd : parts.getD k 0 = parts[k] := by simp [List.getD_eq_getElem?_getD, hkl]
                  have hml := mul_lim hSO.out k; have hft := flo_tdiv hSO.out k; have hfl := flo_lim hSO.out k; have hSs := hSO.out.s
                  rw [hgd] at hml hft
                  have hfe : units * parts[k] / sumI parts = flo units parts k := by rw [← hgd]; rfl
                  have hlk := leftK_succ (units := units) (parts := parts) k
                  have hsf := sum_flo_le hSO.out k hk
                  have hlb : -1000000000000 ≤ leftK units parts k ∧ leftK units parts k ≤ 1000000000000 := by unfold leftK; have := hSO.out.u; omega
                  have hos := Lib.hid (outK_succ (units := units) (parts := parts) k)
                  have hor := Lib.hid (ordK_succ k)
                  have s0 := hs.out.cell (j := 0) rfl; have s9 := hs.out.lt; have u0 := hu.out.cell (j := 0) rfl; have u9 := hu.out.lt
                  have o1 := hO.out.cell k hkl; have o2 := hO.out.fr k; have o3 := hO.out.lt; have r1 := hR.out.cell k hkl; have r2 := hR.out.fr k; have r3 := hR.out.lt
                  generalize outK units parts k k = ov at o1
                  generalize ordK k k = rv at r1
                  obtain ⟨f, hf⟩ : ∃ f, f = flo units parts k := ⟨_, rfl⟩
                  rw [← hf] at hft hfl hfe hlk hos
                  have hB2 : Hid (Below w.heap.size w ((wy.setCell ⟨ob, k, none⟩ (.int .i64 f)).setCell ⟨rb, k, none⟩ (.int .i64 (k : Int)))) := (hB.out.setCell (p := ⟨ob, k, none⟩) n8 _).setCell (p := ⟨rb, k, none⟩) n9 _
                  have hu2 : Hid (Bk ((wy.setCell ⟨ob, k, none⟩ (.int .i64 f)).setCell ⟨rb, k, none⟩ (.int .i64 (k : Int))) ub 3 [.int .i64 units]) := (hu.out.far (p := ⟨ob, k, none⟩) n2 _).far (p := ⟨rb, k, none⟩) n5 _
                  have hq2 : Hid (Bk ((wy.setCell ⟨ob, k, none⟩ (.int .i64 f)).setCell ⟨rb, k, none⟩ (.int .i64 (k : Int))) pb 24 [.slice (some ⟨vb, vo, none⟩) parts.length c]) := (hq.out.far (p := ⟨ob, k, none⟩) n3 _).far (p := ⟨rb, k, none⟩) n6 _
                  have hs2 : Hid (Bk ((wy.setCell ⟨ob, k, none⟩ (.int .i64 f)).setCell ⟨rb, k, none⟩ (.int .i64 (k : Int))) sb 3 [.int .i64 (sumI parts)]) := (hs.out.far (p := ⟨ob, k, none⟩) n4 _).far (p := ⟨rb, k, none⟩) n7 _
                  have hO2 : Hid (RoI ((wy.setCell ⟨ob, k, none⟩ (.int .i64 f)).setCell ⟨rb, k, none⟩ (.int .i64 (k : Int))) ob parts.length (outK units parts (k + 1))) := (((hO.out.set hkl f).congr fun x _ => hos.out x).grown (grown_set _ ⟨rb, k, none⟩ _) fun e => n1 (by cases e; rfl))
                  have hR2 : Hid (RoI ((wy.setCell ⟨ob, k, none⟩ (.int .i64 f)).setCell ⟨rb, k, none⟩ (.int .i64 (k : Int))) rb parts.length (ordK (k + 1))) := ((hR.out.grown (grown_set _ ⟨ob, k, none⟩ _) fun e => n1 (by cases e; rfl)).set hkl (k : Int)).congr fun x _ => hor.out x
                  generalize sumI parts = S at s0 hft hfe hSs hs2
                  generalize parts[k] = p at e1 hml hft hfe
                  have hS0 : (S == 0) = false := by rw [beq_eq_false_iff_ne]; omega
                  obtain ⟨ml0, ml1⟩ := hml
                  have hlk2 : leftK units parts k - f = leftK units parts (k + 1) := hlk.symm
                  generalize leftK units parts k = lv at hlb hlk2 ⊢
                  replace hlk := Lib.hid hlk
                  clear hsf hgd hlk hos hor
                  replace hf := Lib.hid hf
                  have n1b : rb ≠ ob := Ne.symm n1
                  go_wp2
                  exact ⟨⟨k + 1, by omega, by go_num, rfl, hB2, hu2, hq2, hs2, hO2, hR2⟩, by simp only [intOf]; omega⟩
                · obtain rfl : k = parts.length := by omega
                  have hba : Hid (Below wy.heap.size wy (wy.alloc (.cells #[.func (.func 52) #[] #[.pointer (some ⟨ub, 0, none⟩), .pointer (some ⟨pb, 0, none⟩), .pointer (some ⟨sb, 0, none⟩)]] 74))) := (Below.refl _ _).alloc (Nat.le_refl _) _
                  have hB10 := Lib.hid (hB.out.trans (hba.out.mono hB.out.size)); have hO10 := Lib.hid (hO.out.below hba.out); have hR10 : Hid (RoI (wy.alloc (.cells #[.func (.func 52) #[] #[.pointer (some ⟨ub, 0, none⟩), .pointer (some ⟨pb, 0, none⟩), .pointer (some ⟨sb, 0, none⟩)]] 74)) rb parts.length fun i => (i : Int)) := (hR.out.below hba.out).congr fun x hx => by unfold ordK; rw [if_pos hx]
                  have hf10 : Hid (Bk (wy.alloc (.cells #[.func (.func 52) #[] #[.pointer (some ⟨ub, 0, none⟩), .pointer (some ⟨pb, 0, none⟩), .pointer (some ⟨sb, 0, none⟩)]] 74)) wy.heap.size 74 [.func (.func 52) #[] #[.pointer (some ⟨ub, 0, none⟩), .pointer (some ⟨pb, 0, none⟩), .pointer (some ⟨sb, 0, none⟩)]]) := Bk.new _ _ _
                  have hfb : Hid (wy.heap.size ≠ rb) := by have := hR.out.lt; show _ ≠ _; omega
                  have hSp : Hid (SpIn (wy.alloc (.cells #[.func (.func 52) #[] #[.pointer (some ⟨ub, 0, none⟩), .pointer (some ⟨pb, 0, none⟩), .pointer (some ⟨sb, 0, none⟩)]] 74)) ub pb sb wy.heap.size units A c parts) := ⟨(hu.out.below hba.out).cell (j := 0) rfl, (hq.out.below hba.out).cell (j := 0) rfl, (hs.out.below hba.out).cell (j := 0) rfl, hf10.out.cell (j := 0) rfl, hpw.out _ hB10.out⟩
                  have ks := Lib.hid (sortS_any (rem units parts) ub pb sb wy.heap.size rb parts.length c units A parts (wy.alloc (.cells #[.func (.func 52) #[] #[.pointer (some ⟨ub, 0, none⟩), .pointer (some ⟨pb, 0, none⟩), .pointer (some ⟨sb, 0, none⟩)]] 74)) hSp.out hSO.out h80 hR10.out n5 n6 n7 hfb.out (fun b o e => (hAo.out b o e).2) rfl)
                  have hnx := hf10.out.lt
                  clear hba hR10 hSp hu hq hs hR
                  go_wp2_with fail
                  refine ks.out.mono ?_
                  rintro e w11 ⟨rfl, ⟨l', hSr, hlc⟩, hK⟩
                  have hB11 : Hid (Below w.heap.size w w11) := hK.to_below hB10.out fun x hx => by simp at hx; rw [hx]; exact n9
                  have hO11 : Hid (RoI w11 ob parts.length (addK units parts l' 0)) := (hO10.out.of_block hK.size (hK.block ob hO10.out.lt (by simpa using n1))).congr fun x hx => by rw [addK_zero]; unfold outK; rw [if_pos hx]
                  have hll : l'.length = parts.length := hSr.len
                  have hlc2 : Hid (∀ j (hj : j < l'.length), w11.cell? ⟨rb, j, none⟩ = some (.int .i64 (l'[j] : Int))) := hlc
                  have hrl : Hid (rb < w11.heap.size) := Nat.lt_of_lt_of_le (by have := hnx; have := n9; exact World.block_lt_of_cell? w11 _ (hlc 0 (by rw [hll]; exact h0.out))) (Nat.le_refl _)
                  have hnd : Hid (l'.Nodup) := hSr.2.imp fun {x y} h e => by subst e; exact bef_asymm h h
                  obtain ⟨q, hqe⟩ : ∃ q : Nat, q = (leftS units parts).toNat := ⟨_, rfl⟩
                  have hlbs := left_bounds hSO.out
                  have hlq : leftK units parts parts.length = (q : Int) := by rw [hqe]; show leftS units parts = _; omega
                  have hqn : q ≤ parts.length := by omega
                  have hall : Hid (∀ x, x < parts.length → addK units parts l' q x = flo units parts x + incS units parts x) := fun x hx => by rw [hqe]; exact addK_all hSO.out hSr hx
                  rw [hlq]
                  replace hqe := Lib.hid hqe; replace hlq := Lib.hid hlq
                  have hfl := Lib.hid (fun i => flo_lim hSO.out i)
                  clear hlbs hK hlc hO10 hB10 hf10 hfb ks hnx hO hB
                  have k0 : (0 : Int) ≤ (q : Int) := by omega
                  have k1 : (q : Int) ≤ (parts.length : Int) := by omega
                  have k2 : q ≤ parts.length := hqn
                  replace hll := Lib.hid hll; replace hSr := Lib.hid hSr
                  go_wp2
                  go_loopw [16, 89] (fun _ ix wr => ∃ (j : Nat), j ≤ q ∧ ix = .int .i64 (j : Int) ∧ Hid (Below w.heap.size w wr) ∧ Hid (RoI wr ob parts.length (addK units parts l' j)) ∧ Hid (∀ i (hi : i < l'.length), wr.cell? ⟨rb, i, none⟩ = some (.int .i64 (l'[i] : Int))) ∧ Hid (rb < wr.heap.size)) (fun _ ix _ => q - (intOf ix).toNat)
                  case atStart => exact ⟨0, Nat.zero_le _, rfl, hB11, hO11, hlc2, hrl⟩
                  case round =>
                    clear hB11 hO11 hlc2 hrl
                    obtain ⟨j, hj, rfl, hB, hO, hl, hr⟩ := hrel
                    obtain ⟨wx, rfl⟩ : ∃ z, z = wr := ⟨_, rfl⟩
                    by_cases hjq : j < q
                    · have hjl : j < l'.length := by have := hll.out; omega
                      have e1 := hl.out j hjl; have e9 := hr.out
                      have hxn : l'[j] < parts.length := hSr.out.mem.1 (List.getElem_mem hjl)
                      have hsc := Lib.hid (addK_succ (units := units) (parts := parts) hnd.out hjl)
                      have hxl : 0 ≤ addK units parts l' j l'[j] ∧ addK units parts l' j l'[j] ≤ 1000000000000000001 := by have := hfl.out l'[j]; unfold addK; split <;> omega
                      generalize l'[j] = x at e1 hxn hsc hxl
                      have o1 := hO.out.cell x hxn; have o2 := hO.out.fr x; have o9 := hO.out.lt
                      obtain ⟨av, hav⟩ : ∃ v, v = addK units parts l' j x := ⟨_, rfl⟩
                      rw [← hav] at o1 hsc hxl
                      replace hav := Lib.hid hav
                      have j0 : (0 : Int) ≤ (j : Int) := by omega
                      have j1 : (j : Int) < (q : Int) := by omega
                      have x0 : (0 : Int) ≤ (x : Int) := by omega
                      have x1 : (x : Int) < (parts.length : Int) := by omega
                      have hB2 : Hid (Below w.heap.size w (wx.setCell ⟨ob, x, none⟩ (.int .i64 (av + 1)))) := hB.out.setCell (p := ⟨ob, x, none⟩) n8 _
                      have hO2 : Hid (RoI (wx.setCell ⟨ob, x, none⟩ (.int .i64 (av + 1))) ob parts.length (addK units parts l' (j + 1))) := (hO.out.set hxn (av + 1)).congr fun y _ => hsc.out y
                      have hl2 : Hid (∀ i (hi : i < l'.length), (wx.setCell ⟨ob, x, none⟩ (.int .i64 (av + 1))).cell? ⟨rb, i, none⟩ = some (.int .i64 (l'[i] : Int))) := fun i hi => by rw [World.cell?_setCell_other _ _ _ _ (fun e => by injection e with e1 _; first | exact n1 e1 | exact n1 e1.symm)]; exact hl.out i hi
                      have hr2 : Hid (rb < (wx.setCell ⟨ob, x, none⟩ (.int .i64 (av + 1))).heap.size) := by have := hr.out; show rb < _; simpa using this
                      clear hsc
                      go_wp2
                      exact ⟨⟨j + 1, by omega, by go_num, hB2, hO2, hl2, hr2⟩, by simp only [intOf]; omega⟩
                    · obtain rfl : j = q := by omega
                      have hOf : Hid (RoI wx ob parts.length fun i => flo units parts i + incS units parts i) := hO.out.congr fun x hx => hall.out x hx
                      clear hall hO hl hfl
                      go_wp2
                      go_ret2
                      exact hPy.out _ _ ob hsok.out rfl hOf.out hB.out
            · skip
              have hb7 : Hid (Below wz.heap.size wz ((wz.alloc (.cells (madeCells #[.int .i64 0] parts.length) 3)).alloc (.cells (madeCells #[.int .i64 0] parts.length) 3)).drew) := (((Below.refl _ wz).alloc (Nat.le_refl _) _).alloc (by simp) _).drew
              have hz1 : Hid (RoI ((wz.alloc (.cells (madeCells #[.int .i64 0] parts.length) 3)).alloc (.cells (madeCells #[.int .i64 0] parts.length) 3)).drew wz.heap.size parts.length fun _ => 0) := ((RoI.made wz parts.length 3).below ((Below.refl _ _).alloc (Nat.le_refl _) _)).below (Below.refl _ _).drew
              have hz2 : Hid (RoI ((wz.alloc (.cells (madeCells #[.int .i64 0] parts.length) 3)).alloc (.cells (madeCells #[.int .i64 0] parts.length) 3)).drew (wz.heap.size + 1) parts.length fun _ => 0) := by have h := (RoI.made (wz.alloc (.cells (madeCells #[.int .i64 0] parts.length) 3)) parts.length 3).below (Below.refl _ _).drew; rw [World.size_alloc] at h; exact h
              have hl1 := hu.out.lt; have hl2 := hq.out.lt; have hl3 := hs.out.lt
              obtain ⟨rb, hrb⟩ : ∃ x, x = wz.heap.size := ⟨_, rfl⟩; obtain ⟨ob, hob⟩ : ∃ x, x = wz.heap.size + 1 := ⟨_, rfl⟩
              rw [← hob] at hz2 ⊢
              rw [← hrb] at hz1 ⊢
              have hO7 : Hid (RoI ((wz.alloc (.cells (madeCells #[.int .i64 0] parts.length) 3)).alloc (.cells (madeCells #[.int .i64 0] parts.length) 3)).drew ob parts.length (outK units parts 0)) := hz2.out.congr fun x _ => by unfold outK; rw [if_neg (Nat.not_lt_zero _)]
              have hR7 : Hid (RoI ((wz.alloc (.cells (madeCells #[.int .i64 0] parts.length) 3)).alloc (.cells (madeCells #[.int .i64 0] parts.length) 3)).drew rb parts.length (ordK 0)) := hz1.out.congr fun x _ => by unfold ordK; rw [if_neg (Nat.not_lt_zero _)]
              have hn1 : Hid (ob ≠ rb ∧ ub ≠ ob ∧ pb ≠ ob ∧ sb ≠ ob ∧ ub ≠ rb ∧ pb ≠ rb ∧ sb ≠ rb ∧ w.heap.size ≤ ob ∧ w.heap.size ≤ rb) := by have := hB.out.size; refine ⟨?_, ?_, ?_, ?_, ?_, ?_, ?_, ?_, ?_⟩ <;> omega
              have hAo : Hid (∀ b o, A = some ⟨b, o, none⟩ → b ≠ ob ∧ b ≠ rb) := fun b o e => by have := hA.out b o e h0.out; have := hB.out.size; constructor <;> omega
              have hB7 := Lib.hid (hB.out.trans (hb7.out.mono hB.out.size)); have hu7 := Lib.hid (hu.out.below hb7.out); have hq7 := Lib.hid (hq.out.below hb7.out); have hs7 := Lib.hid (hs.out.below hb7.out)
              replace hrb := Lib.hid hrb; replace hob := Lib.hid hob
              clear hz1 hz2 hl1 hl2 hl3 hb7 hB hu hq hs hsl s0 s9 u0 u9 q0 q9 hmk hBd hcs
              have q0 := hq7.out.cell (j := 0) rfl; have q9 := hq7.out.lt
              have hlk0 : Hid (units = leftK units parts 0) := by unfold leftK; show _ = units - sumI []; rw [sumI_nil]; omega
              go_wp2
              clear q0 q9
              go_loopw [11, 12, 13, 57] (fun lx _ _ ix wr => ∃ (k : Nat), k ≤ parts.length ∧ ix = .int .i64 (k : Int) ∧ lx = .int .i64 (leftK units parts k) ∧ Hid (Below w.heap.size w wr) ∧ Hid (Bk wr ub 3 [.int .i64 units]) ∧ Hid (Bk wr pb 24 [.slice A parts.length c]) ∧ Hid (Bk wr sb 3 [.int .i64 (sumI parts)]) ∧ Hid (RoI wr ob parts.length (outK units parts k)) ∧ Hid (RoI wr rb parts.length (ordK k))) (fun _ _ _ ix _ => parts.length - (intOf ix).toNat)
              case atStart => exact ⟨0, Nat.zero_le _, rfl, by rw [← hlk0.out], hB7, hu7, hq7, hs7, hO7, hR7⟩
              case round =>
                clear hB7 hu7 hq7 hs7 hO7 hR7 hlk0
                obtain ⟨k, hk, rfl, rfl, hB, hu, hq, hs, hO, hR⟩ := hrel
                obtain ⟨wy, rfl⟩ : ∃ z, z = wr := ⟨_, rfl⟩
                obtain ⟨n1, n2, n3, n4, n5, n6, n7, n8, n9⟩ := hn1.out
                by_cases hkl : k < parts.length
                · obtain ⟨vb, vo, rfl, hvl, hcc⟩ := (hpw.out wy hB.out) h0.out
                  have e1 := hcc k hkl
                  clear hcc
                  have j0 : (0 : Int) ≤ (k : Int) := by omega
                  have j1 : (k : Int) < (parts.length : Int) := by omega
                  have hgd : parts.getD k 0 = parts[k] := by simp [List.getD_eq_getElem?_getD, hkl]
                  have hml := mul_lim hSO.out k; have hft := flo_tdiv hSO.out k; have hfl := flo_lim hSO.out k; have hSs := hSO.out.s
                  rw [hgd] at hml hft
                  have hfe : units * parts[k] / sumI parts = flo units parts k := by rw [← hgd]; rfl
                  have hlk := leftK_succ (units := units) (parts := parts) k
                  have hsf := sum_flo_le hSO.out k hk
                  have hlb : -1000000000000 ≤ leftK units parts k ∧ leftK units parts k ≤ 1000000000000 := by unfold leftK; have := hSO.out.u; omega
                  have hos := Lib.hid (outK_succ (units := units) (parts := parts) k)
                  have hor := Lib.hid (ordK_succ k)
                  have s0 := hs.out.cell (j := 0) rfl; have s9 := hs.out.lt; have u0 := hu.out.cell (j := 0) rfl; have u9 := hu.out.lt
                  have o1 := hO.out.cell k hkl; have o2 := hO.out.fr k; have o3 := hO.out.lt; have r1 := hR.out.cell k hkl; have r2 := hR.out.fr k; have r3 := hR.out.lt
                  generalize outK units parts k k = ov at o1
                  generalize ordK k k = rv at r1
                  obtain ⟨f, hf⟩ : ∃ f, f = flo units parts k := ⟨_, rfl⟩
                  rw [← hf] at hft hfl hfe hlk hos
                  have hB2 : Hid (Below w.heap.size w ((wy.setCell ⟨ob, k, none⟩ (.int .i64 f)).setCell ⟨rb, k, none⟩ (.int .i64 (k : Int)))) := (hB.out.setCell (p := ⟨ob, k, none⟩) n8 _).setCell (p := ⟨rb, k, none⟩) n9 _
                  have hu2 : Hid (Bk ((wy.setCell ⟨ob, k, none⟩ (.int .i64 f)).setCell ⟨rb, k, none⟩ (.int .i64 (k : Int))) ub 3 [.int .i64 units]) := (hu.out.far (p := ⟨ob, k, none⟩) n2 _).far (p := ⟨rb, k, none⟩) n5 _
                  have hq2 : Hid (Bk ((wy.setCell ⟨ob, k, none⟩ (.int .i64 f)).setCell ⟨rb, k, none⟩ (.int .i64 (k : Int))) pb 24 [.slice (some ⟨vb, vo, none⟩) parts.length c]) := (hq.out.far (p := ⟨ob, k, none⟩) n3 _).far (p := ⟨rb, k, none⟩) n6 _
                  have hs2 : Hid (Bk ((wy.setCell ⟨ob, k, none⟩ (.int .i64 f)).setCell ⟨rb, k, none⟩ (.int .i64 (k : Int))) sb 3 [.int .i64 (sumI parts)]) := (hs.out.far (p := ⟨ob, k, none⟩) n4 _).far (p := ⟨rb, k, none⟩) n7 _
                  have hO2 : Hid (RoI ((wy.setCell ⟨ob, k, none⟩ (.int .i64 f)).setCell ⟨rb, k, none⟩ (.int .i64 (k : Int))) ob parts.length (outK units parts (k + 1))) := (((hO.out.set hkl f).congr fun x _ => hos.out x).grown (grown_set _ ⟨rb, k, none⟩ _) fun e => n1 (by cases e; rfl))
                  have hR2 : Hid (RoI ((wy.setCell ⟨ob, k, none⟩ (.int .i64 f)).setCell ⟨rb, k, none⟩ (.int .i64 (k : Int))) rb parts.length (ordK (k + 1))) := ((hR.out.grown (grown_set _ ⟨ob, k, none⟩ _) fun e => n1 (by cases e; rfl)).set hkl (k : Int)).congr fun x _ => hor.out x
                  generalize sumI parts = S at s0 hft hfe hSs hs2
                  generalize parts[k] = p at e1 hml hft hfe
                  have hS0 : (S == 0) = false := by rw [beq_eq_false_iff_ne]; omega
                  obtain ⟨ml0, ml1⟩ := hml
                  have hlk2 : leftK units parts k - f = leftK units parts (k + 1) := hlk.symm
                  generalize leftK units parts k = lv at hlb hlk2 ⊢
                  replace hlk := Lib.hid hlk
                  clear hsf hgd hlk hos hor
                  replace hf := Lib.hid hf
                  have n1b : rb ≠ ob := Ne.symm n1
                  go_wp2
                  exact ⟨⟨k + 1, by omega, by go_num, rfl, hB2, hu2, hq2, hs2, hO2, hR2⟩, by simp only [intOf]; omega⟩
                · obtain rfl : k = parts.length := by omega
                  have hba : Hid (Below wy.heap.size wy (wy.alloc (.cells #[.func (.func 52) #[] #[.pointer (some ⟨ub, 0, none⟩), .pointer (some ⟨pb, 0, none⟩), .pointer (some ⟨sb, 0, none⟩)]] 74))) := (Below.refl _ _).alloc (Nat.le_refl _) _
                  have hB10 := Lib.hid (hB.out.trans (hba.out.mono hB.out.size)); have hO10 := Lib.hid (hO.out.below hba.out); have hR10 : Hid (RoI (wy.alloc (.cells #[.func (.func 52) #[] #[.pointer (some ⟨ub, 0, none⟩), .pointer (some ⟨pb, 0, none⟩), .pointer (some ⟨sb, 0, none⟩)]] 74)) rb parts.length fun i => (i : Int)) := (hR.out.below hba.out).congr fun x hx => by unfold ordK; rw [if_pos hx]
                  have hf10 : Hid (Bk (wy.alloc (.cells #[.func (.func 52) #[] #[.pointer (some ⟨ub, 0, none⟩), .pointer (some ⟨pb, 0, none⟩), .pointer (some ⟨sb, 0, none⟩)]] 74)) wy.heap.size 74 [.func (.func 52) #[] #[.pointer (some ⟨ub, 0, none⟩), .pointer (some ⟨pb, 0, none⟩), .pointer (some ⟨sb, 0, none⟩)]]) := Bk.new _ _ _
                  have hfb : Hid (wy.heap.size ≠ rb) := by have := hR.out.lt; show _ ≠ _; omega
                  have hSp : Hid (SpIn (wy.alloc (.cells #[.func (.func 52) #[] #[.pointer (some ⟨ub, 0, none⟩), .pointer (some ⟨pb, 0, none⟩), .pointer (some ⟨sb, 0, none⟩)]] 74)) ub pb sb wy.heap.size units A c parts) := ⟨(hu.out.below hba.out).cell (j := 0) rfl, (hq.out.below hba.out).cell (j := 0) rfl, (hs.out.below hba.out).cell (j := 0) rfl, hf10.out.cell (j := 0) rfl, hpw.out _ hB10.out⟩
                  have ks := Lib.hid (sortS_any (rem units parts) ub pb sb wy.heap.size rb parts.length c units A parts (wy.alloc (.cells #[.func (.func 52) #[] #[.pointer (some ⟨ub, 0, none⟩), .pointer (some ⟨pb, 0, none⟩), .pointer (some ⟨sb, 0, none⟩)]] 74)) hSp.out hSO.out h80 hR10.out n5 n6 n7 hfb.out (fun b o e => (hAo.out b o e).2) rfl)
                  have hnx := hf10.out.lt
                  clear hba hR10 hSp hu hq hs hR
                  go_wp2_with fail
                  refine ks.out.mono ?_
                  rintro e w11 ⟨rfl, ⟨l', hSr, hlc⟩, hK⟩
                  have hB11 : Hid (Below w.heap.size w w11) := hK.to_below hB10.out fun x hx => by simp at hx; rw [hx]; exact n9
                  have hO11 : Hid (RoI w11 ob parts.length (addK units parts l' 0)) := (hO10.out.of_block hK.size (hK.block ob hO10.out.lt (by simpa using n1))).congr fun x hx => by rw [addK_zero]; unfold outK; rw [if_pos hx]
                  have hll : l'.length = parts.length := hSr.len
                  have hlc2 : Hid (∀ j (hj : j < l'.length), w11.cell? ⟨rb, j, none⟩ = some (.int .i64 (l'[j] : Int))) := hlc
                  have hrl : Hid (rb < w11.heap.size) := Nat.lt_of_lt_of_le (by have := hnx; have := n9; exact World.block_lt_of_cell? w11 _ (hlc 0 (by rw [hll]; exact h0.out))) (Nat.le_refl _)
                  have hnd : Hid (l'.Nodup) := hSr.2.imp fun {x y} h e => by subst e; exact bef_asymm h h
                  obtain ⟨q, hqe⟩ : ∃ q : Nat, q = (leftS units parts).toNat := ⟨_, rfl⟩
                  have hlbs := left_bounds hSO.out
                  have hlq : leftK units parts parts.length = (q : Int) := by rw [hqe]; show leftS units parts = _; omega
                  have hqn : q ≤ parts.length := by omega
                  have hall : Hid (∀ x, x < parts.length → addK units parts l' q x = flo units parts x + incS units parts x) := fun x hx => by rw [hqe]; exact addK_all hSO.out hSr hx
                  rw [hlq]
                  replace hqe := Lib.hid hqe; replace hlq := Lib.hid hlq
                  have hfl := Lib.hid (fun i => flo_lim hSO.out i)
                  clear hlbs hK hlc hO10 hB10 hf10 hfb ks hnx hO hB
                  have k0 : (0 : Int) ≤ (q : Int) := by omega
                  have k1 : (q : Int) ≤ (parts.length : Int) := by omega
                  have k2 : q ≤ parts.length := hqn
                  replace hll := Lib.hid hll; replace hSr := Lib.hid hSr
                  go_wp2
                  go_loopw [16, 89] (fun _ ix wr => ∃ (j : Nat), j ≤ q ∧ ix = .int .i64 (j : Int) ∧ Hid (Below w.heap.size w wr) ∧ Hid (RoI wr ob parts.length (addK units parts l' j)) ∧ Hid (∀ i (hi : i < l'.length), wr.cell? ⟨rb, i, none⟩ = some (.int .i64 (l'[i] : Int))) ∧ Hid (rb < wr.heap.size)) (fun _ ix _ => q - (intOf ix).toNat)
                  case atStart => exact ⟨0, Nat.zero_le _, rfl, hB11, hO11, hlc2, hrl⟩
                  case round =>
                    clear hB11 hO11 hlc2 hrl
                    obtain ⟨j, hj, rfl, hB, hO, hl, hr⟩ := hrel
                    obtain ⟨wx, rfl⟩ : ∃ z, z = wr := ⟨_, rfl⟩
                    by_cases hjq : j < q
                    · have hjl : j < l'.length := by have := hll.out; omega
                      have e1 := hl.out j hjl; have e9 := hr.out
                      have hxn : l'[j] < parts.length := hSr.out.mem.1 (List.getElem_mem hjl)
                      have hsc := Lib.hid (addK_succ (units := units) (parts := parts) hnd.out hjl)
                      have hxl : 0 ≤ addK units parts l' j l'[j] ∧ addK units parts l' j l'[j] ≤ 1000000000000000001 := by have := hfl.out l'[j]; unfold addK; split <;> omega
                      generalize l'[j] = x at e1 hxn hsc hxl
                      have o1 := hO.out.cell x hxn; have o2 := hO.out.fr x; have o9 := hO.out.lt
                      obtain ⟨av, hav⟩ : ∃ v, v = addK units parts l' j x := ⟨_, rfl⟩
                      rw [← hav] at o1 hsc hxl
                      replace hav := Lib.hid hav
                      have j0 : (0 : Int) ≤ (j : Int) := by omega
                      have j1 : (j : Int) < (q : Int) := by omega
                      have x0 : (0 : Int) ≤ (x : Int) := by omega
                      have x1 : (x : Int) < (parts.length : Int) := by omega
                      have hB2 : Hid (Below w.heap.size w (wx.setCell ⟨ob, x, none⟩ (.int .i64 (av + 1)))) := hB.out.setCell (p := ⟨ob, x, none⟩) n8 _
                      have hO2 : Hid (RoI (wx.setCell ⟨ob, x, none⟩ (.int .i64 (av + 1))) ob parts.length (addK units parts l' (j + 1))) := (hO.out.set hxn (av + 1)).congr fun y _ => hsc.out y
                      have hl2 : Hid (∀ i (hi : i < l'.length), (wx.setCell ⟨ob, x, none⟩ (.int .i64 (av + 1))).cell? ⟨rb, i, none⟩ = some (.int .i64 (l'[i] : Int))) := fun i hi => by rw [World.cell?_setCell_other _ _ _ _ (fun e => by injection e with e1 _; first | exact n1 e1 | exact n1 e1.symm)]; exact hl.out i hi
                      have hr2 : Hid (rb < (wx.setCell ⟨ob, x, none⟩ (.int .i64 (av + 1))).heap.size) := by have := hr.out; show rb < _; simpa using this
                      clear hsc
                      go_wp2
                      exact ⟨⟨j + 1, by omega, by go_num, hB2, hO2, hl2, hr2⟩, by simp only [intOf]; omega⟩
                    · obtain rfl : j = q := by omega
                      have hOf : Hid (RoI wx ob parts.length fun i => flo units parts i + incS units parts i) := hO.out.congr fun x hx => hall.out x hx
                      clear hall hO hl hfl
                      go_wp2
                      go_ret2
                      exact hPy.out _ _ ob hsok.out rfl hOf.out hB.out
end Mo
end Go.Proofs.YtpmlhgmmobpilaaGreatDoor

namespace Go.Proofs.YtpmlhgmmobpilaaGreatDoor
open Go.RowKit Go.Shelf
namespace Mo
open Nt Ci
set_option maxRecDepth 100000 in
set_option maxHeartbeats 4000000 in
theorem Ints8_any (A B : Option Addr) (ca cb : Nat) (a b : List Int) (w : World) (hA : InInt w A a) (hB : InInt w B b) (ha : a.length ≤ 140737488355328) :
    Calls Tryz.prog 16 #[.slice A a.length ca, .slice B b.length cb] w fun e w' => e = .returned (.bool (decide (a = b))) ∧ ∃ q, w' = w.drewN q := by
  by_cases hl : a.length = b.length
  · have hN := Lib.hid (fun (k : Nat) (h1 : k < a.length) (h2 : k < b.length) => ints_ne (a := a) (b := b) h1 h2)
    have hY := Lib.hid (ints_eq (a := a) (b := b) hl)
    rw [← hl]
    have m1 : ((a.length : Int) != (a.length : Int)) = false := by simp
    replace hl := Lib.hid hl
    replace hA := Lib.hid hA
    replace hB := Lib.hid hB
    go_enter Tryz.func16, Tryz.ntmps16
    go_wp2
    go_loopw [5] (fun i wr => ∃ k q : Nat, k ≤ a.length ∧ i = .int .i64 (k : Int) ∧ wr = w.drewN q ∧ Hid (∀ j (h1 : j < a.length) (h2 : j < b.length), j < k → a[j] = b[j])) (fun i _ => a.length - (intOf i).toNat)
    case atStart => exact ⟨0, 0, Nat.zero_le _, rfl, rfl, fun j _ _ h => absurd h (Nat.not_lt_zero _)⟩
    case round =>
      obtain ⟨k, q, hk, rfl, rfl, hI⟩ := hrel
      by_cases hlt : k < a.length
      · have hlb : k < b.length := by rw [← hl.out]; exact hlt
        obtain ⟨b1, o1, rfl, hb1, hc1⟩ := hA.out (by omega)
        obtain ⟨b2, o2, rfl, hb2, hc2⟩ := hB.out (by omega)
        have e1 : (w.drewN q).cell? ⟨b1, o1 + k, none⟩ = some (.int .i64 a[k]) := hc1 k hlt
        have e2 : (w.drewN q).cell? ⟨b2, o2 + k, none⟩ = some (.int .i64 b[k]) := hc2 k hlb
        have hNk := Lib.hid (hN.out k hlt hlb)
        have hIk : Hid (a[k] = b[k] → ∀ j (h1 : j < a.length) (h2 : j < b.length), j < k + 1 → a[j] = b[j]) := fun h j h1 h2 h3 => by
          by_cases e : j = k
          · subst e; exact h
          · exact hI.out j h1 h2 (by omega)
        obtain ⟨x, hx⟩ : ∃ x, x = a[k] := ⟨_, rfl⟩
        obtain ⟨y, hy⟩ : ∃ y, y = b[k] := ⟨_, rfl⟩
        rw [← hx] at e1 hNk hIk
        rw [← hy] at e2 hNk hIk
        have j0 : (0 : Int) ≤ (k : Int) := by omega
        have j1 : (k : Int) < (a.length : Int) := by omega
        clear hc1 hc2 hI hx hy
        generalize hwq : w.drewN q = wq at *
        replace hwq := Lib.hid hwq
        by_cases hxy : x = y
        · have m2 : (x != y) = false := by rw [bne_eq_false_iff_eq]; exact hxy
          have hI2 := Lib.hid (hIk.out hxy)
          replace hxy := Lib.hid hxy
          go_wp2_with fail
          go_quiet (fail)
          go_wp2
          refine ⟨⟨k + 1, q + nq, by omega, by go_num, by rw [← hwq.out, World.drewN_drewN], hI2⟩, by simp only [intOf]; omega⟩
        · have m2 : (x != y) = true := by rw [bne_iff_ne]; exact hxy
          have hG := Lib.hid (hNk.out hxy)
          replace hxy := Lib.hid hxy
          go_wp2_with fail
          go_quiet (fail)
          go_wp2
          go_ret
          exact ⟨ret_bool hG.out.symm, q + nq, by rw [← hwq.out, World.drewN_drewN]⟩
      · obtain rfl : k = a.length := by omega
        have hG := Lib.hid (hY.out fun j h1 h2 => hI.out j h1 h2 h1)
        generalize hwq : w.drewN q = wq at *
        replace hwq := Lib.hid hwq
        go_wp2
        go_ret
        exact ⟨ret_bool hG.out.symm, q, hwq.out.symm⟩
  · have hG : Hid (decide (a = b) = false) := decide_eq_false fun e => hl (by rw [e])
    have h1 : ((a.length : Int) == (b.length : Int)) = false := by rw [beq_eq_false_iff_ne]; omega
    have h2 : ((a.length : Int) != (b.length : Int)) = true := by rw [bne_iff_ne]; omega
    have h3 : (a.length == b.length) = false := by rw [beq_eq_false_iff_ne]; exact hl
    clear hA hB
    go_enter Tryz.func16, Tryz.ntmps16
    go_wp2
    go_ret
    exact ⟨ret_bool hG.out.symm, 0, rfl⟩
end Mo
end Go.Proofs.YtpmlhgmmobpilaaGreatDoor

namespace Go.Proofs.YtpmlhgmmobpilaaGreatDoor
open Go.RowKit Go.Shelf
namespace Mo
open Nt Ci
set_option maxRecDepth 100000 in
theorem of_any (m n : Int) (w : World) (hE : Env w) (hm0 : -9223372036854775808 ≤ m) (hm1 : m ≤ 9223372036854775807) (hn0 : -9223372036854775808 ≤ n) (hn1 : n ≤ 9223372036854775807) (h0 : n ≠ 0) :
    Calls Tryz.prog 18 #[.int .i64 m, .int .i64 n] w fun e w' => e = .returned (qv (ofQ m n)) ∧ Below w.heap.size w w' := by
  obtain ⟨g, x, d, q0⟩ := agg_qv (ofQ m n)
  have hB1 : Hid (Below w.heap.size w (w.alloc (.cells #[.bool false, .string ⟨#[]⟩, .string ⟨#[]⟩] 23))) := (Below.refl _ w).alloc (Nat.le_refl _) _
  have hr1 : Hid (Bk (w.alloc (.cells #[.bool false, .string ⟨#[]⟩, .string ⟨#[]⟩] 23)) w.heap.size 23 [.bool false, .string ⟨#[]⟩, .string ⟨#[]⟩]) := Bk.new w _ _
  have ko : Hid (Calls Tryz.prog 46 #[.int .i64 m, .int .i64 n] (w.alloc (.cells #[.bool false, .string ⟨#[]⟩, .string ⟨#[]⟩] 23)) fun e w' => e = .returned (.tuple #[.agg #[.bool g, .string x, .string d], .int .i64 0]) ∧ Below (w.alloc (.cells #[.bool false, .string ⟨#[]⟩, .string ⟨#[]⟩] 23)).heap.size (w.alloc (.cells #[.bool false, .string ⟨#[]⟩, .string ⟨#[]⟩] 23)) w') := by
    have h := RatOf_any m n hm0 hm1 hn0 hn1 h0 _ (hE.below hB1.out)
    rw [q0] at h
    exact h
  rw [q0]
  clear hE
  go_enter Tryz.func18, Tryz.ntmps18
  go_wp2_with fail
  refine ko.out.mono ?_
  rintro e w2 ⟨rfl, hb⟩
  have hB2 := Lib.hid (hB1.out.trans (hb.mono hB1.out.size))
  have hr2 := Lib.hid (hr1.out.below hb)
  clear hb hB1 hr1 ko
  have r0 := hr2.out.cell (j := 0) rfl; have r1 := hr2.out.cell (j := 1) rfl; have r2 := hr2.out.cell (j := 2) rfl
  have f0 := hr2.out.frozen 0; have f1 := hr2.out.frozen 1; have f2 := hr2.out.frozen 2
  have r9 := hr2.out.lt
  have hB5 : Hid (Below w.heap.size w ((((w2.setCell ⟨w.heap.size, 0, none⟩ (.bool g)).setCell ⟨w.heap.size, 1, none⟩ (.string x)).setCell ⟨w.heap.size, 2, none⟩ (.string d)).alloc (.cells #[.bool g, .string x, .string d] 23))) := by
    have h := ((hB2.out.setCell (p := ⟨w.heap.size, 0, none⟩) (Nat.le_refl _) (.bool g)).setCell (p := ⟨w.heap.size, 1, none⟩) (Nat.le_refl _) (.string x)).setCell (p := ⟨w.heap.size, 2, none⟩) (Nat.le_refl _) (.string d)
    exact h.alloc h.size _
  have hR5 : Hid (Bk ((((w2.setCell ⟨w.heap.size, 0, none⟩ (.bool g)).setCell ⟨w.heap.size, 1, none⟩ (.string x)).setCell ⟨w.heap.size, 2, none⟩ (.string d)).alloc (.cells #[.bool g, .string x, .string d] 23)) w.heap.size 23 [.bool g, .string x, .string d]) := (((hr2.out.set 0 (.bool g)).set 1 (.string x)).set 2 (.string d)).alloc _
  go_wp2
  (try simp only [Exit.inBlock, Exit.then])
  have s0 := hR5.out.cell (j := 0) rfl; have s1 := hR5.out.cell (j := 1) rfl; have s2 := hR5.out.cell (j := 2) rfl
  have s9 := hR5.out.lt
  refine bodyPost_ret (v := .agg #[.bool g, .string x, .string d]) (by simp [results, Tryz.results18, go_sem, s0, s1, s2]) rfl ⟨rfl, hB5.out⟩
def ratesL : List Rt := [(⟨#[85, 83, 68]⟩, 10, 4, 5), (⟨#[85, 83, 68]⟩, 0, 9, 10), (⟨#[67, 72, 70]⟩, 0, 1, 1)]
set_option maxRecDepth 100000 in
theorem rates_any (w : World) : Calls Tryz.prog 43 #[] w fun e w' => (e = .returned (.slice (some ⟨w.heap.size, 0, none⟩) 3 3) ∧ InRt w' (some ⟨w.heap.size, 0, none⟩) ratesL ∧ w.heap.size < w'.heap.size) ∧ Below w.heap.size w w' := by
  have hb := Lib.hid (Bk.new w 42 [.string ⟨#[85, 83, 68]⟩, .int .i64 10, .int .i64 4, .int .i64 5, .string ⟨#[85, 83, 68]⟩, .int .i64 0, .int .i64 9, .int .i64 10, .string ⟨#[67, 72, 70]⟩, .int .i64 0, .int .i64 1, .int .i64 1])
  have hB1 : Hid (Below w.heap.size w (w.alloc (.cells #[.string ⟨#[85, 83, 68]⟩, .int .i64 10, .int .i64 4, .int .i64 5, .string ⟨#[85, 83, 68]⟩, .int .i64 0, .int .i64 9, .int .i64 10, .string ⟨#[67, 72, 70]⟩, .int .i64 0, .int .i64 1, .int .i64 1] 42))) := (Below.refl _ w).alloc (Nat.le_refl _) _
  have hI : Hid (InRt (w.alloc (.cells #[.string ⟨#[85, 83, 68]⟩, .int .i64 10, .int .i64 4, .int .i64 5, .string ⟨#[85, 83, 68]⟩, .int .i64 0, .int .i64 9, .int .i64 10, .string ⟨#[67, 72, 70]⟩, .int .i64 0, .int .i64 1, .int .i64 1] 42)) (some ⟨w.heap.size, 0, none⟩) ratesL) := fun _ => ⟨w.heap.size, 0, rfl, hb.out.lt, fun j hj => by
    match j, hj with
    | 0, _ => exact ⟨hb.out.cell (j := 0) rfl, hb.out.cell (j := 1) rfl, hb.out.cell (j := 2) rfl, hb.out.cell (j := 3) rfl⟩
    | 1, _ => exact ⟨hb.out.cell (j := 4) rfl, hb.out.cell (j := 5) rfl, hb.out.cell (j := 6) rfl, hb.out.cell (j := 7) rfl⟩
    | 2, _ => exact ⟨hb.out.cell (j := 8) rfl, hb.out.cell (j := 9) rfl, hb.out.cell (j := 10) rfl, hb.out.cell (j := 11) rfl⟩
    | j + 3, hj => exact absurd hj (by simp [ratesL])⟩
  have hl := Lib.hid hb.out.lt
  clear hb
  go_enter Tryz.func43, Tryz.ntmps43
  go_wp2
  go_ret
  exact ⟨⟨rfl, hI.out, hl.out⟩, hB1.out⟩
theorem rates_sz : RtSz ratesL := by
  intro x hx
  simp only [ratesL, List.mem_cons, List.mem_nil_iff, or_false] at hx
  rcases hx with rfl | rfl | rfl <;> decide
set_option maxRecDepth 100000 in
set_option maxHeartbeats 4000000 in
theorem head1_any (c tc : ByteArray) (u day m n : Int) (lb : Nat) (A : Option Addr) (w : World) (hE : Env w) (hlb : w.cell? ⟨lb, 0, none⟩ = some (.slice A 3 3)) (hA : InRt w A ratesL) (hc : c.size ≤ 100) (ht : tc.size ≤ 100) (hm : -1000 ≤ m ∧ m ≤ 1000) (hn : 1 ≤ n ∧ n ≤ 1000) (hv : convR ratesL ⟨#[69, 85, 82]⟩ c u tc day = (some (ofQ m n), 0)) :
    Calls Tryz.prog 44 #[.string c, .int .i64 u, .string tc, .int .i64 day, .int .i64 m, .int .i64 n, .pointer (some ⟨lb, 0, none⟩)] w fun e w' => e = .returned (.bool true) ∧ Below w.heap.size w w' := by
  obtain ⟨g, x, d, q0⟩ := agg_qv (ofQ m n)
  have kc : Hid (Calls Tryz.prog 17 #[.slice A 3 3, .string ⟨#[69, 85, 82]⟩, .agg #[.string c, .int .i64 u], .string tc, .int .i64 day] w fun e w' => e = .returned (.tuple #[.agg #[.bool g, .string x, .string d], .int .i64 0]) ∧ Below w.heap.size w w') := by
    have h := Convert_any ratesL A 3 ⟨#[69, 85, 82]⟩ c u tc day w hE hA (by decide) (by decide) (by omega) (by omega) rates_sz
    rw [hv] at h
    rw [show cvV (some (ofQ m n), (0 : Int)).1 = .agg #[.bool g, .string x, .string d] from q0] at h
    exact h
  have ko : Hid (∀ W, Env W → Calls Tryz.prog 18 #[.int .i64 m, .int .i64 n] W fun e w' => e = .returned (.agg #[.bool g, .string x, .string d]) ∧ Below W.heap.size W w') := fun W hW => by
    have h := of_any m n W hW (by omega) (by omega) (by omega) (by omega) (by omega)
    rw [q0] at h
    exact h
  have hll := World.block_lt_of_cell? w _ hlb
  replace hE := Lib.hid hE
  clear hA hv q0
  go_enter Tryz.func44, Tryz.ntmps44
  go_wp2_with fail
  refine kc.out.mono ?_
  rintro e w2 ⟨rfl, hb⟩
  have hB3 : Hid (Below w.heap.size w (w2.alloc (.cells #[.bool g, .string x, .string d] 23))) := hb.alloc hb.size _
  have hr3 : Hid (Bk (w2.alloc (.cells #[.bool g, .string x, .string d] 23)) w2.heap.size 23 [.bool g, .string x, .string d]) := Bk.new _ _ _
  clear hb kc hlb hll
  go_wp2_with fail
  obtain ⟨w3, hw3⟩ : ∃ W, W = w2.alloc (.cells #[.bool g, .string x, .string d] 23) := ⟨_, rfl⟩
  rw [← hw3] at hB3 hr3 ⊢
  obtain ⟨rb, hrb⟩ : ∃ x, x = w2.heap.size := ⟨_, rfl⟩
  rw [← hrb] at hr3 ⊢
  replace hw3 := Lib.hid hw3; replace hrb := Lib.hid hrb
  have hB3d : Hid (Below w.heap.size w w3.drew) := hB3.out.drew
  have r0 := hr3.out.cell (j := 0) rfl; have r1 := hr3.out.cell (j := 1) rfl; have r2 := hr3.out.cell (j := 2) rfl; have r9 := hr3.out.lt
  have hS : Hid (∀ W, Below w3.heap.size w3 W → W.cell? ⟨rb, 0, none⟩ = some (.bool g) ∧ W.cell? ⟨rb, 1, none⟩ = some (.string x) ∧ W.cell? ⟨rb, 2, none⟩ = some (.string d)) := fun W hb => ⟨(hr3.out.below hb).cell (j := 0) rfl, (hr3.out.below hb).cell (j := 1) rfl, (hr3.out.below hb).cell (j := 2) rfl⟩
  go_region_held3 (fun W => W.cell? ⟨rb, 0, none⟩ = some (.bool g) ∧ W.cell? ⟨rb, 1, none⟩ = some (.string x) ∧ W.cell? ⟨rb, 2, none⟩ = some (.string d)) (first | (with_reducible exact hS.out _ (Below.refl _ _)) | (with_reducible exact hS.out _ (Below.refl _ _).drew) | (with_reducible exact hS.out _ hb4.out) | go_keep) (first | (refine (ko.out _ (hE.out.below hB3d.out)).mono ?_; rintro e w4 ⟨rfl, hb⟩; have hB4 := Lib.hid (hB3d.out.trans (hb.mono hB3d.out.size)); have hb4 : Hid (Below w3.heap.size w3 w4) := ((Below.refl _ w3).drew.trans (hb.mono (Nat.le_refl _))); clear hb))
  go_wp2
  go_ret
  exact ⟨by simp, hB4.out⟩
theorem hv1 : convR ratesL ⟨#[69, 85, 82]⟩ ⟨#[85, 83, 68]⟩ 100 ⟨#[69, 85, 82]⟩ 9 = (some (ofQ 90 1), 0) := by decide +kernel
theorem hv2 : convR ratesL ⟨#[69, 85, 82]⟩ ⟨#[85, 83, 68]⟩ 100 ⟨#[69, 85, 82]⟩ 10 = (some (ofQ 80 1), 0) := by decide +kernel
theorem hv3 : convR ratesL ⟨#[69, 85, 82]⟩ ⟨#[69, 85, 82]⟩ 10 ⟨#[85, 83, 68]⟩ 10 = (some (ofQ 25 2), 0) := by decide +kernel
theorem hv4 : convR ratesL ⟨#[69, 85, 82]⟩ ⟨#[67, 72, 70]⟩ 9 ⟨#[85, 83, 68]⟩ 0 = (some (ofQ 10 1), 0) := by decide +kernel
theorem hf1 : findR ratesL ⟨#[69, 85, 82]⟩ ⟨#[71, 66, 80]⟩ 5 = (noR, 11) := by decide +kernel
theorem hr1 : roundV (ofQ 5 2) = (2, 0) := by decide +kernel
theorem hr2 : roundV (ofQ 7 2) = (4, 0) := by decide +kernel
theorem hr3 : roundV (ofQ (-5) 2) = (-2, 0) := by decide +kernel
theorem hs1 : splitL 10 [1, 1, 1] = [4, 3, 3] := by decide +kernel
theorem he1 : splitE 10 [1, 1, 1] = 0 := by decide +kernel
theorem hs2 : splitL 7 [0, 2, 1] = [0, 5, 2] := by decide +kernel
theorem he2 : splitE 7 [0, 2, 1] = 0 := by decide +kernel
theorem sh1 : ShortQ (ofQ 5 2) := (ofQ_dg (by decide) (by decide)).short (by omega)
theorem sh2 : ShortQ (ofQ 7 2) := (ofQ_dg (by decide) (by decide)).short (by omega)
theorem sh3 : ShortQ (ofQ (-5) 2) := by
  have h := mkRat_le (sg (!(decide ((-5 : Int) < 0) == decide ((2 : Int) < 0))) (-5 : Int).natAbs) (2 : Int).natAbs (by decide)
  have d : Dg 7 (ofQ (-5) 2) := ⟨Nat.lt_of_le_of_lt h.1 (by rw [sg_natAbs]; decide), Nat.lt_of_le_of_lt h.2 (by decide)⟩
  exact d.short (by omega)
/-- A slice of three ints that was just laid. -/
theorem in3 (w : World) (a b c : Int) : InInt (w.alloc (.cells #[.int .i64 a, .int .i64 b, .int .i64 c] 3)) (some ⟨w.heap.size, 0, none⟩) [a, b, c] := fun _ => by
  have h := Bk.new w 3 [.int .i64 a, .int .i64 b, .int .i64 c]
  refine ⟨w.heap.size, 0, rfl, h.lt, fun j hj => ?_⟩
  match j, hj with
  | 0, _ => exact h.cell (j := 0) rfl
  | 1, _ => exact h.cell (j := 1) rfl
  | 2, _ => exact h.cell (j := 2) rfl
  | j + 3, hj => exact absurd hj (by simp)
set_option maxRecDepth 100000 in
set_option maxHeartbeats 8000000 in
theorem head8_any (w : World) (hE : Env w) : Calls Tryz.prog 11 #[] w fun e w' => e = .returned (.bool true) ∧ Below w.heap.size w w' := by
  replace hE := Lib.hid hE
  have hB0 : Hid (Below w.heap.size w w) := Below.refl _ _
  have kr := Lib.hid (rates_any w)
  go_enter Tryz.func11, Tryz.ntmps11
  go_wp2_with fail
  refine kr.out.mono ?_
  rintro e w1 ⟨⟨rfl, hI1, hlt⟩, hb⟩
  have hB1 := Lib.hid hb; replace hI1 := Lib.hid hI1; clear hb kr hB0
  have hbb : Hid (Below w1.heap.size w1 (w1.alloc (.cells #[.slice (some ⟨w.heap.size, 0, none⟩) 3 3] 33))) := (Below.refl _ _).alloc (Nat.le_refl _) _
  have hBb := Lib.hid (hB1.out.trans (hbb.out.mono hB1.out.size))
  have hIb := Lib.hid (hI1.out.below hbb.out)
  clear hbb hB1 hI1
  have hLb : Hid (Bk (w1.alloc (.cells #[.slice (some ⟨w.heap.size, 0, none⟩) 3 3] 33)) w1.heap.size 33 [.slice (some ⟨w.heap.size, 0, none⟩) 3 3]) := Bk.new _ _ _
  obtain ⟨lb, hlb⟩ : ∃ x, x = w1.heap.size := ⟨_, rfl⟩
  have kf : Hid (Calls Tryz.prog 21 #[.slice (some ⟨w.heap.size, 0, none⟩) 3 3, .string ⟨#[69, 85, 82]⟩, .string ⟨#[71, 66, 80]⟩, .int .i64 5] (w1.alloc (.cells #[.slice (some ⟨w.heap.size, 0, none⟩) 3 3] 33)) fun e w' => e = .returned (.tuple #[.agg #[.string ⟨#[]⟩, .int .i64 0, .int .i64 0, .int .i64 0], .int .i64 11]) ∧ Below ((w1.alloc (.cells #[.slice (some ⟨w.heap.size, 0, none⟩) 3 3] 33))).heap.size (w1.alloc (.cells #[.slice (some ⟨w.heap.size, 0, none⟩) 3 3] 33)) w') := by have h := Find_any ratesL (some ⟨w.heap.size, 0, none⟩) 3 ⟨#[69, 85, 82]⟩ ⟨#[71, 66, 80]⟩ 5 (w1.alloc (.cells #[.slice (some ⟨w.heap.size, 0, none⟩) 3 3] 33)) hIb.out (by decide) (by decide) (by decide) rates_sz; rw [hf1] at h; exact h
  have l0 := hLb.out.cell (j := 0) rfl; have l9 := hLb.out.lt
  go_wp2_with fail
  refine kf.out.mono ?_
  rintro e w2 ⟨rfl, hb⟩
  clear kf l0 l9 hlt
  have hB2 := Lib.hid (hBb.out.trans (hb.mono hBb.out.size))
  have hI2 := Lib.hid (hIb.out.below hb)
  have hL2 := Lib.hid (hLb.out.below hb)
  clear hb hBb hIb hLb
  rw [← hlb] at hL2
  (try rw [← hlb])
  replace hlb := Lib.hid hlb
  have hbb : Hid (Below w2.heap.size w2 (w2.alloc (.cells #[.string ⟨#[]⟩, .int .i64 0, .int .i64 0, .int .i64 0] 42))) := (Below.refl _ _).alloc (Nat.le_refl _) _
  have hBb := Lib.hid (hB2.out.trans (hbb.out.mono hB2.out.size))
  have hIb := Lib.hid (hI2.out.below hbb.out)
  have hLb := Lib.hid (hL2.out.below hbb.out)
  clear hbb hB2 hI2 hL2
  obtain ⟨g0, x0, d0, q0⟩ := agg_qv (ofQ 5 2)
  have ko : Hid (Calls Tryz.prog 18 #[.int .i64 5, .int .i64 2] (w2.alloc (.cells #[.string ⟨#[]⟩, .int .i64 0, .int .i64 0, .int .i64 0] 42)) fun e w' => e = .returned (.agg #[.bool g0, .string x0, .string d0]) ∧ Below ((w2.alloc (.cells #[.string ⟨#[]⟩, .int .i64 0, .int .i64 0, .int .i64 0] 42))).heap.size (w2.alloc (.cells #[.string ⟨#[]⟩, .int .i64 0, .int .i64 0, .int .i64 0] 42)) w') := by have h := of_any 5 2 (w2.alloc (.cells #[.string ⟨#[]⟩, .int .i64 0, .int .i64 0, .int .i64 0] 42)) (hE.out.below hBb.out) (by decide) (by decide) (by decide) (by decide) (by decide); rw [q0] at h; exact h
  go_wp2_with fail
  refine ko.out.mono ?_
  rintro e w3 ⟨rfl, hb⟩
  clear ko
  have hB3 := Lib.hid (hBb.out.trans (hb.mono hBb.out.size))
  have hI3 := Lib.hid (hIb.out.below hb)
  have hL3 := Lib.hid (hLb.out.below hb)
  clear hb hBb hIb hLb
  have ko : Hid (Calls Tryz.prog 12 #[.agg #[.bool g0, .string x0, .string d0]] w3 fun e w' => e = .returned (.tuple #[.int .i64 2, .int .i64 0]) ∧ Below w3.heap.size w3 w') := by have h := Round_short (ofQ 5 2) sh1 w3 (hE.out.below hB3.out); rw [hr1, q0] at h; exact h
  go_wp2_with fail
  refine ko.out.mono ?_
  rintro e w4 ⟨rfl, hb⟩
  clear ko q0
  have hB4 := Lib.hid (hB3.out.trans (hb.mono hB3.out.size))
  have hI4 := Lib.hid (hI3.out.below hb)
  have hL4 := Lib.hid (hL3.out.below hb)
  clear hb hB3 hI3 hL3
  obtain ⟨g1, x1, d1, q1⟩ := agg_qv (ofQ 7 2)
  have ko : Hid (Calls Tryz.prog 18 #[.int .i64 7, .int .i64 2] w4 fun e w' => e = .returned (.agg #[.bool g1, .string x1, .string d1]) ∧ Below (w4).heap.size w4 w') := by have h := of_any 7 2 w4 (hE.out.below hB4.out) (by decide) (by decide) (by decide) (by decide) (by decide); rw [q1] at h; exact h
  go_wp2_with fail
  refine ko.out.mono ?_
  rintro e w5 ⟨rfl, hb⟩
  clear ko
  have hB5 := Lib.hid (hB4.out.trans (hb.mono hB4.out.size))
  have hI5 := Lib.hid (hI4.out.below hb)
  have hL5 := Lib.hid (hL4.out.below hb)
  clear hb hB4 hI4 hL4
  have ko : Hid (Calls Tryz.prog 12 #[.agg #[.bool g1, .string x1, .string d1]] w5 fun e w' => e = .returned (.tuple #[.int .i64 4, .int .i64 0]) ∧ Below w5.heap.size w5 w') := by have h := Round_short (ofQ 7 2) sh2 w5 (hE.out.below hB5.out); rw [hr2, q1] at h; exact h
  go_wp2_with fail
  refine ko.out.mono ?_
  rintro e w6 ⟨rfl, hb⟩
  clear ko q1
  have hB6 := Lib.hid (hB5.out.trans (hb.mono hB5.out.size))
  have hI6 := Lib.hid (hI5.out.below hb)
  have hL6 := Lib.hid (hL5.out.below hb)
  clear hb hB5 hI5 hL5
  obtain ⟨g2, x2, d2, q2⟩ := agg_qv (ofQ (-5) 2)
  have ko : Hid (Calls Tryz.prog 18 #[.int .i64 (-5), .int .i64 2] w6 fun e w' => e = .returned (.agg #[.bool g2, .string x2, .string d2]) ∧ Below (w6).heap.size w6 w') := by have h := of_any (-5) 2 w6 (hE.out.below hB6.out) (by decide) (by decide) (by decide) (by decide) (by decide); rw [q2] at h; exact h
  go_wp2_with fail
  refine ko.out.mono ?_
  rintro e w7 ⟨rfl, hb⟩
  clear ko
  have hB7 := Lib.hid (hB6.out.trans (hb.mono hB6.out.size))
  have hI7 := Lib.hid (hI6.out.below hb)
  have hL7 := Lib.hid (hL6.out.below hb)
  clear hb hB6 hI6 hL6
  have ko : Hid (Calls Tryz.prog 12 #[.agg #[.bool g2, .string x2, .string d2]] w7 fun e w' => e = .returned (.tuple #[.int .i64 (-2), .int .i64 0]) ∧ Below w7.heap.size w7 w') := by have h := Round_short (ofQ (-5) 2) sh3 w7 (hE.out.below hB7.out); rw [hr3, q2] at h; exact h
  go_wp2_with fail
  refine ko.out.mono ?_
  rintro e w8 ⟨rfl, hb⟩
  clear ko q2
  have hB8 := Lib.hid (hB7.out.trans (hb.mono hB7.out.size))
  have hI8 := Lib.hid (hI7.out.below hb)
  have hL8 := Lib.hid (hL7.out.below hb)
  clear hb hB7 hI7 hL7
  have hT : Hid (InInt (w8.alloc (.cells #[.int .i64 1, .int .i64 1, .int .i64 1] 3)) (some ⟨w8.heap.size, 0, none⟩) [1, 1, 1]) := in3 _ _ _ _
  have hbb : Hid (Below w8.heap.size w8 (w8.alloc (.cells #[.int .i64 1, .int .i64 1, .int .i64 1] 3))) := (Below.refl _ _).alloc (Nat.le_refl _) _
  have hBb := Lib.hid (hB8.out.trans (hbb.out.mono hB8.out.size))
  have hIb := Lib.hid (hI8.out.below hbb.out)
  have hLb := Lib.hid (hL8.out.below hbb.out)
  clear hbb hB8 hI8 hL8
  have ks : Hid (Calls Tryz.prog 14 #[.int .i64 10, .slice (some ⟨w8.heap.size, 0, none⟩) 3 3] (w8.alloc (.cells #[.int .i64 1, .int .i64 1, .int .i64 1] 3)) (SpPost 10 [1, 1, 1] (w8.alloc (.cells #[.int .i64 1, .int .i64 1, .int .i64 1] 3)))) := Split_any 10 (some ⟨w8.heap.size, 0, none⟩) 3 [1, 1, 1] (w8.alloc (.cells #[.int .i64 1, .int .i64 1, .int .i64 1] 3)) hT.out (by decide)
  go_wp2_with fail
  refine ks.out.mono ?_
  rintro e w9 ⟨⟨B0, c0, he, hin⟩, hb⟩
  rw [hs1, he1] at he; rw [hs1] at hin
  obtain rfl := he
  replace hin := Lib.hid hin
  clear ks hT
  have hB9 := Lib.hid (hBb.out.trans (hb.mono hBb.out.size))
  have hI9 := Lib.hid (hIb.out.below hb)
  have hL9 := Lib.hid (hLb.out.below hb)
  clear hb hBb hIb hLb
  have hPa9 := hin; clear hin
  have hT : Hid (InInt (w9.alloc (.cells #[.int .i64 0, .int .i64 2, .int .i64 1] 3)) (some ⟨w9.heap.size, 0, none⟩) [0, 2, 1]) := in3 _ _ _ _
  have hbb : Hid (Below w9.heap.size w9 (w9.alloc (.cells #[.int .i64 0, .int .i64 2, .int .i64 1] 3))) := (Below.refl _ _).alloc (Nat.le_refl _) _
  have hBb := Lib.hid (hB9.out.trans (hbb.out.mono hB9.out.size))
  have hIb := Lib.hid (hI9.out.below hbb.out)
  have hLb := Lib.hid (hL9.out.below hbb.out)
  have hPab := Lib.hid (hPa9.out.below hbb.out)
  clear hbb hB9 hI9 hL9 hPa9
  have ks : Hid (Calls Tryz.prog 14 #[.int .i64 7, .slice (some ⟨w9.heap.size, 0, none⟩) 3 3] (w9.alloc (.cells #[.int .i64 0, .int .i64 2, .int .i64 1] 3)) (SpPost 7 [0, 2, 1] (w9.alloc (.cells #[.int .i64 0, .int .i64 2, .int .i64 1] 3)))) := Split_any 7 (some ⟨w9.heap.size, 0, none⟩) 3 [0, 2, 1] (w9.alloc (.cells #[.int .i64 0, .int .i64 2, .int .i64 1] 3)) hT.out (by decide)
  go_wp2_with fail
  refine ks.out.mono ?_
  rintro e w10 ⟨⟨B1, c1, he, hin⟩, hb⟩
  rw [hs2, he2] at he; rw [hs2] at hin
  obtain rfl := he
  replace hin := Lib.hid hin
  clear ks hT
  have hB10 := Lib.hid (hBb.out.trans (hb.mono hBb.out.size))
  have hI10 := Lib.hid (hIb.out.below hb)
  have hL10 := Lib.hid (hLb.out.below hb)
  have hPa10 := Lib.hid (hPab.out.below hb)
  clear hb hBb hIb hLb hPab
  have hPb10 := hin; clear hin
  have kh := Lib.hid (head1_any ⟨#[85, 83, 68]⟩ ⟨#[69, 85, 82]⟩ 100 9 90 1 lb (some ⟨w.heap.size, 0, none⟩) w10 (hE.out.below hB10.out) (hL10.out.cell (j := 0) rfl) hI10.out (by decide) (by decide) (by decide) (by decide) hv1)
  go_wp2_with fail
  refine kh.out.mono ?_
  rintro e w11 ⟨rfl, hb⟩
  clear kh
  have hB11 := Lib.hid (hB10.out.trans (hb.mono hB10.out.size))
  have hI11 := Lib.hid (hI10.out.below hb)
  have hL11 := Lib.hid (hL10.out.below hb)
  have hPa11 := Lib.hid (hPa10.out.below hb)
  have hPb11 := Lib.hid (hPb10.out.below hb)
  clear hb hB10 hI10 hL10 hPa10 hPb10
  have kh := Lib.hid (head1_any ⟨#[85, 83, 68]⟩ ⟨#[69, 85, 82]⟩ 100 10 80 1 lb (some ⟨w.heap.size, 0, none⟩) w11 (hE.out.below hB11.out) (hL11.out.cell (j := 0) rfl) hI11.out (by decide) (by decide) (by decide) (by decide) hv2)
  go_wp2_with fail
  refine kh.out.mono ?_
  rintro e w12 ⟨rfl, hb⟩
  clear kh
  have hB12 := Lib.hid (hB11.out.trans (hb.mono hB11.out.size))
  have hI12 := Lib.hid (hI11.out.below hb)
  have hL12 := Lib.hid (hL11.out.below hb)
  have hPa12 := Lib.hid (hPa11.out.below hb)
  have hPb12 := Lib.hid (hPb11.out.below hb)
  clear hb hB11 hI11 hL11 hPa11 hPb11
  have kh := Lib.hid (head1_any ⟨#[69, 85, 82]⟩ ⟨#[85, 83, 68]⟩ 10 10 25 2 lb (some ⟨w.heap.size, 0, none⟩) w12 (hE.out.below hB12.out) (hL12.out.cell (j := 0) rfl) hI12.out (by decide) (by decide) (by decide) (by decide) hv3)
  go_wp2_with fail
  refine kh.out.mono ?_
  rintro e w13 ⟨rfl, hb⟩
  clear kh
  have hB13 := Lib.hid (hB12.out.trans (hb.mono hB12.out.size))
  have hI13 := Lib.hid (hI12.out.below hb)
  have hL13 := Lib.hid (hL12.out.below hb)
  have hPa13 := Lib.hid (hPa12.out.below hb)
  have hPb13 := Lib.hid (hPb12.out.below hb)
  clear hb hB12 hI12 hL12 hPa12 hPb12
  have kh := Lib.hid (head1_any ⟨#[67, 72, 70]⟩ ⟨#[85, 83, 68]⟩ 9 0 10 1 lb (some ⟨w.heap.size, 0, none⟩) w13 (hE.out.below hB13.out) (hL13.out.cell (j := 0) rfl) hI13.out (by decide) (by decide) (by decide) (by decide) hv4)
  go_wp2_with fail
  refine kh.out.mono ?_
  rintro e w14 ⟨rfl, hb⟩
  clear kh
  have hB14 := Lib.hid (hB13.out.trans (hb.mono hB13.out.size))
  have hI14 := Lib.hid (hI13.out.below hb)
  have hL14 := Lib.hid (hL13.out.below hb)
  have hPa14 := Lib.hid (hPa13.out.below hb)
  have hPb14 := Lib.hid (hPb13.out.below hb)
  clear hb hB13 hI13 hL13 hPa13 hPb13
  have hT : Hid (InInt (w14.alloc (.cells #[.int .i64 4, .int .i64 3, .int .i64 3] 3)) (some ⟨w14.heap.size, 0, none⟩) [4, 3, 3]) := in3 _ _ _ _
  have hbb : Hid (Below w14.heap.size w14 (w14.alloc (.cells #[.int .i64 4, .int .i64 3, .int .i64 3] 3))) := (Below.refl _ _).alloc (Nat.le_refl _) _
  have hBb := Lib.hid (hB14.out.trans (hbb.out.mono hB14.out.size))
  have hIb := Lib.hid (hI14.out.below hbb.out)
  have hLb := Lib.hid (hL14.out.below hbb.out)
  have hPab := Lib.hid (hPa14.out.below hbb.out)
  have hPbb := Lib.hid (hPb14.out.below hbb.out)
  clear hbb hB14 hI14 hL14 hPa14 hPb14
  have ki : Hid (Calls Tryz.prog 16 #[.slice B0 3 c0, .slice (some ⟨w14.heap.size, 0, none⟩) 3 3] (w14.alloc (.cells #[.int .i64 4, .int .i64 3, .int .i64 3] 3)) fun e w' => e = .returned (.bool true) ∧ Below ((w14.alloc (.cells #[.int .i64 4, .int .i64 3, .int .i64 3] 3))).heap.size (w14.alloc (.cells #[.int .i64 4, .int .i64 3, .int .i64 3] 3)) w') := (Ints8_any B0 (some ⟨w14.heap.size, 0, none⟩) c0 3 [4, 3, 3] [4, 3, 3] (w14.alloc (.cells #[.int .i64 4, .int .i64 3, .int .i64 3] 3)) hPab.out hT.out (by decide)).mono fun e w' h => ⟨by rw [h.1, decide_eq_true rfl], by obtain ⟨q, rfl⟩ := h.2; exact blw_drewN (Below.refl _ _) q⟩
  go_wp2_with fail
  refine ki.out.mono ?_
  rintro e w15 ⟨rfl, hb⟩
  clear ki hT
  have hB15 := Lib.hid (hBb.out.trans (hb.mono hBb.out.size))
  have hI15 := Lib.hid (hIb.out.below hb)
  have hL15 := Lib.hid (hLb.out.below hb)
  have hPa15 := Lib.hid (hPab.out.below hb)
  have hPb15 := Lib.hid (hPbb.out.below hb)
  clear hb hBb hIb hLb hPab hPbb
  have hT : Hid (InInt (w15.alloc (.cells #[.int .i64 0, .int .i64 5, .int .i64 2] 3)) (some ⟨w15.heap.size, 0, none⟩) [0, 5, 2]) := in3 _ _ _ _
  have hbb : Hid (Below w15.heap.size w15 (w15.alloc (.cells #[.int .i64 0, .int .i64 5, .int .i64 2] 3))) := (Below.refl _ _).alloc (Nat.le_refl _) _
  have hBb := Lib.hid (hB15.out.trans (hbb.out.mono hB15.out.size))
  have hIb := Lib.hid (hI15.out.below hbb.out)
  have hLb := Lib.hid (hL15.out.below hbb.out)
  have hPab := Lib.hid (hPa15.out.below hbb.out)
  have hPbb := Lib.hid (hPb15.out.below hbb.out)
  clear hbb hB15 hI15 hL15 hPa15 hPb15
  have ki : Hid (Calls Tryz.prog 16 #[.slice B1 3 c1, .slice (some ⟨w15.heap.size, 0, none⟩) 3 3] (w15.alloc (.cells #[.int .i64 0, .int .i64 5, .int .i64 2] 3)) fun e w' => e = .returned (.bool true) ∧ Below ((w15.alloc (.cells #[.int .i64 0, .int .i64 5, .int .i64 2] 3))).heap.size (w15.alloc (.cells #[.int .i64 0, .int .i64 5, .int .i64 2] 3)) w') := (Ints8_any B1 (some ⟨w15.heap.size, 0, none⟩) c1 3 [0, 5, 2] [0, 5, 2] (w15.alloc (.cells #[.int .i64 0, .int .i64 5, .int .i64 2] 3)) hPbb.out hT.out (by decide)).mono fun e w' h => ⟨by rw [h.1, decide_eq_true rfl], by obtain ⟨q, rfl⟩ := h.2; exact blw_drewN (Below.refl _ _) q⟩
  go_wp2_with fail
  refine ki.out.mono ?_
  rintro e w16 ⟨rfl, hb⟩
  clear ki hT
  have hB16 := Lib.hid (hBb.out.trans (hb.mono hBb.out.size))
  have hI16 := Lib.hid (hIb.out.below hb)
  have hL16 := Lib.hid (hLb.out.below hb)
  have hPa16 := Lib.hid (hPab.out.below hb)
  have hPb16 := Lib.hid (hPbb.out.below hb)
  clear hb hBb hIb hLb hPab hPbb
  go_wp2
  go_ret
  exact ⟨rfl, hB16.out⟩
end Mo
end Go.Proofs.YtpmlhgmmobpilaaGreatDoor

namespace Go.Proofs.YtpmlhgmmobpilaaGreatDoor
open Go.RowKit
namespace Mo
open Nt Ci
theorem cv_agg (o : Option Rat) : ∃ g n d, cvV o = .agg #[.bool g, .string n, .string d] := by
  cases o with
  | none => exact ⟨_, _, _, rfl⟩
  | some q => exact agg_qv q
theorem ofQ_div {m n : Int} (hm : 1 ≤ m) (hn : 1 ≤ n) : ofQ m n = (m : Rat) / (n : Rat) := by
  unfold ofQ
  rw [decide_eq_false (by omega : ¬ m < 0), decide_eq_false (by omega : ¬ n < 0)]
  show mkRat ((m.natAbs : Nat) : Int) n.natAbs = _
  rw [Rat.mkRat_eq_div, Int.natAbs_of_nonneg (by omega)]
  have : ((n.natAbs : Nat) : Rat) = (n : Rat) := by
    rw [← Rat.intCast_natCast, Int.natAbs_of_nonneg (by omega)]
  rw [this]
theorem int_ne {n : Int} (h : 1 ≤ n) : (n : Rat) ≠ 0 := fun e => by
  have : n = 0 := by exact_mod_cast e
  omega
theorem proper_lim {c : ByteArray} {u : Int} (h : properB c u = true) : -1000000000000 ≤ u ∧ u ≤ 1000000000000 := by
  unfold properB unitB at h
  simp only [Bool.and_eq_true, decide_eq_true_eq] at h
  exact h.2
section
variable {l : List Rt} {base c tc : ByteArray} {u v day : Int}
theorem conv_zero (h : (convR l base c u tc day).2 = 0) : properB c u = true ∧ (findR l base c day).2 = 0 ∧ (findR l base tc day).2 = 0 ∧ convR l base c u tc day = (some (cvQ u (findR l base c day).1 (findR l base tc day).1), 0) := by
  unfold convR at h ⊢
  by_cases c1 : properB c u = true
  · rw [if_pos c1] at h ⊢
    by_cases c2 : (findR l base c day).2 = 0
    · rw [if_pos c2] at h ⊢
      by_cases c3 : (findR l base tc day).2 = 0
      · rw [if_pos c3] at h ⊢
        exact ⟨c1, c2, c3, rfl⟩
      · rw [if_neg c3] at h
        exact absurd h c3
    · rw [if_neg c2] at h
      exact absurd h c2
  · rw [if_neg c1] at h
    cases h
theorem conv_of (h1 : properB c u = true) (h2 : (findR l base c day).2 = 0) (h3 : (findR l base tc day).2 = 0) : convR l base c u tc day = (some (cvQ u (findR l base c day).1 (findR l base tc day).1), 0) := by
  unfold convR
  rw [if_pos h1, if_pos h2, if_pos h3]
theorem conv_bad (h : properB c u = false) : convR l base c u tc day = (none, 1) := by
  unfold convR
  rw [if_neg (by rw [h]; decide)]
theorem cvQ_eq (x y : Rt) : cvQ u x y = (u : Rat) * ofQ x.2.2.1 x.2.2.2 * ofQ y.2.2.2 y.2.2.1 := rfl
theorem cvQ_short {x y : Rt} (hu : properB c u = true) (hx : (1 ≤ x.2.2.1 ∧ x.2.2.1 ≤ 1000000) ∧ (1 ≤ x.2.2.2 ∧ x.2.2.2 ≤ 1000000)) (hy : (1 ≤ y.2.2.1 ∧ y.2.2.1 ≤ 1000000) ∧ (1 ≤ y.2.2.2 ∧ y.2.2.2 ≤ 1000000)) : ShortQ (cvQ u x y) := by
  refine cvK_short ?_ hx.1 hx.2 hy.2 hy.1 2
  unfold properB at hu
  rw [Bool.and_eq_true] at hu
  exact hu.2
/-- What MoneyConverts says, of the values. -/
structure ConvLaw (l : List Rt) (base c : ByteArray) (u v : Int) (tc : ByteArray) (day : Int) (x y i r : Rat) : Prop where
  own : convR l base c u c day = (some (u : Rat), 0)
  unit : convR l base base 1 tc day = (some r, 0)
  inner : convR l base c u base day = (some i, 0)
  through : i * r = x
  si : ShortQ i
  sr : ShortQ r
  sx : ShortQ x
  sy : ShortQ y
  lu : -1000000000000 ≤ u ∧ u ≤ 1000000000000
  lv : -1000000000000 ≤ v ∧ v ≤ 1000000000000
  both : convR l base c (u + v) tc day = (none, 1) ∨ convR l base c (u + v) tc day = (some (x + y), 0)
theorem conv_law (hx : (convR l base c u tc day).2 = 0) (hy : (convR l base c v tc day).2 = 0) : ∃ x y i r, (convR l base c u tc day) = (some x, 0) ∧ (convR l base c v tc day) = (some y, 0) ∧ ConvLaw l base c u v tc day x y i r := by
  obtain ⟨p1, f1, f2, e1⟩ := conv_zero hx
  obtain ⟨p2, _, _, e2⟩ := conv_zero hy
  have l1 := find_lim f1
  have l2 := find_lim f2
  have hok := find_ok (l := l) (base := base) (cur := c) (day := day) (x := (findR l base c day).1) (Prod.ext rfl f1)
  have fb := find_base hok.2.2.1 hok.2.2.2.2
  have pb : properB base 1 = true := by
    unfold properB
    rw [(valid_parts hok.2.2.1).1]
    rfl
  have p1p := proper_lim p1
  have p2p := proper_lim p2
  have fb2 : (findR l base base day).2 = 0 := by rw [fb]
  have o1 : ofQ 1 1 = 1 := by rw [ofQ_one]; rfl
  refine ⟨_, _, _, _, e1, e2, ⟨?_, conv_of pb fb2 f2, conv_of p1 f1 fb2, ?_, ?_, ?_, cvQ_short p1 l1 l2, cvQ_short p2 l1 l2, p1p, p2p, ?_⟩⟩
  · rw [conv_of p1 f1 f1]
    congr 2
    rw [cvQ_eq, ofQ_div l1.1.1 l1.2.1, ofQ_div l1.2.1 l1.1.1]
    have h1 := int_ne l1.1.1
    have h2 := int_ne l1.2.1
    generalize ((findR l base c day).1.2.2.1 : Rat) = a at *
    generalize ((findR l base c day).1.2.2.2 : Rat) = b at *
    grind
  · rw [cvQ_eq, cvQ_eq, cvQ_eq, fb]
    show (u : Rat) * _ * ofQ 1 1 * (((1 : Int) : Rat) * ofQ 1 1 * _) = _
    rw [o1]
    have : ((1 : Int) : Rat) = 1 := rfl
    rw [this]
    grind
  · refine cvQ_short p1 l1 ?_
    rw [fb]
    show ((1 : Int) ≤ 1 ∧ (1 : Int) ≤ 1000000) ∧ ((1 : Int) ≤ 1 ∧ (1 : Int) ≤ 1000000)
    decide
  · refine cvQ_short pb ?_ l2
    rw [fb]
    show ((1 : Int) ≤ 1 ∧ (1 : Int) ≤ 1000000) ∧ ((1 : Int) ≤ 1 ∧ (1 : Int) ≤ 1000000)
    decide
  · cases hp : properB c (u + v) with
    | false => exact .inl (conv_bad hp)
    | true =>
      right
      rw [conv_of hp f1 f2]
      congr 2
      rw [cvQ_eq, cvQ_eq, cvQ_eq]
      have : ((u + v : Int) : Rat) = (u : Rat) + (v : Rat) := by simp
      rw [this]
      grind
end
end Mo
end Go.Proofs.YtpmlhgmmobpilaaGreatDoor

namespace Go.Proofs.YtpmlhgmmobpilaaGreatDoor
open Go.RowKit Go.Shelf
namespace Mo
open Nt Ci
set_option maxRecDepth 100000 in
set_option maxHeartbeats 16000000 in
theorem law8_converts (l : List Rt) (A : Option Addr) (cap : Nat) (base c : ByteArray) (u : Int) (c0 : ByteArray) (v : Int) (tc : ByteArray) (day : Int) (w : World) (hE : Env w) (hl : InRt w A l) (hll : l.length ≤ 140737488355328) (hz : RtSz l) (hbs : base.size ≤ 140737488355328) (hcs : c.size ≤ 140737488355328) (hts : tc.size ≤ 140737488355328) (hu0 : -9223372036854775808 ≤ u) (hu1 : u ≤ 9223372036854775807) (hv0 : -9223372036854775808 ≤ v) (hv1 : v ≤ 9223372036854775807) :
    Calls Tryz.prog 4 #[.slice A l.length cap, .string base, .agg #[.string c, .int .i64 u], .agg #[.string c0, .int .i64 v], .string tc, .int .i64 day] w fun e w' => e = .returned (.bool true) ∧ Below w.heap.size w w' := by
  have hB1 : Hid (Below w.heap.size w ((w.alloc (.cells #[.string c, .int .i64 u] 35)).alloc (.cells #[.string c0, .int .i64 v] 35))) := ((Below.refl _ w).alloc (Nat.le_refl _) _).alloc (by simp) _
  have ha1 : Hid (Bk ((w.alloc (.cells #[.string c, .int .i64 u] 35)).alloc (.cells #[.string c0, .int .i64 v] 35)) w.heap.size 35 [.string c, .int .i64 u]) := (Bk.new w _ _).alloc _
  have hb1 : Hid (Bk ((w.alloc (.cells #[.string c, .int .i64 u] 35)).alloc (.cells #[.string c0, .int .i64 v] 35)) (w.heap.size + 1) 35 [.string c0, .int .i64 v]) := by have h := Bk.new (w.alloc (.cells #[.string c, .int .i64 u] 35)) 35 [.string c0, .int .i64 v]; rw [World.size_alloc] at h; exact h
  have kh := Lib.hid (head8_any ((w.alloc (.cells #[.string c, .int .i64 u] 35)).alloc (.cells #[.string c0, .int .i64 v] 35)) (hE.below hB1.out))
  have kc := Lib.hid (fun (x : ByteArray) (k : Int) (y : ByteArray) W (hB : Below w.heap.size w W) (hx : x.size ≤ 140737488355328) (hy : y.size ≤ 140737488355328) => Convert_any l A cap base x k y day W (hE.below hB) (hl.below hB) hll hbs hx hy hz)
  replace hE := Lib.hid hE; replace hl := Lib.hid hl; replace hz := Lib.hid hz
  obtain ⟨su, hsu⟩ : ∃ s, s = wrap64 (u + v) := ⟨_, rfl⟩
  obtain ⟨X, hX⟩ : ∃ x, x = convR l base c u tc day := ⟨_, rfl⟩; obtain ⟨Y, hY⟩ : ∃ x, x = convR l base c v tc day := ⟨_, rfl⟩
  have hlaw := @conv_law l base c tc u v day
  rw [← hX, ← hY] at hlaw
  have kX := Lib.hid (fun W hB => kc.out c u tc W hB hcs hts); have kY := Lib.hid (fun W hB => kc.out c v tc W hB hcs hts)
  simp only [← hX] at kX; simp only [← hY] at kY
  clear hX hY
  by_cases hlen : 20 < l.length
  · have m1 : decide (20 < (l.length : Int)) = true := decide_eq_true (by omega)
    have m1n : decide (20 < l.length) = true := decide_eq_true hlen
    clear hlaw
    obtain ⟨gX, nX, dX, qX⟩ := cv_agg X.1; obtain ⟨gY, nY, dY, qY⟩ := cv_agg Y.1
    simp only [qX] at kX; simp only [qY] at kY
    go_enter Tryz.func4, Tryz.ntmps4
    go_wp2_with fail
    refine kh.out.mono ?_
    rintro e w2 ⟨rfl, hb⟩
    have hB2 := Lib.hid (hB1.out.trans (hb.mono hB1.out.size)); have ha2 := Lib.hid (ha1.out.below hb); have hb2 := Lib.hid (hb1.out.below hb)
    clear hb hB1 ha1 hb1 kh
    have x0 := ha2.out.cell (j := 0) rfl
    have x1 := ha2.out.cell (j := 1) rfl
    have x9 := ha2.out.lt
    have y0 := hb2.out.cell (j := 0) rfl
    have y1 := hb2.out.cell (j := 1) rfl
    have y9 := hb2.out.lt
    have f0 := hb2.out.frozen 0
    have n1 : w.heap.size ≠ w.heap.size + 1 := by omega
    have hB3 : Hid (Below w.heap.size w (w2.setCell ⟨w.heap.size + 1, 0, none⟩ (.string c))) := hB2.out.setCell (p := ⟨w.heap.size + 1, 0, none⟩) (Nat.le_succ _) _
    have hBb : Hid (Below w.heap.size w ((w2.setCell ⟨w.heap.size + 1, 0, none⟩ (.string c)).alloc (.cells #[.string c, .int .i64 su] 35))) := hB3.out.alloc hB3.out.size _
    have hab : Hid (Bk ((w2.setCell ⟨w.heap.size + 1, 0, none⟩ (.string c)).alloc (.cells #[.string c, .int .i64 su] 35)) w.heap.size 35 [.string c, .int .i64 u]) := (ha2.out.far (p := ⟨w.heap.size + 1, 0, none⟩) n1 _).alloc _
    have hkb : Hid (Bk ((w2.setCell ⟨w.heap.size + 1, 0, none⟩ (.string c)).alloc (.cells #[.string c, .int .i64 su] 35)) (w.heap.size + 1) 35 [.string c, .int .i64 v]) := (hb2.out.set 0 (.string c)).alloc _
    have hsb : Hid (Bk ((w2.setCell ⟨w.heap.size + 1, 0, none⟩ (.string c)).alloc (.cells #[.string c, .int .i64 su] 35)) w2.heap.size 35 [.string c, .int .i64 su]) := by have h := Bk.new (w2.setCell ⟨w.heap.size + 1, 0, none⟩ (.string c)) 35 [.string c, .int .i64 su]; rw [World.size_setCell] at h; exact h
    have hsl : Hid (w.heap.size ≤ w2.heap.size) := hB2.out.size
    have kX3 := Lib.hid (kX.out ((w2.setCell ⟨w.heap.size + 1, 0, none⟩ (.string c)).alloc (.cells #[.string c, .int .i64 su] 35)) hBb.out); clear kX
    go_wp2_with fail
    rw [← hsu]
    replace hsu := Lib.hid hsu
    refine kX3.out.mono ?_
    rintro e w3 ⟨rfl, hb⟩
    clear kX3 hB2 ha2 hb2 hB3 f0
    clear x0 x1 x9
    clear y0 y1 y9
    have hB3 := Lib.hid (hBb.out.trans (hb.mono hBb.out.size))
    have ha3 := Lib.hid (hab.out.below hb)
    have hk3 := Lib.hid (hkb.out.below hb)
    have hs3 := Lib.hid (hsb.out.below hb)
    clear hb hBb hab hkb hsb
    have hbb : Hid (Below w3.heap.size w3 (w3.alloc (.cells #[.bool gX, .string nX, .string dX] 23))) := (Below.refl _ _).alloc (Nat.le_refl _) _
    have hBb := Lib.hid (hB3.out.trans (hbb.out.mono hB3.out.size))
    have hab := Lib.hid (ha3.out.below hbb.out)
    have hkb := Lib.hid (hk3.out.below hbb.out)
    have hsb := Lib.hid (hs3.out.below hbb.out)
    clear hbb hB3 ha3 hk3 hs3
    have hxb : Hid (Bk (w3.alloc (.cells #[.bool gX, .string nX, .string dX] 23)) w3.heap.size 23 [.bool gX, .string nX, .string dX]) := Bk.new _ _ _
    have kY3 := Lib.hid (kY.out (w3.alloc (.cells #[.bool gX, .string nX, .string dX] 23)) hBb.out); clear kY
    have y0 := hkb.out.cell (j := 0) rfl
    have y1 := hkb.out.cell (j := 1) rfl
    have y9 := hkb.out.lt
    go_wp2_with fail
    refine kY3.out.mono ?_
    rintro e w4 ⟨rfl, hb⟩
    clear kY3
    clear y0 y1 y9
    have hB4 := Lib.hid (hBb.out.trans (hb.mono hBb.out.size))
    have ha4 := Lib.hid (hab.out.below hb)
    have hk4 := Lib.hid (hkb.out.below hb)
    have hs4 := Lib.hid (hsb.out.below hb)
    have hx4 := Lib.hid (hxb.out.below hb)
    clear hb hBb hab hkb hsb hxb
    have hbb : Hid (Below w4.heap.size w4 (w4.alloc (.cells #[.bool gY, .string nY, .string dY] 23))) := (Below.refl _ _).alloc (Nat.le_refl _) _
    have hBb := Lib.hid (hB4.out.trans (hbb.out.mono hB4.out.size))
    have hab := Lib.hid (ha4.out.below hbb.out)
    have hkb := Lib.hid (hk4.out.below hbb.out)
    have hsb := Lib.hid (hs4.out.below hbb.out)
    have hxb := Lib.hid (hx4.out.below hbb.out)
    clear hbb hB4 ha4 hk4 hs4 hx4
    have hyb : Hid (Bk (w4.alloc (.cells #[.bool gY, .string nY, .string dY] 23)) w4.heap.size 23 [.bool gY, .string nY, .string dY]) := Bk.new _ _ _
    go_wp2
    go_ret
    exact ⟨rfl, hBb.out⟩
  · have m1 : decide (20 < (l.length : Int)) = false := decide_eq_false (by omega)
    have m1n : decide (20 < l.length) = false := decide_eq_false hlen
    by_cases hex : X.2 = 0
    rotate_left
    · have m2 : (X.2 != 0) = true := by rw [bne_iff_ne]; exact hex
      clear hlaw
      replace hex := Lib.hid hex
      obtain ⟨gX, nX, dX, qX⟩ := cv_agg X.1; obtain ⟨gY, nY, dY, qY⟩ := cv_agg Y.1
      simp only [qX] at kX; simp only [qY] at kY
      go_enter Tryz.func4, Tryz.ntmps4
      go_wp2_with fail
      refine kh.out.mono ?_
      rintro e w2 ⟨rfl, hb⟩
      have hB2 := Lib.hid (hB1.out.trans (hb.mono hB1.out.size)); have ha2 := Lib.hid (ha1.out.below hb); have hb2 := Lib.hid (hb1.out.below hb)
      clear hb hB1 ha1 hb1 kh
      have x0 := ha2.out.cell (j := 0) rfl
      have x1 := ha2.out.cell (j := 1) rfl
      have x9 := ha2.out.lt
      have y0 := hb2.out.cell (j := 0) rfl
      have y1 := hb2.out.cell (j := 1) rfl
      have y9 := hb2.out.lt
      have f0 := hb2.out.frozen 0
      have n1 : w.heap.size ≠ w.heap.size + 1 := by omega
      have hB3 : Hid (Below w.heap.size w (w2.setCell ⟨w.heap.size + 1, 0, none⟩ (.string c))) := hB2.out.setCell (p := ⟨w.heap.size + 1, 0, none⟩) (Nat.le_succ _) _
      have hBb : Hid (Below w.heap.size w ((w2.setCell ⟨w.heap.size + 1, 0, none⟩ (.string c)).alloc (.cells #[.string c, .int .i64 su] 35))) := hB3.out.alloc hB3.out.size _
      have hab : Hid (Bk ((w2.setCell ⟨w.heap.size + 1, 0, none⟩ (.string c)).alloc (.cells #[.string c, .int .i64 su] 35)) w.heap.size 35 [.string c, .int .i64 u]) := (ha2.out.far (p := ⟨w.heap.size + 1, 0, none⟩) n1 _).alloc _
      have hkb : Hid (Bk ((w2.setCell ⟨w.heap.size + 1, 0, none⟩ (.string c)).alloc (.cells #[.string c, .int .i64 su] 35)) (w.heap.size + 1) 35 [.string c, .int .i64 v]) := (hb2.out.set 0 (.string c)).alloc _
      have hsb : Hid (Bk ((w2.setCell ⟨w.heap.size + 1, 0, none⟩ (.string c)).alloc (.cells #[.string c, .int .i64 su] 35)) w2.heap.size 35 [.string c, .int .i64 su]) := by have h := Bk.new (w2.setCell ⟨w.heap.size + 1, 0, none⟩ (.string c)) 35 [.string c, .int .i64 su]; rw [World.size_setCell] at h; exact h
      have hsl : Hid (w.heap.size ≤ w2.heap.size) := hB2.out.size
      have kX3 := Lib.hid (kX.out ((w2.setCell ⟨w.heap.size + 1, 0, none⟩ (.string c)).alloc (.cells #[.string c, .int .i64 su] 35)) hBb.out); clear kX
      go_wp2_with fail
      rw [← hsu]
      replace hsu := Lib.hid hsu
      refine kX3.out.mono ?_
      rintro e w3 ⟨rfl, hb⟩
      clear kX3 hB2 ha2 hb2 hB3 f0
      clear x0 x1 x9
      clear y0 y1 y9
      have hB3 := Lib.hid (hBb.out.trans (hb.mono hBb.out.size))
      have ha3 := Lib.hid (hab.out.below hb)
      have hk3 := Lib.hid (hkb.out.below hb)
      have hs3 := Lib.hid (hsb.out.below hb)
      clear hb hBb hab hkb hsb
      have hbb : Hid (Below w3.heap.size w3 (w3.alloc (.cells #[.bool gX, .string nX, .string dX] 23))) := (Below.refl _ _).alloc (Nat.le_refl _) _
      have hBb := Lib.hid (hB3.out.trans (hbb.out.mono hB3.out.size))
      have hab := Lib.hid (ha3.out.below hbb.out)
      have hkb := Lib.hid (hk3.out.below hbb.out)
      have hsb := Lib.hid (hs3.out.below hbb.out)
      clear hbb hB3 ha3 hk3 hs3
      have hxb : Hid (Bk (w3.alloc (.cells #[.bool gX, .string nX, .string dX] 23)) w3.heap.size 23 [.bool gX, .string nX, .string dX]) := Bk.new _ _ _
      have kY3 := Lib.hid (kY.out (w3.alloc (.cells #[.bool gX, .string nX, .string dX] 23)) hBb.out); clear kY
      have y0 := hkb.out.cell (j := 0) rfl
      have y1 := hkb.out.cell (j := 1) rfl
      have y9 := hkb.out.lt
      go_wp2_with fail
      refine kY3.out.mono ?_
      rintro e w4 ⟨rfl, hb⟩
      clear kY3
      clear y0 y1 y9
      have hB4 := Lib.hid (hBb.out.trans (hb.mono hBb.out.size))
      have ha4 := Lib.hid (hab.out.below hb)
      have hk4 := Lib.hid (hkb.out.below hb)
      have hs4 := Lib.hid (hsb.out.below hb)
      have hx4 := Lib.hid (hxb.out.below hb)
      clear hb hBb hab hkb hsb hxb
      have hbb : Hid (Below w4.heap.size w4 (w4.alloc (.cells #[.bool gY, .string nY, .string dY] 23))) := (Below.refl _ _).alloc (Nat.le_refl _) _
      have hBb := Lib.hid (hB4.out.trans (hbb.out.mono hB4.out.size))
      have hab := Lib.hid (ha4.out.below hbb.out)
      have hkb := Lib.hid (hk4.out.below hbb.out)
      have hsb := Lib.hid (hs4.out.below hbb.out)
      have hxb := Lib.hid (hx4.out.below hbb.out)
      clear hbb hB4 ha4 hk4 hs4 hx4
      have hyb : Hid (Bk (w4.alloc (.cells #[.bool gY, .string nY, .string dY] 23)) w4.heap.size 23 [.bool gY, .string nY, .string dY]) := Bk.new _ _ _
      go_wp2
      go_ret
      exact ⟨rfl, hBb.out⟩
    · skip
      by_cases hey : Y.2 = 0
      rotate_left
      · have m2 : (X.2 != 0) = false := by rw [bne_eq_false_iff_eq]; exact hex
        have m3 : (Y.2 != 0) = true := by rw [bne_iff_ne]; exact hey
        clear hlaw
        replace hex := Lib.hid hex; replace hey := Lib.hid hey
        obtain ⟨gX, nX, dX, qX⟩ := cv_agg X.1; obtain ⟨gY, nY, dY, qY⟩ := cv_agg Y.1
        simp only [qX] at kX; simp only [qY] at kY
        go_enter Tryz.func4, Tryz.ntmps4
        go_wp2_with fail
        refine kh.out.mono ?_
        rintro e w2 ⟨rfl, hb⟩
        have hB2 := Lib.hid (hB1.out.trans (hb.mono hB1.out.size)); have ha2 := Lib.hid (ha1.out.below hb); have hb2 := Lib.hid (hb1.out.below hb)
        clear hb hB1 ha1 hb1 kh
        have x0 := ha2.out.cell (j := 0) rfl
        have x1 := ha2.out.cell (j := 1) rfl
        have x9 := ha2.out.lt
        have y0 := hb2.out.cell (j := 0) rfl
        have y1 := hb2.out.cell (j := 1) rfl
        have y9 := hb2.out.lt
        have f0 := hb2.out.frozen 0
        have n1 : w.heap.size ≠ w.heap.size + 1 := by omega
        have hB3 : Hid (Below w.heap.size w (w2.setCell ⟨w.heap.size + 1, 0, none⟩ (.string c))) := hB2.out.setCell (p := ⟨w.heap.size + 1, 0, none⟩) (Nat.le_succ _) _
        have hBb : Hid (Below w.heap.size w ((w2.setCell ⟨w.heap.size + 1, 0, none⟩ (.string c)).alloc (.cells #[.string c, .int .i64 su] 35))) := hB3.out.alloc hB3.out.size _
        have hab : Hid (Bk ((w2.setCell ⟨w.heap.size + 1, 0, none⟩ (.string c)).alloc (.cells #[.string c, .int .i64 su] 35)) w.heap.size 35 [.string c, .int .i64 u]) := (ha2.out.far (p := ⟨w.heap.size + 1, 0, none⟩) n1 _).alloc _
        have hkb : Hid (Bk ((w2.setCell ⟨w.heap.size + 1, 0, none⟩ (.string c)).alloc (.cells #[.string c, .int .i64 su] 35)) (w.heap.size + 1) 35 [.string c, .int .i64 v]) := (hb2.out.set 0 (.string c)).alloc _
        have hsb : Hid (Bk ((w2.setCell ⟨w.heap.size + 1, 0, none⟩ (.string c)).alloc (.cells #[.string c, .int .i64 su] 35)) w2.heap.size 35 [.string c, .int .i64 su]) := by have h := Bk.new (w2.setCell ⟨w.heap.size + 1, 0, none⟩ (.string c)) 35 [.string c, .int .i64 su]; rw [World.size_setCell] at h; exact h
        have hsl : Hid (w.heap.size ≤ w2.heap.size) := hB2.out.size
        have kX3 := Lib.hid (kX.out ((w2.setCell ⟨w.heap.size + 1, 0, none⟩ (.string c)).alloc (.cells #[.string c, .int .i64 su] 35)) hBb.out); clear kX
        go_wp2_with fail
        rw [← hsu]
        replace hsu := Lib.hid hsu
        refine kX3.out.mono ?_
        rintro e w3 ⟨rfl, hb⟩
        clear kX3 hB2 ha2 hb2 hB3 f0
        clear x0 x1 x9
        clear y0 y1 y9
        have hB3 := Lib.hid (hBb.out.trans (hb.mono hBb.out.size))
        have ha3 := Lib.hid (hab.out.below hb)
        have hk3 := Lib.hid (hkb.out.below hb)
        have hs3 := Lib.hid (hsb.out.below hb)
        clear hb hBb hab hkb hsb
        have hbb : Hid (Below w3.heap.size w3 (w3.alloc (.cells #[.bool gX, .string nX, .string dX] 23))) := (Below.refl _ _).alloc (Nat.le_refl _) _
        have hBb := Lib.hid (hB3.out.trans (hbb.out.mono hB3.out.size))
        have hab := Lib.hid (ha3.out.below hbb.out)
        have hkb := Lib.hid (hk3.out.below hbb.out)
        have hsb := Lib.hid (hs3.out.below hbb.out)
        clear hbb hB3 ha3 hk3 hs3
        have hxb : Hid (Bk (w3.alloc (.cells #[.bool gX, .string nX, .string dX] 23)) w3.heap.size 23 [.bool gX, .string nX, .string dX]) := Bk.new _ _ _
        have kY3 := Lib.hid (kY.out (w3.alloc (.cells #[.bool gX, .string nX, .string dX] 23)) hBb.out); clear kY
        have y0 := hkb.out.cell (j := 0) rfl
        have y1 := hkb.out.cell (j := 1) rfl
        have y9 := hkb.out.lt
        go_wp2_with fail
        refine kY3.out.mono ?_
        rintro e w4 ⟨rfl, hb⟩
        clear kY3
        clear y0 y1 y9
        have hB4 := Lib.hid (hBb.out.trans (hb.mono hBb.out.size))
        have ha4 := Lib.hid (hab.out.below hb)
        have hk4 := Lib.hid (hkb.out.below hb)
        have hs4 := Lib.hid (hsb.out.below hb)
        have hx4 := Lib.hid (hxb.out.below hb)
        clear hb hBb hab hkb hsb hxb
        have hbb : Hid (Below w4.heap.size w4 (w4.alloc (.cells #[.bool gY, .string nY, .string dY] 23))) := (Below.refl _ _).alloc (Nat.le_refl _) _
        have hBb := Lib.hid (hB4.out.trans (hbb.out.mono hB4.out.size))
        have hab := Lib.hid (ha4.out.below hbb.out)
        have hkb := Lib.hid (hk4.out.below hbb.out)
        have hsb := Lib.hid (hs4.out.below hbb.out)
        have hxb := Lib.hid (hx4.out.below hbb.out)
        clear hbb hB4 ha4 hk4 hs4 hx4
        have hyb : Hid (Bk (w4.alloc (.cells #[.bool gY, .string nY, .string dY] 23)) w4.heap.size 23 [.bool gY, .string nY, .string dY]) := Bk.new _ _ _
        go_wp2
        go_ret
        exact ⟨rfl, hBb.out⟩
      · obtain ⟨x, y, i, r, rfl, rfl, hL⟩ := hlaw hex hey
        clear hlaw hex hey
        have hsu2 : su = u + v := by have h1 := hL.lu; have h2 := hL.lv; rw [hsu]; unfold wrap64; omega
        have kO := Lib.hid (fun W hB => kc.out c u c W hB hcs hcs); have kR := Lib.hid (fun W hB => kc.out base 1 tc W hB hbs hts); have kI := Lib.hid (fun W hB => kc.out c u base W hB hcs hbs); have kZ := Lib.hid (fun W hB => kc.out c (u + v) tc W hB hcs hts)
        simp only [hL.own] at kO; simp only [hL.unit] at kR; simp only [hL.inner] at kI
        rw [← hsu2] at kZ
        obtain ⟨gO, nO, dO, qO⟩ := agg_qv (u : Rat)
        replace kO : Hid (∀ W, Below w.heap.size w W → Calls Tryz.prog 17 #[.slice A l.length cap, .string base, .agg #[.string c, .int .i64 u], .string c, .int .i64 day] W fun e w' => e = .returned (.tuple #[.agg #[.bool gO, .string nO, .string dO], .int .i64 0]) ∧ Below W.heap.size W w') := fun W hB => by have h := kO.out W hB; rw [show cvV (some (u : Rat), (0 : Int)).1 = qv (u : Rat) from rfl, qO] at h; exact h
        obtain ⟨gR, nR, dR, qR⟩ := agg_qv r
        replace kR : Hid (∀ W, Below w.heap.size w W → Calls Tryz.prog 17 #[.slice A l.length cap, .string base, .agg #[.string base, .int .i64 1], .string tc, .int .i64 day] W fun e w' => e = .returned (.tuple #[.agg #[.bool gR, .string nR, .string dR], .int .i64 0]) ∧ Below W.heap.size W w') := fun W hB => by have h := kR.out W hB; rw [show cvV (some r, (0 : Int)).1 = qv r from rfl, qR] at h; exact h
        obtain ⟨gI, nI, dI, qI⟩ := agg_qv i
        replace kI : Hid (∀ W, Below w.heap.size w W → Calls Tryz.prog 17 #[.slice A l.length cap, .string base, .agg #[.string c, .int .i64 u], .string base, .int .i64 day] W fun e w' => e = .returned (.tuple #[.agg #[.bool gI, .string nI, .string dI], .int .i64 0]) ∧ Below W.heap.size W w') := fun W hB => by have h := kI.out W hB; rw [show cvV (some i, (0 : Int)).1 = qv i from rfl, qI] at h; exact h
        have hZ : Hid ((convR l base c su tc day) = (none, 1) ∨ (convR l base c su tc day) = (some (x + y), 0)) := by rw [hsu2]; exact hL.both
        generalize convR l base c su tc day = Z at kZ hZ
        have ko : Hid (∀ W, Env W → Calls Tryz.prog 18 #[.int .i64 u, .int .i64 1] W fun e w' => e = .returned (.agg #[.bool gO, .string nO, .string dO]) ∧ Below W.heap.size W w') := fun W hW => by have h := of_any u 1 W hW hu0 hu1 (by omega) (by omega) (by omega); rw [ofQ_one, qO] at h; exact h
        obtain ⟨gS, nS, dS, qS⟩ := agg_qv (x + y)
        clear qO hsu2
        obtain ⟨gX, nX, dX, qX⟩ := cv_agg (some x); obtain ⟨gY, nY, dY, qY⟩ := cv_agg (some y)
        simp only [qX] at kX; simp only [qY] at kY
        go_enter Tryz.func4, Tryz.ntmps4
        go_wp2_with fail
        refine kh.out.mono ?_
        rintro e w2 ⟨rfl, hb⟩
        have hB2 := Lib.hid (hB1.out.trans (hb.mono hB1.out.size)); have ha2 := Lib.hid (ha1.out.below hb); have hb2 := Lib.hid (hb1.out.below hb)
        clear hb hB1 ha1 hb1 kh
        have x0 := ha2.out.cell (j := 0) rfl
        have x1 := ha2.out.cell (j := 1) rfl
        have x9 := ha2.out.lt
        have y0 := hb2.out.cell (j := 0) rfl
        have y1 := hb2.out.cell (j := 1) rfl
        have y9 := hb2.out.lt
        have f0 := hb2.out.frozen 0
        have n1 : w.heap.size ≠ w.heap.size + 1 := by omega
        have hB3 : Hid (Below w.heap.size w (w2.setCell ⟨w.heap.size + 1, 0, none⟩ (.string c))) := hB2.out.setCell (p := ⟨w.heap.size + 1, 0, none⟩) (Nat.le_succ _) _
        have hBb : Hid (Below w.heap.size w ((w2.setCell ⟨w.heap.size + 1, 0, none⟩ (.string c)).alloc (.cells #[.string c, .int .i64 su] 35))) := hB3.out.alloc hB3.out.size _
        have hab : Hid (Bk ((w2.setCell ⟨w.heap.size + 1, 0, none⟩ (.string c)).alloc (.cells #[.string c, .int .i64 su] 35)) w.heap.size 35 [.string c, .int .i64 u]) := (ha2.out.far (p := ⟨w.heap.size + 1, 0, none⟩) n1 _).alloc _
        have hkb : Hid (Bk ((w2.setCell ⟨w.heap.size + 1, 0, none⟩ (.string c)).alloc (.cells #[.string c, .int .i64 su] 35)) (w.heap.size + 1) 35 [.string c, .int .i64 v]) := (hb2.out.set 0 (.string c)).alloc _
        have hsb : Hid (Bk ((w2.setCell ⟨w.heap.size + 1, 0, none⟩ (.string c)).alloc (.cells #[.string c, .int .i64 su] 35)) w2.heap.size 35 [.string c, .int .i64 su]) := by have h := Bk.new (w2.setCell ⟨w.heap.size + 1, 0, none⟩ (.string c)) 35 [.string c, .int .i64 su]; rw [World.size_setCell] at h; exact h
        have hsl : Hid (w.heap.size ≤ w2.heap.size) := hB2.out.size
        have kX3 := Lib.hid (kX.out ((w2.setCell ⟨w.heap.size + 1, 0, none⟩ (.string c)).alloc (.cells #[.string c, .int .i64 su] 35)) hBb.out); clear kX
        go_wp2_with fail
        rw [← hsu]
        replace hsu := Lib.hid hsu
        refine kX3.out.mono ?_
        rintro e w3 ⟨rfl, hb⟩
        clear kX3 hB2 ha2 hb2 hB3 f0
        clear x0 x1 x9
        clear y0 y1 y9
        have hB3 := Lib.hid (hBb.out.trans (hb.mono hBb.out.size))
        have ha3 := Lib.hid (hab.out.below hb)
        have hk3 := Lib.hid (hkb.out.below hb)
        have hs3 := Lib.hid (hsb.out.below hb)
        clear hb hBb hab hkb hsb
        have hbb : Hid (Below w3.heap.size w3 (w3.alloc (.cells #[.bool gX, .string nX, .string dX] 23))) := (Below.refl _ _).alloc (Nat.le_refl _) _
        have hBb := Lib.hid (hB3.out.trans (hbb.out.mono hB3.out.size))
        have hab := Lib.hid (ha3.out.below hbb.out)
        have hkb := Lib.hid (hk3.out.below hbb.out)
        have hsb := Lib.hid (hs3.out.below hbb.out)
        clear hbb hB3 ha3 hk3 hs3
        have hxb : Hid (Bk (w3.alloc (.cells #[.bool gX, .string nX, .string dX] 23)) w3.heap.size 23 [.bool gX, .string nX, .string dX]) := Bk.new _ _ _
        have kY3 := Lib.hid (kY.out (w3.alloc (.cells #[.bool gX, .string nX, .string dX] 23)) hBb.out); clear kY
        have y0 := hkb.out.cell (j := 0) rfl
        have y1 := hkb.out.cell (j := 1) rfl
        have y9 := hkb.out.lt
        go_wp2_with fail
        refine kY3.out.mono ?_
        rintro e w4 ⟨rfl, hb⟩
        clear kY3
        clear y0 y1 y9
        have hB4 := Lib.hid (hBb.out.trans (hb.mono hBb.out.size))
        have ha4 := Lib.hid (hab.out.below hb)
        have hk4 := Lib.hid (hkb.out.below hb)
        have hs4 := Lib.hid (hsb.out.below hb)
        have hx4 := Lib.hid (hxb.out.below hb)
        clear hb hBb hab hkb hsb hxb
        have hbb : Hid (Below w4.heap.size w4 (w4.alloc (.cells #[.bool gY, .string nY, .string dY] 23))) := (Below.refl _ _).alloc (Nat.le_refl _) _
        have hBb := Lib.hid (hB4.out.trans (hbb.out.mono hB4.out.size))
        have hab := Lib.hid (ha4.out.below hbb.out)
        have hkb := Lib.hid (hk4.out.below hbb.out)
        have hsb := Lib.hid (hs4.out.below hbb.out)
        have hxb := Lib.hid (hx4.out.below hbb.out)
        clear hbb hB4 ha4 hk4 hs4 hx4
        have hyb : Hid (Bk (w4.alloc (.cells #[.bool gY, .string nY, .string dY] 23)) w4.heap.size 23 [.bool gY, .string nY, .string dY]) := Bk.new _ _ _
        have km : Hid (∀ W, Env W → Calls Tryz.prog 19 #[.agg #[.bool gI, .string nI, .string dI], .agg #[.bool gR, .string nR, .string dR]] W fun e w' => e = .returned (.tuple #[.agg #[.bool gX, .string nX, .string dX], .int .i64 0]) ∧ Below W.heap.size W w') := fun W hW => by have h := Mul_short i r hL.si hL.sr W hW; rw [hL.through, qI, qR, show qv x = .agg #[.bool gX, .string nX, .string dX] from qX] at h; exact h
        have kad : Hid (∀ W, Env W → Calls Tryz.prog 20 #[.agg #[.bool gX, .string nX, .string dX], .agg #[.bool gY, .string nY, .string dY]] W fun e w' => e = .returned (.tuple #[.agg #[.bool gS, .string nS, .string dS], .int .i64 0]) ∧ Below W.heap.size W w') := fun W hW => by have h := Add_short x y hL.sx hL.sy W hW; rw [qS, show qv x = .agg #[.bool gX, .string nX, .string dX] from qX, show qv y = .agg #[.bool gY, .string nY, .string dY] from qY] at h; exact h
        clear hL qI qR qX qY
        have kO3 := Lib.hid (kO.out (w4.alloc (.cells #[.bool gY, .string nY, .string dY] 23)) hBb.out); clear kO
        have x0 := hab.out.cell (j := 0) rfl
        have x1 := hab.out.cell (j := 1) rfl
        have x9 := hab.out.lt
        go_wp2_with fail
        refine kO3.out.mono ?_
        rintro e w5 ⟨rfl, hb⟩
        clear kO3
        clear x0 x1 x9
        have hB5 := Lib.hid (hBb.out.trans (hb.mono hBb.out.size))
        have ha5 := Lib.hid (hab.out.below hb)
        have hk5 := Lib.hid (hkb.out.below hb)
        have hs5 := Lib.hid (hsb.out.below hb)
        have hx5 := Lib.hid (hxb.out.below hb)
        have hy5 := Lib.hid (hyb.out.below hb)
        clear hb hBb hab hkb hsb hxb hyb
        have hbb : Hid (Below w5.heap.size w5 (w5.alloc (.cells #[.bool gO, .string nO, .string dO] 23))) := (Below.refl _ _).alloc (Nat.le_refl _) _
        have hBb := Lib.hid (hB5.out.trans (hbb.out.mono hB5.out.size))
        have hab := Lib.hid (ha5.out.below hbb.out)
        have hkb := Lib.hid (hk5.out.below hbb.out)
        have hsb := Lib.hid (hs5.out.below hbb.out)
        have hxb := Lib.hid (hx5.out.below hbb.out)
        have hyb := Lib.hid (hy5.out.below hbb.out)
        clear hbb hB5 ha5 hk5 hs5 hx5 hy5
        have hoqb : Hid (Bk (w5.alloc (.cells #[.bool gO, .string nO, .string dO] 23)) w5.heap.size 23 [.bool gO, .string nO, .string dO]) := Bk.new _ _ _
        have kR3 := Lib.hid (kR.out (w5.alloc (.cells #[.bool gO, .string nO, .string dO] 23)) hBb.out); clear kR
        go_wp2_with fail
        refine kR3.out.mono ?_
        rintro e w6 ⟨rfl, hb⟩
        clear kR3
        have hB6 := Lib.hid (hBb.out.trans (hb.mono hBb.out.size))
        have ha6 := Lib.hid (hab.out.below hb)
        have hk6 := Lib.hid (hkb.out.below hb)
        have hs6 := Lib.hid (hsb.out.below hb)
        have hx6 := Lib.hid (hxb.out.below hb)
        have hy6 := Lib.hid (hyb.out.below hb)
        have hoq6 := Lib.hid (hoqb.out.below hb)
        clear hb hBb hab hkb hsb hxb hyb hoqb
        have hbb : Hid (Below w6.heap.size w6 (w6.alloc (.cells #[.bool gR, .string nR, .string dR] 23))) := (Below.refl _ _).alloc (Nat.le_refl _) _
        have hBb := Lib.hid (hB6.out.trans (hbb.out.mono hB6.out.size))
        have hab := Lib.hid (ha6.out.below hbb.out)
        have hkb := Lib.hid (hk6.out.below hbb.out)
        have hsb := Lib.hid (hs6.out.below hbb.out)
        have hxb := Lib.hid (hx6.out.below hbb.out)
        have hyb := Lib.hid (hy6.out.below hbb.out)
        have hoqb := Lib.hid (hoq6.out.below hbb.out)
        clear hbb hB6 ha6 hk6 hs6 hx6 hy6 hoq6
        have hrqb : Hid (Bk (w6.alloc (.cells #[.bool gR, .string nR, .string dR] 23)) w6.heap.size 23 [.bool gR, .string nR, .string dR]) := Bk.new _ _ _
        have kI3 := Lib.hid (kI.out (w6.alloc (.cells #[.bool gR, .string nR, .string dR] 23)) hBb.out); clear kI
        have x0 := hab.out.cell (j := 0) rfl
        have x1 := hab.out.cell (j := 1) rfl
        have x9 := hab.out.lt
        go_wp2_with fail
        refine kI3.out.mono ?_
        rintro e w7 ⟨rfl, hb⟩
        clear kI3
        clear x0 x1 x9
        have hB7 := Lib.hid (hBb.out.trans (hb.mono hBb.out.size))
        have ha7 := Lib.hid (hab.out.below hb)
        have hk7 := Lib.hid (hkb.out.below hb)
        have hs7 := Lib.hid (hsb.out.below hb)
        have hx7 := Lib.hid (hxb.out.below hb)
        have hy7 := Lib.hid (hyb.out.below hb)
        have hoq7 := Lib.hid (hoqb.out.below hb)
        have hrq7 := Lib.hid (hrqb.out.below hb)
        clear hb hBb hab hkb hsb hxb hyb hoqb hrqb
        have hbb : Hid (Below w7.heap.size w7 (w7.alloc (.cells #[.bool gI, .string nI, .string dI] 23))) := (Below.refl _ _).alloc (Nat.le_refl _) _
        have hBb := Lib.hid (hB7.out.trans (hbb.out.mono hB7.out.size))
        have hab := Lib.hid (ha7.out.below hbb.out)
        have hkb := Lib.hid (hk7.out.below hbb.out)
        have hsb := Lib.hid (hs7.out.below hbb.out)
        have hxb := Lib.hid (hx7.out.below hbb.out)
        have hyb := Lib.hid (hy7.out.below hbb.out)
        have hoqb := Lib.hid (hoq7.out.below hbb.out)
        have hrqb := Lib.hid (hrq7.out.below hbb.out)
        clear hbb hB7 ha7 hk7 hs7 hx7 hy7 hoq7 hrq7
        have hiqb : Hid (Bk (w7.alloc (.cells #[.bool gI, .string nI, .string dI] 23)) w7.heap.size 23 [.bool gI, .string nI, .string dI]) := Bk.new _ _ _
        go_wp2_with fail
        obtain ⟨wp, hwp⟩ : ∃ W, W = (w7.alloc (.cells #[.bool gI, .string nI, .string dI] 23)) := ⟨_, rfl⟩
        rw [← hwp] at hBb hab hkb hsb hxb hyb hoqb hrqb hiqb
        rw [← hwp]
        replace hwp := Lib.hid hwp
        have o0 := hoqb.out.cell (j := 0) rfl
        have o1 := hoqb.out.cell (j := 1) rfl
        have o2 := hoqb.out.cell (j := 2) rfl
        have o9 := hoqb.out.lt
        have x0 := hab.out.cell (j := 0) rfl
        have x1 := hab.out.cell (j := 1) rfl
        have x9 := hab.out.lt
        have hSx : Hid (∀ W, Below wp.heap.size wp W → W.cell? ⟨w5.heap.size, 0, none⟩ = some (.bool gO) ∧ W.cell? ⟨w5.heap.size, 1, none⟩ = some (.string nO) ∧ W.cell? ⟨w5.heap.size, 2, none⟩ = some (.string dO) ∧ W.cell? ⟨w.heap.size, 1, none⟩ = some (.int .i64 u)) := fun W hb => ⟨(hoqb.out.below hb).cell (j := 0) rfl, (hoqb.out.below hb).cell (j := 1) rfl, (hoqb.out.below hb).cell (j := 2) rfl, (hab.out.below hb).cell (j := 1) rfl⟩
        have hBd : Hid (Below w.heap.size w wp.drew) := hBb.out.drew
        first | go_region_held3 (fun W => W.cell? ⟨w5.heap.size, 0, none⟩ = some (.bool gO) ∧ W.cell? ⟨w5.heap.size, 1, none⟩ = some (.string nO) ∧ W.cell? ⟨w5.heap.size, 2, none⟩ = some (.string dO) ∧ W.cell? ⟨w.heap.size, 1, none⟩ = some (.int .i64 u)) (first | (with_reducible exact hSx.out _ (Below.refl _ _)) | (with_reducible exact hSx.out _ (Below.refl _ _).drew) | (with_reducible exact hSx.out _ hbq.out) | go_keep) (first | ((with_reducible refine (ko.out wp.drew (hE.out.below hBd.out)).mono ?_); rintro e wr ⟨rfl, hb⟩; have hbq : Hid (Below wp.heap.size wp wr) := (Below.refl _ _).drew.trans (hb.mono (Nat.le_refl _)); clear hb)) | fail "x"
        clear o0 o1 o2 o9
        clear x0 x1 x9
        obtain ⟨w8, hwr⟩ : ∃ W, W = wr := ⟨_, rfl⟩
        rw [← hwr] at hbq ⊢
        clear hwr
        have hB8 := Lib.hid (hBb.out.trans (hbq.out.mono hBb.out.size))
        have ha8 := Lib.hid (hab.out.below hbq.out)
        have hk8 := Lib.hid (hkb.out.below hbq.out)
        have hs8 := Lib.hid (hsb.out.below hbq.out)
        have hx8 := Lib.hid (hxb.out.below hbq.out)
        have hy8 := Lib.hid (hyb.out.below hbq.out)
        have hoq8 := Lib.hid (hoqb.out.below hbq.out)
        have hrq8 := Lib.hid (hrqb.out.below hbq.out)
        have hiq8 := Lib.hid (hiqb.out.below hbq.out)
        clear hbq hSx hBd hBb hab hkb hsb hxb hyb hoqb hrqb hiqb
        replace kZ := Lib.hid kZ
        have i0 := hiq8.out.cell (j := 0) rfl
        have i1 := hiq8.out.cell (j := 1) rfl
        have i2 := hiq8.out.cell (j := 2) rfl
        have i9 := hiq8.out.lt
        have r0 := hrq8.out.cell (j := 0) rfl
        have r1 := hrq8.out.cell (j := 1) rfl
        have r2 := hrq8.out.cell (j := 2) rfl
        have r9 := hrq8.out.lt
        have km3 := Lib.hid (km.out w8 (hE.out.below hB8.out)); clear km
        go_wp2_with fail
        refine km3.out.mono ?_
        rintro e w9 ⟨rfl, hb⟩
        clear km3
        clear i0 i1 i2 i9
        clear r0 r1 r2 r9
        have hB9 := Lib.hid (hB8.out.trans (hb.mono hB8.out.size))
        have ha9 := Lib.hid (ha8.out.below hb)
        have hk9 := Lib.hid (hk8.out.below hb)
        have hs9 := Lib.hid (hs8.out.below hb)
        have hx9 := Lib.hid (hx8.out.below hb)
        have hy9 := Lib.hid (hy8.out.below hb)
        have hoq9 := Lib.hid (hoq8.out.below hb)
        have hrq9 := Lib.hid (hrq8.out.below hb)
        have hiq9 := Lib.hid (hiq8.out.below hb)
        clear hb hB8 ha8 hk8 hs8 hx8 hy8 hoq8 hrq8 hiq8
        have hbb : Hid (Below w9.heap.size w9 (w9.alloc (.cells #[.bool gX, .string nX, .string dX] 23))) := (Below.refl _ _).alloc (Nat.le_refl _) _
        have hBb := Lib.hid (hB9.out.trans (hbb.out.mono hB9.out.size))
        have hab := Lib.hid (ha9.out.below hbb.out)
        have hkb := Lib.hid (hk9.out.below hbb.out)
        have hsb := Lib.hid (hs9.out.below hbb.out)
        have hxb := Lib.hid (hx9.out.below hbb.out)
        have hyb := Lib.hid (hy9.out.below hbb.out)
        have hoqb := Lib.hid (hoq9.out.below hbb.out)
        have hrqb := Lib.hid (hrq9.out.below hbb.out)
        have hiqb := Lib.hid (hiq9.out.below hbb.out)
        clear hbb hB9 ha9 hk9 hs9 hx9 hy9 hoq9 hrq9 hiq9
        have htqb : Hid (Bk (w9.alloc (.cells #[.bool gX, .string nX, .string dX] 23)) w9.heap.size 23 [.bool gX, .string nX, .string dX]) := Bk.new _ _ _
        rcases hZ.out with rfl | rfl
        · obtain ⟨gZ, nZ, dZ, qZ⟩ := cv_agg none
          clear hZ
          have kZ3 := kZ.out.out (w9.alloc (.cells #[.bool gX, .string nX, .string dX] 23)) hBb.out; clear kZ
          simp only [qZ] at kZ3
          replace kZ3 := Lib.hid kZ3
          have t0 := htqb.out.cell (j := 0) rfl
          have t1 := htqb.out.cell (j := 1) rfl
          have t2 := htqb.out.cell (j := 2) rfl
          have t9 := htqb.out.lt
          have x0 := hxb.out.cell (j := 0) rfl
          have x1 := hxb.out.cell (j := 1) rfl
          have x2 := hxb.out.cell (j := 2) rfl
          have x9 := hxb.out.lt
          have s0 := hsb.out.cell (j := 0) rfl
          have s1 := hsb.out.cell (j := 1) rfl
          have s9 := hsb.out.lt
          go_wp2_with fail
          refine kZ3.out.mono ?_
          rintro e w10 ⟨rfl, hb⟩
          clear kZ3
          skip
          clear t0 t1 t2 t9
          clear x0 x1 x2 x9
          clear s0 s1 s9
          have hB10 := Lib.hid (hBb.out.trans (hb.mono hBb.out.size))
          have ha10 := Lib.hid (hab.out.below hb)
          have hk10 := Lib.hid (hkb.out.below hb)
          have hs10 := Lib.hid (hsb.out.below hb)
          have hx10 := Lib.hid (hxb.out.below hb)
          have hy10 := Lib.hid (hyb.out.below hb)
          have hoq10 := Lib.hid (hoqb.out.below hb)
          have hrq10 := Lib.hid (hrqb.out.below hb)
          have hiq10 := Lib.hid (hiqb.out.below hb)
          have htq10 := Lib.hid (htqb.out.below hb)
          clear hb hBb hab hkb hsb hxb hyb hoqb hrqb hiqb htqb
          have hbb : Hid (Below w10.heap.size w10 (w10.alloc (.cells #[.bool gZ, .string nZ, .string dZ] 23))) := (Below.refl _ _).alloc (Nat.le_refl _) _
          have hBb := Lib.hid (hB10.out.trans (hbb.out.mono hB10.out.size))
          have hab := Lib.hid (ha10.out.below hbb.out)
          have hkb := Lib.hid (hk10.out.below hbb.out)
          have hsb := Lib.hid (hs10.out.below hbb.out)
          have hxb := Lib.hid (hx10.out.below hbb.out)
          have hyb := Lib.hid (hy10.out.below hbb.out)
          have hoqb := Lib.hid (hoq10.out.below hbb.out)
          have hrqb := Lib.hid (hrq10.out.below hbb.out)
          have hiqb := Lib.hid (hiq10.out.below hbb.out)
          have htqb := Lib.hid (htq10.out.below hbb.out)
          clear hbb hB10 ha10 hk10 hs10 hx10 hy10 hoq10 hrq10 hiq10 htq10
          have hzb : Hid (Bk (w10.alloc (.cells #[.bool gZ, .string nZ, .string dZ] 23)) w10.heap.size 23 [.bool gZ, .string nZ, .string dZ]) := Bk.new _ _ _
          have x0 := hxb.out.cell (j := 0) rfl
          have x1 := hxb.out.cell (j := 1) rfl
          have x2 := hxb.out.cell (j := 2) rfl
          have x9 := hxb.out.lt
          have y0 := hyb.out.cell (j := 0) rfl
          have y1 := hyb.out.cell (j := 1) rfl
          have y2 := hyb.out.cell (j := 2) rfl
          have y9 := hyb.out.lt
          have kad3 := Lib.hid (kad.out (w10.alloc (.cells #[.bool gZ, .string nZ, .string dZ] 23)) (hE.out.below hBb.out)); clear kad
          go_wp2_with fail
          refine kad3.out.mono ?_
          rintro e w11 ⟨rfl, hb⟩
          clear kad3
          skip
          clear x0 x1 x2 x9
          clear y0 y1 y2 y9
          have hB11 := Lib.hid (hBb.out.trans (hb.mono hBb.out.size))
          have ha11 := Lib.hid (hab.out.below hb)
          have hk11 := Lib.hid (hkb.out.below hb)
          have hs11 := Lib.hid (hsb.out.below hb)
          have hx11 := Lib.hid (hxb.out.below hb)
          have hy11 := Lib.hid (hyb.out.below hb)
          have hoq11 := Lib.hid (hoqb.out.below hb)
          have hrq11 := Lib.hid (hrqb.out.below hb)
          have hiq11 := Lib.hid (hiqb.out.below hb)
          have htq11 := Lib.hid (htqb.out.below hb)
          have hz11 := Lib.hid (hzb.out.below hb)
          clear hb hBb hab hkb hsb hxb hyb hoqb hrqb hiqb htqb hzb
          have hbb : Hid (Below w11.heap.size w11 (w11.alloc (.cells #[.bool gS, .string nS, .string dS] 23))) := (Below.refl _ _).alloc (Nat.le_refl _) _
          have hBb := Lib.hid (hB11.out.trans (hbb.out.mono hB11.out.size))
          have hab := Lib.hid (ha11.out.below hbb.out)
          have hkb := Lib.hid (hk11.out.below hbb.out)
          have hsb := Lib.hid (hs11.out.below hbb.out)
          have hxb := Lib.hid (hx11.out.below hbb.out)
          have hyb := Lib.hid (hy11.out.below hbb.out)
          have hoqb := Lib.hid (hoq11.out.below hbb.out)
          have hrqb := Lib.hid (hrq11.out.below hbb.out)
          have hiqb := Lib.hid (hiq11.out.below hbb.out)
          have htqb := Lib.hid (htq11.out.below hbb.out)
          have hzb := Lib.hid (hz11.out.below hbb.out)
          clear hbb hB11 ha11 hk11 hs11 hx11 hy11 hoq11 hrq11 hiq11 htq11 hz11
          have hsqb : Hid (Bk (w11.alloc (.cells #[.bool gS, .string nS, .string dS] 23)) w11.heap.size 23 [.bool gS, .string nS, .string dS]) := Bk.new _ _ _
          go_wp2
          go_ret
          exact ⟨by simp, hBb.out⟩
        · obtain ⟨gZ, nZ, dZ, qZ⟩ := cv_agg (some (x + y))
          clear hZ
          have kZ3 := kZ.out.out (w9.alloc (.cells #[.bool gX, .string nX, .string dX] 23)) hBb.out; clear kZ
          simp only [qZ] at kZ3
          replace kZ3 := Lib.hid kZ3
          have t0 := htqb.out.cell (j := 0) rfl
          have t1 := htqb.out.cell (j := 1) rfl
          have t2 := htqb.out.cell (j := 2) rfl
          have t9 := htqb.out.lt
          have x0 := hxb.out.cell (j := 0) rfl
          have x1 := hxb.out.cell (j := 1) rfl
          have x2 := hxb.out.cell (j := 2) rfl
          have x9 := hxb.out.lt
          have s0 := hsb.out.cell (j := 0) rfl
          have s1 := hsb.out.cell (j := 1) rfl
          have s9 := hsb.out.lt
          go_wp2_with fail
          refine kZ3.out.mono ?_
          rintro e w10 ⟨rfl, hb⟩
          clear kZ3
          skip
          clear t0 t1 t2 t9
          clear x0 x1 x2 x9
          clear s0 s1 s9
          have hB10 := Lib.hid (hBb.out.trans (hb.mono hBb.out.size))
          have ha10 := Lib.hid (hab.out.below hb)
          have hk10 := Lib.hid (hkb.out.below hb)
          have hs10 := Lib.hid (hsb.out.below hb)
          have hx10 := Lib.hid (hxb.out.below hb)
          have hy10 := Lib.hid (hyb.out.below hb)
          have hoq10 := Lib.hid (hoqb.out.below hb)
          have hrq10 := Lib.hid (hrqb.out.below hb)
          have hiq10 := Lib.hid (hiqb.out.below hb)
          have htq10 := Lib.hid (htqb.out.below hb)
          clear hb hBb hab hkb hsb hxb hyb hoqb hrqb hiqb htqb
          have hbb : Hid (Below w10.heap.size w10 (w10.alloc (.cells #[.bool gZ, .string nZ, .string dZ] 23))) := (Below.refl _ _).alloc (Nat.le_refl _) _
          have hBb := Lib.hid (hB10.out.trans (hbb.out.mono hB10.out.size))
          have hab := Lib.hid (ha10.out.below hbb.out)
          have hkb := Lib.hid (hk10.out.below hbb.out)
          have hsb := Lib.hid (hs10.out.below hbb.out)
          have hxb := Lib.hid (hx10.out.below hbb.out)
          have hyb := Lib.hid (hy10.out.below hbb.out)
          have hoqb := Lib.hid (hoq10.out.below hbb.out)
          have hrqb := Lib.hid (hrq10.out.below hbb.out)
          have hiqb := Lib.hid (hiq10.out.below hbb.out)
          have htqb := Lib.hid (htq10.out.below hbb.out)
          clear hbb hB10 ha10 hk10 hs10 hx10 hy10 hoq10 hrq10 hiq10 htq10
          have hzb : Hid (Bk (w10.alloc (.cells #[.bool gZ, .string nZ, .string dZ] 23)) w10.heap.size 23 [.bool gZ, .string nZ, .string dZ]) := Bk.new _ _ _
          have x0 := hxb.out.cell (j := 0) rfl
          have x1 := hxb.out.cell (j := 1) rfl
          have x2 := hxb.out.cell (j := 2) rfl
          have x9 := hxb.out.lt
          have y0 := hyb.out.cell (j := 0) rfl
          have y1 := hyb.out.cell (j := 1) rfl
          have y2 := hyb.out.cell (j := 2) rfl
          have y9 := hyb.out.lt
          have kad3 := Lib.hid (kad.out (w10.alloc (.cells #[.bool gZ, .string nZ, .string dZ] 23)) (hE.out.below hBb.out)); clear kad
          go_wp2_with fail
          refine kad3.out.mono ?_
          rintro e w11 ⟨rfl, hb⟩
          clear kad3
          skip
          clear x0 x1 x2 x9
          clear y0 y1 y2 y9
          have hB11 := Lib.hid (hBb.out.trans (hb.mono hBb.out.size))
          have ha11 := Lib.hid (hab.out.below hb)
          have hk11 := Lib.hid (hkb.out.below hb)
          have hs11 := Lib.hid (hsb.out.below hb)
          have hx11 := Lib.hid (hxb.out.below hb)
          have hy11 := Lib.hid (hyb.out.below hb)
          have hoq11 := Lib.hid (hoqb.out.below hb)
          have hrq11 := Lib.hid (hrqb.out.below hb)
          have hiq11 := Lib.hid (hiqb.out.below hb)
          have htq11 := Lib.hid (htqb.out.below hb)
          have hz11 := Lib.hid (hzb.out.below hb)
          clear hb hBb hab hkb hsb hxb hyb hoqb hrqb hiqb htqb hzb
          have hbb : Hid (Below w11.heap.size w11 (w11.alloc (.cells #[.bool gS, .string nS, .string dS] 23))) := (Below.refl _ _).alloc (Nat.le_refl _) _
          have hBb := Lib.hid (hB11.out.trans (hbb.out.mono hB11.out.size))
          have hab := Lib.hid (ha11.out.below hbb.out)
          have hkb := Lib.hid (hk11.out.below hbb.out)
          have hsb := Lib.hid (hs11.out.below hbb.out)
          have hxb := Lib.hid (hx11.out.below hbb.out)
          have hyb := Lib.hid (hy11.out.below hbb.out)
          have hoqb := Lib.hid (hoq11.out.below hbb.out)
          have hrqb := Lib.hid (hrq11.out.below hbb.out)
          have hiqb := Lib.hid (hiq11.out.below hbb.out)
          have htqb := Lib.hid (htq11.out.below hbb.out)
          have hzb := Lib.hid (hz11.out.below hbb.out)
          clear hbb hB11 ha11 hk11 hs11 hx11 hy11 hoq11 hrq11 hiq11 htq11 hz11
          have hsqb : Hid (Bk (w11.alloc (.cells #[.bool gS, .string nS, .string dS] 23)) w11.heap.size 23 [.bool gS, .string nS, .string dS]) := Bk.new _ _ _
          obtain ⟨rfl, rfl, rfl⟩ : gS = gZ ∧ nS = nZ ∧ dS = dZ := by have h := qS.symm.trans qZ; simpa using h
          have z0 := hzb.out.cell (j := 0) rfl
          have z1 := hzb.out.cell (j := 1) rfl
          have z2 := hzb.out.cell (j := 2) rfl
          have z9 := hzb.out.lt
          have s0 := hsqb.out.cell (j := 0) rfl
          have s1 := hsqb.out.cell (j := 1) rfl
          have s2 := hsqb.out.cell (j := 2) rfl
          have s9 := hsqb.out.lt
          go_wp2
          go_ret
          exact ⟨by simp, hBb.out⟩
end Mo
end Go.Proofs.YtpmlhgmmobpilaaGreatDoor

namespace Go.Proofs.YtpmlhgmmobpilaaGreatDoor
open Go.RowKit Go.Shelf
namespace Mo
open Nt Ci
def rtsL (l : List Rt) : List Value := (l.map rtL).flatten
theorem rtL_length (x : Rt) : (rtL x).length = 4 := rfl
theorem rtsL_cons (x : Rt) (l : List Rt) : rtsL (x :: l) = rtL x ++ rtsL l := rfl
theorem rtsL_snoc (l : List Rt) (x : Rt) : rtsL (l ++ [x]) = rtsL l ++ rtL x := by
  unfold rtsL
  rw [List.map_append, List.flatten_append]
  simp
theorem rtsL_get : ∀ (l : List Rt) (j f : Nat) (hj : j < l.length), f < 4 → (rtsL l)[j * 4 + f]? = (rtL l[j])[f]? := by
  intro l
  induction l with
  | nil => intro j f hj; exact absurd hj (Nat.not_lt_zero _)
  | cons a l ih =>
    intro j f hj hf
    rw [rtsL_cons]
    cases j with
    | zero =>
      rw [List.getElem?_append_left (by rw [rtL_length]; omega)]
      simp
    | succ j =>
      rw [List.getElem?_append_right (by rw [rtL_length]; omega), rtL_length, show (j + 1) * 4 + f - 4 = j * 4 + f by omega, ih j f (by simpa using hj) hf]
      simp
def zeroRt : Value := .agg #[.string ⟨#[]⟩, .int .i64 0, .int .i64 0, .int .i64 0]
theorem infoRt : (Tryz.prog.info? 42).map (fun i => (i.zero, i.size, i.bytes)) = some (some zeroRt, 4, 40) := by kernel_rfl
/-- Two slices of the call's own lie in two blocks. -/
def Apt (u v : Value) : Prop := ∀ b, u.ownBlock = some b → v.ownBlock ≠ some b
theorem Apt.symm {u v : Value} (h : Apt u v) : Apt v u := fun b h1 h2 => h b h2 h1
theorem apt_nil (u : Value) : Apt (.slice none 0 0) u := fun b h => by cases h
section
variable {W W' : World} {base n size : Nat} {e : TypeId} {u v v' : Value} {xs : List Value} {l : List Rt}
theorem apt_keep (h : W.ownsRow base e size u n xs) (hg : W.grownBy W' v.ownBlock) (ha : Apt u v) : W'.ownsRow base e size u n xs :=
  h.kept hg (by
    cases hu : u.ownBlock with
    | none => exact .inl rfl
    | some b => exact .inr fun e2 => ha b hu e2.symm)
theorem apt_new (h : W.ownsRow base e size u n xs) (hn : v'.ownBlock = v.ownBlock ∨ v'.ownBlock = some W.heap.size) (ha : Apt u v) : Apt u v' := fun b hb h2 => by
  rcases hn with hn | hn
  · exact ha b hb (hn ▸ h2)
  · have := (h.lt b hb).2
    rw [hn] at h2
    simp only [Option.some.injEq] at h2
    omega
theorem own_rts (h : W.ownsRow base e 4 u l.length (rtsL l)) : ∃ A cap, u = .slice A l.length cap ∧ InRt W A l := by
  rcases h.2 with ⟨rfl, h0⟩ | ⟨g, cap, cur, rfl, hb, hg, _⟩
  · refine ⟨none, 0, by rw [h0], fun hl => by omega⟩
  · refine ⟨_, cap, rfl, fun hl => ⟨g, 0, rfl, (Array.getElem?_eq_some_iff.1 hg).1, fun j hj => ?_⟩⟩
    have hadd : ∀ o, (⟨g, 0, none⟩ : Addr).add o = ⟨g, o, none⟩ := fun o => by unfold Addr.add; split <;> simp_all
    have key : ∀ f v, f < 4 → (rtL l[j])[f]? = some v → W.cell? ⟨g, j * 4 + f, none⟩ = some v := fun f v hf hv => by
      have hc := h.cells (g := g) (by simp [Value.ownBlock]) (j * 4 + f) v (by rw [rtsL_get l j f hj hf]; exact hv)
      rwa [hadd] at hc
    simp only [Nat.zero_add]
    exact ⟨key 0 _ (by omega) rfl, key 1 _ (by omega) rfl, key 2 _ (by omega) rfl, key 3 _ (by omega) rfl⟩
theorem own_form4 (h : W.ownsRow base e size u n xs) : ∃ A cap, u = .slice A n cap := by
  rcases h.2 with ⟨rfl, h0⟩ | ⟨g, cap, cur, rfl, _⟩
  · exact ⟨none, 0, by rw [h0]⟩
  · exact ⟨_, cap, rfl⟩
/-- The four cells of a rate that was just laid. -/
theorem head_rt (w : World) (x : Rt) (t : TypeId) : ∀ j u, (rtL x)[j]? = some u → (w.alloc (.cells #[.string x.1, .int .i64 x.2.1, .int .i64 x.2.2.1, .int .i64 x.2.2.2] t)).cell? (Addr.add ⟨w.heap.size, 0, none⟩ j) = some u := by
  intro j u hj
  have hadd : (⟨w.heap.size, 0, none⟩ : Addr).add j = ⟨w.heap.size, j, none⟩ := by unfold Addr.add; split <;> simp_all
  rw [hadd]
  simp only [World.cell?, heap_alloc_new]
  simp only [rtL] at hj
  match j, hj with
  | 0, hj => simpa using hj
  | 1, hj => simpa using hj
  | 2, hj => simpa using hj
  | 3, hj => simpa using hj
  | j + 4, hj => simp at hj
theorem one_rt (x : Rt) : ∀ u ∈ rtL x, u.oneCell' = true := by
  intro u hu
  simp only [rtL, List.mem_cons, List.not_mem_nil, or_false] at hu
  rcases hu with rfl | rfl | rfl | rfl <;> rfl
end
end Mo
end Go.Proofs.YtpmlhgmmobpilaaGreatDoor

namespace Go.Proofs.YtpmlhgmmobpilaaGreatDoor
open Go.RowKit Go.Shelf
namespace Mo
open Nt Ci
def early (l : List Rt) (day : Int) (k : Nat) : List Rt := (l.reverse.take k).filter fun x => decide (x.2.1 ≤ day)
theorem back_next {l : List Rt} {k i : Nat} (h : i + k + 1 = l.length) : l.reverse.take (k + 1) = l.reverse.take k ++ [l[i]'(by omega)] := by
  rw [List.take_succ_eq_append_getElem (by rw [List.length_reverse]; omega), List.getElem_reverse]
  congr 2
  congr 1
  omega
theorem early_yes {l : List Rt} {k i : Nat} {day : Int} (h : i + k + 1 = l.length) (hd : (l[i]'(by omega)).2.1 ≤ day) : early l day (k + 1) = early l day k ++ [l[i]'(by omega)] := by
  unfold early
  rw [back_next h, List.filter_append]
  congr 1
  simp [hd]
theorem early_no {l : List Rt} {k i : Nat} {day : Int} (h : i + k + 1 = l.length) (hd : ¬ (l[i]'(by omega)).2.1 ≤ day) : early l day (k + 1) = early l day k := by
  unfold early
  rw [back_next h, List.filter_append]
  simp [hd]
theorem early_len {l : List Rt} {k : Nat} {day : Int} : (early l day k).length ≤ k := by
  unfold early
  exact Nat.le_trans (List.length_filter_le ..) (by rw [List.length_take]; exact Nat.min_le_left _ _)
theorem early_mem {l : List Rt} {k : Nat} {day : Int} {x : Rt} (h : x ∈ early l day k) : x ∈ l := by
  unfold early at h
  exact List.mem_reverse.1 (List.mem_of_mem_take (List.mem_filter.1 h).1)
set_option maxRecDepth 100000 in
set_option maxHeartbeats 16000000 in
theorem law8_rates (l : List Rt) (A : Option Addr) (cap : Nat) (base cur : ByteArray) (day : Int) (w : World) (hE : Env w) (hl : InRt w A l) (hll : l.length ≤ 140737488355328) (hz : RtSz l) (hbs : base.size ≤ 140737488355328) (hcs : cur.size ≤ 140737488355328) :
    Calls Tryz.prog 5 #[.slice A l.length cap, .string base, .string cur, .int .i64 day] w fun e w' => e = .returned (.bool true) ∧ Below w.heap.size w w' := by
  have kh := Lib.hid (head8_any w hE)
  replace hE := Lib.hid hE; replace hz := Lib.hid hz
  go_enter Tryz.func5, Tryz.ntmps5
  go_wp2_with fail
  refine kh.out.mono ?_
  rintro e w2 ⟨rfl, hb⟩
  have hB2 := Lib.hid hb
  have hl2 := Lib.hid (hl.below hb)
  clear hb kh hl
  by_cases hlen : 20 < l.length
  · have m1 : decide (20 < (l.length : Int)) = true := decide_eq_true (by omega)
    have m1n : decide (20 < l.length) = true := decide_eq_true hlen
    go_wp2
    go_ret
    exact ⟨rfl, hB2.out⟩
  · have m1 : decide (20 < (l.length : Int)) = false := decide_eq_false (by omega)
    have m1n : decide (20 < l.length) = false := decide_eq_false hlen
    obtain ⟨i0, hi0, hzz⟩ := Option.map_eq_some_iff.1 infoRt
    simp only [Prod.mk.injEq] at hzz
    obtain ⟨hz0, hz1, hz2⟩ := hzz
    have hzc : zeroRt.cells.size = 4 := rfl
    generalize zeroRt = zr at hz0 hzc
    replace hi0 := Lib.hid hi0
    replace hz0 := Lib.hid hz0
    replace hz1 := Lib.hid hz1
    replace hz2 := Lib.hid hz2
    replace hzc := Lib.hid hzc
    go_wp2_with fail
    go_loopw [10, 11, 12] (fun bv ev ix wr => ∃ (k m c1 c2 : Nat) (A1 A2 : Option Addr), k ≤ l.length ∧ m = (early l day k).length ∧ bv = .slice A1 k c1 ∧ ev = .slice A2 m c2 ∧ ix = .int .i64 ((l.length : Int) - 1 - (k : Int)) ∧ Hid (Kp [] w2 wr) ∧ Hid (wr.ownsRow w2.heap.size 42 4 (.slice A1 k c1) k (rtsL (l.reverse.take k))) ∧ Hid (wr.ownsRow w2.heap.size 42 4 (.slice A2 m c2) m (rtsL (early l day k))) ∧ Hid (Apt (.slice A1 k c1) (.slice A2 m c2))) (fun _ _ ix _ => (intOf ix + 1).toNat)
    case atStart => exact ⟨0, 0, 0, 0, none, none, Nat.zero_le _, rfl, rfl, rfl, by simp, Kp.refl _ _, World.ownsRow_nil _ _ _ _, World.ownsRow_nil _ _ _ _, apt_nil _⟩
    case round =>
      obtain ⟨k, m, c1, c2, A1, A2, hk, hm, rfl, rfl, hix, hK, hO1, hO2, hA⟩ := hrel
      obtain ⟨wz, rfl⟩ : ∃ z, z = wr := ⟨_, rfl⟩
      have hq : Hid (Below w2.heap.size w2 wz) := hK.out.to_below (Below.refl _ _) (fun x hx => by simp at hx)
      have hml : m ≤ k := by rw [hm]; exact early_len
      replace hm := Lib.hid hm
      by_cases hin : k < l.length
      · obtain ⟨i, hi⟩ : ∃ i : Nat, i + k + 1 = l.length := ⟨l.length - 1 - k, by omega⟩
        rw [show (l.length : Int) - 1 - (k : Int) = (i : Int) by omega] at hix
        subst hix
        have i0l : i < l.length := by omega
        have i1 : (0 : Int) ≤ (i : Int) := by omega
        have i2 : (i : Int) < (l.length : Int) := by omega
        have i3 : decide ((0 : Int) ≤ (i : Int)) = true := decide_eq_true i1
        obtain ⟨b, off, rfl, hbl, hcc⟩ := hl2.out (by omega)
        obtain ⟨x, hx⟩ : ∃ x, x = l[i] := ⟨_, rfl⟩
        have hbn := Lib.hid (back_next hi)
        have hey := Lib.hid (early_yes (day := day) hi)
        have hen := Lib.hid (early_no (day := day) hi)
        have hcx := hcc i i0l
        rw [← hx] at hcx hbn hey hen
        clear hcc
        obtain ⟨xc, xd, xn, xm⟩ := x
        have HX : Hid (∀ W, Below w2.heap.size w2 W → W.cell? ⟨b, off + i * 4, none⟩ = some (.string xc) ∧ W.cell? ⟨b, off + i * 4 + 1, none⟩ = some (.int .i64 xd) ∧ W.cell? ⟨b, off + i * 4 + 2, none⟩ = some (.int .i64 xn) ∧ W.cell? ⟨b, off + i * 4 + 3, none⟩ = some (.int .i64 xm)) := fun W h => ⟨(World.cell?_of_block (a := ⟨b, off + i * 4, none⟩) (h.block b hbl)).trans hcx.1, (World.cell?_of_block (a := ⟨b, off + i * 4 + 1, none⟩) (h.block b hbl)).trans hcx.2.1, (World.cell?_of_block (a := ⟨b, off + i * 4 + 2, none⟩) (h.block b hbl)).trans hcx.2.2.1, (World.cell?_of_block (a := ⟨b, off + i * 4 + 3, none⟩) (h.block b hbl)).trans hcx.2.2.2⟩
        clear hcx
        replace hx := Lib.hid hx; replace hi := Lib.hid hi
        obtain ⟨e1, e2, e3, e4⟩ := HX.out _ hq.out
        by_cases hd : xd ≤ day
        · have m3 : decide (xd ≤ day) = true := decide_eq_true hd
          have hnx : Hid (early l day (k + 1) = early l day k ++ [(xc, xd, xn, xm)]) := hey.out hd
          have hm2 : Hid (m + 1 = (early l day (k + 1)).length) := by show m + 1 = _; rw [hnx.out, List.length_append, List.length_singleton, ← hm.out]
          have hO17 := Lib.hid (own_below' hO1.out ((Below.refl _ wz).alloc (Nat.le_refl _) (.cells #[.string xc, .int .i64 xd, .int .i64 xn, .int .i64 xm] 42)))
          have hP17 := Lib.hid (own_below' hO2.out ((Below.refl _ wz).alloc (Nat.le_refl _) (.cells #[.string xc, .int .i64 xd, .int .i64 xn, .int .i64 xm] 42)))
          have hK17 := Lib.hid (hK.out.alloc (.cells #[.string xc, .int .i64 xd, .int .i64 xn, .int .i64 xm] 42))
          have hbs17 : Hid (w2.heap.size ≤ (wz.alloc (.cells #[.string xc, .int .i64 xd, .int .i64 xn, .int .i64 xm] 42)).heap.size) := hK17.out.size
          have hrp17 : Hid (rtsL (l.reverse.take k) ++ rtL (xc, xd, xn, xm) = rtsL (l.reverse.take (k + 1))) := (by rw [hbn.out]; exact (rtsL_snoc _ _).symm)
          have hrow17 : Hid (∀ b, (Value.slice A1 k c1).ownBlock = some b → b ∈ ([] : List Nat) ∨ w2.heap.size ≤ b) := fun b e => .inr (hO1.out.lt b e).1
          go_wp2_with (first | (at_builtin; refine wpList_append_new _ rfl _ _ 33 rfl w2.heap.size 42 i0 zr 4 40 Tryz.underlying33 hi0.out hz0.out hz1.out hz2.out hzc.out (by decide) (.slice A1 k c1) k _ rfl hO17.out ⟨wz.heap.size, 0, none⟩ 1 1 (rtL (xc, xd, xn, xm)) rfl rfl (head_rt wz (xc, xd, xn, xm) _) (one_rt _) (by decide) (by unfold maxLen; omega) (by omega) hbs17.out ?_; intro vb1 wb1 ho1 hg1 hn1; obtain ⟨B1, d1, rfl⟩ := own_form4 ho1; rw [hrp17.out] at ho1; have hk1 := Lib.hid (hK17.out.grown hg1 hrow17.out); replace ho1 := Lib.hid ho1; obtain ⟨f11, f12, f13, f14⟩ := HX.out _ (hk1.out.to_below (Below.refl _ _) (fun x hx => by simp at hx)); have hp1 := Lib.hid (apt_keep hP17.out hg1 hA.out.symm); have ha1 := Lib.hid (apt_new hP17.out hn1 hA.out.symm); clear hg1 hn1 hO17 hP17 hK17 hbs17 hrp17 hrow17) | (have hO27 := Lib.hid (own_below' hp1.out ((Below.refl _ wb1).alloc (Nat.le_refl _) (.cells #[.string xc, .int .i64 xd, .int .i64 xn, .int .i64 xm] 42))); have hP27 := Lib.hid (own_below' ho1.out ((Below.refl _ wb1).alloc (Nat.le_refl _) (.cells #[.string xc, .int .i64 xd, .int .i64 xn, .int .i64 xm] 42))); have hK27 := Lib.hid (hk1.out.alloc (.cells #[.string xc, .int .i64 xd, .int .i64 xn, .int .i64 xm] 42)); have hbs27 : Hid (w2.heap.size ≤ (wb1.alloc (.cells #[.string xc, .int .i64 xd, .int .i64 xn, .int .i64 xm] 42)).heap.size) := hK27.out.size; have hrp27 : Hid (rtsL (early l day k) ++ rtL (xc, xd, xn, xm) = rtsL (early l day (k + 1))) := (by rw [hnx.out]; exact (rtsL_snoc _ _).symm); have hrow27 : Hid (∀ b, (Value.slice A2 m c2).ownBlock = some b → b ∈ ([] : List Nat) ∨ w2.heap.size ≤ b) := fun b e => .inr (hp1.out.lt b e).1; at_builtin; refine wpList_append_new _ rfl _ _ 33 rfl w2.heap.size 42 i0 zr 4 40 Tryz.underlying33 hi0.out hz0.out hz1.out hz2.out hzc.out (by decide) (.slice A2 m c2) m _ rfl hO27.out ⟨wb1.heap.size, 0, none⟩ 1 1 (rtL (xc, xd, xn, xm)) rfl rfl (head_rt wb1 (xc, xd, xn, xm) _) (one_rt _) (by decide) (by unfold maxLen; omega) (by omega) hbs27.out ?_; intro vb2 wb2 ho2 hg2 hn2; obtain ⟨B2, d2, rfl⟩ := own_form4 ho2; rw [hrp27.out] at ho2; have hk2 := Lib.hid (hK27.out.grown hg2 hrow27.out); replace ho2 := Lib.hid ho2; obtain ⟨f21, f22, f23, f24⟩ := HX.out _ (hk2.out.to_below (Below.refl _ _) (fun x hx => by simp at hx)); have hp2 := Lib.hid (apt_keep hP27.out hg2 ha1.out.symm); have ha2 := Lib.hid (apt_new hP27.out hn2 ha1.out.symm); clear hg2 hn2 hO27 hP27 hK27 hbs27 hrp27 hrow27))
          go_roundw
          case rel => exact ⟨k + 1, m + 1, d1, d2, B1, B2, by omega, hm2.out, rfl, rfl, by have := hi.out; go_num, hk2, hp2, ho2, ha2⟩
          case measure => simp [intOf]
        · have m3 : decide (xd ≤ day) = false := decide_eq_false hd
          have hO17 := Lib.hid (own_below' hO1.out ((Below.refl _ wz).alloc (Nat.le_refl _) (.cells #[.string xc, .int .i64 xd, .int .i64 xn, .int .i64 xm] 42)))
          have hP17 := Lib.hid (own_below' hO2.out ((Below.refl _ wz).alloc (Nat.le_refl _) (.cells #[.string xc, .int .i64 xd, .int .i64 xn, .int .i64 xm] 42)))
          have hK17 := Lib.hid (hK.out.alloc (.cells #[.string xc, .int .i64 xd, .int .i64 xn, .int .i64 xm] 42))
          have hbs17 : Hid (w2.heap.size ≤ (wz.alloc (.cells #[.string xc, .int .i64 xd, .int .i64 xn, .int .i64 xm] 42)).heap.size) := hK17.out.size
          have hrp17 : Hid (rtsL (l.reverse.take k) ++ rtL (xc, xd, xn, xm) = rtsL (l.reverse.take (k + 1))) := (by rw [hbn.out]; exact (rtsL_snoc _ _).symm)
          have hrow17 : Hid (∀ b, (Value.slice A1 k c1).ownBlock = some b → b ∈ ([] : List Nat) ∨ w2.heap.size ≤ b) := fun b e => .inr (hO1.out.lt b e).1
          go_wp2_with (at_builtin; refine wpList_append_new _ rfl _ _ 33 rfl w2.heap.size 42 i0 zr 4 40 Tryz.underlying33 hi0.out hz0.out hz1.out hz2.out hzc.out (by decide) (.slice A1 k c1) k _ rfl hO17.out ⟨wz.heap.size, 0, none⟩ 1 1 (rtL (xc, xd, xn, xm)) rfl rfl (head_rt wz (xc, xd, xn, xm) _) (one_rt _) (by decide) (by unfold maxLen; omega) (by omega) hbs17.out ?_; intro vb1 wb1 ho1 hg1 hn1; obtain ⟨B1, d1, rfl⟩ := own_form4 ho1; rw [hrp17.out] at ho1; have hk1 := Lib.hid (hK17.out.grown hg1 hrow17.out); replace ho1 := Lib.hid ho1; obtain ⟨f11, f12, f13, f14⟩ := HX.out _ (hk1.out.to_below (Below.refl _ _) (fun x hx => by simp at hx)); have hp1 := Lib.hid (apt_keep hP17.out hg1 hA.out.symm); have ha1 := Lib.hid (apt_new hP17.out hn1 hA.out.symm); clear hg1 hn1 hO17 hP17 hK17 hbs17 hrp17 hrow17)
          have hnx : Hid (early l day (k + 1) = early l day k) := hen.out hd
          have hm2 : Hid (m = (early l day (k + 1)).length) := by rw [hnx.out]; exact hm.out
          have hp2 := Lib.hid (hp1.out); rw [← hnx.out] at hp2
          go_wp2
          go_roundw
          case rel => exact ⟨k + 1, m, d1, c2, B1, A2, by omega, hm2.out, rfl, rfl, by have := hi.out; go_num, hk1, ho1, hp2, ha1.out.symm⟩
          case measure => simp [intOf]
      · obtain rfl : k = l.length := by omega
        rw [show (l.length : Int) - 1 - (l.length : Int) = -1 by omega] at hix
        subst hix
        have hR1 : InRt wz A1 l.reverse := by
          have h : wz.ownsRow w2.heap.size 42 4 (.slice A1 l.length c1) l.reverse.length (rtsL l.reverse) := by rw [List.length_reverse]; have := hO1.out; rwa [List.take_of_length_le (by simp)] at this
          obtain ⟨A9, c9, e, h2⟩ := own_rts h
          injection e with e1; rw [e1]; exact h2
        have hE1 : early l day l.length = l.reverse.filter fun x => decide (x.2.1 ≤ day) := by unfold early; rw [List.take_of_length_le (by simp)]
        have hmz : ∀ x, x ∈ early l day l.length → x ∈ l := fun x h => early_mem h
        have hm3 := hm.out
        replace hO2 := hO2.out
        generalize early l day l.length = E at hE1 hmz hm3 hO2
        clear hm
        subst hm3
        obtain ⟨A9, c9, e9, hR2⟩ := own_rts hO2
        obtain ⟨rfl, rfl⟩ : A2 = A9 ∧ c2 = c9 := by simpa using e9
        clear e9
        have hfr := find_reverse (l := l) (base := base) (cur := cur) (day := day)
        have hfe : validR l base = true → findR E base cur day = findR l base cur day := fun h => by rw [hE1]; exact find_early h
        have hRz : RtSz l.reverse := fun x h => hz.out x (List.mem_reverse.1 h)
        have hEz : RtSz E := fun x h => hz.out x (hmz x h)
        have kf1 : Hid (∀ W, Below wz.heap.size wz W → Calls Tryz.prog 21 #[.slice A l.length cap, .string base, .string cur, .int .i64 day] W fun e w' => e = .returned (.tuple #[rtV (findR l base cur day).1, .int .i64 (findR l base cur day).2]) ∧ Below W.heap.size W w') := fun W h => Find_any l A cap base cur day W ((hl2.out.below hq.out).below h) hll hbs hcs hz.out
        have kf2 : Hid (∀ W, Below wz.heap.size wz W → Calls Tryz.prog 21 #[.slice A1 l.length c1, .string base, .string cur, .int .i64 day] W fun e w' => e = .returned (.tuple #[rtV (findR l base cur day).1, .int .i64 (findR l base cur day).2]) ∧ Below W.heap.size W w') := fun W h => by have h9 := Find_any l.reverse A1 c1 base cur day W (hR1.below h) (by rw [List.length_reverse]; exact hll) hbs hcs hRz; rw [List.length_reverse, hfr] at h9; exact h9
        have kf3 : Hid (∀ W, Below wz.heap.size wz W → Calls Tryz.prog 21 #[.slice A2 E.length c2, .string base, .string cur, .int .i64 day] W fun e w' => e = .returned (.tuple #[rtV (findR E base cur day).1, .int .i64 (findR E base cur day).2]) ∧ Below W.heap.size W w') := fun W h => Find_any E A2 c2 base cur day W (hR2.below h) (by omega) hbs hcs hEz
        have kv : Hid (∀ W, Below wz.heap.size wz W → Calls Tryz.prog 22 #[.slice A l.length cap, .string base] W fun e w' => e = .returned (.bool (validR l base)) ∧ Below W.heap.size W w') := fun W h => Mo.Valid_any l A cap base W ((hl2.out.below hq.out).below h) hll hbs hz.out
        have hBz := Lib.hid (hB2.out.trans (hq.out.mono hB2.out.size))
        clear hRz hEz hfr hR1 hR2 hE1 hmz hO1 hO2 hA hK hB2 hl2 hq
        generalize findR l base cur day = X at kf1 kf2 hfe; generalize findR E base cur day = Y at kf3 hfe; generalize validR l base = V at kv hfe
        replace hfe := Lib.hid hfe
        obtain ⟨⟨xc, xd, xn, xm⟩, xe⟩ := X; obtain ⟨⟨yc, yd, yn, ym⟩, ye⟩ := Y
        replace kf1 : Hid (∀ W, Below wz.heap.size wz W → Calls Tryz.prog 21 #[.slice A l.length cap, .string base, .string cur, .int .i64 day] W fun e w' => e = .returned (.tuple #[.agg #[.string xc, .int .i64 xd, .int .i64 xn, .int .i64 xm], .int .i64 xe]) ∧ Below W.heap.size W w') := kf1
        replace kf2 : Hid (∀ W, Below wz.heap.size wz W → Calls Tryz.prog 21 #[.slice A1 l.length c1, .string base, .string cur, .int .i64 day] W fun e w' => e = .returned (.tuple #[.agg #[.string xc, .int .i64 xd, .int .i64 xn, .int .i64 xm], .int .i64 xe]) ∧ Below W.heap.size W w') := kf2
        replace kf3 : Hid (∀ W, Below wz.heap.size wz W → Calls Tryz.prog 21 #[.slice A2 E.length c2, .string base, .string cur, .int .i64 day] W fun e w' => e = .returned (.tuple #[.agg #[.string yc, .int .i64 yd, .int .i64 yn, .int .i64 ym], .int .i64 ye]) ∧ Below W.heap.size W w') := kf3
        have d0 : decide ((0 : Int) ≤ -1) = false := by decide
        have h3 := Lib.hid (kf1.out wz (Below.refl _ _)); clear kf1
        go_wp2_with fail
        refine h3.out.mono ?_
        rintro e w3 ⟨rfl, hb⟩
        clear h3
        have hZ3 : Hid (Below wz.heap.size wz (w3.alloc (.cells #[.string xc, .int .i64 xd, .int .i64 xn, .int .i64 xm] 42))) := hb.alloc hb.size _
        have hx3 : Hid (Bk (w3.alloc (.cells #[.string xc, .int .i64 xd, .int .i64 xn, .int .i64 xm] 42)) w3.heap.size 42 [.string xc, .int .i64 xd, .int .i64 xn, .int .i64 xm]) := Bk.new _ _ _
        clear hb
        have h4 := Lib.hid (kf2.out (w3.alloc (.cells #[.string xc, .int .i64 xd, .int .i64 xn, .int .i64 xm] 42)) hZ3.out); clear kf2
        go_wp2_with fail
        refine h4.out.mono ?_
        rintro e w4 ⟨rfl, hb⟩
        clear h4
        have hZ4 : Hid (Below wz.heap.size wz (w4.alloc (.cells #[.string xc, .int .i64 xd, .int .i64 xn, .int .i64 xm] 42))) := (hZ3.out.trans (hb.mono hZ3.out.size)).alloc (Nat.le_trans hZ3.out.size hb.size) _
        have hx4 := Lib.hid ((hx3.out.below hb).alloc (.cells #[.string xc, .int .i64 xd, .int .i64 xn, .int .i64 xm] 42))
        have hy4 : Hid (Bk (w4.alloc (.cells #[.string xc, .int .i64 xd, .int .i64 xn, .int .i64 xm] 42)) w4.heap.size 42 [.string xc, .int .i64 xd, .int .i64 xn, .int .i64 xm]) := Bk.new _ _ _
        clear hb hZ3 hx3
        have p0 := hx4.out.cell (j := 0) rfl
        have p1 := hx4.out.cell (j := 1) rfl
        have p2 := hx4.out.cell (j := 2) rfl
        have p3 := hx4.out.cell (j := 3) rfl
        have p9 := hx4.out.lt
        have q0 := hy4.out.cell (j := 0) rfl
        have q1 := hy4.out.cell (j := 1) rfl
        have q2 := hy4.out.cell (j := 2) rfl
        have q3 := hy4.out.cell (j := 3) rfl
        have q9 := hy4.out.lt
        have h5 := Lib.hid (kf3.out (w4.alloc (.cells #[.string xc, .int .i64 xd, .int .i64 xn, .int .i64 xm] 42)) hZ4.out); clear kf3
        go_wp2_with fail
        refine h5.out.mono ?_
        rintro e w5 ⟨rfl, hb⟩
        clear h5 p0 p1 p2 p3 p9 q0 q1 q2 q3 q9
        have hZ5 : Hid (Below wz.heap.size wz (w5.alloc (.cells #[.string yc, .int .i64 yd, .int .i64 yn, .int .i64 ym] 42))) := (hZ4.out.trans (hb.mono hZ4.out.size)).alloc (Nat.le_trans hZ4.out.size hb.size) _
        have hx5 := Lib.hid ((hx4.out.below hb).alloc (.cells #[.string yc, .int .i64 yd, .int .i64 yn, .int .i64 ym] 42))
        have hy5 : Hid (Bk (w5.alloc (.cells #[.string yc, .int .i64 yd, .int .i64 yn, .int .i64 ym] 42)) w5.heap.size 42 [.string yc, .int .i64 yd, .int .i64 yn, .int .i64 ym]) := Bk.new _ _ _
        clear hb hZ4 hx4 hy4
        have h6 := Lib.hid (kv.out (w5.alloc (.cells #[.string yc, .int .i64 yd, .int .i64 yn, .int .i64 ym] 42)) hZ5.out); clear kv
        cases V with
        | false =>
          go_wp2_with fail
          refine h6.out.mono ?_
          rintro e w6 ⟨rfl, hb⟩
          clear h6
          have hx6 := Lib.hid (hx5.out.below hb); have hy6 := Lib.hid (hy5.out.below hb); have hB6 := Lib.hid (hBz.out.trans ((hZ5.out.trans (hb.mono hZ5.out.size)).mono hBz.out.size))
          clear hb hx5 hy5 hZ5 hBz
          have p0 := hx6.out.cell (j := 0) rfl
          have p1 := hx6.out.cell (j := 1) rfl
          have p2 := hx6.out.cell (j := 2) rfl
          have p3 := hx6.out.cell (j := 3) rfl
          have p9 := hx6.out.lt
          have q0 := hy6.out.cell (j := 0) rfl
          have q1 := hy6.out.cell (j := 1) rfl
          have q2 := hy6.out.cell (j := 2) rfl
          have q3 := hy6.out.cell (j := 3) rfl
          have q9 := hy6.out.lt
          go_wp2
          go_ret
          exact ⟨by simp, hB6.out⟩
        | true =>
          obtain ⟨⟨rfl, rfl, rfl, rfl⟩, rfl⟩ : (yc = xc ∧ yd = xd ∧ yn = xn ∧ ym = xm) ∧ ye = xe := by have h := hfe.out rfl; simpa using h
          go_wp2_with fail
          refine h6.out.mono ?_
          rintro e w6 ⟨rfl, hb⟩
          clear h6
          have hx6 := Lib.hid (hx5.out.below hb); have hy6 := Lib.hid (hy5.out.below hb); have hB6 := Lib.hid (hBz.out.trans ((hZ5.out.trans (hb.mono hZ5.out.size)).mono hBz.out.size))
          clear hb hx5 hy5 hZ5 hBz
          have p0 := hx6.out.cell (j := 0) rfl
          have p1 := hx6.out.cell (j := 1) rfl
          have p2 := hx6.out.cell (j := 2) rfl
          have p3 := hx6.out.cell (j := 3) rfl
          have p9 := hx6.out.lt
          have q0 := hy6.out.cell (j := 0) rfl
          have q1 := hy6.out.cell (j := 1) rfl
          have q2 := hy6.out.cell (j := 2) rfl
          have q3 := hy6.out.cell (j := 3) rfl
          have q9 := hy6.out.lt
          go_wp2
          go_ret
          exact ⟨by simp, hB6.out⟩
end Mo
end Go.Proofs.YtpmlhgmmobpilaaGreatDoor

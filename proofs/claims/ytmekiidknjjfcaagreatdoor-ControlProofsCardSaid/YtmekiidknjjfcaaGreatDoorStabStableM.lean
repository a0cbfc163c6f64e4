/- stableCmpFunc walked, for fewer than 80 elements. -/
import Derived.Test.YtmekiidknjjfcaaGreatDoorStabSymM
import Derived.Test.YtmekiidknjjfcaaGreatDoorStabBlkM
namespace Go.Proofs.YtmekiidknjjfcaaGreatDoor
open Go.RowKit Go.Shelf Go.Sort
namespace St
open Nt Ci

set_option maxRecDepth 100000 in
set_option maxHeartbeats 8000000 in
theorem stable_any {α : Type} [Inhabited α] (nm : α → Nat) (cf : α → α → Int) (g : Nat) (cb : Array Value) (eg : ∀ args w, (callFunc g args).run Tryz.prog w = .ok (.enter g args) w) (key : α → Int) (pos : α → Nat) (hlt : ∀ x y, ltOf cf x y = decide (key x < key y)) (bl cap n : Nat) (d : Array α) (w : World) (HC : CmpOn Tryz.prog g cb nm cf bl w) (hR : Ro nm w bl d) (hn : d.size = n) (hn80 : n < 80) (hasc : ∀ i j, i < j → j < n → pos d[i]! < pos d[j]!) :
    Calls Tryz.prog 50 #[.slice (some ⟨bl, 0, none⟩) n cap, .int .i64 (n : Int), .func (.func g) #[] cb] w fun e w' => e = .returned (.tuple #[]) ∧ (∃ d', (PermIn 0 n d d' ∧ SortedIn (kLt key pos) 0 n d') ∧ Ro nm w' bl d') ∧ Kp [bl] w w' := by
  have hI0 : Hid (InSt key pos n 0 d d) := InSt.start hn hasc
  have ki : Hid (∀ (a b : Nat) (D : Array α) (W : World), InSt key pos n a d D → Kp [bl] w W → Ro nm W bl D → a ≤ b → b ≤ n → Calls Tryz.prog 66 #[.slice (some ⟨bl, 0, none⟩) n cap, .int .i64 (a : Int), .int .i64 (b : Int), .func (.func g) #[] cb] W fun e w' => e = .returned (.tuple #[]) ∧ (∃ D', (PermIn a b D D' ∧ SortedIn (kLt key pos) a b D') ∧ Ro nm w' bl D') ∧ Kp [bl] W w') := fun a b D W hI hK hO hab hb => by
    have hD := hI.sz
    have h := ins_any nm cf g cb eg bl cap a b D w W hK HC hO hab (by omega) (by omega)
    rw [hD] at h
    exact h.mono fun e w' h => ⟨h.1, ⟨_, ins_ok hI hb hab hlt, h.2.1⟩, h.2.2⟩
  have ks : Hid (∀ (B a b : Nat) (D : Array α) (W : World), (B = 20 ∨ B = 40) → BSt key pos B n a d D → Kp [bl] w W → Ro nm W bl D → a % (2 * B) = 0 → a + B < b → b ≤ n → b ≤ a + 2 * B → Calls Tryz.prog 67 #[.slice (some ⟨bl, 0, none⟩) n cap, .int .i64 (a : Int), .int .i64 ((a + B : Nat) : Int), .int .i64 (b : Int), .func (.func g) #[] cb] W (SymPost nm (Lek key pos) bl a b D W)) := fun B a b D W hB hI hK hO ha hab hb hb2 => by
    have hD := hI.sz
    obtain ⟨p1, p2, p3⟩ := hI.parts (lt := ltOf cf) hB ha hab hb hb2 hlt
    have h := sym_any nm cf g cb eg (Lek key pos) lek_trn bl cap w HC (b - a) a (a + B) b D W (Nat.le_refl _) hK hO (by omega) (by omega) (by omega) (by omega) p1 p2 p3
    rwa [hD] at h
  replace hR := Lib.hid hR
  replace hlt := Lib.hid hlt
  clear hasc HC
  replace hn := Lib.hid hn
  go_enter Tryz.func50, Tryz.ntmps50
  go_wp2
  go_loopw [7, 8] (fun ax bx wr => ∃ (a : Nat) (D : Array α), a ≤ n ∧ a % 20 = 0 ∧ ax = .int .i64 (a : Int) ∧ bx = .int .i64 ((a + 20 : Nat) : Int) ∧ Hid (InSt key pos n a d D) ∧ Hid (Ro nm wr bl D) ∧ Hid (Kp [bl] w wr)) (fun ax _ _ => n - (intOf ax).toNat)
  case atStart => exact ⟨0, d, Nat.zero_le _, rfl, rfl, rfl, hI0, hR, Kp.refl _ _⟩
  case round =>
    obtain ⟨a, D, han, ha, rfl, rfl, hI, hO, hK⟩ := hrel
    by_cases hab : a + 20 ≤ n
    · have t1 : decide (((a + 20 : Nat) : Int) ≤ (n : Int)) = true := decide_eq_true (by omega)
      have kc := Lib.hid (ki.out a (a + 20) D wr hI.out hK.out hO.out (by omega) hab)
      obtain ⟨b, hb⟩ : ∃ b, b = a + 20 := ⟨_, rfl⟩
      rw [← hb] at t1 kc ⊢
      have t1n : decide (b ≤ n) = true := decide_eq_true (by omega)
      have hb9 : b ≤ 100 := by omega
      replace hb := Lib.hid hb
      go_wp2_with fail
      refine kc.out.mono ?_
      rintro e w2 ⟨rfl, ⟨D2, hM, hO2⟩, hK2⟩
      have hI2 : Hid (InSt key pos n b d D2) := hI.out.step ha (by have := hb.out; omega) (by have := hb.out; omega) (by have := hb.out; omega) hM.1 hM.2 (.inl hb.out)
      replace hO2 := Lib.hid hO2
      replace hK2 := Lib.hid (kp_trans hK.out hK2)
      clear hM kc hI hO hK
      go_wp2
      exact ⟨⟨b, D2, by have := hb.out; omega, by have := hb.out; omega, by first | rfl | trivial, by go_num, hI2, hO2, hK2⟩, by have := hb.out; simp only [intOf]; omega⟩
    · have t1 : decide (((a + 20 : Nat) : Int) ≤ (n : Int)) = false := decide_eq_false (by omega)
      have kc := Lib.hid (ki.out a n D wr hI.out hK.out hO.out han (Nat.le_refl _))
      obtain ⟨b, hb⟩ : ∃ b, b = a + 20 := ⟨_, rfl⟩
      rw [← hb] at t1 ⊢
      have t1n : decide (b ≤ n) = false := decide_eq_false (by omega)
      have hb9 : b ≤ 100 := by omega
      replace hb := Lib.hid hb
      replace hab := Lib.hid hab
      go_wp2_with fail
      refine kc.out.mono ?_
      rintro e w2 ⟨rfl, ⟨D2, hM, hO2⟩, hK2⟩
      have hI2 : Hid (InSt key pos n n d D2) := hI.out.step ha han (Nat.le_refl _) (by have := hab.out; omega) hM.1 hM.2 (.inr rfl)
      have hB2 : Hid (BSt key pos 20 n 0 d D2) := hI2.out.toB
      replace hO2 := Lib.hid hO2
      replace hK2 := Lib.hid (kp_trans hK.out hK2)
      clear hM kc hI hO hK hI2
      go_wp2
      go_loopw [6] (fun Bx wr => ∃ (B : Nat) (D : Array α), (B = 20 ∨ B = 40 ∨ B = 80) ∧ Bx = .int .i64 (B : Int) ∧ Hid (BSt key pos B n 0 d D) ∧ Hid (Ro nm wr bl D) ∧ Hid (Kp [bl] w wr)) (fun Bx _ => 80 - (intOf Bx).toNat)
      case atStart => exact ⟨20, D2, .inl rfl, rfl, hB2, hO2, hK2⟩
      case round =>
        obtain ⟨B, D3, hB, rfl, hI3, hO3, hK3⟩ := hrel
        by_cases hBn : B < n
        · have hB4 : B = 20 ∨ B = 40 := by omega
          have t2 : decide ((B : Int) < (n : Int)) = true := decide_eq_true (by omega)
          have t2n : decide (B < n) = true := decide_eq_true hBn
          have hb20 : 20 ≤ B := by omega
          have hb40 : B ≤ 40 := by omega
          replace hB := Lib.hid hB
          replace hB4 := Lib.hid hB4
          go_wp2
          go_loopw [7, 8] (fun ax bx wr => ∃ (a : Nat) (D : Array α), a ≤ n ∧ Hid (a % (2 * B) = 0) ∧ ax = .int .i64 (a : Int) ∧ bx = .int .i64 ((a + 2 * B : Nat) : Int) ∧ Hid (BSt key pos B n a d D) ∧ Hid (Ro nm wr bl D) ∧ Hid (Kp [bl] w wr)) (fun ax _ _ => n - (intOf ax).toNat)
          case atStart => exact ⟨0, D3, Nat.zero_le _, Nat.zero_mod _, rfl, by go_num, hI3, hO3, hK3⟩
          case round =>
            obtain ⟨a, D4, han, ha, rfl, rfl, hI4, hO4, hK4⟩ := hrel
            obtain ⟨b, hb⟩ : ∃ b, b = a + 2 * B := ⟨_, rfl⟩
            rw [← hb]
            by_cases hbn : b ≤ n
            · have kc := Lib.hid (ks.out B a b D4 wr hB4.out hI4.out hK4.out hO4.out ha.out (by omega) hbn (by omega))
              have t3 : decide ((b : Int) ≤ (n : Int)) = true := decide_eq_true (by omega)
              have t3n : decide (b ≤ n) = true := decide_eq_true hbn
              have hb9 : b ≤ 200 := by omega
              have ha2 : Hid (b % (2 * B) = 0) := by show _ = _; rw [hb, Nat.add_mod, ha.out]; simp
              rw [show ((a + B : Nat) : Int) = (a : Int) + (B : Int) by omega] at kc
              have hbN : Hid (a ≤ n ∧ b = a + 2 * B ∧ b ≤ n) := ⟨han, hb, hbn⟩
              clear hb
              go_wp2_with fail
              refine kc.out.mono ?_
              rintro e w5 ⟨rfl, ⟨D5, hM, hO5⟩, hK5⟩
              have hI5 : Hid (BSt key pos B n b d D5) := by
                have h := hI4.out.step hB4.out ha.out (b := b) (by have := hbN.out; omega) hbn (by have := hbN.out; omega) (.inl hbN.out.2.1) hM
                rw [← hbN.out.2.1] at h
                exact h
              replace hO5 := Lib.hid hO5
              replace hK5 := Lib.hid (kp_trans hK4.out hK5)
              clear hM kc hI4 hO4 hK4
              go_wp2
              exact ⟨⟨b, D5, hbn, ha2, by first | rfl | trivial, by go_num, hI5, hO5, hK5⟩, by have := hbN.out; simp only [intOf]; omega⟩
            · have t3 : decide ((b : Int) ≤ (n : Int)) = false := decide_eq_false (by omega)
              have t3n : decide (b ≤ n) = false := decide_eq_false hbn
              obtain ⟨m, hm⟩ : ∃ m, m = a + B := ⟨_, rfl⟩
              have t4 : (a : Int) + (B : Int) = (m : Int) := by omega
              have hm9 : m ≤ 200 := by omega
              by_cases hmn : m < n
              · have kc := Lib.hid (ks.out B a n D4 wr hB4.out hI4.out hK4.out hO4.out ha.out (by omega) (Nat.le_refl _) (by omega))
                rw [← hm] at kc
                have t5 : decide ((m : Int) < (n : Int)) = true := decide_eq_true (by omega)
                have t5n : decide (m < n) = true := decide_eq_true hmn
                have hbN : Hid (n < a + 2 * B ∧ a + B < n) := ⟨by omega, by omega⟩
                clear hb hbn; replace hm := Lib.hid hm
                go_wp2_with fail
                refine kc.out.mono ?_
                rintro e w5 ⟨rfl, ⟨D5, hM, hO5⟩, hK5⟩
                have hI5 : Hid (BSt key pos (2 * B) n 0 d D5) := by
                  have h := hI4.out.step hB4.out ha.out (b := n) hbN.out.2 (Nat.le_refl _) (by have := hbN.out; omega) (.inr rfl) hM
                  refine h.next hB4.out ?_ (by have := hbN.out; omega)
                  rw [Nat.add_mod, ha.out]; simp
                replace hO5 := Lib.hid hO5
                replace hK5 := Lib.hid (kp_trans hK4.out hK5)
                clear hM kc hI4 hO4 hK4
                go_wp2
                exact ⟨⟨2 * B, D5, by have := hB4.out; omega, by go_num, hI5, hO5, hK5⟩, by simp only [intOf]; omega⟩
              · have t5 : decide ((m : Int) < (n : Int)) = false := decide_eq_false (by omega)
                have t5n : decide (m < n) = false := decide_eq_false hmn
                have hI5 : Hid (BSt key pos (2 * B) n 0 d D4) := hI4.out.next hB4.out ha.out (by omega)
                clear hI4 hb hbn; replace hm := Lib.hid hm
                go_wp2
                exact ⟨⟨2 * B, D4, by have := hB4.out; omega, by go_num, hI5, hO4, hK4⟩, by simp only [intOf]; omega⟩
        · have t2 : decide ((B : Int) < (n : Int)) = false := decide_eq_false (by omega)
          have t2n : decide (B < n) = false := decide_eq_false hBn
          have hfin := Lib.hid (hI3.out.last (by omega))
          replace hB := Lib.hid hB
          go_wp2
          go_end0
          exact ⟨rfl, ⟨D3, hfin.out, hO3.out⟩, hK3.out⟩
end St
end Go.Proofs.YtmekiidknjjfcaaGreatDoor

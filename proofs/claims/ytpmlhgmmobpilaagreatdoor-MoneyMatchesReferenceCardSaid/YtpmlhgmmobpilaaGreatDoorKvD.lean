/- Texts that the proof needs: StabSymM. -/
import Derived.Deep.DeepCutAuto
import Derived.Test.YtpmlhgmmobpilaaGreatDoorKvA
import Derived.Test.YtpmlhgmmobpilaaGreatDoorKvB
import Derived.Test.YtpmlhgmmobpilaaGreatDoorKvC
namespace Go.Proofs.YtpmlhgmmobpilaaGreatDoor
open Go.RowKit Go.Shelf Go.Sort
namespace St
open Nt Ci
def SymPost {α : Type} [Inhabited α] (nm : α → Nat) (R : α → α → Prop) (bl a b : Nat) (d : Array α) (w : World) (e : Ending) (w' : World) : Prop :=
  e = .returned (.tuple #[]) ∧ (∃ d', Mrg R a b d d' ∧ Ro nm w' bl d') ∧ Kp [bl] w w'
theorem rot_step {α : Type} [Inhabited α] {d : Array α} {m i j : Nat} (hi : 0 < i) (hj : 0 < j) (h : j < i) : rot d m i j = rot (swapRange d (m - i) m j) m (i - j) j := by
  conv => lhs; unfold rot
  rw [if_neg (by omega), if_neg (by omega), if_pos h]
theorem rot_step2 {α : Type} [Inhabited α] {d : Array α} {m i j : Nat} (hi : 0 < i) (hj : 0 < j) (h : i < j) : rot d m i j = rot (swapRange d (m - i) (m + j - i) i) m i (j - i) := by
  conv => lhs; unfold rot
  rw [if_neg (by omega), if_neg (by omega), if_neg (by omega)]
theorem rot_last {α : Type} [Inhabited α] {d : Array α} {m i : Nat} (hi : 0 < i) : rot d m i i = swapRange d (m - i) m i := by
  unfold rot
  rw [if_neg (by omega), if_pos rfl]
set_option maxRecDepth 100000 in
set_option maxHeartbeats 4000000 in
theorem rotate_any {α : Type} [Inhabited α] (nm : α → Nat) (bl cap s m t : Nat) (fv : Value) (d : Array α) (w : World) (hR : Ro nm w bl d) (hsm : s < m) (hmt : m < t) (ht : t ≤ d.size) (hs : d.size ≤ 1000) :
    Calls Tryz.prog 185 #[.slice (some ⟨bl, 0, none⟩) d.size cap, .int .i64 (s : Int), .int .i64 (m : Int), .int .i64 (t : Int), fv] w fun e w' => e = .returned (.tuple #[]) ∧ (∃ d', IsRot d s m t d' ∧ Ro nm w' bl d') ∧ Kp [bl] w w' := by
  have hfin : Hid (IsRot d s m t (rot d m (m - s) (t - m))) := by
    have h := rot_is (m - s + (t - m)) d m (m - s) (t - m) (Nat.le_refl _) (by omega) (by omega) (by omega) (by omega)
    rw [show m - (m - s) = s by omega, show m + (t - m) = t by omega] at h
    exact h
  replace hR := Lib.hid hR
  go_enter Tryz.func185, Tryz.ntmps185
  go_wp2
  go_loopw [10, 11] (fun ix jx wr => ∃ (i j : Nat) (D : Array α), 0 < i ∧ 0 < j ∧ i ≤ m ∧ m + j ≤ d.size ∧ ix = .int .i64 (i : Int) ∧ jx = .int .i64 (j : Int) ∧ D.size = d.size ∧ Hid (rot D m i j = rot d m (m - s) (t - m)) ∧ Hid (Ro nm wr bl D) ∧ Hid (Kp [bl] w wr)) (fun ix jx _ => (intOf ix).toNat + (intOf jx).toNat)
  case atStart => exact ⟨m - s, t - m, d, by omega, by omega, by omega, by omega, by go_num, by go_num, rfl, rfl, hR, Kp.refl _ _⟩
  case round =>
    obtain ⟨i, j, D, hi, hj, him, hmj, rfl, rfl, hD, hrot, hO, hK⟩ := hrel
    by_cases hij : i = j
    · subst hij
      have ks : Hid (Calls Tryz.prog 210 #[.slice (some ⟨bl, 0, none⟩) d.size cap, .int .i64 ((m - i : Nat) : Int), .int .i64 (m : Int), .int .i64 (i : Int), fv] wr fun e w' => e = .returned (.tuple #[]) ∧ Ro nm w' bl (swapRange D (m - i) m i) ∧ Kp [bl] wr w') := by
        have h := swapRange_any nm bl cap (m - i) m i fv D wr hO.out (by omega) (by omega) (by omega)
        rwa [hD] at h
      rw [show ((m - i : Nat) : Int) = (m : Int) - (i : Int) by omega] at ks
      rw [rot_last hi] at hrot
      replace hD := Lib.hid hD
      go_wp2_with fail
      refine ks.out.mono ?_
      rintro e w2 ⟨rfl, h1, h2⟩
      replace h1 := Lib.hid h1
      replace h2 := Lib.hid h2
      go_wp2
      go_end0
      exact ⟨rfl, ⟨_, by rw [hrot.out]; exact hfin.out, h1.out⟩, kp_trans hK.out h2.out⟩
    · have q0 : ((i : Int) != (j : Int)) = true := by rw [bne_iff_ne]; omega
      have q0n : (i != j) = true := by rw [bne_iff_ne]; exact hij
      have q0e : ((i : Int) == (j : Int)) = false := by rw [beq_eq_false_iff_ne]; omega
      have q0m : (i == j) = false := by rw [beq_eq_false_iff_ne]; exact hij
      by_cases hlt : j < i
      · have ks : Hid (Calls Tryz.prog 210 #[.slice (some ⟨bl, 0, none⟩) d.size cap, .int .i64 ((m - i : Nat) : Int), .int .i64 (m : Int), .int .i64 (j : Int), fv] wr fun e w' => e = .returned (.tuple #[]) ∧ Ro nm w' bl (swapRange D (m - i) m j) ∧ Kp [bl] wr w') := by
          have h := swapRange_any nm bl cap (m - i) m j fv D wr hO.out (by omega) (by omega) (by omega)
          rwa [hD] at h
        rw [show ((m - i : Nat) : Int) = (m : Int) - (i : Int) by omega] at ks
        rw [rot_step hi hj hlt] at hrot
        have hD2 : (swapRange D (m - i) m j).size = d.size := (swapRange_size D (m - i) m j).trans hD
        replace hD := Lib.hid hD
        replace hD2 := Lib.hid hD2
        have q1 : decide ((j : Int) < (i : Int)) = true := decide_eq_true (by omega)
        have q1n : decide (j < i) = true := decide_eq_true hlt
        clear hij
        go_wp2_with fail
        refine ks.out.mono ?_
        rintro e w2 ⟨rfl, h1, h2⟩
        replace h1 := Lib.hid h1
        have h3 := Lib.hid (kp_trans hK.out h2)
        clear h2 ks hO hK
        go_wp2
        exact ⟨⟨i - j, j, _, by omega, hj, by omega, hmj, by go_num, by first | rfl | trivial, hD2.out, hrot, h1, h3⟩, by simp only [intOf]; omega⟩
      · have hji : i < j := by omega
        have ks : Hid (Calls Tryz.prog 210 #[.slice (some ⟨bl, 0, none⟩) d.size cap, .int .i64 ((m - i : Nat) : Int), .int .i64 ((m + j - i : Nat) : Int), .int .i64 (i : Int), fv] wr fun e w' => e = .returned (.tuple #[]) ∧ Ro nm w' bl (swapRange D (m - i) (m + j - i) i) ∧ Kp [bl] wr w') := by
          have h := swapRange_any nm bl cap (m - i) (m + j - i) i fv D wr hO.out (by omega) (by omega) (by omega)
          rwa [hD] at h
        rw [show ((m - i : Nat) : Int) = (m : Int) - (i : Int) by omega, show ((m + j - i : Nat) : Int) = (m : Int) + (j : Int) - (i : Int) by omega] at ks
        rw [rot_step2 hi hj hji] at hrot
        have hD2 : (swapRange D (m - i) (m + j - i) i).size = d.size := (swapRange_size D (m - i) (m + j - i) i).trans hD
        replace hD := Lib.hid hD
        replace hD2 := Lib.hid hD2
        have q1 : decide ((j : Int) < (i : Int)) = false := decide_eq_false (by omega)
        have q1n : decide (j < i) = false := decide_eq_false hlt
        clear hij
        go_wp2_with fail
        refine ks.out.mono ?_
        rintro e w2 ⟨rfl, h1, h2⟩
        replace h1 := Lib.hid h1
        have h3 := Lib.hid (kp_trans hK.out h2)
        clear h2 ks hO hK
        go_wp2
        exact ⟨⟨i, j - i, _, hi, by omega, by omega, by omega, by first | rfl | trivial, by go_num, hD2.out, hrot, h1, h3⟩, by simp only [intOf]; omega⟩
set_option maxRecDepth 100000 in
set_option maxHeartbeats 4000000 in
theorem sym_left {α : Type} [Inhabited α] (nm : α → Nat) (cf : α → α → Int) (g : Nat) (cb : Array Value) (eg : ∀ args w, (callFunc g args).run Tryz.prog w = .ok (.enter g args) w) (R : α → α → Prop) (hT : Trn R) (bl cap a b : Nat) (d : Array α) (w0 w : World) (hK0 : Kp [bl] w0 w) (HC : CmpOn Tryz.prog g cb nm cf bl w0) (hR : Ro nm w bl d) (hab : a + 1 < b) (hb : b ≤ d.size) (hs : d.size ≤ 1000) (h2 : Srt R (a + 1) b d) (hc0 : Tells (ltOf cf) R a (a + 1) b d) :
    Calls Tryz.prog 144 #[.slice (some ⟨bl, 0, none⟩) d.size cap, .int .i64 (a : Int), .int .i64 ((a : Int) + 1), .int .i64 (b : Int), .func (.func g) #[] cb] w (SymPost nm R bl a b d w) := by
  have hfin : Hid (∀ (i : Nat) (d' : Array α), a + 1 ≤ i → i ≤ b → (i = a + 1 ∨ ltOf cf d[i - 1]! d[a]! = true) → (i = b ∨ ltOf cf d[i]! d[a]! = false) → IsRot d a (a + 1) i d' → Mrg R a b d d') := fun i d' k1 k2 k3 k4 k5 => mrg_left hT h2 hc0 k1 k2 hb k3 k4 k5
  clear h2 hc0
  replace hK0 := Lib.hid hK0; replace HC := Lib.hid HC; replace hR := Lib.hid hR
  have t1 : ((a : Int) + 1 - (a : Int) == 1) = true := by rw [beq_iff_eq]; omega
  go_enter Tryz.func144, Tryz.ntmps144
  go_wp2
  go_loopw [10, 11] (fun ix jx wr => ∃ (i j : Nat), a + 1 ≤ i ∧ i ≤ j ∧ j ≤ b ∧ ix = .int .i64 (i : Int) ∧ jx = .int .i64 (j : Int) ∧ Hid (i = a + 1 ∨ ltOf cf d[i - 1]! d[a]! = true) ∧ Hid (j = b ∨ ltOf cf d[j]! d[a]! = false) ∧ Hid (Ro nm wr bl d) ∧ Hid (Kp [bl] w wr)) (fun ix jx _ => (intOf jx).toNat - (intOf ix).toNat)
  case atStart => exact ⟨a + 1, b, Nat.le_refl _, by omega, Nat.le_refl _, by first | rfl | go_num, by first | rfl | go_num, .inl rfl, .inl rfl, hR, Kp.refl _ _⟩
  case round =>
    obtain ⟨i, j, hi, hij, hj, rfl, rfl, hp1, hp2, hO, hK⟩ := hrel
    by_cases hlt : i < j
    · obtain ⟨h, hh⟩ : ∃ h, h = (i + j) / 2 := ⟨_, rfl⟩
      have e0 : ((i : Int) + (j : Int)) / 2 = (h : Int) := by omega
      have hhi : i ≤ h := by omega
      have hhj : h < j := by omega
      replace hh := Lib.hid hh
      obtain ⟨xv, hxv⟩ : ∃ z, z = d[h]! := ⟨_, rfl⟩
      obtain ⟨yv, hyv⟩ : ∃ z, z = d[a]! := ⟨_, rfl⟩
      have c1 : wr.cell? ⟨bl, h, none⟩ = some (.int .i64 (nm xv : Int)) := by rw [hxv]; exact hO.out.cell _ (by omega)
      have c2 : wr.cell? ⟨bl, a, none⟩ = some (.int .i64 (nm yv : Int)) := by rw [hyv]; exact hO.out.cell _ (by omega)
      have l1 := hO.out.lt
      have hc : Hid (∀ q, Calls Tryz.prog g (#[.int .i64 (nm xv : Int), .int .i64 (nm yv : Int)] ++ cb) (wr.drewN q) fun e w' => e = .returned (.int .i64 (cf xv yv)) ∧ ∃ q2, w' = (wr.drewN q).drewN q2) := fun q => HC.out (wr.drewN q) (kp_drewN (kp_trans hK0.out hK.out) q) xv yv
      have j0 : (0 : Int) ≤ (h : Int) := by omega
      have j1 : (h : Int) < (d.size : Int) := by omega
      have j2 : (0 : Int) ≤ (a : Int) := by omega
      have j3 : (a : Int) < (d.size : Int) := by omega
      have hltv : ltOf cf xv yv = decide (cf xv yv < 0) := rfl
      by_cases hv : cf xv yv < 0
      · have hw : Hid (ltOf cf d[h]! d[a]! = true) := by rw [← hxv, ← hyv, hltv]; exact decide_eq_true hv
        have hv2 : decide (cf xv yv < 0) = true := decide_eq_true hv
        clear hltv hv; replace hxv := Lib.hid hxv; replace hyv := Lib.hid hyv
        go_wp2_with fail
        go_quiet (first | (go_at_fn g; refine Calls.quiet_of (hc.out _)))
        have hO2 := Lib.hid (hO.out.drewN nq); have hK2 := Lib.hid (kp_drewN hK.out nq)
        go_wp2
        exact ⟨⟨h + 1, j, by omega, by omega, hj, by go_num, by first | rfl | trivial, .inr (by rw [Nat.add_sub_cancel]; exact hw.out), hp2, hO2, hK2⟩, by simp only [intOf]; omega⟩
      · have hw : Hid (ltOf cf d[h]! d[a]! = false) := by rw [← hxv, ← hyv, hltv]; exact decide_eq_false hv
        have hv2 : decide (cf xv yv < 0) = false := decide_eq_false hv
        clear hltv hv; replace hxv := Lib.hid hxv; replace hyv := Lib.hid hyv
        go_wp2_with fail
        go_quiet (first | (go_at_fn g; refine Calls.quiet_of (hc.out _)))
        have hO2 := Lib.hid (hO.out.drewN nq); have hK2 := Lib.hid (kp_drewN hK.out nq)
        go_wp2
        exact ⟨⟨i, h, hi, by omega, by omega, by first | rfl | trivial, by go_num, hp1, .inr hw.out, hO2, hK2⟩, by simp only [intOf]; omega⟩
    · obtain rfl : i = j := by omega
      have kfin := Lib.hid (fun d' => hfin.out i d' hi hj hp1.out hp2.out)
      have t3 : (i : Int) - 1 = ((i - 1 : Nat) : Int) := by omega
      go_wp2
      go_loopw [13] (fun kx wr2 => ∃ (k : Nat) (D : Array α), a ≤ k ∧ k + 1 ≤ i ∧ kx = .int .i64 (k : Int) ∧ Hid (IsRot d a (a + 1) (k + 1) D) ∧ Hid (Ro nm wr2 bl D) ∧ Hid (Kp [bl] w wr2)) (fun kx _ => i - (intOf kx).toNat)
      case atStart => exact ⟨a, d, Nat.le_refl _, hi, rfl, isRot_triv (.inr rfl) (by omega) (Nat.le_refl _), hO, hK⟩
      case round =>
        obtain ⟨k, D, hk1, hk2, rfl, hr, hO2, hK2⟩ := hrel
        have hD : D.size = d.size := hr.out.1
        by_cases hki : k + 1 < i
        · skip
          have hO9 : Hid (Ro nm ((wr.setCell ⟨bl, k, none⟩ (.int .i64 (nm D[(k + 1)]! : Int))).setCell ⟨bl, (k + 1), none⟩ (.int .i64 (nm D[k]! : Int))).drew bl (swp D k (k + 1))) := (hO2.out.swap (by omega) (by omega) rfl rfl).below (Below.refl _ _).drew
          have hK9 := Lib.hid ((kp_swap hK2.out k (k + 1) (.int .i64 (nm D[(k + 1)]! : Int)) (.int .i64 (nm D[k]! : Int))).drew)
          have hr9 := Lib.hid (isRot_up hr.out hk1 (by omega))
          have c1 := hO2.out.cell k (by omega); have c2 := hO2.out.cell (k + 1) (by omega); have f1 := hO2.out.fr k (by omega); have f2 := hO2.out.fr (k + 1) (by omega); have l1 := hO2.out.lt
          obtain ⟨p1, hp1⟩ : ∃ z, z = (nm D[k]! : Int) := ⟨_, rfl⟩
          obtain ⟨p2, hp2⟩ : ∃ z, z = (nm D[(k + 1)]! : Int) := ⟨_, rfl⟩
          rw [← hp1] at c1 hO9 hK9
          rw [← hp2] at c2 hO9 hK9
          have j0 : (0 : Int) ≤ (k : Int) := by omega
          have j1 : (k : Int) < (d.size : Int) := by omega
          have j2 : (0 : Int) ≤ (k : Int) + 1 := by omega
          have j3 : (k : Int) + 1 < (d.size : Int) := by omega
          have j4 : ((k : Int) + 1).toNat = k + 1 := by omega
          have q1 : decide ((k : Int) < (i : Int) - 1) = true := decide_eq_true (by omega)
          have q2 : decide (k < i - 1) = true := decide_eq_true (by omega)
          clear hp1 hp2 hO2 hK2 hr
          replace hD := Lib.hid hD
          go_wp2_with fail
          go_region
          go_wp2
          exact ⟨⟨k + 1, _, by omega, by omega, by go_num, hr9, hO9, hK9⟩, by simp only [intOf]; omega⟩
        · obtain rfl : i = k + 1 := by omega
          have q1 : decide ((k : Int) < (k : Int) + 1 - 1) = false := decide_eq_false (by omega)
          have q2 : decide (k < k + 1 - 1) = false := decide_eq_false (by omega)
          have hM := Lib.hid (kfin.out D hr.out)
          go_wp2
          go_end0
          exact ⟨rfl, ⟨D, hM.out, hO2.out⟩, hK2.out⟩
set_option maxRecDepth 100000 in
set_option maxHeartbeats 4000000 in
theorem sym_right {α : Type} [Inhabited α] (nm : α → Nat) (cf : α → α → Int) (g : Nat) (cb : Array Value) (eg : ∀ args w, (callFunc g args).run Tryz.prog w = .ok (.enter g args) w) (R : α → α → Prop) (hT : Trn R) (bl cap a m : Nat) (d : Array α) (w0 w : World) (hK0 : Kp [bl] w0 w) (HC : CmpOn Tryz.prog g cb nm cf bl w0) (hR : Ro nm w bl d) (hab : a + 1 < m) (hb : m < d.size) (hs : d.size ≤ 1000) (h1 : Srt R a m d) (hc0 : Tells (ltOf cf) R a m (m + 1) d) :
    Calls Tryz.prog 144 #[.slice (some ⟨bl, 0, none⟩) d.size cap, .int .i64 (a : Int), .int .i64 (m : Int), .int .i64 ((m : Int) + 1), .func (.func g) #[] cb] w (SymPost nm R bl a (m + 1) d w) := by
  have hfin : Hid (∀ (i : Nat) (d' : Array α), a ≤ i → i ≤ m → (i = a ∨ ltOf cf d[m]! d[i - 1]! = false) → (i = m ∨ ltOf cf d[m]! d[i]! = true) → IsRot d i m (m + 1) d' → Mrg R a (m + 1) d d') := fun i d' k1 k2 k3 k4 k5 => mrg_right hT h1 hc0 k1 k2 hb k3 k4 k5
  clear h1 hc0
  replace hK0 := Lib.hid hK0; replace HC := Lib.hid HC; replace hR := Lib.hid hR
  have t1 : ((m : Int) - (a : Int) == 1) = false := by rw [beq_eq_false_iff_ne]; omega
  have t2 : ((m : Int) + 1 - (m : Int) == 1) = true := by rw [beq_iff_eq]; omega
  go_enter Tryz.func144, Tryz.ntmps144
  go_wp2
  go_loopw [14, 15] (fun ix jx wr => ∃ (i j : Nat), a ≤ i ∧ i ≤ j ∧ j ≤ m ∧ ix = .int .i64 (i : Int) ∧ jx = .int .i64 (j : Int) ∧ Hid (i = a ∨ ltOf cf d[m]! d[i - 1]! = false) ∧ Hid (j = m ∨ ltOf cf d[m]! d[j]! = true) ∧ Hid (Ro nm wr bl d) ∧ Hid (Kp [bl] w wr)) (fun ix jx _ => (intOf jx).toNat - (intOf ix).toNat)
  case atStart => exact ⟨a, m, Nat.le_refl _, by omega, Nat.le_refl _, by first | rfl | go_num, by first | rfl | go_num, .inl rfl, .inl rfl, hR, Kp.refl _ _⟩
  case round =>
    obtain ⟨i, j, hi, hij, hj, rfl, rfl, hp1, hp2, hO, hK⟩ := hrel
    by_cases hlt : i < j
    · obtain ⟨h, hh⟩ : ∃ h, h = (i + j) / 2 := ⟨_, rfl⟩
      have e0 : ((i : Int) + (j : Int)) / 2 = (h : Int) := by omega
      have hhi : i ≤ h := by omega
      have hhj : h < j := by omega
      replace hh := Lib.hid hh
      obtain ⟨xv, hxv⟩ : ∃ z, z = d[m]! := ⟨_, rfl⟩
      obtain ⟨yv, hyv⟩ : ∃ z, z = d[h]! := ⟨_, rfl⟩
      have c1 : wr.cell? ⟨bl, m, none⟩ = some (.int .i64 (nm xv : Int)) := by rw [hxv]; exact hO.out.cell _ (by omega)
      have c2 : wr.cell? ⟨bl, h, none⟩ = some (.int .i64 (nm yv : Int)) := by rw [hyv]; exact hO.out.cell _ (by omega)
      have l1 := hO.out.lt
      have hc : Hid (∀ q, Calls Tryz.prog g (#[.int .i64 (nm xv : Int), .int .i64 (nm yv : Int)] ++ cb) (wr.drewN q) fun e w' => e = .returned (.int .i64 (cf xv yv)) ∧ ∃ q2, w' = (wr.drewN q).drewN q2) := fun q => HC.out (wr.drewN q) (kp_drewN (kp_trans hK0.out hK.out) q) xv yv
      have j0 : (0 : Int) ≤ (h : Int) := by omega
      have j1 : (h : Int) < (d.size : Int) := by omega
      have j2 : (0 : Int) ≤ (m : Int) := by omega
      have j3 : (m : Int) < (d.size : Int) := by omega
      have hltv : ltOf cf xv yv = decide (cf xv yv < 0) := rfl
      by_cases hv : cf xv yv < 0
      · have hw : Hid (ltOf cf d[m]! d[h]! = true) := by rw [← hxv, ← hyv, hltv]; exact decide_eq_true hv
        have hv2 : decide (cf xv yv < 0) = true := decide_eq_true hv
        clear hltv hv; replace hxv := Lib.hid hxv; replace hyv := Lib.hid hyv
        go_wp2_with fail
        go_quiet (first | (go_at_fn g; refine Calls.quiet_of (hc.out _)))
        have hO2 := Lib.hid (hO.out.drewN nq); have hK2 := Lib.hid (kp_drewN hK.out nq)
        go_wp2
        exact ⟨⟨i, h, hi, by omega, by omega, by first | rfl | trivial, by go_num, hp1, .inr hw.out, hO2, hK2⟩, by simp only [intOf]; omega⟩
      · have hw : Hid (ltOf cf d[m]! d[h]! = false) := by rw [← hxv, ← hyv, hltv]; exact decide_eq_false hv
        have hv2 : decide (cf xv yv < 0) = false := decide_eq_false hv
        clear hltv hv; replace hxv := Lib.hid hxv; replace hyv := Lib.hid hyv
        go_wp2_with fail
        go_quiet (first | (go_at_fn g; refine Calls.quiet_of (hc.out _)))
        have hO2 := Lib.hid (hO.out.drewN nq); have hK2 := Lib.hid (kp_drewN hK.out nq)
        go_wp2
        exact ⟨⟨h + 1, j, by omega, by omega, hj, by go_num, by first | rfl | trivial, .inr (by rw [Nat.add_sub_cancel]; exact hw.out), hp2, hO2, hK2⟩, by simp only [intOf]; omega⟩
    · obtain rfl : i = j := by omega
      have kfin := Lib.hid (fun d' => hfin.out i d' hi hj hp1.out hp2.out)
      go_wp2
      go_loopw [17] (fun kx wr2 => ∃ (k : Nat) (D : Array α), i ≤ k ∧ k ≤ m ∧ kx = .int .i64 (k : Int) ∧ Hid (IsRot d k m (m + 1) D) ∧ Hid (Ro nm wr2 bl D) ∧ Hid (Kp [bl] w wr2)) (fun kx _ => (intOf kx).toNat - i)
      case atStart => exact ⟨m, d, hj, Nat.le_refl _, rfl, isRot_triv (.inl rfl) (Nat.le_refl _) (by omega), hO, hK⟩
      case round =>
        obtain ⟨k0, D, hk1, hk2, rfl, hr, hO2, hK2⟩ := hrel
        have hD : D.size = d.size := hr.out.1
        by_cases hki : i < k0
        · obtain ⟨k, rfl⟩ : ∃ k, k0 = k + 1 := ⟨k0 - 1, by omega⟩
          have hO9 : Hid (Ro nm ((wr.setCell ⟨bl, (k + 1), none⟩ (.int .i64 (nm D[k]! : Int))).setCell ⟨bl, k, none⟩ (.int .i64 (nm D[(k + 1)]! : Int))).drew bl (swp D (k + 1) k)) := (hO2.out.swap (by omega) (by omega) rfl rfl).below (Below.refl _ _).drew
          have hK9 := Lib.hid ((kp_swap hK2.out (k + 1) k (.int .i64 (nm D[k]! : Int)) (.int .i64 (nm D[(k + 1)]! : Int))).drew)
          have hr9 := Lib.hid (isRot_down hr.out hk2 (by omega))
          have c1 := hO2.out.cell (k + 1) (by omega); have c2 := hO2.out.cell k (by omega); have f1 := hO2.out.fr (k + 1) (by omega); have f2 := hO2.out.fr k (by omega); have l1 := hO2.out.lt
          obtain ⟨p1, hp1⟩ : ∃ z, z = (nm D[(k + 1)]! : Int) := ⟨_, rfl⟩
          obtain ⟨p2, hp2⟩ : ∃ z, z = (nm D[k]! : Int) := ⟨_, rfl⟩
          rw [← hp1] at c1 hO9 hK9
          rw [← hp2] at c2 hO9 hK9
          have j0 : (0 : Int) ≤ (k : Int) := by omega
          have j1 : (k : Int) < (d.size : Int) := by omega
          have j2 : (0 : Int) ≤ (k : Int) + 1 := by omega
          have j3 : (k : Int) + 1 < (d.size : Int) := by omega
          have j4 : ((k : Int) + 1).toNat = k + 1 := by omega
          have q1 : decide ((i : Int) < (k : Int) + 1) = true := decide_eq_true (by omega)
          have q2 : decide (i < k + 1) = true := decide_eq_true (by omega)
          clear hp1 hp2 hO2 hK2 hr
          replace hD := Lib.hid hD
          go_wp2_with fail
          go_region
          go_wp2
          exact ⟨⟨k, _, by omega, by omega, by go_num, hr9, hO9, hK9⟩, by simp only [intOf]; omega⟩
        · obtain rfl : i = k0 := by omega
          have hM := Lib.hid (kfin.out D hr.out)
          go_wp2
          go_end0
          exact ⟨rfl, ⟨D, hM.out, hO2.out⟩, hK2.out⟩
def regsOf : Code → List Code
  | .loop c => regsOf c
  | .seq a b => regsOf a ++ regsOf b
  | .block _ c => regsOf c
  | .scope c => regsOf c
  | .cond _ a b => regsOf a ++ regsOf b
  | .region a b c => [.region a b c]
  | _ => []
def isReg (k : Nat) : Code → Bool
  | .region a _ _ => a == k
  | _ => false
noncomputable def symReg (j : Nat) : Code := ((Tryz.f144.body.map regsOf).bind fun l => l.find? (isReg j)).getD .skip
set_option maxRecDepth 1000000 in
set_option maxHeartbeats 16000000 in
theorem sreg39 {c0 c1 c3 c4 c5 c6 c7 c8 c9 c10 c11 c12 c13 c14 c15 c16 c17 c18 c19 c21 c22 c23 c25 c26 c27 c28 c29 c30 c31 c32 c33 c34 c35 c36 c37 c38 c39 c40 c41 c42 c43 c44 c45 c46 c47 c48 c49 c50 c51 c52 c53 c54 c55 c56 c57 c58 c59 c60 c61 c62 c63 c64 c65 c66 c67 c68 c69 c70 c71 c72 c73 c74 c75 c76 c77 c78 c79 c80 c81 c82 c83 c84 c85 c86 c87 c88 c89 c90 c91 c92 c93 c94 c95 c96 c97 c98 c99 c100 c101 c102 c103 c104 c105 c106 c107 c108 c109 c110 c111 c112 c113 c114 c115 c116 c117 c118 c119 c120 c121 c122 c123 c124 c125 c126 c127 c128 c129 c130 c131 c132 c133 c134 c135 c136 c137 c138 c139 c140 c141 c142 c143 c144 c145 c146 c147 c148 c149 c150 c151 c152 c153 c154 c155 c156 c157 c158 c159 c160 c161 c162 c163 c164 c165 c166 c167 c168 c169 c170 c171 c172 c173 c174 c175 c176 c177 c186 c187 c188 c189 c190 c191 c192 c193 c194 c195 c196 c197 c198 c199 c200 c201 c202 c203 c204 c205 c206 c207 c208 c209 c210 c211 c212 c213 c214 c215 c216 c217 c218 c219 a178 a179 a180 a181 a182 a183 a184 a185 : Value} {Q : Exit → Act → World → Prop} (x y z : Nat) (b : Bool) (hb : b = decide (x < y ∧ y < z)) (w : World)
    (h : ∀ (u178 u179 u180 u181 u182 u183 u184 : Value), Q .normal ⟨#[c0, c1, .int .i64 (y : Int), c3, c4, c5, c6, c7, c8, c9, c10, c11, c12, c13, c14, c15, c16, c17, c18, c19, .int .i64 (x : Int), c21, c22, c23, .int .i64 (z : Int), c25, c26, c27, c28, c29, c30, c31, c32, c33, c34, c35, c36, c37, c38, c39, c40, c41, c42, c43, c44, c45, c46, c47, c48, c49, c50, c51, c52, c53, c54, c55, c56, c57, c58, c59, c60, c61, c62, c63, c64, c65, c66, c67, c68, c69, c70, c71, c72, c73, c74, c75, c76, c77, c78, c79, c80, c81, c82, c83, c84, c85, c86, c87, c88, c89, c90, c91, c92, c93, c94, c95, c96, c97, c98, c99, c100, c101, c102, c103, c104, c105, c106, c107, c108, c109, c110, c111, c112, c113, c114, c115, c116, c117, c118, c119, c120, c121, c122, c123, c124, c125, c126, c127, c128, c129, c130, c131, c132, c133, c134, c135, c136, c137, c138, c139, c140, c141, c142, c143, c144, c145, c146, c147, c148, c149, c150, c151, c152, c153, c154, c155, c156, c157, c158, c159, c160, c161, c162, c163, c164, c165, c166, c167, c168, c169, c170, c171, c172, c173, c174, c175, c176, c177, u178, u179, u180, u181, u182, u183, u184, .bool b, c186, c187, c188, c189, c190, c191, c192, c193, c194, c195, c196, c197, c198, c199, c200, c201, c202, c203, c204, c205, c206, c207, c208, c209, c210, c211, c212, c213, c214, c215, c216, c217, c218, c219], []⟩ (w)) :
    Code.wp Tryz.prog (symReg 39) Q ⟨#[c0, c1, .int .i64 (y : Int), c3, c4, c5, c6, c7, c8, c9, c10, c11, c12, c13, c14, c15, c16, c17, c18, c19, .int .i64 (x : Int), c21, c22, c23, .int .i64 (z : Int), c25, c26, c27, c28, c29, c30, c31, c32, c33, c34, c35, c36, c37, c38, c39, c40, c41, c42, c43, c44, c45, c46, c47, c48, c49, c50, c51, c52, c53, c54, c55, c56, c57, c58, c59, c60, c61, c62, c63, c64, c65, c66, c67, c68, c69, c70, c71, c72, c73, c74, c75, c76, c77, c78, c79, c80, c81, c82, c83, c84, c85, c86, c87, c88, c89, c90, c91, c92, c93, c94, c95, c96, c97, c98, c99, c100, c101, c102, c103, c104, c105, c106, c107, c108, c109, c110, c111, c112, c113, c114, c115, c116, c117, c118, c119, c120, c121, c122, c123, c124, c125, c126, c127, c128, c129, c130, c131, c132, c133, c134, c135, c136, c137, c138, c139, c140, c141, c142, c143, c144, c145, c146, c147, c148, c149, c150, c151, c152, c153, c154, c155, c156, c157, c158, c159, c160, c161, c162, c163, c164, c165, c166, c167, c168, c169, c170, c171, c172, c173, c174, c175, c176, c177, a178, a179, a180, a181, a182, a183, a184, a185, c186, c187, c188, c189, c190, c191, c192, c193, c194, c195, c196, c197, c198, c199, c200, c201, c202, c203, c204, c205, c206, c207, c208, c209, c210, c211, c212, c213, c214, c215, c216, c217, c218, c219], []⟩ w := by
  conv => arg 2; whnf
  conv => arg 4; zeta
  replace h := Lib.hid h
  by_cases z1 : x < y
  · have z1i : decide ((x : Int) < (y : Int)) = true := decide_eq_true (by omega)
    have z1n : decide (x < y) = true := decide_eq_true z1
    by_cases z2 : y < z
    · have z2i : decide ((y : Int) < (z : Int)) = true := decide_eq_true (by omega)
      have z2n : decide (y < z) = true := decide_eq_true z2
      obtain rfl : b = true := by rw [hb]; exact decide_eq_true ⟨z1, z2⟩
      clear hb; replace z1 := Lib.hid z1; replace z2 := Lib.hid z2
      go_wp2
      exact h.out ..
    · have z2i : decide ((y : Int) < (z : Int)) = false := decide_eq_false (by omega)
      have z2n : decide (y < z) = false := decide_eq_false z2
      obtain rfl : b = false := by rw [hb]; exact decide_eq_false (by omega)
      clear hb; replace z1 := Lib.hid z1; replace z2 := Lib.hid z2
      go_wp2
      exact h.out ..
  · have z1i : decide ((x : Int) < (y : Int)) = false := decide_eq_false (by omega)
    have z1n : decide (x < y) = false := decide_eq_false z1
    obtain rfl : b = false := by rw [hb]; exact decide_eq_false (by omega)
    clear hb; replace z1 := Lib.hid z1
    go_wp2
    exact h.out ..
set_option maxRecDepth 1000000 in
set_option maxHeartbeats 16000000 in
theorem sreg41 {c0 c2 c3 c4 c5 c6 c7 c8 c9 c10 c11 c12 c13 c14 c15 c16 c17 c19 c21 c22 c23 c24 c25 c26 c27 c28 c29 c30 c31 c32 c33 c34 c35 c36 c37 c38 c39 c40 c41 c42 c43 c44 c45 c46 c47 c48 c49 c50 c51 c52 c53 c54 c55 c56 c57 c58 c59 c60 c61 c62 c63 c64 c65 c66 c67 c68 c69 c70 c71 c72 c73 c74 c75 c76 c77 c78 c79 c80 c81 c82 c83 c84 c85 c86 c87 c88 c89 c90 c91 c92 c93 c94 c95 c96 c97 c98 c99 c100 c101 c102 c103 c104 c105 c106 c107 c108 c109 c110 c111 c112 c113 c114 c115 c116 c117 c118 c119 c120 c121 c122 c123 c124 c125 c126 c127 c128 c129 c130 c131 c132 c133 c134 c135 c136 c137 c138 c139 c140 c141 c142 c143 c144 c145 c146 c147 c148 c149 c150 c151 c152 c153 c154 c155 c156 c157 c158 c159 c160 c161 c162 c163 c164 c165 c166 c167 c168 c169 c170 c171 c172 c173 c174 c175 c176 c177 c178 c179 c180 c181 c182 c183 c184 c185 c186 c187 c188 c189 c190 c191 c200 c201 c202 c203 c204 c205 c206 c207 c208 c209 c210 c211 c212 c213 c214 c215 c216 c217 c218 c219 a192 a193 a194 a195 a196 a197 a198 a199 : Value} {Q : Exit → Act → World → Prop} (x y z : Nat) (b : Bool) (hb : b = decide (x < y ∧ y < z)) (w : World)
    (h : ∀ (u192 u193 u194 u195 u196 u197 u198 : Value), Q .normal ⟨#[c0, .int .i64 (x : Int), c2, c3, c4, c5, c6, c7, c8, c9, c10, c11, c12, c13, c14, c15, c16, c17, .int .i64 (z : Int), c19, .int .i64 (y : Int), c21, c22, c23, c24, c25, c26, c27, c28, c29, c30, c31, c32, c33, c34, c35, c36, c37, c38, c39, c40, c41, c42, c43, c44, c45, c46, c47, c48, c49, c50, c51, c52, c53, c54, c55, c56, c57, c58, c59, c60, c61, c62, c63, c64, c65, c66, c67, c68, c69, c70, c71, c72, c73, c74, c75, c76, c77, c78, c79, c80, c81, c82, c83, c84, c85, c86, c87, c88, c89, c90, c91, c92, c93, c94, c95, c96, c97, c98, c99, c100, c101, c102, c103, c104, c105, c106, c107, c108, c109, c110, c111, c112, c113, c114, c115, c116, c117, c118, c119, c120, c121, c122, c123, c124, c125, c126, c127, c128, c129, c130, c131, c132, c133, c134, c135, c136, c137, c138, c139, c140, c141, c142, c143, c144, c145, c146, c147, c148, c149, c150, c151, c152, c153, c154, c155, c156, c157, c158, c159, c160, c161, c162, c163, c164, c165, c166, c167, c168, c169, c170, c171, c172, c173, c174, c175, c176, c177, c178, c179, c180, c181, c182, c183, c184, c185, c186, c187, c188, c189, c190, c191, u192, u193, u194, u195, u196, u197, u198, .bool b, c200, c201, c202, c203, c204, c205, c206, c207, c208, c209, c210, c211, c212, c213, c214, c215, c216, c217, c218, c219], []⟩ (w)) :
    Code.wp Tryz.prog (symReg 41) Q ⟨#[c0, .int .i64 (x : Int), c2, c3, c4, c5, c6, c7, c8, c9, c10, c11, c12, c13, c14, c15, c16, c17, .int .i64 (z : Int), c19, .int .i64 (y : Int), c21, c22, c23, c24, c25, c26, c27, c28, c29, c30, c31, c32, c33, c34, c35, c36, c37, c38, c39, c40, c41, c42, c43, c44, c45, c46, c47, c48, c49, c50, c51, c52, c53, c54, c55, c56, c57, c58, c59, c60, c61, c62, c63, c64, c65, c66, c67, c68, c69, c70, c71, c72, c73, c74, c75, c76, c77, c78, c79, c80, c81, c82, c83, c84, c85, c86, c87, c88, c89, c90, c91, c92, c93, c94, c95, c96, c97, c98, c99, c100, c101, c102, c103, c104, c105, c106, c107, c108, c109, c110, c111, c112, c113, c114, c115, c116, c117, c118, c119, c120, c121, c122, c123, c124, c125, c126, c127, c128, c129, c130, c131, c132, c133, c134, c135, c136, c137, c138, c139, c140, c141, c142, c143, c144, c145, c146, c147, c148, c149, c150, c151, c152, c153, c154, c155, c156, c157, c158, c159, c160, c161, c162, c163, c164, c165, c166, c167, c168, c169, c170, c171, c172, c173, c174, c175, c176, c177, c178, c179, c180, c181, c182, c183, c184, c185, c186, c187, c188, c189, c190, c191, a192, a193, a194, a195, a196, a197, a198, a199, c200, c201, c202, c203, c204, c205, c206, c207, c208, c209, c210, c211, c212, c213, c214, c215, c216, c217, c218, c219], []⟩ w := by
  conv => arg 2; whnf
  conv => arg 4; zeta
  replace h := Lib.hid h
  by_cases z1 : x < y
  · have z1i : decide ((x : Int) < (y : Int)) = true := decide_eq_true (by omega)
    have z1n : decide (x < y) = true := decide_eq_true z1
    by_cases z2 : y < z
    · have z2i : decide ((y : Int) < (z : Int)) = true := decide_eq_true (by omega)
      have z2n : decide (y < z) = true := decide_eq_true z2
      obtain rfl : b = true := by rw [hb]; exact decide_eq_true ⟨z1, z2⟩
      clear hb; replace z1 := Lib.hid z1; replace z2 := Lib.hid z2
      go_wp2
      exact h.out ..
    · have z2i : decide ((y : Int) < (z : Int)) = false := decide_eq_false (by omega)
      have z2n : decide (y < z) = false := decide_eq_false z2
      obtain rfl : b = false := by rw [hb]; exact decide_eq_false (by omega)
      clear hb; replace z1 := Lib.hid z1; replace z2 := Lib.hid z2
      go_wp2
      exact h.out ..
  · have z1i : decide ((x : Int) < (y : Int)) = false := decide_eq_false (by omega)
    have z1n : decide (x < y) = false := decide_eq_false z1
    obtain rfl : b = false := by rw [hb]; exact decide_eq_false (by omega)
    clear hb; replace z1 := Lib.hid z1
    go_wp2
    exact h.out ..
set_option maxRecDepth 1000000 in
set_option maxHeartbeats 16000000 in
theorem sreg43 {c0 c1 c2 c4 c5 c6 c7 c8 c9 c10 c11 c12 c13 c14 c15 c16 c17 c19 c20 c21 c22 c23 c25 c26 c27 c28 c29 c30 c31 c32 c33 c34 c35 c36 c37 c38 c39 c40 c41 c42 c43 c44 c45 c46 c47 c48 c49 c50 c51 c52 c53 c54 c55 c56 c57 c58 c59 c60 c61 c62 c63 c64 c65 c66 c67 c68 c69 c70 c71 c72 c73 c74 c75 c76 c77 c78 c79 c80 c81 c82 c83 c84 c85 c86 c87 c88 c89 c90 c91 c92 c93 c94 c95 c96 c97 c98 c99 c100 c101 c102 c103 c104 c105 c106 c107 c108 c109 c110 c111 c112 c113 c114 c115 c116 c117 c118 c119 c120 c121 c122 c123 c124 c125 c126 c127 c128 c129 c130 c131 c132 c133 c134 c135 c136 c137 c138 c139 c140 c141 c142 c143 c144 c145 c146 c147 c148 c149 c150 c151 c152 c153 c154 c155 c156 c157 c158 c159 c160 c161 c162 c163 c164 c165 c166 c167 c168 c169 c170 c171 c172 c173 c174 c175 c176 c177 c178 c179 c180 c181 c182 c183 c184 c185 c186 c187 c188 c189 c190 c191 c192 c193 c194 c195 c196 c197 c198 c199 c200 c201 c202 c203 c204 c205 c214 c215 c216 c217 c218 c219 a206 a207 a208 a209 a210 a211 a212 a213 : Value} {Q : Exit → Act → World → Prop} (x y z : Nat) (b : Bool) (hb : b = decide (x < y ∧ y < z)) (w : World)
    (h : ∀ (u206 u207 u208 u209 u210 u211 u212 : Value), Q .normal ⟨#[c0, c1, c2, .int .i64 (z : Int), c4, c5, c6, c7, c8, c9, c10, c11, c12, c13, c14, c15, c16, c17, .int .i64 (x : Int), c19, c20, c21, c22, c23, .int .i64 (y : Int), c25, c26, c27, c28, c29, c30, c31, c32, c33, c34, c35, c36, c37, c38, c39, c40, c41, c42, c43, c44, c45, c46, c47, c48, c49, c50, c51, c52, c53, c54, c55, c56, c57, c58, c59, c60, c61, c62, c63, c64, c65, c66, c67, c68, c69, c70, c71, c72, c73, c74, c75, c76, c77, c78, c79, c80, c81, c82, c83, c84, c85, c86, c87, c88, c89, c90, c91, c92, c93, c94, c95, c96, c97, c98, c99, c100, c101, c102, c103, c104, c105, c106, c107, c108, c109, c110, c111, c112, c113, c114, c115, c116, c117, c118, c119, c120, c121, c122, c123, c124, c125, c126, c127, c128, c129, c130, c131, c132, c133, c134, c135, c136, c137, c138, c139, c140, c141, c142, c143, c144, c145, c146, c147, c148, c149, c150, c151, c152, c153, c154, c155, c156, c157, c158, c159, c160, c161, c162, c163, c164, c165, c166, c167, c168, c169, c170, c171, c172, c173, c174, c175, c176, c177, c178, c179, c180, c181, c182, c183, c184, c185, c186, c187, c188, c189, c190, c191, c192, c193, c194, c195, c196, c197, c198, c199, c200, c201, c202, c203, c204, c205, u206, u207, u208, u209, u210, u211, u212, .bool b, c214, c215, c216, c217, c218, c219], []⟩ (w)) :
    Code.wp Tryz.prog (symReg 43) Q ⟨#[c0, c1, c2, .int .i64 (z : Int), c4, c5, c6, c7, c8, c9, c10, c11, c12, c13, c14, c15, c16, c17, .int .i64 (x : Int), c19, c20, c21, c22, c23, .int .i64 (y : Int), c25, c26, c27, c28, c29, c30, c31, c32, c33, c34, c35, c36, c37, c38, c39, c40, c41, c42, c43, c44, c45, c46, c47, c48, c49, c50, c51, c52, c53, c54, c55, c56, c57, c58, c59, c60, c61, c62, c63, c64, c65, c66, c67, c68, c69, c70, c71, c72, c73, c74, c75, c76, c77, c78, c79, c80, c81, c82, c83, c84, c85, c86, c87, c88, c89, c90, c91, c92, c93, c94, c95, c96, c97, c98, c99, c100, c101, c102, c103, c104, c105, c106, c107, c108, c109, c110, c111, c112, c113, c114, c115, c116, c117, c118, c119, c120, c121, c122, c123, c124, c125, c126, c127, c128, c129, c130, c131, c132, c133, c134, c135, c136, c137, c138, c139, c140, c141, c142, c143, c144, c145, c146, c147, c148, c149, c150, c151, c152, c153, c154, c155, c156, c157, c158, c159, c160, c161, c162, c163, c164, c165, c166, c167, c168, c169, c170, c171, c172, c173, c174, c175, c176, c177, c178, c179, c180, c181, c182, c183, c184, c185, c186, c187, c188, c189, c190, c191, c192, c193, c194, c195, c196, c197, c198, c199, c200, c201, c202, c203, c204, c205, a206, a207, a208, a209, a210, a211, a212, a213, c214, c215, c216, c217, c218, c219], []⟩ w := by
  conv => arg 2; whnf
  conv => arg 4; zeta
  replace h := Lib.hid h
  by_cases z1 : x < y
  · have z1i : decide ((x : Int) < (y : Int)) = true := decide_eq_true (by omega)
    have z1n : decide (x < y) = true := decide_eq_true z1
    by_cases z2 : y < z
    · have z2i : decide ((y : Int) < (z : Int)) = true := decide_eq_true (by omega)
      have z2n : decide (y < z) = true := decide_eq_true z2
      obtain rfl : b = true := by rw [hb]; exact decide_eq_true ⟨z1, z2⟩
      clear hb; replace z1 := Lib.hid z1; replace z2 := Lib.hid z2
      go_wp2
      exact h.out ..
    · have z2i : decide ((y : Int) < (z : Int)) = false := decide_eq_false (by omega)
      have z2n : decide (y < z) = false := decide_eq_false z2
      obtain rfl : b = false := by rw [hb]; exact decide_eq_false (by omega)
      clear hb; replace z1 := Lib.hid z1; replace z2 := Lib.hid z2
      go_wp2
      exact h.out ..
  · have z1i : decide ((x : Int) < (y : Int)) = false := decide_eq_false (by omega)
    have z1n : decide (x < y) = false := decide_eq_false z1
    obtain rfl : b = false := by rw [hb]; exact decide_eq_false (by omega)
    clear hb; replace z1 := Lib.hid z1
    go_wp2
    exact h.out ..
set_option maxRecDepth 100000 in
set_option maxHeartbeats 8000000 in
theorem sym_any {α : Type} [Inhabited α] (nm : α → Nat) (cf : α → α → Int) (g : Nat) (cb : Array Value) (eg : ∀ args w, (callFunc g args).run Tryz.prog w = .ok (.enter g args) w) (R : α → α → Prop) (hT : Trn R) (bl cap : Nat) (w0 : World) (HC : CmpOn Tryz.prog g cb nm cf bl w0) : ∀ (N a m b : Nat) (d : Array α) (w : World), b - a ≤ N → Kp [bl] w0 w → Ro nm w bl d → a < m → m < b → b ≤ d.size → d.size ≤ 1000 → Srt R a m d → Srt R m b d → Tells (ltOf cf) R a m b d →
    Calls Tryz.prog 144 #[.slice (some ⟨bl, 0, none⟩) d.size cap, .int .i64 (a : Int), .int .i64 (m : Int), .int .i64 (b : Int), .func (.func g) #[] cb] w (SymPost nm R bl a b d w) := by
  intro N
  induction N with
  | zero => intro a m b d w hN _ _ ham hmb; omega
  | succ N ih =>
    intro a m b d w hN hK0 hR ham hmb hb hs h1 h2 hc0
    by_cases hL : m = a + 1
    · subst hL
      have h := sym_left nm cf g cb eg R hT bl cap a b d w0 w hK0 HC hR (by omega) hb hs h2 hc0
      rw [show ((a : Int) + 1) = ((a + 1 : Nat) : Int) by omega] at h
      exact h
    by_cases hRt : b = m + 1
    · subst hRt
      have h := sym_right nm cf g cb eg R hT bl cap a m d w0 w hK0 HC hR (by omega) (by omega) hs h1 hc0
      rw [show ((m : Int) + 1) = ((m + 1 : Nat) : Int) by omega] at h
      exact h
    obtain ⟨mid, hmid⟩ : ∃ x, x = (a + b) / 2 := ⟨_, rfl⟩
    have e0 : ((a : Int) + (b : Int)) / 2 = (mid : Int) := by omega
    have hm1 : a < mid := by omega
    have hm2 : mid < b := by omega
    have hm3 : 2 * mid ≤ a + b ∧ a + b ≤ 2 * mid + 1 := by omega
    replace hmid := Lib.hid hmid
    have t1 : ((m : Int) - (a : Int) == 1) = false := by rw [beq_eq_false_iff_ne]; omega
    have t2 : ((b : Int) - (m : Int) == 1) = false := by rw [beq_eq_false_iff_ne]; omega
    have hhalf : Hid (∀ (s e : Nat) (d' : Array α), a ≤ s → s ≤ m → m ≤ e → e ≤ b → mid = s + (e - m) → ((s = a ∨ e = b) ∨ ltOf cf d[e]! d[s - 1]! = false) → ((e = m ∨ s = m) ∨ ltOf cf d[e - 1]! d[s]! = true) → IsRot d s m e d' → Half (ltOf cf) R a s mid e b d d') := fun s e d' k1 k2 k3 k4 k5 k6 k7 k8 => Half.of hT h1 h2 hc0 k1 k2 k3 k4 hb k5 k6 k7 k8
    have ih2 : Hid (∀ (x y z : Nat) (D : Array α) (W : World), z - x ≤ N → Kp [bl] w W → Ro nm W bl D → x < y → y < z → z ≤ D.size → D.size = d.size → Srt R x y D → Srt R y z D → Tells (ltOf cf) R x y z D → Calls Tryz.prog 144 #[.slice (some ⟨bl, 0, none⟩) d.size cap, .int .i64 (x : Int), .int .i64 (y : Int), .int .i64 (z : Int), .func (.func g) #[] cb] W (SymPost nm R bl x z D W)) := fun x y z D W k1 k2 k3 k4 k5 k6 k7 k8 k9 k10 => by
      have h := ih x y z D W k1 (kp_trans hK0 k2) k3 k4 k5 k6 (by omega) k8 k9 k10
      rwa [k7] at h
    clear ih h1 h2 hc0
    obtain ⟨s0, r0, hs0, hsr, hr0, hsa, hsb, hsc, hrc, hway⟩ : ∃ s0 r0 : Nat, a ≤ s0 ∧ s0 ≤ r0 ∧ r0 ≤ mid ∧ r0 ≤ m ∧ mid + m ≤ s0 + b ∧ (s0 = a ∨ s0 + b = mid + m) ∧ (r0 = mid ∨ r0 = m) ∧ ((mid < m ∧ (s0 : Int) = (mid : Int) + (m : Int) - (b : Int) ∧ (r0 : Int) = (mid : Int)) ∨ (¬ mid < m ∧ (s0 : Int) = (a : Int) ∧ (r0 : Int) = (m : Int))) := by
      by_cases c : mid < m
      · exact ⟨mid + m - b, mid, by omega, by omega, by omega, by omega, by omega, by omega, by omega, .inl ⟨c, by omega, rfl⟩⟩
      · exact ⟨a, m, by omega, by omega, by omega, by omega, by omega, by omega, by omega, .inr ⟨c, rfl, rfl⟩⟩
    replace hK0 := Lib.hid hK0; replace HC := Lib.hid HC; replace hR := Lib.hid hR; replace hway := Lib.hid hway; replace hsc := Lib.hid hsc; replace hrc := Lib.hid hrc
    go_enter Tryz.func144, Tryz.ntmps144
    go_upto_if 140 with fail
    go_cut [20, 21] (fun x y wx => x = .int .i64 (s0 : Int) ∧ y = .int .i64 (r0 : Int) ∧ w = wx)
    case first =>
      rcases hway.out with ⟨g1, g2, g3⟩ | ⟨g1, g2, g3⟩
      · have q1 : decide ((mid : Int) < (m : Int)) = true := decide_eq_true (by omega)
        have q1n : decide (mid < m) = true := decide_eq_true g1
        replace g2 := Lib.hid g2; replace g3 := Lib.hid g3
        go_wp2_with fail
        go_meet
        exact ⟨by rw [g2.out], by rw [g3.out], rfl⟩
      · have q1 : decide ((mid : Int) < (m : Int)) = false := decide_eq_false (by omega)
        have q1n : decide (mid < m) = false := decide_eq_false g1
        replace g2 := Lib.hid g2; replace g3 := Lib.hid g3
        go_wp2_with fail
        go_meet
        exact ⟨by rw [g2.out], by rw [g3.out], rfl⟩
    case rest =>
      obtain ⟨rfl, rfl, rfl⟩ := hcut
      clear hway
      go_wp2
      go_loopw [20, 21] (fun ix jx wr => ∃ (i j : Nat), s0 ≤ i ∧ i ≤ j ∧ j ≤ r0 ∧ ix = .int .i64 (i : Int) ∧ jx = .int .i64 (j : Int) ∧ Hid (i = s0 ∨ ltOf cf d[mid + m - i]! d[i - 1]! = false) ∧ Hid (j = r0 ∨ ltOf cf d[mid + m - j - 1]! d[j]! = true) ∧ Hid (Ro nm wr bl d) ∧ Hid (Kp [bl] w wr)) (fun ix jx _ => (intOf jx).toNat - (intOf ix).toNat)
      case atStart => exact ⟨s0, r0, Nat.le_refl _, hsr, Nat.le_refl _, rfl, rfl, .inl rfl, .inl rfl, hR, Kp.refl _ _⟩
      case round =>
        obtain ⟨i, j, hi, hij, hj, rfl, rfl, hp1, hp2, hO, hK⟩ := hrel
        by_cases hlt : i < j
        · obtain ⟨h, hh⟩ : ∃ h, h = (i + j) / 2 := ⟨_, rfl⟩
          have e1 : ((i : Int) + (j : Int)) / 2 = (h : Int) := by omega
          have hhi : i ≤ h := by omega
          have hhj : h < j := by omega
          replace hh := Lib.hid hh
          obtain ⟨p, hp⟩ : ∃ p, p = mid + m - h - 1 := ⟨_, rfl⟩
          have e2 : (mid : Int) + (m : Int) - 1 - (h : Int) = (p : Int) := by omega
          have hpd : p < d.size := by omega
          obtain ⟨xv, hxv⟩ : ∃ z, z = d[p]! := ⟨_, rfl⟩
          obtain ⟨yv, hyv⟩ : ∃ z, z = d[h]! := ⟨_, rfl⟩
          have c1 : wr.cell? ⟨bl, p, none⟩ = some (.int .i64 (nm xv : Int)) := by rw [hxv]; exact hO.out.cell _ (by omega)
          have c2 : wr.cell? ⟨bl, h, none⟩ = some (.int .i64 (nm yv : Int)) := by rw [hyv]; exact hO.out.cell _ (by omega)
          have l1 := hO.out.lt
          have hc : Hid (∀ q, Calls Tryz.prog g (#[.int .i64 (nm xv : Int), .int .i64 (nm yv : Int)] ++ cb) (wr.drewN q) fun e w' => e = .returned (.int .i64 (cf xv yv)) ∧ ∃ q2, w' = (wr.drewN q).drewN q2) := fun q => HC.out (wr.drewN q) (kp_drewN (kp_trans hK0.out hK.out) q) xv yv
          have j0 : (0 : Int) ≤ (h : Int) := by omega
          have j1 : (h : Int) < (d.size : Int) := by omega
          have j2 : (0 : Int) ≤ (p : Int) := by omega
          have j3 : (p : Int) < (d.size : Int) := by omega
          have hltv : ltOf cf xv yv = decide (cf xv yv < 0) := rfl
          by_cases hv : cf xv yv < 0
          · have hw : Hid (ltOf cf d[p]! d[h]! = true) := by rw [← hxv, ← hyv, hltv]; exact decide_eq_true hv
            have hv2 : decide (cf xv yv < 0) = true := decide_eq_true hv
            replace hp := Lib.hid hp
            clear hltv hv; replace hxv := Lib.hid hxv; replace hyv := Lib.hid hyv
            go_wp2_with fail
            go_quiet (first | (go_at_fn g; refine Calls.quiet_of (hc.out _)))
            have hO2 := Lib.hid (hO.out.drewN nq); have hK2 := Lib.hid (kp_drewN hK.out nq)
            go_wp2
            exact ⟨⟨i, h, hi, by omega, by omega, by first | rfl | trivial, by go_num, hp1, .inr (by rw [← hp.out]; exact hw.out), hO2, hK2⟩, by simp only [intOf]; omega⟩
          · have hw : Hid (ltOf cf d[p]! d[h]! = false) := by rw [← hxv, ← hyv, hltv]; exact decide_eq_false hv
            have hv2 : decide (cf xv yv < 0) = false := decide_eq_false hv
            replace hp := Lib.hid hp
            clear hltv hv; replace hxv := Lib.hid hxv; replace hyv := Lib.hid hyv
            go_wp2_with fail
            go_quiet (first | (go_at_fn g; refine Calls.quiet_of (hc.out _)))
            have hO2 := Lib.hid (hO.out.drewN nq); have hK2 := Lib.hid (kp_drewN hK.out nq)
            go_wp2
            exact ⟨⟨h + 1, j, by omega, by omega, hj, by go_num, by first | rfl | trivial, .inr (by rw [Nat.add_sub_cancel, show mid + m - (h + 1) = p by have := hp.out; omega]; exact hw.out), hp2, hO2, hK2⟩, by simp only [intOf]; omega⟩
        · obtain rfl : i = j := by omega
          obtain ⟨e, he⟩ : ∃ e, e = mid + m - i := ⟨_, rfl⟩
          have e3 : (mid : Int) + (m : Int) - (i : Int) = (e : Int) := by omega
          have hme : m ≤ e := by omega
          have heb : e ≤ b := by omega
          have hie : mid = i + (e - m) := by omega
          have him : i ≤ m := by omega
          have hai : a ≤ i := by omega
          have kh : Hid (∀ d', IsRot d i m e d' → Half (ltOf cf) R a i mid e b d d') := fun d' hr => hhalf.out i e d' hai him hme heb hie (by
            rcases hp1.out with h1 | h1
            · rcases hsc.out with h2 | h2
              · exact .inl (.inl (by omega))
              · exact .inl (.inr (by omega))
            · exact .inr (by rw [he]; exact h1)) (by
            rcases hp2.out with h1 | h1
            · rcases hrc.out with h2 | h2
              · exact .inl (.inl (by omega))
              · exact .inl (.inr (by omega))
            · exact .inr (by rw [he]; exact h1)) hr
          have hemi : mid ≤ e := by omega
          have hime : i ≤ mid := by omega
          replace he := Lib.hid he
          have hN9 : Hid (a < m ∧ m < b ∧ b ≤ d.size ∧ d.size ≤ 1000 ∧ b - a ≤ N + 1 ∧ a < mid ∧ mid < b ∧ m ≤ e ∧ e ≤ b ∧ i ≤ m ∧ a ≤ i ∧ mid ≤ e ∧ i ≤ mid ∧ mid = i + (e - m)) := ⟨ham, hmb, hb, hs, hN, hm1, hm2, hme, heb, him, hai, hemi, hime, hie⟩
          have he9 : (e : Int) ≤ 1000 := by omega
          clear hp1 hp2 hhalf hR hsc hrc ham hmb hb hs hN hm1 hm2 hm3 hme heb him hai hemi hime hie hs0 hsr hr0 hsa hsb hi hij hj hlt hL hRt
          obtain ⟨b1, hb1⟩ : ∃ t, t = decide (i < m ∧ m < e) := ⟨_, rfl⟩
          replace hb1 := Lib.hid hb1
          go_upto_region 39 with fail
          refine sreg39 i m e b1 hb1.out wr ?_
          intros
          go_upto_if 185 with fail
          go_cut [] (fun wx => ∃ D, Hid (Half (ltOf cf) R a i mid e b d D) ∧ Hid (Ro nm wx bl D) ∧ Hid (Kp [bl] w wx))
          case first =>
            cases hb1v : b1 with
            | true =>
              have hr1 := of_decide_eq_true (hb1.out.symm.trans hb1v)
              have kr := Lib.hid (rotate_any nm bl cap i m e (.func (.func g) #[] cb) d wr hO.out hr1.1 hr1.2 (by have := hN9.out; omega) (by have := hN9.out; omega))
              clear hr1; replace hb1v := Lib.hid hb1v
              go_wp2_with fail
              refine kr.out.mono ?_
              rintro _ w4 ⟨rfl, ⟨D4, hI4, hO4⟩, hK4⟩
              have hH4 := Lib.hid (kh.out D4 hI4)
              replace hO4 := Lib.hid hO4
              have hK5 := Lib.hid (kp_trans hK.out hK4)
              clear hK4 hI4 kr kh
              go_wp2_with fail
              go_meet
              exact ⟨D4, hH4, hO4, hK5⟩
            | false =>
              have hr1 := of_decide_eq_false (hb1.out.symm.trans hb1v)
              have hH4 := Lib.hid (kh.out d (isRot_triv (by have := hN9.out; omega) (by have := hN9.out; omega) (by have := hN9.out; omega)))
              clear hr1 kh; replace hb1v := Lib.hid hb1v
              go_wp2_with fail
              go_meet
              exact ⟨d, hH4, hO, hK⟩
          case rest =>
          obtain ⟨D4, hH4, hO4, hK4⟩ := hcut
          obtain ⟨w4, hw4⟩ : ∃ z, z = wc := ⟨_, rfl⟩
          subst hw4
          clear hO hK kh hb1
          obtain ⟨b2, hb2⟩ : ∃ t, t = decide (a < i ∧ i < mid) := ⟨_, rfl⟩
          replace hb2 := Lib.hid hb2
          go_upto_region 41 with fail
          refine sreg41 a i mid b2 hb2.out w4 ?_
          intros
          go_upto_if 199 with fail
          go_cut [] (fun wx => ∃ D, Hid (Half2 (ltOf cf) R a mid e b d D) ∧ Hid (Ro nm wx bl D) ∧ Hid (Kp [bl] w wx))
          case first =>
            cases hb2v : b2 with
            | true =>
              have hr1 := of_decide_eq_true (hb2.out.symm.trans hb2v)
              have hDs : D4.size = d.size := hH4.out.perm.1
              have ks := Lib.hid (ih2.out a i mid D4 w4 (by have := hN9.out; omega) hK4.out hO4.out hr1.1 hr1.2 (by have := hN9.out; omega) hDs hH4.out.l1 hH4.out.l2 hH4.out.tl)
              replace hDs := Lib.hid hDs; clear hr1; replace hb2v := Lib.hid hb2v
              go_wp2_with fail
              refine ks.out.mono ?_
              rintro _ w5 ⟨rfl, ⟨D5, hM5, hO5⟩, hK5⟩
              have hH5 := Lib.hid (hH4.out.merged (by have := hN9.out; omega) (by have := hN9.out; omega) (by have := hN9.out; omega) hM5)
              replace hO5 := Lib.hid hO5
              have hK6 := Lib.hid (kp_trans hK4.out hK5)
              clear hK5 hM5 ks
              go_wp2_with fail
              go_meet
              exact ⟨D5, hH5, hO5, hK6⟩
            | false =>
              have hr1 := of_decide_eq_false (hb2.out.symm.trans hb2v)
              have hH5 := Lib.hid (hH4.out.still (by omega) (by have := hN9.out; omega) (by have := hN9.out; omega))
              clear hr1; replace hb2v := Lib.hid hb2v
              go_wp2_with fail
              go_meet
              exact ⟨D4, hH5, hO4, hK4⟩
          case rest =>
          obtain ⟨D5, hH5, hO5, hK5⟩ := hcut
          obtain ⟨w5, hw5⟩ : ∃ z, z = wc := ⟨_, rfl⟩
          subst hw5
          clear hH4 hO4 hK4 hb2
          obtain ⟨b3, hb3⟩ : ∃ t, t = decide (mid < e ∧ e < b) := ⟨_, rfl⟩
          replace hb3 := Lib.hid hb3
          go_upto_region 43 with fail
          refine sreg43 mid e b b3 hb3.out w5 ?_
          intros
          cases hb3v : b3 with
          | true =>
            have hr1 := of_decide_eq_true (hb3.out.symm.trans hb3v)
            have hDs : D5.size = d.size := hH5.out.perm.1
            have ks := Lib.hid (ih2.out mid e b D5 w5 (by have := hN9.out; omega) hK5.out hO5.out hr1.1 hr1.2 (by have := hN9.out; omega) hDs hH5.out.r1 hH5.out.r2 hH5.out.rt)
            replace hDs := Lib.hid hDs; clear hr1; replace hb3v := Lib.hid hb3v
            go_wp2_with fail
            refine ks.out.mono ?_
            rintro _ w7 ⟨rfl, ⟨D7, hM7, hO7⟩, hK7⟩
            have hM8 := Lib.hid (hH5.out.merged (by have := hN9.out; omega) (by have := hN9.out; omega) hM7)
            replace hO7 := Lib.hid hO7
            have hK8 := Lib.hid (kp_trans hK5.out hK7)
            clear hK7 hM7 ks
            go_wp2
            go_end0
            exact ⟨rfl, ⟨D7, hM8.out, hO7.out⟩, hK8.out⟩
          | false =>
            have hr1 := of_decide_eq_false (hb3.out.symm.trans hb3v)
            have hM8 := Lib.hid (hH5.out.still (by omega) (by have := hN9.out; omega) (by have := hN9.out; omega))
            clear hr1; replace hb3v := Lib.hid hb3v
            go_wp2
            go_end0
            exact ⟨rfl, ⟨D5, hM8.out, hO5.out⟩, hK5.out⟩
end St
end Go.Proofs.YtpmlhgmmobpilaaGreatDoor

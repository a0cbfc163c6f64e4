/- Texts that the proof needs: MonNames, MonBest, MonKeys, MonValid, MonFind, RatFloor, RatDig, MonRoundP, MonRound. -/
import Derived.DeepKeys4
import Derived.LaidEql
import Derived.Test.YtpmlhgmmobpilaaGreatDoorKtA
import Derived.Test.YtpmlhgmmobpilaaGreatDoorKtB
import Derived.Test.YtpmlhgmmobpilaaGreatDoorKtC
import Derived.Test.YtpmlhgmmobpilaaGreatDoorKtD
namespace Go.Proofs.YtpmlhgmmobpilaaGreatDoor
open Go.RowKit Go.Shelf
namespace Mo
open Nt Ci
set_option maxRecDepth 100000 in
set_option maxHeartbeats 4000000 in
theorem isCurrency_w (s : ByteArray) (w : World) (hs : s.size ≤ 9223372036854775807) :
    Calls Tryz.prog 59 #[.string s] w fun e w' => e = .returned (.bool (identB s)) ∧ w' = w := by
  have HB := Lib.hid (fun (k : Nat) (h : k < s.size) (hb : ¬ OkAt k s[k].toNat) => ident_bad (s := s) h hb)
  have HA := Lib.hid (ident_all (s := s))
  go_enter Tryz.func59, Tryz.ntmps59
  go_wp2
  go_loop [8] (fun i => ∃ k : Nat, k ≤ s.size ∧ i = .int .i64 k ∧ Hid (∀ i (h : i < s.size), i < k → OkAt i s[i].toNat)) (fun i => s.size - (intOf i).toNat)
  case atStart => exact ⟨0, Nat.zero_le _, rfl, fun i _ h => absurd h (Nat.not_lt_zero _)⟩
  case round =>
    obtain ⟨k, hk, rfl, hI⟩ := hrel
    by_cases hlt : k < s.size
    · have hc : s[k].toNat ≤ 255 := by have := s[k].toNat_lt; omega
      have i0 : (0 : Int) ≤ (k : Int) := by omega
      have i1 : (k : Int) < (s.size : Int) := by omega
      have HN : Hid (OkAt k s[k].toNat → ∀ i (h : i < s.size), i < k + 1 → OkAt i s[i].toNat) := fun h i hi h2 => by
        by_cases e : i = k
        · subst e; exact h
        · exact hI.out i hi (by omega)
      have HB2 := Lib.hid (HB.out k hlt)
      clear hI
      by_cases e0 : k = 0
      · have b0 : ((k : Int) == 0) = true := by rw [beq_iff_eq]; omega
        have b0n : ((k : Int) != 0) = false := by rw [bne_eq_false_iff_eq]; omega
        have b3 : (k == 0) = true := by rw [beq_iff_eq]; omega
        replace e0 := Lib.hid e0
        have hcl : (s[k].toNat ≤ 47 ∧ 0 ≤ s[k].toNat) ∨ (48 ≤ s[k].toNat ∧ s[k].toNat ≤ 57) ∨ (58 ≤ s[k].toNat ∧ s[k].toNat ≤ 64) ∨ (65 ≤ s[k].toNat ∧ s[k].toNat ≤ 90) ∨ (91 ≤ s[k].toNat ∧ s[k].toNat ≤ 94) ∨ (95 ≤ s[k].toNat ∧ s[k].toNat ≤ 95) ∨ (96 ≤ s[k].toNat ∧ s[k].toNat ≤ 96) ∨ (97 ≤ s[k].toNat ∧ s[k].toNat ≤ 122) ∨ (123 ≤ s[k].toNat ∧ s[k].toNat ≤ 255) := by omega
        rcases hcl with ⟨g1, g2⟩ | ⟨g1, g2⟩ | ⟨g1, g2⟩ | ⟨g1, g2⟩ | ⟨g1, g2⟩ | ⟨g1, g2⟩ | ⟨g1, g2⟩ | ⟨g1, g2⟩ | ⟨g1, g2⟩
        · have b1 : ((s[k].toNat : Int) != 95) = true := by rw [bne_iff_ne]; omega
          have b2 : ((s[k].toNat : Int) == 95) = false := by rw [beq_eq_false_iff_ne]; omega
          have HR : Hid (identB s = false) := HB2.out (by have := e0.out; unfold OkAt; omega)
          clear HN HB2
          go_wp2
          go_ret
          exact ⟨ret_bool HR.out.symm, rfl⟩
        · have b1 : ((s[k].toNat : Int) != 95) = true := by rw [bne_iff_ne]; omega
          have b2 : ((s[k].toNat : Int) == 95) = false := by rw [beq_eq_false_iff_ne]; omega
          have HR : Hid (identB s = false) := HB2.out (by have := e0.out; unfold OkAt; omega)
          clear HN HB2
          go_wp2
          go_ret
          exact ⟨ret_bool HR.out.symm, rfl⟩
        · have b1 : ((s[k].toNat : Int) != 95) = true := by rw [bne_iff_ne]; omega
          have b2 : ((s[k].toNat : Int) == 95) = false := by rw [beq_eq_false_iff_ne]; omega
          have HR : Hid (identB s = false) := HB2.out (by have := e0.out; unfold OkAt; omega)
          clear HN HB2
          go_wp2
          go_ret
          exact ⟨ret_bool HR.out.symm, rfl⟩
        · have b1 : ((s[k].toNat : Int) != 95) = true := by rw [bne_iff_ne]; omega
          have b2 : ((s[k].toNat : Int) == 95) = false := by rw [beq_eq_false_iff_ne]; omega
          have HR := Lib.hid (HN.out (by have := e0.out; unfold OkAt; omega))
          clear HN HB2
          go_wp2
          go_round
          case rel => exact ⟨k + 1, by omega, by go_num, HR⟩
          case measure => simp [intOf]; omega
        · have b1 : ((s[k].toNat : Int) != 95) = true := by rw [bne_iff_ne]; omega
          have b2 : ((s[k].toNat : Int) == 95) = false := by rw [beq_eq_false_iff_ne]; omega
          have c1 : decide ((s[k].toNat : Int) ≤ 90) = false := by rw [decide_eq_false_iff_not]; omega
          have d1 : decide (s[k].toNat ≤ 90) = false := by rw [decide_eq_false_iff_not]; omega
          have n1 : ¬ ((s[k].toNat : Int) ≤ 90) := by omega
          have HR : Hid (identB s = false) := HB2.out (by have := e0.out; unfold OkAt; omega)
          clear HN HB2
          go_wp2
          go_ret
          exact ⟨ret_bool HR.out.symm, rfl⟩
        · have b1 : ((s[k].toNat : Int) != 95) = false := by rw [bne_eq_false_iff_eq]; omega
          have b2 : ((s[k].toNat : Int) == 95) = true := by rw [beq_iff_eq]; omega
          have c1 : decide ((s[k].toNat : Int) ≤ 90) = false := by rw [decide_eq_false_iff_not]; omega
          have d1 : decide (s[k].toNat ≤ 90) = false := by rw [decide_eq_false_iff_not]; omega
          have n1 : ¬ ((s[k].toNat : Int) ≤ 90) := by omega
          have HR : Hid (identB s = false) := HB2.out (by have := e0.out; unfold OkAt; omega)
          clear HN HB2
          go_wp2
          go_ret
          exact ⟨ret_bool HR.out.symm, rfl⟩
        · have b1 : ((s[k].toNat : Int) != 95) = true := by rw [bne_iff_ne]; omega
          have b2 : ((s[k].toNat : Int) == 95) = false := by rw [beq_eq_false_iff_ne]; omega
          have c1 : decide ((s[k].toNat : Int) ≤ 90) = false := by rw [decide_eq_false_iff_not]; omega
          have d1 : decide (s[k].toNat ≤ 90) = false := by rw [decide_eq_false_iff_not]; omega
          have n1 : ¬ ((s[k].toNat : Int) ≤ 90) := by omega
          have HR : Hid (identB s = false) := HB2.out (by have := e0.out; unfold OkAt; omega)
          clear HN HB2
          go_wp2
          go_ret
          exact ⟨ret_bool HR.out.symm, rfl⟩
        · have b1 : ((s[k].toNat : Int) != 95) = true := by rw [bne_iff_ne]; omega
          have b2 : ((s[k].toNat : Int) == 95) = false := by rw [beq_eq_false_iff_ne]; omega
          have c1 : decide ((s[k].toNat : Int) ≤ 90) = false := by rw [decide_eq_false_iff_not]; omega
          have d1 : decide (s[k].toNat ≤ 90) = false := by rw [decide_eq_false_iff_not]; omega
          have n1 : ¬ ((s[k].toNat : Int) ≤ 90) := by omega
          have HR := Lib.hid (HN.out (by have := e0.out; unfold OkAt; omega))
          clear HN HB2
          go_wp2
          go_round
          case rel => exact ⟨k + 1, by omega, by go_num, HR⟩
          case measure => simp [intOf]; omega
        · have b1 : ((s[k].toNat : Int) != 95) = true := by rw [bne_iff_ne]; omega
          have b2 : ((s[k].toNat : Int) == 95) = false := by rw [beq_eq_false_iff_ne]; omega
          have c0 : decide ((s[k].toNat : Int) ≤ 122) = false := by rw [decide_eq_false_iff_not]; omega
          have d0 : decide (s[k].toNat ≤ 122) = false := by rw [decide_eq_false_iff_not]; omega
          have n0 : ¬ ((s[k].toNat : Int) ≤ 122) := by omega
          have c1 : decide ((s[k].toNat : Int) ≤ 90) = false := by rw [decide_eq_false_iff_not]; omega
          have d1 : decide (s[k].toNat ≤ 90) = false := by rw [decide_eq_false_iff_not]; omega
          have n1 : ¬ ((s[k].toNat : Int) ≤ 90) := by omega
          have HR : Hid (identB s = false) := HB2.out (by have := e0.out; unfold OkAt; omega)
          clear HN HB2
          go_wp2
          go_ret
          exact ⟨ret_bool HR.out.symm, rfl⟩
      · have b0 : ((k : Int) == 0) = false := by rw [beq_eq_false_iff_ne]; omega
        have b0n : ((k : Int) != 0) = true := by rw [bne_iff_ne]; omega
        have b3 : (k == 0) = false := by rw [beq_eq_false_iff_ne]; omega
        have hcl : (s[k].toNat ≤ 47 ∧ 0 ≤ s[k].toNat) ∨ (48 ≤ s[k].toNat ∧ s[k].toNat ≤ 57) ∨ (58 ≤ s[k].toNat ∧ s[k].toNat ≤ 64) ∨ (65 ≤ s[k].toNat ∧ s[k].toNat ≤ 90) ∨ (91 ≤ s[k].toNat ∧ s[k].toNat ≤ 94) ∨ (95 ≤ s[k].toNat ∧ s[k].toNat ≤ 95) ∨ (96 ≤ s[k].toNat ∧ s[k].toNat ≤ 96) ∨ (97 ≤ s[k].toNat ∧ s[k].toNat ≤ 122) ∨ (123 ≤ s[k].toNat ∧ s[k].toNat ≤ 255) := by omega
        rcases hcl with ⟨g1, g2⟩ | ⟨g1, g2⟩ | ⟨g1, g2⟩ | ⟨g1, g2⟩ | ⟨g1, g2⟩ | ⟨g1, g2⟩ | ⟨g1, g2⟩ | ⟨g1, g2⟩ | ⟨g1, g2⟩
        · have b1 : ((s[k].toNat : Int) != 95) = true := by rw [bne_iff_ne]; omega
          have b2 : ((s[k].toNat : Int) == 95) = false := by rw [beq_eq_false_iff_ne]; omega
          have HR : Hid (identB s = false) := HB2.out (by unfold OkAt; omega)
          clear HN HB2
          go_wp2
          go_ret
          exact ⟨ret_bool HR.out.symm, rfl⟩
        · have b1 : ((s[k].toNat : Int) != 95) = true := by rw [bne_iff_ne]; omega
          have b2 : ((s[k].toNat : Int) == 95) = false := by rw [beq_eq_false_iff_ne]; omega
          have HR := Lib.hid (HN.out (by unfold OkAt; omega))
          clear HN HB2
          go_wp2
          go_round
          case rel => exact ⟨k + 1, by omega, by go_num, HR⟩
          case measure => simp [intOf]; omega
        · have b1 : ((s[k].toNat : Int) != 95) = true := by rw [bne_iff_ne]; omega
          have b2 : ((s[k].toNat : Int) == 95) = false := by rw [beq_eq_false_iff_ne]; omega
          have HR : Hid (identB s = false) := HB2.out (by unfold OkAt; omega)
          clear HN HB2
          go_wp2
          go_ret
          exact ⟨ret_bool HR.out.symm, rfl⟩
        · have b1 : ((s[k].toNat : Int) != 95) = true := by rw [bne_iff_ne]; omega
          have b2 : ((s[k].toNat : Int) == 95) = false := by rw [beq_eq_false_iff_ne]; omega
          have HR := Lib.hid (HN.out (by unfold OkAt; omega))
          clear HN HB2
          go_wp2
          go_round
          case rel => exact ⟨k + 1, by omega, by go_num, HR⟩
          case measure => simp [intOf]; omega
        · have b1 : ((s[k].toNat : Int) != 95) = true := by rw [bne_iff_ne]; omega
          have b2 : ((s[k].toNat : Int) == 95) = false := by rw [beq_eq_false_iff_ne]; omega
          have c1 : decide ((s[k].toNat : Int) ≤ 90) = false := by rw [decide_eq_false_iff_not]; omega
          have d1 : decide (s[k].toNat ≤ 90) = false := by rw [decide_eq_false_iff_not]; omega
          have n1 : ¬ ((s[k].toNat : Int) ≤ 90) := by omega
          have HR : Hid (identB s = false) := HB2.out (by unfold OkAt; omega)
          clear HN HB2
          go_wp2
          go_ret
          exact ⟨ret_bool HR.out.symm, rfl⟩
        · have b1 : ((s[k].toNat : Int) != 95) = false := by rw [bne_eq_false_iff_eq]; omega
          have b2 : ((s[k].toNat : Int) == 95) = true := by rw [beq_iff_eq]; omega
          have c1 : decide ((s[k].toNat : Int) ≤ 90) = false := by rw [decide_eq_false_iff_not]; omega
          have d1 : decide (s[k].toNat ≤ 90) = false := by rw [decide_eq_false_iff_not]; omega
          have n1 : ¬ ((s[k].toNat : Int) ≤ 90) := by omega
          have HR := Lib.hid (HN.out (by unfold OkAt; omega))
          clear HN HB2
          go_wp2
          go_round
          case rel => exact ⟨k + 1, by omega, by go_num, HR⟩
          case measure => simp [intOf]; omega
        · have b1 : ((s[k].toNat : Int) != 95) = true := by rw [bne_iff_ne]; omega
          have b2 : ((s[k].toNat : Int) == 95) = false := by rw [beq_eq_false_iff_ne]; omega
          have c1 : decide ((s[k].toNat : Int) ≤ 90) = false := by rw [decide_eq_false_iff_not]; omega
          have d1 : decide (s[k].toNat ≤ 90) = false := by rw [decide_eq_false_iff_not]; omega
          have n1 : ¬ ((s[k].toNat : Int) ≤ 90) := by omega
          have HR : Hid (identB s = false) := HB2.out (by unfold OkAt; omega)
          clear HN HB2
          go_wp2
          go_ret
          exact ⟨ret_bool HR.out.symm, rfl⟩
        · have b1 : ((s[k].toNat : Int) != 95) = true := by rw [bne_iff_ne]; omega
          have b2 : ((s[k].toNat : Int) == 95) = false := by rw [beq_eq_false_iff_ne]; omega
          have c1 : decide ((s[k].toNat : Int) ≤ 90) = false := by rw [decide_eq_false_iff_not]; omega
          have d1 : decide (s[k].toNat ≤ 90) = false := by rw [decide_eq_false_iff_not]; omega
          have n1 : ¬ ((s[k].toNat : Int) ≤ 90) := by omega
          have HR := Lib.hid (HN.out (by unfold OkAt; omega))
          clear HN HB2
          go_wp2
          go_round
          case rel => exact ⟨k + 1, by omega, by go_num, HR⟩
          case measure => simp [intOf]; omega
        · have b1 : ((s[k].toNat : Int) != 95) = true := by rw [bne_iff_ne]; omega
          have b2 : ((s[k].toNat : Int) == 95) = false := by rw [beq_eq_false_iff_ne]; omega
          have c0 : decide ((s[k].toNat : Int) ≤ 122) = false := by rw [decide_eq_false_iff_not]; omega
          have d0 : decide (s[k].toNat ≤ 122) = false := by rw [decide_eq_false_iff_not]; omega
          have n0 : ¬ ((s[k].toNat : Int) ≤ 122) := by omega
          have c1 : decide ((s[k].toNat : Int) ≤ 90) = false := by rw [decide_eq_false_iff_not]; omega
          have d1 : decide (s[k].toNat ≤ 90) = false := by rw [decide_eq_false_iff_not]; omega
          have n1 : ¬ ((s[k].toNat : Int) ≤ 90) := by omega
          have HR : Hid (identB s = false) := HB2.out (by unfold OkAt; omega)
          clear HN HB2
          go_wp2
          go_ret
          exact ⟨ret_bool HR.out.symm, rfl⟩
    · obtain rfl : k = s.size := by omega
      have HE : Hid (identB s = (decide (0 < s.size) && decide (s.size ≤ 24))) := HA.out fun i h => hI.out i h h
      have q0 : s.toList.isEmpty = decide (s.size = 0) := by
        rw [Lib.toList_data, Lib.size_eq]
        cases s.data.toList <;> simp
      clear hI
      by_cases h0 : s.size = 0
      · have q1 : s.toList = [] := by simpa [h0] using q0
        have q2 : (!s.toList.isEmpty) = false := by rw [q0, decide_eq_true h0]; rfl
        clear q0
        go_wp2
        go_ret
        exact ⟨ret_bool (by rw [HE.out, decide_eq_false (by omega)]; rfl), rfl⟩
      · have q2 : (!s.toList.isEmpty) = true := by rw [q0, decide_eq_false h0]; rfl
        have q1 : ¬ s.toList = [] := fun e => by rw [e] at q0; rw [decide_eq_false h0] at q0; cases q0
        clear q0
        by_cases h24 : s.size ≤ 24
        · go_wp2
          go_ret
          exact ⟨ret_bool (by rw [HE.out, decide_eq_true (by omega : 0 < s.size), decide_eq_true h24, decide_eq_true (by omega : (s.size : Int) ≤ 24)]; rfl), rfl⟩
        · go_wp2
          go_ret
          exact ⟨ret_bool (by rw [HE.out, decide_eq_true (by omega : 0 < s.size), decide_eq_false h24, decide_eq_false (by omega : ¬ (s.size : Int) ≤ 24)]; rfl), rfl⟩
set_option maxRecDepth 100000 in
theorem isDay_w (n : Int) (w : World) : Calls Tryz.prog 60 #[.int .i64 n] w fun e w' => e = .returned (.bool (dayB n)) ∧ w' = w := by
  have hd : dayB n = (decide (0 ≤ n) && decide (n ≤ 100000)) := Bool.decide_and _ _
  rw [hd]
  by_cases c1 : 0 ≤ n
  · have m1 : decide (0 ≤ n) = true := decide_eq_true c1
    by_cases c2 : n ≤ 100000
    · have m2 : decide (n ≤ 100000) = true := decide_eq_true c2
      rw [m1, m2]
      go_enter Tryz.func60, Tryz.ntmps60
      go_wp2
      go_ret
      exact ⟨rfl, rfl⟩
    · have m2 : decide (n ≤ 100000) = false := decide_eq_false c2
      rw [m1, m2]
      go_enter Tryz.func60, Tryz.ntmps60
      go_wp2
      go_ret
      exact ⟨rfl, rfl⟩
  · have m1 : decide (0 ≤ n) = false := decide_eq_false c1
    rw [m1, Bool.false_and]
    go_enter Tryz.func60, Tryz.ntmps60
    go_wp2
    go_ret
    exact ⟨rfl, rfl⟩
end Mo
end Go.Proofs.YtpmlhgmmobpilaaGreatDoor

namespace Go.Proofs.YtpmlhgmmobpilaaGreatDoor
open Go.RowKit Go.Shelf
namespace Mo
open Nt Ci
def rtL (x : Rt) : List Value := [.string x.1, .int .i64 x.2.1, .int .i64 x.2.2.1, .int .i64 x.2.2.2]
def rtV (x : Rt) : Value := .agg #[.string x.1, .int .i64 x.2.1, .int .i64 x.2.2.1, .int .i64 x.2.2.2]
/-- The slice at A has the rates l. -/
def InRt (W : World) (A : Option Addr) (l : List Rt) : Prop :=
  0 < l.length → ∃ b off, A = some ⟨b, off, none⟩ ∧ b < W.heap.size ∧ ∀ j (h : j < l.length), W.cell? ⟨b, off + j * 4, none⟩ = some (.string l[j].1) ∧ W.cell? ⟨b, off + j * 4 + 1, none⟩ = some (.int .i64 l[j].2.1) ∧
    W.cell? ⟨b, off + j * 4 + 2, none⟩ = some (.int .i64 l[j].2.2.1) ∧ W.cell? ⟨b, off + j * 4 + 3, none⟩ = some (.int .i64 l[j].2.2.2)
theorem InRt.below {W W' : World} {A : Option Addr} {l : List Rt} (h : InRt W A l) (hb : Below W.heap.size W W') : InRt W' A l := fun h0 => by
  obtain ⟨b, off, e, hl, hc⟩ := h h0
  refine ⟨b, off, e, Nat.lt_of_lt_of_le hl hb.size, fun j hj => ?_⟩
  obtain ⟨h1, h2, h3, h4⟩ := hc j hj
  have hk : W'.heap[b]? = W.heap[b]? := hb.block b hl
  exact ⟨(World.cell?_of_block (a := ⟨b, off + j * 4, none⟩) hk).trans h1, (World.cell?_of_block (a := ⟨b, off + j * 4 + 1, none⟩) hk).trans h2, (World.cell?_of_block (a := ⟨b, off + j * 4 + 2, none⟩) hk).trans h3, (World.cell?_of_block (a := ⟨b, off + j * 4 + 3, none⟩) hk).trans h4⟩
theorem InRt.nil (W : World) : InRt W none [] := fun h => absurd h (by simp)
/-- The sizes of rates as arguments. -/
def RtSz (l : List Rt) : Prop := ∀ x, x ∈ l → x.1.size ≤ 140737488355328 ∧ (-9223372036854775808 ≤ x.2.1 ∧ x.2.1 ≤ 9223372036854775807) ∧ (-9223372036854775808 ≤ x.2.2.1 ∧ x.2.2.1 ≤ 9223372036854775807) ∧ (-9223372036854775808 ≤ x.2.2.2 ∧ x.2.2.2 ≤ 9223372036854775807)
theorem toList_eq {a b : ByteArray} : (a.toList == b.toList) = decide (a = b) := by
  rw [Bool.eq_iff_iff, beq_iff_eq, decide_eq_true_iff, Lib.toList_data, Lib.toList_data]
  constructor
  · intro h
    rcases a with ⟨a⟩
    rcases b with ⟨b⟩
    simp only [Array.toList_inj] at h
    rw [h]
  · intro h; rw [h]
set_option maxRecDepth 100000 in
theorem known_any (x : Rt) (cb db : Nat) (cur : ByteArray) (day : Int) (w : World) (hc : w.cell? ⟨cb, 0, none⟩ = some (.string cur)) (hd : w.cell? ⟨db, 0, none⟩ = some (.int .i64 day)) :
    Calls Tryz.prog 61 #[rtV x, .pointer (some ⟨cb, 0, none⟩), .pointer (some ⟨db, 0, none⟩)] w fun e w' => e = .returned (.bool (knownB cur day x)) ∧ Below w.heap.size w w' := by
  obtain ⟨c, d, n, m⟩ := x
  have hcl := World.block_lt_of_cell? w _ hc
  have hdl := World.block_lt_of_cell? w _ hd
  have hE := @toList_eq c cur
  have hk : knownB cur day (c, d, n, m) = (decide (c = cur) && decide (d ≤ day)) := rfl
  rw [hk]
  unfold rtV
  dsimp only
  cases h1 : decide (c = cur) with
  | false =>
    rw [h1] at hE
    go_enter Tryz.func61, Tryz.ntmps61
    go_wp2
    go_ret
    exact ⟨rfl, (Below.refl _ w).alloc (Nat.le_refl _) _⟩
  | true =>
    rw [h1] at hE
    go_enter Tryz.func61, Tryz.ntmps61
    go_wp2
    go_ret
    exact ⟨rfl, (Below.refl _ w).alloc (Nat.le_refl _) _⟩
set_option maxRecDepth 100000 in
theorem later_any (x y : Rt) (w : World) : Calls Tryz.prog 63 #[rtV x, rtV y] w fun e w' => e = .returned (.bool (decide (y.2.1 < x.2.1))) ∧ Below w.heap.size w w' := by
  obtain ⟨c, d, n, m⟩ := x
  obtain ⟨c2, d2, n2, m2⟩ := y
  unfold rtV
  dsimp only
  go_enter Tryz.func63, Tryz.ntmps63
  go_wp2
  go_ret
  exact ⟨rfl, ((Below.refl _ w).alloc (Nat.le_refl _) _).alloc (by simp) _⟩
/-- Block b has the rate x. -/
def RB (W : World) (b : Nat) (x : Rt) : Prop := Bk W b 42 (rtL x)
set_option maxRecDepth 100000 in
set_option maxHeartbeats 8000000 in
theorem best_any (l : List Rt) (A : Option Addr) (cap cb db : Nat) (cur : ByteArray) (day : Int) (w : World) (hl : InRt w A l) (hll : l.length ≤ 140737488355328) (hc : w.cell? ⟨cb, 0, none⟩ = some (.string cur)) (hd : w.cell? ⟨db, 0, none⟩ = some (.int .i64 day)) :
    Calls Tryz.prog 62 #[.slice A l.length cap, .func (.func 61) #[] #[.pointer (some ⟨cb, 0, none⟩), .pointer (some ⟨db, 0, none⟩)], .func (.func 63) #[] #[]] w fun e w' => e = .returned (.tuple #[rtV ((bestR l cur day).getD noR), .bool (bestR l cur day).isSome]) ∧ Below w.heap.size w w' := by
  have kI : Hid (∀ (x : Rt) W, Below w.heap.size w W → Calls Tryz.prog 61 #[rtV x, .pointer (some ⟨cb, 0, none⟩), .pointer (some ⟨db, 0, none⟩)] W fun e w' => e = .returned (.bool (knownB cur day x)) ∧ Below W.heap.size W w') := fun x W hW => known_any x cb db cur day W ((World.cell?_of_block (a := ⟨cb, 0, none⟩) (hW.block cb (World.block_lt_of_cell? w _ hc))).trans hc) ((World.cell?_of_block (a := ⟨db, 0, none⟩) (hW.block db (World.block_lt_of_cell? w _ hd))).trans hd)
  have hB0 : Hid (Below w.heap.size w (w.alloc (.cells #[.string ⟨#[]⟩, .int .i64 0, .int .i64 0, .int .i64 0] 42))) := (Below.refl _ w).alloc (Nat.le_refl _) _
  have hO0 : Hid (RB (w.alloc (.cells #[.string ⟨#[]⟩, .int .i64 0, .int .i64 0, .int .i64 0] 42)) w.heap.size ((bestR (l.take 0) cur day).getD noR)) := Bk.new w _ _
  clear hc hd
  replace hl := Lib.hid hl
  go_enter Tryz.func62, Tryz.ntmps62
  go_wp2
  go_loopw [7, 12] (fun fx ix wr => ∃ (k : Nat), k ≤ l.length ∧ ix = .int .i64 (k : Int) ∧ fx = .bool (bestR (l.take k) cur day).isSome ∧ Hid (Below w.heap.size w wr) ∧ Hid (RB wr w.heap.size ((bestR (l.take k) cur day).getD noR))) (fun _ ix _ => l.length - (intOf ix).toNat)
  case atStart => exact ⟨0, Nat.zero_le _, rfl, rfl, hB0, hO0⟩
  case round =>
    obtain ⟨k, hk, rfl, rfl, hB, hO⟩ := hrel
    clear hB0 hO0
    obtain ⟨wz, rfl⟩ : ∃ z, z = wr := ⟨_, rfl⟩
    by_cases hlt : k < l.length
    · obtain ⟨b, off, rfl, hbl, hcc⟩ := (hl.out.below hB.out) (by omega)
      obtain ⟨e1, e2, e3, e4⟩ := hcc k hlt
      have hst := best_take (cur := cur) (day := day) hlt
      have k0 : (0 : Int) ≤ (k : Int) := by omega
      have k1 : (k : Int) < (l.length : Int) := by omega
      obtain ⟨x, hx⟩ : ∃ x, x = l[k] := ⟨_, rfl⟩
      rw [← hx] at e1 e2 e3 e4 hst
      replace hx := Lib.hid hx
      obtain ⟨nx, hnx⟩ : ∃ y, y = bestR (l.take (k + 1)) cur day := ⟨_, rfl⟩
      rw [← hnx] at hst
      replace hnx := Lib.hid hnx
      generalize bestR (l.take k) cur day = bo at hO hst ⊢
      obtain ⟨c, d, n, m⟩ := x
      replace e1 : wz.cell? ⟨b, off + k * 4, none⟩ = some (.string c) := e1; replace e2 : wz.cell? ⟨b, off + k * 4 + 1, none⟩ = some (.int .i64 d) := e2; replace e3 : wz.cell? ⟨b, off + k * 4 + 2, none⟩ = some (.int .i64 n) := e3; replace e4 : wz.cell? ⟨b, off + k * 4 + 3, none⟩ = some (.int .i64 m) := e4
      clear hcc
      have hB7 : Hid (Below w.heap.size w (wz.alloc (.cells #[.string c, .int .i64 d, .int .i64 n, .int .i64 m] 42))) := hB.out.alloc hB.out.size _
      have hO7 : Hid (RB (wz.alloc (.cells #[.string c, .int .i64 d, .int .i64 n, .int .i64 m] 42)) w.heap.size (bo.getD noR)) := hO.out.alloc _
      have hx7 : Hid (Bk (wz.alloc (.cells #[.string c, .int .i64 d, .int .i64 n, .int .i64 m] 42)) wz.heap.size 42 [.string c, .int .i64 d, .int .i64 n, .int .i64 m]) := Bk.new wz _ _
      have kn := Lib.hid (kI.out (c, d, n, m) (wz.alloc (.cells #[.string c, .int .i64 d, .int .i64 n, .int .i64 m] 42)) hB7.out)
      have hob : w.heap.size < wz.heap.size := hO.out.lt
      clear hO
      obtain ⟨kb, hkb⟩ : ∃ y, y = knownB cur day (c, d, n, m) := ⟨_, rfl⟩
      rw [← hkb] at kn
      replace kn : Hid (Calls Tryz.prog 61 #[.agg #[.string c, .int .i64 d, .int .i64 n, .int .i64 m], .pointer (some ⟨cb, 0, none⟩), .pointer (some ⟨db, 0, none⟩)] (wz.alloc (.cells #[.string c, .int .i64 d, .int .i64 n, .int .i64 m] 42)) fun e w' => e = .returned (.bool kb) ∧ Below ((wz.alloc (.cells #[.string c, .int .i64 d, .int .i64 n, .int .i64 m] 42))).heap.size (wz.alloc (.cells #[.string c, .int .i64 d, .int .i64 n, .int .i64 m] 42)) w') := kn
      have hcl : knownB cur day (c, d, n, m) = kb := hkb.symm
      replace hkb := Lib.hid hkb
      cases kb with
      | false =>
        have hnx2 : nx = bo := by rw [hst]; cases bo with | none => exact if_neg (by rw [hcl]; decide) | some y => exact if_neg (fun h => by rw [hcl] at h; cases h.1)
        clear hst hcl
        go_wp2_with fail
        refine kn.out.mono ?_
        rintro e w2 ⟨rfl, hb⟩
        have hB2 := Lib.hid (hB7.out.trans (hb.mono hB7.out.size)); have hO2 := Lib.hid (Bk.below hO7.out hb); have hx2 := Lib.hid (hx7.out.below hb)
        clear hb hx7 e1 e2 e3 e4 hbl
        go_wp2
        refine ⟨⟨k + 1, by omega, by go_num, ?_, hB2, ?_⟩, by simp only [intOf]; omega⟩
        · rw [← hnx.out, hnx2]
        · rw [← hnx.out, hnx2]; exact hO2
      | true =>
        cases bo with
        | none =>
          have hnx2 : nx = some (c, d, n, m) := by rw [hst]; exact if_pos hcl
          clear hst hcl
          go_wp2_with fail
          refine kn.out.mono ?_
          rintro e w2 ⟨rfl, hb⟩
          have hB2 := Lib.hid (hB7.out.trans (hb.mono hB7.out.size)); have hO2 := Lib.hid (Bk.below hO7.out hb); have hx2 := Lib.hid (hx7.out.below hb)
          clear hb hx7 e1 e2 e3 e4 hbl
          have y0 := hx2.out.cell (j := 0) rfl
          have y1 := hx2.out.cell (j := 1) rfl
          have y2 := hx2.out.cell (j := 2) rfl
          have y3 := hx2.out.cell (j := 3) rfl
          have y9 := hx2.out.lt
          have hB5 : Hid (Below w.heap.size w ((((w2.setCell ⟨w.heap.size, 0, none⟩ (.string c)).setCell ⟨w.heap.size, 1, none⟩ (.int .i64 d)).setCell ⟨w.heap.size, 2, none⟩ (.int .i64 n)).setCell ⟨w.heap.size, 3, none⟩ (.int .i64 m))) := (((hB2.out.setCell (p := ⟨w.heap.size, 0, none⟩) (Nat.le_refl _) _).setCell (p := ⟨w.heap.size, 1, none⟩) (Nat.le_refl _) _).setCell (p := ⟨w.heap.size, 2, none⟩) (Nat.le_refl _) _).setCell (p := ⟨w.heap.size, 3, none⟩) (Nat.le_refl _) _
          have hO5 : Hid (RB ((((w2.setCell ⟨w.heap.size, 0, none⟩ (.string c)).setCell ⟨w.heap.size, 1, none⟩ (.int .i64 d)).setCell ⟨w.heap.size, 2, none⟩ (.int .i64 n)).setCell ⟨w.heap.size, 3, none⟩ (.int .i64 m)) w.heap.size (c, d, n, m)) := (((Bk.set hO2.out 0 (.string c)).set 1 (.int .i64 d)).set 2 (.int .i64 n)).set 3 (.int .i64 m)
          have o0 := hO2.out.cell (j := 0) rfl
          have o1 := hO2.out.cell (j := 1) rfl
          have o2 := hO2.out.cell (j := 2) rfl
          have o3 := hO2.out.cell (j := 3) rfl
          have o9 := hO2.out.lt
          have f0 := hO2.out.frozen 0
          have f1 := hO2.out.frozen 1
          have f2 := hO2.out.frozen 2
          have f3 := hO2.out.frozen 3
          go_wp2
          refine ⟨⟨k + 1, by omega, by go_num, ?_, hB5, ?_⟩, by simp only [intOf]; omega⟩
          · rw [← hnx.out, hnx2]; rfl
          · rw [← hnx.out, hnx2]; exact hO5
        | some y =>
          obtain ⟨c2, d2, n2, m2⟩ := y
          replace hst : nx = if knownB cur day (c, d, n, m) = true ∧ d2 < d then some (c, d, n, m) else some (c2, d2, n2, m2) := hst
          go_wp2_with fail
          refine kn.out.mono ?_
          rintro e w2 ⟨rfl, hb⟩
          have hB2 := Lib.hid (hB7.out.trans (hb.mono hB7.out.size)); have hO2 := Lib.hid (Bk.below hO7.out hb); have hx2 := Lib.hid (hx7.out.below hb)
          clear hb hx7 e1 e2 e3 e4 hbl
          have y0 := hx2.out.cell (j := 0) rfl
          have y1 := hx2.out.cell (j := 1) rfl
          have y2 := hx2.out.cell (j := 2) rfl
          have y3 := hx2.out.cell (j := 3) rfl
          have y9 := hx2.out.lt
          have o0 : w2.cell? ⟨w.heap.size, 0, none⟩ = some (.string c2) := hO2.out.cell (j := 0) rfl
          have o1 : w2.cell? ⟨w.heap.size, 1, none⟩ = some (.int .i64 d2) := hO2.out.cell (j := 1) rfl
          have o2 : w2.cell? ⟨w.heap.size, 2, none⟩ = some (.int .i64 n2) := hO2.out.cell (j := 2) rfl
          have o3 : w2.cell? ⟨w.heap.size, 3, none⟩ = some (.int .i64 m2) := hO2.out.cell (j := 3) rfl
          have o9 := hO2.out.lt
          have k2 : Hid (Calls Tryz.prog 63 #[.agg #[.string c, .int .i64 d, .int .i64 n, .int .i64 m], .agg #[.string c2, .int .i64 d2, .int .i64 n2, .int .i64 m2]] w2 fun e w' => e = .returned (.bool (decide (d2 < d))) ∧ Below w2.heap.size w2 w') := later_any (c, d, n, m) (c2, d2, n2, m2) w2
          by_cases hdd : d2 < d
          · rw [decide_eq_true hdd] at k2
            have hnx2 : nx = some (c, d, n, m) := by rw [hst]; exact if_pos ⟨hcl, hdd⟩
            clear hst hcl
            replace hdd := Lib.hid hdd
            go_wp2_with fail
            refine k2.out.mono ?_
            rintro e w3 ⟨rfl, hb⟩
            have hB3 := Lib.hid (hB2.out.trans (hb.mono hB2.out.size)); have hO3 := Lib.hid (Bk.below hO2.out hb); have hx3 := Lib.hid (hx2.out.below hb)
            clear hb y0 y1 y2 y3 y9 o0 o1 o2 o3 o9
            have y0 := hx3.out.cell (j := 0) rfl
            have y1 := hx3.out.cell (j := 1) rfl
            have y2 := hx3.out.cell (j := 2) rfl
            have y3 := hx3.out.cell (j := 3) rfl
            have y9 := hx3.out.lt
            have hB5 : Hid (Below w.heap.size w ((((w3.setCell ⟨w.heap.size, 0, none⟩ (.string c)).setCell ⟨w.heap.size, 1, none⟩ (.int .i64 d)).setCell ⟨w.heap.size, 2, none⟩ (.int .i64 n)).setCell ⟨w.heap.size, 3, none⟩ (.int .i64 m))) := (((hB3.out.setCell (p := ⟨w.heap.size, 0, none⟩) (Nat.le_refl _) _).setCell (p := ⟨w.heap.size, 1, none⟩) (Nat.le_refl _) _).setCell (p := ⟨w.heap.size, 2, none⟩) (Nat.le_refl _) _).setCell (p := ⟨w.heap.size, 3, none⟩) (Nat.le_refl _) _
            have hO5 : Hid (RB ((((w3.setCell ⟨w.heap.size, 0, none⟩ (.string c)).setCell ⟨w.heap.size, 1, none⟩ (.int .i64 d)).setCell ⟨w.heap.size, 2, none⟩ (.int .i64 n)).setCell ⟨w.heap.size, 3, none⟩ (.int .i64 m)) w.heap.size (c, d, n, m)) := (((Bk.set hO3.out 0 (.string c)).set 1 (.int .i64 d)).set 2 (.int .i64 n)).set 3 (.int .i64 m)
            have o0 := hO3.out.cell (j := 0) rfl
            have o1 := hO3.out.cell (j := 1) rfl
            have o2 := hO3.out.cell (j := 2) rfl
            have o3 := hO3.out.cell (j := 3) rfl
            have o9 := hO3.out.lt
            have f0 := hO3.out.frozen 0
            have f1 := hO3.out.frozen 1
            have f2 := hO3.out.frozen 2
            have f3 := hO3.out.frozen 3
            go_wp2
            refine ⟨⟨k + 1, by omega, by go_num, ?_, hB5, ?_⟩, by simp only [intOf]; omega⟩
            · rw [← hnx.out, hnx2]; rfl
            · rw [← hnx.out, hnx2]; exact hO5
          · rw [decide_eq_false hdd] at k2
            have hnx2 : nx = some (c2, d2, n2, m2) := by rw [hst]; exact if_neg fun h => hdd h.2
            clear hst hcl
            replace hdd := Lib.hid hdd
            go_wp2_with fail
            refine k2.out.mono ?_
            rintro e w3 ⟨rfl, hb⟩
            have hB3 := Lib.hid (hB2.out.trans (hb.mono hB2.out.size)); have hO3 := Lib.hid (Bk.below hO2.out hb); have hx3 := Lib.hid (hx2.out.below hb)
            clear hb y0 y1 y2 y3 y9 o0 o1 o2 o3 o9
            go_wp2
            refine ⟨⟨k + 1, by omega, by go_num, ?_, hB3, ?_⟩, by simp only [intOf]; omega⟩
            · rw [← hnx.out, hnx2]; rfl
            · rw [← hnx.out, hnx2]; exact hO3
    · obtain rfl : k = l.length := by omega
      rw [List.take_length] at hO ⊢
      obtain ⟨bo, hbo⟩ : ∃ y, y = bestR l cur day := ⟨_, rfl⟩
      rw [← hbo] at hO ⊢
      obtain ⟨y, hy⟩ : ∃ y, y = bo.getD noR := ⟨_, rfl⟩
      rw [← hy] at hO
      obtain ⟨c, d, n, m⟩ := y
      have hfin : Hid (Ending.returned (.tuple #[.agg #[.string c, .int .i64 d, .int .i64 n, .int .i64 m], .bool bo.isSome]) = .returned (.tuple #[rtV ((bestR l cur day).getD noR), .bool (bestR l cur day).isSome])) := by rw [← hbo, ← hy]; rfl
      replace hy := Lib.hid hy; replace hbo := Lib.hid hbo
      have o0 : wz.cell? ⟨w.heap.size, 0, none⟩ = some (.string c) := hO.out.cell (j := 0) rfl; have f0 := hO.out.frozen 0
      have o1 : wz.cell? ⟨w.heap.size, 1, none⟩ = some (.int .i64 d) := hO.out.cell (j := 1) rfl; have f1 := hO.out.frozen 1
      have o2 : wz.cell? ⟨w.heap.size, 2, none⟩ = some (.int .i64 n) := hO.out.cell (j := 2) rfl; have f2 := hO.out.frozen 2
      have o3 : wz.cell? ⟨w.heap.size, 3, none⟩ = some (.int .i64 m) := hO.out.cell (j := 3) rfl; have f3 := hO.out.frozen 3
      have o9 := hO.out.lt
      have hB5 : Hid (Below w.heap.size w ((((wz.setCell ⟨w.heap.size, 0, none⟩ (.string c)).setCell ⟨w.heap.size, 1, none⟩ (.int .i64 d)).setCell ⟨w.heap.size, 2, none⟩ (.int .i64 n)).setCell ⟨w.heap.size, 3, none⟩ (.int .i64 m))) := (((hB.out.setCell (p := ⟨w.heap.size, 0, none⟩) (Nat.le_refl _) _).setCell (p := ⟨w.heap.size, 1, none⟩) (Nat.le_refl _) _).setCell (p := ⟨w.heap.size, 2, none⟩) (Nat.le_refl _) _).setCell (p := ⟨w.heap.size, 3, none⟩) (Nat.le_refl _) _
      have hO5 : Hid (RB ((((wz.setCell ⟨w.heap.size, 0, none⟩ (.string c)).setCell ⟨w.heap.size, 1, none⟩ (.int .i64 d)).setCell ⟨w.heap.size, 2, none⟩ (.int .i64 n)).setCell ⟨w.heap.size, 3, none⟩ (.int .i64 m)) w.heap.size (c, d, n, m)) := (((Bk.set hO.out 0 (.string c)).set 1 (.int .i64 d)).set 2 (.int .i64 n)).set 3 (.int .i64 m)
      go_wp2
      have s0 : ((((wz.setCell ⟨w.heap.size, 0, none⟩ (.string c)).setCell ⟨w.heap.size, 1, none⟩ (.int .i64 d)).setCell ⟨w.heap.size, 2, none⟩ (.int .i64 n)).setCell ⟨w.heap.size, 3, none⟩ (.int .i64 m)).cell? ⟨w.heap.size, 0, none⟩ = some (.string c) := hO5.out.cell (j := 0) rfl
      have s1 : ((((wz.setCell ⟨w.heap.size, 0, none⟩ (.string c)).setCell ⟨w.heap.size, 1, none⟩ (.int .i64 d)).setCell ⟨w.heap.size, 2, none⟩ (.int .i64 n)).setCell ⟨w.heap.size, 3, none⟩ (.int .i64 m)).cell? ⟨w.heap.size, 1, none⟩ = some (.int .i64 d) := hO5.out.cell (j := 1) rfl
      have s2 : ((((wz.setCell ⟨w.heap.size, 0, none⟩ (.string c)).setCell ⟨w.heap.size, 1, none⟩ (.int .i64 d)).setCell ⟨w.heap.size, 2, none⟩ (.int .i64 n)).setCell ⟨w.heap.size, 3, none⟩ (.int .i64 m)).cell? ⟨w.heap.size, 2, none⟩ = some (.int .i64 n) := hO5.out.cell (j := 2) rfl
      have s3 : ((((wz.setCell ⟨w.heap.size, 0, none⟩ (.string c)).setCell ⟨w.heap.size, 1, none⟩ (.int .i64 d)).setCell ⟨w.heap.size, 2, none⟩ (.int .i64 n)).setCell ⟨w.heap.size, 3, none⟩ (.int .i64 m)).cell? ⟨w.heap.size, 3, none⟩ = some (.int .i64 m) := hO5.out.cell (j := 3) rfl
      have s9 := hO5.out.lt
      (try simp only [Exit.inBlock, Exit.then])
      refine bodyPost_ret (v := .tuple #[.agg #[.string c, .int .i64 d, .int .i64 n, .int .i64 m], .bool bo.isSome]) (by simp [results, Tryz.results62, go_sem, s0, s1, s2, s3]) rfl ⟨hfin.out, hB5.out⟩
end Mo
end Go.Proofs.YtpmlhgmmobpilaaGreatDoor

namespace Go.Proofs.YtpmlhgmmobpilaaGreatDoor
open Go.RowKit Go.Shelf
namespace Mo
open Nt Ci
/-- The keys of Valid's map: currency and day. -/
def Kd := { x : ByteArray × Int // x.1.size ≤ maxLen ∧ -9223372036854775808 ≤ x.2 ∧ x.2 ≤ 9223372036854775807 }
instance : DecidableEq Kd := fun a b => decidable_of_iff (a.1 = b.1) Subtype.ext_iff.symm
def κd (x : Kd) : Lit := .string (keyBytes [.string x.1.1.data.toList, .int .i64 x.1.2])
theorem lits2 (P : Program) (m : Nat) (t ts ti : TypeId) (f1 f2 : Field) (hu : P.underlying t = some (.struct #[f1, f2])) (hc : P.cellsOf t = 2) (n1 : f1.name ≠ "_") (n2 : f2.name ≠ "_") (o1 : f1.offset = 0) (o2 : f2.offset = 1) (t1 : f1.type = ts) (t2 : f2.type = ti)
    (us : P.underlying ts = some .string) (ui : P.underlying ti = some (.int .i64)) (c1 : P.cellsOf ts = 1) (c2 : P.cellsOf ti = 1) (s : ByteArray) (d : Int) (hs : s.size ≤ maxLen) (hw : (Lit.int .i64 d).wf = true) :
    P.keyLits (m + 2) t [.string s, .int .i64 d] = some [.string s.data.toList, .int .i64 d] := by
  subst t1
  subst t2
  simp [Program.keyLits, hu, hc, n1, n2, o1, o2, us, ui, c1, c2, hs, hw]
theorem keyOf_lits {P : Program} {t : TypeId} {fs : Array Field} {cs : Array Value} {ls : List Lit} {m : Nat} (hu : P.underlying t = some (.struct fs)) (hk : P.keyType t = true) (hf : (Value.agg cs).formed P t = true) (hm : P.types.size + 1 = m + 2) (hl : P.keyLits (m + 2) t (Value.agg cs).cells.toList = some ls) :
    keyOf P t (.agg cs) = some (.string (keyBytes ls)) := by
  unfold keyOf
  rw [hu]
  simp only [hk, hf, Bool.and_true, if_true, hm, hl, Option.map_some]
theorem laidOutP : laidOutB Tryz.prog = true := by kernel_rfl
theorem rowD : (90 : TypeId) < Tryz.prog.types.size := of_decide_eq_true (by kernel_rfl)
theorem wideD : (match Tryz.prog.underlying 90 with | some (.array _ _) | some (.struct _) => true | _ => false) = true := by rw [Tryz.underlying90]
theorem deepD : Tryz.prog.keyTypeAt 2 90 = true := by kernel_rfl
set_option maxRecDepth 100000 in
theorem lawD : WideMaps.KeyLaw Tryz.prog 90 := deep_law_laid laidOutP (m := 2) (Nat.le_of_ble_eq_true rfl) rowD deepD wideD
theorem keyedD : Go.Maps.Keyed Tryz.prog 90 := Go.Maps.Keyed.of_law lawD
theorem cellsD : Tryz.prog.cellsOf 90 = 2 := by kernel_rfl
theorem cellsS : Tryz.prog.cellsOf 9 = 1 := by kernel_rfl
theorem cellsI : Tryz.prog.cellsOf 3 = 1 := by kernel_rfl
theorem keyTypeD : Tryz.prog.keyType 90 = true := by kernel_rfl
theorem sizeD : ∃ m, Tryz.prog.types.size + 1 = m + 2 := by
  have h := rowD
  generalize Tryz.prog.types.size = n at h
  exact ⟨n - 1, by have := Nat.lt_of_le_of_lt (Nat.zero_le _) h; omega⟩
theorem key_d (x : Kd) : keyOf Tryz.prog 90 (.agg #[.string x.1.1, .int .i64 x.1.2]) = some (κd x) := by
  obtain ⟨⟨s, d⟩, h1, h2, h3⟩ := x
  have hf : (Value.agg #[.string s, .int .i64 d]).formed Tryz.prog 90 = true := by simp [Value.formed, Tryz.underlying90, cellsD]
  have hw : (Lit.int .i64 d).wf = true := WalkArith.wf_i64 ⟨h2, h3⟩
  obtain ⟨m, hm⟩ := sizeD
  exact keyOf_lits Tryz.underlying90 keyTypeD hf hm (lits2 Tryz.prog m 90 9 3 _ _ Tryz.underlying90 cellsD (by decide) (by decide) rfl rfl rfl rfl Tryz.underlying9 Tryz.underlying3 cellsS cellsI s d h1 hw)
theorem κd_inj : ∀ x y : Kd, κd x = κd y → x = y := fun x y h => by
  have h1 := keyedD.inj (key_d x) (h ▸ key_d y)
  obtain ⟨⟨s, d⟩, hx⟩ := x
  obtain ⟨⟨t, e⟩, hy⟩ := y
  simp only [Value.agg.injEq, Array.mk.injEq, List.cons.injEq, Value.string.injEq, Value.int.injEq, true_and, and_true] at h1
  obtain ⟨rfl, rfl⟩ := h1
  rfl
theorem zeroB (w : World) : (zeroValue 4).run Tryz.prog w = .ok (.bool false) w := by kernel_rfl
end Mo
end Go.Proofs.YtpmlhgmmobpilaaGreatDoor

namespace Go.Proofs.YtpmlhgmmobpilaaGreatDoor
open Go.RowKit Go.Shelf
namespace Mo
open Nt Ci
theorem pos_w (n : Int) (w : World) : Calls Tryz.prog 64 #[.int .i64 n] w fun e w' => e = .returned (.bool (posB n)) ∧ w' = w := by
  have hd : posB n = (decide (1 ≤ n) && decide (n ≤ 1000000)) := Bool.decide_and _ _
  rw [hd]
  by_cases c1 : 1 ≤ n
  · have m1 : decide (1 ≤ n) = true := decide_eq_true c1
    by_cases c2 : n ≤ 1000000
    · have m2 : decide (n ≤ 1000000) = true := decide_eq_true c2
      rw [m1, m2]
      go_enter Tryz.func64, Tryz.ntmps64
      go_wp2
      go_ret
      exact ⟨rfl, rfl⟩
    · have m2 : decide (n ≤ 1000000) = false := decide_eq_false c2
      rw [m1, m2]
      go_enter Tryz.func64, Tryz.ntmps64
      go_wp2
      go_ret
      exact ⟨rfl, rfl⟩
  · have m1 : decide (1 ≤ n) = false := decide_eq_false c1
    rw [m1, Bool.false_and]
    go_enter Tryz.func64, Tryz.ntmps64
    go_wp2
    go_ret
    exact ⟨rfl, rfl⟩
/-- What is in Valid's map ahead of rate k. -/
def seenF (l : List Rt) (k : Nat) : Kd → Option Value := fun x => if (l.take k).any (fun y => decide (y.1 = x.1.1) && decide (y.2.1 = x.1.2)) = true then some (.bool true) else none
theorem seenF_succ {l : List Rt} {k : Nat} (h : k < l.length) (x : Kd) (h1 : x.1.1 = l[k].1) (h2 : x.1.2 = l[k].2.1) : ∀ y, putF (seenF l k) x (some (.bool true)) y = seenF l (k + 1) y := fun y => by
  unfold seenF
  by_cases e : y = x
  · rw [e, putF_same, List.take_succ_eq_append_getElem h, List.any_append]
    rw [if_pos]
    simp [h1, h2]
  · rw [putF_other e, List.take_succ_eq_append_getElem h, List.any_append]
    congr 1
    have : ([l[k]].any fun z => decide (z.1 = y.1.1) && decide (z.2.1 = y.1.2)) = false := by
      rw [List.any_eq_false]
      intro z hz
      rw [List.mem_singleton.1 hz]
      simp only [Bool.and_eq_true, decide_eq_true_eq, not_and]
      intro g1 g2
      refine e (Subtype.ext (Prod.ext ?_ ?_))
      · rw [h1, g1]
      · rw [h2, g2]
    rw [this, Bool.or_false]
theorem seen_get (l : List Rt) (k : Nat) (x : Kd) : (seenF l k x).getD (.bool false) = .bool ((l.take k).any fun y => decide (y.1 = x.1.1) && decide (y.2.1 = x.1.2)) := by
  unfold seenF
  by_cases c : ((l.take k).any fun y => decide (y.1 = x.1.1) && decide (y.2.1 = x.1.2)) = true
  · rw [if_pos c, c]; rfl
  · rw [if_neg c, Bool.eq_false_iff.2 c]; rfl
theorem rtAt_iff {base : ByteArray} {l : List Rt} {k : Nat} (h : k < l.length) : RtAt base l k h ↔ okR base l[k] = true ∧ ((l.take k).any fun y => decide (y.1 = l[k].1) && decide (y.2.1 = l[k].2.1)) = false := by
  unfold RtAt
  rw [List.any_eq_false]
  constructor
  · rintro ⟨h1, h2⟩
    refine ⟨h1, fun y hy => ?_⟩
    obtain ⟨j, hj, rfl⟩ := List.getElem_of_mem hy
    rw [List.length_take] at hj
    rw [List.getElem_take]
    have := h2 j (by omega)
    unfold sameK at this
    rw [this]
    decide
  · rintro ⟨h1, h2⟩
    refine ⟨h1, fun j hj => ?_⟩
    have := h2 (l[j]'(Nat.lt_trans hj h)) (List.mem_of_getElem (i := j) (h := by rw [List.length_take]; omega) (by rw [List.getElem_take]))
    unfold sameK
    simpa using this
/-- Valid's map, with at most k entries. -/
def SeenM (W : World) (b : Nat) (l : List Rt) (k : Nat) : Prop := ∃ c, MapK Tryz.prog 90 κd W b c (seenF l k) ∧ c ≤ k
set_option maxRecDepth 100000 in
set_option maxHeartbeats 16000000 in
theorem Valid_any (l : List Rt) (A : Option Addr) (cap : Nat) (base : ByteArray) (w : World) (hl : InRt w A l) (hll : l.length ≤ 140737488355328) (hbs : base.size ≤ 140737488355328) (hz : RtSz l) :
    Calls Tryz.prog 22 #[.slice A l.length cap, .string base] w fun e w' => e = .returned (.bool (validR l base)) ∧ Below w.heap.size w w' := by
  have kb := isCurrency_w base w (by omega)
  obtain ⟨bi, hbi⟩ : ∃ x, x = identB base := ⟨_, rfl⟩
  rw [← hbi] at kb
  have hVF : Hid (¬ (bi = true ∧ l.length ≤ 400) → validR l base = false) := fun h => by cases c : validR l base; (· rfl); (· exact absurd ⟨hbi.trans (valid_iff.1 c).1, (valid_iff.1 c).2.1⟩ h)
  have hVB := Lib.hid (fun (k : Nat) (h : k < l.length) (hb : ¬ RtAt base l k h) => valid_bad (base := base) (l := l) h hb)
  have hVT : Hid (bi = true → l.length ≤ 400 → (∀ k (h : k < l.length), RtAt base l k h) → validR l base = true) := fun h1 h2 h3 => valid_iff.2 ⟨hbi.symm.trans h1, h2, h3⟩
  have kic := Lib.hid (fun (s : ByteArray) W (h : s.size ≤ 9223372036854775807) => isCurrency_w s W h)
  replace hbi := Lib.hid hbi
  replace kb := Lib.hid kb
  replace hl := Lib.hid hl
  replace hz := Lib.hid hz
  cases bi with
  | false =>
    have hR : Hid (validR l base = false) := hVF.out fun h => by cases h.1
    go_enter Tryz.func22, Tryz.ntmps22
    go_wp2_with fail
    refine kb.out.mono ?_
    rintro e wq ⟨rfl, hq⟩
    obtain rfl := hq.symm
    go_wp2
    go_ret
    exact ⟨ret_bool hR.out.symm, Below.refl _ _⟩
  | true =>
    by_cases hl4 : l.length ≤ 400
    rotate_left
    · have hR : Hid (validR l base = false) := hVF.out fun h => hl4 h.2
      have m1 : decide (400 < (l.length : Int)) = true := decide_eq_true (by omega)
      go_enter Tryz.func22, Tryz.ntmps22
      go_wp2_with fail
      refine kb.out.mono ?_
      rintro e wq ⟨rfl, hq⟩
      obtain rfl := hq.symm
      go_wp2
      go_ret
      exact ⟨ret_bool hR.out.symm, Below.refl _ _⟩
    · have m1 : decide (400 < (l.length : Int)) = false := decide_eq_false (by omega)
      have hmm := @run_makeMap Tryz.prog
      have hM0 : Hid (SeenM (w.alloc (.map #[] 0)) w.heap.size l 0) := ⟨0, (MapK.made w _ _ _).congr fun x => by simp [seenF], Nat.le_refl _⟩
      have hB0 : Hid (Below w.heap.size w (w.alloc (.map #[] 0))) := (Below.refl _ w).alloc (Nat.le_refl _) _
      go_enter Tryz.func22, Tryz.ntmps22
      go_wp2_with fail
      refine kb.out.mono ?_
      rintro e wq ⟨rfl, hq⟩
      obtain rfl := hq.symm
      go_wp2
      clear hmm
      go_loopw [21] (fun i wr => ∃ k : Nat, k ≤ l.length ∧ i = .int .i64 (k : Int) ∧ Hid (Below w.heap.size w wr) ∧ Hid (SeenM wr w.heap.size l k) ∧ Hid (∀ j (h : j < l.length), j < k → RtAt base l j h)) (fun i _ => l.length - (intOf i).toNat)
      case atStart => exact ⟨0, Nat.zero_le _, rfl, hB0, hM0, fun j _ h => absurd h (Nat.not_lt_zero _)⟩
      case round =>
        obtain ⟨k, hk, rfl, hB, hM, hI⟩ := hrel
        clear hM0 hB0
        obtain ⟨wz, rfl⟩ : ∃ z, z = wr := ⟨_, rfl⟩
        by_cases hlt : k < l.length
        · obtain ⟨b, off, rfl, hbl, hcc⟩ := (hl.out.below hB.out) (by omega)
          obtain ⟨e1, e2, e3, e4⟩ := hcc k hlt
          have hzz := hz.out l[k] (List.getElem_mem hlt)
          have hat := @rtAt_iff base l k hlt
          have hbad := hVB.out k hlt
          have k0 : (0 : Int) ≤ (k : Int) := by omega
          have k1 : (k : Int) < (l.length : Int) := by omega
          have hAl : Hid (RtAt base l k hlt → ∀ j (h : j < l.length), j < k + 1 → RtAt base l j h) := fun h j hj h2 => by
            by_cases e : j = k
            · subst e; exact h
            · exact hI.out j hj (by omega)
          have hsu := @seenF_succ l k hlt
          generalize RtAt base l k hlt = RA at hat hbad hAl
          obtain ⟨x, hx⟩ : ∃ x, x = l[k] := ⟨_, rfl⟩
          rw [← hx] at e1 e2 e3 e4 hzz hat hsu
          replace hx := Lib.hid hx
          obtain ⟨c, d, n, m⟩ := x
          replace e1 : wz.cell? ⟨b, off + k * 4, none⟩ = some (.string c) := e1; replace e2 : wz.cell? ⟨b, off + k * 4 + 1, none⟩ = some (.int .i64 d) := e2; replace e3 : wz.cell? ⟨b, off + k * 4 + 2, none⟩ = some (.int .i64 n) := e3; replace e4 : wz.cell? ⟨b, off + k * 4 + 3, none⟩ = some (.int .i64 m) := e4
          obtain ⟨z1, ⟨z2, z3⟩, ⟨z4, z5⟩, z6, z7⟩ : c.size ≤ 140737488355328 ∧ (-9223372036854775808 ≤ d ∧ d ≤ 9223372036854775807) ∧ (-9223372036854775808 ≤ n ∧ n ≤ 9223372036854775807) ∧ (-9223372036854775808 ≤ m ∧ m ≤ 9223372036854775807) := hzz
          obtain ⟨kx, hkx⟩ : ∃ x : Kd, x = ⟨(c, d), by show c.size ≤ maxLen; unfold maxLen; omega, z2, z3⟩ := ⟨_, rfl⟩
          have hkx1 : kx.1.1 = c := by rw [hkx]
          have hkx2 : kx.1.2 = d := by rw [hkx]
          have hkd := key_d kx
          rw [hkx1, hkx2] at hkd
          replace hsu := Lib.hid (hsu kx hkx1 hkx2)
          replace hkx := Lib.hid hkx
          clear hcc
          have hB7 : Hid (Below w.heap.size w ((wz.alloc (.cells #[.string c, .int .i64 d, .int .i64 n, .int .i64 m] 42)).alloc (.cells #[.string c, .int .i64 d] 90))) := (hB.out.alloc hB.out.size _).alloc (by have := hB.out.size; simp; omega) _
          obtain ⟨mc, hM1, hmc⟩ := hM.out
          have hM7 := (hM1.alloc (.cells #[.string c, .int .i64 d, .int .i64 n, .int .i64 m] 42)).alloc (.cells #[.string c, .int .i64 d] 90)
          have hlook := hM7.look keyedD Tryz.underlying88 (zeroB _) hkd
          rw [seen_get, hkx1, hkx2] at hlook
          obtain ⟨w9, hrun, hM9, hg9⟩ := hM7.put κd_inj keyedD Tryz.underlying88 (by unfold maxLen; omega) hkd (.bool true)
          have hM8 : Hid (SeenM w9 w.heap.size l (k + 1)) := ⟨_, hM9.congr hsu.out, by split <;> omega⟩
          have hB8 : Hid (Below w.heap.size w w9) := hB7.out.grown hg9 hB7.out.size (fun b e => by cases e; exact Nat.le_refl _)
          have hx7 : Hid (Bk ((wz.alloc (.cells #[.string c, .int .i64 d, .int .i64 n, .int .i64 m] 42)).alloc (.cells #[.string c, .int .i64 d] 90)) wz.heap.size 42 [.string c, .int .i64 d, .int .i64 n, .int .i64 m]) := (Bk.new wz _ _).alloc _
          have hy7 : Hid (Bk ((wz.alloc (.cells #[.string c, .int .i64 d, .int .i64 n, .int .i64 m] 42)).alloc (.cells #[.string c, .int .i64 d] 90)) (wz.heap.size + 1) 90 [.string c, .int .i64 d]) := by have h := Bk.new (wz.alloc (.cells #[.string c, .int .i64 d, .int .i64 n, .int .i64 m] 42)) 90 [.string c, .int .i64 d]; rw [World.size_alloc] at h; exact h
          have hE := @toList_eq c base
          replace hat : Hid (RA ↔ okR base (c, d, n, m) = true ∧ ((l.take k).any fun y => decide (y.1 = c) && decide (y.2.1 = d)) = false) := hat
          have hok : Hid (okR base (c, d, n, m) = (identB c && !decide (c = base) && dayB d && posB n && posB m)) := rfl
          have k1c := kic.out c ((wz.alloc (.cells #[.string c, .int .i64 d, .int .i64 n, .int .i64 m] 42)).alloc (.cells #[.string c, .int .i64 d] 90)) (by omega)
          have k2c := isDay_w d ((wz.alloc (.cells #[.string c, .int .i64 d, .int .i64 n, .int .i64 m] 42)).alloc (.cells #[.string c, .int .i64 d] 90))
          have k3c := pos_w n ((wz.alloc (.cells #[.string c, .int .i64 d, .int .i64 n, .int .i64 m] 42)).alloc (.cells #[.string c, .int .i64 d] 90))
          have k4c := pos_w m ((wz.alloc (.cells #[.string c, .int .i64 d, .int .i64 n, .int .i64 m] 42)).alloc (.cells #[.string c, .int .i64 d] 90))
          generalize identB c = b1 at hok k1c
          generalize decide (c = base) = b2 at hok hE
          generalize dayB d = b3 at hok k2c
          generalize posB n = b4 at hok k3c
          generalize posB m = b5 at hok k4c
          generalize ((l.take k).any fun y => decide (y.1 = c) && decide (y.2.1 = d)) = b6 at hat hlook
          replace k1c := Lib.hid k1c; replace k2c := Lib.hid k2c; replace k3c := Lib.hid k3c; replace k4c := Lib.hid k4c
          clear hM1 hM7 hM9 hg9 hM hkd
          have x0 := hx7.out.cell (j := 0) rfl
          have x1 := hx7.out.cell (j := 1) rfl
          have x2 := hx7.out.cell (j := 2) rfl
          have x3 := hx7.out.cell (j := 3) rfl
          have y0 := hy7.out.cell (j := 0) rfl
          have y1 := hy7.out.cell (j := 1) rfl
          have x9 := hx7.out.lt; have y9 := hy7.out.lt
          clear hx7 hy7
          go_wp2_with fail
          refine k1c.out.mono ?_
          rintro e wq ⟨rfl, hq⟩
          obtain rfl := hq.symm
          cases b1 with
          | false =>
            have hR : Hid (validR l base = false) := hbad fun h => by have h1 := (hat.out.1 h).1; rw [hok.out] at h1; simp at h1
            clear hlook hrun
            go_wp2
            go_ret
            exact ⟨ret_bool hR.out.symm, hB7.out⟩
          | true =>
            cases b2 with
            | true =>
              have hR : Hid (validR l base = false) := hbad fun h => by have h1 := (hat.out.1 h).1; rw [hok.out] at h1; simp at h1
              clear hlook hrun
              go_wp2
              go_ret
              exact ⟨ret_bool hR.out.symm, hB7.out⟩
            | false =>
              go_wp2_with fail
              refine k2c.out.mono ?_
              rintro e wq ⟨rfl, hq⟩
              obtain rfl := hq.symm
              cases b3 with
              | false =>
                have hR : Hid (validR l base = false) := hbad fun h => by have h1 := (hat.out.1 h).1; rw [hok.out] at h1; simp at h1
                clear hlook hrun
                go_wp2
                go_ret
                exact ⟨ret_bool hR.out.symm, hB7.out⟩
              | true =>
                go_wp2_with fail
                refine k3c.out.mono ?_
                rintro e wq ⟨rfl, hq⟩
                obtain rfl := hq.symm
                cases b4 with
                | false =>
                  have hR : Hid (validR l base = false) := hbad fun h => by have h1 := (hat.out.1 h).1; rw [hok.out] at h1; simp at h1
                  clear hlook hrun
                  go_wp2
                  go_ret
                  exact ⟨ret_bool hR.out.symm, hB7.out⟩
                | true =>
                  go_wp2_with fail
                  refine k4c.out.mono ?_
                  rintro e wq ⟨rfl, hq⟩
                  obtain rfl := hq.symm
                  cases b5 with
                  | false =>
                    have hR : Hid (validR l base = false) := hbad fun h => by have h1 := (hat.out.1 h).1; rw [hok.out] at h1; simp at h1
                    clear hlook hrun
                    go_wp2
                    go_ret
                    exact ⟨ret_bool hR.out.symm, hB7.out⟩
                  | true =>
                    cases b6 with
                    | true =>
                      have hR : Hid (validR l base = false) := hbad fun h => by have h1 := (hat.out.1 h).2; cases h1
                      clear hrun
                      go_wp2
                      go_ret
                      exact ⟨ret_bool hR.out.symm, hB7.out⟩
                    | false =>
                      have hRA := hAl.out (hat.out.2 ⟨by rw [hok.out]; rfl, rfl⟩)
                      replace hRA := Lib.hid hRA
                      clear hbad
                      go_wp2
                      exact ⟨⟨k + 1, by omega, by go_num, hB8, hM8, hRA⟩, by simp only [intOf]; omega⟩
        · obtain rfl : k = l.length := by omega
          have hR : Hid (validR l base = true) := hVT.out (by first | rfl | trivial) hl4 fun j hj => hI.out j hj hj
          clear hI
          go_wp2
          go_ret
          exact ⟨ret_bool hR.out.symm, hB.out⟩
end Mo
end Go.Proofs.YtpmlhgmmobpilaaGreatDoor

namespace Go.Proofs.YtpmlhgmmobpilaaGreatDoor
open Go.RowKit Go.Shelf
namespace Mo
open Nt Ci
section
variable {l : List Rt} {base cur : ByteArray} {day : Int}
theorem find_no (h : ¬ (validR l base = true ∧ identB cur = true ∧ dayB day = true)) : findR l base cur day = (noR, 1) := if_neg h
theorem find_own (h : validR l base = true ∧ identB cur = true ∧ dayB day = true) (e : cur = base) : findR l base cur day = ((base, 0, 1, 1), 0) := by unfold findR; rw [if_pos h, if_pos e]
theorem find_some (h : validR l base = true ∧ identB cur = true ∧ dayB day = true) (e : ¬ cur = base) (hs : (bestR l cur day).isSome = true) : findR l base cur day = ((bestR l cur day).getD noR, 0) := by
  unfold findR
  rw [if_pos h, if_neg e]
  cases c : bestR l cur day with
  | none => rw [c] at hs; cases hs
  | some x => rfl
theorem find_none (h : validR l base = true ∧ identB cur = true ∧ dayB day = true) (e : ¬ cur = base) (hs : (bestR l cur day).isSome = false) : findR l base cur day = (noR, 11) := by
  unfold findR
  rw [if_pos h, if_neg e]
  cases c : bestR l cur day with
  | none => rfl
  | some x => rw [c] at hs; cases hs
end
set_option maxRecDepth 100000 in
set_option maxHeartbeats 8000000 in
theorem Find_any (l : List Rt) (A : Option Addr) (cap : Nat) (base cur : ByteArray) (day : Int) (w : World) (hl : InRt w A l) (hll : l.length ≤ 140737488355328) (hbs : base.size ≤ 140737488355328) (hcs : cur.size ≤ 140737488355328) (hz : RtSz l) :
    Calls Tryz.prog 21 #[.slice A l.length cap, .string base, .string cur, .int .i64 day] w fun e w' => e = .returned (.tuple #[rtV (findR l base cur day).1, .int .i64 (findR l base cur day).2]) ∧ Below w.heap.size w w' := by
  have hB1 : Hid (Below w.heap.size w (((w.alloc (.cells #[.string cur] 9)).alloc (.cells #[.int .i64 day] 3)).alloc (.cells #[.string ⟨#[]⟩, .int .i64 0, .int .i64 0, .int .i64 0] 42))) := ((((Below.refl _ w).alloc (Nat.le_refl _) _).alloc (by simp) _).alloc (by simp; omega) _)
  have hc1 : Hid (Bk (((w.alloc (.cells #[.string cur] 9)).alloc (.cells #[.int .i64 day] 3)).alloc (.cells #[.string ⟨#[]⟩, .int .i64 0, .int .i64 0, .int .i64 0] 42)) w.heap.size 9 [.string cur]) := ((Bk.new w _ _).alloc _).alloc _
  have hd1 : Hid (Bk (((w.alloc (.cells #[.string cur] 9)).alloc (.cells #[.int .i64 day] 3)).alloc (.cells #[.string ⟨#[]⟩, .int .i64 0, .int .i64 0, .int .i64 0] 42)) (w.heap.size + 1) 3 [.int .i64 day]) := by have h := (Bk.new (w.alloc (.cells #[.string cur] 9)) 3 [.int .i64 day]).alloc (.cells #[.string ⟨#[]⟩, .int .i64 0, .int .i64 0, .int .i64 0] 42); rw [World.size_alloc] at h; exact h
  have hr1 : Hid (Bk (((w.alloc (.cells #[.string cur] 9)).alloc (.cells #[.int .i64 day] 3)).alloc (.cells #[.string ⟨#[]⟩, .int .i64 0, .int .i64 0, .int .i64 0] 42)) (w.heap.size + 1 + 1) 42 [.string ⟨#[]⟩, .int .i64 0, .int .i64 0, .int .i64 0]) := by have h := Bk.new ((w.alloc (.cells #[.string cur] 9)).alloc (.cells #[.int .i64 day] 3)) 42 [.string ⟨#[]⟩, .int .i64 0, .int .i64 0, .int .i64 0]; rw [World.size_alloc, World.size_alloc] at h; exact h
  have kv := Valid_any l A cap base (((w.alloc (.cells #[.string cur] 9)).alloc (.cells #[.int .i64 day] 3)).alloc (.cells #[.string ⟨#[]⟩, .int .i64 0, .int .i64 0, .int .i64 0] 42)) (hl.below hB1.out) hll hbs hz
  have kic := Lib.hid (fun W => isCurrency_w cur W (by omega))
  have kid := Lib.hid (fun W => isDay_w day W)
  have hE := @toList_eq cur base
  have kbe := Lib.hid (fun cb db W (hW : Below w.heap.size w W) h1 h2 => best_any l A cap cb db cur day W (hl.below hW) hll h1 h2)
  have f1 := @find_no l base cur day; have f2 := @find_own l base cur day; have f3 := @find_some l base cur day; have f4 := @find_none l base cur day
  generalize findR l base cur day = fr at f1 f2 f3 f4 ⊢
  obtain ⟨bv, hbv⟩ : ∃ x, x = validR l base := ⟨_, rfl⟩; obtain ⟨bi, hbi⟩ : ∃ x, x = identB cur := ⟨_, rfl⟩; obtain ⟨bd, hbd⟩ : ∃ x, x = dayB day := ⟨_, rfl⟩
  rw [← hbv] at kv; rw [← hbi] at kic; rw [← hbd] at kid; rw [← hbv, ← hbi, ← hbd] at f1 f2 f3 f4
  clear hbv hbi hbd
  replace kv := Lib.hid kv; replace hz := Lib.hid hz; replace hl := Lib.hid hl
  have c0 := hc1.out.cell (j := 0) rfl; have c9 := hc1.out.lt
  have d0 := hd1.out.cell (j := 0) rfl; have d9 := hd1.out.lt
  go_enter Tryz.func21, Tryz.ntmps21
  go_wp2_with fail
  refine kv.out.mono ?_
  rintro e w2 ⟨rfl, hb⟩
  have hB2 := Lib.hid (hB1.out.trans (hb.mono hB1.out.size)); have hc2 := Lib.hid (hc1.out.below hb); have hd2 := Lib.hid (hd1.out.below hb); have hr2 := Lib.hid (hr1.out.below hb)
  clear hb hB1 hc1 hd1 hr1 c0 d0 c9 d9 kv
  have c0 := hc2.out.cell (j := 0) rfl; have d0 := hd2.out.cell (j := 0) rfl; have c9 := hc2.out.lt; have d9 := hd2.out.lt
  have r0 := hr2.out.cell (j := 0) rfl; have p0 := hr2.out.frozen 0
  have r1 := hr2.out.cell (j := 1) rfl; have p1 := hr2.out.frozen 1
  have r2 := hr2.out.cell (j := 2) rfl; have p2 := hr2.out.frozen 2
  have r3 := hr2.out.cell (j := 3) rfl; have p3 := hr2.out.frozen 3
  have r9 := hr2.out.lt
  cases bv with
  | false =>
    have hfr : fr = (noR, 1) := f1 (by simp)
    clear f1 f2 f3 f4
    have hB5 : Hid (Below w.heap.size w ((((w2.setCell ⟨w.heap.size + 1 + 1, 0, none⟩ (.string ⟨#[]⟩)).setCell ⟨w.heap.size + 1 + 1, 1, none⟩ (.int .i64 0)).setCell ⟨w.heap.size + 1 + 1, 2, none⟩ (.int .i64 0)).setCell ⟨w.heap.size + 1 + 1, 3, none⟩ (.int .i64 0))) := ((((hB2.out.setCell (p := ⟨w.heap.size + 1 + 1, 0, none⟩) (by simp only []; omega) _).setCell (p := ⟨w.heap.size + 1 + 1, 1, none⟩) (by simp only []; omega) _).setCell (p := ⟨w.heap.size + 1 + 1, 2, none⟩) (by simp only []; omega) _).setCell (p := ⟨w.heap.size + 1 + 1, 3, none⟩) (by simp only []; omega) _)
    have hR5 : Hid (Bk ((((w2.setCell ⟨w.heap.size + 1 + 1, 0, none⟩ (.string ⟨#[]⟩)).setCell ⟨w.heap.size + 1 + 1, 1, none⟩ (.int .i64 0)).setCell ⟨w.heap.size + 1 + 1, 2, none⟩ (.int .i64 0)).setCell ⟨w.heap.size + 1 + 1, 3, none⟩ (.int .i64 0)) (w.heap.size + 1 + 1) 42 [.string ⟨#[]⟩, .int .i64 0, .int .i64 0, .int .i64 0]) := (((Bk.set hr2.out 0 (.string ⟨#[]⟩)).set 1 (.int .i64 0)).set 2 (.int .i64 0)).set 3 (.int .i64 0)
    go_wp2
    (try simp only [Exit.inBlock, Exit.then])
    have s0 := hR5.out.cell (j := 0) rfl
    have s1 := hR5.out.cell (j := 1) rfl
    have s2 := hR5.out.cell (j := 2) rfl
    have s3 := hR5.out.cell (j := 3) rfl
    have s9 := hR5.out.lt
    refine bodyPost_ret (v := .tuple #[.agg #[.string ⟨#[]⟩, .int .i64 0, .int .i64 0, .int .i64 0], .int .i64 1]) (by simp [results, Tryz.results21, go_sem, s0, s1, s2, s3]) rfl ⟨by rw [hfr]; rfl, hB5.out⟩
  | true =>
    go_wp2_with fail
    refine (kic.out _).mono ?_
    rintro e wq ⟨rfl, hq⟩
    obtain rfl := hq.symm
    cases bi with
    | false =>
      have hfr : fr = (noR, 1) := f1 (by simp)
      clear f1 f2 f3 f4
      have hB5 : Hid (Below w.heap.size w ((((w2.setCell ⟨w.heap.size + 1 + 1, 0, none⟩ (.string ⟨#[]⟩)).setCell ⟨w.heap.size + 1 + 1, 1, none⟩ (.int .i64 0)).setCell ⟨w.heap.size + 1 + 1, 2, none⟩ (.int .i64 0)).setCell ⟨w.heap.size + 1 + 1, 3, none⟩ (.int .i64 0))) := ((((hB2.out.setCell (p := ⟨w.heap.size + 1 + 1, 0, none⟩) (by simp only []; omega) _).setCell (p := ⟨w.heap.size + 1 + 1, 1, none⟩) (by simp only []; omega) _).setCell (p := ⟨w.heap.size + 1 + 1, 2, none⟩) (by simp only []; omega) _).setCell (p := ⟨w.heap.size + 1 + 1, 3, none⟩) (by simp only []; omega) _)
      have hR5 : Hid (Bk ((((w2.setCell ⟨w.heap.size + 1 + 1, 0, none⟩ (.string ⟨#[]⟩)).setCell ⟨w.heap.size + 1 + 1, 1, none⟩ (.int .i64 0)).setCell ⟨w.heap.size + 1 + 1, 2, none⟩ (.int .i64 0)).setCell ⟨w.heap.size + 1 + 1, 3, none⟩ (.int .i64 0)) (w.heap.size + 1 + 1) 42 [.string ⟨#[]⟩, .int .i64 0, .int .i64 0, .int .i64 0]) := (((Bk.set hr2.out 0 (.string ⟨#[]⟩)).set 1 (.int .i64 0)).set 2 (.int .i64 0)).set 3 (.int .i64 0)
      go_wp2
      (try simp only [Exit.inBlock, Exit.then])
      have s0 := hR5.out.cell (j := 0) rfl
      have s1 := hR5.out.cell (j := 1) rfl
      have s2 := hR5.out.cell (j := 2) rfl
      have s3 := hR5.out.cell (j := 3) rfl
      have s9 := hR5.out.lt
      refine bodyPost_ret (v := .tuple #[.agg #[.string ⟨#[]⟩, .int .i64 0, .int .i64 0, .int .i64 0], .int .i64 1]) (by simp [results, Tryz.results21, go_sem, s0, s1, s2, s3]) rfl ⟨by rw [hfr]; rfl, hB5.out⟩
    | true =>
      go_wp2_with fail
      refine (kid.out _).mono ?_
      rintro e wq ⟨rfl, hq⟩
      obtain rfl := hq.symm
      cases bd with
      | false =>
        have hfr : fr = (noR, 1) := f1 (by simp)
        clear f1 f2 f3 f4
        have hB5 : Hid (Below w.heap.size w ((((w2.setCell ⟨w.heap.size + 1 + 1, 0, none⟩ (.string ⟨#[]⟩)).setCell ⟨w.heap.size + 1 + 1, 1, none⟩ (.int .i64 0)).setCell ⟨w.heap.size + 1 + 1, 2, none⟩ (.int .i64 0)).setCell ⟨w.heap.size + 1 + 1, 3, none⟩ (.int .i64 0))) := ((((hB2.out.setCell (p := ⟨w.heap.size + 1 + 1, 0, none⟩) (by simp only []; omega) _).setCell (p := ⟨w.heap.size + 1 + 1, 1, none⟩) (by simp only []; omega) _).setCell (p := ⟨w.heap.size + 1 + 1, 2, none⟩) (by simp only []; omega) _).setCell (p := ⟨w.heap.size + 1 + 1, 3, none⟩) (by simp only []; omega) _)
        have hR5 : Hid (Bk ((((w2.setCell ⟨w.heap.size + 1 + 1, 0, none⟩ (.string ⟨#[]⟩)).setCell ⟨w.heap.size + 1 + 1, 1, none⟩ (.int .i64 0)).setCell ⟨w.heap.size + 1 + 1, 2, none⟩ (.int .i64 0)).setCell ⟨w.heap.size + 1 + 1, 3, none⟩ (.int .i64 0)) (w.heap.size + 1 + 1) 42 [.string ⟨#[]⟩, .int .i64 0, .int .i64 0, .int .i64 0]) := (((Bk.set hr2.out 0 (.string ⟨#[]⟩)).set 1 (.int .i64 0)).set 2 (.int .i64 0)).set 3 (.int .i64 0)
        go_wp2
        (try simp only [Exit.inBlock, Exit.then])
        have s0 := hR5.out.cell (j := 0) rfl
        have s1 := hR5.out.cell (j := 1) rfl
        have s2 := hR5.out.cell (j := 2) rfl
        have s3 := hR5.out.cell (j := 3) rfl
        have s9 := hR5.out.lt
        refine bodyPost_ret (v := .tuple #[.agg #[.string ⟨#[]⟩, .int .i64 0, .int .i64 0, .int .i64 0], .int .i64 1]) (by simp [results, Tryz.results21, go_sem, s0, s1, s2, s3]) rfl ⟨by rw [hfr]; rfl, hB5.out⟩
      | true =>
        by_cases hcb : cur = base
        · have hfr := f2 (by simp) hcb
          rw [decide_eq_true hcb] at hE
          replace hcb := Lib.hid hcb
          clear f1 f2 f3 f4
          have hB5 : Hid (Below w.heap.size w ((((w2.setCell ⟨w.heap.size + 1 + 1, 0, none⟩ (.string base)).setCell ⟨w.heap.size + 1 + 1, 1, none⟩ (.int .i64 0)).setCell ⟨w.heap.size + 1 + 1, 2, none⟩ (.int .i64 1)).setCell ⟨w.heap.size + 1 + 1, 3, none⟩ (.int .i64 1))) := ((((hB2.out.setCell (p := ⟨w.heap.size + 1 + 1, 0, none⟩) (by simp only []; omega) _).setCell (p := ⟨w.heap.size + 1 + 1, 1, none⟩) (by simp only []; omega) _).setCell (p := ⟨w.heap.size + 1 + 1, 2, none⟩) (by simp only []; omega) _).setCell (p := ⟨w.heap.size + 1 + 1, 3, none⟩) (by simp only []; omega) _)
          have hR5 : Hid (Bk ((((w2.setCell ⟨w.heap.size + 1 + 1, 0, none⟩ (.string base)).setCell ⟨w.heap.size + 1 + 1, 1, none⟩ (.int .i64 0)).setCell ⟨w.heap.size + 1 + 1, 2, none⟩ (.int .i64 1)).setCell ⟨w.heap.size + 1 + 1, 3, none⟩ (.int .i64 1)) (w.heap.size + 1 + 1) 42 [.string base, .int .i64 0, .int .i64 1, .int .i64 1]) := (((Bk.set hr2.out 0 (.string base)).set 1 (.int .i64 0)).set 2 (.int .i64 1)).set 3 (.int .i64 1)
          go_wp2
          (try simp only [Exit.inBlock, Exit.then])
          have s0 := hR5.out.cell (j := 0) rfl
          have s1 := hR5.out.cell (j := 1) rfl
          have s2 := hR5.out.cell (j := 2) rfl
          have s3 := hR5.out.cell (j := 3) rfl
          have s9 := hR5.out.lt
          refine bodyPost_ret (v := .tuple #[.agg #[.string base, .int .i64 0, .int .i64 1, .int .i64 1], .int .i64 0]) (by simp [results, Tryz.results21, go_sem, s0, s1, s2, s3]) rfl ⟨by rw [hfr]; rfl, hB5.out⟩
        · rw [decide_eq_false hcb] at hE
          have k6 := kbe.out w.heap.size (w.heap.size + 1) w2 hB2.out c0 d0
          have g3 := f3 (by simp) hcb; have g4 := f4 (by simp) hcb
          clear f1 f2 f3 f4
          replace hcb := Lib.hid hcb
          generalize (bestR l cur day).isSome = bs at k6 g3 g4
          obtain ⟨y, hy⟩ : ∃ y, y = (bestR l cur day).getD noR := ⟨_, rfl⟩
          rw [← hy] at k6 g3
          replace hy := Lib.hid hy
          obtain ⟨yc, yd, yn, ym⟩ := y
          replace k6 : Hid (Calls Tryz.prog 62 #[.slice A l.length cap, .func (.func 61) #[] #[.pointer (some ⟨w.heap.size, 0, none⟩), .pointer (some ⟨w.heap.size + 1, 0, none⟩)], .func (.func 63) #[] #[]] w2 fun e w' => e = .returned (.tuple #[.agg #[.string yc, .int .i64 yd, .int .i64 yn, .int .i64 ym], .bool bs]) ∧ Below w2.heap.size w2 w') := k6
          go_wp2_with fail
          refine k6.out.mono ?_
          rintro e w6 ⟨rfl, hb⟩
          have hB6 := Lib.hid (hB2.out.trans (hb.mono hB2.out.size)); have hr6 := Lib.hid (hr2.out.below hb)
          clear hb hB2 hc2 hd2 hr2 c0 d0 c9 d9 r0 r1 r2 r3 r9 k6
          have r0 := hr6.out.cell (j := 0) rfl; have q0 := hr6.out.frozen 0
          have r1 := hr6.out.cell (j := 1) rfl; have q1 := hr6.out.frozen 1
          have r2 := hr6.out.cell (j := 2) rfl; have q2 := hr6.out.frozen 2
          have r3 := hr6.out.cell (j := 3) rfl; have q3 := hr6.out.frozen 3
          have r9 := hr6.out.lt
          cases bs with
          | false =>
            have hfr := g4 rfl
            clear g3 g4
            have hB4 : Hid (Below w.heap.size w ((((w6.setCell ⟨w.heap.size + 1 + 1, 0, none⟩ (.string ⟨#[]⟩)).setCell ⟨w.heap.size + 1 + 1, 1, none⟩ (.int .i64 0)).setCell ⟨w.heap.size + 1 + 1, 2, none⟩ (.int .i64 0)).setCell ⟨w.heap.size + 1 + 1, 3, none⟩ (.int .i64 0))) := ((((hB6.out.setCell (p := ⟨w.heap.size + 1 + 1, 0, none⟩) (by simp only []; omega) _).setCell (p := ⟨w.heap.size + 1 + 1, 1, none⟩) (by simp only []; omega) _).setCell (p := ⟨w.heap.size + 1 + 1, 2, none⟩) (by simp only []; omega) _).setCell (p := ⟨w.heap.size + 1 + 1, 3, none⟩) (by simp only []; omega) _)
            have hB5 : Hid (Below w.heap.size w (((((w6.setCell ⟨w.heap.size + 1 + 1, 0, none⟩ (.string ⟨#[]⟩)).setCell ⟨w.heap.size + 1 + 1, 1, none⟩ (.int .i64 0)).setCell ⟨w.heap.size + 1 + 1, 2, none⟩ (.int .i64 0)).setCell ⟨w.heap.size + 1 + 1, 3, none⟩ (.int .i64 0)).alloc (.cells #[.string yc, .int .i64 yd, .int .i64 yn, .int .i64 ym] 42))) := hB4.out.alloc hB4.out.size _
            have hR5 : Hid (Bk (((((w6.setCell ⟨w.heap.size + 1 + 1, 0, none⟩ (.string ⟨#[]⟩)).setCell ⟨w.heap.size + 1 + 1, 1, none⟩ (.int .i64 0)).setCell ⟨w.heap.size + 1 + 1, 2, none⟩ (.int .i64 0)).setCell ⟨w.heap.size + 1 + 1, 3, none⟩ (.int .i64 0)).alloc (.cells #[.string yc, .int .i64 yd, .int .i64 yn, .int .i64 ym] 42)) (w.heap.size + 1 + 1) 42 [.string ⟨#[]⟩, .int .i64 0, .int .i64 0, .int .i64 0]) := ((((Bk.set hr6.out 0 (.string ⟨#[]⟩)).set 1 (.int .i64 0)).set 2 (.int .i64 0)).set 3 (.int .i64 0)).alloc _
            go_wp2
            (try simp only [Exit.inBlock, Exit.then])
            have s0 := hR5.out.cell (j := 0) rfl
            have s1 := hR5.out.cell (j := 1) rfl
            have s2 := hR5.out.cell (j := 2) rfl
            have s3 := hR5.out.cell (j := 3) rfl
            have s9 := hR5.out.lt
            refine bodyPost_ret (v := .tuple #[.agg #[.string ⟨#[]⟩, .int .i64 0, .int .i64 0, .int .i64 0], .int .i64 11]) (by simp [results, Tryz.results21, go_sem, s0, s1, s2, s3]) rfl ⟨by rw [hfr]; rfl, hB5.out⟩
          | true =>
            have hfr := g3 rfl
            clear g3 g4
            have hB4 : Hid (Below w.heap.size w ((((w6.setCell ⟨w.heap.size + 1 + 1, 0, none⟩ (.string yc)).setCell ⟨w.heap.size + 1 + 1, 1, none⟩ (.int .i64 yd)).setCell ⟨w.heap.size + 1 + 1, 2, none⟩ (.int .i64 yn)).setCell ⟨w.heap.size + 1 + 1, 3, none⟩ (.int .i64 ym))) := ((((hB6.out.setCell (p := ⟨w.heap.size + 1 + 1, 0, none⟩) (by simp only []; omega) _).setCell (p := ⟨w.heap.size + 1 + 1, 1, none⟩) (by simp only []; omega) _).setCell (p := ⟨w.heap.size + 1 + 1, 2, none⟩) (by simp only []; omega) _).setCell (p := ⟨w.heap.size + 1 + 1, 3, none⟩) (by simp only []; omega) _)
            have hB5 : Hid (Below w.heap.size w (((((w6.setCell ⟨w.heap.size + 1 + 1, 0, none⟩ (.string yc)).setCell ⟨w.heap.size + 1 + 1, 1, none⟩ (.int .i64 yd)).setCell ⟨w.heap.size + 1 + 1, 2, none⟩ (.int .i64 yn)).setCell ⟨w.heap.size + 1 + 1, 3, none⟩ (.int .i64 ym)).alloc (.cells #[.string yc, .int .i64 yd, .int .i64 yn, .int .i64 ym] 42))) := hB4.out.alloc hB4.out.size _
            have hR5 : Hid (Bk (((((w6.setCell ⟨w.heap.size + 1 + 1, 0, none⟩ (.string yc)).setCell ⟨w.heap.size + 1 + 1, 1, none⟩ (.int .i64 yd)).setCell ⟨w.heap.size + 1 + 1, 2, none⟩ (.int .i64 yn)).setCell ⟨w.heap.size + 1 + 1, 3, none⟩ (.int .i64 ym)).alloc (.cells #[.string yc, .int .i64 yd, .int .i64 yn, .int .i64 ym] 42)) (w.heap.size + 1 + 1) 42 [.string yc, .int .i64 yd, .int .i64 yn, .int .i64 ym]) := ((((Bk.set hr6.out 0 (.string yc)).set 1 (.int .i64 yd)).set 2 (.int .i64 yn)).set 3 (.int .i64 ym)).alloc _
            go_wp2
            (try simp only [Exit.inBlock, Exit.then])
            have s0 := hR5.out.cell (j := 0) rfl
            have s1 := hR5.out.cell (j := 1) rfl
            have s2 := hR5.out.cell (j := 2) rfl
            have s3 := hR5.out.cell (j := 3) rfl
            have s9 := hR5.out.lt
            refine bodyPost_ret (v := .tuple #[.agg #[.string yc, .int .i64 yd, .int .i64 yn, .int .i64 ym], .int .i64 0]) (by simp [results, Tryz.results21, go_sem, s0, s1, s2, s3]) rfl ⟨by rw [hfr]; rfl, hB5.out⟩
end Mo
end Go.Proofs.YtpmlhgmmobpilaaGreatDoor

namespace Go.Proofs.YtpmlhgmmobpilaaGreatDoor
open Go.RowKit Go.Shelf
namespace Nt
theorem atoi_neg (n : Nat) (hn : 0 < n) : Lib.atoiAll (45 :: Lib.decDigits n) = if n ≤ 9223372036854775808 then .ok (-(n : Int)) else .range := by
  have hd := decDigits_dig n
  have hv := dval_decDigits n
  have hne := decDigits_ne n
  have hp := parse10 (Lib.decDigits n) 0 hd (by omega)
  rw [Nat.zero_mul, Nat.zero_add, hv] at hp
  unfold Lib.atoiAll
  simp only [Lib.parseMag]
  have e45 : (if (45 : UInt8).toNat = 43 ∨ (45 : UInt8).toNat = 45 then Lib.decDigits n else 45 :: Lib.decDigits n) = Lib.decDigits n := if_pos (by decide)
  rw [e45, if_neg hne, hp]
  by_cases hle : n ≤ 9223372036854775808
  · rw [if_pos (by omega), if_pos hle]
    simp
    omega
  · rw [if_neg hle]
    by_cases h64 : n < 18446744073709551616
    · rw [if_pos h64]
      simp
      omega
    · rw [if_neg h64]
/-- What Atoi does to a text: a number, or some error. -/
def AtoiOk (s : ByteArray) (z : Int) : Prop := ∀ W, Env W → Calls Tryz.prog 92 #[.string s] W fun e w' => e = .returned (.tuple #[.int .i64 z, .nilIface]) ∧ Below W.heap.size W w'
def AtoiBad (s : ByteArray) : Prop := ∀ W, Env W → Calls Tryz.prog 92 #[.string s] W fun e w' => ∃ (z : Int) (N : Nat), e = .returned (.tuple #[.int .i64 z, .iface 174 (.pointer (some ⟨N, 0, none⟩))]) ∧ Below W.heap.size W w'
theorem atoi_ok (s : ByteArray) (z : Int) (hs : s.size ≤ 1000000) (h : Lib.atoiAll s.data.toList = .ok z) : AtoiOk s z := fun W _ => by
  refine (Tryz.strconv_Atoi_ok s (by omega) _ h W).mono ?_
  rintro e w' ⟨rfl, rfl | ⟨t, rfl⟩⟩
  · exact ⟨rfl, Below.refl _ _⟩
  · exact ⟨rfl, Go.Joins.below_bytesWorld _ _ _ _ (Nat.le_refl _)⟩
theorem atoi_bad (s : ByteArray) (hs : s.size ≤ 1000000) (h : Lib.atoiAll s.data.toList = .range) : AtoiBad s := fun W hE => by
  obtain ⟨tp, p, hv⟩ := hE.rng
  refine (Tryz.strconv_Atoi_range_var s (by omega) h tp p W hv).mono ?_
  rintro e w' ⟨N, rfl, _, _, hb⟩
  exact ⟨_, N, rfl, hb⟩
def InInt (z : Int) : Prop := -9223372036854775808 ≤ z ∧ z ≤ 9223372036854775807
instance (z : Int) : Decidable (InInt z) := inferInstanceAs (Decidable (_ ∧ _))
theorem T_size (n : Nat) (h : n < Lim) : (T (some n)).size ≤ 300 := by
  have h1 : isN (T (some n)) = true := isN_T (ok_some h)
  exact size_of_isN h1
theorem minus_list (n : Nat) : ((⟨#[45]⟩ : ByteArray) ++ T (some n)).data.toList = 45 :: Lib.decDigits n := by
  rw [ByteArray.toList_data_append]
  rfl
theorem minus_size (n : Nat) (h : n < Lim) : ((⟨#[45]⟩ : ByteArray) ++ T (some n)).size ≤ 301 := by
  have h1 := T_size n h
  have h2 : (T (some n)).size = (Lib.decDigits n).length := by rw [Lib.size_eq]; rfl
  rw [Lib.size_eq, minus_list, List.length_cons]
  omega
theorem addOneT (k : Nat) (w : World) (hE : Env w) (hk : k + 1 < Lim) : Calls Tryz.prog 94 #[.string (T (some k)), .string ⟨#[49]⟩] w fun e w' => e = .returned (.tuple #[.string (T (some (k + 1))), .int .i64 0]) ∧ Below w.heap.size w w' := by
  have := addT (some k) (some 1) w hE (ok_some (by omega)) (ok_some one_lt_Lim)
  rw [show sumO (some k) (some 1) = some (k + 1) by simp only [sumO, apO, limO, if_pos hk], show sumE (some k) (some 1) = 0 by simp only [sumE, apE, if_pos hk], T_one] at this
  exact this
set_option maxRecDepth 100000 in
set_option maxHeartbeats 2000000 in
theorem Floor_pos_ok (a b k r : Nat) (w : World) (hE : Env w) (ha : a < Lim) (hb : b < Lim) (hv : validB false (T (some a)) (T (some b)) = true) (hq : quoO (some a) (some b) = some k ∧ remO (some a) (some b) = some r ∧ quoX (some a) (some b) = 0) (_hkl : k < Lim) (z : Int) (hA : AtoiOk (T (some k)) z) :
    Calls Tryz.prog 45 #[.agg #[.bool false, .string (T (some a)), .string (T (some b))]] w fun e w' => e = .returned (.tuple #[.int .i64 z, .int .i64 0]) ∧ Below w.heap.size w w' := by
  have sa := size_T (ok_some ha)
  have sb := size_T (ok_some hb)
  replace hE := Lib.hid hE
  replace hv := Lib.hid hv
  replace hq := Lib.hid hq
  replace hA := Lib.hid hA
  go_enter Tryz.func45, Tryz.ntmps45
  go_wp2_with fail
  refine (Valid_any false (T (some a)) (T (some b)) _ (hE.out.below (one_below _ _)) sa sb).mono ?_
  rintro e w1 ⟨rfl, hb1⟩
  rw [hv.out]
  have q1 := (B3.new w false (T (some a)) (T (some b))).below hb1
  have hB1 := Lib.hid ((one_below w (.cells #[.bool false, .string (T (some a)), .string (T (some b))] 23)).trans (hb1.mono (by simp)))
  obtain ⟨a1, a2, a3, a4, a5, a6⟩ := q1.facts
  clear hb1
  replace q1 := Lib.hid q1
  go_wp2_with fail
  refine (divT (some a) (some b) _ (hE.out.below hB1.out) (ok_some ha) (ok_some hb)).mono ?_
  rintro e w2 ⟨rfl, hb2⟩
  rw [hq.out.1, hq.out.2.1, hq.out.2.2]
  have q2 := q1.out.below hb2
  have hB2 := Lib.hid (hB1.out.trans (hb2.mono hB1.out.size))
  clear a1 a2 a3 a4 a5 a6 hb2 q1
  obtain ⟨a1, a2, a3, a4, a5, a6⟩ := q2.facts
  replace q2 := Lib.hid q2
  go_wp2_with fail
  refine (hA.out _ (hE.out.below hB2.out)).mono ?_
  rintro e w4 ⟨rfl, hb4⟩
  have hB4 := Lib.hid (hB2.out.trans (hb4.mono hB2.out.size))
  clear hb4
  go_wp2
  go_ret2
  exact ⟨rfl, hB4.out⟩
set_option maxRecDepth 100000 in
set_option maxHeartbeats 2000000 in
theorem Floor_pos_bad (a b k r : Nat) (w : World) (hE : Env w) (ha : a < Lim) (hb : b < Lim) (hv : validB false (T (some a)) (T (some b)) = true) (hq : quoO (some a) (some b) = some k ∧ remO (some a) (some b) = some r ∧ quoX (some a) (some b) = 0) (_hkl : k < Lim) (hA : AtoiBad (T (some k))) :
    Calls Tryz.prog 45 #[.agg #[.bool false, .string (T (some a)), .string (T (some b))]] w fun e w' => e = .returned (.tuple #[.int .i64 0, .int .i64 10]) ∧ Below w.heap.size w w' := by
  have sa := size_T (ok_some ha)
  have sb := size_T (ok_some hb)
  replace hE := Lib.hid hE
  replace hv := Lib.hid hv
  replace hq := Lib.hid hq
  replace hA := Lib.hid hA
  go_enter Tryz.func45, Tryz.ntmps45
  go_wp2_with fail
  refine (Valid_any false (T (some a)) (T (some b)) _ (hE.out.below (one_below _ _)) sa sb).mono ?_
  rintro e w1 ⟨rfl, hb1⟩
  rw [hv.out]
  have q1 := (B3.new w false (T (some a)) (T (some b))).below hb1
  have hB1 := Lib.hid ((one_below w (.cells #[.bool false, .string (T (some a)), .string (T (some b))] 23)).trans (hb1.mono (by simp)))
  obtain ⟨a1, a2, a3, a4, a5, a6⟩ := q1.facts
  clear hb1
  replace q1 := Lib.hid q1
  go_wp2_with fail
  refine (divT (some a) (some b) _ (hE.out.below hB1.out) (ok_some ha) (ok_some hb)).mono ?_
  rintro e w2 ⟨rfl, hb2⟩
  rw [hq.out.1, hq.out.2.1, hq.out.2.2]
  have q2 := q1.out.below hb2
  have hB2 := Lib.hid (hB1.out.trans (hb2.mono hB1.out.size))
  clear a1 a2 a3 a4 a5 a6 hb2 q1
  obtain ⟨a1, a2, a3, a4, a5, a6⟩ := q2.facts
  replace q2 := Lib.hid q2
  go_wp2_with fail
  refine (hA.out _ (hE.out.below hB2.out)).mono ?_
  rintro e w4 ⟨y, N, rfl, hb4⟩
  have hB4 := Lib.hid (hB2.out.trans (hb4.mono hB2.out.size))
  clear hb4
  go_wp2
  go_ret2
  exact ⟨rfl, hB4.out⟩
set_option maxRecDepth 100000 in
set_option maxHeartbeats 2000000 in
theorem Floor_neg0_ok (a b k r : Nat) (w : World) (hE : Env w) (ha : a < Lim) (hb : b < Lim) (hv : validB true (T (some a)) (T (some b)) = true) (hq : quoO (some a) (some b) = some k ∧ remO (some a) (some b) = some r ∧ quoX (some a) (some b) = 0) (hkl : k < Lim) (hr : r = 0) (z : Int) (hA : AtoiOk ((⟨#[45]⟩ : ByteArray) ++ T (some k)) z) :
    Calls Tryz.prog 45 #[.agg #[.bool true, .string (T (some a)), .string (T (some b))]] w fun e w' => e = .returned (.tuple #[.int .i64 z, .int .i64 0]) ∧ Below w.heap.size w w' := by
  have sa := size_T (ok_some ha)
  have sb := size_T (ok_some hb)
  have zr := T_is_zero r
  rw [decide_eq_true hr] at zr
  have szk := T_size k hkl
  clear hr
  replace hE := Lib.hid hE
  replace hv := Lib.hid hv
  replace hq := Lib.hid hq
  replace hA := Lib.hid hA
  go_enter Tryz.func45, Tryz.ntmps45
  go_wp2_with fail
  refine (Valid_any true (T (some a)) (T (some b)) _ (hE.out.below (one_below _ _)) sa sb).mono ?_
  rintro e w1 ⟨rfl, hb1⟩
  rw [hv.out]
  have q1 := (B3.new w true (T (some a)) (T (some b))).below hb1
  have hB1 := Lib.hid ((one_below w (.cells #[.bool true, .string (T (some a)), .string (T (some b))] 23)).trans (hb1.mono (by simp)))
  obtain ⟨a1, a2, a3, a4, a5, a6⟩ := q1.facts
  clear hb1
  replace q1 := Lib.hid q1
  go_wp2_with fail
  refine (divT (some a) (some b) _ (hE.out.below hB1.out) (ok_some ha) (ok_some hb)).mono ?_
  rintro e w2 ⟨rfl, hb2⟩
  rw [hq.out.1, hq.out.2.1, hq.out.2.2]
  have q2 := q1.out.below hb2
  have hB2 := Lib.hid (hB1.out.trans (hb2.mono hB1.out.size))
  clear a1 a2 a3 a4 a5 a6 hb2 q1
  obtain ⟨a1, a2, a3, a4, a5, a6⟩ := q2.facts
  replace q2 := Lib.hid q2
  go_wp2_with fail
  refine (hA.out _ (hE.out.below hB2.out)).mono ?_
  rintro e w4 ⟨rfl, hb4⟩
  have hB4 := Lib.hid (hB2.out.trans (hb4.mono hB2.out.size))
  clear hb4
  go_wp2
  go_ret2
  exact ⟨rfl, hB4.out⟩
set_option maxRecDepth 100000 in
set_option maxHeartbeats 2000000 in
theorem Floor_neg0_bad (a b k r : Nat) (w : World) (hE : Env w) (ha : a < Lim) (hb : b < Lim) (hv : validB true (T (some a)) (T (some b)) = true) (hq : quoO (some a) (some b) = some k ∧ remO (some a) (some b) = some r ∧ quoX (some a) (some b) = 0) (hkl : k < Lim) (hr : r = 0) (hA : AtoiBad ((⟨#[45]⟩ : ByteArray) ++ T (some k))) :
    Calls Tryz.prog 45 #[.agg #[.bool true, .string (T (some a)), .string (T (some b))]] w fun e w' => e = .returned (.tuple #[.int .i64 0, .int .i64 10]) ∧ Below w.heap.size w w' := by
  have sa := size_T (ok_some ha)
  have sb := size_T (ok_some hb)
  have zr := T_is_zero r
  rw [decide_eq_true hr] at zr
  have szk := T_size k hkl
  clear hr
  replace hE := Lib.hid hE
  replace hv := Lib.hid hv
  replace hq := Lib.hid hq
  replace hA := Lib.hid hA
  go_enter Tryz.func45, Tryz.ntmps45
  go_wp2_with fail
  refine (Valid_any true (T (some a)) (T (some b)) _ (hE.out.below (one_below _ _)) sa sb).mono ?_
  rintro e w1 ⟨rfl, hb1⟩
  rw [hv.out]
  have q1 := (B3.new w true (T (some a)) (T (some b))).below hb1
  have hB1 := Lib.hid ((one_below w (.cells #[.bool true, .string (T (some a)), .string (T (some b))] 23)).trans (hb1.mono (by simp)))
  obtain ⟨a1, a2, a3, a4, a5, a6⟩ := q1.facts
  clear hb1
  replace q1 := Lib.hid q1
  go_wp2_with fail
  refine (divT (some a) (some b) _ (hE.out.below hB1.out) (ok_some ha) (ok_some hb)).mono ?_
  rintro e w2 ⟨rfl, hb2⟩
  rw [hq.out.1, hq.out.2.1, hq.out.2.2]
  have q2 := q1.out.below hb2
  have hB2 := Lib.hid (hB1.out.trans (hb2.mono hB1.out.size))
  clear a1 a2 a3 a4 a5 a6 hb2 q1
  obtain ⟨a1, a2, a3, a4, a5, a6⟩ := q2.facts
  replace q2 := Lib.hid q2
  go_wp2_with fail
  refine (hA.out _ (hE.out.below hB2.out)).mono ?_
  rintro e w4 ⟨y, N, rfl, hb4⟩
  have hB4 := Lib.hid (hB2.out.trans (hb4.mono hB2.out.size))
  clear hb4
  go_wp2
  go_ret2
  exact ⟨rfl, hB4.out⟩
set_option maxRecDepth 100000 in
set_option maxHeartbeats 2000000 in
theorem Floor_neg1_ok (a b k r : Nat) (w : World) (hE : Env w) (ha : a < Lim) (hb : b < Lim) (hv : validB true (T (some a)) (T (some b)) = true) (hq : quoO (some a) (some b) = some k ∧ remO (some a) (some b) = some r ∧ quoX (some a) (some b) = 0) (_hkl : k < Lim) (hr : r ≠ 0) (hk1 : k + 1 < Lim) (z : Int) (hA : AtoiOk ((⟨#[45]⟩ : ByteArray) ++ T (some (k + 1))) z) :
    Calls Tryz.prog 45 #[.agg #[.bool true, .string (T (some a)), .string (T (some b))]] w fun e w' => e = .returned (.tuple #[.int .i64 z, .int .i64 0]) ∧ Below w.heap.size w w' := by
  have sa := size_T (ok_some ha)
  have sb := size_T (ok_some hb)
  have zr := T_is_zero r
  rw [decide_eq_false hr] at zr
  have szk := T_size (k + 1) hk1
  replace hr := Lib.hid hr
  replace hE := Lib.hid hE
  replace hv := Lib.hid hv
  replace hq := Lib.hid hq
  replace hA := Lib.hid hA
  go_enter Tryz.func45, Tryz.ntmps45
  go_wp2_with fail
  refine (Valid_any true (T (some a)) (T (some b)) _ (hE.out.below (one_below _ _)) sa sb).mono ?_
  rintro e w1 ⟨rfl, hb1⟩
  rw [hv.out]
  have q1 := (B3.new w true (T (some a)) (T (some b))).below hb1
  have hB1 := Lib.hid ((one_below w (.cells #[.bool true, .string (T (some a)), .string (T (some b))] 23)).trans (hb1.mono (by simp)))
  obtain ⟨a1, a2, a3, a4, a5, a6⟩ := q1.facts
  clear hb1
  replace q1 := Lib.hid q1
  go_wp2_with fail
  refine (divT (some a) (some b) _ (hE.out.below hB1.out) (ok_some ha) (ok_some hb)).mono ?_
  rintro e w2 ⟨rfl, hb2⟩
  rw [hq.out.1, hq.out.2.1, hq.out.2.2]
  have q2 := q1.out.below hb2
  have hB2 := Lib.hid (hB1.out.trans (hb2.mono hB1.out.size))
  clear a1 a2 a3 a4 a5 a6 hb2 q1
  obtain ⟨a1, a2, a3, a4, a5, a6⟩ := q2.facts
  replace q2 := Lib.hid q2
  go_wp2_with fail
  refine (addOneT k _ (hE.out.below hB2.out) hk1).mono ?_
  rintro e w3 ⟨rfl, hb3⟩
  have hB3 := Lib.hid (hB2.out.trans (hb3.mono hB2.out.size))
  clear a1 a2 a3 a4 a5 a6 hb3
  go_wp2_with fail
  refine (hA.out _ (hE.out.below hB3.out)).mono ?_
  rintro e w4 ⟨rfl, hb4⟩
  have hB4 := Lib.hid (hB3.out.trans (hb4.mono hB3.out.size))
  clear hb4
  go_wp2
  go_ret2
  exact ⟨rfl, hB4.out⟩
set_option maxRecDepth 100000 in
set_option maxHeartbeats 2000000 in
theorem Floor_neg1_bad (a b k r : Nat) (w : World) (hE : Env w) (ha : a < Lim) (hb : b < Lim) (hv : validB true (T (some a)) (T (some b)) = true) (hq : quoO (some a) (some b) = some k ∧ remO (some a) (some b) = some r ∧ quoX (some a) (some b) = 0) (_hkl : k < Lim) (hr : r ≠ 0) (hk1 : k + 1 < Lim) (hA : AtoiBad ((⟨#[45]⟩ : ByteArray) ++ T (some (k + 1)))) :
    Calls Tryz.prog 45 #[.agg #[.bool true, .string (T (some a)), .string (T (some b))]] w fun e w' => e = .returned (.tuple #[.int .i64 0, .int .i64 10]) ∧ Below w.heap.size w w' := by
  have sa := size_T (ok_some ha)
  have sb := size_T (ok_some hb)
  have zr := T_is_zero r
  rw [decide_eq_false hr] at zr
  have szk := T_size (k + 1) hk1
  replace hr := Lib.hid hr
  replace hE := Lib.hid hE
  replace hv := Lib.hid hv
  replace hq := Lib.hid hq
  replace hA := Lib.hid hA
  go_enter Tryz.func45, Tryz.ntmps45
  go_wp2_with fail
  refine (Valid_any true (T (some a)) (T (some b)) _ (hE.out.below (one_below _ _)) sa sb).mono ?_
  rintro e w1 ⟨rfl, hb1⟩
  rw [hv.out]
  have q1 := (B3.new w true (T (some a)) (T (some b))).below hb1
  have hB1 := Lib.hid ((one_below w (.cells #[.bool true, .string (T (some a)), .string (T (some b))] 23)).trans (hb1.mono (by simp)))
  obtain ⟨a1, a2, a3, a4, a5, a6⟩ := q1.facts
  clear hb1
  replace q1 := Lib.hid q1
  go_wp2_with fail
  refine (divT (some a) (some b) _ (hE.out.below hB1.out) (ok_some ha) (ok_some hb)).mono ?_
  rintro e w2 ⟨rfl, hb2⟩
  rw [hq.out.1, hq.out.2.1, hq.out.2.2]
  have q2 := q1.out.below hb2
  have hB2 := Lib.hid (hB1.out.trans (hb2.mono hB1.out.size))
  clear a1 a2 a3 a4 a5 a6 hb2 q1
  obtain ⟨a1, a2, a3, a4, a5, a6⟩ := q2.facts
  replace q2 := Lib.hid q2
  go_wp2_with fail
  refine (addOneT k _ (hE.out.below hB2.out) hk1).mono ?_
  rintro e w3 ⟨rfl, hb3⟩
  have hB3 := Lib.hid (hB2.out.trans (hb3.mono hB2.out.size))
  clear a1 a2 a3 a4 a5 a6 hb3
  go_wp2_with fail
  refine (hA.out _ (hE.out.below hB3.out)).mono ?_
  rintro e w4 ⟨y, N, rfl, hb4⟩
  have hB4 := Lib.hid (hB3.out.trans (hb4.mono hB3.out.size))
  clear hb4
  go_wp2
  go_ret2
  exact ⟨rfl, hB4.out⟩
theorem neg_ediv_up (a d : Nat) (hd : 0 < d) (hr : a % d ≠ 0) : (-(a : Int)) / (d : Int) = -((a / d + 1 : Nat) : Int) := by
  have h1 := Nat.div_add_mod a d
  have h2 := Nat.mod_lt a hd
  have key : (-(a : Int)) / (d : Int) = -((a / d + 1 : Nat) : Int) ∧ (-(a : Int)) % (d : Int) = ((d - a % d : Nat) : Int) := by
    refine (Int.ediv_emod_unique (by omega)).2 ⟨?_, by omega, by omega⟩
    generalize a / d = k at *
    generalize a % d = r at *
    have h3 : ((d * k : Nat) : Int) = (d : Int) * (k : Int) := Int.natCast_mul _ _
    have h4 : (d : Int) * (-((k + 1 : Nat) : Int)) = -((d : Int) * (k : Int)) - d := by
      rw [Int.mul_neg, Int.natCast_add, Int.mul_add]
      omega
    rw [h4, ← h3]
    omega
  exact key.1
/-- The floor of a number, where an int holds it. -/
def floorV (q : Rat) : Int := if InInt q.floor then q.floor else 0
def floorE (q : Rat) : Int := if InInt q.floor then 0 else 10
theorem Floor_any (q : Rat) (hq : OkQ q) (w : World) (hE : Env w) :
    Calls Tryz.prog 45 #[qv q] w fun e w' => e = .returned (.tuple #[.int .i64 (floorV q), .int .i64 (floorE q)]) ∧ Below w.heap.size w w' := by
  have hv := valid_qv hq
  have hd := q.den_nz
  have hqq : quoO (some q.num.natAbs) (some q.den) = some (q.num.natAbs / q.den) ∧ remO (some q.num.natAbs) (some q.den) = some (q.num.natAbs % q.den) ∧ quoX (some q.num.natAbs) (some q.den) = 0 := ⟨if_neg hd, if_neg hd, if_neg hd⟩
  have hkl : q.num.natAbs / q.den < Lim := Nat.lt_of_le_of_lt (Nat.div_le_self _ _) hq.1
  have hfl : q.floor = q.num / q.den := Rat.floor_def q
  unfold floorV floorE
  rw [hfl]
  unfold qv
  have ht := T_size _ hkl
  by_cases hn : q.num < 0
  · rw [decide_eq_true hn] at hv ⊢
    by_cases hr : q.num.natAbs % q.den = 0
    · have hz : q.num / (q.den : Int) = -((q.num.natAbs / q.den : Nat) : Int) := by
        have e : q.num = -((q.num.natAbs : Nat) : Int) := by omega
        conv => lhs; rw [e]
        rw [Int.neg_ediv_of_dvd (Int.ofNat_dvd.2 (Nat.dvd_of_mod_eq_zero hr)), Int.natCast_ediv]
      have hk0 : 0 < q.num.natAbs / q.den := Nat.div_pos (Nat.le_of_dvd (by omega) (Nat.dvd_of_mod_eq_zero hr)) (by omega)
      have ha := atoi_neg _ hk0
      rw [← minus_list] at ha
      have hms := minus_size _ hkl
      rw [hz]
      clear hz hfl
      generalize q.num.natAbs / q.den = k at *
      by_cases hi : k ≤ 9223372036854775808
      · rw [if_pos hi] at ha
        have hin : InInt (-((k : Nat) : Int)) := ⟨by omega, by omega⟩
        rw [if_pos hin, if_pos hin]
        exact Floor_neg0_ok _ _ _ _ w hE hq.1 hq.2 hv hqq hkl hr _ (atoi_ok _ _ (by omega) ha)
      · rw [if_neg hi] at ha
        have hin : ¬ InInt (-((k : Nat) : Int)) := fun h => hi (by have := h.1; omega)
        rw [if_neg hin, if_neg hin]
        exact Floor_neg0_bad _ _ _ _ w hE hq.1 hq.2 hv hqq hkl hr (atoi_bad _ (by omega) ha)
    · have hz : q.num / (q.den : Int) = -((q.num.natAbs / q.den + 1 : Nat) : Int) := by
        have e : q.num = -((q.num.natAbs : Nat) : Int) := by omega
        conv => lhs; rw [e]
        exact neg_ediv_up _ _ (by omega) hr
      have hk1 : q.num.natAbs / q.den + 1 < Lim := by
        have h2 : 2 ≤ q.den := by
          rcases Nat.lt_or_ge q.den 2 with h | h
          · have : q.den = 1 := by omega
            rw [this, Nat.mod_one] at hr
            exact absurd rfl hr
          · exact h
        have h3 : q.num.natAbs / q.den ≤ q.num.natAbs / 2 := Nat.div_le_div_left h2 (by omega)
        generalize q.num.natAbs / q.den = k at *
        have := hq.1
        have := one_lt_Lim
        omega
      have ha := atoi_neg (q.num.natAbs / q.den + 1) (Nat.succ_pos _)
      rw [← minus_list] at ha
      have hms := minus_size _ hk1
      rw [hz]
      clear hz hfl
      generalize q.num.natAbs / q.den = k at *
      by_cases hi : k + 1 ≤ 9223372036854775808
      · rw [if_pos hi] at ha
        have hin : InInt (-((k + 1 : Nat) : Int)) := ⟨by omega, by omega⟩
        rw [if_pos hin, if_pos hin]
        exact Floor_neg1_ok _ _ _ _ w hE hq.1 hq.2 hv hqq hkl hr hk1 _ (atoi_ok _ _ (by omega) ha)
      · rw [if_neg hi] at ha
        have hin : ¬ InInt (-((k + 1 : Nat) : Int)) := fun h => hi (by have := h.1; omega)
        rw [if_neg hin, if_neg hin]
        exact Floor_neg1_bad _ _ _ _ w hE hq.1 hq.2 hv hqq hkl hr hk1 (atoi_bad _ (by omega) ha)
  · rw [decide_eq_false hn] at hv ⊢
    have hz : q.num / (q.den : Int) = ((q.num.natAbs / q.den : Nat) : Int) := by
      have e : q.num = ((q.num.natAbs : Nat) : Int) := by omega
      conv => lhs; rw [e]
      rw [Int.natCast_ediv]
    have ha := atoi_num (q.num.natAbs / q.den)
    rw [hz]
    clear hz hfl
    generalize q.num.natAbs / q.den = k at *
    by_cases hi : k ≤ 9223372036854775807
    · rw [if_pos hi] at ha
      have hin : InInt ((k : Nat) : Int) := ⟨by omega, by omega⟩
      rw [if_pos hin, if_pos hin]
      exact Floor_pos_ok _ _ _ _ w hE hq.1 hq.2 hv hqq hkl _ (atoi_ok _ _ (by omega) ha)
    · rw [if_neg hi] at ha
      have hin : ¬ InInt ((k : Nat) : Int) := fun h => hi (by have := h.2; omega)
      rw [if_neg hin, if_neg hin]
      exact Floor_pos_bad _ _ _ _ w hE hq.1 hq.2 hv hqq hkl (atoi_bad _ (by omega) ha)
end Nt
end Go.Proofs.YtpmlhgmmobpilaaGreatDoor

namespace Go.Proofs.YtpmlhgmmobpilaaGreatDoor
open Go.RowKit
namespace Nt
/-- A number of at most k digits above and below. -/
def Dg (k : Nat) (q : Rat) : Prop := q.num.natAbs < 10 ^ k ∧ q.den < 10 ^ k
theorem Dg.mono {k m : Nat} {q : Rat} (h : Dg k q) (hk : k ≤ m) : Dg m q := by
  have : 10 ^ k ≤ 10 ^ m := Nat.pow_le_pow_right (by omega) hk
  exact ⟨Nat.lt_of_lt_of_le h.1 this, Nat.lt_of_lt_of_le h.2 this⟩
theorem Dg.short {k : Nat} {q : Rat} (h : Dg k q) (hk : k ≤ 140) : ShortQ q := by
  have := h.mono (m := mx1) (by rw [mx1_eq]; exact hk)
  exact this
theorem mkRat_le (n : Int) (d : Nat) (hd : d ≠ 0) : (mkRat n d).num.natAbs ≤ n.natAbs ∧ (mkRat n d).den ≤ d := by
  have e : n = sg (decide (n < 0)) n.natAbs := (sg_self n).symm
  rw [e, mk_num _ _ _ hd, mk_den _ _ _ hd, sg_natAbs, sg_natAbs]
  exact ⟨Nat.div_le_self _ _, Nat.div_le_self _ _⟩
theorem Dg.add {k m : Nat} {p q : Rat} (hp : Dg k p) (hq : Dg m q) : Dg (k + m + 1) (p + q) := by
  have hd : p.den * q.den ≠ 0 := Nat.mul_ne_zero p.den_nz q.den_nz
  have h := mkRat_le (p.num * q.den + q.num * p.den) (p.den * q.den) hd
  rw [add_mk] at h
  have e : 10 ^ (k + m + 1) = 10 ^ k * 10 ^ m * 10 := by rw [Nat.pow_succ, Nat.pow_add]
  have h1 : p.num.natAbs * q.den < 10 ^ k * 10 ^ m := Nat.mul_lt_mul'' hp.1 hq.2
  have h2 : q.num.natAbs * p.den < 10 ^ m * 10 ^ k := Nat.mul_lt_mul'' hq.1 hp.2
  have h3 : p.den * q.den < 10 ^ k * 10 ^ m := Nat.mul_lt_mul'' hp.2 hq.2
  rw [Nat.mul_comm (10 ^ m)] at h2
  have h4 := Int.natAbs_add_le (p.num * q.den) (q.num * p.den)
  rw [Int.natAbs_mul, Int.natAbs_mul, Int.natAbs_natCast, Int.natAbs_natCast] at h4
  unfold Dg
  rw [e]
  generalize 10 ^ k * 10 ^ m = X at *
  exact ⟨by omega, by omega⟩
theorem Dg.neg {k : Nat} {q : Rat} (h : Dg k q) : Dg k (-q) := ⟨by show (-q.num).natAbs < 10 ^ k; rw [Int.natAbs_neg]; exact h.1, h.2⟩
theorem Dg.mul {k m : Nat} {p q : Rat} (hp : Dg k p) (hq : Dg m q) : Dg (k + m) (p * q) := by
  have hd : p.den * q.den ≠ 0 := Nat.mul_ne_zero p.den_nz q.den_nz
  have h := mkRat_le (p.num * q.num) (p.den * q.den) hd
  rw [← Rat.mul_def'] at h
  have h1 : p.num.natAbs * q.num.natAbs < 10 ^ k * 10 ^ m := Nat.mul_lt_mul'' hp.1 hq.1
  have h3 : p.den * q.den < 10 ^ k * 10 ^ m := Nat.mul_lt_mul'' hp.2 hq.2
  rw [Int.natAbs_mul] at h
  unfold Dg
  rw [Nat.pow_add]
  exact ⟨by omega, by omega⟩
end Nt
end Go.Proofs.YtpmlhgmmobpilaaGreatDoor

namespace Go.Proofs.YtpmlhgmmobpilaaGreatDoor
namespace Mo
open Nt
def halfQ : Rat := mkRat 1 2
theorem ofQ_one (k : Int) : ofQ k 1 = (k : Rat) := by
  unfold ofQ
  have e : (!(decide (k < 0) == decide ((1 : Int) < 0))) = decide (k < 0) := by cases decide (k < 0) <;> rfl
  rw [e, sg_self]
  exact Rat.mkRat_self (k : Rat)
theorem ofQ_half : ofQ 1 2 = halfQ := rfl
theorem short_int {k : Int} (h0 : -9223372036854775808 ≤ k) (h1 : k ≤ 9223372036854775807) : ShortQ (k : Rat) := by
  refine ⟨int_abs_lim h0 h1, ?_⟩
  have := int_abs_lim (n := 1) (by omega) (by omega)
  exact this
theorem short_half : ShortQ halfQ := by
  have h1 := int_abs_lim (n := 1) (by omega) (by omega)
  have h2 := int_abs_lim (n := 2) (by omega) (by omega)
  exact ⟨h1, h2⟩
/-- n and one half. -/
theorem mid_short {n : Int} (h0 : -9223372036854775808 ≤ n) (h1 : n ≤ 9223372036854775807) : ShortQ ((n : Rat) + halfQ) := by
  have hn : Dg 19 (n : Rat) := ⟨by show n.natAbs < _; omega, by show 1 < _; omega⟩
  have hh : Dg 1 halfQ := ⟨by decide, by decide⟩
  exact (hn.add hh).short (by omega)
/-- The nearest integer, and the even one of two. -/
def roundQ (q : Rat) : Int := if 0 < cmpQ q ((q.floor : Rat) + halfQ) ∨ (cmpQ q ((q.floor : Rat) + halfQ) = 0 ∧ q.floor.tmod 2 ≠ 0) then q.floor + 1 else q.floor
/-- What Round returns for a number of moderate size. -/
def roundV (q : Rat) : Int × Int := if InInt q.floor ∧ q.floor ≠ 9223372036854775807 then (roundQ q, 0) else (0, 10)
section
variable {f q h : Rat}
end
end Mo
end Go.Proofs.YtpmlhgmmobpilaaGreatDoor

namespace Go.Proofs.YtpmlhgmmobpilaaGreatDoor
open Go.RowKit Go.Shelf
namespace Mo
open Nt
theorem agg_qv (q : Rat) : ∃ g n d, qv q = .agg #[.bool g, .string n, .string d] := ⟨_, _, _, rfl⟩
set_option maxRecDepth 100000 in
set_option maxHeartbeats 8000000 in
theorem Round_short (q : Rat) (hs : ShortQ q) (w : World) (hE : Env w) :
    Calls Tryz.prog 12 #[qv q] w fun e w' => e = .returned (.tuple #[.int .i64 (roundV q).1, .int .i64 (roundV q).2]) ∧ Below w.heap.size w w' := by
  have hq := hs.ok
  have hsz := short_sizes hs
  have hv := valid_qv hq
  have s1 := T_size _ hq.1; have s2 := T_size _ hq.2
  obtain ⟨g, hg⟩ : ∃ g, g = decide (q.num < 0) := ⟨_, rfl⟩
  obtain ⟨n, hn⟩ : ∃ n, n = T (some q.num.natAbs) := ⟨_, rfl⟩
  obtain ⟨d, hd⟩ : ∃ d, d = T (some q.den) := ⟨_, rfl⟩
  have hqv : qv q = .agg #[.bool g, .string n, .string d] := by rw [hg, hn, hd]; rfl
  have kf : Hid (∀ W, Env W → Calls Tryz.prog 45 #[.agg #[.bool g, .string n, .string d]] W fun e w' => e = .returned (.tuple #[.int .i64 (floorV q), .int .i64 (floorE q)]) ∧ Below W.heap.size W w') := fun W hW => by rw [← hqv]; exact Floor_any q hq W hW
  rw [← hg, ← hn, ← hd] at hv
  rw [← hn, ← hd] at hsz
  rw [← hn] at s1; rw [← hd] at s2
  rw [hqv]
  clear hg hn hd
  have hB1 : Hid (Below w.heap.size w (w.alloc (.cells #[.bool g, .string n, .string d] 23))) := (Below.refl _ w).alloc (Nat.le_refl _) _
  have hb1 : Hid (B3 (w.alloc (.cells #[.bool g, .string n, .string d] 23)) w.heap.size g n d) := B3.new w g n d
  have kv := Lib.hid (Nt.Valid_any g n d (w.alloc (.cells #[.bool g, .string n, .string d] 23)) (hE.below hB1.out) (by omega) (by omega))
  rw [hv] at kv
  have m1 : decide (140 < (n.size : Int)) = false := decide_eq_false (by omega); have m2 : decide (140 < (d.size : Int)) = false := decide_eq_false (by omega)
  replace hE := Lib.hid hE
  by_cases hfl : InInt q.floor ∧ q.floor ≠ 9223372036854775807
  rotate_left
  · have hr : roundV q = (0, 10) := by unfold roundV; rw [if_neg hfl]
    rw [hr]
    by_cases hin : InInt q.floor
    · have hmx : q.floor = 9223372036854775807 := Decidable.byContradiction fun c => hfl ⟨hin, c⟩
      have e1 : floorV q = 9223372036854775807 := by unfold floorV; rw [if_pos hin, hmx]
      have e2 : floorE q = 0 := by unfold floorE; rw [if_pos hin]
      rw [e1, e2] at kf
      clear hr e1 e2 hin hmx hfl
      go_enter Tryz.func12, Tryz.ntmps12
      obtain ⟨x0, x1, x2, x3, x4, x5⟩ := hb1.out.facts
      have x9 := hb1.out.lt
      go_wp2_with fail
      refine kv.out.mono ?_
      rintro e w2 ⟨rfl, hb⟩
      have hB2 := Lib.hid (hB1.out.trans (hb.mono hB1.out.size)); have hb2 := Lib.hid (hb1.out.below hb)
      clear hb x0 x1 x2 x3 x4 x5 x9 kv
      obtain ⟨x0, x1, x2, x3, x4, x5⟩ := hb2.out.facts
      have x9 := hb2.out.lt
      have kF := Lib.hid (kf.out w2 (hE.out.below hB2.out))
      go_wp2_with fail
      refine kF.out.mono ?_
      rintro e w3 ⟨rfl, hb⟩
      have hB3 := Lib.hid (hB2.out.trans (hb.mono hB2.out.size)); have hb3 := Lib.hid (hb2.out.below hb)
      clear hb hb2 x0 x1 x2 x3 x4 x5 x9 kF kf
      go_wp2
      go_ret2
      exact ⟨rfl, hB3.out⟩
    · have e1 : floorV q = 0 := by unfold floorV; rw [if_neg hin]
      have e2 : floorE q = 10 := by unfold floorE; rw [if_neg hin]
      rw [e1, e2] at kf
      clear hr e1 e2 hin hfl
      go_enter Tryz.func12, Tryz.ntmps12
      obtain ⟨x0, x1, x2, x3, x4, x5⟩ := hb1.out.facts
      have x9 := hb1.out.lt
      go_wp2_with fail
      refine kv.out.mono ?_
      rintro e w2 ⟨rfl, hb⟩
      have hB2 := Lib.hid (hB1.out.trans (hb.mono hB1.out.size)); have hb2 := Lib.hid (hb1.out.below hb)
      clear hb x0 x1 x2 x3 x4 x5 x9 kv
      obtain ⟨x0, x1, x2, x3, x4, x5⟩ := hb2.out.facts
      have x9 := hb2.out.lt
      have kF := Lib.hid (kf.out w2 (hE.out.below hB2.out))
      go_wp2_with fail
      refine kF.out.mono ?_
      rintro e w3 ⟨rfl, hb⟩
      have hB3 := Lib.hid (hB2.out.trans (hb.mono hB2.out.size)); have hb3 := Lib.hid (hb2.out.below hb)
      clear hb hb2 x0 x1 x2 x3 x4 x5 x9 kF kf
      go_wp2
      go_ret2
      exact ⟨rfl, hB3.out⟩
  · have hr : roundV q = (roundQ q, 0) := by unfold roundV; rw [if_pos hfl]
    rw [hr]
    obtain ⟨⟨hi0, hi1⟩, hmx⟩ := hfl
    have e1 : floorV q = q.floor := by unfold floorV; rw [if_pos ⟨hi0, hi1⟩]
    have e2 : floorE q = 0 := by unfold floorE; rw [if_pos ⟨hi0, hi1⟩]
    rw [e1, e2] at kf
    have hrq : roundQ q = if 0 < cmpQ q ((q.floor : Rat) + halfQ) ∨ (cmpQ q ((q.floor : Rat) + halfQ) = 0 ∧ q.floor.tmod 2 ≠ 0) then q.floor + 1 else q.floor := rfl
    rw [hrq]
    generalize q.floor = N at hi0 hi1 hmx kf ⊢
    clear hr e1 e2 hrq
    have hN1 : N + 1 ≤ 9223372036854775807 := by omega
    obtain ⟨g1, n1, d1, q1⟩ := agg_qv (N : Rat)
    obtain ⟨g2, n2, d2, q2⟩ := agg_qv halfQ
    obtain ⟨g3, n3, d3, q3⟩ := agg_qv ((N : Rat) + halfQ)
    have ko1 : Hid (∀ W, Env W → Calls Tryz.prog 46 #[.int .i64 N, .int .i64 1] W fun e w' => e = .returned (.tuple #[.agg #[.bool g1, .string n1, .string d1], .int .i64 0]) ∧ Below W.heap.size W w') := fun W hW => by have h := RatOf_any N 1 hi0 hi1 (by omega) (by omega) (by omega) W hW; rw [ofQ_one, q1] at h; exact h
    have ko2 : Hid (∀ W, Env W → Calls Tryz.prog 46 #[.int .i64 1, .int .i64 2] W fun e w' => e = .returned (.tuple #[.agg #[.bool g2, .string n2, .string d2], .int .i64 0]) ∧ Below W.heap.size W w') := fun W hW => by have h := RatOf_any 1 2 (by omega) (by omega) (by omega) (by omega) (by omega) W hW; rw [ofQ_half, q2] at h; exact h
    have ka : Hid (∀ W, Env W → Calls Tryz.prog 20 #[.agg #[.bool g1, .string n1, .string d1], .agg #[.bool g2, .string n2, .string d2]] W fun e w' => e = .returned (.tuple #[.agg #[.bool g3, .string n3, .string d3], .int .i64 0]) ∧ Below W.heap.size W w') := fun W hW => by have h := Add_short (N : Rat) halfQ (short_int hi0 hi1) short_half W hW; rw [q1, q2, q3] at h; exact h
    have kc : Hid (∀ W, Env W → Calls Tryz.prog 25 #[.agg #[.bool g, .string n, .string d], .agg #[.bool g3, .string n3, .string d3]] W fun e w' => e = .returned (.tuple #[.int .i64 (cmpQ q ((N : Rat) + halfQ)), .int .i64 0]) ∧ Below W.heap.size W w') := fun W hW => by have h := Compare_short q ((N : Rat) + halfQ) hs (mid_short hi0 hi1) W hW; rw [hqv, q3] at h; exact h
    generalize cmpQ q ((N : Rat) + halfQ) = c at kc ⊢
    obtain ⟨res, hres⟩ : ∃ r, r = if 0 < c ∨ (c = 0 ∧ N.tmod 2 ≠ 0) then N + 1 else N := ⟨_, rfl⟩
    rw [← hres]
    replace hres := Lib.hid hres
    clear hs hsz hqv hq q1 q2 q3 hv
    have t1 : (N == 9223372036854775807) = false := by rw [beq_eq_false_iff_ne]; exact hmx
    go_enter Tryz.func12, Tryz.ntmps12
    obtain ⟨x0, x1, x2, x3, x4, x5⟩ := hb1.out.facts
    have x9 := hb1.out.lt
    go_wp2_with fail
    refine kv.out.mono ?_
    rintro e w2 ⟨rfl, hb⟩
    have hB2 := Lib.hid (hB1.out.trans (hb.mono hB1.out.size)); have hb2 := Lib.hid (hb1.out.below hb)
    clear hb x0 x1 x2 x3 x4 x5 x9 kv
    obtain ⟨x0, x1, x2, x3, x4, x5⟩ := hb2.out.facts
    have x9 := hb2.out.lt
    have kF := Lib.hid (kf.out w2 (hE.out.below hB2.out))
    go_wp2_with fail
    refine kF.out.mono ?_
    rintro e w3 ⟨rfl, hb⟩
    have hB3 := Lib.hid (hB2.out.trans (hb.mono hB2.out.size)); have hb3 := Lib.hid (hb2.out.below hb)
    clear hb hb2 x0 x1 x2 x3 x4 x5 x9 kF kf
    have k1 := Lib.hid (ko1.out w3 (hE.out.below hB3.out))
    go_wp2_with fail
    refine k1.out.mono ?_
    rintro e w4 ⟨rfl, hb⟩
    have hB4 := Lib.hid (hB3.out.trans (hb.mono hB3.out.size)); have hb4 := Lib.hid (hb3.out.below hb)
    clear hb hb3 k1 ko1
    have hB5 : Hid (Below w.heap.size w (w4.alloc (.cells #[.bool g1, .string n1, .string d1] 23))) := hB4.out.alloc hB4.out.size _
    have hb5 := Lib.hid (hb4.out.alloc (.cells #[.bool g1, .string n1, .string d1] 23))
    have hp5 : Hid (B3 (w4.alloc (.cells #[.bool g1, .string n1, .string d1] 23)) w4.heap.size g1 n1 d1) := B3.new w4 g1 n1 d1
    clear hB4 hb4
    have k2 := Lib.hid (ko2.out (w4.alloc (.cells #[.bool g1, .string n1, .string d1] 23)) (hE.out.below hB5.out))
    go_wp2_with fail
    refine k2.out.mono ?_
    rintro e w6 ⟨rfl, hb⟩
    have hB6 := Lib.hid (hB5.out.trans (hb.mono hB5.out.size)); have hb6 := Lib.hid (hb5.out.below hb); have hp6 := Lib.hid (hp5.out.below hb)
    clear hb hB5 hb5 hp5 k2 ko2
    have hB7 : Hid (Below w.heap.size w (w6.alloc (.cells #[.bool g2, .string n2, .string d2] 23))) := hB6.out.alloc hB6.out.size _
    have hb7 := Lib.hid (hb6.out.alloc (.cells #[.bool g2, .string n2, .string d2] 23))
    have hp7 := Lib.hid (hp6.out.alloc (.cells #[.bool g2, .string n2, .string d2] 23))
    have hr7 : Hid (B3 (w6.alloc (.cells #[.bool g2, .string n2, .string d2] 23)) w6.heap.size g2 n2 d2) := B3.new w6 g2 n2 d2
    have k3 := Lib.hid (ka.out (w6.alloc (.cells #[.bool g2, .string n2, .string d2] 23)) (hE.out.below hB7.out))
    obtain ⟨y0, y1, y2, y3, y4, y5⟩ := hp6.out.facts
    have y9 := hp6.out.lt
    clear hB6 hb6 hp6
    go_wp2_with fail
    refine k3.out.mono ?_
    rintro e w8 ⟨rfl, hb⟩
    have hB8 := Lib.hid (hB7.out.trans (hb.mono hB7.out.size)); have hb8 := Lib.hid (hb7.out.below hb)
    clear hb hB7 hb7 hp7 hr7 k3 ka y0 y1 y2 y3 y4 y5 y9
    have hB9 : Hid (Below w.heap.size w (w8.alloc (.cells #[.bool g3, .string n3, .string d3] 23))) := hB8.out.alloc hB8.out.size _
    have k4 := Lib.hid (kc.out (w8.alloc (.cells #[.bool g3, .string n3, .string d3] 23)) (hE.out.below hB9.out))
    obtain ⟨x0, x1, x2, x3, x4, x5⟩ := hb8.out.facts
    have x9 := hb8.out.lt
    clear hB8 hb8
    go_wp2_with fail
    refine k4.out.mono ?_
    rintro e w10 ⟨rfl, hb⟩
    have hB10 := Lib.hid (hB9.out.trans (hb.mono hB9.out.size))
    clear hb hB9 k4 kc x0 x1 x2 x3 x4 x5 x9
    by_cases c1 : 0 < c
    · obtain rfl : res = N + 1 := by rw [hres.out, if_pos (.inl c1)]
      have v1 : decide (0 < c) = true := decide_eq_true c1
      replace c1 := Lib.hid c1
      clear hres
      go_wp2
      go_ret2
      exact ⟨rfl, hB10.out⟩
    · have v1 : decide (0 < c) = false := decide_eq_false c1
      by_cases c2 : c = 0 ∧ N.tmod 2 ≠ 0
      · obtain rfl : res = N + 1 := by rw [hres.out, if_pos (.inr c2)]
        have v2 : (c == 0) = true := by rw [beq_iff_eq]; exact c2.1
        have v3 : (N.tmod 2 != 0) = true := by rw [bne_iff_ne]; exact c2.2
        replace c1 := Lib.hid c1; replace c2 := Lib.hid c2
        clear hres
        go_wp2
        go_ret2
        exact ⟨rfl, hB10.out⟩
      · obtain rfl : N = res := by rw [hres.out, if_neg fun h => h.elim c1 c2]
        by_cases c3 : c = 0
        · have v2 : (c == 0) = true := by rw [beq_iff_eq]; exact c3
          have v3 : (N.tmod 2 != 0) = false := by rw [bne_eq_false_iff_eq]; exact Decidable.byContradiction fun h => c2 ⟨c3, h⟩
          replace c1 := Lib.hid c1; replace c2 := Lib.hid c2; replace c3 := Lib.hid c3
          clear hres
          go_wp2
          go_ret2
          exact ⟨rfl, hB10.out⟩
        · have v2 : (c == 0) = false := by rw [beq_eq_false_iff_ne]; exact c3
          replace c1 := Lib.hid c1; replace c2 := Lib.hid c2; replace c3 := Lib.hid c3
          clear hres
          go_wp2
          go_ret2
          exact ⟨rfl, hB10.out⟩
end Mo
end Go.Proofs.YtpmlhgmmobpilaaGreatDoor

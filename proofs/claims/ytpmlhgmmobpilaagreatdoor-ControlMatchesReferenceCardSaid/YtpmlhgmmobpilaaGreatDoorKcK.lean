/- Texts that the proof needs: CirE. -/
import Derived.Deep.RegionHeld3
import Derived.Deep.QuietTactic
import Derived.BigQuiet
import Derived.Test.YtpmlhgmmobpilaaGreatDoorKcA
import Derived.Test.YtpmlhgmmobpilaaGreatDoorKcB
import Derived.Test.YtpmlhgmmobpilaaGreatDoorKcC
import Derived.Test.YtpmlhgmmobpilaaGreatDoorKcD
import Derived.Test.YtpmlhgmmobpilaaGreatDoorKcE
import Derived.Test.YtpmlhgmmobpilaaGreatDoorKcF
import Derived.Test.YtpmlhgmmobpilaaGreatDoorKcI
import Derived.Test.YtpmlhgmmobpilaaGreatDoorKcJ
namespace Go.Proofs.YtpmlhgmmobpilaaGreatDoor
open Go.RowKit Go.Shelf
namespace Ci
open Nt
set_option maxRecDepth 100000 in
set_option maxHeartbeats 4000000 in
theorem small_any (s : ByteArray) (h : isN s = true) (h4 : s.size ≤ 4) (w : World) :
    Calls Tryz.prog 159 #[.string s] w fun e w' => e = .returned (.int .i64 (val s : Int)) ∧ Below w.heap.size w w' := by
  have hd := Lib.hid (dig_of_isN h)
  have hv : Hid (∀ k, k ≤ s.size → dval (s.data.toList.take k) < 10000) := fun k hk => by
    have h1 := dval_lt (l := s.data.toList.take k) fun c hc => hd.out c (List.mem_of_mem_take hc)
    have h2 : (s.data.toList.take k).length ≤ 4 := by
      have h3 : (s.data.toList.take k).length ≤ k := List.length_take_le _ _
      omega
    have h3 : 10 ^ (s.data.toList.take k).length ≤ 10 ^ 4 := Nat.pow_le_pow_right (by omega) h2
    omega
  have hst : Hid (∀ k (hk : k < s.size), dval (s.data.toList.take (k + 1)) = 10 * dval (s.data.toList.take k) + (s[k].toNat - 48) ∧ 48 ≤ s[k].toNat ∧ s[k].toNat ≤ 57) := fun k hk => by
    have hk2 : k < s.data.toList.length := by have := Lib.size_eq s; omega
    have e1 : s.data.toList[k] = s[k] := rfl
    have hdk := hd.out s.data.toList[k] (List.getElem_mem hk2)
    rw [e1] at hdk
    have e2 : dval [s[k]] = s[k].toNat - 48 := by rw [dval_cons]; simp [dval]
    refine ⟨?_, hdk.1, hdk.2⟩
    rw [List.take_succ_eq_append_getElem hk2, dval_append, e1, e2]
    simp only [List.length_cons, List.length_nil]
    omega
  have hve : Hid (val s = dval (s.data.toList.take s.size)) := by
    have h1 : s.data.toList.take s.size = s.data.toList := List.take_of_length_le (by have := Lib.size_eq s; omega)
    rw [h1]; rfl
  clear h
  go_enter Tryz.func159, Tryz.ntmps159
  go_wp2
  go_loop [3, 4] (fun a i => ∃ k m : Nat, k ≤ s.size ∧ i = .int .i64 (k : Int) ∧ a = .int .i64 (m : Int) ∧ Hid (m = dval (s.data.toList.take k))) (fun _ i => s.size - (intOf i).toNat)
  case atStart => exact ⟨0, 0, Nat.zero_le _, rfl, rfl, rfl⟩
  case round =>
    obtain ⟨k, m, hk, rfl, rfl, hm⟩ := hrel
    have hmv : m < 10000 := by rw [hm.out]; exact hv.out k hk
    by_cases hlt : k < s.size
    · obtain ⟨q1, q2, q3⟩ := hst.out k hlt
      have hs2 := Lib.hid (show 10 * m + (s[k].toNat - 48) = dval (s.data.toList.take (k + 1)) by rw [q1, hm.out])
      clear q1
      have i0 : (0 : Int) ≤ (k : Int) := by omega
      have i1 : (k : Int) < (s.size : Int) := by omega
      go_wp2
      go_round
      case rel => exact ⟨k + 1, 10 * m + (s[k].toNat - 48), by omega, by go_num, by go_num, hs2⟩
      case measure => simp [intOf]; omega
    · obtain rfl : k = s.size := by omega
      have hz := Lib.hid (show val s = m by rw [hve.out, hm.out])
      go_wp2
      go_ret
      exact ⟨by rw [hz.out]; rfl, Below.refl _ _⟩
set_option maxRecDepth 100000 in
set_option maxHeartbeats 4000000 in
theorem RUnits_any (g : Bool) (n d : ByteArray) (w : World) (hn : n.size ≤ 140737488355328) (hd : d.size ≤ 140737488355328) :
    Calls Tryz.prog 119 #[.agg #[.bool g, .string n, .string d]] w fun e w' => e = .returned (.int .i64 (unitsN (g, n, d) : Int)) ∧ Below w.heap.size w w' := by
  have hv : Hid (∀ W, Calls Tryz.prog 47 #[.agg #[.bool g, .string n, .string d]] W fun e w' => e = .returned (.bool (validB g n d)) ∧ Below W.heap.size W w') := fun W => RRValid_any g n d W hn hd
  have hB0 : Hid (Below w.heap.size w (w.alloc (.cells #[.bool g, .string n, .string d] 23))) := (Below.refl _ w).alloc (Nat.le_refl _) _
  have hF0 : Hid (B3 (w.alloc (.cells #[.bool g, .string n, .string d] 23)) w.heap.size g n d) := B3.new w g n d
  cases h1 : validB g n d with
  | false =>
    have HG := Lib.hid (units_bad (g := g) (n := n) (d := d) (.inl h1))
    rw [h1] at hv
    clear h1
    go_enter Tryz.func119, Tryz.ntmps119
    go_wp2_with fail
    refine (hv.out _).mono ?_
    rintro e w1 ⟨rfl, hb⟩
    have hB1 := Lib.hid (hB0.out.trans (hb.mono hB0.out.size))
    clear hb
    go_wp2
    go_ret
    exact ⟨by rw [HG.out]; rfl, hB1.out⟩
  | true =>
    rw [h1] at hv
    obtain ⟨q1, q2, q3⟩ := valid_parts h1
    by_cases hbad : g = true ∨ 4 < n.size ∨ 4 < d.size
    · have HG := Lib.hid (units_bad (g := g) (n := n) (d := d) (.inr hbad))
      clear h1 q1 q2 q3
      go_enter Tryz.func119, Tryz.ntmps119
      go_wp2_with fail
      refine (hv.out _).mono ?_
      rintro e w1 ⟨rfl, hb⟩
      have hB1 := Lib.hid (hB0.out.trans (hb.mono hB0.out.size))
      obtain ⟨f1, f2, f3, _, _, _⟩ := (hF0.out.below hb).facts
      have f4 := (hF0.out.below hb).lt
      clear hb
      have hcl : g = true ∨ (g = false ∧ 4 < n.size) ∨ (g = false ∧ n.size ≤ 4 ∧ 4 < d.size) := by
        cases g
        · rcases hbad with h | h | h
          · cases h
          · exact .inr (.inl ⟨rfl, h⟩)
          · by_cases c : 4 < n.size
            · exact .inr (.inl ⟨rfl, c⟩)
            · exact .inr (.inr ⟨rfl, by omega, h⟩)
        · exact .inl rfl
      clear hbad
      rcases hcl with rfl | ⟨rfl, z1⟩ | ⟨rfl, z1, z2⟩
      all_goals (
        go_wp2
        go_ret
        exact ⟨by rw [HG.out]; rfl, hB1.out⟩)
    · have z0 : g = false := by
        cases g
        · rfl
        · exact absurd (.inl rfl) hbad
      have z1 : n.size ≤ 4 := by omega
      have z2 : d.size ≤ 4 := by omega
      have HG := units_more h1 z0 z1 z2
      have ka : Hid (∀ W, Calls Tryz.prog 159 #[.string n] W fun e w' => e = .returned (.int .i64 (val n : Int)) ∧ Below W.heap.size W w') := fun W => small_any n q1 z1 W
      have kb : Hid (∀ W, Calls Tryz.prog 159 #[.string d] W fun e w' => e = .returned (.int .i64 (val d : Int)) ∧ Below W.heap.size W w') := fun W => small_any d q2 z2 W
      have v1 := val4 q1 z1
      have v2 := val4 q2 z2
      subst z0
      clear h1 hbad q1 q2
      generalize hA : val n = a at *
      generalize hB : val d = b at *
      clear hA hB
      have v3 : 1 ≤ b := by omega
      have hcl : (b < a) ∨ (a ≤ b ∧ 6000 % b ≠ 0) ∨ (a ≤ b ∧ 6000 % b = 0) := by omega
      rcases hcl with c1 | ⟨c1, c2⟩ | ⟨c1, c2⟩
      · rw [if_pos (.inl c1)] at HG
        replace HG := Lib.hid HG
        go_enter Tryz.func119, Tryz.ntmps119
        go_wp2_with fail
        refine (hv.out _).mono ?_
        rintro e w1 ⟨rfl, hb⟩
        have hB1 := Lib.hid (hB0.out.trans (hb.mono hB0.out.size))
        have hF1 := Lib.hid (hF0.out.below hb)
        obtain ⟨f1, f2, f3, _, _, _⟩ := hF1.out.facts
        have f4 := hF1.out.lt
        clear hb
        go_wp2_with fail
        refine (ka.out _).mono ?_
        rintro e w2 ⟨rfl, hb⟩
        have hB2 := Lib.hid (hB1.out.trans (hb.mono hB1.out.size))
        have hF2 := Lib.hid (hF1.out.below hb)
        clear hb f1 f2 f3 f4
        obtain ⟨f1, f2, f3, _, _, _⟩ := hF2.out.facts
        have f4 := hF2.out.lt
        go_wp2_with fail
        refine (kb.out _).mono ?_
        rintro e w3 ⟨rfl, hb⟩
        have hB3 := Lib.hid (hB2.out.trans (hb.mono hB2.out.size))
        clear hb f1 f2 f3 f4
        go_wp2
        go_ret
        exact ⟨by rw [HG.out]; rfl, hB3.out⟩
      · rw [if_pos (.inr c2)] at HG
        replace HG := Lib.hid HG
        have t1 : ((6000 : Int) % (b : Int) != 0) = true := by rw [bne_iff_ne, mod6]; omega
        go_enter Tryz.func119, Tryz.ntmps119
        go_wp2_with fail
        refine (hv.out _).mono ?_
        rintro e w1 ⟨rfl, hb⟩
        have hB1 := Lib.hid (hB0.out.trans (hb.mono hB0.out.size))
        have hF1 := Lib.hid (hF0.out.below hb)
        obtain ⟨f1, f2, f3, _, _, _⟩ := hF1.out.facts
        have f4 := hF1.out.lt
        clear hb
        go_wp2_with fail
        refine (ka.out _).mono ?_
        rintro e w2 ⟨rfl, hb⟩
        have hB2 := Lib.hid (hB1.out.trans (hb.mono hB1.out.size))
        have hF2 := Lib.hid (hF1.out.below hb)
        clear hb f1 f2 f3 f4
        obtain ⟨f1, f2, f3, _, _, _⟩ := hF2.out.facts
        have f4 := hF2.out.lt
        go_wp2_with fail
        refine (kb.out _).mono ?_
        rintro e w3 ⟨rfl, hb⟩
        have hB3 := Lib.hid (hB2.out.trans (hb.mono hB2.out.size))
        clear hb f1 f2 f3 f4
        go_wp2
        go_ret
        exact ⟨by rw [HG.out]; rfl, hB3.out⟩
      · rw [if_neg (by omega)] at HG
        replace HG := Lib.hid HG
        have t1 : ((6000 : Int) % (b : Int) != 0) = false := by rw [bne_eq_false_iff_eq, mod6]; omega
        have t2 : a * (6000 / b) ≤ 6000 := Nat.le_trans (Nat.mul_le_mul_right _ c1) (Nat.mul_div_le _ _)
        have t3 : (0 : Int) ≤ (a : Int) * ((6000 : Int) / (b : Int)) := by have := Int.natCast_nonneg (a * (6000 / b)); rw [Int.natCast_mul] at this; exact this
        have t4 : (a : Int) * ((6000 : Int) / (b : Int)) ≤ 6000 := by have h : ((a * (6000 / b) : Nat) : Int) ≤ 6000 := by omega
                                                                      rw [Int.natCast_mul] at h; exact h
        have HP : Hid (((a * (6000 / b) : Nat) : Int) = (a : Int) * ((6000 : Int) / (b : Int))) := by rw [Int.natCast_mul]; rfl
        clear t2
        go_enter Tryz.func119, Tryz.ntmps119
        go_wp2_with fail
        refine (hv.out _).mono ?_
        rintro e w1 ⟨rfl, hb⟩
        have hB1 := Lib.hid (hB0.out.trans (hb.mono hB0.out.size))
        have hF1 := Lib.hid (hF0.out.below hb)
        obtain ⟨f1, f2, f3, _, _, _⟩ := hF1.out.facts
        have f4 := hF1.out.lt
        clear hb
        go_wp2_with fail
        refine (ka.out _).mono ?_
        rintro e w2 ⟨rfl, hb⟩
        have hB2 := Lib.hid (hB1.out.trans (hb.mono hB1.out.size))
        have hF2 := Lib.hid (hF1.out.below hb)
        clear hb f1 f2 f3 f4
        obtain ⟨f1, f2, f3, _, _, _⟩ := hF2.out.facts
        have f4 := hF2.out.lt
        go_wp2_with fail
        refine (kb.out _).mono ?_
        rintro e w3 ⟨rfl, hb⟩
        have hB3 := Lib.hid (hB2.out.trans (hb.mono hB2.out.size))
        clear hb f1 f2 f3 f4
        go_wp2
        go_ret
        exact ⟨by rw [HG.out, HP.out]; rfl, hB3.out⟩
end Ci
end Go.Proofs.YtpmlhgmmobpilaaGreatDoor
namespace Go.Proofs.YtpmlhgmmobpilaaGreatDoor
open Go.RowKit Go.Shelf
namespace Ci
open Nt
def isReg (k : Nat) : Code → Bool
  | .region a _ _ => a == k
  | _ => false
noncomputable def rlR (j : Nat) : Code := ((Tryz.f118.body.map regsOf).bind fun l => l.find? (isReg j)).getD .skip
set_option maxRecDepth 1000000 in
set_option maxHeartbeats 16000000 in
theorem rlreg8 {c0 c2 c3 c4 c5 c8 c9 c10 c11 c12 c13 c14 c15 c16 c17 c18 c19 c20 c21 c22 c23 c24 c25 c26 c27 c28 c29 c30 c31 c32 c33 c34 c35 c36 c37 c38 c39 c40 c41 c42 c43 c44 c45 c46 c47 c48 c49 c50 c51 c52 c88 c89 c90 c91 c92 c93 c94 c95 c96 c97 c98 c99 c100 c101 c102 c103 a53 a54 a55 a56 a57 a58 a59 a60 a61 a62 a63 a64 a65 a66 a67 a68 a69 a70 a71 a72 a73 a74 a75 a76 a77 a78 a79 a80 a81 a82 a83 a84 a85 a86 a87 : Value} {Q : Exit → Act → World → Prop} (xb b of cap k len : Nat) (co hoo pc ph : Int) (r : Bool) (hr : r = decide (0 < k ∧ (co < pc ∨ (co = pc ∧ hoo ≤ ph)))) (w : World) (hk : k < len) (hlen : len ≤ 140737488355328) (u2 : w.cell? ⟨xb, 0, none⟩ = some (.int .i64 co)) (u3 : w.cell? ⟨xb, 1, none⟩ = some (.int .i64 hoo)) (_u9 : xb < w.heap.size) (hp : 0 < k → w.cell? ⟨b, of + (k - 1) * 5, none⟩ = some (.int .i64 pc) ∧ w.cell? ⟨b, of + (k - 1) * 5 + 1, none⟩ = some (.int .i64 ph))
    (h : ∀ (u53 u54 u55 u56 u57 u58 u59 u60 u61 u62 u63 u64 u65 u66 u67 u68 u69 u70 u71 u72 u73 u74 u75 u76 u77 u78 u79 u80 u81 u82 u83 u84 u85 u86 : Value) (q : Nat), Q .normal ⟨#[c0, .slice (some ⟨b, of, none⟩) len cap, c2, c3, c4, c5, .int .i64 (k : Int), .pointer (some ⟨xb, 0, none⟩), c8, c9, c10, c11, c12, c13, c14, c15, c16, c17, c18, c19, c20, c21, c22, c23, c24, c25, c26, c27, c28, c29, c30, c31, c32, c33, c34, c35, c36, c37, c38, c39, c40, c41, c42, c43, c44, c45, c46, c47, c48, c49, c50, c51, c52, u53, u54, u55, u56, u57, u58, u59, u60, u61, u62, u63, u64, u65, u66, u67, u68, u69, u70, u71, u72, u73, u74, u75, u76, u77, u78, u79, u80, u81, u82, u83, u84, u85, u86, .bool r, c88, c89, c90, c91, c92, c93, c94, c95, c96, c97, c98, c99, c100, c101, c102, c103], []⟩ (w.drewN q)) :
    Code.wp Tryz.prog (rlR 8) Q ⟨#[c0, .slice (some ⟨b, of, none⟩) len cap, c2, c3, c4, c5, .int .i64 (k : Int), .pointer (some ⟨xb, 0, none⟩), c8, c9, c10, c11, c12, c13, c14, c15, c16, c17, c18, c19, c20, c21, c22, c23, c24, c25, c26, c27, c28, c29, c30, c31, c32, c33, c34, c35, c36, c37, c38, c39, c40, c41, c42, c43, c44, c45, c46, c47, c48, c49, c50, c51, c52, a53, a54, a55, a56, a57, a58, a59, a60, a61, a62, a63, a64, a65, a66, a67, a68, a69, a70, a71, a72, a73, a74, a75, a76, a77, a78, a79, a80, a81, a82, a83, a84, a85, a86, a87, c88, c89, c90, c91, c92, c93, c94, c95, c96, c97, c98, c99, c100, c101, c102, c103], []⟩ w := by
  conv => arg 2; whnf
  conv => arg 4; zeta
  replace h := Lib.hid h
  have hlen2 : k ≤ 140737488355328 := by omega
  by_cases hk0 : k = 0
  · have m1 : decide (0 < (k : Int)) = false := decide_eq_false (by omega)
    have m2 : decide (0 < k) = false := decide_eq_false (by omega)
    obtain rfl : r = false := by rw [hr, decide_eq_false (by omega)]
    clear hr hp
    replace hk0 := Lib.hid hk0
    go_wp2_with fail
    go_quiet (fail)
    go_wp2
    exact h.out ..
  · have m1 : decide (0 < (k : Int)) = true := decide_eq_true (by omega)
    have m2 : decide (0 < k) = true := decide_eq_true (by omega)
    obtain ⟨p1, p2⟩ := hp (by omega)
    have j2 : (0 : Int) ≤ (k : Int) - 1 := by omega
    have j3 : (k : Int) - 1 < (len : Int) := by omega
    have j4 : IntKind.i64.wrap ((k : Int) - 1) = (k : Int) - 1 := IntWalk.i64_in _ (by omega)
    have j5 : ((k : Int) - 1).toNat = k - 1 := by omega
    have hk1 : 0 < k := by omega
    clear hp hk0
    have hcl : co < pc ∨ pc < co ∨ (co = pc ∧ hoo ≤ ph) ∨ (co = pc ∧ ph < hoo) := by omega
    rcases hcl with c1 | c1 | ⟨c1, c2⟩ | ⟨c1, c2⟩
    · obtain rfl : r = true := by rw [hr, decide_eq_true ⟨hk1, .inl c1⟩]
      have m3 : decide (co < pc) = true := decide_eq_true c1
      clear hr
      go_wp2_with fail
      go_quiet (fail)
      go_wp2
      exact h.out ..
    · obtain rfl : r = false := by rw [hr, decide_eq_false (by omega)]
      have m3 : decide (co < pc) = false := decide_eq_false (by omega)
      have m4 : (co == pc) = false := by rw [beq_eq_false_iff_ne]; omega
      clear hr
      go_wp2_with fail
      go_quiet (fail)
      go_wp2
      exact h.out ..
    · obtain rfl : r = true := by rw [hr, decide_eq_true ⟨hk1, .inr ⟨c1, c2⟩⟩]
      have m3 : decide (co < pc) = false := decide_eq_false (by omega)
      have m4 : (co == pc) = true := by rw [beq_iff_eq]; exact c1
      have m5 : decide (hoo ≤ ph) = true := decide_eq_true c2
      clear hr
      replace c1 := Lib.hid c1
      go_wp2_with fail
      go_quiet (fail)
      go_wp2
      exact h.out ..
    · obtain rfl : r = false := by rw [hr, decide_eq_false (by omega)]
      have m3 : decide (co < pc) = false := decide_eq_false (by omega)
      have m4 : (co == pc) = true := by rw [beq_iff_eq]; exact c1
      have m5 : decide (hoo ≤ ph) = false := decide_eq_false (by omega)
      clear hr
      replace c1 := Lib.hid c1
      go_wp2_with fail
      go_quiet (fail)
      go_wp2
      exact h.out ..
set_option maxRecDepth 1000000 in
set_option maxHeartbeats 16000000 in
theorem rlreg10 {c0 c1 c2 c3 c4 c6 c8 c9 c10 c11 c12 c13 c14 c15 c16 c17 c18 c19 c20 c21 c22 c23 c24 c25 c26 c27 c28 c29 c30 c31 c32 c33 c34 c35 c36 c37 c38 c39 c40 c41 c42 c43 c44 c45 c46 c47 c48 c49 c50 c51 c52 c53 c54 c55 c56 c57 c58 c59 c60 c61 c62 c63 c64 c65 c66 c67 c68 c69 c70 c71 c72 c73 c74 c75 c76 c77 c78 c79 c80 c81 c82 c83 c84 c85 c86 c87 c98 c99 c100 c101 c102 c103 a88 a89 a90 a91 a92 a93 a94 a95 a96 a97 : Value} {Q : Exit → Act → World → Prop} (xb sb n co U : Nat) (hoo o : Int) (g : Bool) (nn dd : ByteArray) (w : World) (hco : co < n) (hU : U ≤ 6000) (ho1 : 0 ≤ o) (ho2 : o ≤ 6000) (hX : Bk w xb 94 [.int .i64 (co : Int), .int .i64 hoo, .bool g, .string nn, .string dd]) (hs : w.cell? ⟨sb, co, none⟩ = some (.int .i64 o)) (hf : w.frozen? ⟨sb, co, none⟩ = false) (hsl : sb < w.heap.size) (ku : ∀ W, Calls Tryz.prog 119 #[.agg #[.bool g, .string nn, .string dd]] W fun e w' => e = .returned (.int .i64 (U : Int)) ∧ Below W.heap.size W w')
    (h : ∀ (u88 u89 u90 u91 u92 u93 u94 u95 u96 u97 : Value) (w3 : World) (_ : Below w.heap.size w w3), Q .normal ⟨#[c0, c1, c2, c3, c4, .slice (some ⟨sb, 0, none⟩) n n, c6, .pointer (some ⟨xb, 0, none⟩), c8, c9, c10, c11, c12, c13, c14, c15, c16, c17, c18, c19, c20, c21, c22, c23, c24, c25, c26, c27, c28, c29, c30, c31, c32, c33, c34, c35, c36, c37, c38, c39, c40, c41, c42, c43, c44, c45, c46, c47, c48, c49, c50, c51, c52, c53, c54, c55, c56, c57, c58, c59, c60, c61, c62, c63, c64, c65, c66, c67, c68, c69, c70, c71, c72, c73, c74, c75, c76, c77, c78, c79, c80, c81, c82, c83, c84, c85, c86, c87, u88, u89, u90, u91, u92, u93, u94, u95, u96, u97, c98, c99, c100, c101, c102, c103], []⟩ (w3.setCell ⟨sb, co, none⟩ (.int .i64 (o + (U : Int))))) :
    Code.wp Tryz.prog (rlR 10) Q ⟨#[c0, c1, c2, c3, c4, .slice (some ⟨sb, 0, none⟩) n n, c6, .pointer (some ⟨xb, 0, none⟩), c8, c9, c10, c11, c12, c13, c14, c15, c16, c17, c18, c19, c20, c21, c22, c23, c24, c25, c26, c27, c28, c29, c30, c31, c32, c33, c34, c35, c36, c37, c38, c39, c40, c41, c42, c43, c44, c45, c46, c47, c48, c49, c50, c51, c52, c53, c54, c55, c56, c57, c58, c59, c60, c61, c62, c63, c64, c65, c66, c67, c68, c69, c70, c71, c72, c73, c74, c75, c76, c77, c78, c79, c80, c81, c82, c83, c84, c85, c86, c87, a88, a89, a90, a91, a92, a93, a94, a95, a96, a97, c98, c99, c100, c101, c102, c103], []⟩ w := by
  conv => arg 2; whnf
  conv => arg 4; zeta
  replace h := Lib.hid h
  have c0 := hX.cell (j := 0) rfl
  have c2 := hX.cell (j := 2) rfl
  have c3 := hX.cell (j := 3) rfl
  have c4 := hX.cell (j := 4) rfl
  have c9 := hX.lt
  have j0 : (0 : Int) ≤ (co : Int) := by omega
  have j1 : (co : Int) < (n : Int) := by omega
  have jw : IntKind.i64.wrap (o + (U : Int)) = o + (U : Int) := IntWalk.i64_in _ (by omega)
  have hKB : Hid (∀ W1 W2, Below w.heap.size w W1 → Below W1.heap.size W1 W2 → Below w.heap.size w W2) := fun W1 W2 h1 h2 => h1.trans (h2.mono h1.size)
  have hB0 : Hid (Below w.heap.size w w.drew) := (Below.refl _ w).drew
  have hcs : Hid (∀ W, Below w.heap.size w W → W.cell? ⟨xb, 0, none⟩ = some (.int .i64 (co : Int)) ∧ W.cell? ⟨xb, 2, none⟩ = some (.bool g) ∧ W.cell? ⟨xb, 3, none⟩ = some (.string nn) ∧ W.cell? ⟨xb, 4, none⟩ = some (.string dd) ∧ W.cell? ⟨sb, co, none⟩ = some (.int .i64 o) ∧ W.frozen? ⟨sb, co, none⟩ = false ∧ xb < W.heap.size ∧ sb < W.heap.size) := fun W hb =>
    ⟨(hb.cell (p := ⟨xb, 0, none⟩) c9).trans c0, (hb.cell (p := ⟨xb, 2, none⟩) c9).trans c2, (hb.cell (p := ⟨xb, 3, none⟩) c9).trans c3, (hb.cell (p := ⟨xb, 4, none⟩) c9).trans c4, (hb.cell (p := ⟨sb, co, none⟩) hsl).trans hs, (hb.frozen (p := ⟨sb, co, none⟩) hsl).trans hf, Nat.lt_of_lt_of_le c9 hb.size, Nat.lt_of_lt_of_le hsl hb.size⟩
  replace ku := Lib.hid ku
  clear hX
  go_wp2_with fail
  refine wp_region_noPanic ?_
  go_region_with (go_at_call 119; refine (ku.out _).mono ?_; rintro e w3 ⟨rfl, hb⟩; have hB3 := Lib.hid (hKB.out _ _ hB0.out hb); obtain ⟨d1, d2, d3, d4, d5, d6, d7, d8⟩ := hcs.out _ hB3.out; clear hb)
  all_goals (
    refine NoPanic.normal ?_
    exact h.out _ _ _ _ _ _ _ _ _ _ _ hB3.out)
end Ci
end Go.Proofs.YtpmlhgmmobpilaaGreatDoor
namespace Go.Proofs.YtpmlhgmmobpilaaGreatDoor
open Go.RowKit Go.Shelf
namespace Ci
open Nt
set_option maxRecDepth 100000 in
set_option maxHeartbeats 16000000 in
theorem RLinks_any (A : Option Addr) (cap n : Nat) (l : List Lk) (w : World) (hl : InLk w A l) (hl47 : l.length ≤ 140737488355328) (hn : n ≤ 60) (hz : ∀ x, x ∈ l → x.2.2.2.1.size ≤ 140737488355328 ∧ x.2.2.2.2.size ≤ 140737488355328) :
    Calls Tryz.prog 118 #[.int .i64 (n : Int), .slice A l.length cap] w fun e w' => e = .returned (.bool (goodB n l)) ∧ Below w.heap.size w w' := by
  have hmk := run_make_row' (P := Tryz.prog) 24 3 (.int .i64 0) 8 Tryz.underlying24 infoI rfl .i64 .i64 n (by omega) (by omega)
  have hNB := Lib.hid (fun (k : Nat) (h : k < l.length) (hb : ¬ LinkAt n l k h) => good_bad h hb)
  have hNA := Lib.hid (good_all (n := n) (l := l))
  have hR0 := Lib.hid (RoI.made w n 3)
  have hB0 : Hid (Below w.heap.size w (w.alloc (.cells (madeCells #[.int .i64 0] n) 3))) := (Below.refl _ w).alloc (Nat.le_refl _) _
  have hsl := Lib.hid (sumU_le (n := n) (l := l))
  replace hl := Lib.hid hl
  replace hz := Lib.hid hz
  go_enter Tryz.func118, Tryz.ntmps118
  go_wp2
  obtain ⟨wa, hwa⟩ : ∃ x, x = w.alloc (.cells (madeCells #[.int .i64 0] n) 3) := ⟨_, rfl⟩
  rw [← hwa] at hR0 hB0 ⊢
  clear hmk hwa
  go_loopw [6] (fun ix wr => ∃ (k : Nat) (o : Nat → Int), k ≤ l.length ∧ ix = .int .i64 (k : Int) ∧ Hid (Kp [w.heap.size] wa wr) ∧ Hid (RoI wr w.heap.size n o) ∧ Hid (∀ c, c < n → o c = (sumU (l.take k) (c : Int) : Int)) ∧ Hid (∀ i (h : i < l.length), i < k → LinkAt n l i h)) (fun ix _ => l.length - (intOf ix).toNat)
  case atStart => exact ⟨0, _, Nat.zero_le _, rfl, Kp.refl _ _, hR0, fun c _ => by simp [sumU], fun i _ h => absurd h (Nat.not_lt_zero _)⟩
  case round =>
    obtain ⟨k, o, hk, rfl, hK, hR, ho, hI⟩ := hrel
    clear hR0
    have hBk : Hid (Below w.heap.size w wr) := hK.out.to_below hB0.out fun x hx => by rw [List.mem_singleton.1 hx]; exact Nat.le_refl _
    by_cases hlt : k < l.length
    · obtain ⟨b, of, rfl, hbl, hcc⟩ := (hl.out.below hBk.out) (by omega)
      obtain ⟨e1, e2, e3, e4, e5⟩ := hcc k hlt
      have hzx := hz.out l[k] (List.getElem_mem hlt)
      have hBad : Hid (¬ LinkAt n l k hlt → goodB n l = false) := fun h => hNB.out k hlt h
      have hIk : Hid (LinkAt n l k hlt → ∀ j (h : j < l.length), j < k + 1 → LinkAt n l j h) := fun h j h1 h3 => by
        by_cases e : j = k
        · subst e; exact h
        · exact hI.out j h1 (by omega)
      have hLA : Hid (LinkAt n l k hlt ↔ Own n l[k] ∧ (0 < k → Rise (l[k - 1]'(by omega)) l[k]) ∧ sumU (l.take (k + 1)) l[k].1 ≤ 6000) := Iff.rfl
      have hst := sumU_take hlt
      have hsle := hsl.out k hk hI.out
      have hprev : Hid (0 < k → wr.cell? ⟨b, of + (k - 1) * 5, none⟩ = some (.int .i64 (l[k - 1]'(by omega)).1) ∧ wr.cell? ⟨b, of + (k - 1) * 5 + 1, none⟩ = some (.int .i64 (l[k - 1]'(by omega)).2.1)) := fun h => ⟨(hcc (k - 1) (by omega)).1, (hcc (k - 1) (by omega)).2.1⟩
      obtain ⟨x, hx⟩ : ∃ x, x = l[k] := ⟨_, rfl⟩
      rw [← hx] at e1 e2 e3 e4 e5 hzx hLA hst
      replace hx := Lib.hid hx
      obtain ⟨co, hoo, g, nn, dd⟩ := x
      obtain ⟨z1, z2⟩ := hzx
      replace z1 : nn.size ≤ 140737488355328 := z1
      replace z2 : dd.size ≤ 140737488355328 := z2
      replace e1 : wr.cell? ⟨b, of + k * 5, none⟩ = some (.int .i64 co) := e1
      replace e2 : wr.cell? ⟨b, of + k * 5 + 1, none⟩ = some (.int .i64 hoo) := e2
      replace e3 : wr.cell? ⟨b, of + k * 5 + 2, none⟩ = some (.bool g) := e3
      replace e4 : wr.cell? ⟨b, of + k * 5 + 3, none⟩ = some (.string nn) := e4
      replace e5 : wr.cell? ⟨b, of + k * 5 + 4, none⟩ = some (.string dd) := e5
      clear hcc hx
      have j0 : (0 : Int) ≤ (k : Int) := by omega
      have j1 : (k : Int) < (l.length : Int) := by omega
      have hX := Lib.hid (Bk.new wr 94 [.int .i64 co, .int .i64 hoo, .bool g, .string nn, .string dd])
      have hBx : Hid (Below w.heap.size w (wr.alloc (.cells #[.int .i64 co, .int .i64 hoo, .bool g, .string nn, .string dd] 94))) := hBk.out.alloc hBk.out.size _
      have hO : Own n (co, hoo, g, nn, dd) ↔ (0 ≤ co ∧ co < n) ∧ (0 ≤ hoo ∧ hoo < n) ∧ co ≠ hoo ∧ unitsN (g, nn, dd) ≠ 0 := Iff.rfl
      have hcl : co < 0 ∨ (0 ≤ co ∧ (n : Int) ≤ co) ∨ ((0 ≤ co ∧ co < n) ∧ hoo < 0) ∨ ((0 ≤ co ∧ co < n) ∧ 0 ≤ hoo ∧ (n : Int) ≤ hoo) ∨ ((0 ≤ co ∧ co < n) ∧ (0 ≤ hoo ∧ hoo < n) ∧ co = hoo) ∨ ((0 ≤ co ∧ co < n) ∧ (0 ≤ hoo ∧ hoo < n) ∧ co ≠ hoo) := by omega
      rcases hcl with h1 | ⟨h1, h2⟩ | ⟨⟨h1, h2⟩, h3⟩ | ⟨⟨h1, h2⟩, h3, h4⟩ | ⟨⟨h1, h2⟩, ⟨h3, h4⟩, h5⟩ | ⟨⟨h1, h2⟩, ⟨h3, h4⟩, h5⟩
      · have hG := Lib.hid (hBad.out fun h => by have := (hO.1 (hLA.out.1 h).1).1.1; omega)
        have m1 : decide (co < 0) = true := decide_eq_true h1
        clear hLA hO
        go_wp2
        go_ret
        exact ⟨ret_bool hG.out.symm, hBx.out⟩
      · have hG := Lib.hid (hBad.out fun h => by have := (hO.1 (hLA.out.1 h).1).1.2; omega)
        have m1 : decide (co < 0) = false := decide_eq_false (by omega)
        have m2 : decide ((n : Int) ≤ co) = true := decide_eq_true h2
        clear hLA hO
        go_wp2
        go_ret
        exact ⟨ret_bool hG.out.symm, hBx.out⟩
      · have hG := Lib.hid (hBad.out fun h => by have := (hO.1 (hLA.out.1 h).1).2.1.1; omega)
        have m1 : decide (co < 0) = false := decide_eq_false (by omega)
        have m2 : decide ((n : Int) ≤ co) = false := decide_eq_false (by omega)
        have m3 : decide (hoo < 0) = true := decide_eq_true h3
        clear hLA hO
        go_wp2
        go_ret
        exact ⟨ret_bool hG.out.symm, hBx.out⟩
      · have hG := Lib.hid (hBad.out fun h => by have := (hO.1 (hLA.out.1 h).1).2.1.2; omega)
        have m1 : decide (co < 0) = false := decide_eq_false (by omega)
        have m2 : decide ((n : Int) ≤ co) = false := decide_eq_false (by omega)
        have m3 : decide (hoo < 0) = false := decide_eq_false (by omega)
        have m4 : decide ((n : Int) ≤ hoo) = true := decide_eq_true h4
        clear hLA hO
        go_wp2
        go_ret
        exact ⟨ret_bool hG.out.symm, hBx.out⟩
      · have hG := Lib.hid (hBad.out fun h => by have := (hO.1 (hLA.out.1 h).1).2.2.1; omega)
        have m1 : decide (co < 0) = false := decide_eq_false (by omega)
        have m2 : decide ((n : Int) ≤ co) = false := decide_eq_false (by omega)
        have m3 : decide (hoo < 0) = false := decide_eq_false (by omega)
        have m4 : decide ((n : Int) ≤ hoo) = false := decide_eq_false (by omega)
        have m5 : (co == hoo) = true := by rw [beq_iff_eq]; exact h5
        replace h5 := Lib.hid h5
        clear hLA hO
        go_wp2
        go_ret
        exact ⟨ret_bool hG.out.symm, hBx.out⟩
      · have m1 : decide (co < 0) = false := decide_eq_false (by omega)
        have m2 : decide ((n : Int) ≤ co) = false := decide_eq_false (by omega)
        have m3 : decide (hoo < 0) = false := decide_eq_false (by omega)
        have m4 : decide ((n : Int) ≤ hoo) = false := decide_eq_false (by omega)
        have m5 : (co == hoo) = false := by rw [beq_eq_false_iff_ne]; exact h5
        have ku : Hid (∀ W, Calls Tryz.prog 119 #[.agg #[.bool g, .string nn, .string dd]] W fun e w' => e = .returned (.int .i64 (unitsN (g, nn, dd) : Int)) ∧ Below W.heap.size W w') := fun W => RUnits_any g nn dd W z1 z2
        have hule := units_le (g, nn, dd)
        obtain ⟨U, hU⟩ : ∃ U, U = unitsN (g, nn, dd) := ⟨_, rfl⟩
        rw [← hU] at ku hule hO
        have hlkP : unitsN (lkP (co, hoo, g, nn, dd)) = U := hU.symm
        rw [hlkP] at hst
        clear hU hlkP
        by_cases hu : U = 0
        · have hG := Lib.hid (hBad.out fun h => (hO.1 (hLA.out.1 h).1).2.2.2 hu)
          have m6 : ((U : Int) == 0) = true := by rw [beq_iff_eq]; omega
          replace hu := Lib.hid hu
          clear hLA hO
          go_wp2_with fail
          refine (ku.out _).mono ?_
          rintro e w2 ⟨rfl, hb⟩
          have hB2 := Lib.hid (hBx.out.trans (hb.mono hBx.out.size))
          clear hb
          go_wp2
          go_ret
          exact ⟨ret_bool hG.out.symm, hB2.out⟩
        · have m6 : ((U : Int) == 0) = false := by rw [beq_eq_false_iff_ne]; omega
          have hlr := hR.out.lt
          have hSo := ho.out
          go_wp2_with fail
          refine (ku.out _).mono ?_
          rintro e w2 ⟨rfl, hb⟩
          have hB2 := Lib.hid (hBx.out.trans (hb.mono hBx.out.size))
          have hX2 := hX.out.below hb
          have hR2 := Lib.hid ((hR.out.alloc (.cells #[.int .i64 co, .int .i64 hoo, .bool g, .string nn, .string dd] 94)).below hb)
          have hK2 := Lib.hid ((hK.out.alloc (.cells #[.int .i64 co, .int .i64 hoo, .bool g, .string nn, .string dd] 94)).below hb)
          have hprev2 : 0 < k → w2.cell? ⟨b, of + (k - 1) * 5, none⟩ = some (.int .i64 (l[k - 1]'(by omega)).1) ∧ w2.cell? ⟨b, of + (k - 1) * 5 + 1, none⟩ = some (.int .i64 (l[k - 1]'(by omega)).2.1) := fun h => by
            obtain ⟨q1, q2⟩ := hprev.out h
            have hbw : b < (wr.alloc (.cells #[.int .i64 co, .int .i64 hoo, .bool g, .string nn, .string dd] 94)).heap.size := by simp; omega
            exact ⟨(hb.cell (p := ⟨b, _, none⟩) hbw).trans ((World.cell?_alloc_lt wr _ (⟨b, of + (k - 1) * 5, none⟩ : Addr) hbl).trans q1), (hb.cell (p := ⟨b, _, none⟩) hbw).trans ((World.cell?_alloc_lt wr _ (⟨b, of + (k - 1) * 5 + 1, none⟩ : Addr) hbl).trans q2)⟩
          clear hb hprev e1 e2 e3 e4 e5 hX hBx hbl hK hR
          obtain ⟨pc, ph, hpq, hrise⟩ : ∃ pc ph : Int, (0 < k → w2.cell? ⟨b, of + (k - 1) * 5, none⟩ = some (.int .i64 pc) ∧ w2.cell? ⟨b, of + (k - 1) * 5 + 1, none⟩ = some (.int .i64 ph)) ∧ ((0 < k → Rise (l[k - 1]'(by omega)) (co, hoo, g, nn, dd)) ↔ (0 < k → pc < co ∨ (pc = co ∧ ph < hoo))) :=
            ⟨(l[k - 1]'(by omega)).1, (l[k - 1]'(by omega)).2.1, hprev2, Iff.rfl⟩
          have hrise2 := Lib.hid hrise
          clear hprev2 hrise
          obtain ⟨xb, hxb⟩ : ∃ x, x = wr.heap.size := ⟨_, rfl⟩
          rw [← hxb] at hX2 hlr ⊢
          clear hxb
          obtain ⟨r, hr⟩ : ∃ r, r = decide (0 < k ∧ (co < pc ∨ (co = pc ∧ hoo ≤ ph))) := ⟨_, rfl⟩
          go_upto_region 8 with (fail)
          refine rlreg8 xb b of cap k l.length co hoo pc ph r hr w2 hlt hl47 (hX2.cell (j := 0) rfl) (hX2.cell (j := 1) rfl) hX2.lt hpq ?_
          intro v53 v54 v55 v56 v57 v58 v59 v60 v61 v62 v63 v64 v65 v66 v67 v68 v69 v70 v71 v72 v73 v74 v75 v76 v77 v78 v79 v80 v81 v82 v83 v84 v85 v86 q9
          cases r with
          | true =>
            have hG := Lib.hid (hBad.out fun h => by
              have h2 := (hLA.out.1 h).2.1
              have h3 := of_decide_eq_true hr.symm
              have h4 := hrise2.out.1 h2 h3.1
              omega)
            have hB3 := Lib.hid (blw_drewN hB2.out q9)
            clear hr hLA hO hX2
            go_wp2
            go_ret
            exact ⟨ret_bool hG.out.symm, hB3.out⟩
          | false =>
            have hris : Hid (0 < k → Rise (l[k - 1]'(by omega)) (co, hoo, g, nn, dd)) := hrise2.out.2 fun h0 => by
              have h3 := of_decide_eq_false hr.symm
              omega
            clear hr
            obtain ⟨cn, hcn⟩ : ∃ c : Nat, co = (c : Int) := ⟨co.toNat, by omega⟩
            subst hcn
            have hcn2 : cn < n := by omega
            have ho0 := hSo cn hcn2
            have hsl2 := hsle (cn : Int)
            have hR3 : Hid (RoI (w2.drewN q9) w.heap.size n o) := ⟨hR2.out.lt, hR2.out.cell, hR2.out.fr⟩
            have hX3 : Bk (w2.drewN q9) xb 94 [.int .i64 (cn : Int), .int .i64 hoo, .bool g, .string nn, .string dd] := hX2
            have hK3 : Hid (Kp [w.heap.size] wa (w2.drewN q9)) := ⟨hK2.out.os, hK2.out.tape, hK2.out.output, hK2.out.size, hK2.out.block⟩
            go_upto_region 10 with (fail)
            refine rlreg10 xb w.heap.size n cn U hoo (o cn) g nn dd (w2.drewN q9) hcn2 hule (by rw [ho0]; omega) (by rw [ho0]; omega) hX3 (hR3.out.cell cn hcn2) (hR3.out.fr cn) hR3.out.lt ku.out ?_
            intro z88 z89 z90 z91 z92 z93 z94 z95 z96 z97 w3 hb
            conv => zeta
            have hR4 := Lib.hid ((hR3.out.below hb).set hcn2 (o cn + (U : Int)))
            have hK4 := Lib.hid ((hK3.out.below hb).set (a := ⟨w.heap.size, cn, none⟩) (.int .i64 (o cn + (U : Int))) (.inl (List.mem_singleton.2 rfl)))
            have hB4 : Hid (Below w.heap.size w (w3.setCell ⟨w.heap.size, cn, none⟩ (.int .i64 (o cn + (U : Int))))) := hK4.out.to_below hB0.out fun x hx => by rw [List.mem_singleton.1 hx]; exact Nat.le_refl _
            have hX4 := (hX3.below hb).far (p := ⟨w.heap.size, cn, none⟩) (by simp; omega) (.int .i64 (o cn + (U : Int)))
            have f1 := hX4.cell (j := 0) rfl
            have f2 := hX4.lt
            have f3 := hR4.out.cell cn hcn2
            rw [setI_same] at f3
            have f4 := hR4.out.lt
            have j2 : (cn : Int) < (n : Int) := by omega
            obtain ⟨W4, hW4⟩ : ∃ W, W = w3.setCell ⟨w.heap.size, cn, none⟩ (.int .i64 (o cn + (U : Int))) := ⟨_, rfl⟩
            rw [← hW4] at hR4 hK4 hB4 f1 f2 f4 f3 ⊢
            clear hX4 hW4
            have hsn : sumU (l.take (k + 1)) (cn : Int) = sumU (l.take k) (cn : Int) + U := by rw [hst, if_pos rfl]
            by_cases hbig : 6000 < sumU (l.take (k + 1)) (cn : Int)
            · have hG := Lib.hid (hBad.out fun h => by have h6 : sumU (l.take (k + 1)) (cn : Int) ≤ 6000 := (hLA.out.1 h).2.2; omega)
              have m7 : decide (6000 < o cn + (U : Int)) = true := decide_eq_true (by rw [ho0]; omega)
              clear hLA hO hst hcn2 ho0
              go_wp2
              go_ret
              exact ⟨ret_bool hG.out.symm, hB4.out⟩
            · have hLk := Lib.hid (hIk.out (hLA.out.2 ⟨hO.2 ⟨⟨h1, h2⟩, ⟨h3, h4⟩, h5, hu⟩, hris.out, (by omega : sumU (l.take (k + 1)) (cn : Int) ≤ 6000)⟩))
              have m7 : decide (6000 < o cn + (U : Int)) = false := decide_eq_false (by rw [ho0]; omega)
              have ho4 : Hid (∀ c, c < n → setI o cn (o cn + (U : Int)) c = (sumU (l.take (k + 1)) (c : Int) : Int)) := fun c hc => by
                by_cases e : c = cn
                · subst e
                  rw [setI_same, ho0, hsn]
                  omega
                · rw [setI_other e, hSo c hc, hst, if_neg fun e2 => e (by simp only [Int.natCast_inj] at e2; exact e2.symm)]
                  omega
              clear hLA hO hst hcn2 ho0 hSo hsle
              go_wp2
              exact ⟨⟨k + 1, _, by omega, by go_num, hK4, hR4, ho4, hLk⟩, by simp only [intOf]; omega⟩
    · obtain rfl : k = l.length := by omega
      have hG := Lib.hid (hNA.out fun j h => hI.out j h h)
      go_wp2
      go_ret
      exact ⟨ret_bool hG.out.symm, hBk.out⟩
end Ci
end Go.Proofs.YtpmlhgmmobpilaaGreatDoor
namespace Go.Proofs.YtpmlhgmmobpilaaGreatDoor
open Go.RowKit Go.Shelf
namespace Ci
open Nt
noncomputable def rsR (j : Nat) : Code := ((Tryz.f73.body.map regsOf).bind fun l => l.find? (isReg j)).getD .skip
set_option maxRecDepth 1000000 in
set_option maxHeartbeats 16000000 in
theorem rsreg6 {c0 c2 c4 c5 c6 c7 c8 c9 c10 c11 c12 c13 c14 c40 c41 c42 c43 c44 c45 c46 c47 c48 c49 c50 c51 c52 c53 a15 a16 a17 a18 a19 a20 a21 a22 a23 a24 a25 a26 a27 a28 a29 a30 a31 a32 a33 a34 a35 a36 a37 a38 a39 : Value} {Q : Exit → Act → World → Prop} (xb b of cp k len : Nat) (A2 A3 : Option Addr) (l2 d2 l3 d3 : Nat) (nm pm : ByteArray) (r : Bool) (hr : r = (!identB nm || (decide (0 < k) && leqB nm pm))) (w : World) (hk : k < len) (hlen : len ≤ 140737488355328) (hX : Bk w xb 54 [.slice (some ⟨b, of, none⟩) len cp, .slice A2 l2 d2, .slice A3 l3 d3]) (_hbl : b < w.heap.size) (hz : nm.size ≤ 140737488355328) (e1 : w.cell? ⟨b, of + k, none⟩ = some (.string nm)) (e2 : 0 < k → w.cell? ⟨b, of + (k - 1), none⟩ = some (.string pm))
    (h : ∀ (u15 u16 u17 u18 u19 u20 u21 u22 u23 u24 u25 u26 u27 u28 u29 u30 u31 u32 u33 u34 u35 u36 u37 u38 : Value) (q : Nat), Q .normal ⟨#[c0, .pointer (some ⟨xb, 0, none⟩), c2, .int .i64 (k : Int), c4, c5, c6, c7, c8, c9, c10, c11, c12, c13, c14, u15, u16, u17, u18, u19, u20, u21, u22, u23, u24, u25, u26, u27, u28, u29, u30, u31, u32, u33, u34, u35, u36, u37, u38, .bool r, c40, c41, c42, c43, c44, c45, c46, c47, c48, c49, c50, c51, c52, c53], []⟩ (w.drewN q)) :
    Code.wp Tryz.prog (rsR 6) Q ⟨#[c0, .pointer (some ⟨xb, 0, none⟩), c2, .int .i64 (k : Int), c4, c5, c6, c7, c8, c9, c10, c11, c12, c13, c14, a15, a16, a17, a18, a19, a20, a21, a22, a23, a24, a25, a26, a27, a28, a29, a30, a31, a32, a33, a34, a35, a36, a37, a38, a39, c40, c41, c42, c43, c44, c45, c46, c47, c48, c49, c50, c51, c52, c53], []⟩ w := by
  conv => arg 2; whnf
  conv => arg 4; zeta
  replace h := Lib.hid h
  have kn : Hid (∀ q, Calls Tryz.prog 85 #[.string nm] (w.drewN q) fun e w' => e = .returned (.bool (identB nm)) ∧ ∃ r, w' = (w.drewN q).drewN r) := fun q => (Ident_w nm (w.drewN q) (by omega)).mono fun e w' h => ⟨h.1, 0, h.2⟩
  have c0 := hX.cell (j := 0) rfl
  have c9 := hX.lt
  have j0 : (0 : Int) ≤ (k : Int) := by omega
  have j1 : (k : Int) < (len : Int) := by omega
  have hbin := leq_bin 9 nm pm
  clear hX
  cases hid : identB nm with
  | false =>
    rw [hid] at kn hr
    obtain rfl : r = true := hr
    clear e2
    go_wp2_with fail
    go_quiet ((go_at_call 85; exact Calls.quiet_of (kn.out _)))
    go_wp2
    exact h.out ..
  | true =>
    rw [hid] at kn hr
    by_cases hk0 : k = 0
    · have m1 : decide (0 < (k : Int)) = false := decide_eq_false (by omega)
      have m2 : decide (0 < k) = false := decide_eq_false (by omega)
      rw [m2] at hr
      obtain rfl : r = false := hr
      clear e2
      replace hk0 := Lib.hid hk0
      go_wp2_with fail
      go_quiet ((go_at_call 85; exact Calls.quiet_of (kn.out _)))
      go_wp2
      exact h.out ..
    · have m1 : decide (0 < (k : Int)) = true := decide_eq_true (by omega)
      have m2 : decide (0 < k) = true := decide_eq_true (by omega)
      have p1 := e2 (by omega)
      have j2 : (0 : Int) ≤ (k : Int) - 1 := by omega
      have j3 : (k : Int) - 1 < (len : Int) := by omega
      have j4 : IntKind.i64.wrap ((k : Int) - 1) = (k : Int) - 1 := IntWalk.i64_in _ (by omega)
      have j5 : ((k : Int) - 1).toNat = k - 1 := by omega
      rw [m2] at hr
      clear e2
      cases hlq : leqB nm pm with
      | true =>
        rw [hlq] at hr hbin
        obtain rfl : r = true := hr
        clear hlq
        go_wp2_with fail
        go_quiet ((go_at_call 85; exact Calls.quiet_of (kn.out _)))
        go_wp2
        exact h.out ..
      | false =>
        rw [hlq] at hr hbin
        obtain rfl : r = false := hr
        clear hlq
        go_wp2_with fail
        go_quiet ((go_at_call 85; exact Calls.quiet_of (kn.out _)))
        go_wp2
        exact h.out ..
set_option maxRecDepth 100000 in
set_option maxHeartbeats 16000000 in
theorem RSound_any (s : SR) (Ap Ac Av : Option Addr) (cp cc cv : Nat) (w : World) (hs : StIn w s Ap Ac Av) :
    Calls Tryz.prog 73 #[.agg #[.slice Ap s.ps.length cp, .slice Ac s.cap.length cc, .slice Av s.vot.length cv]] w fun e w' => e = .returned (.bool (soundB s)) ∧ Below w.heap.size w w' := by
  have hp47 := hs.np
  have hNB := Lib.hid (fun (k : Nat) (h : k < s.ps.length) (hb : ¬ NameAt s.ps k h) => names_bad (l := s.ps) h hb)
  have hNA := Lib.hid (names_all (l := s.ps))
  have hX0 : Hid (Bk (w.alloc (.cells #[.slice Ap s.ps.length cp, .slice Ac s.cap.length cc, .slice Av s.vot.length cv] 54)) w.heap.size 54 (SC s Ap Ac Av cp cc cv)) := Bk.new w _ _
  have hB0 : Hid (Below w.heap.size w (w.alloc (.cells #[.slice Ap s.ps.length cp, .slice Ac s.cap.length cc, .slice Av s.vot.length cv] 54))) := (Below.refl _ w).alloc (Nat.le_refl _) _
  have u0 := hX0.out.cell (j := 0) rfl
  have u9 := hX0.out.lt
  replace hs := Lib.hid hs
  by_cases h60 : s.ps.length ≤ 60
  · have hSb : Hid (soundB s = (namesB s.ps && (goodB s.ps.length s.cap && goodB s.ps.length s.vot))) := by
      unfold Hid soundB
      rw [decide_eq_true h60]; simp
    have m0 : decide (60 < (s.ps.length : Int)) = false := decide_eq_false (by omega)
    have kl := Lib.hid (fun A c l W h1 h2 h3 => RLinks_any A c s.ps.length l W h1 h2 h60 h3)
    go_enter Tryz.func73, Tryz.ntmps73
    go_wp2
    obtain ⟨wa, hwa⟩ : ∃ x, x = w.alloc (.cells #[.slice Ap s.ps.length cp, .slice Ac s.cap.length cc, .slice Av s.vot.length cv] 54) := ⟨_, rfl⟩
    rw [← hwa] at hX0 hB0 ⊢
    clear u0 u9 hwa
    go_loopw [3] (fun ix wr => ∃ k q : Nat, k ≤ s.ps.length ∧ ix = .int .i64 (k : Int) ∧ wr = wa.drewN q ∧ Hid (∀ i (h : i < s.ps.length), i < k → NameAt s.ps i h)) (fun ix _ => s.ps.length - (intOf ix).toNat)
    case atStart => exact ⟨0, 0, Nat.zero_le _, rfl, rfl, fun i _ h => absurd h (Nat.not_lt_zero _)⟩
    case round =>
      obtain ⟨k, q, hk, rfl, hw, hA⟩ := hrel
      have hX : Bk wr w.heap.size 54 (SC s Ap Ac Av cp cc cv) := by rw [hw]; exact hX0.out
      have hB : Hid (Below w.heap.size w wr) := by rw [hw]; exact blw_drewN hB0.out q
      have u0 := hX.cell (j := 0) rfl
      have u9 := hX.lt
      replace hw := Lib.hid hw
      by_cases hlt : k < s.ps.length
      · obtain ⟨b, o, rfl, hbl, hc⟩ := (hs.out.below hB.out).ps (by omega)
        have e1 := hc k hlt
        have e0 : 0 < k → wr.cell? ⟨b, o + (k - 1), none⟩ = some (.string (s.ps[k - 1]'(by omega))) := fun h => hc (k - 1) (by omega)
        have zx := hs.out.zp s.ps[k] (List.getElem_mem hlt)
        have hNk := Lib.hid (hNB.out k hlt)
        have hAl : Hid (NameAt s.ps k hlt → ∀ i (h : i < s.ps.length), i < k + 1 → NameAt s.ps i h) := fun h i hi h2 => by
          by_cases e : i = k
          · subst e; exact h
          · exact hA.out i hi (by omega)
        obtain ⟨pm, e0, hNI⟩ : ∃ pm, (0 < k → wr.cell? ⟨b, o + (k - 1), none⟩ = some (.string pm)) ∧ (NameAt s.ps k hlt ↔ identB s.ps[k] = true ∧ (0 < k → leqB s.ps[k] pm = false)) := ⟨s.ps[k - 1]'(by omega), e0, Iff.rfl⟩
        obtain ⟨nm, hnm⟩ : ∃ x, x = s.ps[k] := ⟨_, rfl⟩
        rw [← hnm] at e1 zx hNI
        have i0 : (0 : Int) ≤ (k : Int) := by omega
        have i1 : (k : Int) < (s.ps.length : Int) := by omega
        clear hc hnm
        obtain ⟨r, hr⟩ : ∃ r, r = (!identB nm || (decide (0 < k) && leqB nm pm)) := ⟨_, rfl⟩
        go_upto_region 6 with (fail)
        refine rsreg6 w.heap.size b o cp k s.ps.length Ac Av s.cap.length cc s.vot.length cv nm pm r hr wr hlt hp47 hX hbl zx e1 e0 ?_
        intro v15 v16 v17 v18 v19 v20 v21 v22 v23 v24 v25 v26 v27 v28 v29 v30 v31 v32 v33 v34 v35 v36 v37 v38 q9
        have hw2 : Hid (wr.drewN q9 = wa.drewN (q + q9)) := by unfold Hid; rw [hw.out, World.drewN_drewN]
        have hB2 := Lib.hid (blw_drewN hB.out q9)
        cases r with
        | true =>
          have hG : Hid (soundB s = false) := by
            have : namesB s.ps = false := hNk.out fun h => by
              obtain ⟨h1, h2⟩ := hNI.1 h
              rw [h1] at hr
              by_cases h0 : 0 < k
              · rw [h2 h0] at hr; simp at hr
              · rw [decide_eq_false h0] at hr; simp at hr
            unfold Hid
            rw [hSb.out, this]; rfl
          clear hr hNI hX e1 e0 u0
          go_wp2
          go_ret
          exact ⟨ret_bool hG.out.symm, hB2.out⟩
        | false =>
          have hN2 := Lib.hid (hAl.out (hNI.2 (by
            cases h1 : identB nm with
            | false => rw [h1] at hr; cases hr
            | true =>
              refine ⟨rfl, fun h0 => ?_⟩
              rw [h1, decide_eq_true h0] at hr
              simpa using hr.symm)))
          clear hr hNI hX e1 e0 u0
          go_wp2
          exact ⟨⟨k + 1, q + q9, by omega, by go_num, hw2.out, hN2⟩, by simp only [intOf]; omega⟩
      · obtain rfl : k = s.ps.length := by omega
        have hNm := Lib.hid (hNA.out fun j h => hA.out j h h)
        have u1 := hX.cell (j := 1) rfl
        have u2 := hX.cell (j := 2) rfl
        have hX' := Lib.hid hX
        have hsw := Lib.hid (hs.out.below hB.out)
        have k1 := Lib.hid (kl.out Ac cc s.cap wr hsw.out.cap hs.out.nc hs.out.zc)
        cases hg1 : goodB s.ps.length s.cap with
        | false =>
          have hG : Hid (soundB s = false) := by unfold Hid; rw [hSb.out, hg1]; simp
          rw [hg1] at k1
          clear hg1 hX
          go_wp2_with fail
          refine k1.out.mono ?_
          rintro e w2 ⟨rfl, hb⟩
          have hB2 := Lib.hid (hB.out.trans (hb.mono hB.out.size))
          clear hb
          go_wp2
          go_ret
          exact ⟨ret_bool hG.out.symm, hB2.out⟩
        | true =>
          have hG : Hid (soundB s = goodB s.ps.length s.vot) := by unfold Hid; rw [hSb.out, hg1, hNm.out]; simp
          rw [hg1] at k1
          clear hg1 hX
          go_wp2_with fail
          refine k1.out.mono ?_
          rintro e w2 ⟨rfl, hb⟩
          have hB2 := Lib.hid (hB.out.trans (hb.mono hB.out.size))
          have hX2 := Lib.hid (hX'.out.below hb)
          have k2 := Lib.hid (kl.out Av cv s.vot w2 (hsw.out.below hb).vot hs.out.nv hs.out.zv)
          clear hb u0 u1 u2 u9
          have u0 := hX2.out.cell (j := 0) rfl
          have u2 := hX2.out.cell (j := 2) rfl
          have u9 := hX2.out.lt
          go_wp2_with fail
          refine k2.out.mono ?_
          rintro e w3 ⟨rfl, hb⟩
          have hB3 := Lib.hid (hB2.out.trans (hb.mono hB2.out.size))
          clear hb
          go_wp2
          go_ret
          exact ⟨ret_bool hG.out.symm, hB3.out⟩
  · have hG : Hid (soundB s = false) := by
      unfold Hid soundB
      rw [decide_eq_false h60]; simp
    have m0 : decide (60 < (s.ps.length : Int)) = true := decide_eq_true (by omega)
    go_enter Tryz.func73, Tryz.ntmps73
    go_wp2
    go_ret
    exact ⟨ret_bool hG.out.symm, hB0.out⟩
end Ci
end Go.Proofs.YtpmlhgmmobpilaaGreatDoor
namespace Go.Proofs.YtpmlhgmmobpilaaGreatDoor
open Go.RowKit Go.Shelf
namespace Ci
open Nt
theorem sound_n {s : SR} (h : soundB s = true) : s.ps.length ≤ 60 := by
  unfold soundB at h
  simp only [Bool.and_eq_true, decide_eq_true_eq] at h
  exact h.2.1
theorem RoI.of_own {w : World} {base n c : Nat} {A : Option Addr} {t : TypeId} {r : Int} (h : w.ownsRow base t 1 (.slice A n c) n (List.replicate n (.int .i64 r))) (hn : 0 < n) : ∃ b, A = some ⟨b, 0, none⟩ ∧ base ≤ b ∧ RoI w b n fun _ => r := by
  rcases h.2 with ⟨_, h0⟩ | ⟨g, cap, cur, e, hb, hg, _, _, _, ht⟩
  · omega
  · injection e with e1 _ _
    subst e1
    refine ⟨g, rfl, hb, (Array.getElem?_eq_some_iff.1 hg).1, fun x hx => ?_, fun x => by simp [World.frozen?, hg]⟩
    have hc := h.cells (g := g) (by simp [Value.ownBlock]) x (.int .i64 r) (by simp [hx])
    rwa [Addr.add_lit, Nat.zero_add] at hc
end Ci
end Go.Proofs.YtpmlhgmmobpilaaGreatDoor
namespace Go.Proofs.YtpmlhgmmobpilaaGreatDoor
open Go.RowKit Go.Shelf
namespace Ci
open Nt
/-- Block g has the headers of k rows of n truth values each. -/
structure BM (w : World) (B g k n : Nat) (bl : Nat → Nat) (T : Nat → Nat → Prop) : Prop where
  lt : g < w.heap.size
  hd : ∀ i, i < k → w.cell? ⟨g, i, none⟩ = some (.slice (some ⟨bl i, 0, none⟩) n n)
  rl : ∀ i, i < k → bl i < w.heap.size
  cell : ∀ i j, i < k → j < n → w.cell? ⟨bl i, j, none⟩ = some (.bool (bV (T i j)))
  fr : ∀ i j, i < k → w.frozen? ⟨bl i, j, none⟩ = false
  inj : ∀ i j, i < k → j < k → bl i = bl j → i = j
  ne : ∀ i, i < k → bl i ≠ g
  lowG : B ≤ g
  low : ∀ i, i < k → B ≤ bl i
section
variable {w w' : World} {B g k n : Nat} {bl : Nat → Nat} {T T' : Nat → Nat → Prop}
theorem BM.of_block (h : BM w B g k n bl T) (hs : w.heap.size ≤ w'.heap.size) (hg : w'.heap[g]? = w.heap[g]?) (hr : ∀ i, i < k → w'.heap[bl i]? = w.heap[bl i]?) : BM w' B g k n bl T :=
  ⟨Nat.lt_of_lt_of_le h.lt hs, fun i hi => (World.cell?_of_block (a := ⟨g, i, none⟩) hg).trans (h.hd i hi), fun i hi => Nat.lt_of_lt_of_le (h.rl i hi) hs, fun i j hi hj => (World.cell?_of_block (a := ⟨bl i, j, none⟩) (hr i hi)).trans (h.cell i j hi hj), fun i j hi => (World.frozen?_of_block (a := ⟨bl i, j, none⟩) (hr i hi)).trans (h.fr i j hi), h.inj, h.ne, h.lowG, h.low⟩
theorem BM.below (h : BM w B g k n bl T) (hb : Below w.heap.size w w') : BM w' B g k n bl T := h.of_block hb.size (hb.block g h.lt) fun i hi => hb.block (bl i) (h.rl i hi)
theorem BM.alloc (h : BM w B g k n bl T) (o : Obj) : BM (w.alloc o) B g k n bl T := h.below ((Below.refl _ w).alloc (Nat.le_refl _) o)
theorem BM.congr (h : BM w B g k n bl T) (e : ∀ i j, i < k → j < n → (T i j ↔ T' i j)) : BM w B g k n bl T' :=
  ⟨h.lt, h.hd, h.rl, fun i j hi hj => by rw [h.cell i j hi hj]; by_cases c : T i j; (· rw [bV_true c, bV_true ((e i j hi hj).1 c)]); (· rw [bV_false c, bV_false fun d => c ((e i j hi hj).2 d)]), h.fr, h.inj, h.ne, h.lowG, h.low⟩
/-- One value is set. -/
theorem BM.set (h : BM w B g k n bl T) {i j : Nat} (hi : i < k) (hj : j < n) (hT : ∀ a b, T' a b ↔ T a b ∨ (a = i ∧ b = j)) : BM (w.setCell ⟨bl i, j, none⟩ (.bool true)) B g k n bl T' := by
  refine ⟨by simpa using h.lt, fun a ha => ?_, fun a ha => by simpa using h.rl a ha, fun a b ha hb => ?_, fun a b ha => by simpa using h.fr a b ha, h.inj, h.ne, h.lowG, h.low⟩
  · rw [World.cell?_setCell_other _ _ _ _ (fun c => by injection c with c1 _; first | exact h.ne i hi c1 | exact h.ne i hi c1.symm)]
    exact h.hd a ha
  · by_cases e : a = i ∧ b = j
    · obtain ⟨rfl, rfl⟩ := e
      rw [World.cell?_setCell_same _ _ _ (h.cell a b ha hb), bV_true ((hT a b).2 (.inr ⟨rfl, rfl⟩))]
    · rw [World.cell?_setCell_other _ _ _ _ (fun c => by injection c with c1 c2; first | exact e ⟨h.inj a i ha hi c1, c2⟩ | exact e ⟨h.inj a i ha hi c1.symm, c2.symm⟩), h.cell a b ha hb]
      by_cases c : T a b
      · rw [bV_true c, bV_true ((hT a b).2 (.inl c))]
      · rw [bV_false c, bV_false fun d => ((hT a b).1 d).elim c e]
end
end Ci
end Go.Proofs.YtpmlhgmmobpilaaGreatDoor
namespace Go.Proofs.YtpmlhgmmobpilaaGreatDoor
open Go.RowKit Go.Shelf
namespace Ci
open Nt
end Ci
end Go.Proofs.YtpmlhgmmobpilaaGreatDoor
namespace Go.Proofs.YtpmlhgmmobpilaaGreatDoor
open Go.RowKit Go.Shelf
namespace Ci
open Nt
theorem infoB : (Tryz.prog.info? 4).map (fun i => (i.zero, i.size, i.bytes)) = some (some (.bool false), 1, 1) := by kernel_rfl
theorem made_bool (w : World) (n x : Nat) (t : TypeId) (hx : x < n) : (w.alloc (.cells (madeCells #[.bool false] n) t)).cell? ⟨w.heap.size, x, none⟩ = some (.bool false) := by
  have h := heap_alloc_new w (.cells (madeCells #[(.bool false : Value)] n) t)
  simp only [World.cell?, h]
  simp [madeCells, hx]
  rw [Nat.mod_one]
  rfl
/-- The rows laid so far. -/
structure BRows (w : World) (B k n : Nat) (bl : Nat → Nat) : Prop where
  rl : ∀ i, i < k → bl i < w.heap.size
  cell : ∀ i j, i < k → j < n → w.cell? ⟨bl i, j, none⟩ = some (.bool (bV (i = j)))
  fr : ∀ i j, i < k → w.frozen? ⟨bl i, j, none⟩ = false
  inj : ∀ i j, i < k → j < k → bl i = bl j → i = j
  low : ∀ i, i < k → B ≤ bl i
theorem BRows.of_block {w w' : World} {B k n : Nat} {bl : Nat → Nat} (h : BRows w B k n bl) (hs : w.heap.size ≤ w'.heap.size) (hr : ∀ i, i < k → w'.heap[bl i]? = w.heap[bl i]?) : BRows w' B k n bl :=
  ⟨fun i hi => Nat.lt_of_lt_of_le (h.rl i hi) hs, fun i j hi hj => (World.cell?_of_block (a := ⟨bl i, j, none⟩) (hr i hi)).trans (h.cell i j hi hj), fun i j hi => (World.frozen?_of_block (a := ⟨bl i, j, none⟩) (hr i hi)).trans (h.fr i j hi), h.inj, h.low⟩
theorem BRows.step {w : World} {B k n : Nat} {bl : Nat → Nat} (h : BRows w B k n bl) (hB : B ≤ w.heap.size) (hk : k < n) (t : TypeId) : BRows ((w.alloc (.cells (madeCells #[.bool false] n) t)).setCell ⟨w.heap.size, k, none⟩ (.bool true)) B (k + 1) n (fun i => if i = k then w.heap.size else bl i) := by
  have hn := heap_alloc_new w (.cells (madeCells #[(.bool false : Value)] n) t)
  have hold : ∀ i, i < k → bl i ≠ w.heap.size := fun i hi e => by have := h.rl i hi; omega
  refine ⟨fun i hi => ?_, fun i j hi hj => ?_, fun i j hi => ?_, fun i j hi hj e => ?_, fun i hi => ?_⟩
  · by_cases c : i = k
    · rw [if_pos c]; simp
    · rw [if_neg c]; have := h.rl i (by omega); simp; omega
  · by_cases c : i = k
    · subst c
      rw [if_pos rfl]
      by_cases c2 : i = j
      · subst c2
        rw [World.cell?_setCell_same _ _ _ (made_bool w n i t hj), bV_true rfl]
      · rw [World.cell?_setCell_other _ _ _ _ (fun e => by injection e with _ e2; first | exact c2 e2 | exact c2 e2.symm), made_bool w n j t hj, bV_false c2]
    · rw [if_neg c, World.cell?_setCell_other _ _ _ _ (fun e => by injection e with e1 _; first | exact hold i (by omega) e1 | exact hold i (by omega) e1.symm)]
      exact (World.cell?_alloc_lt w _ (⟨bl i, j, none⟩ : Addr) (h.rl i (by omega))).trans (h.cell i j (by omega) hj)
  · rw [World.frozen?_setCell]
    by_cases c : i = k
    · rw [if_pos c]; simp only [World.frozen?, hn]; simp
    · rw [if_neg c]
      exact (World.frozen?_of_block (a := ⟨bl i, j, none⟩) (heap_alloc_old w _ (h.rl i (by omega)))).trans (h.fr i j (by omega))
  · by_cases c1 : i = k
    · by_cases c2 : j = k
      · rw [c1, c2]
      · simp only [if_pos c1, if_neg c2] at e
        exact absurd e.symm (hold j (by omega))
    · by_cases c2 : j = k
      · simp only [if_pos c2, if_neg c1] at e
        exact absurd e (hold i (by omega))
      · simp only [if_neg c1, if_neg c2] at e
        exact h.inj i j (by omega) (by omega) e
  · by_cases c : i = k
    · rw [if_pos c]; exact hB
    · rw [if_neg c]; exact h.low i (by omega)
end Ci
end Go.Proofs.YtpmlhgmmobpilaaGreatDoor
namespace Go.Proofs.YtpmlhgmmobpilaaGreatDoor
open Go.RowKit Go.Shelf
namespace Ci
open Nt
open Classical
/-- Block b has n truth values. -/
structure BoD (w : World) (b n : Nat) (f : Nat → Prop) : Prop where
  lt : b < w.heap.size
  cell : ∀ x, x < n → w.cell? ⟨b, x, none⟩ = some (.bool (bV (f x)))
  fr : ∀ x, w.frozen? ⟨b, x, none⟩ = false
section
variable {w w' : World} {b n : Nat} {f g : Nat → Prop}
theorem BoD.of_block (h : BoD w b n f) (hs : w.heap.size ≤ w'.heap.size) (hb : w'.heap[b]? = w.heap[b]?) : BoD w' b n f :=
  ⟨Nat.lt_of_lt_of_le h.lt hs, fun x hx => (World.cell?_of_block (a := ⟨b, x, none⟩) hb).trans (h.cell x hx), fun x => (World.frozen?_of_block (a := ⟨b, x, none⟩) hb).trans (h.fr x)⟩
theorem BoD.grown {row : Option Nat} (h : BoD w b n f) (hg : w.grownBy w' row) (hr : row ≠ some b) : BoD w' b n f := h.of_block hg.size (hg.block b h.lt fun e => hr e.symm)
theorem BoD.alloc (h : BoD w b n f) (o : Obj) : BoD (w.alloc o) b n f := h.of_block (by simp) (heap_alloc_old w o h.lt)
theorem BoD.set (h : BoD w b n f) {x : Nat} (hx : x < n) (hT : ∀ a, g a ↔ f a ∨ a = x) : BoD (w.setCell ⟨b, x, none⟩ (.bool true)) b n g := by
  refine ⟨by simpa using h.lt, fun y hy => ?_, fun y => by simpa using h.fr y⟩
  by_cases e : y = x
  · subst e
    rw [World.cell?_setCell_same _ _ _ (h.cell y hy), bV_true ((hT y).2 (.inr rfl))]
  · rw [World.cell?_setCell_other _ _ _ _ (fun c => by injection c with _ c2; first | exact e c2 | exact e c2.symm), h.cell y hy]
    by_cases c : f y
    · rw [bV_true c, bV_true ((hT y).2 (.inl c))]
    · rw [bV_false c, bV_false fun d => ((hT y).1 d).elim c e]
theorem BoD.congr (h : BoD w b n f) (e : ∀ x, x < n → (f x ↔ g x)) : BoD w b n g := ⟨h.lt, fun x hx => by rw [h.cell x hx]; by_cases c : f x; (· rw [bV_true c, bV_true ((e x hx).1 c)]); (· rw [bV_false c, bV_false fun d => c ((e x hx).2 d)]), h.fr⟩
theorem BoD.made (w : World) (n : Nat) (t : TypeId) : BoD (w.alloc (.cells (madeCells #[.bool false] n) t)) w.heap.size n fun _ => False := by
  have h := heap_alloc_new w (.cells (madeCells #[(.bool false : Value)] n) t)
  refine ⟨by simp, fun x hx => ?_, fun x => by simp only [World.frozen?, h]; simp⟩
  rw [made_bool w n x t hx, bV_false fun h => h]
end
/-- What was chosen so far, and where it lies. -/
structure P3 (E : List (Nat × Nat)) (n : Nat) (w3 : World) (gD : Nat) (v : Nat → Value) (pre left : List Nat) (vo : Value) (wr : World) : Prop where
  st : Stage n E pre left
  kp : Kp [gD] w3 wr
  dn : BoD wr gD n fun x => fst E x ∉ left
  rows : ∀ x, x ∈ pre → wr.ownsRow w3.heap.size 3 1 (v x) (comp n E x).length (intsL (comp n E x))
  out : wr.ownsRow w3.heap.size 24 1 vo pre.length (pre.map v)
  apart : ∀ x, x ∈ pre → OffB (v x) vo
section
variable {E : List (Nat × Nat)} {n p q gD : Nat} {w3 wr w' : World} {v : Nat → Value} {pre left : List Nat} {vo : Value}
/-- While a component is gathered: what was gathered ahead of party q. -/
structure P4 (E : List (Nat × Nat)) (n : Nat) (wI : World) (gD : Nat) (left : List Nat) (p q : Nat) (vc : Value) (wr : World) : Prop where
  kp : Kp [gD] wI wr
  dn : BoD wr gD n fun x => fst E x ∉ left ∨ (Mut E p x ∧ x < q)
  row : wr.ownsRow wI.heap.size 3 1 vc (part E p q).length (intsL (part E p q))
theorem P4.skip {wI : World} {vc : Value} (h : P4 E n wI gD left p q vc wr) (hm : ¬ Mut E p q) : P4 E n wI gD left p (q + 1) vc wr := by
  refine ⟨h.kp, h.dn.congr fun x _ => ?_, ?_⟩
  · constructor
    · rintro (a | ⟨a, b⟩)
      · exact .inl a
      · exact .inr ⟨a, by omega⟩
    · rintro (a | ⟨a, b⟩)
      · exact .inl a
      · by_cases e : x = q
        · subst e; exact absurd a hm
        · exact .inr ⟨a, by omega⟩
  · rw [part_succ, if_neg hm]; exact h.row
theorem P4.step {wI wb : World} {vc vb : Value} (h : P4 E n wI gD left p q vc wr) (hm : Mut E p q) (hq : q < n) (hgD : gD < wI.heap.size)
    (ho : wb.ownsRow wI.heap.size 3 1 vb ((part E p q).length + 1) (intsL (part E p q) ++ [.int .i64 (q : Int)])) (hg : (wr.alloc (.cells #[.int .i64 (q : Int)] 3)).grownBy wb vc.ownBlock) :
    BoD wb gD n (fun x => fst E x ∉ left ∨ (Mut E p x ∧ x < q)) ∧ P4 E n wI gD left p (q + 1) vb (wb.setCell ⟨gD, q, none⟩ (.bool true)) := by
  have hvc : ∀ b, vc.ownBlock = some b → wI.heap.size ≤ b := fun b e => (h.row.lt b e).1
  have hD := (h.dn.alloc (.cells #[.int .i64 (q : Int)] 3)).grown hg fun e => by have := hvc gD e; omega
  refine ⟨hD, ((h.kp.alloc _).grown hg fun b e => .inr (hvc b e)).set (a := ⟨gD, q, none⟩) _ (.inl (by simp)), hD.set hq fun a => ?_, ?_⟩
  · constructor
    · rintro (c | ⟨c, d⟩)
      · exact .inl (.inl c)
      · by_cases e : a = q
        · exact .inr e
        · exact .inl (.inr ⟨c, by omega⟩)
    · rintro ((c | ⟨c, d⟩) | e)
      · exact .inl c
      · exact .inr ⟨c, by omega⟩
      · subst e; exact .inr ⟨hm, by omega⟩
  · rw [part_succ, if_pos hm, List.length_append, intsL_snoc]
    refine ho.kept (grown_set wb ⟨gD, q, none⟩ (.bool true)) ?_
    cases hu : vb.ownBlock with
    | none => exact .inl rfl
    | some b => exact .inr fun e => (by have h1 := (ho.lt b hu).1; have h2 : b = gD := Option.some.inj e; omega)
/-- The chosen component is put behind the others. -/
theorem P3.step {wI wb : World} {vc vb : Value} (h : P3 E n w3 gD v pre left vo wI) (h4 : P4 E n wI gD left p n vc wr) (hgD : gD < w3.heap.size) (hp : pick E left = some p)
    (ho : wb.ownsRow w3.heap.size 24 1 vb (pre.length + 1) (pre.map v ++ [vc])) (hg : (wr.alloc (.cells #[vc] 24)).grownBy wb vo.ownBlock) (hn : vb.ownBlock = vo.ownBlock ∨ vb.ownBlock = some (wr.alloc (.cells #[vc] 24)).heap.size) :
    P3 E n w3 gD (fun x => if x = p then vc else v x) (pre ++ [p]) (left.erase p) vb wb := by
  obtain ⟨hpl, _, _⟩ := pick_says h.st.ok hp
  have hpre : ∀ x, x ∈ pre → x ≠ p := fun x hx e => by subst e; exact (h.st.had x hx).2.2 hpl
  have hown := (h.st.ok.own p hpl)
  have hIs := h.kp.size
  have hWs := h4.kp.size
  have hvo : ∀ b, vo.ownBlock = some b → w3.heap.size ≤ b ∧ b < wI.heap.size := fun b e => h.out.lt b e
  have hvc : ∀ b, vc.ownBlock = some b → wI.heap.size ≤ b ∧ b < wr.heap.size := fun b e => h4.row.lt b e
  have hvx : ∀ x, x ∈ pre → ∀ b, (v x).ownBlock = some b → w3.heap.size ≤ b ∧ b < wI.heap.size := fun x hx b e => (h.rows x hx).lt b e
  have hsz : (wr.alloc (.cells #[vc] 24)).heap.size = wr.heap.size + 1 := by simp
  have hvox : ∀ x, x ∈ pre → ∀ b, (v x).ownBlock = some b → vo.ownBlock ≠ some b := fun x hx b e c => h.apart x hx b e c
  refine ⟨h.st.step hp, ?_, ?_, fun x hx => ?_, ?_, fun x hx b e c => ?_⟩
  · have h1 : Kp [gD] w3 wr := ⟨h4.kp.os.trans h.kp.os, h4.kp.tape.trans h.kp.tape, h4.kp.output.trans h.kp.output, Nat.le_trans hIs hWs, fun k hk hx => (h4.kp.block k (Nat.lt_of_lt_of_le hk hIs) hx).trans (h.kp.block k hk hx)⟩
    exact (h1.alloc _).grown hg fun b e => .inr (hvo b e).1
  · refine ((h4.dn.alloc _).grown hg fun e => by have := (hvo gD e).1; omega).congr fun x hx => ?_
    rw [h.st.ok.nodup.mem_erase_iff]
    constructor
    · rintro (a | ⟨a, _⟩) ⟨c1, c2⟩
      · exact a c2
      · exact c1 (by rw [← fst_eq a, hown.2])
    · intro c
      by_cases e : fst E x = p
      · exact .inr ⟨fst_iff.1 (by rw [e, hown.2]), hx⟩
      · exact .inl fun d => c ⟨e, d⟩
  · rcases List.mem_append.1 hx with hx | hx
    · have hne := hpre x hx
      simp only [if_neg hne]
      have h1 := own_kp (h.rows x hx) h4.kp fun b e => by have := (hvx x hx b e).1; simp; omega
      refine (own_below' h1 ((Below.refl _ wr).alloc (Nat.le_refl _) _)).kept hg ?_
      cases hu : (v x).ownBlock with
      | none => exact .inl rfl
      | some b => exact .inr fun e => hvox x hx b hu e.symm
    · rw [List.mem_singleton.1 hx]
      simp only
      have h1 : wr.ownsRow w3.heap.size 3 1 vc (comp n E p).length (intsL (comp n E p)) := by
        obtain ⟨a1, a2⟩ := h4.row
        refine ⟨a1, a2.imp id ?_⟩
        rintro ⟨g, cap, cur, q1, q2, q3⟩
        exact ⟨g, cap, cur, q1, Nat.le_trans hIs q2, q3⟩
      refine (own_below' h1 ((Below.refl _ wr).alloc (Nat.le_refl _) _)).kept hg ?_
      cases hu : vc.ownBlock with
      | none => exact .inl rfl
      | some b => exact .inr fun e => by have h2 := (hvc b hu).1; have h3 := (hvo b e.symm).2; omega
  · have e1 : (pre ++ [p]).map (fun x => if x = p then vc else v x) = pre.map v ++ [vc] := by
      rw [List.map_append, List.map_singleton, if_pos rfl]
      congr 1
      exact List.map_congr_left fun x hx => if_neg (hpre x hx)
    rw [List.length_append, e1]
    exact ho
  · rcases List.mem_append.1 hx with hx | hx
    · simp only [if_neg (hpre x hx)] at e
      rcases hn with hn | hn
      · exact hvox x hx b e (by rw [← hn, c])
      · have h2 := (hvx x hx b e).2
        rw [c, hsz] at hn
        simp only [Option.some.injEq] at hn
        omega
    · rw [List.mem_singleton.1 hx] at e
      simp only at e
      have h2 := hvc b e
      rcases hn with hn | hn
      · rw [c] at hn
        have h3 := (hvo b hn.symm).2
        omega
      · rw [c, hsz] at hn
        simp only [Option.some.injEq] at hn
        omega
theorem P3.start (hE : InN n E) (hd : BoD w3 gD n fun _ => False) : P3 E n w3 gD v [] (leasts n E) (.slice none 0 0) w3 :=
  ⟨Stage.start hE, Kp.refl _ _, hd.congr fun x hx => ⟨fun h => h.elim, fun h => h (mem_leasts.2 ⟨fst_lt hx, fst_fst⟩)⟩, fun x hx => (by cases hx), World.ownsRow_nil _ _ _ _, fun x hx => (by cases hx)⟩
end
end Ci
end Go.Proofs.YtpmlhgmmobpilaaGreatDoor
namespace Go.Proofs.YtpmlhgmmobpilaaGreatDoor
open Go.RowKit Go.Shelf
namespace Ci
open Nt
open Classical
end Ci
end Go.Proofs.YtpmlhgmmobpilaaGreatDoor

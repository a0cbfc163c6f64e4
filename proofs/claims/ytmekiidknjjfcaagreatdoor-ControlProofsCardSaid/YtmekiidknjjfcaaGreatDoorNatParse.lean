/- The walk of natural's parse. -/
import Derived.Test.YtmekiidknjjfcaaGreatDoorNatLib
import Derived.Test.YtmekiidknjjfcaaGreatDoorNatDigits
import Derived.Test.YtmekiidknjjfcaaGreatDoorNatSub
import Derived.Lib.IndexBytes
namespace Go.Proofs.YtmekiidknjjfcaaGreatDoor
open Go.RowKit
namespace Nt

def ParseRel (B : Nat) (w : World) (l : List UInt8) (v : Value) (i : Value) (wr : World) : Prop :=
  ∃ (k e : Nat) (zs : List Nat) (j : Int), i = .int .i64 j ∧ e = j.toNat ∧ j + 9 * k = l.length ∧ k ≤ l.length ∧ -9 < j ∧ InR zs ∧ Own 45 B wr v k zs ∧ dval (l.take e) * 1000000000 ^ k + lv zs = dval l ∧ Below B w wr

theorem Own.from_block {t : TypeId} {B : Nat} {w : World} {v : Value} {n : Nat} {xs : List Nat} (h : Own t B w v n xs) (b : Nat) (e : v.ownBlock = some b) : B ≤ b := by
  have := h.from
  cases v <;> simp [Value.ownBlock] at e
  rename_i a l c
  cases a with
  | none => simp at e
  | some ad => simp at e; subst e; exact this

set_option maxRecDepth 100000 in
set_option maxHeartbeats 1000000 in
theorem parse_any (s : ByteArray) (w : World) (hs : s.size ≤ 1000) (hd : ∀ c ∈ s.data.toList, isDig c) :
    Calls Tryz.prog 96 #[.string s] w (PostNumV w.heap.size w (dval s.data.toList)) := by
  obtain ⟨i0, hi, hz0, hz1, hz2⟩ := info_parts infoU
  have hsl : s.data.toList.length = s.size := by simp
  have HSL := Lib.hid hsl
  have HD := Lib.hid hd
  clear hsl hd
  go_enter Tryz.func96, Tryz.ntmps96
  go_wp2
  go_loopw [3, 4] (fun v i wr => ParseRel w.heap.size w s.data.toList v i wr) (fun _ i _ => (intOf i).toNat)
  case atStart =>
    have := HSL.out
    exact ⟨0, s.size, [], s.size, rfl, by simp, by omega, by omega, by omega, fun x hx => absurd hx (by simp), World.ownsRow_nil _ _ _ _, by rw [List.take_of_length_le (by omega)]; simp [lv], Below.refl _ _⟩
  case round =>
    obtain ⟨k, e, zs, j, rfl, he, hk, hk2, hj, z1, z2, z3, z4⟩ := hrel
    have hsl := HSL.out
    rw [hsl] at hk hk2
    clear hsl
    have hsz := z4.size
    by_cases hp : 0 < j
    · obtain ⟨q, hq⟩ : ∃ q : Nat, j = (q : Int) := ⟨j.toNat, by omega⟩
      subst hq
      have he' : e = q := by omega
      subst he'
      have hqs : e ≤ s.size := by omega
      obtain ⟨a, ha⟩ : ∃ a, a = e - 9 := ⟨_, rfl⟩
      have ha1 : a ≤ e := by omega
      have hpu := parseUint_ok (s.extract a e) (by simp; omega) (dval ((s.data.toList.take e).drop a)) ?pc wr
      case pc =>
        have e1 : (s.extract a e).data.toList = (s.data.toList.take e).drop a := by rw [Lib.extract_data, List.drop_take]
        rw [e1]
        refine parse_chunk (fun c hc => HD.out c (List.mem_of_mem_take (List.mem_of_mem_drop hc))) ?_ ?_
        · intro h; have := congrArg List.length h; simp at this; have := HSL.out; simp at this; omega
        · simp; omega
      have hlt : dval ((s.data.toList.take e).drop a) < 1000000000 := by
        have h1 := dval_lt (l := (s.data.toList.take e).drop a) (fun c hc => HD.out c (List.mem_of_mem_take (List.mem_of_mem_drop hc)))
        have h2 : ((s.data.toList.take e).drop a).length ≤ 9 := by simp; omega
        exact Nat.lt_of_lt_of_le h1 (Nat.le_trans (Nat.pow_le_pow_right (by omega) h2) (by decide))
      have hval : dval (s.data.toList.take a) * 1000000000 ^ (k + 1) + (lv zs + 1000000000 ^ k * dval ((s.data.toList.take e).drop a)) = dval s.data.toList := by
        have hsplit : s.data.toList.take e = s.data.toList.take a ++ (s.data.toList.take e).drop a := by
          have h1 := (List.take_append_drop a (s.data.toList.take e)).symm
          rw [List.take_take, Nat.min_eq_left ha1] at h1
          exact h1
        rw [← z3]
        conv => rhs; rw [hsplit, dval_append]
        have hlen : ((s.data.toList.take e).drop a).length = e - a := by
          rw [List.length_drop, List.length_take, HSL.out, Nat.min_eq_left hqs]
        rw [hlen]
        rcases Nat.eq_zero_or_pos a with h0 | h0
        · rw [h0, List.take_zero, dval_nil, Nat.zero_mul, Nat.zero_mul, Nat.zero_add, Nat.zero_add, Nat.mul_comm (1000000000 ^ k)]
          omega
        · have h9 : e - a = 9 := by omega
          rw [h9, Nat.pow_succ, Nat.add_mul, Nat.mul_comm (1000000000 ^ k) (dval _)]
          have : dval (s.data.toList.take a) * (1000000000 ^ k * 1000000000) = dval (s.data.toList.take a) * 10 ^ 9 * 1000000000 ^ k := by
            rw [Nat.mul_comm (1000000000 ^ k), Nat.mul_assoc, show (10 : Nat) ^ 9 = 1000000000 from rfl]
          omega
      generalize dval ((s.data.toList.take e).drop a) = x at hpu hlt hval
      replace z1 := Lib.hid z1
      replace z3 := Lib.hid z3
      replace z4 := Lib.hid z4
      replace hval := Lib.hid hval
      replace he := Lib.hid he
      replace hk := Lib.hid hk
      have hmx : max (0 : Int) ((e : Int) - 9) = (a : Int) := by omega
      have HA := Lib.hid ha
      clear ha
      go_wp2_with (first
        | (go_at_call 118; refine hpu.mono ?_; rintro e w1 ⟨rfl, hb1⟩; replace hb1 := Lib.hid hb1)
        | (at_builtin; refine wpList_append_own _ rfl _ _ 124 rfl w.heap.size 45 i0 (.int .u64 0) 1 8 Tryz.underlying124 hi hz0 hz1 hz2 rfl (by decide) u3 k (lvals zs) rfl ((z2.below hb1.out).alloc _) ⟨w1.heap.size, 0, none⟩ 1 1 [.int .u64 (x : Int)] rfl rfl (one_new _ _ _) (one_cell _ _) (by unfold maxLen; omega) (by omega) (by have := hb1.out.size; simp; omega) ?_; intro v2 w2 hown2 hgr2 _))
      have hb1' := hb1.out
      have hsz1 := hb1'.size
      rw [lvals_snoc] at hown2
      refine ⟨⟨k + 1, a, zs ++ [x], (e : Int) - 9, rfl, by have := HA.out; omega, by have := hk.out; have := HSL.out; omega, ?_, by omega, ?_, hown2, ?_, ((z4.out.trans (hb1'.mono hsz)).alloc (by omega) _).grown hgr2 (by simp; omega) (fun b e => z2.from_block b e)⟩, by simp only [intOf]; omega⟩
      · have := hk.out; have := HSL.out; omega
      · intro y hy
        rcases List.mem_append.1 hy with h | h
        · exact z1.out y h
        · simp at h; omega
      · rw [lv_append, z2.len]
        have := hval.out
        simp only [lv, Nat.mul_zero, Nat.add_zero]
        omega
    · obtain rfl : e = 0 := by omega
      have hsl := z2.sl
      have hzl := z2.len
      have hfr := z2.from
      replace z3 := Lib.hid z3
      replace hzl := Lib.hid hzl
      replace z4 := Lib.hid z4
      have hj0 : ¬ (0 : Int) < j := hp
      have ht := trim_any wr u3 zs (by have := hzl.out; omega) hsl
      obtain ⟨a3, l3, c3, e3⟩ : ∃ a l c, u3 = .slice a l c := by obtain ⟨a, c, h, _⟩ := hsl; exact ⟨a, _, c, h⟩
      subst e3
      clear z2 hsl he hk
      go_wp2_with (go_at_call 117; refine ht.mono ?_; rintro e w' ⟨v, k', rfl, ht', hs', hf', rfl⟩)
      go_ret
      have := z3.out
      rw [List.take_zero, dval_nil, Nat.zero_mul, Nat.zero_add] at this
      exact ⟨v, rfl, ⟨zs.take k', ht'.canon z1, by rw [ht'.lv, this], hs'⟩, hf' _ hfr, z4.out⟩

end Nt
end Go.Proofs.YtmekiidknjjfcaaGreatDoor

/- The reference's Over and Common. -/
import Derived.Test.YtjahnkeafaebdaaGreatDoorRefPlus
import Derived.Test.YtjahnkeafaebdaaGreatDoorNatApi2
import Derived.Deep.LoopGhost
namespace Go.Proofs.YtjahnkeafaebdaaGreatDoor
open Go.RowKit Go.Shelf
namespace Nt

theorem num_zero : num 0 = ⟨#[48]⟩ := num_lit [48] 0 (by decide) (by decide)

theorem Over_less (a b : Nat) (w : World) (ha : (num a).size ≤ 10000) (hb : (num b).size ≤ 10000) (h : a < b) :
    Calls Tryz.prog 87 #[.string (num a), .string (num b)] w fun e w' => e = .returned (.tuple #[.string (num (a / b)), .string (num (a % b))]) ∧ w = w' := by
  have c1 := Order_any a b w (by omega) (by omega)
  rw [cmpN_lt h] at c1
  have HV : Hid (num (a / b) = ⟨#[48]⟩ ∧ num (a % b) = num a) := ⟨by rw [Nat.div_eq_of_lt h, num_zero], by rw [Nat.mod_eq_of_lt h]⟩
  clear h
  go_enter Tryz.func87, Tryz.ntmps87
  go_wp2_with fail
  refine c1.mono ?_
  rintro e w1 ⟨rfl, rfl⟩
  go_wp2
  go_ret2
  exact ⟨by rw [HV.out.1, HV.out.2]; rfl, rfl⟩

theorem cmpN_ge {a b : Nat} (h : b ≤ a) : ∃ c : Int, c = cmpN a b ∧ 0 ≤ c ∧ c ≤ 1 := by
  refine ⟨_, rfl, ?_⟩
  unfold cmpN
  rw [if_neg (by omega)]
  split <;> omega

set_option maxRecDepth 100000 in
theorem Over_small (a b : Nat) (w : World) (ha : (num a).size ≤ 18) (hb0 : b ≠ 0) (h : b ≤ a) :
    Calls Tryz.prog 87 #[.string (num a), .string (num b)] w fun e w' => e = .returned (.tuple #[.string (num (a / b)), .string (num (a % b))]) ∧ w = w' := by
  have hb := size_mono h
  have h1 := pow18 ha
  have c1 := Order_any a b w (by omega) (by omega)
  obtain ⟨c, hc, hc0, hc1⟩ := cmpN_ge h
  rw [← hc] at c1
  have v1 := value_num a w ha
  have v2 := value_num b w (by omega)
  have hq := Nat.div_le_self a b
  have hr : a % b < b := Nat.mod_lt _ (by omega)
  have d1 := Decimal_any (a / b) w (by omega)
  have d2 := Decimal_any (a % b) w (by omega)
  rw [Int.natCast_ediv] at d1
  rw [Int.natCast_emod] at d2
  have hz : ((b : Int) == 0) = false := by rw [beq_eq_false_iff_ne]; omega
  have hw : wrap64 ((a : Int) / (b : Int)) = (a : Int) / (b : Int) := by
    have e : (a : Int) / (b : Int) = ((a / b : Nat) : Int) := by simp
    rw [e]
    generalize a / b = q at hq
    exact IntWalk.wrap64_in _ ⟨by omega, by omega⟩
  clear hc hq hr
  replace hb0 := Lib.hid hb0
  go_enter Tryz.func87, Tryz.ntmps87
  go_wp2_with fail
  refine c1.mono ?_
  rintro e w1 ⟨rfl, rfl⟩
  go_wp2_with fail
  refine v1.mono ?_
  rintro e w1 ⟨rfl, rfl⟩
  go_wp2_with fail
  refine v2.mono ?_
  rintro e w1 ⟨rfl, rfl⟩
  go_wp2_with fail
  refine d1.mono ?_
  rintro e w1 ⟨rfl, rfl⟩
  go_wp2_with fail
  refine v1.mono ?_
  rintro e w1 ⟨rfl, rfl⟩
  go_wp2_with fail
  refine v2.mono ?_
  rintro e w1 ⟨rfl, rfl⟩
  go_wp2_with fail
  refine d2.mono ?_
  rintro e w1 ⟨rfl, rfl⟩
  go_wp2
  go_ret2
  exact ⟨rfl, rfl⟩

/-- Between two rounds of a long division. -/
def OvRel (w : World) (a b i : Nat) (v : Value) (s : ByteArray) (wr : World) : Prop :=
  ∃ qs : List UInt8, (∀ c ∈ qs, isDig c) ∧ (∀ c ∈ s.data.toList, isDig c) ∧ s.size ≤ 20000 ∧ qs.length ≤ i ∧ dval ((num a).data.toList.take i) = dval qs * b + val s ∧ val s < b ∧
    (i + 1 = (num b).size ∨ (s = num (val s) ∧ qs ≠ [])) ∧ OwnB w.heap.size wr v qs ∧ Below w.heap.size w wr
/-- Between two subtractions. -/
def SubRel (w : World) (R b : Nat) (qs : List UInt8) (v : Value) (t r : Nat) (wr : World) : Prop := r + t * b = R ∧ OwnB w.heap.size wr v qs ∧ Below w.heap.size w wr

theorem ov_digits {s a : ByteArray} {i : Nat} (hi : i < a.size) (hs : ∀ c ∈ s.data.toList, isDig c) (ha : ∀ c ∈ a.data.toList, isDig c) :
    (s ++ a.extract i (i + 1)).data.toList = s.data.toList ++ [a[i]] ∧ (∀ c ∈ (s ++ a.extract i (i + 1)).data.toList, isDig c) ∧ (s ++ a.extract i (i + 1)).size = s.size + 1 := by
  have e : (s ++ a.extract i (i + 1)).data.toList = s.data.toList ++ [a[i]] := by
    rw [ByteArray.toList_data_append, Lib.extract_data, show i + 1 - i = 1 by omega]
    congr 1
    rw [List.drop_eq_getElem_cons (by simpa using hi)]
    rfl
  refine ⟨e, fun c hc => ?_, ?_⟩
  · rw [e] at hc
    rcases List.mem_append.1 hc with h | h
    · exact hs c h
    · simp at h
      subst h
      exact ha _ (by
        have : a[i] = a.data.toList[i]'(by simpa using hi) := rfl
        rw [this]; exact List.getElem_mem _)
  · rw [Lib.size_eq, e]
    simp

theorem ov_start (a b : Nat) (hb0 : b ≠ 0) :
    ((num a).extract 0 ((num b).size - 1)).data.toList = (num a).data.toList.take ((num b).size - 1) ∧ dval ((num a).data.toList.take ((num b).size - 1)) < b := by
  constructor
  · rw [Lib.extract_data]; simp
  · have h1 := dval_take_lt (l := (num a).data.toList) (by rw [num_list]; exact decDigits_dig a) ((num b).size - 1)
    have hp := size_pos b
    by_cases hs : (num b).size - 1 = 0
    · rw [hs] at h1 ⊢
      simp only [List.take_zero, dval_nil]
      omega
    · have h2 : ¬ b < 10 ^ ((num b).size - 1) := fun hc => by
        have := decDigits_len hc (by omega)
        rw [← num_size] at this
        omega
      omega

theorem sub_done {A Q S b c t r : Nat} (h1 : A = Q * b + S) (h2 : r + t * b = S * 10 + c) : A * 10 + c = (Q * 10 + t) * b + r := by
  rw [h1, Nat.add_mul, Nat.add_mul, Nat.mul_assoc, Nat.mul_assoc, Nat.mul_comm b 10]
  omega
theorem ov_lt {S b c : Nat} (h1 : S < b) (h2 : c ≤ 9) : S * 10 + c < 10 * b := by omega
theorem sub_more {t r b R : Nat} (h : r + t * b = R) (hR : R < 10 * b) (hr : b ≤ r) : t + 1 ≤ 9 ∧ (r - b) + (t + 1) * b = R := by
  have e : (t + 1) * b = t * b + b := Nat.succ_mul t b
  refine ⟨?_, by omega⟩
  rcases Nat.lt_or_ge t 9 with h9 | h9
  · omega
  · have : 9 * b ≤ t * b := Nat.mul_le_mul_right _ h9
    omega
theorem div_done {a b Q S : Nat} (h : a = Q * b + S) (hs : S < b) : Q = a / b ∧ S = a % b := by
  subst h
  constructor
  · rw [Nat.add_comm, Nat.add_mul_div_right _ _ (by omega), Nat.div_eq_of_lt hs, Nat.zero_add]
  · rw [Nat.add_comm, Nat.add_mul_mod_self_right, Nat.mod_eq_of_lt hs]

set_option maxRecDepth 100000 in
set_option maxHeartbeats 4000000 in
theorem Over_big (a b : Nat) (w : World) (ha : (num a).size ≤ 9000) (ha18 : 18 < (num a).size) (hb0 : b ≠ 0) (h : b ≤ a) :
    Calls Tryz.prog 87 #[.string (num a), .string (num b)] w fun e w' => e = .returned (.tuple #[.string (num (a / b)), .string (num (a % b))]) ∧ Below w.heap.size w w' := by
  obtain ⟨i0, hi, hz0, hz1, hz2⟩ := info_parts infoB
  have hb := size_mono h
  have hbp := size_pos b
  have c1 := Order_any a b w (by omega) (by omega)
  obtain ⟨c, hc, hc0, hc1⟩ := cmpN_ge h
  rw [← hc] at c1
  have hbi : ((num b).size : Int) - 1 = (((num b).size - 1 : Nat) : Int) := by omega
  have hbl : (num b).size - 1 ≤ (num a).size := by omega
  have HS := Lib.hid (ov_start a b hb0)
  have HD : Hid (∀ c ∈ (num a).data.toList, isDig c) := by unfold Hid; rw [num_list]; exact decDigits_dig a
  have HV : Hid (dval ((num a).data.toList.take (num a).size) = a) := by
    unfold Hid
    rw [List.take_of_length_le (by rw [num_size, num_list]; exact Nat.le_refl _), num_list, dval_decDigits]
  replace hb0 := Lib.hid hb0
  clear hc h
  go_enter Tryz.func87, Tryz.ntmps87
  go_wp2_with fail
  refine c1.mono ?_
  rintro e w1 ⟨rfl, rfl⟩
  clear c1
  go_wp2_with (at_make; refine wpList_make_own _ rfl _ _ 96 rfl w.heap.size 5 i0 (.int .u8 0) 1 Tryz.underlying96 hi hz0 hz1 _ _ _ (num a).size rfl rfl (by omega) (by rw [hz2]; omega) (by unfold maxLen; omega) (Nat.le_refl _) ?_; intro w1 hown1 hgr1)
  have h0 : OwnB w.heap.size w1 (.slice (some ⟨w.heap.size, 0, none⟩) 0 (num a).size) [] := hown1
  have hw1 : Below w.heap.size w w1 := (Below.refl _ _).grown hgr1 (Nat.le_refl _) (fun k e => by cases e)
  replace h0 := Lib.hid h0
  replace hw1 := Lib.hid hw1
  clear hown1 hgr1
  go_loopw [6, 7, 8] (fun v r i wr => ∃ (k : Nat) (s : ByteArray), (num b).size ≤ k + 1 ∧ k ≤ (num a).size ∧ i = .int .i64 (k : Int) ∧ r = .string s ∧ OvRel w a b k v s wr) (fun _ _ i _ => (num a).size - (intOf i).toNat)
  case atStart =>
    refine ⟨(num b).size - 1, _, by omega, by omega, rfl, rfl, [], fun _ h => absurd h (by simp), ?_, ?_, by simp, ?_, ?_, .inl (by omega), h0.out, hw1.out⟩
    · rw [HS.out.1]; exact fun c hc => HD.out c (List.mem_of_mem_take hc)
    · rw [Lib.size_eq, HS.out.1]; simp; omega
    · unfold val; rw [HS.out.1]; simp [dval]
    · unfold val; rw [HS.out.1]; exact HS.out.2
  case round =>
    obtain ⟨k, s, hk1, hk, rfl, rfl, qs, z1, z2, z3, z4, z5, z6, z7, z8, z9⟩ := hrel
    clear h0 hw1
    have hsz := z9.size
    by_cases hlt : k < (num a).size
    · have hov := ov_digits hlt z2 HD.out
      have ct := reftrim_any (s ++ (num a).extract k (k + 1)) wr (by omega) (by omega) hov.2.1
      obtain ⟨c, hc⟩ : ∃ c, c = (num a)[k].toNat - 48 := ⟨_, rfl⟩
      have hcd : isDig ((num a)[k]) := HD.out _ (by
        have : (num a)[k] = (num a).data.toList[k]'(by simpa using hlt) := rfl
        rw [this]; exact List.getElem_mem _)
      have hc9 : c ≤ 9 := by have := hcd.2; omega
      have hR : dval (s ++ (num a).extract k (k + 1)).data.toList = val s * 10 + c := by
        rw [hov.1, dval_append, hc]; simp [dval, val]
      rw [hR] at ct
      have hA := dval_take_succ (num a) k hlt
      rw [← hc] at hA
      have hRl := ov_lt z6 hc9
      obtain ⟨R, hRe⟩ : ∃ R, R = val s * 10 + c := ⟨_, rfl⟩
      rw [← hRe] at ct hRl
      have HN : Hid (∀ (t r : Nat) (d : Int) v2 w2, r + t * b = R → r < b → t ≤ 9 → d = 48 + (t : Int) → w2.ownsRow w.heap.size 5 1 v2 (qs.length + 1) (Lib.byteCells qs ++ [Value.int .u8 d]) → Below w.heap.size w w2 → (num r).size ≤ 20000 → OvRel w a b (k + 1) v2 (num r) w2) := by
        intro t r d v2 w2 h1 h2 h3 h4 ho hb' hsz'
        refine ⟨qs ++ [UInt8.ofNat (48 + t)], ?_, by rw [num_list]; exact decDigits_dig r, hsz', by simp; omega, ?_, by rw [val_num]; exact h2, .inr ⟨by rw [val_num], by simp⟩, ?_, hb'⟩
        · intro x hx
          rcases List.mem_append.1 hx with h | h
          · exact z1 x h
          · simp at h; subst h
            unfold isDig
            have := toNat_dig t (by omega)
            rw [show (48 + UInt8.ofNat t : UInt8) = UInt8.ofNat (48 + t) from by simp] 
            omega
        · rw [hA, dval_append, val_num]
          have e : dval [UInt8.ofNat (48 + t)] = t := by
            have := toNat_dig t (by omega)
            simp only [dval, List.foldl_cons, List.foldl_nil]
            omega
          rw [e]
          simp only [List.length_cons, List.length_nil]
          exact sub_done z5 (by rw [h1, hRe])
        · unfold OwnB
          rw [← byteCells_snoc, List.length_append, toNat_dig t (by omega)]
          have e : ((48 + t : Nat) : Int) = d := by omega
          rw [e]
          exact ho
      have HO : Hid (OwnB w.heap.size wr u6 qs) := z8
      have HB := Lib.hid z9
      have HL : Hid (qs.length ≤ k) := z4
      have HR := Lib.hid hRl
      clear z1 z2 z4 z5 z6 z7 z8 z9 hov hR hA hRl hcd hc hRe
      have hki : ((k : Int) + 1).toNat = k + 1 := by omega
      go_wp2_with fail
      refine ct.mono ?_
      rintro e w2 ⟨rfl, rfl⟩
      clear ct
      go_wp2
      obtain ⟨wo, rfl⟩ : ∃ wo : World, wo = wr := ⟨_, rfl⟩
      go_loopw [7, 9] (fun r d wr => ∃ t r' : Nat, t ≤ 9 ∧ r = .string (num r') ∧ d = .int .u8 (48 + (t : Int)) ∧ SubRel w R b qs u6 t r' wr) (fun _ d _ => 57 - (intOf d).toNat)
      case atStart => exact ⟨0, R, by omega, rfl, rfl, by simp, HO.out, HB.out⟩
      case round =>
        obtain ⟨t, r', ht, rfl, rfl, y1, y2, y3⟩ := hrel
        have hr' : (num r').size ≤ 10000 := by
          have h1 := size_mono (show r' ≤ R by omega)
          have h2 := HR.out
          have h3 : (num R).size ≤ (num b).size + 1 := by
            rw [num_size]
            refine decDigits_len ?_ (by omega)
            have := lt_pow_size b
            rw [Nat.pow_succ]
            omega
          omega
        have cm := Minus_any r' b wr hr'
        have co := Order_any r' b wr (by omega) (by omega)
        have hsz := y3.size
        replace y1 := Lib.hid y1
        replace y3 := Lib.hid y3
        by_cases hlt2 : r' < b
        · rw [cmpN_lt hlt2] at co
          have HQ : Hid (wr.ownsRow w.heap.size 5 1 u6 qs.length (Lib.byteCells qs)) := y2
          replace hlt2 := Lib.hid hlt2
          clear y2 cm
          go_wp2_with fail
          refine co.mono ?_
          rintro e w2 ⟨rfl, rfl⟩
          clear co
          go_wp2_with (at_builtin; refine wpList_append_own _ rfl _ _ 96 rfl w.heap.size 5 i0 (.int .u8 0) 1 1 Tryz.underlying96 hi hz0 hz1 hz2 rfl (by decide) u6 qs.length (Lib.byteCells qs) rfl (HQ.out.alloc _) ⟨wr.heap.size, 0, none⟩ 1 1 [.int .u8 (48 + (t : Int))] rfl rfl (one_new _ _ _) (one_cell _ _) (by have := HL.out; unfold maxLen; omega) (by have := HL.out; omega) (by simp; omega) ?_; intro v2 w2 hown2 hgr2 _)
          exact ⟨⟨k + 1, num r', by omega, by omega, by go_num, rfl, HN.out t r' _ v2 w2 y1.out hlt2.out ht rfl hown2 ((y3.out.alloc (by omega) _).grown hgr2 (by simp; omega) (fun b e => (HQ.out.lt b e).1)) (by omega)⟩, by simp only [intOf]; omega⟩
        · have hge : b ≤ r' := by omega
          obtain ⟨c, hc, hc0, hc1⟩ := cmpN_ge hge
          rw [← hc] at co
          have hmore := Lib.hid (sub_more y1.out HR.out hge)
          have cm := cm hge
          replace y2 := Lib.hid y2
          clear hc hlt2
          go_wp2_with fail
          refine co.mono ?_
          rintro e w2 ⟨rfl, rfl⟩
          clear co
          go_wp2_with fail
          refine cm.mono ?_
          rintro e w2 ⟨rfl, hb2⟩
          replace hb2 := Lib.hid hb2
          clear cm
          go_wp2
          refine ⟨⟨t + 1, r' - b, hmore.out.1, rfl, by go_num, hmore.out.2, y2.out.below hb2.out, y3.out.trans (hb2.out.mono hsz)⟩, ?_⟩
          have := hmore.out.1
          simp only [intOf]
          omega
    · obtain rfl : k = (num a).size := by omega
      have hz7 : s = num (val s) ∧ qs ≠ [] := by
        rcases z7 with h | h
        · omega
        · exact h
      have hdd := div_done (a := a) (by rw [← z5]; exact HV.out.symm) z6
      have ht := z8.text
      have hql : 0 < qs.length := List.length_pos_iff.2 hz7.2
      have ct := reftrim_any ⟨qs.toArray⟩ wr (by simp [ByteArray.size]; omega) (by simp [ByteArray.size]; omega) (by simpa using z1)
      have e : (⟨qs.toArray⟩ : ByteArray).data.toList = qs := rfl
      rw [e, hdd.1] at ct
      have HF : Hid (s = num (a % b)) := by unfold Hid; rw [← hdd.2]; exact hz7.1
      have HB := Lib.hid z9
      clear z1 z2 z4 z5 z6 z7 z8 z9 hz7 hdd hql e
      go_wp2_with fail
      refine ct.mono ?_
      rintro e w2 ⟨rfl, rfl⟩
      go_wp2
      go_ret2
      exact ⟨by rw [HF.out]; rfl, HB.out⟩

theorem Over_any (a b : Nat) (w : World) (ha : (num a).size ≤ 9000) (hb : (num b).size ≤ 9000) (hb0 : b ≠ 0) :
    Calls Tryz.prog 87 #[.string (num a), .string (num b)] w fun e w' => e = .returned (.tuple #[.string (num (a / b)), .string (num (a % b))]) ∧ Below w.heap.size w w' := by
  rcases Nat.lt_or_ge a b with h | h
  · refine (Over_less a b w (by omega) (by omega) h).mono ?_
    rintro e w' ⟨rfl, rfl⟩
    exact ⟨rfl, Below.refl _ _⟩
  · by_cases h18 : (num a).size ≤ 18
    · refine (Over_small a b w h18 hb0 h).mono ?_
      rintro e w' ⟨rfl, rfl⟩
      exact ⟨rfl, Below.refl _ _⟩
    · exact Over_big a b w ha (by omega) hb0 h

def ComRel (G : Nat) (w : World) (g : Nat) (v u : Value) (wr : World) : Prop :=
  ∃ k : Nat, v = .string (num k) ∧ u = .string (num g) ∧ Nat.gcd k g = G ∧ (num k).size ≤ 9000 ∧ (num g).size ≤ 9000 ∧ Below w.heap.size w wr

theorem num_is_zero (g : Nat) : ((num g).toList == [48]) = decide (g = 0) := by
  rw [Lib.toList_data, num_list, Bool.eq_iff_iff, beq_iff_eq, decide_eq_true_iff]
  constructor
  · intro e
    have := congrArg dval e
    rw [dval_decDigits] at this
    rw [this]; rfl
  · intro e; subst e; rw [Lib.decDigits_one (by omega)]; rfl

set_option maxHeartbeats 1000000 in
theorem Common_any (a b : Nat) (w : World) (ha : (num a).size ≤ 9000) (hb : (num b).size ≤ 9000) :
    Calls Tryz.prog 86 #[.string (num a), .string (num b)] w fun e w' => e = .returned (.string (num (Nat.gcd a b))) ∧ Below w.heap.size w w' := by
  go_enter Tryz.func86, Tryz.ntmps86
  go_wp2
  go_loopg [0, 1] b (fun g v u wr => ComRel (Nat.gcd a b) w g v u wr)
  case atStart => exact ⟨a, rfl, rfl, rfl, ha, hb, Below.refl _ _⟩
  case round =>
    obtain ⟨k, rfl, rfl, h3, h4, h5, h6⟩ := hrel
    have hsz := h6.size
    have hz := num_is_zero gk
    by_cases hg : gk = 0
    · rw [decide_eq_true hg] at hz
      have HF : Hid (num k = num (Nat.gcd a b)) := by unfold Hid; rw [← h3, hg, Nat.gcd_zero_right]
      replace h6 := Lib.hid h6
      clear h3 hg
      go_wp2
      go_ret
      exact ⟨ret_str HF.out, h6.out⟩
    · rw [decide_eq_false hg] at hz
      have hc := Over_any k gk wr h4 h5 hg
      replace h3 := Lib.hid h3
      replace h6 := Lib.hid h6
      replace hg := Lib.hid hg
      go_wp2_with fail
      refine hc.mono ?_
      rintro e w2 ⟨rfl, hb2⟩
      replace hb2 := Lib.hid hb2
      clear hc
      go_wp2
      go_roundg (k % gk)
      case measure => exact Nat.mod_lt _ (by have := hg.out; omega)
      case rel =>
        refine ⟨gk, rfl, rfl, ?_, h5, ?_, h6.out.trans (hb2.out.mono hsz)⟩
        · rw [← h3.out, Nat.gcd_comm gk, ← Nat.gcd_rec, Nat.gcd_comm]
        · exact Nat.le_trans (size_mono (Nat.le_of_lt (Nat.mod_lt k (by have := hg.out; omega)))) h5

end Nt
end Go.Proofs.YtjahnkeafaebdaaGreatDoor

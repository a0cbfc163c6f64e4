/- control.Check. -/
import Derived.Test.YtmekiidknjjfcaaGreatDoorCoA
namespace Go.Proofs.YtmekiidknjjfcaaGreatDoor
open Go.RowKit Go.Shelf
namespace Co
open Nt Ci

/-- The listed ones and the first j of a list. -/
def SJ (F lo : List Int) (j : Nat) (q : Nat) : Bool := decide (q ∈ toN F ∨ (q : Int) ∈ lo.take j)
def oJ (F lo : List Int) (j : Nat) (q : Nat) : Int := if q ∈ toN F then 0 else if (q : Int) ∈ lo.take j then 1 else -1
def OrdAt (V : List (Nat × Nat × Nat)) (n : Nat) (F lo : List Int) (j : Nat) (h : j < lo.length) : Prop :=
  (0 ≤ lo[j] ∧ lo[j] < n) ∧ SJ F lo j lo[j].toNat = false ∧ maj V (SJ F lo j) lo[j].toNat = true
instance (V : List (Nat × Nat × Nat)) (n : Nat) (F lo : List Int) (j : Nat) (h : j < lo.length) : Decidable (OrdAt V n F lo j h) := inferInstanceAs (Decidable (_ ∧ _))
/-- Each one of the order has the majority by the listed ones and those ahead of it. -/
def ordB (V : List (Nat × Nat × Nat)) (n : Nat) (F lo : List Int) : Bool := decide (∀ j (h : j < lo.length), OrdAt V n F lo j h)
def ClAt (V : List (Nat × Nat × Nat)) (F lc : List Int) (i : Nat) : Prop := (i : Int) ∈ lc ∨ (i ∉ toN F ∧ maj V (fun q => decide ((q : Int) ∈ lc)) i = false)
instance (V : List (Nat × Nat × Nat)) (F lc : List Int) (i : Nat) : Decidable (ClAt V F lc i) := inferInstanceAs (Decidable (_ ∨ _))
/-- A closed set without the party. -/
def clsB (V : List (Nat × Nat × Nat)) (n : Nat) (F : List Int) (party : Int) (lc : List Int) : Bool := (listB n lc && !decide (party ∈ lc)) && decide (∀ i, i < n → ClAt V F lc i)
def clsTo (V : List (Nat × Nat × Nat)) (n : Nat) (F : List Int) (party : Int) (lc : List Int) (k : Nat) : Bool := (listB n lc && !decide (party ∈ lc)) && decide (∀ i, i < k → ClAt V F lc i)
def lastB (lo : List Int) (party : Int) : Bool := decide (lo.getLast? = some party)
def chk (s : SR) (F : List Int) (party : Int) (lo lc : List Int) : Bool × Bool :=
  if soundB s = true ∧ listB s.ps.length F = true ∧ 0 ≤ party ∧ party < s.ps.length then
    if party.toNat ∈ toN F then (decide (lo.length + lc.length = 0), decide (lo.length + lc.length = 0))
    else if lo.length = 0 then (false, clsB (VT s) s.ps.length F party lc)
    else (ordB (VT s) s.ps.length F lo && (decide (lc.length = 0) && lastB lo party), ordB (VT s) s.ps.length F lo && (decide (lc.length = 0) && lastB lo party))
  else (false, false)
section
variable {V : List (Nat × Nat × Nat)} {n j k q : Nat} {F lo lc : List Int} {party : Int}
theorem ord_bad (h : j < lo.length) (hb : ¬ OrdAt V n F lo j h) : ordB V n F lo = false := decide_eq_false fun hc => hb (hc j h)
theorem ord_all (h : ∀ j (h : j < lo.length), OrdAt V n F lo j h) : ordB V n F lo = true := decide_eq_true h
theorem oJ_S : (fun q => decide (0 ≤ oJ F lo j q)) = SJ F lo j := by
  funext q
  unfold oJ SJ
  rw [Bool.eq_iff_iff, decide_eq_true_iff, decide_eq_true_iff]
  by_cases h1 : q ∈ toN F
  · rw [if_pos h1]
    exact ⟨fun _ => .inl h1, fun _ => Int.le_refl _⟩
  · rw [if_neg h1]
    by_cases h2 : (q : Int) ∈ lo.take j
    · rw [if_pos h2]
      exact ⟨fun _ => .inr h2, fun _ => by decide⟩
    · rw [if_neg h2]
      exact ⟨fun h => absurd h (by decide), fun h => absurd (h.elim h1 h2) id⟩
theorem oJ_zero (q : Nat) : oJ F lo 0 q = if q ∈ toN F then 0 else -1 := by unfold oJ; simp
theorem oJ_succ (h : j < lo.length) (he : lo[j] = (q : Int)) (hf : SJ F lo j q = false) (x : Nat) : setI (oJ F lo j) q 1 x = oJ F lo (j + 1) x := by
  have hq : q ∉ toN F := fun c => by
    have : SJ F lo j q = true := decide_eq_true (.inl c)
    rw [this] at hf; cases hf
  have hm : (x : Int) ∈ lo.take (j + 1) ↔ (x : Int) ∈ lo.take j ∨ (x : Int) = lo[j] := by
    rw [List.take_succ_eq_append_getElem h, List.mem_append, List.mem_singleton]
  unfold setI oJ
  by_cases e : x = q
  · rw [if_pos e, e, if_neg hq, if_pos]
    rw [← e, hm, e, he]; exact .inr rfl
  · rw [if_neg e]
    by_cases h1 : x ∈ toN F
    · rw [if_pos h1, if_pos h1]
    · rw [if_neg h1, if_neg h1]
      by_cases h2 : (x : Int) ∈ lo.take j
      · rw [if_pos h2, if_pos (hm.2 (.inl h2))]
      · rw [if_neg h2, if_neg fun c => (hm.1 c).elim h2 fun c => e (by rw [he] at c; omega)]
theorem cls_zero : clsTo V n F party lc 0 = (listB n lc && !decide (party ∈ lc)) := by unfold clsTo; simp
theorem cls_all : clsTo V n F party lc n = clsB V n F party lc := rfl
theorem cls_succ : clsTo V n F party lc (k + 1) = (clsTo V n F party lc k && decide (ClAt V F lc k)) := by
  unfold clsTo
  generalize (listB n lc && !decide (party ∈ lc)) = c
  rw [Bool.and_assoc]
  congr 1
  rw [Bool.eq_iff_iff, Bool.and_eq_true, decide_eq_true_iff, decide_eq_true_iff, decide_eq_true_iff]
  constructor
  · exact fun h => ⟨fun i hi => h i (by omega), h k (by omega)⟩
  · rintro ⟨h1, h2⟩ i hi
    by_cases c : i = k
    · rw [c]; exact h2
    · exact h1 i (by omega)
theorem cl_dec : decide (ClAt V F lc k) = (decide ((k : Int) ∈ lc) || (!decide (k ∈ toN F) && !maj V (fun q => decide ((q : Int) ∈ lc)) k)) := by
  rw [Bool.eq_iff_iff, decide_eq_true_iff]
  unfold ClAt
  simp
theorem last_eq (h : 0 < lo.length) : lastB lo party = decide (lo[lo.length - 1]'(by omega) = party) := by
  unfold lastB
  rw [List.getLast?_eq_getElem?, List.getElem?_eq_getElem (by omega)]
  simp
end
end Co
end Go.Proofs.YtmekiidknjjfcaaGreatDoor

namespace Go.Proofs.YtmekiidknjjfcaaGreatDoor
open Go.RowKit Go.Shelf
namespace Co
open Nt Ci

theorem ret_bb {x y x' y' : Bool} (h1 : x = x') (h2 : y = y') : Ending.returned (.tuple #[.bool x, .bool y]) = .returned (.tuple #[.bool x', .bool y']) := by rw [h1, h2]
/-- majority by the closed ones. -/
theorem majClosed {s : SR} {xb R b B p pb : Nat} {v : Nat → Value} {o : Nat → Int} {Ao Al : Option Addr} {co cl : Nat} {lo lc : List Int} {w : World} (hE : Env w) (hS : SeIn w xb R b B s.ps.length v (row s.vot) o) (hp : p < s.ps.length) (hsd : soundB s = true) (hv3 : s.vot.length ≤ 300)
    (hpb : Bk w pb 28 [.slice Ao lo.length co, .slice Al lc.length cl]) (hlc : InInt w Al lc) (hl : lc.length ≤ 140737488355328) :
    Calls Tryz.prog 38 #[.slice (some ⟨R, 0, none⟩) s.ps.length s.ps.length, .int .i64 (p : Int), .func (.func 36) #[] #[.pointer (some ⟨pb, 0, none⟩)]] w fun e w' => e = .returned (.bool (maj (VT s) (fun q => decide ((q : Int) ∈ lc)) p)) ∧ Below w.heap.size w w' := by
  have hn60 := sound_n hsd
  have hvt := sound_vot hsd
  have hll := row_len' s.vot p
  rw [maj_row (fun x hx => (hvt x hx).1.1)]
  exact majIn_any pb R B s.ps.length p v (row s.vot) (fun q => decide ((q : Int) ∈ lc)) w hE hS.g hp (by omega) (by omega) (lkOk_row hvt p) fun W hW q h0 h1 => by
    refine (in_any pb Ao Al co cl lo lc q W (hpb.below hW) (hlc.below hW) hl).mono ?_
    rintro e w' ⟨rfl, rfl⟩
    have e1 : ((q.toNat : Nat) : Int) = q := by omega
    simp only [e1]
    exact ⟨trivial, Below.refl _ _⟩
set_option maxRecDepth 100000 in
set_option maxHeartbeats 16000000 in
theorem Check_any (s : SR) (Ap Ac Av Af Ao Al : Option Addr) (cp cc cv cf co cl : Nat) (F lo lc : List Int) (party : Int) (w : World) (hE : Env w) (hs : StIn w s Ap Ac Av) (hc3 : s.cap.length ≤ 300) (hv3 : s.vot.length ≤ 300) (hF : InInt w Af F) (hFl : F.length ≤ 140737488355328) (hlo : InInt w Ao lo) (hol : lo.length ≤ 1000000) (hlc : InInt w Al lc) (hcl : lc.length ≤ 1000000) :
    Calls Tryz.prog 16 #[.agg #[.slice Ap s.ps.length cp, .slice Ac s.cap.length cc, .slice Av s.vot.length cv], .slice Af F.length cf, .int .i64 party, .agg #[.slice Ao lo.length co, .slice Al lc.length cl]] w fun e w' => e = .returned (.tuple #[.bool (chk s F party lo lc).1, .bool (chk s F party lo lc).2]) ∧ Below w.heap.size w w' := by
  have hB1 : Hid (Below w.heap.size w ((w.alloc (.cells #[.slice Ap s.ps.length cp, .slice Ac s.cap.length cc, .slice Av s.vot.length cv] 25)).alloc (.cells #[.slice Ao lo.length co, .slice Al lc.length cl] 28))) := ((Below.refl _ w).alloc (Nat.le_refl _) _).alloc (by simp) _
  have hX1 : Hid (Bk ((w.alloc (.cells #[.slice Ap s.ps.length cp, .slice Ac s.cap.length cc, .slice Av s.vot.length cv] 25)).alloc (.cells #[.slice Ao lo.length co, .slice Al lc.length cl] 28)) w.heap.size 25 (SC s Ap Ac Av cp cc cv)) := (Bk.new w _ _).alloc _
  have hT1 : Hid (Bk ((w.alloc (.cells #[.slice Ap s.ps.length cp, .slice Ac s.cap.length cc, .slice Av s.vot.length cv] 25)).alloc (.cells #[.slice Ao lo.length co, .slice Al lc.length cl] 28)) (w.heap.size + 1) 28 [.slice Ao lo.length co, .slice Al lc.length cl]) := by have h := Bk.new (w.alloc (.cells #[.slice Ap s.ps.length cp, .slice Ac s.cap.length cc, .slice Av s.vot.length cv] 25)) 28 [.slice Ao lo.length co, .slice Al lc.length cl]; rw [World.size_alloc] at h; exact h
  have u0 := hX1.out.cell (j := 0) rfl; have u1 := hX1.out.cell (j := 1) rfl; have u2 := hX1.out.cell (j := 2) rfl; have u9 := hX1.out.lt
  have kb := begin_any s Ap Ac Av Af cp cc cv cf F _ (hE.below hB1.out) (hs.below hB1.out) hc3 hv3 (hF.below hB1.out) hFl
  obtain ⟨pb, hpb⟩ : ∃ x, x = w.heap.size + 1 := ⟨_, rfl⟩
  obtain ⟨W1, hW1⟩ : ∃ W, W = ((w.alloc (.cells #[.slice Ap s.ps.length cp, .slice Ac s.cap.length cc, .slice Av s.vot.length cv] 25)).alloc (.cells #[.slice Ao lo.length co, .slice Al lc.length cl] 28)) := ⟨_, rfl⟩
  rw [← hW1] at hB1 hX1 hT1 kb u0 u1 u2 u9
  rw [← hpb] at hT1
  obtain ⟨r1, hr1⟩ : ∃ x, x = (chk s F party lo lc).1 := ⟨_, rfl⟩
  obtain ⟨r2, hr2⟩ : ∃ x, x = (chk s F party lo lc).2 := ⟨_, rfl⟩
  rw [← hr1, ← hr2]
  have hE1 := Lib.hid (hE.below hB1.out); have hs1 := Lib.hid (hs.below hB1.out); have hlo1 := Lib.hid (hlo.below hB1.out); have hlc1 := Lib.hid (hlc.below hB1.out)
  clear hE hs hlo hlc hF
  by_cases hgd : soundB s = true ∧ listB s.ps.length F = true
  · have kb2 : Hid (Calls Tryz.prog 25 #[.agg #[.slice Ap s.ps.length cp, .slice Ac s.cap.length cc, .slice Av s.vot.length cv], .slice Af F.length cf] W1 fun e w' => (∃ xb b, e = .returned (.tuple #[.pointer (some ⟨xb, 0, none⟩), .int .i64 0]) ∧ Se s W1.heap.size w' xb b (fun x => if x ∈ toN F then 0 else -1)) ∧ Below W1.heap.size W1 w') := kb.mono fun e w' h => ⟨by have h1 := h.1; rw [if_pos hgd] at h1; exact h1, h.2⟩
    clear kb
    have hn60 := sound_n hgd.1
    have hsd := Lib.hid hgd.1
    by_cases hpa : 0 ≤ party ∧ party < s.ps.length
    · obtain ⟨p, rfl⟩ : ∃ p : Nat, party = (p : Int) := ⟨party.toNat, by omega⟩
      have hpn : p < s.ps.length := by omega
      have hch : Hid (chk s F (p : Int) lo lc = if p ∈ toN F then (decide (lo.length + lc.length = 0), decide (lo.length + lc.length = 0)) else if lo.length = 0 then (false, clsB (VT s) s.ps.length F (p : Int) lc) else (ordB (VT s) s.ps.length F lo && (decide (lc.length = 0) && lastB lo (p : Int)), ordB (VT s) s.ps.length F lo && (decide (lc.length = 0) && lastB lo (p : Int)))) := by unfold Hid chk; rw [if_pos ⟨hgd.1, hgd.2, hpa⟩]; rfl
      replace hgd := Lib.hid hgd; replace hr1 := Lib.hid hr1; replace hr2 := Lib.hid hr2
      have m1 : decide ((p : Int) < 0) = false := decide_eq_false (by omega); have m2 : decide ((s.ps.length : Int) ≤ (p : Int)) = false := decide_eq_false (by omega); have m2n : decide (s.ps.length ≤ p) = false := decide_eq_false (by omega)
      go_enter Tryz.func16, Tryz.ntmps16
      go_wp2_with fail
      (try rw [← hW1])
      (try rw [← hpb])
      replace hW1 := Lib.hid hW1; replace hpb := Lib.hid hpb
      refine kb2.out.mono ?_
      rintro e w3 ⟨⟨xb, b, rfl, R, B, v, hBB, hxx, hS0⟩, hb⟩
      have hS3 : Hid (SeIn w3 xb R b B s.ps.length v (row s.vot) (oJ F lo 0)) := hS0.congr fun x _ => (oJ_zero x).symm
      have hB3 := Lib.hid (hB1.out.trans (hb.mono hB1.out.size)); have hT3 := Lib.hid (hT1.out.below hb); have hX3 := Lib.hid (hX1.out.below hb); have hW3 := Lib.hid hb
      have hbb : Hid (W1.heap.size ≤ b) := Nat.le_trans hBB hS0.lb
      have hpl : Hid (pb < W1.heap.size) := hT1.out.lt
      clear hb hS0 hBB hxx u0 u1 u2 u9 kb2 hX1
      have kfound : Hid (∀ j W q, q < s.ps.length → SeIn W xb R b B s.ps.length v (row s.vot) (oJ F lo j) → Calls Tryz.prog 34 #[.pointer (some ⟨xb, 0, none⟩), .int .i64 (q : Int)] W fun e w' => e = .returned (.bool (SJ F lo j q)) ∧ w' = W) := fun j W q hq hS => by
        have h := found_any xb R b B s.ps.length q v (row s.vot) _ W hS hq (by omega)
        have e : decide (0 ≤ oJ F lo j q) = SJ F lo j q := congrFun oJ_S q
        rw [e] at h; exact h
      have kmaj : Hid (∀ j W q, q < s.ps.length → Below W1.heap.size W1 W → SeIn W xb R b B s.ps.length v (row s.vot) (oJ F lo j) → Calls Tryz.prog 38 #[.slice (some ⟨R, 0, none⟩) s.ps.length s.ps.length, .int .i64 (q : Int), .func (.func 34) #[.pointer (some ⟨xb, 0, none⟩)] #[]] W fun e w' => e = .returned (.bool (maj (VT s) (SJ F lo j) q)) ∧ Below W.heap.size W w') := fun j W q hq hW hS => by
        have h := majRounds (hE1.out.below hW) hS hq hsd.out hv3
        rw [oJ_S] at h; exact h
      have kin : Hid (∀ W (q : Int), Below W1.heap.size W1 W → Bk W pb 28 [.slice Ao lo.length co, .slice Al lc.length cl] → Calls Tryz.prog 36 #[.int .i64 q, .pointer (some ⟨pb, 0, none⟩)] W fun e w' => e = .returned (.bool (decide (q ∈ lc))) ∧ w' = W) := fun W q hW hp => in_any pb Ao Al co cl lo lc q W hp (hlc1.out.below hW) (by omega)
      have kmin : Hid (∀ W q, q < s.ps.length → Below W1.heap.size W1 W → Bk W pb 28 [.slice Ao lo.length co, .slice Al lc.length cl] → SeIn W xb R b B s.ps.length v (row s.vot) (oJ F lo 0) → Calls Tryz.prog 38 #[.slice (some ⟨R, 0, none⟩) s.ps.length s.ps.length, .int .i64 (q : Int), .func (.func 36) #[] #[.pointer (some ⟨pb, 0, none⟩)]] W fun e w' => e = .returned (.bool (maj (VT s) (fun x => decide ((x : Int) ∈ lc)) q)) ∧ Below W.heap.size W w') := fun W q hq hW hp hS => majClosed (hE1.out.below hW) hS hq hsd.out hv3 hp (hlc1.out.below hW) (by omega)
      have t0 := hT3.out.cell (j := 0) rfl; have t1 := hT3.out.cell (j := 1) rfl; have t9 := hT3.out.lt
      have x0 := hS3.out.x.cell (j := 0) rfl; have x1 := hS3.out.x.cell (j := 1) rfl; have x9 := hS3.out.x.lt
      have kf := kfound.out 0 w3 p hpn hS3.out
      have e0 : SJ F lo 0 p = decide (p ∈ toN F) := by unfold SJ; simp
      rw [e0] at kf
      clear e0
      by_cases hpf : p ∈ toN F
      · rw [decide_eq_true hpf] at kf
        have hs0 : ((lo.length : Int) + (lc.length : Int) == 0) = decide (lo.length + lc.length = 0) := by rw [Bool.eq_iff_iff, decide_eq_true_iff, beq_iff_eq]; omega
        have hrr : Hid (((lo.length : Int) + (lc.length : Int) == 0) = r1 ∧ ((lo.length : Int) + (lc.length : Int) == 0) = r2) := by rw [hs0, hr1.out, hr2.out, hch.out, if_pos hpf]; exact ⟨rfl, rfl⟩
        clear hs0
        clear hpf kfound kmaj kin kmin
        replace kf := Lib.hid kf
        go_wp2_with fail
        refine kf.out.mono ?_
        rintro e wq ⟨rfl, hq⟩
        obtain rfl := hq.symm
        go_wp2
        go_ret2
        exact ⟨ret_bb hrr.out.1 hrr.out.2, hB3.out⟩
      · rw [decide_eq_false hpf] at kf
        replace kf := Lib.hid kf
        by_cases hl0 : lo.length = 0
        · have hrr : Hid (false = r1 ∧ clsTo (VT s) s.ps.length F (p : Int) lc s.ps.length = r2) := by rw [hr1.out, hr2.out, hch.out, if_neg hpf, if_pos hl0]; exact ⟨rfl, cls_all⟩
          have m3 : ((lo.length : Int) == 0) = true := by rw [beq_iff_eq]; omega
          have m4 : (lo.length == 0) = true := by rw [beq_iff_eq]; exact hl0
          clear kmaj
          replace hl0 := Lib.hid hl0
          replace hpf := Lib.hid hpf
          have u0 := hX3.out.cell (j := 0) rfl; have u1 := hX3.out.cell (j := 1) rfl; have u2 := hX3.out.cell (j := 2) rfl; have u9 := hX3.out.lt
          have kr : Hid (Calls Tryz.prog 35 #[.agg #[.slice Ap s.ps.length cp, .slice Ac s.cap.length cc, .slice Av s.vot.length cv], .slice Al lc.length cl] w3 fun e w' => (∃ rv rl rc, e = .returned (.tuple #[.slice rv rl rc, .int .i64 (if listB s.ps.length lc = true then 0 else 1)])) ∧ Below w3.heap.size w3 w') := (Ranks_any s Ap Ac Av Al cp cc cv cl lc w3 (hE1.out.below hW3.out) (hs1.out.below hW3.out) hc3 (hlc1.out.below hW3.out) (by omega)).mono fun e w' h => ⟨by have h1 := h.1; by_cases c : listB s.ps.length lc = true; (· rw [if_pos ⟨hsd.out, c⟩] at h1; obtain ⟨b, e1, _⟩ := h1; exact ⟨_, _, _, by rw [if_pos c]; exact e1⟩); (· rw [if_neg fun d => c d.2] at h1; exact ⟨_, _, _, by rw [if_neg c]; exact h1⟩), h.2⟩
          obtain ⟨er, her⟩ : ∃ x : Int, x = (if listB s.ps.length lc = true then 0 else 1) := ⟨_, rfl⟩
          rw [← her] at kr
          have hlb : (er == 0) = listB s.ps.length lc := by rw [her]; cases listB s.ps.length lc <;> rfl
          replace her := Lib.hid her
          go_wp2_with fail
          refine kf.out.mono ?_
          rintro e wq ⟨rfl, hq⟩
          obtain rfl := hq.symm
          go_wp2_with fail
          refine kr.out.mono ?_
          rintro e w4 ⟨⟨rv, rl, rc, rfl⟩, hb⟩
          have hB4 := Lib.hid (hB3.out.trans (hb.mono hB3.out.size)); have hT4 := Lib.hid (hT3.out.below hb); have hS4 := Lib.hid (hS3.out.below hb); have hW4 := Lib.hid (hW3.out.trans (hb.mono hW3.out.size))
          clear hb t0 t1 t9 x0 x1 x9 u0 u1 u2 u9 hX3 hT3 hB3 hS3 hW3 kr
          have t0 := hT4.out.cell (j := 0) rfl; have t1 := hT4.out.cell (j := 1) rfl; have t9 := hT4.out.lt
          have x0 := hS4.out.x.cell (j := 0) rfl; have x1 := hS4.out.x.cell (j := 1) rfl; have x9 := hS4.out.x.lt
          have hin : Hid (∀ ok0 : Bool, ok0 = clsTo (VT s) s.ps.length F (p : Int) lc 0 → True) := fun _ _ => trivial
          have ki := Lib.hid (kin.out w4 (p : Int) hW4.out hT4.out)
          have hz : Hid (clsTo (VT s) s.ps.length F (p : Int) lc 0 = (listB s.ps.length lc && !decide ((p : Int) ∈ lc))) := cls_zero
          rw [← hlb] at hz
          clear hin
          cases hlq : (er == 0) with
          | false =>
            rw [hlq] at hz
            have hz2 : Hid (clsTo (VT s) s.ps.length F (p : Int) lc 0 = false) := hz.out
            have m5 : (er == 0) = false := hlq
            replace hlq := Lib.hid hlq; clear hz hlb
            go_wp2_with fail
            clear t0 t1 t9
            go_loopw [80, 16] (fun ix okv wr => ∃ (k : Nat), k ≤ s.ps.length ∧ ix = .int .i64 (k : Int) ∧ okv = .bool (clsTo (VT s) s.ps.length F (p : Int) lc k) ∧ Hid (Below w4.heap.size w4 wr)) (fun ix _ _ => s.ps.length - (intOf ix).toNat)
            case atStart => exact ⟨0, Nat.zero_le _, rfl, by rw [hz2.out], Below.refl _ _⟩
            case round =>
              obtain ⟨k, hk, rfl, rfl, hbr⟩ := hrel
              have hBr := Lib.hid (hB4.out.trans (hbr.out.mono hB4.out.size)); have hTr := Lib.hid (hT4.out.below hbr.out); have hSr := Lib.hid (hS4.out.below hbr.out); have hWr := Lib.hid (hW4.out.trans (hbr.out.mono hW4.out.size))
              clear x0 x1 x9
              by_cases hkn : k < s.ps.length
              · have j0 : (0 : Int) ≤ (k : Int) := by omega
                have j1 : (k : Int) < (s.ps.length : Int) := by omega
                have x0 := hSr.out.x.cell (j := 0) rfl; have x1 := hSr.out.x.cell (j := 1) rfl; have x9 := hSr.out.x.lt
                have hsu : Hid (clsTo (VT s) s.ps.length F (p : Int) lc (k + 1) = (clsTo (VT s) s.ps.length F (p : Int) lc k && (decide ((k : Int) ∈ lc) || (!decide (k ∈ toN F) && !maj (VT s) (fun q => decide ((q : Int) ∈ lc)) k)))) := by unfold Hid; rw [cls_succ, cl_dec]
                have k1 := kin.out _ (k : Int) hWr.out hTr.out; have k2 := kfound.out 0 _ k hkn hSr.out; have k3 := kmin.out _ k hkn hWr.out hTr.out hSr.out
                have e0 : SJ F lo 0 k = decide (k ∈ toN F) := by unfold SJ; simp
                rw [e0] at k2
                clear e0
                obtain ⟨c9, hc9⟩ : ∃ x, x = clsTo (VT s) s.ps.length F (p : Int) lc (k + 1) := ⟨_, rfl⟩
                rw [← hc9] at hsu
                generalize clsTo (VT s) s.ps.length F (p : Int) lc k = c8 at hsu ⊢
                generalize decide ((k : Int) ∈ lc) = d1 at hsu k1; generalize decide (k ∈ toN F) = d2 at hsu k2; generalize maj (VT s) (fun q => decide ((q : Int) ∈ lc)) k = d3 at hsu k3
                replace hc9 := Lib.hid hc9
                replace k1 := Lib.hid k1; replace k2 := Lib.hid k2; replace k3 := Lib.hid k3
                replace hkn := Lib.hid hkn
                cases c8 with
                | false =>
                  have hc : Hid (c9 = false) := hsu.out
                  go_wp2
                  exact ⟨⟨k + 1, by have := hkn.out; omega, by go_num, by rw [← hc9.out, hc.out], hbr⟩, by simp only [intOf]; have := hkn.out; omega⟩
                | true =>
                  cases d1 with
                  | true =>
                    go_wp2_with fail
                    refine k1.out.mono ?_
                    rintro e wq ⟨rfl, hq⟩
                    obtain rfl := hq.symm
                    have hc : Hid (c9 = true) := hsu.out
                    go_wp2
                    exact ⟨⟨k + 1, by have := hkn.out; omega, by go_num, by rw [← hc9.out, hc.out], hbr⟩, by simp only [intOf]; have := hkn.out; omega⟩
                  | false =>
                    cases d2 with
                    | true =>
                      go_wp2_with fail
                      refine k1.out.mono ?_
                      rintro e wq ⟨rfl, hq⟩
                      obtain rfl := hq.symm
                      go_wp2_with fail
                      refine k2.out.mono ?_
                      rintro e wq ⟨rfl, hq⟩
                      obtain rfl := hq.symm
                      have hc : Hid (c9 = false) := hsu.out
                      go_wp2
                      exact ⟨⟨k + 1, by have := hkn.out; omega, by go_num, by rw [← hc9.out, hc.out], hbr⟩, by simp only [intOf]; have := hkn.out; omega⟩
                    | false =>
                      have hc3 : Hid (c9 = !d3) := by have h := hsu.out; cases d3 <;> exact h
                      go_wp2_with fail
                      refine k1.out.mono ?_
                      rintro e wq ⟨rfl, hq⟩
                      obtain rfl := hq.symm
                      go_wp2_with fail
                      refine k2.out.mono ?_
                      rintro e wq ⟨rfl, hq⟩
                      obtain rfl := hq.symm
                      go_wp2_with fail
                      refine k3.out.mono ?_
                      rintro e wq ⟨rfl, hb⟩
                      have hbq := Lib.hid (hbr.out.trans (hb.mono hbr.out.size))
                      clear hb x0 x1 x9
                      go_wp2
                      exact ⟨⟨k + 1, by have := hkn.out; omega, by go_num, by rw [← hc9.out, hc3.out], hbq⟩, by simp only [intOf]; have := hkn.out; omega⟩
              · obtain rfl : k = s.ps.length := by omega
                go_wp2
                go_ret2
                exact ⟨ret_bb hrr.out.1 hrr.out.2, hBr.out⟩
          | true =>
            rw [hlq] at hz
            have hz2 : Hid (clsTo (VT s) s.ps.length F (p : Int) lc 0 = !decide ((p : Int) ∈ lc)) := hz.out
            have m5 : (er == 0) = true := hlq
            replace hlq := Lib.hid hlq; clear hz hlb
            go_wp2_with fail
            refine ki.out.mono ?_
            rintro e wq ⟨rfl, hq⟩
            obtain rfl := hq.symm
            go_wp2_with fail
            clear t0 t1 t9
            go_loopw [80, 16] (fun ix okv wr => ∃ (k : Nat), k ≤ s.ps.length ∧ ix = .int .i64 (k : Int) ∧ okv = .bool (clsTo (VT s) s.ps.length F (p : Int) lc k) ∧ Hid (Below w4.heap.size w4 wr)) (fun ix _ _ => s.ps.length - (intOf ix).toNat)
            case atStart => exact ⟨0, Nat.zero_le _, rfl, by rw [hz2.out], Below.refl _ _⟩
            case round =>
              obtain ⟨k, hk, rfl, rfl, hbr⟩ := hrel
              have hBr := Lib.hid (hB4.out.trans (hbr.out.mono hB4.out.size)); have hTr := Lib.hid (hT4.out.below hbr.out); have hSr := Lib.hid (hS4.out.below hbr.out); have hWr := Lib.hid (hW4.out.trans (hbr.out.mono hW4.out.size))
              clear x0 x1 x9
              by_cases hkn : k < s.ps.length
              · have j0 : (0 : Int) ≤ (k : Int) := by omega
                have j1 : (k : Int) < (s.ps.length : Int) := by omega
                have x0 := hSr.out.x.cell (j := 0) rfl; have x1 := hSr.out.x.cell (j := 1) rfl; have x9 := hSr.out.x.lt
                have hsu : Hid (clsTo (VT s) s.ps.length F (p : Int) lc (k + 1) = (clsTo (VT s) s.ps.length F (p : Int) lc k && (decide ((k : Int) ∈ lc) || (!decide (k ∈ toN F) && !maj (VT s) (fun q => decide ((q : Int) ∈ lc)) k)))) := by unfold Hid; rw [cls_succ, cl_dec]
                have k1 := kin.out _ (k : Int) hWr.out hTr.out; have k2 := kfound.out 0 _ k hkn hSr.out; have k3 := kmin.out _ k hkn hWr.out hTr.out hSr.out
                have e0 : SJ F lo 0 k = decide (k ∈ toN F) := by unfold SJ; simp
                rw [e0] at k2
                clear e0
                obtain ⟨c9, hc9⟩ : ∃ x, x = clsTo (VT s) s.ps.length F (p : Int) lc (k + 1) := ⟨_, rfl⟩
                rw [← hc9] at hsu
                generalize clsTo (VT s) s.ps.length F (p : Int) lc k = c8 at hsu ⊢
                generalize decide ((k : Int) ∈ lc) = d1 at hsu k1; generalize decide (k ∈ toN F) = d2 at hsu k2; generalize maj (VT s) (fun q => decide ((q : Int) ∈ lc)) k = d3 at hsu k3
                replace hc9 := Lib.hid hc9
                replace k1 := Lib.hid k1; replace k2 := Lib.hid k2; replace k3 := Lib.hid k3
                replace hkn := Lib.hid hkn
                cases c8 with
                | false =>
                  have hc : Hid (c9 = false) := hsu.out
                  go_wp2
                  exact ⟨⟨k + 1, by have := hkn.out; omega, by go_num, by rw [← hc9.out, hc.out], hbr⟩, by simp only [intOf]; have := hkn.out; omega⟩
                | true =>
                  cases d1 with
                  | true =>
                    go_wp2_with fail
                    refine k1.out.mono ?_
                    rintro e wq ⟨rfl, hq⟩
                    obtain rfl := hq.symm
                    have hc : Hid (c9 = true) := hsu.out
                    go_wp2
                    exact ⟨⟨k + 1, by have := hkn.out; omega, by go_num, by rw [← hc9.out, hc.out], hbr⟩, by simp only [intOf]; have := hkn.out; omega⟩
                  | false =>
                    cases d2 with
                    | true =>
                      go_wp2_with fail
                      refine k1.out.mono ?_
                      rintro e wq ⟨rfl, hq⟩
                      obtain rfl := hq.symm
                      go_wp2_with fail
                      refine k2.out.mono ?_
                      rintro e wq ⟨rfl, hq⟩
                      obtain rfl := hq.symm
                      have hc : Hid (c9 = false) := hsu.out
                      go_wp2
                      exact ⟨⟨k + 1, by have := hkn.out; omega, by go_num, by rw [← hc9.out, hc.out], hbr⟩, by simp only [intOf]; have := hkn.out; omega⟩
                    | false =>
                      have hc3 : Hid (c9 = !d3) := by have h := hsu.out; cases d3 <;> exact h
                      go_wp2_with fail
                      refine k1.out.mono ?_
                      rintro e wq ⟨rfl, hq⟩
                      obtain rfl := hq.symm
                      go_wp2_with fail
                      refine k2.out.mono ?_
                      rintro e wq ⟨rfl, hq⟩
                      obtain rfl := hq.symm
                      go_wp2_with fail
                      refine k3.out.mono ?_
                      rintro e wq ⟨rfl, hb⟩
                      have hbq := Lib.hid (hbr.out.trans (hb.mono hbr.out.size))
                      clear hb x0 x1 x9
                      go_wp2
                      exact ⟨⟨k + 1, by have := hkn.out; omega, by go_num, by rw [← hc9.out, hc3.out], hbq⟩, by simp only [intOf]; have := hkn.out; omega⟩
              · obtain rfl : k = s.ps.length := by omega
                go_wp2
                go_ret2
                exact ⟨ret_bb hrr.out.1 hrr.out.2, hBr.out⟩
        · have hre : Hid (∀ x, x = (ordB (VT s) s.ps.length F lo && (decide (lc.length = 0) && lastB lo (p : Int))) → x = r1 ∧ x = r2) := by rintro x rfl; rw [hr1.out, hr2.out, hch.out, if_neg hpf, if_neg hl0]; exact ⟨rfl, rfl⟩
          have m3 : ((lo.length : Int) == 0) = false := by rw [beq_eq_false_iff_ne]; omega
          have m4 : (lo.length == 0) = false := by rw [beq_eq_false_iff_ne]; exact hl0
          have hl1 : 0 < lo.length := by omega
          have hla := Lib.hid (last_eq (party := (p : Int)) hl1)
          clear kin kmin hX3
          replace hl0 := Lib.hid hl0
          replace hpf := Lib.hid hpf
          have hob := Lib.hid (fun j (h : j < lo.length) hb => ord_bad (V := VT s) (n := s.ps.length) (F := F) h hb)
          have hoa := Lib.hid (fun h => ord_all (V := VT s) (n := s.ps.length) (F := F) (lo := lo) h)
          go_wp2_with fail
          refine kf.out.mono ?_
          rintro e wq ⟨rfl, hq⟩
          obtain rfl := hq.symm
          go_wp2_with fail
          clear t0 t1 t9 x0 x1 x9
          go_loopw [110] (fun ix wr => ∃ (j : Nat), j ≤ lo.length ∧ ix = .int .i64 (j : Int) ∧ Hid (Below W1.heap.size W1 wr) ∧ Hid (SeIn wr xb R b B s.ps.length v (row s.vot) (oJ F lo j)) ∧ Hid (∀ i (h : i < lo.length), i < j → OrdAt (VT s) s.ps.length F lo i h)) (fun ix _ => lo.length - (intOf ix).toNat)
          case atStart => exact ⟨0, Nat.zero_le _, rfl, hW3, hS3, fun i _ h => absurd h (Nat.not_lt_zero _)⟩
          case round =>
            obtain ⟨j, hj, rfl, hWr, hSr, hA⟩ := hrel
            have hBr := Lib.hid (hB1.out.trans (hWr.out.mono hB1.out.size))
            by_cases hjl : j < lo.length
            · obtain ⟨ob, oo, rfl, hol2, hoc⟩ := (hlo1.out.below hWr.out) (by omega)
              have e1 := hoc j hjl
              have hbad := Lib.hid (hob.out j hjl)
              have hgo : Hid (OrdAt (VT s) s.ps.length F lo j hjl → ∀ i (h : i < lo.length), i < j + 1 → OrdAt (VT s) s.ps.length F lo i h) := fun h i hi h2 => by
                by_cases c : i = j
                · subst c; exact h
                · exact hA.out i hi (by omega)
              have hAt : Hid (OrdAt (VT s) s.ps.length F lo j hjl ↔ (0 ≤ lo[j] ∧ lo[j] < s.ps.length) ∧ SJ F lo j lo[j].toNat = false ∧ maj (VT s) (SJ F lo j) lo[j].toNat = true) := Iff.rfl
              have hsc : Hid (∀ q : Nat, lo[j] = (q : Int) → SJ F lo j q = false → ∀ x, setI (oJ F lo j) q 1 x = oJ F lo (j + 1) x) := fun q e h x => oJ_succ hjl e h x
              obtain ⟨z, hz⟩ : ∃ z, z = lo[j] := ⟨_, rfl⟩
              rw [← hz] at e1 hAt hsc
              replace hz := Lib.hid hz
              have j0 : (0 : Int) ≤ (j : Int) := by omega
              have j1 : (j : Int) < (lo.length : Int) := by omega
              have x0 := hSr.out.x.cell (j := 0) rfl; have x1 := hSr.out.x.cell (j := 1) rfl; have x9 := hSr.out.x.lt
              clear hoc hA hob hoa hla
              by_cases hz0 : z < 0
              · have hneg : ¬ ((0 ≤ z ∧ z < s.ps.length) ∧ SJ F lo j z.toNat = false ∧ maj (VT s) (SJ F lo j) z.toNat = true) := fun h => by omega
                have hno : Hid (ordB (VT s) s.ps.length F lo = false) := hbad.out fun h => hneg (hAt.out.1 h)
                have hrr := Lib.hid (hre.out false (by rw [hno.out, Bool.false_and]))
                have m5 : decide (z < 0) = true := decide_eq_true hz0
                replace hneg := Lib.hid hneg; replace hz0 := Lib.hid hz0
                clear hgo hsc
                go_wp2
                go_ret2
                exact ⟨ret_bb hrr.out.1 hrr.out.2, hBr.out⟩
              · have m5 : decide (z < 0) = false := decide_eq_false hz0
                by_cases hzn : (s.ps.length : Int) ≤ z
                · have hneg : ¬ ((0 ≤ z ∧ z < s.ps.length) ∧ SJ F lo j z.toNat = false ∧ maj (VT s) (SJ F lo j) z.toNat = true) := fun h => by omega
                  have hno : Hid (ordB (VT s) s.ps.length F lo = false) := hbad.out fun h => hneg (hAt.out.1 h)
                  have hrr := Lib.hid (hre.out false (by rw [hno.out, Bool.false_and]))
                  have m6 : decide ((s.ps.length : Int) ≤ z) = true := decide_eq_true hzn
                  replace hneg := Lib.hid hneg; replace hz0 := Lib.hid hz0; replace hzn := Lib.hid hzn
                  clear hgo hsc
                  go_wp2
                  go_ret2
                  exact ⟨ret_bb hrr.out.1 hrr.out.2, hBr.out⟩
                · have m6 : decide ((s.ps.length : Int) ≤ z) = false := decide_eq_false hzn
                  obtain ⟨q, rfl⟩ : ∃ q : Nat, z = (q : Int) := ⟨z.toNat, by omega⟩
                  have hqn : q < s.ps.length := by omega
                  rw [Int.toNat_natCast] at hAt
                  have k2 := kfound.out j _ q hqn hSr.out; have k3 := kmaj.out j _ q hqn hWr.out hSr.out
                  cases hf : SJ F lo j q with
                  | true =>
                    rw [hf] at k2
                    have hneg : ¬ ((0 ≤ (q : Int) ∧ (q : Int) < s.ps.length) ∧ SJ F lo j q = false ∧ maj (VT s) (SJ F lo j) q = true) := fun h => by rw [hf] at h; cases h.2.1
                    have hno : Hid (ordB (VT s) s.ps.length F lo = false) := hbad.out fun h => hneg (hAt.out.1 h)
                    have hrr := Lib.hid (hre.out false (by rw [hno.out, Bool.false_and]))
                    replace hneg := Lib.hid hneg; replace hf := Lib.hid hf; replace k2 := Lib.hid k2
                    clear hgo hsc k3
                    go_wp2_with fail
                    refine k2.out.mono ?_
                    rintro e wq ⟨rfl, hq⟩
                    obtain rfl := hq.symm
                    go_wp2
                    go_ret2
                    exact ⟨ret_bb hrr.out.1 hrr.out.2, hBr.out⟩
                  | false =>
                    rw [hf] at k2
                    cases hm : maj (VT s) (SJ F lo j) q with
                    | false =>
                      rw [hm] at k3
                      have hneg : ¬ ((0 ≤ (q : Int) ∧ (q : Int) < s.ps.length) ∧ SJ F lo j q = false ∧ maj (VT s) (SJ F lo j) q = true) := fun h => by rw [hm] at h; cases h.2.2
                      have hno : Hid (ordB (VT s) s.ps.length F lo = false) := hbad.out fun h => hneg (hAt.out.1 h)
                      have hrr := Lib.hid (hre.out false (by rw [hno.out, Bool.false_and]))
                      replace hneg := Lib.hid hneg; replace hf := Lib.hid hf; replace hm := Lib.hid hm; replace k2 := Lib.hid k2; replace k3 := Lib.hid k3
                      clear hgo hsc
                      go_wp2_with fail
                      refine k2.out.mono ?_
                      rintro e wq ⟨rfl, hq⟩
                      obtain rfl := hq.symm
                      go_wp2_with fail
                      refine k3.out.mono ?_
                      rintro e w5 ⟨rfl, hb⟩
                      have hB5 := Lib.hid (hBr.out.trans (hb.mono hBr.out.size))
                      clear hb
                      go_wp2
                      go_ret2
                      exact ⟨ret_bb hrr.out.1 hrr.out.2, hB5.out⟩
                    | true =>
                      rw [hm] at k3
                      have hA9 := Lib.hid (hgo.out (hAt.out.2 ⟨⟨by omega, by omega⟩, hf, hm⟩))
                      have hsc9 := Lib.hid (hsc.out q rfl hf)
                      replace hf := Lib.hid hf; replace hm := Lib.hid hm; replace k2 := Lib.hid k2; replace k3 := Lib.hid k3
                      clear hgo hsc hbad hAt
                      go_wp2_with fail
                      refine k2.out.mono ?_
                      rintro e wq ⟨rfl, hq⟩
                      obtain rfl := hq.symm
                      go_wp2_with fail
                      refine k3.out.mono ?_
                      rintro e w5 ⟨rfl, hb⟩
                      have hS5 := Lib.hid (hSr.out.below hb); have hW5 := Lib.hid (hWr.out.trans (hb.mono hWr.out.size))
                      clear hb x0 x1 x9 e1
                      have x1 := hS5.out.x.cell (j := 1) rfl; have x9 := hS5.out.x.lt; have r0 := hS5.out.r.cell q hqn; have r1 := hS5.out.r.fr q; have r9 := hS5.out.r.lt
                      have q0 : (0 : Int) ≤ (q : Int) := (by omega); have q1 : (q : Int) < (s.ps.length : Int) := by omega
                      have hS9 : Hid (SeIn (w5.setCell ⟨b, q, none⟩ (.int .i64 1)) xb R b B s.ps.length v (row s.vot) (oJ F lo (j + 1))) := (hS5.out.set hqn 1).congr fun x _ => hsc9.out x
                      have hW9 : Hid (Below W1.heap.size W1 (w5.setCell ⟨b, q, none⟩ (.int .i64 1))) := hW5.out.setCell (p := ⟨b, q, none⟩) hbb.out _
                      go_wp2
                      exact ⟨⟨j + 1, by omega, by go_num, hW9, hS9, hA9⟩, by simp only [intOf]; omega⟩
            · obtain rfl : j = lo.length := by omega
              have hyes : Hid (ordB (VT s) s.ps.length F lo = true) := hoa.out fun i hi => hA.out i hi hi
              have hTr : Hid (Bk wr pb 28 [.slice Ao lo.length co, .slice Al lc.length cl]) := hT1.out.below hWr.out
              have t0 := hTr.out.cell (j := 0) rfl; have t1 := hTr.out.cell (j := 1) rfl; have t9 := hTr.out.lt
              clear hA hoa hob
              by_cases hl : lc.length = 0
              · have m5 : ((lc.length : Int) == 0) = true := by rw [beq_iff_eq]; omega
                have m6 : (lc.length == 0) = true := by rw [beq_iff_eq]; exact hl
                have hrr0 := hre.out _ (show (decide (lo[lo.length - 1]'(by omega) = (p : Int))) = _ by rw [hyes.out, Bool.true_and, decide_eq_true hl, Bool.true_and, hla.out])
                replace hl := Lib.hid hl
                obtain ⟨ob, oo, rfl, hol2, hoc⟩ := (hlo1.out.below hWr.out) hl1
                have e1 := hoc (lo.length - 1) (by omega)
                obtain ⟨z, hz⟩ : ∃ z, z = lo[lo.length - 1]'(by omega) := ⟨_, rfl⟩
                rw [← hz] at e1 hrr0
                replace hz := Lib.hid hz
                have j1 : IntKind.i64.wrap ((lo.length : Int) - 1) = (lo.length : Int) - 1 := IntWalk.i64_in _ (by omega)
                have j2 : (0 : Int) ≤ (lo.length : Int) - 1 := by omega
                have j3 : (lo.length : Int) - 1 < (lo.length : Int) := by omega
                have j4 : ((lo.length : Int) - 1).toNat = lo.length - 1 := by omega
                have hzp : decide (z = (p : Int)) = (z == (p : Int)) := by rw [Bool.eq_iff_iff, decide_eq_true_iff, beq_iff_eq]
                rw [hzp] at hrr0
                have hrr := Lib.hid hrr0
                clear hoc hla hrr0 hzp
                go_wp2
                go_ret2
                exact ⟨ret_bb hrr.out.1 hrr.out.2, hBr.out⟩
              · have m5 : ((lc.length : Int) == 0) = false := by rw [beq_eq_false_iff_ne]; omega
                have m6 : (lc.length == 0) = false := by rw [beq_eq_false_iff_ne]; exact hl
                have hrr := Lib.hid (hre.out false (by simp [hl]))
                replace hl := Lib.hid hl
                clear hla
                go_wp2
                go_ret2
                exact ⟨ret_bb hrr.out.1 hrr.out.2, hBr.out⟩
    · have hch : chk s F party lo lc = (false, false) := by unfold chk; rw [if_neg fun h => hpa ⟨h.2.2.1, h.2.2.2⟩]
      have hrr : Hid (false = r1 ∧ false = r2) := by rw [hr1, hr2, hch]; exact ⟨rfl, rfl⟩
      replace hgd := Lib.hid hgd; clear hch hr1 hr2
      by_cases hp0 : party < 0
      · have m1 : decide (party < 0) = true := decide_eq_true hp0
        replace hpa := Lib.hid hpa; replace hp0 := Lib.hid hp0
        go_enter Tryz.func16, Tryz.ntmps16
        go_wp2_with fail
        (try rw [← hW1])
        (try rw [← hpb])
        replace hW1 := Lib.hid hW1; replace hpb := Lib.hid hpb
        refine kb2.out.mono ?_
        rintro e w3 ⟨⟨xb, b, rfl, R, B, v, hBB, hxx, hS3⟩, hb⟩
        have hB3 := Lib.hid (hB1.out.trans (hb.mono hB1.out.size))
        have x1 := hS3.x.cell (j := 1) rfl; have x9 := hS3.x.lt
        clear hb hS3 hBB hxx u0 u1 u2 u9 kb2 hX1
        go_wp2
        go_ret2
        exact ⟨ret_bb hrr.out.1 hrr.out.2, hB3.out⟩
      · have m1 : decide (party < 0) = false := decide_eq_false hp0
        have m2 : decide ((s.ps.length : Int) ≤ party) = true := decide_eq_true (by omega)
        replace hpa := Lib.hid hpa; replace hp0 := Lib.hid hp0
        go_enter Tryz.func16, Tryz.ntmps16
        go_wp2_with fail
        (try rw [← hW1])
        (try rw [← hpb])
        replace hW1 := Lib.hid hW1; replace hpb := Lib.hid hpb
        refine kb2.out.mono ?_
        rintro e w3 ⟨⟨xb, b, rfl, R, B, v, hBB, hxx, hS3⟩, hb⟩
        have hB3 := Lib.hid (hB1.out.trans (hb.mono hB1.out.size))
        have x1 := hS3.x.cell (j := 1) rfl; have x9 := hS3.x.lt
        clear hb hS3 hBB hxx u0 u1 u2 u9 kb2 hX1
        go_wp2
        go_ret2
        exact ⟨ret_bb hrr.out.1 hrr.out.2, hB3.out⟩
  · have kb2 : Hid (Calls Tryz.prog 25 #[.agg #[.slice Ap s.ps.length cp, .slice Ac s.cap.length cc, .slice Av s.vot.length cv], .slice Af F.length cf] W1 fun e w' => e = .returned (.tuple #[.pointer none, .int .i64 1]) ∧ Below W1.heap.size W1 w') := kb.mono fun e w' h => ⟨by have h1 := h.1; rw [if_neg hgd] at h1; exact h1, h.2⟩
    have hch : chk s F party lo lc = (false, false) := by unfold chk; rw [if_neg fun h => hgd ⟨h.1, h.2.1⟩]
    have hrr : Hid (false = r1 ∧ false = r2) := by rw [hr1, hr2, hch]; exact ⟨rfl, rfl⟩
    replace hgd := Lib.hid hgd; clear hch hr1 hr2 kb
    go_enter Tryz.func16, Tryz.ntmps16
    go_wp2_with fail
    (try rw [← hW1])
    (try rw [← hpb])
    replace hW1 := Lib.hid hW1; replace hpb := Lib.hid hpb
    refine kb2.out.mono ?_
    rintro e w3 ⟨rfl, hb⟩
    have hB3 := Lib.hid (hB1.out.trans (hb.mono hB1.out.size))
    clear hb u0 u1 u2 u9 kb2 hX1
    go_wp2
    go_ret2
    exact ⟨ret_bb hrr.out.1 hrr.out.2, hB3.out⟩
end Co
end Go.Proofs.YtmekiidknjjfcaaGreatDoor

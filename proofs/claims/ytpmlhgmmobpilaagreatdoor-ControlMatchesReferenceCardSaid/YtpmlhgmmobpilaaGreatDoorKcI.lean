/- Texts that the proof needs: CoC, CoD, RatFloor, RatDig, RatDuo, NatBytes. -/
import Derived.LaidEql
import Derived.Laws.BytesArg
import Derived.Laws.OwnMore
import Derived.Test.YtpmlhgmmobpilaaGreatDoorKcA
import Derived.Test.YtpmlhgmmobpilaaGreatDoorKcB
import Derived.Test.YtpmlhgmmobpilaaGreatDoorKcC
import Derived.Test.YtpmlhgmmobpilaaGreatDoorKcD
import Derived.Test.YtpmlhgmmobpilaaGreatDoorKcE
import Derived.Test.YtpmlhgmmobpilaaGreatDoorKcF
import Derived.Test.YtpmlhgmmobpilaaGreatDoorKcG
import Derived.Test.YtpmlhgmmobpilaaGreatDoorKcH
namespace Go.Proofs.YtpmlhgmmobpilaaGreatDoor
open Go.RowKit Go.Shelf
namespace Co
open Nt Ci
/-- The listed ones and the first j of a list. -/
def SJ (F lo : List Int) (j : Nat) (q : Nat) : Bool := decide (q ∈ toN F ∨ (q : Int) ∈ lo.take j)
def oJ (F lo : List Int) (j : Nat) (q : Nat) : Int := if q ∈ toN F then 0 else if (q : Int) ∈ lo.take j then 1 else -1
def OrdAt (V : List (Nat × Nat × Nat)) (n : Nat) (F lo : List Int) (j : Nat) (h : j < lo.length) : Prop :=
  (0 ≤ lo[j] ∧ lo[j] < n) ∧ SJ F lo j lo[j].toNat = false ∧ maj V (SJ F lo j) lo[j].toNat = true
instance (V : List (Nat × Nat × Nat)) (n : Nat) (F lo : List Int) (j : Nat) (h : j < lo.length) : Decidable (OrdAt V n F lo j h) := inferInstanceAs (Decidable (_ ∧ _))
/-- Each one of the order has the majority by the listed ones and those ahead of it. -/
def ordB (V : List (Nat × Nat × Nat)) (n : Nat) (F lo : List Int) : Bool := decide (∀ j (h : j < lo.length), OrdAt V n F lo j h)
def ClAt (V : List (Nat × Nat × Nat)) (F lc : List Int) (i : Nat) : Prop := (i : Int) ∈ lc ∨ (i ∉ toN F ∧ maj V (fun q => decide ((q : Int) ∈ lc)) i = false)
instance (V : List (Nat × Nat × Nat)) (F lc : List Int) (i : Nat) : Decidable (ClAt V F lc i) := inferInstanceAs (Decidable (_ ∨ _))
/-- A closed set without the party. -/
def clsB (V : List (Nat × Nat × Nat)) (n : Nat) (F : List Int) (party : Int) (lc : List Int) : Bool := (listB n lc && !decide (party ∈ lc)) && decide (∀ i, i < n → ClAt V F lc i)
def clsTo (V : List (Nat × Nat × Nat)) (n : Nat) (F : List Int) (party : Int) (lc : List Int) (k : Nat) : Bool := (listB n lc && !decide (party ∈ lc)) && decide (∀ i, i < k → ClAt V F lc i)
def lastB (lo : List Int) (party : Int) : Bool := decide (lo.getLast? = some party)
def chk (s : SR) (F : List Int) (party : Int) (lo lc : List Int) : Bool × Bool :=
  if soundB s = true ∧ listB s.ps.length F = true ∧ 0 ≤ party ∧ party < s.ps.length then
    if party.toNat ∈ toN F then (decide (lo.length + lc.length = 0), decide (lo.length + lc.length = 0))
    else if lo.length = 0 then (false, clsB (VT s) s.ps.length F party lc)
    else (ordB (VT s) s.ps.length F lo && (decide (lc.length = 0) && lastB lo party), ordB (VT s) s.ps.length F lo && (decide (lc.length = 0) && lastB lo party))
  else (false, false)
section
variable {V : List (Nat × Nat × Nat)} {n j k q : Nat} {F lo lc : List Int} {party : Int}
theorem ord_bad (h : j < lo.length) (hb : ¬ OrdAt V n F lo j h) : ordB V n F lo = false := decide_eq_false fun hc => hb (hc j h)
theorem ord_all (h : ∀ j (h : j < lo.length), OrdAt V n F lo j h) : ordB V n F lo = true := decide_eq_true h
theorem oJ_S : (fun q => decide (0 ≤ oJ F lo j q)) = SJ F lo j := by
  funext q
  unfold oJ SJ
  rw [Bool.eq_iff_iff, decide_eq_true_iff, decide_eq_true_iff]
  by_cases h1 : q ∈ toN F
  · rw [if_pos h1]
    exact ⟨fun _ => .inl h1, fun _ => Int.le_refl _⟩
  · rw [if_neg h1]
    by_cases h2 : (q : Int) ∈ lo.take j
    · rw [if_pos h2]
      exact ⟨fun _ => .inr h2, fun _ => by decide⟩
    · rw [if_neg h2]
      exact ⟨fun h => absurd h (by decide), fun h => absurd (h.elim h1 h2) id⟩
theorem oJ_zero (q : Nat) : oJ F lo 0 q = if q ∈ toN F then 0 else -1 := by unfold oJ; simp
theorem oJ_succ (h : j < lo.length) (he : lo[j] = (q : Int)) (hf : SJ F lo j q = false) (x : Nat) : setI (oJ F lo j) q 1 x = oJ F lo (j + 1) x := by
  have hq : q ∉ toN F := fun c => by
    have : SJ F lo j q = true := decide_eq_true (.inl c)
    rw [this] at hf; cases hf
  have hm : (x : Int) ∈ lo.take (j + 1) ↔ (x : Int) ∈ lo.take j ∨ (x : Int) = lo[j] := by
    rw [List.take_succ_eq_append_getElem h, List.mem_append, List.mem_singleton]
  unfold setI oJ
  by_cases e : x = q
  · rw [if_pos e, e, if_neg hq, if_pos]
    rw [← e, hm, e, he]; exact .inr rfl
  · rw [if_neg e]
    by_cases h1 : x ∈ toN F
    · rw [if_pos h1, if_pos h1]
    · rw [if_neg h1, if_neg h1]
      by_cases h2 : (x : Int) ∈ lo.take j
      · rw [if_pos h2, if_pos (hm.2 (.inl h2))]
      · rw [if_neg h2, if_neg fun c => (hm.1 c).elim h2 fun c => e (by rw [he] at c; omega)]
theorem cls_zero : clsTo V n F party lc 0 = (listB n lc && !decide (party ∈ lc)) := by unfold clsTo; simp
theorem cls_all : clsTo V n F party lc n = clsB V n F party lc := rfl
theorem cls_succ : clsTo V n F party lc (k + 1) = (clsTo V n F party lc k && decide (ClAt V F lc k)) := by
  unfold clsTo
  generalize (listB n lc && !decide (party ∈ lc)) = c
  rw [Bool.and_assoc]
  congr 1
  rw [Bool.eq_iff_iff, Bool.and_eq_true, decide_eq_true_iff, decide_eq_true_iff, decide_eq_true_iff]
  constructor
  · exact fun h => ⟨fun i hi => h i (by omega), h k (by omega)⟩
  · rintro ⟨h1, h2⟩ i hi
    by_cases c : i = k
    · rw [c]; exact h2
    · exact h1 i (by omega)
theorem cl_dec : decide (ClAt V F lc k) = (decide ((k : Int) ∈ lc) || (!decide (k ∈ toN F) && !maj V (fun q => decide ((q : Int) ∈ lc)) k)) := by
  rw [Bool.eq_iff_iff, decide_eq_true_iff]
  unfold ClAt
  simp
theorem last_eq (h : 0 < lo.length) : lastB lo party = decide (lo[lo.length - 1]'(by omega) = party) := by
  unfold lastB
  rw [List.getLast?_eq_getElem?, List.getElem?_eq_getElem (by omega)]
  simp
end
end Co
end Go.Proofs.YtpmlhgmmobpilaaGreatDoor
namespace Go.Proofs.YtpmlhgmmobpilaaGreatDoor
open Go.RowKit Go.Shelf
namespace Co
open Nt Ci
theorem ret_bb {x y x' y' : Bool} (h1 : x = x') (h2 : y = y') : Ending.returned (.tuple #[.bool x, .bool y]) = .returned (.tuple #[.bool x', .bool y']) := by rw [h1, h2]
/-- majority by the closed ones. -/
theorem majClosed {s : SR} {xb R b B p pb : Nat} {v : Nat → Value} {o : Nat → Int} {Ao Al : Option Addr} {co cl : Nat} {lo lc : List Int} {w : World} (hE : Env w) (hS : SeIn w xb R b B s.ps.length v (row s.vot) o) (hp : p < s.ps.length) (hsd : soundB s = true) (hv3 : s.vot.length ≤ 300)
    (hpb : Bk w pb 56 [.slice Ao lo.length co, .slice Al lc.length cl]) (hlc : InInt w Al lc) (hl : lc.length ≤ 140737488355328) :
    Calls Tryz.prog 84 #[.slice (some ⟨R, 0, none⟩) s.ps.length s.ps.length, .int .i64 (p : Int), .func (.func 82) #[] #[.pointer (some ⟨pb, 0, none⟩)]] w fun e w' => e = .returned (.bool (maj (VT s) (fun q => decide ((q : Int) ∈ lc)) p)) ∧ Below w.heap.size w w' := by
  have hn60 := sound_n hsd
  have hvt := sound_vot hsd
  have hll := row_len' s.vot p
  rw [maj_row (fun x hx => (hvt x hx).1.1)]
  exact majIn_any pb R B s.ps.length p v (row s.vot) (fun q => decide ((q : Int) ∈ lc)) w hE hS.g hp (by omega) (by omega) (lkOk_row hvt p) fun W hW q h0 h1 => by
    refine (in_any pb Ao Al co cl lo lc q W (hpb.below hW) (hlc.below hW) hl).mono ?_
    rintro e w' ⟨rfl, rfl⟩
    have e1 : ((q.toNat : Nat) : Int) = q := by omega
    simp only [e1]
    exact ⟨trivial, Below.refl _ _⟩
set_option maxRecDepth 100000 in
set_option maxHeartbeats 16000000 in
theorem Check_any (s : SR) (Ap Ac Av Af Ao Al : Option Addr) (cp cc cv cf co cl : Nat) (F lo lc : List Int) (party : Int) (w : World) (hE : Env w) (hs : StIn w s Ap Ac Av) (hc3 : s.cap.length ≤ 300) (hv3 : s.vot.length ≤ 300) (hF : InInt w Af F) (hFl : F.length ≤ 140737488355328) (hlo : InInt w Ao lo) (hol : lo.length ≤ 1000000) (hlc : InInt w Al lc) (hcl : lc.length ≤ 1000000) :
    Calls Tryz.prog 32 #[.agg #[.slice Ap s.ps.length cp, .slice Ac s.cap.length cc, .slice Av s.vot.length cv], .slice Af F.length cf, .int .i64 party, .agg #[.slice Ao lo.length co, .slice Al lc.length cl]] w fun e w' => e = .returned (.tuple #[.bool (chk s F party lo lc).1, .bool (chk s F party lo lc).2]) ∧ Below w.heap.size w w' := by
  have hB1 : Hid (Below w.heap.size w ((w.alloc (.cells #[.slice Ap s.ps.length cp, .slice Ac s.cap.length cc, .slice Av s.vot.length cv] 54)).alloc (.cells #[.slice Ao lo.length co, .slice Al lc.length cl] 56))) := ((Below.refl _ w).alloc (Nat.le_refl _) _).alloc (by simp) _
  have hX1 : Hid (Bk ((w.alloc (.cells #[.slice Ap s.ps.length cp, .slice Ac s.cap.length cc, .slice Av s.vot.length cv] 54)).alloc (.cells #[.slice Ao lo.length co, .slice Al lc.length cl] 56)) w.heap.size 54 (SC s Ap Ac Av cp cc cv)) := (Bk.new w _ _).alloc _
  have hT1 : Hid (Bk ((w.alloc (.cells #[.slice Ap s.ps.length cp, .slice Ac s.cap.length cc, .slice Av s.vot.length cv] 54)).alloc (.cells #[.slice Ao lo.length co, .slice Al lc.length cl] 56)) (w.heap.size + 1) 56 [.slice Ao lo.length co, .slice Al lc.length cl]) := by have h := Bk.new (w.alloc (.cells #[.slice Ap s.ps.length cp, .slice Ac s.cap.length cc, .slice Av s.vot.length cv] 54)) 56 [.slice Ao lo.length co, .slice Al lc.length cl]; rw [World.size_alloc] at h; exact h
  have u0 := hX1.out.cell (j := 0) rfl; have u1 := hX1.out.cell (j := 1) rfl; have u2 := hX1.out.cell (j := 2) rfl; have u9 := hX1.out.lt
  have kb := begin_any s Ap Ac Av Af cp cc cv cf F _ (hE.below hB1.out) (hs.below hB1.out) hc3 hv3 (hF.below hB1.out) hFl
  obtain ⟨pb, hpb⟩ : ∃ x, x = w.heap.size + 1 := ⟨_, rfl⟩
  obtain ⟨W1, hW1⟩ : ∃ W, W = ((w.alloc (.cells #[.slice Ap s.ps.length cp, .slice Ac s.cap.length cc, .slice Av s.vot.length cv] 54)).alloc (.cells #[.slice Ao lo.length co, .slice Al lc.length cl] 56)) := ⟨_, rfl⟩
  rw [← hW1] at hB1 hX1 hT1 kb u0 u1 u2 u9
  rw [← hpb] at hT1
  obtain ⟨r1, hr1⟩ : ∃ x, x = (chk s F party lo lc).1 := ⟨_, rfl⟩
  obtain ⟨r2, hr2⟩ : ∃ x, x = (chk s F party lo lc).2 := ⟨_, rfl⟩
  rw [← hr1, ← hr2]
  have hE1 := Lib.hid (hE.below hB1.out); have hs1 := Lib.hid (hs.below hB1.out); have hlo1 := Lib.hid (hlo.below hB1.out); have hlc1 := Lib.hid (hlc.below hB1.out)
  clear hE hs hlo hlc hF
  by_cases hgd : soundB s = true ∧ listB s.ps.length F = true
  · have kb2 : Hid (Calls Tryz.prog 71 #[.agg #[.slice Ap s.ps.length cp, .slice Ac s.cap.length cc, .slice Av s.vot.length cv], .slice Af F.length cf] W1 fun e w' => (∃ xb b, e = .returned (.tuple #[.pointer (some ⟨xb, 0, none⟩), .int .i64 0]) ∧ Se s W1.heap.size w' xb b (fun x => if x ∈ toN F then 0 else -1)) ∧ Below W1.heap.size W1 w') := kb.mono fun e w' h => ⟨by have h1 := h.1; rw [if_pos hgd] at h1; exact h1, h.2⟩
    clear kb
    have hn60 := sound_n hgd.1
    have hsd := Lib.hid hgd.1
    by_cases hpa : 0 ≤ party ∧ party < s.ps.length
    · obtain ⟨p, rfl⟩ : ∃ p : Nat, party = (p : Int) := ⟨party.toNat, by omega⟩
      have hpn : p < s.ps.length := by omega
      have hch : Hid (chk s F (p : Int) lo lc = if p ∈ toN F then (decide (lo.length + lc.length = 0), decide (lo.length + lc.length = 0)) else if lo.length = 0 then (false, clsB (VT s) s.ps.length F (p : Int) lc) else (ordB (VT s) s.ps.length F lo && (decide (lc.length = 0) && lastB lo (p : Int)), ordB (VT s) s.ps.length F lo && (decide (lc.length = 0) && lastB lo (p : Int)))) := by unfold Hid chk; rw [if_pos ⟨hgd.1, hgd.2, hpa⟩]; rfl
      replace hgd := Lib.hid hgd; replace hr1 := Lib.hid hr1; replace hr2 := Lib.hid hr2
      have m1 : decide ((p : Int) < 0) = false := decide_eq_false (by omega); have m2 : decide ((s.ps.length : Int) ≤ (p : Int)) = false := decide_eq_false (by omega); have m2n : decide (s.ps.length ≤ p) = false := decide_eq_false (by omega)
      go_enter Tryz.func32, Tryz.ntmps32
      go_wp2_with fail
      (try rw [← hW1])
      (try rw [← hpb])
      replace hW1 := Lib.hid hW1; replace hpb := Lib.hid hpb
      refine kb2.out.mono ?_
      rintro e w3 ⟨⟨xb, b, rfl, R, B, v, hBB, hxx, hS0⟩, hb⟩
      have hS3 : Hid (SeIn w3 xb R b B s.ps.length v (row s.vot) (oJ F lo 0)) := hS0.congr fun x _ => (oJ_zero x).symm
      have hB3 := Lib.hid (hB1.out.trans (hb.mono hB1.out.size)); have hT3 := Lib.hid (hT1.out.below hb); have hX3 := Lib.hid (hX1.out.below hb); have hW3 := Lib.hid hb
      have hbb : Hid (W1.heap.size ≤ b) := Nat.le_trans hBB hS0.lb
      have hpl : Hid (pb < W1.heap.size) := hT1.out.lt
      clear hb hS0 hBB hxx u0 u1 u2 u9 kb2 hX1
      have kfound : Hid (∀ j W q, q < s.ps.length → SeIn W xb R b B s.ps.length v (row s.vot) (oJ F lo j) → Calls Tryz.prog 80 #[.pointer (some ⟨xb, 0, none⟩), .int .i64 (q : Int)] W fun e w' => e = .returned (.bool (SJ F lo j q)) ∧ w' = W) := fun j W q hq hS => by
        have h := found_any xb R b B s.ps.length q v (row s.vot) _ W hS hq (by omega)
        have e : decide (0 ≤ oJ F lo j q) = SJ F lo j q := congrFun oJ_S q
        rw [e] at h; exact h
      have kmaj : Hid (∀ j W q, q < s.ps.length → Below W1.heap.size W1 W → SeIn W xb R b B s.ps.length v (row s.vot) (oJ F lo j) → Calls Tryz.prog 84 #[.slice (some ⟨R, 0, none⟩) s.ps.length s.ps.length, .int .i64 (q : Int), .func (.func 80) #[.pointer (some ⟨xb, 0, none⟩)] #[]] W fun e w' => e = .returned (.bool (maj (VT s) (SJ F lo j) q)) ∧ Below W.heap.size W w') := fun j W q hq hW hS => by
        have h := majRounds (hE1.out.below hW) hS hq hsd.out hv3
        rw [oJ_S] at h; exact h
      have kin : Hid (∀ W (q : Int), Below W1.heap.size W1 W → Bk W pb 56 [.slice Ao lo.length co, .slice Al lc.length cl] → Calls Tryz.prog 82 #[.int .i64 q, .pointer (some ⟨pb, 0, none⟩)] W fun e w' => e = .returned (.bool (decide (q ∈ lc))) ∧ w' = W) := fun W q hW hp => in_any pb Ao Al co cl lo lc q W hp (hlc1.out.below hW) (by omega)
      have kmin : Hid (∀ W q, q < s.ps.length → Below W1.heap.size W1 W → Bk W pb 56 [.slice Ao lo.length co, .slice Al lc.length cl] → SeIn W xb R b B s.ps.length v (row s.vot) (oJ F lo 0) → Calls Tryz.prog 84 #[.slice (some ⟨R, 0, none⟩) s.ps.length s.ps.length, .int .i64 (q : Int), .func (.func 82) #[] #[.pointer (some ⟨pb, 0, none⟩)]] W fun e w' => e = .returned (.bool (maj (VT s) (fun x => decide ((x : Int) ∈ lc)) q)) ∧ Below W.heap.size W w') := fun W q hq hW hp hS => majClosed (hE1.out.below hW) hS hq hsd.out hv3 hp (hlc1.out.below hW) (by omega)
      have t0 := hT3.out.cell (j := 0) rfl; have t1 := hT3.out.cell (j := 1) rfl; have t9 := hT3.out.lt
      have x0 := hS3.out.x.cell (j := 0) rfl; have x1 := hS3.out.x.cell (j := 1) rfl; have x9 := hS3.out.x.lt
      have kf := kfound.out 0 w3 p hpn hS3.out
      have e0 : SJ F lo 0 p = decide (p ∈ toN F) := by unfold SJ; simp
      rw [e0] at kf
      clear e0
      by_cases hpf : p ∈ toN F
      · rw [decide_eq_true hpf] at kf
        have hs0 : ((lo.length : Int) + (lc.length : Int) == 0) = decide (lo.length + lc.length = 0) := by rw [Bool.eq_iff_iff, decide_eq_true_iff, beq_iff_eq]; omega
        have hrr : Hid (((lo.length : Int) + (lc.length : Int) == 0) = r1 ∧ ((lo.length : Int) + (lc.length : Int) == 0) = r2) := by rw [hs0, hr1.out, hr2.out, hch.out, if_pos hpf]; exact ⟨rfl, rfl⟩
        clear hs0
        clear hpf kfound kmaj kin kmin
        replace kf := Lib.hid kf
        go_wp2_with fail
        refine kf.out.mono ?_
        rintro e wq ⟨rfl, hq⟩
        obtain rfl := hq.symm
        go_wp2
        go_ret2
        exact ⟨ret_bb hrr.out.1 hrr.out.2, hB3.out⟩
      · rw [decide_eq_false hpf] at kf
        replace kf := Lib.hid kf
        by_cases hl0 : lo.length = 0
        · have hrr : Hid (false = r1 ∧ clsTo (VT s) s.ps.length F (p : Int) lc s.ps.length = r2) := by rw [hr1.out, hr2.out, hch.out, if_neg hpf, if_pos hl0]; exact ⟨rfl, cls_all⟩
          have m3 : ((lo.length : Int) == 0) = true := by rw [beq_iff_eq]; omega
          have m4 : (lo.length == 0) = true := by rw [beq_iff_eq]; exact hl0
          clear kmaj
          replace hl0 := Lib.hid hl0
          replace hpf := Lib.hid hpf
          have u0 := hX3.out.cell (j := 0) rfl; have u1 := hX3.out.cell (j := 1) rfl; have u2 := hX3.out.cell (j := 2) rfl; have u9 := hX3.out.lt
          have kr : Hid (Calls Tryz.prog 81 #[.agg #[.slice Ap s.ps.length cp, .slice Ac s.cap.length cc, .slice Av s.vot.length cv], .slice Al lc.length cl] w3 fun e w' => (∃ rv rl rc, e = .returned (.tuple #[.slice rv rl rc, .int .i64 (if listB s.ps.length lc = true then 0 else 1)])) ∧ Below w3.heap.size w3 w') := (Ranks_any s Ap Ac Av Al cp cc cv cl lc w3 (hE1.out.below hW3.out) (hs1.out.below hW3.out) hc3 (hlc1.out.below hW3.out) (by omega)).mono fun e w' h => ⟨by have h1 := h.1; by_cases c : listB s.ps.length lc = true; (· rw [if_pos ⟨hsd.out, c⟩] at h1; obtain ⟨b, e1, _⟩ := h1; exact ⟨_, _, _, by rw [if_pos c]; exact e1⟩); (· rw [if_neg fun d => c d.2] at h1; exact ⟨_, _, _, by rw [if_neg c]; exact h1⟩), h.2⟩
          obtain ⟨er, her⟩ : ∃ x : Int, x = (if listB s.ps.length lc = true then 0 else 1) := ⟨_, rfl⟩
          rw [← her] at kr
          have hlb : (er == 0) = listB s.ps.length lc := by rw [her]; cases listB s.ps.length lc <;> rfl
          replace her := Lib.hid her
          go_wp2_with fail
          refine kf.out.mono ?_
          rintro e wq ⟨rfl, hq⟩
          obtain rfl := hq.symm
          go_wp2_with fail
          refine kr.out.mono ?_
          rintro e w4 ⟨⟨rv, rl, rc, rfl⟩, hb⟩
          have hB4 := Lib.hid (hB3.out.trans (hb.mono hB3.out.size)); have hT4 := Lib.hid (hT3.out.below hb); have hS4 := Lib.hid (hS3.out.below hb); have hW4 := Lib.hid (hW3.out.trans (hb.mono hW3.out.size))
          clear hb t0 t1 t9 x0 x1 x9 u0 u1 u2 u9 hX3 hT3 hB3 hS3 hW3 kr
          have t0 := hT4.out.cell (j := 0) rfl; have t1 := hT4.out.cell (j := 1) rfl; have t9 := hT4.out.lt
          have x0 := hS4.out.x.cell (j := 0) rfl; have x1 := hS4.out.x.cell (j := 1) rfl; have x9 := hS4.out.x.lt
          have hin : Hid (∀ ok0 : Bool, ok0 = clsTo (VT s) s.ps.length F (p : Int) lc 0 → True) := fun _ _ => trivial
          have ki := Lib.hid (kin.out w4 (p : Int) hW4.out hT4.out)
          have hz : Hid (clsTo (VT s) s.ps.length F (p : Int) lc 0 = (listB s.ps.length lc && !decide ((p : Int) ∈ lc))) := cls_zero
          rw [← hlb] at hz
          clear hin
          cases hlq : (er == 0) with
          | false =>
            rw [hlq] at hz
            have hz2 : Hid (clsTo (VT s) s.ps.length F (p : Int) lc 0 = false) := hz.out
            have m5 : (er == 0) = false := hlq
            replace hlq := Lib.hid hlq; clear hz hlb
            go_wp2_with fail
            clear t0 t1 t9
            go_loopw [80, 16] (fun ix okv wr => ∃ (k : Nat), k ≤ s.ps.length ∧ ix = .int .i64 (k : Int) ∧ okv = .bool (clsTo (VT s) s.ps.length F (p : Int) lc k) ∧ Hid (Below w4.heap.size w4 wr)) (fun ix _ _ => s.ps.length - (intOf ix).toNat)
            case atStart => exact ⟨0, Nat.zero_le _, rfl, by rw [hz2.out], Below.refl _ _⟩
            case round =>
              obtain ⟨k, hk, rfl, rfl, hbr⟩ := hrel
              have hBr := Lib.hid (hB4.out.trans (hbr.out.mono hB4.out.size)); have hTr := Lib.hid (hT4.out.below hbr.out); have hSr := Lib.hid (hS4.out.below hbr.out); have hWr := Lib.hid (hW4.out.trans (hbr.out.mono hW4.out.size))
              clear x0 x1 x9
              by_cases hkn : k < s.ps.length
              · have j0 : (0 : Int) ≤ (k : Int) := by omega
                have j1 : (k : Int) < (s.ps.length : Int) := by omega
                have x0 := hSr.out.x.cell (j := 0) rfl; have x1 := hSr.out.x.cell (j := 1) rfl; have x9 := hSr.out.x.lt
                have hsu : Hid (clsTo (VT s) s.ps.length F (p : Int) lc (k + 1) = (clsTo (VT s) s.ps.length F (p : Int) lc k && (decide ((k : Int) ∈ lc) || (!decide (k ∈ toN F) && !maj (VT s) (fun q => decide ((q : Int) ∈ lc)) k)))) := by unfold Hid; rw [cls_succ, cl_dec]
                have k1 := kin.out _ (k : Int) hWr.out hTr.out; have k2 := kfound.out 0 _ k hkn hSr.out; have k3 := kmin.out _ k hkn hWr.out hTr.out hSr.out
                have e0 : SJ F lo 0 k = decide (k ∈ toN F) := by unfold SJ; simp
                rw [e0] at k2
                clear e0
                obtain ⟨c9, hc9⟩ : ∃ x, x = clsTo (VT s) s.ps.length F (p : Int) lc (k + 1) := ⟨_, rfl⟩
                rw [← hc9] at hsu
                generalize clsTo (VT s) s.ps.length F (p : Int) lc k = c8 at hsu ⊢
                generalize decide ((k : Int) ∈ lc) = d1 at hsu k1; generalize decide (k ∈ toN F) = d2 at hsu k2; generalize maj (VT s) (fun q => decide ((q : Int) ∈ lc)) k = d3 at hsu k3
                replace hc9 := Lib.hid hc9
                replace k1 := Lib.hid k1; replace k2 := Lib.hid k2; replace k3 := Lib.hid k3
                replace hkn := Lib.hid hkn
                cases c8 with
                | false =>
                  have hc : Hid (c9 = false) := hsu.out
                  go_wp2
                  exact ⟨⟨k + 1, by have := hkn.out; omega, by go_num, by rw [← hc9.out, hc.out], hbr⟩, by simp only [intOf]; have := hkn.out; omega⟩
                | true =>
                  cases d1 with
                  | true =>
                    go_wp2_with fail
                    refine k1.out.mono ?_
                    rintro e wq ⟨rfl, hq⟩
                    obtain rfl := hq.symm
                    have hc : Hid (c9 = true) := hsu.out
                    go_wp2
                    exact ⟨⟨k + 1, by have := hkn.out; omega, by go_num, by rw [← hc9.out, hc.out], hbr⟩, by simp only [intOf]; have := hkn.out; omega⟩
                  | false =>
                    cases d2 with
                    | true =>
                      go_wp2_with fail
                      refine k1.out.mono ?_
                      rintro e wq ⟨rfl, hq⟩
                      obtain rfl := hq.symm
                      go_wp2_with fail
                      refine k2.out.mono ?_
                      rintro e wq ⟨rfl, hq⟩
                      obtain rfl := hq.symm
                      have hc : Hid (c9 = false) := hsu.out
                      go_wp2
                      exact ⟨⟨k + 1, by have := hkn.out; omega, by go_num, by rw [← hc9.out, hc.out], hbr⟩, by simp only [intOf]; have := hkn.out; omega⟩
                    | false =>
                      have hc3 : Hid (c9 = !d3) := by have h := hsu.out; cases d3 <;> exact h
                      go_wp2_with fail
                      refine k1.out.mono ?_
                      rintro e wq ⟨rfl, hq⟩
                      obtain rfl := hq.symm
                      go_wp2_with fail
                      refine k2.out.mono ?_
                      rintro e wq ⟨rfl, hq⟩
                      obtain rfl := hq.symm
                      go_wp2_with fail
                      refine k3.out.mono ?_
                      rintro e wq ⟨rfl, hb⟩
                      have hbq := Lib.hid (hbr.out.trans (hb.mono hbr.out.size))
                      clear hb x0 x1 x9
                      go_wp2
                      exact ⟨⟨k + 1, by have := hkn.out; omega, by go_num, by rw [← hc9.out, hc3.out], hbq⟩, by simp only [intOf]; have := hkn.out; omega⟩
              · obtain rfl : k = s.ps.length := by omega
                go_wp2
                go_ret2
                exact ⟨ret_bb hrr.out.1 hrr.out.2, hBr.out⟩
          | true =>
            rw [hlq] at hz
            have hz2 : Hid (clsTo (VT s) s.ps.length F (p : Int) lc 0 = !decide ((p : Int) ∈ lc)) := hz.out
            have m5 : (er == 0) = true := hlq
            replace hlq := Lib.hid hlq; clear hz hlb
            go_wp2_with fail
            refine ki.out.mono ?_
            rintro e wq ⟨rfl, hq⟩
            obtain rfl := hq.symm
            go_wp2_with fail
            clear t0 t1 t9
            go_loopw [80, 16] (fun ix okv wr => ∃ (k : Nat), k ≤ s.ps.length ∧ ix = .int .i64 (k : Int) ∧ okv = .bool (clsTo (VT s) s.ps.length F (p : Int) lc k) ∧ Hid (Below w4.heap.size w4 wr)) (fun ix _ _ => s.ps.length - (intOf ix).toNat)
            case atStart => exact ⟨0, Nat.zero_le _, rfl, by rw [hz2.out], Below.refl _ _⟩
            case round =>
              obtain ⟨k, hk, rfl, rfl, hbr⟩ := hrel
              have hBr := Lib.hid (hB4.out.trans (hbr.out.mono hB4.out.size)); have hTr := Lib.hid (hT4.out.below hbr.out); have hSr := Lib.hid (hS4.out.below hbr.out); have hWr := Lib.hid (hW4.out.trans (hbr.out.mono hW4.out.size))
              clear x0 x1 x9
              by_cases hkn : k < s.ps.length
              · have j0 : (0 : Int) ≤ (k : Int) := by omega
                have j1 : (k : Int) < (s.ps.length : Int) := by omega
                have x0 := hSr.out.x.cell (j := 0) rfl; have x1 := hSr.out.x.cell (j := 1) rfl; have x9 := hSr.out.x.lt
                have hsu : Hid (clsTo (VT s) s.ps.length F (p : Int) lc (k + 1) = (clsTo (VT s) s.ps.length F (p : Int) lc k && (decide ((k : Int) ∈ lc) || (!decide (k ∈ toN F) && !maj (VT s) (fun q => decide ((q : Int) ∈ lc)) k)))) := by unfold Hid; rw [cls_succ, cl_dec]
                have k1 := kin.out _ (k : Int) hWr.out hTr.out; have k2 := kfound.out 0 _ k hkn hSr.out; have k3 := kmin.out _ k hkn hWr.out hTr.out hSr.out
                have e0 : SJ F lo 0 k = decide (k ∈ toN F) := by unfold SJ; simp
                rw [e0] at k2
                clear e0
                obtain ⟨c9, hc9⟩ : ∃ x, x = clsTo (VT s) s.ps.length F (p : Int) lc (k + 1) := ⟨_, rfl⟩
                rw [← hc9] at hsu
                generalize clsTo (VT s) s.ps.length F (p : Int) lc k = c8 at hsu ⊢
                generalize decide ((k : Int) ∈ lc) = d1 at hsu k1; generalize decide (k ∈ toN F) = d2 at hsu k2; generalize maj (VT s) (fun q => decide ((q : Int) ∈ lc)) k = d3 at hsu k3
                replace hc9 := Lib.hid hc9
                replace k1 := Lib.hid k1; replace k2 := Lib.hid k2; replace k3 := Lib.hid k3
                replace hkn := Lib.hid hkn
                cases c8 with
                | false =>
                  have hc : Hid (c9 = false) := hsu.out
                  go_wp2
                  exact ⟨⟨k + 1, by have := hkn.out; omega, by go_num, by rw [← hc9.out, hc.out], hbr⟩, by simp only [intOf]; have := hkn.out; omega⟩
                | true =>
                  cases d1 with
                  | true =>
                    go_wp2_with fail
                    refine k1.out.mono ?_
                    rintro e wq ⟨rfl, hq⟩
                    obtain rfl := hq.symm
                    have hc : Hid (c9 = true) := hsu.out
                    go_wp2
                    exact ⟨⟨k + 1, by have := hkn.out; omega, by go_num, by rw [← hc9.out, hc.out], hbr⟩, by simp only [intOf]; have := hkn.out; omega⟩
                  | false =>
                    cases d2 with
                    | true =>
                      go_wp2_with fail
                      refine k1.out.mono ?_
                      rintro e wq ⟨rfl, hq⟩
                      obtain rfl := hq.symm
                      go_wp2_with fail
                      refine k2.out.mono ?_
                      rintro e wq ⟨rfl, hq⟩
                      obtain rfl := hq.symm
                      have hc : Hid (c9 = false) := hsu.out
                      go_wp2
                      exact ⟨⟨k + 1, by have := hkn.out; omega, by go_num, by rw [← hc9.out, hc.out], hbr⟩, by simp only [intOf]; have := hkn.out; omega⟩
                    | false =>
                      have hc3 : Hid (c9 = !d3) := by have h := hsu.out; cases d3 <;> exact h
                      go_wp2_with fail
                      refine k1.out.mono ?_
                      rintro e wq ⟨rfl, hq⟩
                      obtain rfl := hq.symm
                      go_wp2_with fail
                      refine k2.out.mono ?_
                      rintro e wq ⟨rfl, hq⟩
                      obtain rfl := hq.symm
                      go_wp2_with fail
                      refine k3.out.mono ?_
                      rintro e wq ⟨rfl, hb⟩
                      have hbq := Lib.hid (hbr.out.trans (hb.mono hbr.out.size))
                      clear hb x0 x1 x9
                      go_wp2
                      exact ⟨⟨k + 1, by have := hkn.out; omega, by go_num, by rw [← hc9.out, hc3.out], hbq⟩, by simp only [intOf]; have := hkn.out; omega⟩
              · obtain rfl : k = s.ps.length := by omega
                go_wp2
                go_ret2
                exact ⟨ret_bb hrr.out.1 hrr.out.2, hBr.out⟩
        · have hre : Hid (∀ x, x = (ordB (VT s) s.ps.length F lo && (decide (lc.length = 0) && lastB lo (p : Int))) → x = r1 ∧ x = r2) := by rintro x rfl; rw [hr1.out, hr2.out, hch.out, if_neg hpf, if_neg hl0]; exact ⟨rfl, rfl⟩
          have m3 : ((lo.length : Int) == 0) = false := by rw [beq_eq_false_iff_ne]; omega
          have m4 : (lo.length == 0) = false := by rw [beq_eq_false_iff_ne]; exact hl0
          have hl1 : 0 < lo.length := by omega
          have hla := Lib.hid (last_eq (party := (p : Int)) hl1)
          clear kin kmin hX3
          replace hl0 := Lib.hid hl0
          replace hpf := Lib.hid hpf
          have hob := Lib.hid (fun j (h : j < lo.length) hb => ord_bad (V := VT s) (n := s.ps.length) (F := F) h hb)
          have hoa := Lib.hid (fun h => ord_all (V := VT s) (n := s.ps.length) (F := F) (lo := lo) h)
          go_wp2_with fail
          refine kf.out.mono ?_
          rintro e wq ⟨rfl, hq⟩
          obtain rfl := hq.symm
          go_wp2_with fail
          clear t0 t1 t9 x0 x1 x9
          go_loopw [110] (fun ix wr => ∃ (j : Nat), j ≤ lo.length ∧ ix = .int .i64 (j : Int) ∧ Hid (Below W1.heap.size W1 wr) ∧ Hid (SeIn wr xb R b B s.ps.length v (row s.vot) (oJ F lo j)) ∧ Hid (∀ i (h : i < lo.length), i < j → OrdAt (VT s) s.ps.length F lo i h)) (fun ix _ => lo.length - (intOf ix).toNat)
          case atStart => exact ⟨0, Nat.zero_le _, rfl, hW3, hS3, fun i _ h => absurd h (Nat.not_lt_zero _)⟩
          case round =>
            obtain ⟨j, hj, rfl, hWr, hSr, hA⟩ := hrel
            have hBr := Lib.hid (hB1.out.trans (hWr.out.mono hB1.out.size))
            by_cases hjl : j < lo.length
            · obtain ⟨ob, oo, rfl, hol2, hoc⟩ := (hlo1.out.below hWr.out) (by omega)
              have e1 := hoc j hjl
              have hbad := Lib.hid (hob.out j hjl)
              have hgo : Hid (OrdAt (VT s) s.ps.length F lo j hjl → ∀ i (h : i < lo.length), i < j + 1 → OrdAt (VT s) s.ps.length F lo i h) := fun h i hi h2 => by
                by_cases c : i = j
                · subst c; exact h
                · exact hA.out i hi (by omega)
              have hAt : Hid (OrdAt (VT s) s.ps.length F lo j hjl ↔ (0 ≤ lo[j] ∧ lo[j] < s.ps.length) ∧ SJ F lo j lo[j].toNat = false ∧ maj (VT s) (SJ F lo j) lo[j].toNat = true) := Iff.rfl
              have hsc : Hid (∀ q : Nat, lo[j] = (q : Int) → SJ F lo j q = false → ∀ x, setI (oJ F lo j) q 1 x = oJ F lo (j + 1) x) := fun q e h x => oJ_succ hjl e h x
              obtain ⟨z, hz⟩ : ∃ z, z = lo[j] := ⟨_, rfl⟩
              rw [← hz] at e1 hAt hsc
              replace hz := Lib.hid hz
              have j0 : (0 : Int) ≤ (j : Int) := by omega
              have j1 : (j : Int) < (lo.length : Int) := by omega
              have x0 := hSr.out.x.cell (j := 0) rfl; have x1 := hSr.out.x.cell (j := 1) rfl; have x9 := hSr.out.x.lt
              clear hoc hA hob hoa hla
              by_cases hz0 : z < 0
              · have hneg : ¬ ((0 ≤ z ∧ z < s.ps.length) ∧ SJ F lo j z.toNat = false ∧ maj (VT s) (SJ F lo j) z.toNat = true) := fun h => by omega
                have hno : Hid (ordB (VT s) s.ps.length F lo = false) := hbad.out fun h => hneg (hAt.out.1 h)
                have hrr := Lib.hid (hre.out false (by rw [hno.out, Bool.false_and]))
                have m5 : decide (z < 0) = true := decide_eq_true hz0
                replace hneg := Lib.hid hneg; replace hz0 := Lib.hid hz0
                clear hgo hsc
                go_wp2
                go_ret2
                exact ⟨ret_bb hrr.out.1 hrr.out.2, hBr.out⟩
              · have m5 : decide (z < 0) = false := decide_eq_false hz0
                by_cases hzn : (s.ps.length : Int) ≤ z
                · have hneg : ¬ ((0 ≤ z ∧ z < s.ps.length) ∧ SJ F lo j z.toNat = false ∧ maj (VT s) (SJ F lo j) z.toNat = true) := fun h => by omega
                  have hno : Hid (ordB (VT s) s.ps.length F lo = false) := hbad.out fun h => hneg (hAt.out.1 h)
                  have hrr := Lib.hid (hre.out false (by rw [hno.out, Bool.false_and]))
                  have m6 : decide ((s.ps.length : Int) ≤ z) = true := decide_eq_true hzn
                  replace hneg := Lib.hid hneg; replace hz0 := Lib.hid hz0; replace hzn := Lib.hid hzn
                  clear hgo hsc
                  go_wp2
                  go_ret2
                  exact ⟨ret_bb hrr.out.1 hrr.out.2, hBr.out⟩
                · have m6 : decide ((s.ps.length : Int) ≤ z) = false := decide_eq_false hzn
                  obtain ⟨q, rfl⟩ : ∃ q : Nat, z = (q : Int) := ⟨z.toNat, by omega⟩
                  have hqn : q < s.ps.length := by omega
                  rw [Int.toNat_natCast] at hAt
                  have k2 := kfound.out j _ q hqn hSr.out; have k3 := kmaj.out j _ q hqn hWr.out hSr.out
                  cases hf : SJ F lo j q with
                  | true =>
                    rw [hf] at k2
                    have hneg : ¬ ((0 ≤ (q : Int) ∧ (q : Int) < s.ps.length) ∧ SJ F lo j q = false ∧ maj (VT s) (SJ F lo j) q = true) := fun h => by rw [hf] at h; cases h.2.1
                    have hno : Hid (ordB (VT s) s.ps.length F lo = false) := hbad.out fun h => hneg (hAt.out.1 h)
                    have hrr := Lib.hid (hre.out false (by rw [hno.out, Bool.false_and]))
                    replace hneg := Lib.hid hneg; replace hf := Lib.hid hf; replace k2 := Lib.hid k2
                    clear hgo hsc k3
                    go_wp2_with fail
                    refine k2.out.mono ?_
                    rintro e wq ⟨rfl, hq⟩
                    obtain rfl := hq.symm
                    go_wp2
                    go_ret2
                    exact ⟨ret_bb hrr.out.1 hrr.out.2, hBr.out⟩
                  | false =>
                    rw [hf] at k2
                    cases hm : maj (VT s) (SJ F lo j) q with
                    | false =>
                      rw [hm] at k3
                      have hneg : ¬ ((0 ≤ (q : Int) ∧ (q : Int) < s.ps.length) ∧ SJ F lo j q = false ∧ maj (VT s) (SJ F lo j) q = true) := fun h => by rw [hm] at h; cases h.2.2
                      have hno : Hid (ordB (VT s) s.ps.length F lo = false) := hbad.out fun h => hneg (hAt.out.1 h)
                      have hrr := Lib.hid (hre.out false (by rw [hno.out, Bool.false_and]))
                      replace hneg := Lib.hid hneg; replace hf := Lib.hid hf; replace hm := Lib.hid hm; replace k2 := Lib.hid k2; replace k3 := Lib.hid k3
                      clear hgo hsc
                      go_wp2_with fail
                      refine k2.out.mono ?_
                      rintro e wq ⟨rfl, hq⟩
                      obtain rfl := hq.symm
                      go_wp2_with fail
                      refine k3.out.mono ?_
                      rintro e w5 ⟨rfl, hb⟩
                      have hB5 := Lib.hid (hBr.out.trans (hb.mono hBr.out.size))
                      clear hb
                      go_wp2
                      go_ret2
                      exact ⟨ret_bb hrr.out.1 hrr.out.2, hB5.out⟩
                    | true =>
                      rw [hm] at k3
                      have hA9 := Lib.hid (hgo.out (hAt.out.2 ⟨⟨by omega, by omega⟩, hf, hm⟩))
                      have hsc9 := Lib.hid (hsc.out q rfl hf)
                      replace hf := Lib.hid hf; replace hm := Lib.hid hm; replace k2 := Lib.hid k2; replace k3 := Lib.hid k3
                      clear hgo hsc hbad hAt
                      go_wp2_with fail
                      refine k2.out.mono ?_
                      rintro e wq ⟨rfl, hq⟩
                      obtain rfl := hq.symm
                      go_wp2_with fail
                      refine k3.out.mono ?_
                      rintro e w5 ⟨rfl, hb⟩
                      have hS5 := Lib.hid (hSr.out.below hb); have hW5 := Lib.hid (hWr.out.trans (hb.mono hWr.out.size))
                      clear hb x0 x1 x9 e1
                      have x1 := hS5.out.x.cell (j := 1) rfl; have x9 := hS5.out.x.lt; have r0 := hS5.out.r.cell q hqn; have r1 := hS5.out.r.fr q; have r9 := hS5.out.r.lt
                      have q0 : (0 : Int) ≤ (q : Int) := (by omega); have q1 : (q : Int) < (s.ps.length : Int) := by omega
                      have hS9 : Hid (SeIn (w5.setCell ⟨b, q, none⟩ (.int .i64 1)) xb R b B s.ps.length v (row s.vot) (oJ F lo (j + 1))) := (hS5.out.set hqn 1).congr fun x _ => hsc9.out x
                      have hW9 : Hid (Below W1.heap.size W1 (w5.setCell ⟨b, q, none⟩ (.int .i64 1))) := hW5.out.setCell (p := ⟨b, q, none⟩) hbb.out _
                      go_wp2
                      exact ⟨⟨j + 1, by omega, by go_num, hW9, hS9, hA9⟩, by simp only [intOf]; omega⟩
            · obtain rfl : j = lo.length := by omega
              have hyes : Hid (ordB (VT s) s.ps.length F lo = true) := hoa.out fun i hi => hA.out i hi hi
              have hTr : Hid (Bk wr pb 56 [.slice Ao lo.length co, .slice Al lc.length cl]) := hT1.out.below hWr.out
              have t0 := hTr.out.cell (j := 0) rfl; have t1 := hTr.out.cell (j := 1) rfl; have t9 := hTr.out.lt
              clear hA hoa hob
              by_cases hl : lc.length = 0
              · have m5 : ((lc.length : Int) == 0) = true := by rw [beq_iff_eq]; omega
                have m6 : (lc.length == 0) = true := by rw [beq_iff_eq]; exact hl
                have hrr0 := hre.out _ (show (decide (lo[lo.length - 1]'(by omega) = (p : Int))) = _ by rw [hyes.out, Bool.true_and, decide_eq_true hl, Bool.true_and, hla.out])
                replace hl := Lib.hid hl
                obtain ⟨ob, oo, rfl, hol2, hoc⟩ := (hlo1.out.below hWr.out) hl1
                have e1 := hoc (lo.length - 1) (by omega)
                obtain ⟨z, hz⟩ : ∃ z, z = lo[lo.length - 1]'(by omega) := ⟨_, rfl⟩
                rw [← hz] at e1 hrr0
                replace hz := Lib.hid hz
                have j1 : IntKind.i64.wrap ((lo.length : Int) - 1) = (lo.length : Int) - 1 := IntWalk.i64_in _ (by omega)
                have j2 : (0 : Int) ≤ (lo.length : Int) - 1 := by omega
                have j3 : (lo.length : Int) - 1 < (lo.length : Int) := by omega
                have j4 : ((lo.length : Int) - 1).toNat = lo.length - 1 := by omega
                have hzp : decide (z = (p : Int)) = (z == (p : Int)) := by rw [Bool.eq_iff_iff, decide_eq_true_iff, beq_iff_eq]
                rw [hzp] at hrr0
                have hrr := Lib.hid hrr0
                clear hoc hla hrr0 hzp
                go_wp2
                go_ret2
                exact ⟨ret_bb hrr.out.1 hrr.out.2, hBr.out⟩
              · have m5 : ((lc.length : Int) == 0) = false := by rw [beq_eq_false_iff_ne]; omega
                have m6 : (lc.length == 0) = false := by rw [beq_eq_false_iff_ne]; exact hl
                have hrr := Lib.hid (hre.out false (by simp [hl]))
                replace hl := Lib.hid hl
                clear hla
                go_wp2
                go_ret2
                exact ⟨ret_bb hrr.out.1 hrr.out.2, hBr.out⟩
    · have hch : chk s F party lo lc = (false, false) := by unfold chk; rw [if_neg fun h => hpa ⟨h.2.2.1, h.2.2.2⟩]
      have hrr : Hid (false = r1 ∧ false = r2) := by rw [hr1, hr2, hch]; exact ⟨rfl, rfl⟩
      replace hgd := Lib.hid hgd; clear hch hr1 hr2
      by_cases hp0 : party < 0
      · have m1 : decide (party < 0) = true := decide_eq_true hp0
        replace hpa := Lib.hid hpa; replace hp0 := Lib.hid hp0
        go_enter Tryz.func32, Tryz.ntmps32
        go_wp2_with fail
        (try rw [← hW1])
        (try rw [← hpb])
        replace hW1 := Lib.hid hW1; replace hpb := Lib.hid hpb
        refine kb2.out.mono ?_
        rintro e w3 ⟨⟨xb, b, rfl, R, B, v, hBB, hxx, hS3⟩, hb⟩
        have hB3 := Lib.hid (hB1.out.trans (hb.mono hB1.out.size))
        have x1 := hS3.x.cell (j := 1) rfl; have x9 := hS3.x.lt
        clear hb hS3 hBB hxx u0 u1 u2 u9 kb2 hX1
        go_wp2
        go_ret2
        exact ⟨ret_bb hrr.out.1 hrr.out.2, hB3.out⟩
      · have m1 : decide (party < 0) = false := decide_eq_false hp0
        have m2 : decide ((s.ps.length : Int) ≤ party) = true := decide_eq_true (by omega)
        replace hpa := Lib.hid hpa; replace hp0 := Lib.hid hp0
        go_enter Tryz.func32, Tryz.ntmps32
        go_wp2_with fail
        (try rw [← hW1])
        (try rw [← hpb])
        replace hW1 := Lib.hid hW1; replace hpb := Lib.hid hpb
        refine kb2.out.mono ?_
        rintro e w3 ⟨⟨xb, b, rfl, R, B, v, hBB, hxx, hS3⟩, hb⟩
        have hB3 := Lib.hid (hB1.out.trans (hb.mono hB1.out.size))
        have x1 := hS3.x.cell (j := 1) rfl; have x9 := hS3.x.lt
        clear hb hS3 hBB hxx u0 u1 u2 u9 kb2 hX1
        go_wp2
        go_ret2
        exact ⟨ret_bb hrr.out.1 hrr.out.2, hB3.out⟩
  · have kb2 : Hid (Calls Tryz.prog 71 #[.agg #[.slice Ap s.ps.length cp, .slice Ac s.cap.length cc, .slice Av s.vot.length cv], .slice Af F.length cf] W1 fun e w' => e = .returned (.tuple #[.pointer none, .int .i64 1]) ∧ Below W1.heap.size W1 w') := kb.mono fun e w' h => ⟨by have h1 := h.1; rw [if_neg hgd] at h1; exact h1, h.2⟩
    have hch : chk s F party lo lc = (false, false) := by unfold chk; rw [if_neg fun h => hgd ⟨h.1, h.2.1⟩]
    have hrr : Hid (false = r1 ∧ false = r2) := by rw [hr1, hr2, hch]; exact ⟨rfl, rfl⟩
    replace hgd := Lib.hid hgd; clear hch hr1 hr2 kb
    go_enter Tryz.func32, Tryz.ntmps32
    go_wp2_with fail
    (try rw [← hW1])
    (try rw [← hpb])
    replace hW1 := Lib.hid hW1; replace hpb := Lib.hid hpb
    refine kb2.out.mono ?_
    rintro e w3 ⟨rfl, hb⟩
    have hB3 := Lib.hid (hB1.out.trans (hb.mono hB1.out.size))
    clear hb u0 u1 u2 u9 kb2 hX1
    go_wp2
    go_ret2
    exact ⟨ret_bb hrr.out.1 hrr.out.2, hB3.out⟩
end Co
end Go.Proofs.YtpmlhgmmobpilaaGreatDoor

namespace Go.Proofs.YtpmlhgmmobpilaaGreatDoor
open Go.RowKit Go.Shelf
namespace Co
open Nt Ci
/-- A call that says yes or no; yes only where p holds. -/
def BoolPost (p : Bool → Prop) (w : World) (e : Ending) (w' : World) : Prop := (∃ r, e = .returned (.bool r) ∧ p r) ∧ Below w.heap.size w w'
theorem BoolPost.mkB {p : Bool → Prop} {w : World} {e : Ending} {w' : World} {r : Bool} (h1 : e = .returned (.bool r)) (h2 : p r) (h3 : Below w.heap.size w w') : BoolPost p w e w' := ⟨⟨r, h1, h2⟩, h3⟩
set_option maxRecDepth 100000 in
theorem Short_some (g : Bool) (n d : ByteArray) (b : Nat) (w : World) (hb : Bk w b 23 [.bool g, .string n, .string d]) :
    Calls Tryz.prog 115 #[.int .i64 30, .slice (some ⟨b, 0, none⟩) 1 1] w (BoolPost (fun _ => True) w) := by
  have c1 := hb.cell (j := 1) rfl
  have c2 := hb.cell (j := 2) rfl
  have c9 := hb.lt
  replace hb := Lib.hid hb
  go_enter Tryz.func115, Tryz.ntmps115
  go_wp2
  go_loopw [5] (fun ix wr => ∃ (i : Nat), i ≤ 1 ∧ ix = .int .i64 (i : Int) ∧ wr = w) (fun ix _ => 1 - (intOf ix).toNat)
  case atStart => exact ⟨0, by omega, rfl, rfl⟩
  case round =>
    obtain ⟨i, hi, rfl, rfl⟩ := hrel
    by_cases hlt : i < 1
    · obtain rfl : i = 0 := by omega
      by_cases h1 : (30 : Int) < (n.size : Int)
      · have m1 : decide ((30 : Int) < (n.size : Int)) = true := decide_eq_true h1
        have m1n : decide (30 < n.size) = true := decide_eq_true (by omega)
        replace h1 := Lib.hid h1
        go_wp2
        go_ret
        exact BoolPost.mkB (r := false) rfl trivial (Below.refl _ _)
      · have m1 : decide ((30 : Int) < (n.size : Int)) = false := decide_eq_false h1
        have m1n : decide (30 < n.size) = false := decide_eq_false (by omega)
        replace h1 := Lib.hid h1
        by_cases h2 : (30 : Int) < (d.size : Int)
        · have m2 : decide ((30 : Int) < (d.size : Int)) = true := decide_eq_true h2
          have m2n : decide (30 < d.size) = true := decide_eq_true (by omega)
          replace h2 := Lib.hid h2
          go_wp2
          go_ret
          exact BoolPost.mkB (r := false) rfl trivial (Below.refl _ _)
        · have m2 : decide ((30 : Int) < (d.size : Int)) = false := decide_eq_false h2
          have m2n : decide (30 < d.size) = false := decide_eq_false (by omega)
          replace h2 := Lib.hid h2
          go_wp2
          exact ⟨⟨1, by omega, by go_num, by first | rfl | trivial⟩, by simp only [intOf]; omega⟩
    · obtain rfl : i = 1 := by omega
      go_wp2
      go_ret
      exact BoolPost.mkB (r := true) rfl trivial (Below.refl _ _)
set_option maxRecDepth 100000 in
set_option maxHeartbeats 4000000 in
theorem Small_some (s : SR) (Ap Ac Av : Option Addr) (cp cc cv : Nat) (w : World) (hs : StIn w s Ap Ac Av) :
    Calls Tryz.prog 70 #[.agg #[.slice Ap s.ps.length cp, .slice Ac s.cap.length cc, .slice Av s.vot.length cv], .int .i64 60] w (BoolPost (fun r => r = true → s.ps.length ≤ 60 ∧ s.cap.length ≤ 30 ∧ s.vot.length ≤ 30) w) := by
  have hX1 : Hid (Bk (w.alloc (.cells #[.slice Ap s.ps.length cp, .slice Ac s.cap.length cc, .slice Av s.vot.length cv] 54)) w.heap.size 54 (SC s Ap Ac Av cp cc cv)) := Bk.new w _ _
  have hB1 : Hid (Below w.heap.size w (w.alloc (.cells #[.slice Ap s.ps.length cp, .slice Ac s.cap.length cc, .slice Av s.vot.length cv] 54))) := (Below.refl _ w).alloc (Nat.le_refl _) _
  have ksh := Lib.hid (fun g n d b w h => Short_some g n d b w h)
  replace hs := Lib.hid hs
  have u0 := hX1.out.cell (j := 0) rfl; have u1 := hX1.out.cell (j := 1) rfl; have u2 := hX1.out.cell (j := 2) rfl; have u9 := hX1.out.lt
  by_cases z0 : (60 : Int) < (s.ps.length : Int)
  · have m0 : decide ((60 : Int) < (s.ps.length : Int)) = true := decide_eq_true z0
    have m0n : decide (60 < s.ps.length) = true := decide_eq_true (by omega)
    replace z0 := Lib.hid z0
    go_enter Tryz.func70, Tryz.ntmps70
    go_wp2
    go_ret
    exact BoolPost.mkB (r := false) rfl (fun h => (by cases h)) hB1.out
  · have m0 : decide ((60 : Int) < (s.ps.length : Int)) = false := decide_eq_false z0
    have m0n : decide (60 < s.ps.length) = false := decide_eq_false (by omega)
    by_cases z1 : (30 : Int) < (s.cap.length : Int)
    · have m1 : decide ((30 : Int) < (s.cap.length : Int)) = true := decide_eq_true z1
      have m1n : decide (30 < s.cap.length) = true := decide_eq_true (by omega)
      replace z1 := Lib.hid z1
      go_enter Tryz.func70, Tryz.ntmps70
      go_wp2
      go_ret
      exact BoolPost.mkB (r := false) rfl (fun h => (by cases h)) hB1.out
    · have m1 : decide ((30 : Int) < (s.cap.length : Int)) = false := decide_eq_false z1
      have m1n : decide (30 < s.cap.length) = false := decide_eq_false (by omega)
      by_cases z2 : (30 : Int) < (s.vot.length : Int)
      · have m2 : decide ((30 : Int) < (s.vot.length : Int)) = true := decide_eq_true z2
        have m2n : decide (30 < s.vot.length) = true := decide_eq_true (by omega)
        replace z2 := Lib.hid z2
        go_enter Tryz.func70, Tryz.ntmps70
        go_wp2
        go_ret
        exact BoolPost.mkB (r := false) rfl (fun h => (by cases h)) hB1.out
      · have m2 : decide ((30 : Int) < (s.vot.length : Int)) = false := decide_eq_false z2
        have m2n : decide (30 < s.vot.length) = false := decide_eq_false (by omega)
        have hok : Hid (s.ps.length ≤ 60 ∧ s.cap.length ≤ 30 ∧ s.vot.length ≤ 30) := ⟨by omega, by omega, by omega⟩
        obtain ⟨y0, y1, y2⟩ := hok.out
        replace z0 := Lib.hid z0; replace z1 := Lib.hid z1; replace z2 := Lib.hid z2
        go_enter Tryz.func70, Tryz.ntmps70
        go_wp2
        clear u0 u1 u2 u9
        go_loopw [5] (fun ix wr => ∃ (i : Nat), i ≤ s.ps.length ∧ ix = .int .i64 (i : Int) ∧ Hid (Below w.heap.size w wr) ∧ Hid (Bk wr w.heap.size 54 (SC s Ap Ac Av cp cc cv))) (fun ix _ => s.ps.length - (intOf ix).toNat)
        case atStart => exact ⟨0, Nat.zero_le _, rfl, hB1, hX1⟩
        case round =>
          obtain ⟨i, hi, rfl, hB, hX⟩ := hrel
          obtain ⟨wz, rfl⟩ : ∃ z, z = wr := ⟨_, rfl⟩
          have u0 := hX.out.cell (j := 0) rfl; have u1 := hX.out.cell (j := 1) rfl; have u2 := hX.out.cell (j := 2) rfl; have u9 := hX.out.lt
          have j0 : (0 : Int) ≤ (i : Int) := by omega
          by_cases hlt : i < s.ps.length
          · have j1 : (i : Int) < (s.ps.length : Int) := by omega
            obtain ⟨b, o, rfl, hbl, hc⟩ := (hs.out.below hB.out).ps (by omega)
            have e1 := hc i hlt
            generalize s.ps[i] = x at e1
            clear hc
            by_cases h1 : (60 : Int) < (x.size : Int)
            · have q1 : decide ((60 : Int) < (x.size : Int)) = true := decide_eq_true h1
              have q1n : decide (60 < x.size) = true := decide_eq_true (by omega)
              replace h1 := Lib.hid h1
              go_wp2
              go_ret
              exact BoolPost.mkB (r := false) rfl (fun h => (by cases h)) hB.out
            · have q1 : decide ((60 : Int) < (x.size : Int)) = false := decide_eq_false h1
              have q1n : decide (60 < x.size) = false := decide_eq_false (by omega)
              replace h1 := Lib.hid h1
              go_wp2
              go_roundw
              case rel => exact ⟨i + 1, by omega, by go_num, hB, hX⟩
              case measure => simp [intOf]; omega
          · obtain rfl : i = s.ps.length := by omega
            go_wp2
            clear u0 u1 u2 u9
            go_loopw [6] (fun ix wr => ∃ (i : Nat), i ≤ s.cap.length ∧ ix = .int .i64 (i : Int) ∧ Hid (Below w.heap.size w wr) ∧ Hid (Bk wr w.heap.size 54 (SC s Ap Ac Av cp cc cv))) (fun ix _ => s.cap.length - (intOf ix).toNat)
            case atStart => exact ⟨0, Nat.zero_le _, rfl, hB, hX⟩
            case round =>
              obtain ⟨i, hi, rfl, hB, hX⟩ := hrel
              obtain ⟨wz, rfl⟩ : ∃ z, z = wr := ⟨_, rfl⟩
              have u0 := hX.out.cell (j := 0) rfl; have u1 := hX.out.cell (j := 1) rfl; have u2 := hX.out.cell (j := 2) rfl; have u9 := hX.out.lt
              have j0 : (0 : Int) ≤ (i : Int) := by omega
              by_cases hlt : i < s.cap.length
              · have j1 : (i : Int) < (s.cap.length : Int) := by omega
                obtain ⟨b, o, rfl, hbl, hc⟩ := (hs.out.below hB.out).cap (by omega)
                obtain ⟨_, _, e3, e4, e5⟩ := hc i hlt
                generalize s.cap[i] = x at e3 e4 e5
                obtain ⟨co, ho, gg, nn, dd⟩ := x
                clear hc
                replace e3 : wz.cell? ⟨b, o + i * 5 + 2, none⟩ = some (.bool gg) := e3
                replace e4 : wz.cell? ⟨b, o + i * 5 + 3, none⟩ = some (.string nn) := e4
                replace e5 : wz.cell? ⟨b, o + i * 5 + 4, none⟩ = some (.string dd) := e5
                have ks := Lib.hid (ksh.out gg nn dd wz.heap.size _ (Bk.new wz 23 [.bool gg, .string nn, .string dd]))
                have hb4 : Hid (Below wz.heap.size wz (wz.alloc (.cells #[.bool gg, .string nn, .string dd] 23))) := (Below.refl _ _).alloc (Nat.le_refl _) _
                go_wp2_with fail
                refine ks.out.mono ?_
                rintro e w5 ⟨⟨r, rfl, _⟩, hb⟩
                have hB5 := Lib.hid (hB.out.trans ((hb4.out.trans (hb.mono hb4.out.size)).mono hB.out.size)); have hX5 := Lib.hid (hX.out.below (hb4.out.trans (hb.mono hb4.out.size)))
                clear hb e3 e4 e5 u0 u1 u2 u9
                cases r with
                | false =>
                  go_wp2
                  go_ret
                  exact BoolPost.mkB (r := false) rfl (fun h => (by cases h)) hB5.out
                | true =>
                  go_wp2
                  go_roundw
                  case rel => exact ⟨i + 1, by omega, by go_num, hB5, hX5⟩
                  case measure => simp [intOf]; omega
              · obtain rfl : i = s.cap.length := by omega
                go_wp2
                clear u0 u1 u2 u9
                go_loopw [7] (fun ix wr => ∃ (i : Nat), i ≤ s.vot.length ∧ ix = .int .i64 (i : Int) ∧ Hid (Below w.heap.size w wr) ∧ Hid (Bk wr w.heap.size 54 (SC s Ap Ac Av cp cc cv))) (fun ix _ => s.vot.length - (intOf ix).toNat)
                case atStart => exact ⟨0, Nat.zero_le _, rfl, hB, hX⟩
                case round =>
                  obtain ⟨i, hi, rfl, hB, hX⟩ := hrel
                  obtain ⟨wz, rfl⟩ : ∃ z, z = wr := ⟨_, rfl⟩
                  have u0 := hX.out.cell (j := 0) rfl; have u1 := hX.out.cell (j := 1) rfl; have u2 := hX.out.cell (j := 2) rfl; have u9 := hX.out.lt
                  have j0 : (0 : Int) ≤ (i : Int) := by omega
                  by_cases hlt : i < s.vot.length
                  · have j1 : (i : Int) < (s.vot.length : Int) := by omega
                    obtain ⟨b, o, rfl, hbl, hc⟩ := (hs.out.below hB.out).vot (by omega)
                    obtain ⟨_, _, e3, e4, e5⟩ := hc i hlt
                    generalize s.vot[i] = x at e3 e4 e5
                    obtain ⟨co, ho, gg, nn, dd⟩ := x
                    clear hc
                    replace e3 : wz.cell? ⟨b, o + i * 5 + 2, none⟩ = some (.bool gg) := e3
                    replace e4 : wz.cell? ⟨b, o + i * 5 + 3, none⟩ = some (.string nn) := e4
                    replace e5 : wz.cell? ⟨b, o + i * 5 + 4, none⟩ = some (.string dd) := e5
                    have ks := Lib.hid (ksh.out gg nn dd wz.heap.size _ (Bk.new wz 23 [.bool gg, .string nn, .string dd]))
                    have hb4 : Hid (Below wz.heap.size wz (wz.alloc (.cells #[.bool gg, .string nn, .string dd] 23))) := (Below.refl _ _).alloc (Nat.le_refl _) _
                    go_wp2_with fail
                    refine ks.out.mono ?_
                    rintro e w5 ⟨⟨r, rfl, _⟩, hb⟩
                    have hB5 := Lib.hid (hB.out.trans ((hb4.out.trans (hb.mono hb4.out.size)).mono hB.out.size)); have hX5 := Lib.hid (hX.out.below (hb4.out.trans (hb.mono hb4.out.size)))
                    clear hb e3 e4 e5 u0 u1 u2 u9
                    cases r with
                    | false =>
                      go_wp2
                      go_ret
                      exact BoolPost.mkB (r := false) rfl (fun h => (by cases h)) hB5.out
                    | true =>
                      go_wp2
                      go_roundw
                      case rel => exact ⟨i + 1, by omega, by go_num, hB5, hX5⟩
                      case measure => simp [intOf]; omega
                  · obtain rfl : i = s.vot.length := by omega
                    go_wp2
                    go_ret
                    exact BoolPost.mkB (r := true) rfl (fun _ => hok.out) hB.out
/-- A slice of slices of ints, as the call few(..) lays it. -/
def InLens (w : World) (b : Nat) (ls : List Nat) : Prop := b < w.heap.size ∧ ∀ j (h : j < ls.length), ∃ A c, w.cell? ⟨b, j, none⟩ = some (.slice A ls[j] c)
set_option maxRecDepth 100000 in
set_option maxHeartbeats 4000000 in
theorem few_some (s : SR) (Ap Ac Av : Option Addr) (cp cc cv b : Nat) (ls : List Nat) (w : World) (hs : StIn w s Ap Ac Av) (hl : InLens w b ls) (hls : ls.length ≤ 10) :
    Calls Tryz.prog 27 #[.agg #[.slice Ap s.ps.length cp, .slice Ac s.cap.length cc, .slice Av s.vot.length cv], .slice (some ⟨b, 0, none⟩) ls.length ls.length] w (BoolPost (fun r => r = true → (s.ps.length ≤ 60 ∧ s.cap.length ≤ 30 ∧ s.vot.length ≤ 30) ∧ ∀ x, x ∈ ls → x ≤ 70) w) := by
  have hX1 : Hid (Bk (w.alloc (.cells #[.slice Ap s.ps.length cp, .slice Ac s.cap.length cc, .slice Av s.vot.length cv] 54)) w.heap.size 54 (SC s Ap Ac Av cp cc cv)) := Bk.new w _ _
  have hB1 : Hid (Below w.heap.size w (w.alloc (.cells #[.slice Ap s.ps.length cp, .slice Ac s.cap.length cc, .slice Av s.vot.length cv] 54))) := (Below.refl _ w).alloc (Nat.le_refl _) _
  replace hs := Lib.hid hs; replace hl := Lib.hid hl
  go_enter Tryz.func27, Tryz.ntmps27
  go_wp2
  go_loopw [5] (fun ix wr => ∃ (i : Nat), i ≤ ls.length ∧ ix = .int .i64 (i : Int) ∧ wr = (w.alloc (.cells #[.slice Ap s.ps.length cp, .slice Ac s.cap.length cc, .slice Av s.vot.length cv] 54)) ∧ Hid (∀ j (h : j < ls.length), j < i → ls[j] ≤ 70)) (fun ix _ => ls.length - (intOf ix).toNat)
  case atStart => exact ⟨0, Nat.zero_le _, rfl, rfl, fun j _ h => absurd h (Nat.not_lt_zero _)⟩
  case round =>
    obtain ⟨i, hi, rfl, rfl, hN⟩ := hrel
    have j0 : (0 : Int) ≤ (i : Int) := by omega
    by_cases hlt : i < ls.length
    · have j1 : (i : Int) < (ls.length : Int) := by omega
      obtain ⟨hbl, hc⟩ := hl.out
      obtain ⟨A, c, e1⟩ := hc i hlt
      have hn : Hid (ls[i] ≤ 70 → ∀ j (h : j < ls.length), j < i + 1 → ls[j] ≤ 70) := fun h j hj h2 => by
        by_cases c : j = i
        · subst c; exact h
        · exact hN.out j hj (by omega)
      generalize ls[i] = x at e1 hn
      clear hc hN
      by_cases h1 : (70 : Int) < (x : Int)
      · have q1 : decide ((70 : Int) < (x : Int)) = true := decide_eq_true h1
        have q1n : decide (70 < x) = true := decide_eq_true (by omega)
        replace h1 := Lib.hid h1
        go_wp2
        go_ret
        exact BoolPost.mkB (r := false) rfl (fun h => (by cases h)) hB1.out
      · have q1 : decide ((70 : Int) < (x : Int)) = false := decide_eq_false h1
        have q1n : decide (70 < x) = false := decide_eq_false (by omega)
        have hn2 := Lib.hid (hn.out (by omega))
        replace h1 := Lib.hid h1; clear hn
        go_wp2
        go_roundw
        case rel => exact ⟨i + 1, by omega, by go_num, by first | rfl | trivial, hn2⟩
        case measure => simp [intOf]; omega
    · obtain rfl : i = ls.length := by omega
      have ks := Lib.hid (Small_some s Ap Ac Av cp cc cv _ (hs.out.below hB1.out))
      have u0 := hX1.out.cell (j := 0) rfl; have u1 := hX1.out.cell (j := 1) rfl; have u2 := hX1.out.cell (j := 2) rfl; have u9 := hX1.out.lt
      go_wp2_with fail
      refine ks.out.mono ?_
      rintro e w5 ⟨⟨r, rfl, hr⟩, hb⟩
      have hB5 := Lib.hid (hB1.out.trans (hb.mono hB1.out.size))
      replace hr := Lib.hid hr
      clear hb
      go_wp2
      go_ret
      exact BoolPost.mkB (r := r) rfl (fun h => ⟨hr.out h, fun x hx => by obtain ⟨j, hj, rfl⟩ := List.getElem_of_mem hx; exact hN.out j hj hj⟩) hB5.out
end Co
end Go.Proofs.YtpmlhgmmobpilaaGreatDoor
namespace Go.Proofs.YtpmlhgmmobpilaaGreatDoor
open Go.RowKit Go.Shelf
namespace Co
open Nt Ci
theorem ord_unique {o : Nat → Int} {n p : Nat} {l l' : List Nat} (h : OrdIs o n p l) (h' : OrdIs o n p l') : l = l' := by
  have nd : ∀ {l : List Nat}, l.Pairwise (lexo o) → l.Nodup := fun h => h.imp fun hab e => by rw [e] at hab; unfold lexo at hab; omega
  have hp : l.Perm l' := (List.perm_ext_iff_of_nodup (nd h.1) (nd h'.1)).2 fun x => (h.2 x).trans (h'.2 x).symm
  exact hp.eq_of_pairwise (fun a b _ _ h1 h2 => absurd h2 fun h2 => lexo_asymm h1 h2) h.1 h'.1
section
variable {n : Nat}
end
def sC : SR := ⟨[⟨#[97]⟩, ⟨#[98]⟩, ⟨#[99]⟩, ⟨#[100]⟩], [], [(1, 0, false, ⟨#[51]⟩, ⟨#[53]⟩), (2, 0, false, ⟨#[51]⟩, ⟨#[49, 48]⟩), (2, 1, false, ⟨#[51]⟩, ⟨#[49, 48]⟩), (3, 2, false, ⟨#[49]⟩, ⟨#[50]⟩)]⟩
theorem sound_C : soundB sC = true := by kernel_rfl
theorem VT_C : VT sC = [(1, 0, 3600), (2, 0, 1800), (2, 1, 1800), (3, 2, 3000)] := by kernel_rfl
theorem toN_C : toN [0] = [0] := rfl
theorem listC : listB 4 [0] = true := by kernel_rfl
noncomputable abbrev oC : Nat → Int := rd (VT sC) (toN [0])
theorem oC_val : oC 0 = 0 ∧ oC 1 = 1 ∧ oC 2 = 2 ∧ oC 3 = -1 := by
  unfold oC
  rw [VT_C, toN_C]
  refine ⟨rd_one (.inr ⟨0, rfl, by decide, fun j h => absurd h (Nat.not_lt_zero _)⟩), rd_one (.inr ⟨1, rfl, by decide, fun j h => ?_⟩), rd_one (.inr ⟨2, rfl, by decide, fun j h => ?_⟩), rd_one (.inl ⟨rfl, fun k => ?_⟩)⟩
  · obtain rfl : j = 0 := by omega
    decide
  · have : j = 0 ∨ j = 1 := by omega
    rcases this with rfl | rfl <;> decide
  · cases hc : inR [(1, 0, 3600), (2, 0, 1800), (2, 1, 1800), (3, 2, 3000)] [0] k 3
    · rfl
    · have h := inR_least (n := 4) (S := fun q => decide (q < 3)) (V := [(1, 0, 3600), (2, 0, 1800), (2, 1, 1800), (3, 2, 3000)]) (F := [0]) (by unfold VIn; decide) (by decide) (by decide) k 3 (by decide) hc
      simp at h
theorem oC_list : (List.range 4).map oC = [0, 1, 2, -1] := by
  obtain ⟨h0, h1, h2, h3⟩ := oC_val
  show [oC 0, oC 1, oC 2, oC 3] = _
  rw [h0, h1, h2, h3]
theorem ord_C : OrdIs oC 4 2 [1, 2] := by
  obtain ⟨h0, h1, h2, h3⟩ := oC_val
  refine ⟨?_, fun x => ?_⟩
  · rw [List.pairwise_cons]
    refine ⟨fun y hy => ?_, List.pairwise_singleton ..⟩
    obtain rfl : y = 2 := by simpa using hy
    exact .inl (by rw [h1, h2]; decide)
  · constructor
    · intro hx
      have : x = 1 ∨ x = 2 := by simpa using hx
      rcases this with rfl | rfl
      · exact ⟨by decide, by rw [h1]; decide, .inr (.inl (by rw [h1, h2]; decide))⟩
      · exact ⟨by decide, by rw [h2]; decide, .inl rfl⟩
    · rintro ⟨a, b, _⟩
      have : x = 0 ∨ x = 1 ∨ x = 2 ∨ x = 3 := by omega
      rcases this with rfl | rfl | rfl | rfl
      · rw [h0] at b; omega
      · simp
      · simp
      · rw [h3] at b; omega
theorem cl_C : clL oC 4 = [0, 1, 2] := by
  obtain ⟨h0, h1, h2, h3⟩ := oC_val
  unfold clL
  show ([0, 1, 2, 3] : List Nat).filter (fun x => decide (0 ≤ oC x)) = _
  simp only [List.filter_cons, h0, h1, h2, h3, List.filter_nil]
  decide
theorem chk_yes : chk sC [0] 2 [1, 2] [] = (true, true) := by kernel_rfl
theorem chk_no : chk sC [0] 3 [] [0, 1, 2] = (false, true) := by kernel_rfl
theorem chk_bad : chk sC [0] 2 [2] [] = (false, false) := by kernel_rfl
end Co
end Go.Proofs.YtpmlhgmmobpilaaGreatDoor
namespace Go.Proofs.YtpmlhgmmobpilaaGreatDoor
open Go.RowKit Go.Shelf
namespace Co
open Nt Ci
theorem blDrewN {B : Nat} {a w : World} (h : Below B a w) (n : Nat) : Below B a (w.drewN n) := ⟨h.os, h.tape, h.output, h.size, h.block⟩
theorem inStrB {W : World} {b : Nat} {l : List ByteArray} (h : Bk W b 9 (l.map .string)) : InStr W (some ⟨b, 0, none⟩) l := fun _ => ⟨b, 0, rfl, h.lt, fun j hj => by
  rw [Nat.zero_add]
  exact h.cell (by simp [hj])⟩
theorem inIntB {W : World} {b : Nat} {l : List Int} (h : Bk W b 3 (l.map (.int .i64))) : InInt W (some ⟨b, 0, none⟩) l := fun _ => ⟨b, 0, rfl, h.lt, fun j hj => by
  rw [Nat.zero_add]
  exact h.cell (by simp [hj])⟩
theorem inNil (W : World) (A : Option Addr) : InInt W A [] := fun h => absurd h (by simp)
theorem stIn_C {W : World} {nb lb : Nat} (h1 : Bk W nb 9 (sC.ps.map .string)) (h2 : Bk W lb 94 [.int .i64 1, .int .i64 0, .bool false, .string ⟨#[51]⟩, .string ⟨#[53]⟩, .int .i64 2, .int .i64 0, .bool false, .string ⟨#[51]⟩, .string ⟨#[49, 48]⟩, .int .i64 2, .int .i64 1, .bool false, .string ⟨#[51]⟩, .string ⟨#[49, 48]⟩, .int .i64 3, .int .i64 2, .bool false, .string ⟨#[49]⟩, .string ⟨#[50]⟩]) : StIn W sC (some ⟨nb, 0, none⟩) none (some ⟨lb, 0, none⟩) := by
  refine ⟨inStrB h1, fun h => absurd h (by decide), fun _ => ⟨lb, 0, rfl, h2.lt, fun j hj => ?_⟩, by decide, by decide, by decide, by decide, by decide, by decide, by decide, by decide⟩
  match j, hj with
  | 0, _ => exact ⟨h2.cell (j := 0) rfl, h2.cell (j := 1) rfl, h2.cell (j := 2) rfl, h2.cell (j := 3) rfl, h2.cell (j := 4) rfl⟩
  | 1, _ => exact ⟨h2.cell (j := 5) rfl, h2.cell (j := 6) rfl, h2.cell (j := 7) rfl, h2.cell (j := 8) rfl, h2.cell (j := 9) rfl⟩
  | 2, _ => exact ⟨h2.cell (j := 10) rfl, h2.cell (j := 11) rfl, h2.cell (j := 12) rfl, h2.cell (j := 13) rfl, h2.cell (j := 14) rfl⟩
  | 3, _ => exact ⟨h2.cell (j := 15) rfl, h2.cell (j := 16) rfl, h2.cell (j := 17) rfl, h2.cell (j := 18) rfl, h2.cell (j := 19) rfl⟩
  | j + 4, hj => exact absurd hj (by simp [sC])
theorem res_link {tb : Nat} {u0 u1 u2 u3 u4 : Value} {W : World} (hb : Bk W tb 94 [u0, u1, u2, u3, u4]) {tmps : Array Value} (h6 : tmps.getD 6 undef = .pointer (some ⟨tb, 0, none⟩)) :
    (results Tryz.f69 tmps).run Tryz.prog W = .ok (.agg #[u0, u1, u2, u3, u4]) W :=
  results_cell_row rfl tmps W tb 94 #[u0, u1, u2, u3, u4] (0, 0) _ h6 hb Tryz.underlying94 rfl (by kernel_rfl)
theorem tenth_6 : qv (ofQ 6 10) = .agg #[.bool false, .string ⟨#[51]⟩, .string ⟨#[53]⟩] := by kernel_rfl
theorem tenth_3 : qv (ofQ 3 10) = .agg #[.bool false, .string ⟨#[51]⟩, .string ⟨#[49, 48]⟩] := by kernel_rfl
theorem tenth_5 : qv (ofQ 5 10) = .agg #[.bool false, .string ⟨#[49]⟩, .string ⟨#[50]⟩] := by kernel_rfl
set_option maxRecDepth 100000 in
theorem link_any (c h t : Int) (g : Bool) (n d : ByteArray) (ht0 : 0 ≤ t) (ht1 : t ≤ 10) (hq : qv (ofQ t 10) = .agg #[.bool g, .string n, .string d]) (w : World) (hE : Env w) :
    Calls Tryz.prog 69 #[.int .i64 c, .int .i64 h, .int .i64 t] w fun e w' => e = .returned (.agg #[.int .i64 c, .int .i64 h, .bool g, .string n, .string d]) ∧ Below w.heap.size w w' := by
  have hB1 : Hid (Below w.heap.size w (w.alloc (.cells #[.int .i64 0, .int .i64 0, .bool false, .string ⟨#[]⟩, .string ⟨#[]⟩] 94))) := (Below.refl _ w).alloc (Nat.le_refl _) _
  have hX1 : Hid (Bk (w.alloc (.cells #[.int .i64 0, .int .i64 0, .bool false, .string ⟨#[]⟩, .string ⟨#[]⟩] 94)) w.heap.size 94 [.int .i64 0, .int .i64 0, .bool false, .string ⟨#[]⟩, .string ⟨#[]⟩]) := Bk.new w _ _
  have ko := RatOf_any t 10 (by omega) (by omega) (by omega) (by omega) (by decide) _ (hE.below hB1.out)
  rw [hq] at ko
  replace ko := Lib.hid ko
  clear hq
  go_enter Tryz.func69, Tryz.ntmps69
  go_wp2_with fail
  refine ko.out.mono ?_
  rintro e w2 ⟨rfl, hb⟩
  have hB2 := Lib.hid (hB1.out.trans (hb.mono hB1.out.size))
  have hX2 := Lib.hid (hX1.out.below hb)
  clear hb ko hB1 hX1
  have hB3 : Hid (Below w.heap.size w (w2.alloc (.cells #[.bool g, .string n, .string d] 23))) := hB2.out.alloc hB2.out.size _
  have hX3 := Lib.hid (hX2.out.alloc (.cells #[.bool g, .string n, .string d] 23))
  have hR3 : Hid (Bk (w2.alloc (.cells #[.bool g, .string n, .string d] 23)) w2.heap.size 23 [.bool g, .string n, .string d]) := Bk.new w2 _ _
  have r0 := hR3.out.cell (j := 0) rfl
  have r1 := hR3.out.cell (j := 1) rfl
  have r2 := hR3.out.cell (j := 2) rfl
  have r9 := hR3.out.lt
  have x0 := hX3.out.cell (j := 0) rfl
  have x1 := hX3.out.cell (j := 1) rfl
  have x2 := hX3.out.cell (j := 2) rfl
  have x3 := hX3.out.cell (j := 3) rfl
  have x4 := hX3.out.cell (j := 4) rfl
  have f0 := hX3.out.frozen 0
  have f1 := hX3.out.frozen 1
  have f2 := hX3.out.frozen 2
  have f3 := hX3.out.frozen 3
  have f4 := hX3.out.frozen 4
  have x9 := hX3.out.lt
  have hB9 : Hid (Below w.heap.size w ((((((w2.alloc (.cells #[.bool g, .string n, .string d] 23)).setCell ⟨w.heap.size, 0, none⟩ (.int .i64 c)).setCell ⟨w.heap.size, 1, none⟩ (.int .i64 h)).setCell ⟨w.heap.size, 2, none⟩ (.bool g)).setCell ⟨w.heap.size, 3, none⟩ (.string n)).setCell ⟨w.heap.size, 4, none⟩ (.string d))) :=
    ((((hB3.out.setCell (p := ⟨w.heap.size, 0, none⟩) (Nat.le_refl _) _).setCell (p := ⟨w.heap.size, 1, none⟩) (Nat.le_refl _) _).setCell (p := ⟨w.heap.size, 2, none⟩) (Nat.le_refl _) _).setCell (p := ⟨w.heap.size, 3, none⟩) (Nat.le_refl _) _).setCell (p := ⟨w.heap.size, 4, none⟩) (Nat.le_refl _) _
  have hX9 : Hid (Bk ((((((w2.alloc (.cells #[.bool g, .string n, .string d] 23)).setCell ⟨w.heap.size, 0, none⟩ (.int .i64 c)).setCell ⟨w.heap.size, 1, none⟩ (.int .i64 h)).setCell ⟨w.heap.size, 2, none⟩ (.bool g)).setCell ⟨w.heap.size, 3, none⟩ (.string n)).setCell ⟨w.heap.size, 4, none⟩ (.string d)) w.heap.size 94 [.int .i64 c, .int .i64 h, .bool g, .string n, .string d]) :=
    ((((hX3.out.set 0 (.int .i64 c)).set 1 (.int .i64 h)).set 2 (.bool g)).set 3 (.string n)).set 4 (.string d)
  go_wp2
  (try simp only [Exit.inBlock, Exit.then])
  refine bodyPost_ret (res_link hX9.out rfl) rfl ?_
  exact ⟨rfl, hB9.out⟩
set_option maxRecDepth 100000 in
theorem Same_any (A1 A2 B1 B2 : Option Addr) (c1 c2 d1 d2 : Nat) (l1 l2 m1 m2 : List Int) (w : World) (h1 : InInt w A1 l1) (h2 : InInt w A2 l2) (g1 : InInt w B1 m1) (g2 : InInt w B2 m2) (z1 : l1.length ≤ 140737488355328) (z2 : l2.length ≤ 140737488355328) :
    Calls Tryz.prog 35 #[.agg #[.slice A1 l1.length c1, .slice A2 l2.length c2], .agg #[.slice B1 m1.length d1, .slice B2 m2.length d2]] w fun e w' => e = .returned (.bool (decide (l1 = m1) && decide (l2 = m2))) ∧ Below w.heap.size w w' := by
  have hB1 : Hid (Below w.heap.size w ((w.alloc (.cells #[.slice A1 l1.length c1, .slice A2 l2.length c2] 56)).alloc (.cells #[.slice B1 m1.length d1, .slice B2 m2.length d2] 56))) := ((Below.refl _ w).alloc (Nat.le_refl _) _).alloc (by simp) _
  have hX1 : Hid (Bk ((w.alloc (.cells #[.slice A1 l1.length c1, .slice A2 l2.length c2] 56)).alloc (.cells #[.slice B1 m1.length d1, .slice B2 m2.length d2] 56)) w.heap.size 56 [.slice A1 l1.length c1, .slice A2 l2.length c2]) := (Bk.new w _ _).alloc _
  have hY1 : Hid (Bk ((w.alloc (.cells #[.slice A1 l1.length c1, .slice A2 l2.length c2] 56)).alloc (.cells #[.slice B1 m1.length d1, .slice B2 m2.length d2] 56)) (w.heap.size + 1) 56 [.slice B1 m1.length d1, .slice B2 m2.length d2]) := by have h := Bk.new (w.alloc (.cells #[.slice A1 l1.length c1, .slice A2 l2.length c2] 56)) 56 [.slice B1 m1.length d1, .slice B2 m2.length d2]; rw [World.size_alloc] at h; exact h
  have x0 := hX1.out.cell (j := 0) rfl
  have x1 := hX1.out.cell (j := 1) rfl
  have x9 := hX1.out.lt
  have y0 := hY1.out.cell (j := 0) rfl
  have y1 := hY1.out.cell (j := 1) rfl
  have y9 := hY1.out.lt
  have k1 := Ints_any A1 B1 c1 d1 l1 m1 _ (h1.below hB1.out) (g1.below hB1.out) z1
  have k2 := Lib.hid (fun W hW => Ints_any A2 B2 c2 d2 l2 m2 W (h2.below hW) (g2.below hW) z2)
  clear h1 h2 g1 g2
  cases e1 : decide (l1 = m1) with
  | false =>
    rw [e1] at k1
    replace k1 := Lib.hid k1
    replace e1 := Lib.hid e1
    go_enter Tryz.func35, Tryz.ntmps35
    go_wp2_with fail
    refine k1.out.mono ?_
    rintro e w2 ⟨rfl, q, rfl⟩
    have hB2 := Lib.hid (blDrewN hB1.out q)
    go_wp2
    go_ret
    exact ⟨rfl, hB2.out⟩
  | true =>
    rw [e1] at k1
    replace k1 := Lib.hid k1
    replace e1 := Lib.hid e1
    go_enter Tryz.func35, Tryz.ntmps35
    go_wp2_with fail
    refine k1.out.mono ?_
    rintro e w2 ⟨rfl, q, hq⟩
    have hb2 : Hid (Below w.heap.size w w2) := by rw [hq]; exact blDrewN hB1.out q
    have hX2 : Hid (Bk w2 w.heap.size 56 [.slice A1 l1.length c1, .slice A2 l2.length c2]) := by rw [hq]; exact hX1.out.below (blDrewN (Below.refl _ _) q)
    have hY2 : Hid (Bk w2 (w.heap.size + 1) 56 [.slice B1 m1.length d1, .slice B2 m2.length d2]) := by rw [hq]; exact hY1.out.below (blDrewN (Below.refl _ _) q)
    clear hq x0 x1 x9 y0 y1 y9
    have x1 := hX2.out.cell (j := 1) rfl
    have x9 := hX2.out.lt
    have y1 := hY2.out.cell (j := 1) rfl
    have y9 := hY2.out.lt
    go_wp2_with fail
    refine (k2.out w2 hb2.out).mono ?_
    rintro e w3 ⟨rfl, q, rfl⟩
    have hB3 := Lib.hid (blDrewN hb2.out q)
    go_wp2
    go_ret
    exact ⟨rfl, hB3.out⟩
theorem ctl_C {W : World} {nb lb fb : Nat} (hE : Env W) (h1 : Bk W nb 9 (sC.ps.map .string)) (h2 : Bk W lb 94 [.int .i64 1, .int .i64 0, .bool false, .string ⟨#[51]⟩, .string ⟨#[53]⟩, .int .i64 2, .int .i64 0, .bool false, .string ⟨#[51]⟩, .string ⟨#[49, 48]⟩, .int .i64 2, .int .i64 1, .bool false, .string ⟨#[51]⟩, .string ⟨#[49, 48]⟩, .int .i64 3, .int .i64 2, .bool false, .string ⟨#[49]⟩, .string ⟨#[50]⟩]) (h3 : Bk W fb 3 [.int .i64 0]) :
    Calls Tryz.prog 28 #[.agg #[.slice (some ⟨nb, 0, none⟩) 4 4, .slice none 0 0, .slice (some ⟨lb, 0, none⟩) 4 4], .slice (some ⟨fb, 0, none⟩) 1 1] W fun e w' => (∃ b, e = .returned (.tuple #[.slice (some ⟨b, 0, none⟩) 4 4, .int .i64 0]) ∧ InInt w' (some ⟨b, 0, none⟩) [0, 1, 2, -1]) ∧ Below W.heap.size W w' :=
  (Controlled_any sC _ none _ (some ⟨fb, 0, none⟩) 4 0 4 1 [0] W hE (stIn_C h1 h2) (by decide) (by decide) (inIntB h3) (by decide)).mono fun e w' h => by
    obtain ⟨h4, h5⟩ := h
    rw [if_pos ⟨sound_C, listC⟩] at h4
    obtain ⟨b, e1, _, e2⟩ := h4
    refine ⟨⟨b, e1, ?_⟩, h5⟩
    have h6 := e2.inInt
    rwa [show (List.range sC.ps.length).map (rd (VT sC) (toN [0])) = [0, 1, 2, -1] from oC_list] at h6
theorem prv2_C {W : World} {nb lb fb : Nat} (hE : Env W) (h1 : Bk W nb 9 (sC.ps.map .string)) (h2 : Bk W lb 94 [.int .i64 1, .int .i64 0, .bool false, .string ⟨#[51]⟩, .string ⟨#[53]⟩, .int .i64 2, .int .i64 0, .bool false, .string ⟨#[51]⟩, .string ⟨#[49, 48]⟩, .int .i64 2, .int .i64 1, .bool false, .string ⟨#[51]⟩, .string ⟨#[49, 48]⟩, .int .i64 3, .int .i64 2, .bool false, .string ⟨#[49]⟩, .string ⟨#[50]⟩]) (h3 : Bk W fb 3 [.int .i64 0]) :
    Calls Tryz.prog 30 #[.agg #[.slice (some ⟨nb, 0, none⟩) 4 4, .slice none 0 0, .slice (some ⟨lb, 0, none⟩) 4 4], .slice (some ⟨fb, 0, none⟩) 1 1, .int .i64 2] W fun e w' => (∃ A c, e = .returned (.tuple #[.agg #[.slice A 2 c, .slice none 0 0], .int .i64 0]) ∧ InInt w' A [1, 2]) ∧ Below W.heap.size W w' :=
  (Prove_w 20 sortUpTo_small sC _ none _ (some ⟨fb, 0, none⟩) 4 0 4 1 [0] 2 W hE (stIn_C h1 h2) (by decide) (by decide) (inIntB h3) (by decide) (by decide)).mono fun e w' h => by
    obtain ⟨h4, h5⟩ := h
    rw [if_pos ⟨sound_C, listC, by decide, by decide⟩, if_pos (show 0 ≤ rd (VT sC) (toN [0]) (Int.toNat 2) from (show 0 ≤ oC 2 by rw [oC_val.2.2.1]; decide))] at h4
    obtain ⟨A, c, l, e1, e2, e3⟩ := h4
    obtain rfl : l = [1, 2] := ord_unique e3 ord_C
    exact ⟨⟨A, c, e1, e2⟩, h5⟩
theorem prv3_C {W : World} {nb lb fb : Nat} (hE : Env W) (h1 : Bk W nb 9 (sC.ps.map .string)) (h2 : Bk W lb 94 [.int .i64 1, .int .i64 0, .bool false, .string ⟨#[51]⟩, .string ⟨#[53]⟩, .int .i64 2, .int .i64 0, .bool false, .string ⟨#[51]⟩, .string ⟨#[49, 48]⟩, .int .i64 2, .int .i64 1, .bool false, .string ⟨#[51]⟩, .string ⟨#[49, 48]⟩, .int .i64 3, .int .i64 2, .bool false, .string ⟨#[49]⟩, .string ⟨#[50]⟩]) (h3 : Bk W fb 3 [.int .i64 0]) :
    Calls Tryz.prog 30 #[.agg #[.slice (some ⟨nb, 0, none⟩) 4 4, .slice none 0 0, .slice (some ⟨lb, 0, none⟩) 4 4], .slice (some ⟨fb, 0, none⟩) 1 1, .int .i64 3] W fun e w' => (∃ A c, e = .returned (.tuple #[.agg #[.slice none 0 0, .slice A 3 c], .int .i64 0]) ∧ InInt w' A [0, 1, 2]) ∧ Below W.heap.size W w' :=
  (Prove_w 20 sortUpTo_small sC _ none _ (some ⟨fb, 0, none⟩) 4 0 4 1 [0] 3 W hE (stIn_C h1 h2) (by decide) (by decide) (inIntB h3) (by decide) (by decide)).mono fun e w' h => by
    obtain ⟨h4, h5⟩ := h
    rw [if_pos ⟨sound_C, listC, by decide, by decide⟩, if_neg (show ¬ 0 ≤ rd (VT sC) (toN [0]) (Int.toNat 3) from (show ¬ 0 ≤ oC 3 by rw [oC_val.2.2.2]; decide))] at h4
    obtain ⟨A, c, e1, e2⟩ := h4
    have hc : clL (rd (VT sC) (toN [0])) sC.ps.length = [0, 1, 2] := cl_C
    rw [hc] at e1 e2
    exact ⟨⟨A, c, e1, e2⟩, h5⟩
theorem prv4_C {W : World} {nb lb fb : Nat} (hE : Env W) (h1 : Bk W nb 9 (sC.ps.map .string)) (h2 : Bk W lb 94 [.int .i64 1, .int .i64 0, .bool false, .string ⟨#[51]⟩, .string ⟨#[53]⟩, .int .i64 2, .int .i64 0, .bool false, .string ⟨#[51]⟩, .string ⟨#[49, 48]⟩, .int .i64 2, .int .i64 1, .bool false, .string ⟨#[51]⟩, .string ⟨#[49, 48]⟩, .int .i64 3, .int .i64 2, .bool false, .string ⟨#[49]⟩, .string ⟨#[50]⟩]) (h3 : Bk W fb 3 [.int .i64 0]) :
    Calls Tryz.prog 30 #[.agg #[.slice (some ⟨nb, 0, none⟩) 4 4, .slice none 0 0, .slice (some ⟨lb, 0, none⟩) 4 4], .slice (some ⟨fb, 0, none⟩) 1 1, .int .i64 4] W fun e w' => e = .returned (.tuple #[.agg #[.slice none 0 0, .slice none 0 0], .int .i64 1]) ∧ Below W.heap.size W w' :=
  (Prove_w 20 sortUpTo_small sC _ none _ (some ⟨fb, 0, none⟩) 4 0 4 1 [0] 4 W hE (stIn_C h1 h2) (by decide) (by decide) (inIntB h3) (by decide) (by decide)).mono fun e w' h => by
    obtain ⟨h4, h5⟩ := h
    rw [if_neg fun h => absurd h.2.2.2 (by decide)] at h4
    exact ⟨h4, h5⟩
theorem chk_C {W : World} {nb lb fb : Nat} (hE : Env W) (h1 : Bk W nb 9 (sC.ps.map .string)) (h2 : Bk W lb 94 [.int .i64 1, .int .i64 0, .bool false, .string ⟨#[51]⟩, .string ⟨#[53]⟩, .int .i64 2, .int .i64 0, .bool false, .string ⟨#[51]⟩, .string ⟨#[49, 48]⟩, .int .i64 2, .int .i64 1, .bool false, .string ⟨#[51]⟩, .string ⟨#[49, 48]⟩, .int .i64 3, .int .i64 2, .bool false, .string ⟨#[49]⟩, .string ⟨#[50]⟩]) (h3 : Bk W fb 3 [.int .i64 0]) (Ao Al : Option Addr) (co cl : Nat) (lo lc : List Int) (p : Int) (r1 r2 : Bool) (hr : chk sC [0] p lo lc = (r1, r2)) (h4 : InInt W Ao lo) (h5 : InInt W Al lc) (h6 : lo.length ≤ 10) (h7 : lc.length ≤ 10) :
    Calls Tryz.prog 32 #[.agg #[.slice (some ⟨nb, 0, none⟩) 4 4, .slice none 0 0, .slice (some ⟨lb, 0, none⟩) 4 4], .slice (some ⟨fb, 0, none⟩) 1 1, .int .i64 p, .agg #[.slice Ao lo.length co, .slice Al lc.length cl]] W fun e w' => e = .returned (.tuple #[.bool r1, .bool r2]) ∧ Below W.heap.size W w' := by
  have h := Check_any sC _ none _ (some ⟨fb, 0, none⟩) Ao Al 4 0 4 1 co cl [0] lo lc p W hE (stIn_C h1 h2) (by decide) (by decide) (inIntB h3) (by decide) h4 (by omega) h5 (by omega)
  rw [hr] at h
  exact h
theorem ints_C {W : World} {b c : Nat} {x : List Int} (h1 : InInt W (some ⟨b, 0, none⟩) x) (h2 : Bk W c 3 (x.map (.int .i64))) (l1 : x.length ≤ 10) :
    Calls Tryz.prog 34 #[.slice (some ⟨b, 0, none⟩) x.length x.length, .slice (some ⟨c, 0, none⟩) x.length x.length] W fun e w' => e = .returned (.bool true) ∧ Below W.heap.size W w' := by
  refine (Ints_any (some ⟨b, 0, none⟩) (some ⟨c, 0, none⟩) x.length x.length x x W h1 (inIntB h2) (Nat.le_trans l1 (by decide))).mono ?_
  rintro e w' ⟨rfl, q, rfl⟩
  refine ⟨?_, blDrewN (Below.refl _ W) q⟩
  rw [decide_eq_true rfl]
theorem same_C {W : World} {A1 A2 B1 B2 : Option Addr} {c1 c2 d1 d2 : Nat} {l1 l2 : List Int} (h1 : InInt W A1 l1) (h2 : InInt W A2 l2) (g1 : InInt W B1 l1) (g2 : InInt W B2 l2) (z1 : l1.length ≤ 10) (z2 : l2.length ≤ 10) :
    Calls Tryz.prog 35 #[.agg #[.slice A1 l1.length c1, .slice A2 l2.length c2], .agg #[.slice B1 l1.length d1, .slice B2 l2.length d2]] W fun e w' => e = .returned (.bool true) ∧ Below W.heap.size W w' := by
  refine (Same_any A1 A2 B1 B2 c1 c2 d1 d2 l1 l2 l1 l2 W h1 h2 g1 g2 (by omega) (by omega)).mono ?_
  rintro e w' ⟨rfl, hb⟩
  exact ⟨by rw [decide_eq_true rfl, decide_eq_true rfl]; rfl, hb⟩
def HeadCo : Prop := ∀ w : World, Env w → Calls Tryz.prog 26 #[] w fun e w' => e = .returned (.bool true) ∧ Below w.heap.size w w'
set_option maxRecDepth 100000 in
set_option maxHeartbeats 16000000 in
theorem headCo_any : HeadCo := fun w hE => by
  have k6 := Lib.hid (fun c h w hE => link_any c h 6 _ _ _ (by decide) (by decide) tenth_6 w hE)
  have k3 := Lib.hid (fun c h w hE => link_any c h 3 _ _ _ (by decide) (by decide) tenth_3 w hE)
  have k5 := Lib.hid (fun c h w hE => link_any c h 5 _ _ _ (by decide) (by decide) tenth_5 w hE)
  have hB1 : Hid (Below w.heap.size w (w.alloc (.cells #[.string ⟨#[97]⟩, .string ⟨#[98]⟩, .string ⟨#[99]⟩, .string ⟨#[100]⟩] 9))) := (Below.refl _ w).alloc (Nat.le_refl _) _
  have hN1 : Hid (Bk (w.alloc (.cells #[.string ⟨#[97]⟩, .string ⟨#[98]⟩, .string ⟨#[99]⟩, .string ⟨#[100]⟩] 9)) w.heap.size 9 (sC.ps.map .string)) := Bk.new w _ _
  replace hE := Lib.hid hE
  go_enter Tryz.func26, Tryz.ntmps26
  go_wp2_with fail
  obtain ⟨w1, hw1⟩ : ∃ x, x = w.alloc (.cells #[.string ⟨#[97]⟩, .string ⟨#[98]⟩, .string ⟨#[99]⟩, .string ⟨#[100]⟩] 9) := ⟨_, rfl⟩
  rw [← hw1] at hB1 hN1 ⊢
  obtain ⟨nb, hnb⟩ : ∃ x, x = w.heap.size := ⟨_, rfl⟩
  rw [← hnb] at hN1 ⊢
  replace hnb := Lib.hid hnb
  clear hw1
  refine (k6.out _ _ _ (hE.out.below hB1.out)).mono ?_
  rintro e w2 ⟨rfl, hb⟩
  have hB2 := Lib.hid (hB1.out.trans (hb.mono hB1.out.size))
  have hN2 := Lib.hid (hN1.out.below hb)
  clear hb hB1 hN1
  go_wp2_with fail
  refine (k3.out _ _ _ (hE.out.below hB2.out)).mono ?_
  rintro e w3 ⟨rfl, hb⟩
  have hB3 := Lib.hid (hB2.out.trans (hb.mono hB2.out.size))
  have hN3 := Lib.hid (hN2.out.below hb)
  clear hb hB2 hN2
  go_wp2_with fail
  refine (k3.out _ _ _ (hE.out.below hB3.out)).mono ?_
  rintro e w4 ⟨rfl, hb⟩
  have hB4 := Lib.hid (hB3.out.trans (hb.mono hB3.out.size))
  have hN4 := Lib.hid (hN3.out.below hb)
  clear hb hB3 hN3
  go_wp2_with fail
  refine (k5.out _ _ _ (hE.out.below hB4.out)).mono ?_
  rintro e w5 ⟨rfl, hb⟩
  have hB5 := Lib.hid (hB4.out.trans (hb.mono hB4.out.size))
  have hN5 := Lib.hid (hN4.out.below hb)
  clear hb hB4 hN4
  have hAA6 : Hid (Below w5.heap.size w5 (((w5.alloc (.cells #[.int .i64 1, .int .i64 0, .bool false, .string ⟨#[51]⟩, .string ⟨#[53]⟩, .int .i64 2, .int .i64 0, .bool false, .string ⟨#[51]⟩, .string ⟨#[49, 48]⟩, .int .i64 2, .int .i64 1, .bool false, .string ⟨#[51]⟩, .string ⟨#[49, 48]⟩, .int .i64 3, .int .i64 2, .bool false, .string ⟨#[49]⟩, .string ⟨#[50]⟩] 94)).alloc (.cells #[.slice (some ⟨nb, 0, none⟩) 4 4, .slice none 0 0, .slice (some ⟨w5.heap.size, 0, none⟩) 4 4] 54)).alloc (.cells #[.int .i64 0] 3))) := ((((Below.refl _ w5).alloc (by first | exact Nat.le_refl _ | (simp; done) | (simp; omega)) (.cells #[.int .i64 1, .int .i64 0, .bool false, .string ⟨#[51]⟩, .string ⟨#[53]⟩, .int .i64 2, .int .i64 0, .bool false, .string ⟨#[51]⟩, .string ⟨#[49, 48]⟩, .int .i64 2, .int .i64 1, .bool false, .string ⟨#[51]⟩, .string ⟨#[49, 48]⟩, .int .i64 3, .int .i64 2, .bool false, .string ⟨#[49]⟩, .string ⟨#[50]⟩] 94)).alloc (by first | exact Nat.le_refl _ | (simp; done) | (simp; omega)) (.cells #[.slice (some ⟨nb, 0, none⟩) 4 4, .slice none 0 0, .slice (some ⟨w5.heap.size, 0, none⟩) 4 4] 54)).alloc (by first | exact Nat.le_refl _ | (simp; done) | (simp; omega)) (.cells #[.int .i64 0] 3))
  have hB6 := Lib.hid (hB5.out.trans (hAA6.out.mono hB5.out.size))
  have hN6 := Lib.hid (hN5.out.below hAA6.out)
  have hL6 := Bk.new w5 94 [.int .i64 1, .int .i64 0, .bool false, .string ⟨#[51]⟩, .string ⟨#[53]⟩, .int .i64 2, .int .i64 0, .bool false, .string ⟨#[51]⟩, .string ⟨#[49, 48]⟩, .int .i64 2, .int .i64 1, .bool false, .string ⟨#[51]⟩, .string ⟨#[49, 48]⟩, .int .i64 3, .int .i64 2, .bool false, .string ⟨#[49]⟩, .string ⟨#[50]⟩]
  replace hL6 := hL6.alloc (.cells #[.slice (some ⟨nb, 0, none⟩) 4 4, .slice none 0 0, .slice (some ⟨w5.heap.size, 0, none⟩) 4 4] 54)
  replace hL6 := hL6.alloc (.cells #[.int .i64 0] 3)
  replace hL6 := Lib.hid hL6
  have hS6 := Bk.new (w5.alloc (.cells #[.int .i64 1, .int .i64 0, .bool false, .string ⟨#[51]⟩, .string ⟨#[53]⟩, .int .i64 2, .int .i64 0, .bool false, .string ⟨#[51]⟩, .string ⟨#[49, 48]⟩, .int .i64 2, .int .i64 1, .bool false, .string ⟨#[51]⟩, .string ⟨#[49, 48]⟩, .int .i64 3, .int .i64 2, .bool false, .string ⟨#[49]⟩, .string ⟨#[50]⟩] 94)) 54 [.slice (some ⟨nb, 0, none⟩) 4 4, .slice none 0 0, .slice (some ⟨w5.heap.size, 0, none⟩) 4 4]
  replace hS6 := hS6.alloc (.cells #[.int .i64 0] 3)
  have hz6_1 : (w5.alloc (.cells #[.int .i64 1, .int .i64 0, .bool false, .string ⟨#[51]⟩, .string ⟨#[53]⟩, .int .i64 2, .int .i64 0, .bool false, .string ⟨#[51]⟩, .string ⟨#[49, 48]⟩, .int .i64 2, .int .i64 1, .bool false, .string ⟨#[51]⟩, .string ⟨#[49, 48]⟩, .int .i64 3, .int .i64 2, .bool false, .string ⟨#[49]⟩, .string ⟨#[50]⟩] 94)).heap.size = w5.heap.size + 1 := by simp
  rw [hz6_1] at hS6
  replace hS6 := Lib.hid hS6
  have hF6 := Bk.new ((w5.alloc (.cells #[.int .i64 1, .int .i64 0, .bool false, .string ⟨#[51]⟩, .string ⟨#[53]⟩, .int .i64 2, .int .i64 0, .bool false, .string ⟨#[51]⟩, .string ⟨#[49, 48]⟩, .int .i64 2, .int .i64 1, .bool false, .string ⟨#[51]⟩, .string ⟨#[49, 48]⟩, .int .i64 3, .int .i64 2, .bool false, .string ⟨#[49]⟩, .string ⟨#[50]⟩] 94)).alloc (.cells #[.slice (some ⟨nb, 0, none⟩) 4 4, .slice none 0 0, .slice (some ⟨w5.heap.size, 0, none⟩) 4 4] 54)) 3 [.int .i64 0]
  have hz6_2 : ((w5.alloc (.cells #[.int .i64 1, .int .i64 0, .bool false, .string ⟨#[51]⟩, .string ⟨#[53]⟩, .int .i64 2, .int .i64 0, .bool false, .string ⟨#[51]⟩, .string ⟨#[49, 48]⟩, .int .i64 2, .int .i64 1, .bool false, .string ⟨#[51]⟩, .string ⟨#[49, 48]⟩, .int .i64 3, .int .i64 2, .bool false, .string ⟨#[49]⟩, .string ⟨#[50]⟩] 94)).alloc (.cells #[.slice (some ⟨nb, 0, none⟩) 4 4, .slice none 0 0, .slice (some ⟨w5.heap.size, 0, none⟩) 4 4] 54)).heap.size = w5.heap.size + 1 + 1 := by simp
  rw [hz6_2] at hF6
  replace hF6 := Lib.hid hF6
  have s0 := hS6.out.cell (j := 0) rfl
  have s1 := hS6.out.cell (j := 1) rfl
  have s2 := hS6.out.cell (j := 2) rfl
  have sl := hS6.out.lt
  go_wp2_with fail
  clear s0 s1 s2 sl
  obtain ⟨w6, hw6⟩ : ∃ x, x = (((w5.alloc (.cells #[.int .i64 1, .int .i64 0, .bool false, .string ⟨#[51]⟩, .string ⟨#[53]⟩, .int .i64 2, .int .i64 0, .bool false, .string ⟨#[51]⟩, .string ⟨#[49, 48]⟩, .int .i64 2, .int .i64 1, .bool false, .string ⟨#[51]⟩, .string ⟨#[49, 48]⟩, .int .i64 3, .int .i64 2, .bool false, .string ⟨#[49]⟩, .string ⟨#[50]⟩] 94)).alloc (.cells #[.slice (some ⟨nb, 0, none⟩) 4 4, .slice none 0 0, .slice (some ⟨w5.heap.size, 0, none⟩) 4 4] 54)).alloc (.cells #[.int .i64 0] 3)) := ⟨_, rfl⟩
  rw [← hw6] at hB6 hN6 hL6 hS6 hF6 ⊢
  obtain ⟨hLb, hhLb⟩ : ∃ x, x = w5.heap.size := ⟨_, rfl⟩
  obtain ⟨hSb, hhSb⟩ : ∃ x, x = w5.heap.size + 1 := ⟨_, rfl⟩
  obtain ⟨hFb, hhFb⟩ : ∃ x, x = w5.heap.size + 1 + 1 := ⟨_, rfl⟩
  try rw [← hhFb] at hF6
  try rw [← hhFb]
  try rw [← hhSb] at hS6
  try rw [← hhSb] at hF6
  try rw [← hhSb]
  try rw [← hhLb] at hL6
  try rw [← hhLb] at hS6
  try rw [← hhLb] at hF6
  try rw [← hhLb]
  clear hhLb hhSb hhFb hAA6 hN5 hB5 hw6 hz6_1 hz6_2
  refine (ctl_C (hE.out.below hB6.out) hN6.out hL6.out hF6.out).mono ?_
  rintro e w7 ⟨⟨rb, rfl, iR⟩, hb⟩
  have hB7 := Lib.hid (hB6.out.trans (hb.mono hB6.out.size))
  have hN7 := Lib.hid (hN6.out.below hb)
  have hL7 := Lib.hid (hL6.out.below hb)
  have hS7 := Lib.hid (hS6.out.below hb)
  have hF7 := Lib.hid (hF6.out.below hb)
  clear hb hB6 hN6 hL6 hS6 hF6
  have iR7 := Lib.hid iR
  clear iR
  have t0 := hS7.out.cell (j := 0) rfl
  have t1 := hS7.out.cell (j := 1) rfl
  have t2 := hS7.out.cell (j := 2) rfl
  have tl := hS7.out.lt
  go_wp2_with fail
  clear t0 t1 t2 tl
  refine (prv2_C (hE.out.below hB7.out) hN7.out hL7.out hF7.out).mono ?_
  rintro e w8 ⟨⟨A2, c2, rfl, iP⟩, hb⟩
  have hB8 := Lib.hid (hB7.out.trans (hb.mono hB7.out.size))
  have hN8 := Lib.hid (hN7.out.below hb)
  have hL8 := Lib.hid (hL7.out.below hb)
  have hS8 := Lib.hid (hS7.out.below hb)
  have hF8 := Lib.hid (hF7.out.below hb)
  have iR8 := Lib.hid (iR7.out.below hb)
  clear hb hB7 hN7 hL7 hS7 hF7 iR7
  have iP8 := Lib.hid iP
  clear iP
  have hAA9 : Hid (Below w8.heap.size w8 (w8.alloc (.cells #[.slice A2 2 c2, .slice none 0 0] 56))) := ((Below.refl _ w8).alloc (by first | exact Nat.le_refl _ | (simp; done) | (simp; omega)) (.cells #[.slice A2 2 c2, .slice none 0 0] 56))
  have hB9 := Lib.hid (hB8.out.trans (hAA9.out.mono hB8.out.size))
  have hN9 := Lib.hid (hN8.out.below hAA9.out)
  have hL9 := Lib.hid (hL8.out.below hAA9.out)
  have hS9 := Lib.hid (hS8.out.below hAA9.out)
  have hF9 := Lib.hid (hF8.out.below hAA9.out)
  have iR9 := Lib.hid (iR8.out.below hAA9.out)
  have iP9 := Lib.hid (iP8.out.below hAA9.out)
  have hP9 := Bk.new w8 56 [.slice A2 2 c2, .slice none 0 0]
  replace hP9 := Lib.hid hP9
  have s0 := hS9.out.cell (j := 0) rfl
  have s1 := hS9.out.cell (j := 1) rfl
  have s2 := hS9.out.cell (j := 2) rfl
  have sl := hS9.out.lt
  have p0 := hP9.out.cell (j := 0) rfl
  have p1 := hP9.out.cell (j := 1) rfl
  have pl := hP9.out.lt
  go_wp2_with fail
  clear s0 s1 s2 sl p0 p1 pl
  obtain ⟨w9, hw9⟩ : ∃ x, x = (w8.alloc (.cells #[.slice A2 2 c2, .slice none 0 0] 56)) := ⟨_, rfl⟩
  rw [← hw9] at hB9 hN9 hL9 hS9 hF9 iR9 iP9 hP9 ⊢
  obtain ⟨hPb, hhPb⟩ : ∃ x, x = w8.heap.size := ⟨_, rfl⟩
  try rw [← hhPb] at hP9
  try rw [← hhPb]
  clear hhPb hAA9 hN8 hL8 hS8 hF8 iR8 iP8 hB8 hw9 
  refine (prv3_C (hE.out.below hB9.out) hN9.out hL9.out hF9.out).mono ?_
  rintro e w10 ⟨⟨A3, c3, rfl, iQ⟩, hb⟩
  have hB10 := Lib.hid (hB9.out.trans (hb.mono hB9.out.size))
  have hN10 := Lib.hid (hN9.out.below hb)
  have hL10 := Lib.hid (hL9.out.below hb)
  have hS10 := Lib.hid (hS9.out.below hb)
  have hF10 := Lib.hid (hF9.out.below hb)
  have iR10 := Lib.hid (iR9.out.below hb)
  have iP10 := Lib.hid (iP9.out.below hb)
  have hP10 := Lib.hid (hP9.out.below hb)
  clear hb hB9 hN9 hL9 hS9 hF9 iR9 iP9 hP9
  have iQ10 := Lib.hid iQ
  clear iQ
  have hAA11 : Hid (Below w10.heap.size w10 (w10.alloc (.cells #[.slice none 0 0, .slice A3 3 c3] 56))) := ((Below.refl _ w10).alloc (by first | exact Nat.le_refl _ | (simp; done) | (simp; omega)) (.cells #[.slice none 0 0, .slice A3 3 c3] 56))
  have hB11 := Lib.hid (hB10.out.trans (hAA11.out.mono hB10.out.size))
  have hN11 := Lib.hid (hN10.out.below hAA11.out)
  have hL11 := Lib.hid (hL10.out.below hAA11.out)
  have hS11 := Lib.hid (hS10.out.below hAA11.out)
  have hF11 := Lib.hid (hF10.out.below hAA11.out)
  have iR11 := Lib.hid (iR10.out.below hAA11.out)
  have iP11 := Lib.hid (iP10.out.below hAA11.out)
  have hP11 := Lib.hid (hP10.out.below hAA11.out)
  have iQ11 := Lib.hid (iQ10.out.below hAA11.out)
  have hQ11 := Bk.new w10 56 [.slice none 0 0, .slice A3 3 c3]
  replace hQ11 := Lib.hid hQ11
  have s0 := hS11.out.cell (j := 0) rfl
  have s1 := hS11.out.cell (j := 1) rfl
  have s2 := hS11.out.cell (j := 2) rfl
  have sl := hS11.out.lt
  have p0 := hQ11.out.cell (j := 0) rfl
  have p1 := hQ11.out.cell (j := 1) rfl
  have pl := hQ11.out.lt
  have o0 := hP11.out.cell (j := 0) rfl
  have o1 := hP11.out.cell (j := 1) rfl
  have ol := hP11.out.lt
  go_wp2_with fail
  clear s0 s1 s2 sl p0 p1 pl o0 o1 ol
  obtain ⟨w11, hw11⟩ : ∃ x, x = (w10.alloc (.cells #[.slice none 0 0, .slice A3 3 c3] 56)) := ⟨_, rfl⟩
  rw [← hw11] at hB11 hN11 hL11 hS11 hF11 iR11 iP11 hP11 iQ11 hQ11 ⊢
  obtain ⟨hQb, hhQb⟩ : ∃ x, x = w10.heap.size := ⟨_, rfl⟩
  try rw [← hhQb] at hQ11
  try rw [← hhQb]
  clear hhQb hAA11 hN10 hL10 hS10 hF10 iR10 iP10 hP10 iQ10 hB10 hw11 
  refine (chk_C (hE.out.below hB11.out) hN11.out hL11.out hF11.out A2 none c2 0 [1, 2] [] 2 true true chk_yes iP11.out (inNil _ _) (by decide) (by decide)).mono ?_
  rintro e w12 ⟨rfl, hb⟩
  have hB12 := Lib.hid (hB11.out.trans (hb.mono hB11.out.size))
  have hN12 := Lib.hid (hN11.out.below hb)
  have hL12 := Lib.hid (hL11.out.below hb)
  have hS12 := Lib.hid (hS11.out.below hb)
  have hF12 := Lib.hid (hF11.out.below hb)
  have iR12 := Lib.hid (iR11.out.below hb)
  have iP12 := Lib.hid (iP11.out.below hb)
  have hP12 := Lib.hid (hP11.out.below hb)
  have iQ12 := Lib.hid (iQ11.out.below hb)
  have hQ12 := Lib.hid (hQ11.out.below hb)
  clear hb hB11 hN11 hL11 hS11 hF11 iR11 iP11 hP11 iQ11 hQ11
  have t0 := hS12.out.cell (j := 0) rfl
  have t1 := hS12.out.cell (j := 1) rfl
  have t2 := hS12.out.cell (j := 2) rfl
  have tl := hS12.out.lt
  have q0 := hQ12.out.cell (j := 0) rfl
  have q1 := hQ12.out.cell (j := 1) rfl
  have ql := hQ12.out.lt
  go_wp2_with fail
  clear t0 t1 t2 tl
  clear q0 q1 ql
  refine (chk_C (hE.out.below hB12.out) hN12.out hL12.out hF12.out none A3 0 c3 [] [0, 1, 2] 3 false true chk_no (inNil _ _) iQ12.out (by decide) (by decide)).mono ?_
  rintro e w13 ⟨rfl, hb⟩
  have hB13 := Lib.hid (hB12.out.trans (hb.mono hB12.out.size))
  have hN13 := Lib.hid (hN12.out.below hb)
  have hL13 := Lib.hid (hL12.out.below hb)
  have hS13 := Lib.hid (hS12.out.below hb)
  have hF13 := Lib.hid (hF12.out.below hb)
  have iR13 := Lib.hid (iR12.out.below hb)
  have iP13 := Lib.hid (iP12.out.below hb)
  have hP13 := Lib.hid (hP12.out.below hb)
  have iQ13 := Lib.hid (iQ12.out.below hb)
  have hQ13 := Lib.hid (hQ12.out.below hb)
  clear hb hB12 hN12 hL12 hS12 hF12 iR12 iP12 hP12 iQ12 hQ12
  have t0 := hS13.out.cell (j := 0) rfl
  have t1 := hS13.out.cell (j := 1) rfl
  have t2 := hS13.out.cell (j := 2) rfl
  have tl := hS13.out.lt
  have hAA14 : Hid (Below w13.heap.size w13 (w13.alloc (.cells #[.int .i64 2] 3))) := ((Below.refl _ w13).alloc (by first | exact Nat.le_refl _ | (simp; done) | (simp; omega)) (.cells #[.int .i64 2] 3))
  have hB14 := Lib.hid (hB13.out.trans (hAA14.out.mono hB13.out.size))
  have hN14 := Lib.hid (hN13.out.below hAA14.out)
  have hL14 := Lib.hid (hL13.out.below hAA14.out)
  have hS14 := Lib.hid (hS13.out.below hAA14.out)
  have hF14 := Lib.hid (hF13.out.below hAA14.out)
  have iR14 := Lib.hid (iR13.out.below hAA14.out)
  have iP14 := Lib.hid (iP13.out.below hAA14.out)
  have hP14 := Lib.hid (hP13.out.below hAA14.out)
  have iQ14 := Lib.hid (iQ13.out.below hAA14.out)
  have hQ14 := Lib.hid (hQ13.out.below hAA14.out)
  have hG14 := Bk.new w13 3 [.int .i64 2]
  replace hG14 := Lib.hid hG14
  go_wp2_with fail
  clear t0 t1 t2 tl
  obtain ⟨w14, hw14⟩ : ∃ x, x = (w13.alloc (.cells #[.int .i64 2] 3)) := ⟨_, rfl⟩
  rw [← hw14] at hB14 hN14 hL14 hS14 hF14 iR14 iP14 hP14 iQ14 hQ14 hG14 ⊢
  obtain ⟨hGb, hhGb⟩ : ∃ x, x = w13.heap.size := ⟨_, rfl⟩
  try rw [← hhGb] at hG14
  try rw [← hhGb]
  clear hhGb hAA14 hN13 hL13 hS13 hF13 iR13 iP13 hP13 iQ13 hQ13 hB13 hw14 
  refine (chk_C (hE.out.below hB14.out) hN14.out hL14.out hF14.out (some ⟨hGb, 0, none⟩) none 1 0 [2] [] 2 false false chk_bad (inIntB hG14.out) (inNil _ _) (by decide) (by decide)).mono ?_
  rintro e w15 ⟨rfl, hb⟩
  have hB15 := Lib.hid (hB14.out.trans (hb.mono hB14.out.size))
  have hN15 := Lib.hid (hN14.out.below hb)
  have hL15 := Lib.hid (hL14.out.below hb)
  have hS15 := Lib.hid (hS14.out.below hb)
  have hF15 := Lib.hid (hF14.out.below hb)
  have iR15 := Lib.hid (iR14.out.below hb)
  have iP15 := Lib.hid (iP14.out.below hb)
  have hP15 := Lib.hid (hP14.out.below hb)
  have iQ15 := Lib.hid (iQ14.out.below hb)
  have hQ15 := Lib.hid (hQ14.out.below hb)
  have hG15 := Lib.hid (hG14.out.below hb)
  clear hb hB14 hN14 hL14 hS14 hF14 iR14 iP14 hP14 iQ14 hQ14 hG14
  have t0 := hS15.out.cell (j := 0) rfl
  have t1 := hS15.out.cell (j := 1) rfl
  have t2 := hS15.out.cell (j := 2) rfl
  have tl := hS15.out.lt
  go_wp2_with fail
  clear t0 t1 t2 tl
  refine (prv4_C (hE.out.below hB15.out) hN15.out hL15.out hF15.out).mono ?_
  rintro e w16 ⟨rfl, hb⟩
  have hB16 := Lib.hid (hB15.out.trans (hb.mono hB15.out.size))
  have hN16 := Lib.hid (hN15.out.below hb)
  have hL16 := Lib.hid (hL15.out.below hb)
  have hS16 := Lib.hid (hS15.out.below hb)
  have hF16 := Lib.hid (hF15.out.below hb)
  have iR16 := Lib.hid (iR15.out.below hb)
  have iP16 := Lib.hid (iP15.out.below hb)
  have hP16 := Lib.hid (hP15.out.below hb)
  have iQ16 := Lib.hid (iQ15.out.below hb)
  have hQ16 := Lib.hid (hQ15.out.below hb)
  have hG16 := Lib.hid (hG15.out.below hb)
  clear hb hB15 hN15 hL15 hS15 hF15 iR15 iP15 hP15 iQ15 hQ15 hG15
  have hAA17 : Hid (Below w16.heap.size w16 ((w16.alloc (.cells #[.slice none 0 0, .slice none 0 0] 56)).alloc (.cells #[.int .i64 0, .int .i64 1, .int .i64 2, .int .i64 (-1)] 3))) := (((Below.refl _ w16).alloc (by first | exact Nat.le_refl _ | (simp; done) | (simp; omega)) (.cells #[.slice none 0 0, .slice none 0 0] 56)).alloc (by first | exact Nat.le_refl _ | (simp; done) | (simp; omega)) (.cells #[.int .i64 0, .int .i64 1, .int .i64 2, .int .i64 (-1)] 3))
  have hB17 := Lib.hid (hB16.out.trans (hAA17.out.mono hB16.out.size))
  have hN17 := Lib.hid (hN16.out.below hAA17.out)
  have hL17 := Lib.hid (hL16.out.below hAA17.out)
  have hS17 := Lib.hid (hS16.out.below hAA17.out)
  have hF17 := Lib.hid (hF16.out.below hAA17.out)
  have iR17 := Lib.hid (iR16.out.below hAA17.out)
  have iP17 := Lib.hid (iP16.out.below hAA17.out)
  have hP17 := Lib.hid (hP16.out.below hAA17.out)
  have iQ17 := Lib.hid (iQ16.out.below hAA17.out)
  have hQ17 := Lib.hid (hQ16.out.below hAA17.out)
  have hG17 := Lib.hid (hG16.out.below hAA17.out)
  have hZ17 := Bk.new w16 56 [.slice none 0 0, .slice none 0 0]
  replace hZ17 := hZ17.alloc (.cells #[.int .i64 0, .int .i64 1, .int .i64 2, .int .i64 (-1)] 3)
  replace hZ17 := Lib.hid hZ17
  have hY17 := Bk.new (w16.alloc (.cells #[.slice none 0 0, .slice none 0 0] 56)) 3 [.int .i64 0, .int .i64 1, .int .i64 2, .int .i64 (-1)]
  have hz17_1 : (w16.alloc (.cells #[.slice none 0 0, .slice none 0 0] 56)).heap.size = w16.heap.size + 1 := by simp
  rw [hz17_1] at hY17
  replace hY17 := Lib.hid hY17
  go_wp2_with fail
  obtain ⟨w17, hw17⟩ : ∃ x, x = ((w16.alloc (.cells #[.slice none 0 0, .slice none 0 0] 56)).alloc (.cells #[.int .i64 0, .int .i64 1, .int .i64 2, .int .i64 (-1)] 3)) := ⟨_, rfl⟩
  rw [← hw17] at hB17 hN17 hL17 hS17 hF17 iR17 iP17 hP17 iQ17 hQ17 hG17 hZ17 hY17 ⊢
  obtain ⟨hZb, hhZb⟩ : ∃ x, x = w16.heap.size := ⟨_, rfl⟩
  obtain ⟨hYb, hhYb⟩ : ∃ x, x = w16.heap.size + 1 := ⟨_, rfl⟩
  try rw [← hhYb] at hY17
  try rw [← hhYb]
  try rw [← hhZb] at hZ17
  try rw [← hhZb] at hY17
  try rw [← hhZb]
  clear hhZb hhYb hAA17 hN16 hL16 hS16 hF16 iR16 iP16 hP16 iQ16 hQ16 hG16 hB16 hw17 hz17_1
  refine (ints_C iR17.out hY17.out (by decide)).mono ?_
  rintro e w18 ⟨rfl, hb⟩
  have hB18 := Lib.hid (hB17.out.trans (hb.mono hB17.out.size))
  have hN18 := Lib.hid (hN17.out.below hb)
  have hL18 := Lib.hid (hL17.out.below hb)
  have hS18 := Lib.hid (hS17.out.below hb)
  have hF18 := Lib.hid (hF17.out.below hb)
  have iR18 := Lib.hid (iR17.out.below hb)
  have iP18 := Lib.hid (iP17.out.below hb)
  have hP18 := Lib.hid (hP17.out.below hb)
  have iQ18 := Lib.hid (iQ17.out.below hb)
  have hQ18 := Lib.hid (hQ17.out.below hb)
  have hG18 := Lib.hid (hG17.out.below hb)
  have hZ18 := Lib.hid (hZ17.out.below hb)
  have hY18 := Lib.hid (hY17.out.below hb)
  clear hb hB17 hN17 hL17 hS17 hF17 iR17 iP17 hP17 iQ17 hQ17 hG17 hZ17 hY17
  have q0 := hP18.out.cell (j := 0) rfl
  have q1 := hP18.out.cell (j := 1) rfl
  have ql := hP18.out.lt
  have hAA19 : Hid (Below w18.heap.size w18 (w18.alloc (.cells #[.int .i64 1, .int .i64 2] 3))) := ((Below.refl _ w18).alloc (by first | exact Nat.le_refl _ | (simp; done) | (simp; omega)) (.cells #[.int .i64 1, .int .i64 2] 3))
  have hB19 := Lib.hid (hB18.out.trans (hAA19.out.mono hB18.out.size))
  have hN19 := Lib.hid (hN18.out.below hAA19.out)
  have hL19 := Lib.hid (hL18.out.below hAA19.out)
  have hS19 := Lib.hid (hS18.out.below hAA19.out)
  have hF19 := Lib.hid (hF18.out.below hAA19.out)
  have iR19 := Lib.hid (iR18.out.below hAA19.out)
  have iP19 := Lib.hid (iP18.out.below hAA19.out)
  have hP19 := Lib.hid (hP18.out.below hAA19.out)
  have iQ19 := Lib.hid (iQ18.out.below hAA19.out)
  have hQ19 := Lib.hid (hQ18.out.below hAA19.out)
  have hG19 := Lib.hid (hG18.out.below hAA19.out)
  have hZ19 := Lib.hid (hZ18.out.below hAA19.out)
  have hY19 := Lib.hid (hY18.out.below hAA19.out)
  have hU19 := Bk.new w18 3 [.int .i64 1, .int .i64 2]
  replace hU19 := Lib.hid hU19
  go_wp2_with fail
  clear q0 q1 ql
  obtain ⟨w19, hw19⟩ : ∃ x, x = (w18.alloc (.cells #[.int .i64 1, .int .i64 2] 3)) := ⟨_, rfl⟩
  rw [← hw19] at hB19 hN19 hL19 hS19 hF19 iR19 iP19 hP19 iQ19 hQ19 hG19 hZ19 hY19 hU19 ⊢
  obtain ⟨hUb, hhUb⟩ : ∃ x, x = w18.heap.size := ⟨_, rfl⟩
  try rw [← hhUb] at hU19
  try rw [← hhUb]
  clear hhUb hAA19 hN18 hL18 hS18 hF18 iR18 iP18 hP18 iQ18 hQ18 hG18 hZ18 hY18 hB18 hw19 
  refine (same_C (B1 := some ⟨hUb, 0, none⟩) (B2 := none) (c1 := c2) (c2 := 0) (d1 := 2) (d2 := 0) (A2 := none) (l2 := []) iP19.out (inNil _ _) (inIntB hU19.out) (inNil _ _) (by decide) (by decide)).mono ?_
  rintro e w20 ⟨rfl, hb⟩
  have hB20 := Lib.hid (hB19.out.trans (hb.mono hB19.out.size))
  have hN20 := Lib.hid (hN19.out.below hb)
  have hL20 := Lib.hid (hL19.out.below hb)
  have hS20 := Lib.hid (hS19.out.below hb)
  have hF20 := Lib.hid (hF19.out.below hb)
  have iR20 := Lib.hid (iR19.out.below hb)
  have iP20 := Lib.hid (iP19.out.below hb)
  have hP20 := Lib.hid (hP19.out.below hb)
  have iQ20 := Lib.hid (iQ19.out.below hb)
  have hQ20 := Lib.hid (hQ19.out.below hb)
  have hG20 := Lib.hid (hG19.out.below hb)
  have hZ20 := Lib.hid (hZ19.out.below hb)
  have hY20 := Lib.hid (hY19.out.below hb)
  have hU20 := Lib.hid (hU19.out.below hb)
  clear hb hB19 hN19 hL19 hS19 hF19 iR19 iP19 hP19 iQ19 hQ19 hG19 hZ19 hY19 hU19
  have q0 := hQ20.out.cell (j := 0) rfl
  have q1 := hQ20.out.cell (j := 1) rfl
  have ql := hQ20.out.lt
  have hAA21 : Hid (Below w20.heap.size w20 (w20.alloc (.cells #[.int .i64 0, .int .i64 1, .int .i64 2] 3))) := ((Below.refl _ w20).alloc (by first | exact Nat.le_refl _ | (simp; done) | (simp; omega)) (.cells #[.int .i64 0, .int .i64 1, .int .i64 2] 3))
  have hB21 := Lib.hid (hB20.out.trans (hAA21.out.mono hB20.out.size))
  have hN21 := Lib.hid (hN20.out.below hAA21.out)
  have hL21 := Lib.hid (hL20.out.below hAA21.out)
  have hS21 := Lib.hid (hS20.out.below hAA21.out)
  have hF21 := Lib.hid (hF20.out.below hAA21.out)
  have iR21 := Lib.hid (iR20.out.below hAA21.out)
  have iP21 := Lib.hid (iP20.out.below hAA21.out)
  have hP21 := Lib.hid (hP20.out.below hAA21.out)
  have iQ21 := Lib.hid (iQ20.out.below hAA21.out)
  have hQ21 := Lib.hid (hQ20.out.below hAA21.out)
  have hG21 := Lib.hid (hG20.out.below hAA21.out)
  have hZ21 := Lib.hid (hZ20.out.below hAA21.out)
  have hY21 := Lib.hid (hY20.out.below hAA21.out)
  have hU21 := Lib.hid (hU20.out.below hAA21.out)
  have hV21 := Bk.new w20 3 [.int .i64 0, .int .i64 1, .int .i64 2]
  replace hV21 := Lib.hid hV21
  go_wp2_with fail
  clear q0 q1 ql
  obtain ⟨w21, hw21⟩ : ∃ x, x = (w20.alloc (.cells #[.int .i64 0, .int .i64 1, .int .i64 2] 3)) := ⟨_, rfl⟩
  rw [← hw21] at hB21 hN21 hL21 hS21 hF21 iR21 iP21 hP21 iQ21 hQ21 hG21 hZ21 hY21 hU21 hV21 ⊢
  obtain ⟨hVb, hhVb⟩ : ∃ x, x = w20.heap.size := ⟨_, rfl⟩
  try rw [← hhVb] at hV21
  try rw [← hhVb]
  clear hhVb hAA21 hN20 hL20 hS20 hF20 iR20 iP20 hP20 iQ20 hQ20 hG20 hZ20 hY20 hU20 hB20 hw21 
  refine (same_C (A1 := none) (B1 := none) (B2 := some ⟨hVb, 0, none⟩) (c1 := 0) (c2 := c3) (d1 := 0) (d2 := 3) (l1 := []) (inNil _ _) iQ21.out (inNil _ _) (inIntB hV21.out) (by decide) (by decide)).mono ?_
  rintro e w22 ⟨rfl, hb⟩
  have hB22 := Lib.hid (hB21.out.trans (hb.mono hB21.out.size))
  have hN22 := Lib.hid (hN21.out.below hb)
  have hL22 := Lib.hid (hL21.out.below hb)
  have hS22 := Lib.hid (hS21.out.below hb)
  have hF22 := Lib.hid (hF21.out.below hb)
  have iR22 := Lib.hid (iR21.out.below hb)
  have iP22 := Lib.hid (iP21.out.below hb)
  have hP22 := Lib.hid (hP21.out.below hb)
  have iQ22 := Lib.hid (iQ21.out.below hb)
  have hQ22 := Lib.hid (hQ21.out.below hb)
  have hG22 := Lib.hid (hG21.out.below hb)
  have hZ22 := Lib.hid (hZ21.out.below hb)
  have hY22 := Lib.hid (hY21.out.below hb)
  have hU22 := Lib.hid (hU21.out.below hb)
  have hV22 := Lib.hid (hV21.out.below hb)
  clear hb hB21 hN21 hL21 hS21 hF21 iR21 iP21 hP21 iQ21 hQ21 hG21 hZ21 hY21 hU21 hV21
  go_wp2
  go_ret
  exact ⟨rfl, hB22.out⟩
end Co
end Go.Proofs.YtpmlhgmmobpilaaGreatDoor
namespace Go.Proofs.YtpmlhgmmobpilaaGreatDoor
open Go.RowKit Go.Shelf
namespace Co
open Nt Ci
section
variable {V : List (Nat × Nat × Nat)} {n p q j : Nat} {L : List Nat} {S : Nat → Bool}
end
section
variable {s : SR} {F lo lc : List Int} {party : Int} {is : Bool}
end
section
variable {s : SR} {F : List Int} {p : Nat}
end
end Co
end Go.Proofs.YtpmlhgmmobpilaaGreatDoor
namespace Go.Proofs.YtpmlhgmmobpilaaGreatDoor
open Go.RowKit Go.Shelf
namespace Co
open Nt Ci
theorem sum_row {l : List Lk} {k : Nat} (h : k < l.length) (S : Nat → Bool) (p : Nat) : sumS S (row (l.take (k + 1)) p) = sumS S (row (l.take k) p) + if l[k].1 = (p : Int) ∧ S l[k].2.1.toNat = true then unitsN (lkP l[k]) else 0 := by
  unfold row
  rw [List.take_succ_eq_append_getElem h, List.filter_append]
  unfold sumS
  rw [List.map_append, List.sum_append]
  congr 1
  by_cases c : l[k].1 = (p : Int)
  · rw [List.filter_cons, if_pos (decide_eq_true c)]
    by_cases c2 : S l[k].2.1.toNat = true
    · rw [if_pos ⟨c, c2⟩]; simp [c2]
    · rw [if_neg fun h => c2 h.2]; simp [c2]
  · rw [List.filter_cons, if_neg (by simpa using c), if_neg fun h => c h.1]; rfl
end Co
end Go.Proofs.YtpmlhgmmobpilaaGreatDoor

namespace Go.Proofs.YtpmlhgmmobpilaaGreatDoor
open Go.RowKit Go.Shelf
namespace Nt
def InInt (z : Int) : Prop := -9223372036854775808 ≤ z ∧ z ≤ 9223372036854775807
instance (z : Int) : Decidable (InInt z) := inferInstanceAs (Decidable (_ ∧ _))
end Nt
end Go.Proofs.YtpmlhgmmobpilaaGreatDoor

namespace Go.Proofs.YtpmlhgmmobpilaaGreatDoor
open Go.RowKit
namespace Nt
/-- A number of at most k digits above and below. -/
def Dg (k : Nat) (q : Rat) : Prop := q.num.natAbs < 10 ^ k ∧ q.den < 10 ^ k
theorem Dg.mono {k m : Nat} {q : Rat} (h : Dg k q) (hk : k ≤ m) : Dg m q := by
  have : 10 ^ k ≤ 10 ^ m := Nat.pow_le_pow_right (by omega) hk
  exact ⟨Nat.lt_of_lt_of_le h.1 this, Nat.lt_of_lt_of_le h.2 this⟩
theorem mkRat_le (n : Int) (d : Nat) (hd : d ≠ 0) : (mkRat n d).num.natAbs ≤ n.natAbs ∧ (mkRat n d).den ≤ d := by
  have e : n = sg (decide (n < 0)) n.natAbs := (sg_self n).symm
  rw [e, mk_num _ _ _ hd, mk_den _ _ _ hd, sg_natAbs, sg_natAbs]
  exact ⟨Nat.div_le_self _ _, Nat.div_le_self _ _⟩
theorem Dg.add {k m : Nat} {p q : Rat} (hp : Dg k p) (hq : Dg m q) : Dg (k + m + 1) (p + q) := by
  have hd : p.den * q.den ≠ 0 := Nat.mul_ne_zero p.den_nz q.den_nz
  have h := mkRat_le (p.num * q.den + q.num * p.den) (p.den * q.den) hd
  rw [add_mk] at h
  have e : 10 ^ (k + m + 1) = 10 ^ k * 10 ^ m * 10 := by rw [Nat.pow_succ, Nat.pow_add]
  have h1 : p.num.natAbs * q.den < 10 ^ k * 10 ^ m := Nat.mul_lt_mul'' hp.1 hq.2
  have h2 : q.num.natAbs * p.den < 10 ^ m * 10 ^ k := Nat.mul_lt_mul'' hq.1 hp.2
  have h3 : p.den * q.den < 10 ^ k * 10 ^ m := Nat.mul_lt_mul'' hp.2 hq.2
  rw [Nat.mul_comm (10 ^ m)] at h2
  have h4 := Int.natAbs_add_le (p.num * q.den) (q.num * p.den)
  rw [Int.natAbs_mul, Int.natAbs_mul, Int.natAbs_natCast, Int.natAbs_natCast] at h4
  unfold Dg
  rw [e]
  generalize 10 ^ k * 10 ^ m = X at *
  exact ⟨by omega, by omega⟩
theorem Dg.neg {k : Nat} {q : Rat} (h : Dg k q) : Dg k (-q) := ⟨by show (-q.num).natAbs < 10 ^ k; rw [Int.natAbs_neg]; exact h.1, h.2⟩
end Nt
end Go.Proofs.YtpmlhgmmobpilaaGreatDoor

namespace Go.Proofs.YtpmlhgmmobpilaaGreatDoor
open Go.RowKit Go.Shelf
namespace Nt
abbrev uniW (w : World) (g1 : Bool) (n1 d1 : ByteArray) : World := w.alloc (.cells #[.bool g1, .string n1, .string d1] 23)
theorem uniW_below (w : World) (g1 : Bool) (n1 d1 : ByteArray) : Below w.heap.size w (uniW w g1 n1 d1) := (Below.refl _ w).alloc (Nat.le_refl _) _
end Nt
end Go.Proofs.YtpmlhgmmobpilaaGreatDoor

namespace Go.Proofs.YtpmlhgmmobpilaaGreatDoor
open Go.RowKit Go.Shelf
namespace Nt
/-- A row of bytes of the call's own, which may grow. -/
def OwnB (B : Nat) (w : World) (v : Value) (l : List UInt8) : Prop := w.ownsRow B 5 1 v l.length (Lib.byteCells l)
theorem infoB : (Tryz.prog.info? 5).map (fun i => (i.zero, i.size, i.bytes)) = some (some (.int .u8 0), 1, 1) := by kernel_rfl
theorem byteCells_snoc (l : List UInt8) (c : UInt8) : Lib.byteCells l ++ [Value.int .u8 (c.toNat : Int)] = Lib.byteCells (l ++ [c]) := by simp [Lib.byteCells]
theorem OwnB.below {B : Nat} {w w' : World} {v : Value} {l : List UInt8} (h : OwnB B w v l) (hb : Below w.heap.size w w') : OwnB B w' v l := by
  obtain ⟨h1, h2⟩ := h
  refine ⟨h1, ?_⟩
  rcases h2 with h2 | ⟨g, cap, cur, hv, hg, hh, r⟩
  · exact Or.inl h2
  · exact Or.inr ⟨g, cap, cur, hv, hg, by rw [hb.block g (Array.getElem?_eq_some_iff.1 hh).1]; exact hh, r⟩
theorem OwnB.form {B : Nat} {w : World} {v : Value} {l : List UInt8} (h : OwnB B w v l) : (v = .slice none 0 0 ∧ l = []) ∨ ∃ g cap, B ≤ g ∧ v = .slice (some ⟨g, 0, none⟩) l.length cap ∧ ∀ j (hj : j < l.length), w.cell? ⟨g, j, none⟩ = some (.int .u8 (l[j].toNat : Int)) := by
  rcases id h.2 with ⟨h1, h2⟩ | ⟨g, cap, cur, h1, hg, _⟩
  · exact .inl ⟨h1, List.length_eq_zero_iff.1 h2⟩
  · refine .inr ⟨g, cap, hg, h1, fun j hj => ?_⟩
    subst h1
    rw [World.ownsRow.cellAt h j (by omega)]
    simp [Lib.byteCells, hj]
/-- The text of a row of bytes. -/
theorem OwnB.text {B : Nat} {w : World} {v : Value} {l : List UInt8} (h : OwnB B w v l) :
    (convert 171 9 v).run Tryz.prog w = .ok (.string ⟨l.toArray⟩) w := by
  rcases h.form with ⟨rfl, rfl⟩ | ⟨g, cap, _, rfl, hc⟩
  · exact run_convert_bytes_nil w _ _ Tryz.underlying171 Tryz.underlying5 0 0 _ Tryz.underlying9
  · have := run_convert_bytes_arg (P := Tryz.prog) w 171 5 Tryz.underlying171 Tryz.underlying5 g 0 l.length cap (l.map fun c => (c.toNat : Int)) (by simp)
      (fun i hi => by rw [Nat.zero_add, hc i hi]; simp [hi]) 9 Tryz.underlying9
    rw [this]
    have e : (l.map ((fun n : Int => UInt8.ofNat n.toNat) ∘ fun c : UInt8 => (c.toNat : Int))) = l := by
      conv => rhs; rw [← List.map_id l]
      exact List.map_congr_left fun c _ => by simp
    simp only [strOfNums, List.map_map, e]
theorem OwnB.lit (B : Nat) (w : World) (c : UInt8) (hb : B ≤ w.heap.size) : OwnB B (w.alloc (.cells #[.int .u8 (c.toNat : Int)] 5)) (.slice (some ⟨w.heap.size, 0, none⟩) 1 1) [c] :=
  World.ownsRow_lit w #[.int .u8 (c.toNat : Int)] 1 hb (by unfold maxLen; omega) rfl
end Nt
end Go.Proofs.YtpmlhgmmobpilaaGreatDoor

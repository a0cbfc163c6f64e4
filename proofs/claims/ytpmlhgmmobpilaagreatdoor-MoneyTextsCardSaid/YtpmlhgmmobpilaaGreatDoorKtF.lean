/- Texts that the proof needs: MonConv, MonText, MonParse, CirC, CirD, CoA. -/
import Derived.Deep.RegionHeld3
import Derived.Maps.AppendAt
import Derived.Laws.EntriesVeiled
import Derived.ArgAppend
import Derived.Test.YtpmlhgmmobpilaaGreatDoorShelf
import Derived.Laws.CopyOwn
import Derived.Deep.RegionLaw
import Derived.Deep.QuietTactic
import Derived.BigQuiet
import Derived.IntWalk
import Derived.Deep.LoopGhost
import Derived.WalkMore
import Derived.Test.YtpmlhgmmobpilaaGreatDoorKtA
import Derived.Test.YtpmlhgmmobpilaaGreatDoorKtB
import Derived.Test.YtpmlhgmmobpilaaGreatDoorKtC
import Derived.Test.YtpmlhgmmobpilaaGreatDoorKtD
import Derived.Test.YtpmlhgmmobpilaaGreatDoorKtE
namespace Go.Proofs.YtpmlhgmmobpilaaGreatDoor
open Go.RowKit Go.Shelf
namespace Mo
open Nt Ci
def unitB (u : Int) : Bool := decide (-1000000000000 ≤ u) && decide (u ≤ 1000000000000)
def properB (c : ByteArray) (u : Int) : Bool := identB c && unitB u
set_option maxRecDepth 100000 in
theorem proper_any (c : ByteArray) (u : Int) (w : World) (hc : c.size ≤ 140737488355328) : Calls Tryz.prog 55 #[.agg #[.string c, .int .i64 u]] w fun e w' => e = .returned (.bool (properB c u)) ∧ Below w.heap.size w w' := by
  have hB1 : Hid (Below w.heap.size w (w.alloc (.cells #[.string c, .int .i64 u] 35))) := (Below.refl _ w).alloc (Nat.le_refl _) _
  have kc := Lib.hid (isCurrency_w c (w.alloc (.cells #[.string c, .int .i64 u] 35)) (by omega))
  unfold properB unitB
  generalize identB c = b at kc ⊢
  cases b with
  | false =>
    rw [Bool.false_and]
    go_enter Tryz.func55, Tryz.ntmps55
    go_wp2_with fail
    refine kc.out.mono ?_
    rintro e wq ⟨rfl, hq⟩
    obtain rfl := hq.symm
    go_wp2
    go_ret
    exact ⟨rfl, hB1.out⟩
  | true =>
    rw [Bool.true_and]
    cases h1 : decide (-1000000000000 ≤ u) with
    | false =>
      rw [Bool.false_and]
      go_enter Tryz.func55, Tryz.ntmps55
      go_wp2_with fail
      refine kc.out.mono ?_
      rintro e wq ⟨rfl, hq⟩
      obtain rfl := hq.symm
      go_wp2
      go_ret
      exact ⟨rfl, hB1.out⟩
    | true =>
      rw [Bool.true_and]
      cases h2 : decide (u ≤ 1000000000000) with
      | false =>
        go_enter Tryz.func55, Tryz.ntmps55
        go_wp2_with fail
        refine kc.out.mono ?_
        rintro e wq ⟨rfl, hq⟩
        obtain rfl := hq.symm
        go_wp2
        go_ret
        exact ⟨rfl, hB1.out⟩
      | true =>
        go_enter Tryz.func55, Tryz.ntmps55
        go_wp2_with fail
        refine kc.out.mono ?_
        rintro e wq ⟨rfl, hq⟩
        obtain rfl := hq.symm
        go_wp2
        go_ret
        exact ⟨rfl, hB1.out⟩
/-- Block sb holds a rational number. -/
def QB (W : World) (sb : Nat) (q : Rat) : Prop := ∃ g n d, (.agg #[.bool g, .string n, .string d] : Value) = qv q ∧ Bk W sb 23 [.bool g, .string n, .string d]
/-- Conversions, step by step. -/
def cvK (u xn xm ym yn : Int) : Nat → Rat
  | 0 => (u : Rat)
  | 1 => (u : Rat) * ofQ xn xm
  | _ => (u : Rat) * ofQ xn xm * ofQ ym yn
def cvQ (u : Int) (x y : Rt) : Rat := cvK u x.2.2.1 x.2.2.2 y.2.2.2 y.2.2.1 2
def cvV : Option Rat → Value
  | none => zv
  | some q => qv q
/-- What Convert returns. -/
def convR (l : List Rt) (base c : ByteArray) (u : Int) (tc : ByteArray) (day : Int) : Option Rat × Int :=
  if properB c u = true then
    (if (findR l base c day).2 = 0 then (if (findR l base tc day).2 = 0 then (some (cvQ u (findR l base c day).1 (findR l base tc day).1), 0) else (none, (findR l base tc day).2)) else (none, (findR l base c day).2))
  else (none, 1)
theorem ofQ_dg {m n : Int} (hm : 1 ≤ m ∧ m ≤ 1000000) (hn : 1 ≤ n ∧ n ≤ 1000000) : Dg 7 (ofQ m n) := by
  have h := mkRat_le (sg (!(decide (m < 0) == decide (n < 0))) m.natAbs) n.natAbs (by omega)
  rw [sg_natAbs] at h
  refine ⟨Nat.lt_of_le_of_lt h.1 ?_, Nat.lt_of_le_of_lt h.2 ?_⟩ <;> omega
theorem units_dg {u : Int} (h : unitB u = true) : Dg 13 (u : Rat) := by
  unfold unitB at h
  simp only [Bool.and_eq_true, decide_eq_true_eq] at h
  exact ⟨by show u.natAbs < _; omega, by show 1 < _; omega⟩
theorem cvK_short {u xn xm ym yn : Int} (hu : unitB u = true) (h1 : 1 ≤ xn ∧ xn ≤ 1000000) (h2 : 1 ≤ xm ∧ xm ≤ 1000000) (h3 : 1 ≤ ym ∧ ym ≤ 1000000) (h4 : 1 ≤ yn ∧ yn ≤ 1000000) (k : Nat) : ShortQ (cvK u xn xm ym yn k) := by
  have d0 := units_dg hu
  have d1 := d0.mul (ofQ_dg h1 h2)
  have d2 := d1.mul (ofQ_dg h3 h4)
  unfold cvK
  split
  · exact d0.short (by omega)
  · exact d1.short (by omega)
  · exact d2.short (by omega)
theorem find_lim {l : List Rt} {base cur : ByteArray} {day : Int} (h : (findR l base cur day).2 = 0) : (1 ≤ (findR l base cur day).1.2.2.1 ∧ (findR l base cur day).1.2.2.1 ≤ 1000000) ∧ (1 ≤ (findR l base cur day).1.2.2.2 ∧ (findR l base cur day).1.2.2.2 ≤ 1000000) := by
  have := find_ok (l := l) (base := base) (cur := cur) (day := day) (x := (findR l base cur day).1) (Prod.ext rfl h)
  exact ⟨this.1, this.2.1⟩
set_option maxRecDepth 100000 in
set_option maxHeartbeats 8000000 in
theorem Convert_any (l : List Rt) (A : Option Addr) (cap : Nat) (base c : ByteArray) (u : Int) (tc : ByteArray) (day : Int) (w : World) (hE : Env w) (hl : InRt w A l) (hll : l.length ≤ 140737488355328) (hbs : base.size ≤ 140737488355328) (hcs : c.size ≤ 140737488355328) (hts : tc.size ≤ 140737488355328) (hz : RtSz l) :
    Calls Tryz.prog 17 #[.slice A l.length cap, .string base, .agg #[.string c, .int .i64 u], .string tc, .int .i64 day] w fun e w' => e = .returned (.tuple #[cvV (convR l base c u tc day).1, .int .i64 (convR l base c u tc day).2]) ∧ Below w.heap.size w w' := by
  have hB1 : Hid (Below w.heap.size w ((w.alloc (.cells #[.string c, .int .i64 u] 35)).alloc (.cells #[.bool false, .string ⟨#[]⟩, .string ⟨#[]⟩] 23))) := ((Below.refl _ w).alloc (Nat.le_refl _) _).alloc (by simp) _
  have ha1 : Hid (Bk ((w.alloc (.cells #[.string c, .int .i64 u] 35)).alloc (.cells #[.bool false, .string ⟨#[]⟩, .string ⟨#[]⟩] 23)) w.heap.size 35 [.string c, .int .i64 u]) := (Bk.new w _ _).alloc _
  have hr1 : Hid (Bk ((w.alloc (.cells #[.string c, .int .i64 u] 35)).alloc (.cells #[.bool false, .string ⟨#[]⟩, .string ⟨#[]⟩] 23)) (w.heap.size + 1) 23 [.bool false, .string ⟨#[]⟩, .string ⟨#[]⟩]) := by have h := Bk.new (w.alloc (.cells #[.string c, .int .i64 u] 35)) 23 [.bool false, .string ⟨#[]⟩, .string ⟨#[]⟩]; rw [World.size_alloc] at h; exact h
  have kp := Lib.hid (proper_any c u ((w.alloc (.cells #[.string c, .int .i64 u] 35)).alloc (.cells #[.bool false, .string ⟨#[]⟩, .string ⟨#[]⟩] 23)) hcs)
  have kf := Lib.hid (fun cur (hc : cur.size ≤ 140737488355328) W (hW : Below w.heap.size w W) => Find_any l A cap base cur day W (hl.below hW) hll hbs hc hz)
  obtain ⟨res, hres⟩ : ∃ r, r = convR l base c u tc day := ⟨_, rfl⟩
  rw [← hres]
  unfold convR at hres
  have hl1 := @find_lim l base c day; have hl2 := @find_lim l base tc day
  have kf1 := Lib.hid (kf.out c hcs); have kf2 := Lib.hid (kf.out tc hts)
  clear kf
  obtain ⟨fx, hfx⟩ : ∃ x, x = findR l base c day := ⟨_, rfl⟩; obtain ⟨fy, hfy⟩ : ∃ x, x = findR l base tc day := ⟨_, rfl⟩
  simp only [← hfx] at kf1 hl1 hres; simp only [← hfy] at kf2 hl2 hres
  clear hfx hfy
  obtain ⟨⟨xc, xd, xn, xm⟩, ex⟩ := fx; obtain ⟨⟨yc, yd, yn, ym⟩, ey⟩ := fy
  have hpu : properB c u = true → unitB u = true := fun h => by unfold properB at h; rw [Bool.and_eq_true] at h; exact h.2
  generalize properB c u = pb at kp hres hpu
  replace kf1 : Hid (∀ W, Below w.heap.size w W → Calls Tryz.prog 21 #[.slice A l.length cap, .string base, .string c, .int .i64 day] W fun e w' => e = .returned (.tuple #[.agg #[.string xc, .int .i64 xd, .int .i64 xn, .int .i64 xm], .int .i64 ex]) ∧ Below W.heap.size W w') := kf1
  replace kf2 : Hid (∀ W, Below w.heap.size w W → Calls Tryz.prog 21 #[.slice A l.length cap, .string base, .string tc, .int .i64 day] W fun e w' => e = .returned (.tuple #[.agg #[.string yc, .int .i64 yd, .int .i64 yn, .int .i64 ym], .int .i64 ey]) ∧ Below W.heap.size W w') := kf2
  replace hl1 : ex = 0 → (1 ≤ xn ∧ xn ≤ 1000000) ∧ (1 ≤ xm ∧ xm ≤ 1000000) := hl1
  replace hl2 : ey = 0 → (1 ≤ yn ∧ yn ≤ 1000000) ∧ (1 ≤ ym ∧ ym ≤ 1000000) := hl2
  replace hE := Lib.hid hE; replace hl := Lib.hid hl; replace hz := Lib.hid hz; replace hl1 := Lib.hid hl1; replace hl2 := Lib.hid hl2; replace hres := Lib.hid hres; replace hpu := Lib.hid hpu
  go_enter Tryz.func17, Tryz.ntmps17
  have a0 := ha1.out.cell (j := 0) rfl
  have a1 := ha1.out.cell (j := 1) rfl
  have a9 := ha1.out.lt
  go_wp2_with fail
  refine kp.out.mono ?_
  rintro e w2 ⟨rfl, hb⟩
  have hB2 := Lib.hid (hB1.out.trans (hb.mono hB1.out.size)); have ha2 := Lib.hid (ha1.out.below hb); have hr2 := Lib.hid (hr1.out.below hb)
  clear hb hB1 ha1 hr1 a0 a1 a9 kp
  have a0 := ha2.out.cell (j := 0) rfl
  have a1 := ha2.out.cell (j := 1) rfl
  have a9 := ha2.out.lt
  have r0 := hr2.out.cell (j := 0) rfl; have p0 := hr2.out.frozen 0
  have r1 := hr2.out.cell (j := 1) rfl; have p1 := hr2.out.frozen 1
  have r2 := hr2.out.cell (j := 2) rfl; have p2 := hr2.out.frozen 2
  have r9 := hr2.out.lt
  cases pb with
  | false =>
    have hrr : res = (none, 1) := hres.out.trans (if_neg (by decide))
    have hB5 : Hid (Below w.heap.size w (((w2.setCell ⟨w.heap.size + 1, 0, none⟩ (.bool false)).setCell ⟨w.heap.size + 1, 1, none⟩ (.string ⟨#[]⟩)).setCell ⟨w.heap.size + 1, 2, none⟩ (.string ⟨#[]⟩))) := (((hB2.out.setCell (p := ⟨w.heap.size + 1, 0, none⟩) (by simp only []; omega) _).setCell (p := ⟨w.heap.size + 1, 1, none⟩) (by simp only []; omega) _).setCell (p := ⟨w.heap.size + 1, 2, none⟩) (by simp only []; omega) _)
    have hR5 : Hid (Bk (((w2.setCell ⟨w.heap.size + 1, 0, none⟩ (.bool false)).setCell ⟨w.heap.size + 1, 1, none⟩ (.string ⟨#[]⟩)).setCell ⟨w.heap.size + 1, 2, none⟩ (.string ⟨#[]⟩)) (w.heap.size + 1) 23 [.bool false, .string ⟨#[]⟩, .string ⟨#[]⟩]) := ((Bk.set hr2.out 0 (.bool false)).set 1 (.string ⟨#[]⟩)).set 2 (.string ⟨#[]⟩)
    go_wp2
    (try simp only [Exit.inBlock, Exit.then])
    have s0 := hR5.out.cell (j := 0) rfl
    have s1 := hR5.out.cell (j := 1) rfl
    have s2 := hR5.out.cell (j := 2) rfl
    have s9 := hR5.out.lt
    refine bodyPost_ret (v := .tuple #[.agg #[.bool false, .string ⟨#[]⟩, .string ⟨#[]⟩], .int .i64 1]) (by simp [results, Tryz.results17, go_sem, s0, s1, s2]) rfl ⟨by rw [hrr]; rfl, hB5.out⟩
  | true =>
    clear r0 r1 r2 r9 p0 p1 p2
    have hu := hpu.out rfl
    have k1 := Lib.hid (kf1.out w2 hB2.out)
    go_wp2_with fail
    refine k1.out.mono ?_
    rintro e w3 ⟨rfl, hb⟩
    have hB3 := Lib.hid (hB2.out.trans (hb.mono hB2.out.size)); have ha3 := Lib.hid (ha2.out.below hb); have hr3 := Lib.hid (hr2.out.below hb)
    clear hb hB2 ha2 hr2 a0 a1 a9 k1 kf1
    by_cases hex : ex = 0
    rotate_left
    · have hrr : res = (none, ex) := hres.out.trans ((if_pos (by trivial)).trans (if_neg hex))
      have m1 : (ex != 0) = true := by rw [bne_iff_ne]; exact hex
      replace hex := Lib.hid hex
      have r0 := hr3.out.cell (j := 0) rfl; have p0 := hr3.out.frozen 0
      have r1 := hr3.out.cell (j := 1) rfl; have p1 := hr3.out.frozen 1
      have r2 := hr3.out.cell (j := 2) rfl; have p2 := hr3.out.frozen 2
      have r9 := hr3.out.lt
      have hB4 : Hid (Below w.heap.size w (((w3.setCell ⟨w.heap.size + 1, 0, none⟩ (.bool false)).setCell ⟨w.heap.size + 1, 1, none⟩ (.string ⟨#[]⟩)).setCell ⟨w.heap.size + 1, 2, none⟩ (.string ⟨#[]⟩))) := (((hB3.out.setCell (p := ⟨w.heap.size + 1, 0, none⟩) (by simp only []; omega) _).setCell (p := ⟨w.heap.size + 1, 1, none⟩) (by simp only []; omega) _).setCell (p := ⟨w.heap.size + 1, 2, none⟩) (by simp only []; omega) _)
      have hB5 : Hid (Below w.heap.size w ((((w3.setCell ⟨w.heap.size + 1, 0, none⟩ (.bool false)).setCell ⟨w.heap.size + 1, 1, none⟩ (.string ⟨#[]⟩)).setCell ⟨w.heap.size + 1, 2, none⟩ (.string ⟨#[]⟩)).alloc (.cells #[.string xc, .int .i64 xd, .int .i64 xn, .int .i64 xm] 42))) := hB4.out.alloc hB4.out.size _
      have hR5 : Hid (Bk ((((w3.setCell ⟨w.heap.size + 1, 0, none⟩ (.bool false)).setCell ⟨w.heap.size + 1, 1, none⟩ (.string ⟨#[]⟩)).setCell ⟨w.heap.size + 1, 2, none⟩ (.string ⟨#[]⟩)).alloc (.cells #[.string xc, .int .i64 xd, .int .i64 xn, .int .i64 xm] 42)) (w.heap.size + 1) 23 [.bool false, .string ⟨#[]⟩, .string ⟨#[]⟩]) := (((Bk.set hr3.out 0 (.bool false)).set 1 (.string ⟨#[]⟩)).set 2 (.string ⟨#[]⟩)).alloc _
      go_wp2
      (try simp only [Exit.inBlock, Exit.then])
      have s0 := hR5.out.cell (j := 0) rfl
      have s1 := hR5.out.cell (j := 1) rfl
      have s2 := hR5.out.cell (j := 2) rfl
      have s9 := hR5.out.lt
      refine bodyPost_ret (v := .tuple #[.agg #[.bool false, .string ⟨#[]⟩, .string ⟨#[]⟩], .int .i64 ex]) (by simp [results, Tryz.results17, go_sem, s0, s1, s2]) rfl ⟨by rw [hrr]; rfl, hB5.out⟩
    · have hx := hl1.out hex
      have hr0 := hres.out.trans ((if_pos (by trivial)).trans (if_pos hex))
      replace hr0 := Lib.hid hr0
      obtain rfl := hex
      have hB4 : Hid (Below w.heap.size w (w3.alloc (.cells #[.string xc, .int .i64 xd, .int .i64 xn, .int .i64 xm] 42))) := hB3.out.alloc hB3.out.size _
      have ha4 := Lib.hid (ha3.out.alloc (.cells #[.string xc, .int .i64 xd, .int .i64 xn, .int .i64 xm] 42)); have hr4 := Lib.hid (hr3.out.alloc (.cells #[.string xc, .int .i64 xd, .int .i64 xn, .int .i64 xm] 42))
      have hx4 : Hid (Bk (w3.alloc (.cells #[.string xc, .int .i64 xd, .int .i64 xn, .int .i64 xm] 42)) w3.heap.size 42 [.string xc, .int .i64 xd, .int .i64 xn, .int .i64 xm]) := Bk.new _ _ _
      have k2 := Lib.hid (kf2.out (w3.alloc (.cells #[.string xc, .int .i64 xd, .int .i64 xn, .int .i64 xm] 42)) hB4.out)
      clear hB3 ha3 hr3
      go_wp2_with fail
      refine k2.out.mono ?_
      rintro e w5 ⟨rfl, hb⟩
      have hB5 := Lib.hid (hB4.out.trans (hb.mono hB4.out.size)); have ha5 := Lib.hid (ha4.out.below hb); have hr5 := Lib.hid (hr4.out.below hb); have hx5 := Lib.hid (hx4.out.below hb)
      clear hb hB4 ha4 hr4 hx4 k2 kf2
      by_cases hey : ey = 0
      rotate_left
      · have hrr : res = (none, ey) := hr0.out.trans (if_neg hey)
        have m1 : (ey != 0) = true := by rw [bne_iff_ne]; exact hey
        replace hey := Lib.hid hey
        replace hB5 : Hid (Below w.heap.size w w5) := hB5
        have r0 := hr5.out.cell (j := 0) rfl; have p0 := hr5.out.frozen 0
        have r1 := hr5.out.cell (j := 1) rfl; have p1 := hr5.out.frozen 1
        have r2 := hr5.out.cell (j := 2) rfl; have p2 := hr5.out.frozen 2
        have r9 := hr5.out.lt
        have hB4 : Hid (Below w.heap.size w (((w5.setCell ⟨w.heap.size + 1, 0, none⟩ (.bool false)).setCell ⟨w.heap.size + 1, 1, none⟩ (.string ⟨#[]⟩)).setCell ⟨w.heap.size + 1, 2, none⟩ (.string ⟨#[]⟩))) := (((hB5.out.setCell (p := ⟨w.heap.size + 1, 0, none⟩) (by simp only []; omega) _).setCell (p := ⟨w.heap.size + 1, 1, none⟩) (by simp only []; omega) _).setCell (p := ⟨w.heap.size + 1, 2, none⟩) (by simp only []; omega) _)
        have hB6 : Hid (Below w.heap.size w ((((w5.setCell ⟨w.heap.size + 1, 0, none⟩ (.bool false)).setCell ⟨w.heap.size + 1, 1, none⟩ (.string ⟨#[]⟩)).setCell ⟨w.heap.size + 1, 2, none⟩ (.string ⟨#[]⟩)).alloc (.cells #[.string yc, .int .i64 yd, .int .i64 yn, .int .i64 ym] 42))) := hB4.out.alloc hB4.out.size _
        have hR6 : Hid (Bk ((((w5.setCell ⟨w.heap.size + 1, 0, none⟩ (.bool false)).setCell ⟨w.heap.size + 1, 1, none⟩ (.string ⟨#[]⟩)).setCell ⟨w.heap.size + 1, 2, none⟩ (.string ⟨#[]⟩)).alloc (.cells #[.string yc, .int .i64 yd, .int .i64 yn, .int .i64 ym] 42)) (w.heap.size + 1) 23 [.bool false, .string ⟨#[]⟩, .string ⟨#[]⟩]) := (((Bk.set hr5.out 0 (.bool false)).set 1 (.string ⟨#[]⟩)).set 2 (.string ⟨#[]⟩)).alloc _
        go_wp2
        (try simp only [Exit.inBlock, Exit.then])
        have s0 := hR6.out.cell (j := 0) rfl
        have s1 := hR6.out.cell (j := 1) rfl
        have s2 := hR6.out.cell (j := 2) rfl
        have s9 := hR6.out.lt
        refine bodyPost_ret (v := .tuple #[.agg #[.bool false, .string ⟨#[]⟩, .string ⟨#[]⟩], .int .i64 ey]) (by simp [results, Tryz.results17, go_sem, s0, s1, s2]) rfl ⟨by rw [hrr]; rfl, hB6.out⟩
      · have hy := hl2.out hey
        have hrr : Hid (res = (some (cvK u xn xm ym yn 2), 0)) := hr0.out.trans (if_pos hey)
        obtain rfl := hey
        have hsh := Lib.hid (fun k => cvK_short hu hx.1 hx.2 hy.2 hy.1 k)
        have hdx := Lib.hid ((ofQ_dg hx.1 hx.2).short (by omega)); have hdy := Lib.hid ((ofQ_dg hy.2 hy.1).short (by omega))
        have hu2 : -1000000000000 ≤ u ∧ u ≤ 1000000000000 := by unfold unitB at hu; simpa using hu
        obtain ⟨⟨x1, x2⟩, x3, x4⟩ := hx; obtain ⟨⟨y1, y2⟩, y3, y4⟩ := hy; obtain ⟨u1, u2⟩ := hu2
        clear hr0 hres hl1 hl2 hpu
        have hB6 : Hid (Below w.heap.size w (w5.alloc (.cells #[.string yc, .int .i64 yd, .int .i64 yn, .int .i64 ym] 42))) := hB5.out.alloc hB5.out.size _
        have hr6 := Lib.hid (hr5.out.alloc (.cells #[.string yc, .int .i64 yd, .int .i64 yn, .int .i64 ym] 42)); have hx6 := Lib.hid (hx5.out.alloc (.cells #[.string yc, .int .i64 yd, .int .i64 yn, .int .i64 ym] 42))
        have hy6 : Hid (Bk (w5.alloc (.cells #[.string yc, .int .i64 yd, .int .i64 yn, .int .i64 ym] 42)) w5.heap.size 42 [.string yc, .int .i64 yd, .int .i64 yn, .int .i64 ym]) := Bk.new _ _ _
        obtain ⟨g0, n0, d0, q0⟩ := agg_qv (u : Rat)
        have ko1 : Hid (Calls Tryz.prog 46 #[.int .i64 u, .int .i64 1] (w5.alloc (.cells #[.string yc, .int .i64 yd, .int .i64 yn, .int .i64 ym] 42)) fun e w' => e = .returned (.tuple #[.agg #[.bool g0, .string n0, .string d0], .int .i64 0]) ∧ Below ((w5.alloc (.cells #[.string yc, .int .i64 yd, .int .i64 yn, .int .i64 ym] 42))).heap.size (w5.alloc (.cells #[.string yc, .int .i64 yd, .int .i64 yn, .int .i64 ym] 42)) w') := by have h := RatOf_any u 1 (by omega) (by omega) (by omega) (by omega) (by omega) (w5.alloc (.cells #[.string yc, .int .i64 yd, .int .i64 yn, .int .i64 ym] 42)) (hE.out.below hB6.out); rw [ofQ_one, q0] at h; exact h
        have a0 := ha5.out.cell (j := 0) rfl
        have a1 := ha5.out.cell (j := 1) rfl
        have a9 := ha5.out.lt
        clear hB5 ha5 hr5 hx5
        go_wp2_with fail
        refine ko1.out.mono ?_
        rintro e w7 ⟨rfl, hb⟩
        have hB7 := Lib.hid (hB6.out.trans (hb.mono hB6.out.size)); have hr7 := Lib.hid (hr6.out.below hb); have hx7 := Lib.hid (hx6.out.below hb); have hy7 := Lib.hid (hy6.out.below hb)
        clear hb hB6 hr6 hx6 hy6 ko1 a0 a1 a9
        have x20 := hx7.out.cell (j := 2) rfl; have y20 := hy7.out.cell (j := 2) rfl
        have x30 := hx7.out.cell (j := 3) rfl; have y30 := hy7.out.cell (j := 3) rfl
        have x90 := hx7.out.lt; have y90 := hy7.out.lt
        have hsv : Hid (Bk ((w7.alloc (.cells #[.bool g0, .string n0, .string d0] 23)).alloc (.cells #[.int .i64 xn, .int .i64 xm, .int .i64 ym, .int .i64 yn] 78)) (w7.heap.size + 1) 78 [.int .i64 xn, .int .i64 xm, .int .i64 ym, .int .i64 yn]) := by have h := Bk.new (w7.alloc (.cells #[.bool g0, .string n0, .string d0] 23)) 78 [.int .i64 xn, .int .i64 xm, .int .i64 ym, .int .i64 yn]; rw [World.size_alloc] at h; exact h
        have hqv : Hid (QB ((w7.alloc (.cells #[.bool g0, .string n0, .string d0] 23)).alloc (.cells #[.int .i64 xn, .int .i64 xm, .int .i64 ym, .int .i64 yn] 78)) w7.heap.size (cvK u xn xm ym yn 0)) := ⟨g0, n0, d0, q0.symm, (Bk.new _ _ _).alloc _⟩
        have hB8 : Hid (Below w.heap.size w ((w7.alloc (.cells #[.bool g0, .string n0, .string d0] 23)).alloc (.cells #[.int .i64 xn, .int .i64 xm, .int .i64 ym, .int .i64 yn] 78))) := (hB7.out.alloc hB7.out.size _).alloc (by have := hB7.out.size; simp; omega) _
        have hr8 := Lib.hid ((hr7.out.alloc (.cells #[.bool g0, .string n0, .string d0] 23)).alloc (.cells #[.int .i64 xn, .int .i64 xm, .int .i64 ym, .int .i64 yn] 78))
        have hwv : Hid (w.heap.size + 1 < w7.heap.size) := hr7.out.lt
        go_wp2_with fail
        clear hB7 hr7 hx7 hy7 x20 x30 y20 y30 x90 y90
        go_loopw [68] (fun ix wr => ∃ (k : Nat), k ≤ 2 ∧ ix = .int .i64 (k : Int) ∧ Hid (Below w.heap.size w wr) ∧ Hid (QB wr w7.heap.size (cvK u xn xm ym yn k)) ∧ Hid (Bk wr (w7.heap.size + 1) 78 [.int .i64 xn, .int .i64 xm, .int .i64 ym, .int .i64 yn]) ∧ Hid (Bk wr (w.heap.size + 1) 23 [.bool false, .string ⟨#[]⟩, .string ⟨#[]⟩])) (fun ix _ => 2 - (intOf ix).toNat)
        case atStart => exact ⟨0, by omega, rfl, hB8, hqv, hsv, hr8⟩
        case round =>
          obtain ⟨k, hk, rfl, hB, hQ, hS, hR⟩ := hrel
          clear hB8 hqv hsv hr8
          obtain ⟨wz, rfl⟩ : ∃ z, z = wr := ⟨_, rfl⟩
          obtain ⟨g1, n1, d1, hq1, hs1⟩ := hQ.out
          replace hs1 := Lib.hid hs1
          clear hQ
          rcases (by omega : k = 0 ∨ k = 1 ∨ k = 2) with rfl | rfl | rfl
          · obtain ⟨g2, n2, d2, q2⟩ := agg_qv (ofQ xn xm)
            obtain ⟨g3, n3, d3, q3⟩ := agg_qv (cvK u xn xm ym yn 1)
            have kO : Hid (∀ W, Env W → Calls Tryz.prog 46 #[.int .i64 xn, .int .i64 xm] W fun e w' => e = .returned (.tuple #[.agg #[.bool g2, .string n2, .string d2], .int .i64 0]) ∧ Below W.heap.size W w') := fun W hW => by have h := RatOf_any xn xm (by omega) (by omega) (by omega) (by omega) (by omega) W hW; rw [q2] at h; exact h
            have kM : Hid (∀ W, Env W → Calls Tryz.prog 19 #[.agg #[.bool g1, .string n1, .string d1], .agg #[.bool g2, .string n2, .string d2]] W fun e w' => e = .returned (.tuple #[.agg #[.bool g3, .string n3, .string d3], .int .i64 0]) ∧ Below W.heap.size W w') := fun W hW => by have h := Mul_short (cvK u xn xm ym yn 0) (ofQ xn xm) (hsh.out 0) hdx.out W hW; rw [show cvK u xn xm ym yn 0 * ofQ xn xm = cvK u xn xm ym yn 1 from rfl, ← hq1, q2, q3] at h; exact h
            clear hq1 q2
            have e0 : wz.cell? ⟨w7.heap.size + 1, 0, none⟩ = some (.int .i64 xn) := hS.out.cell (j := 0) rfl; have e1 : wz.cell? ⟨w7.heap.size + 1, 1, none⟩ = some (.int .i64 xm) := hS.out.cell (j := 1) rfl; have e9 := hS.out.lt
            have hB9 : Hid (Below w.heap.size w (wz.alloc (.cells #[.int .i64 xn, .int .i64 xm] 78))) := hB.out.alloc hB.out.size _
            have hs9 := Lib.hid (hs1.out.alloc (.cells #[.int .i64 xn, .int .i64 xm] 78)); have hS9 := Lib.hid (hS.out.alloc (.cells #[.int .i64 xn, .int .i64 xm] 78)); have hR9 := Lib.hid (hR.out.alloc (.cells #[.int .i64 xn, .int .i64 xm] 78))
            have kO9 := Lib.hid (kO.out (wz.alloc (.cells #[.int .i64 xn, .int .i64 xm] 78)) (hE.out.below hB9.out))
            clear hB hs1 hS hR kO
            go_wp2_with fail
            refine kO9.out.mono ?_
            rintro e w10 ⟨rfl, hb⟩
            have hB10 := Lib.hid (hB9.out.trans (hb.mono hB9.out.size)); have hs10 := Lib.hid (hs9.out.below hb); have hS10 := Lib.hid (hS9.out.below hb); have hR10 := Lib.hid (hR9.out.below hb)
            clear hb hB9 hs9 hS9 hR9 kO9 e0 e1 e9
            have hB11 : Hid (Below w.heap.size w (w10.alloc (.cells #[.bool g2, .string n2, .string d2] 23))) := hB10.out.alloc hB10.out.size _
            have hs11 := Lib.hid (hs10.out.alloc (.cells #[.bool g2, .string n2, .string d2] 23)); have hS11 := Lib.hid (hS10.out.alloc (.cells #[.bool g2, .string n2, .string d2] 23)); have hR11 := Lib.hid (hR10.out.alloc (.cells #[.bool g2, .string n2, .string d2] 23))
            have kM11 := Lib.hid (kM.out (w10.alloc (.cells #[.bool g2, .string n2, .string d2] 23)) (hE.out.below hB11.out))
            have v0 := hs10.out.cell (j := 0) rfl; have v1 := hs10.out.cell (j := 1) rfl; have v2 := hs10.out.cell (j := 2) rfl; have v9 := hs10.out.lt
            clear hB10 hs10 hS10 hR10 kM
            go_wp2_with fail
            refine kM11.out.mono ?_
            rintro e w12 ⟨rfl, hb⟩
            have hB12 := Lib.hid (hB11.out.trans (hb.mono hB11.out.size)); have hs12 := Lib.hid (hs11.out.below hb); have hS12 := Lib.hid (hS11.out.below hb); have hR12 := Lib.hid (hR11.out.below hb)
            clear hb hB11 hs11 hS11 hR11 kM11 v0 v1 v2 v9
            have hB13 : Hid (Below w.heap.size w (((w12.setCell ⟨w7.heap.size, 0, none⟩ (.bool g3)).setCell ⟨w7.heap.size, 1, none⟩ (.string n3)).setCell ⟨w7.heap.size, 2, none⟩ (.string d3))) := ((hB12.out.setCell (p := ⟨w7.heap.size, 0, none⟩) (by have := hwv.out; simp only []; omega) _).setCell (p := ⟨w7.heap.size, 1, none⟩) (by have := hwv.out; simp only []; omega) _).setCell (p := ⟨w7.heap.size, 2, none⟩) (by have := hwv.out; simp only []; omega) _
            have hQ13 : Hid (QB (((w12.setCell ⟨w7.heap.size, 0, none⟩ (.bool g3)).setCell ⟨w7.heap.size, 1, none⟩ (.string n3)).setCell ⟨w7.heap.size, 2, none⟩ (.string d3)) w7.heap.size (cvK u xn xm ym yn 1)) := ⟨g3, n3, d3, q3.symm, ((hs12.out.set 0 (.bool g3)).set 1 (.string n3)).set 2 (.string d3)⟩
            have hS13 : Hid (Bk (((w12.setCell ⟨w7.heap.size, 0, none⟩ (.bool g3)).setCell ⟨w7.heap.size, 1, none⟩ (.string n3)).setCell ⟨w7.heap.size, 2, none⟩ (.string d3)) (w7.heap.size + 1) 78 [.int .i64 xn, .int .i64 xm, .int .i64 ym, .int .i64 yn]) := ((hS12.out.far (p := ⟨w7.heap.size, 0, none⟩) (by simp) _).far (p := ⟨w7.heap.size, 1, none⟩) (by simp) _).far (p := ⟨w7.heap.size, 2, none⟩) (by simp) _
            have hR13 : Hid (Bk (((w12.setCell ⟨w7.heap.size, 0, none⟩ (.bool g3)).setCell ⟨w7.heap.size, 1, none⟩ (.string n3)).setCell ⟨w7.heap.size, 2, none⟩ (.string d3)) (w.heap.size + 1) 23 [.bool false, .string ⟨#[]⟩, .string ⟨#[]⟩]) := ((hR12.out.far (p := ⟨w7.heap.size, 0, none⟩) (by have := hwv.out; simp only []; omega) _).far (p := ⟨w7.heap.size, 1, none⟩) (by have := hwv.out; simp only []; omega) _).far (p := ⟨w7.heap.size, 2, none⟩) (by have := hwv.out; simp only []; omega) _
            have v0 := hs12.out.cell (j := 0) rfl; have v1 := hs12.out.cell (j := 1) rfl; have v2 := hs12.out.cell (j := 2) rfl; have v9 := hs12.out.lt; have f0 := hs12.out.frozen 0; have f1 := hs12.out.frozen 1; have f2 := hs12.out.frozen 2
            go_wp2
            exact ⟨⟨1, by omega, by go_num, hB13, hQ13, hS13, hR13⟩, by simp only [intOf]; omega⟩
          · obtain ⟨g2, n2, d2, q2⟩ := agg_qv (ofQ ym yn)
            obtain ⟨g3, n3, d3, q3⟩ := agg_qv (cvK u xn xm ym yn 2)
            have kO : Hid (∀ W, Env W → Calls Tryz.prog 46 #[.int .i64 ym, .int .i64 yn] W fun e w' => e = .returned (.tuple #[.agg #[.bool g2, .string n2, .string d2], .int .i64 0]) ∧ Below W.heap.size W w') := fun W hW => by have h := RatOf_any ym yn (by omega) (by omega) (by omega) (by omega) (by omega) W hW; rw [q2] at h; exact h
            have kM : Hid (∀ W, Env W → Calls Tryz.prog 19 #[.agg #[.bool g1, .string n1, .string d1], .agg #[.bool g2, .string n2, .string d2]] W fun e w' => e = .returned (.tuple #[.agg #[.bool g3, .string n3, .string d3], .int .i64 0]) ∧ Below W.heap.size W w') := fun W hW => by have h := Mul_short (cvK u xn xm ym yn 1) (ofQ ym yn) (hsh.out 1) hdy.out W hW; rw [show cvK u xn xm ym yn 1 * ofQ ym yn = cvK u xn xm ym yn 2 from rfl, ← hq1, q2, q3] at h; exact h
            clear hq1 q2
            have e0 : wz.cell? ⟨w7.heap.size + 1, 2, none⟩ = some (.int .i64 ym) := hS.out.cell (j := 2) rfl; have e1 : wz.cell? ⟨w7.heap.size + 1, 3, none⟩ = some (.int .i64 yn) := hS.out.cell (j := 3) rfl; have e9 := hS.out.lt
            have hB9 : Hid (Below w.heap.size w (wz.alloc (.cells #[.int .i64 ym, .int .i64 yn] 78))) := hB.out.alloc hB.out.size _
            have hs9 := Lib.hid (hs1.out.alloc (.cells #[.int .i64 ym, .int .i64 yn] 78)); have hS9 := Lib.hid (hS.out.alloc (.cells #[.int .i64 ym, .int .i64 yn] 78)); have hR9 := Lib.hid (hR.out.alloc (.cells #[.int .i64 ym, .int .i64 yn] 78))
            have kO9 := Lib.hid (kO.out (wz.alloc (.cells #[.int .i64 ym, .int .i64 yn] 78)) (hE.out.below hB9.out))
            clear hB hs1 hS hR kO
            go_wp2_with fail
            refine kO9.out.mono ?_
            rintro e w10 ⟨rfl, hb⟩
            have hB10 := Lib.hid (hB9.out.trans (hb.mono hB9.out.size)); have hs10 := Lib.hid (hs9.out.below hb); have hS10 := Lib.hid (hS9.out.below hb); have hR10 := Lib.hid (hR9.out.below hb)
            clear hb hB9 hs9 hS9 hR9 kO9 e0 e1 e9
            have hB11 : Hid (Below w.heap.size w (w10.alloc (.cells #[.bool g2, .string n2, .string d2] 23))) := hB10.out.alloc hB10.out.size _
            have hs11 := Lib.hid (hs10.out.alloc (.cells #[.bool g2, .string n2, .string d2] 23)); have hS11 := Lib.hid (hS10.out.alloc (.cells #[.bool g2, .string n2, .string d2] 23)); have hR11 := Lib.hid (hR10.out.alloc (.cells #[.bool g2, .string n2, .string d2] 23))
            have kM11 := Lib.hid (kM.out (w10.alloc (.cells #[.bool g2, .string n2, .string d2] 23)) (hE.out.below hB11.out))
            have v0 := hs10.out.cell (j := 0) rfl; have v1 := hs10.out.cell (j := 1) rfl; have v2 := hs10.out.cell (j := 2) rfl; have v9 := hs10.out.lt
            clear hB10 hs10 hS10 hR10 kM
            go_wp2_with fail
            refine kM11.out.mono ?_
            rintro e w12 ⟨rfl, hb⟩
            have hB12 := Lib.hid (hB11.out.trans (hb.mono hB11.out.size)); have hs12 := Lib.hid (hs11.out.below hb); have hS12 := Lib.hid (hS11.out.below hb); have hR12 := Lib.hid (hR11.out.below hb)
            clear hb hB11 hs11 hS11 hR11 kM11 v0 v1 v2 v9
            have hB13 : Hid (Below w.heap.size w (((w12.setCell ⟨w7.heap.size, 0, none⟩ (.bool g3)).setCell ⟨w7.heap.size, 1, none⟩ (.string n3)).setCell ⟨w7.heap.size, 2, none⟩ (.string d3))) := ((hB12.out.setCell (p := ⟨w7.heap.size, 0, none⟩) (by have := hwv.out; simp only []; omega) _).setCell (p := ⟨w7.heap.size, 1, none⟩) (by have := hwv.out; simp only []; omega) _).setCell (p := ⟨w7.heap.size, 2, none⟩) (by have := hwv.out; simp only []; omega) _
            have hQ13 : Hid (QB (((w12.setCell ⟨w7.heap.size, 0, none⟩ (.bool g3)).setCell ⟨w7.heap.size, 1, none⟩ (.string n3)).setCell ⟨w7.heap.size, 2, none⟩ (.string d3)) w7.heap.size (cvK u xn xm ym yn 2)) := ⟨g3, n3, d3, q3.symm, ((hs12.out.set 0 (.bool g3)).set 1 (.string n3)).set 2 (.string d3)⟩
            have hS13 : Hid (Bk (((w12.setCell ⟨w7.heap.size, 0, none⟩ (.bool g3)).setCell ⟨w7.heap.size, 1, none⟩ (.string n3)).setCell ⟨w7.heap.size, 2, none⟩ (.string d3)) (w7.heap.size + 1) 78 [.int .i64 xn, .int .i64 xm, .int .i64 ym, .int .i64 yn]) := ((hS12.out.far (p := ⟨w7.heap.size, 0, none⟩) (by simp) _).far (p := ⟨w7.heap.size, 1, none⟩) (by simp) _).far (p := ⟨w7.heap.size, 2, none⟩) (by simp) _
            have hR13 : Hid (Bk (((w12.setCell ⟨w7.heap.size, 0, none⟩ (.bool g3)).setCell ⟨w7.heap.size, 1, none⟩ (.string n3)).setCell ⟨w7.heap.size, 2, none⟩ (.string d3)) (w.heap.size + 1) 23 [.bool false, .string ⟨#[]⟩, .string ⟨#[]⟩]) := ((hR12.out.far (p := ⟨w7.heap.size, 0, none⟩) (by have := hwv.out; simp only []; omega) _).far (p := ⟨w7.heap.size, 1, none⟩) (by have := hwv.out; simp only []; omega) _).far (p := ⟨w7.heap.size, 2, none⟩) (by have := hwv.out; simp only []; omega) _
            have v0 := hs12.out.cell (j := 0) rfl; have v1 := hs12.out.cell (j := 1) rfl; have v2 := hs12.out.cell (j := 2) rfl; have v9 := hs12.out.lt; have f0 := hs12.out.frozen 0; have f1 := hs12.out.frozen 1; have f2 := hs12.out.frozen 2
            go_wp2
            exact ⟨⟨2, by omega, by go_num, hB13, hQ13, hS13, hR13⟩, by simp only [intOf]; omega⟩
          · have hfin : Hid (Ending.returned (.tuple #[.agg #[.bool g1, .string n1, .string d1], .int .i64 0]) = .returned (.tuple #[cvV res.1, .int .i64 res.2])) := by rw [hrr.out, hq1]; rfl
            replace hq1 := Lib.hid hq1
            have v0 := hs1.out.cell (j := 0) rfl; have v1 := hs1.out.cell (j := 1) rfl; have v2 := hs1.out.cell (j := 2) rfl; have v9 := hs1.out.lt
            have hne : w.heap.size + 1 ≠ w7.heap.size := Nat.ne_of_lt hwv.out; have hne2 : w7.heap.size ≠ w.heap.size + 1 := Ne.symm hne
            have r0 := hR.out.cell (j := 0) rfl; have p0 := hR.out.frozen 0
            have r1 := hR.out.cell (j := 1) rfl; have p1 := hR.out.frozen 1
            have r2 := hR.out.cell (j := 2) rfl; have p2 := hR.out.frozen 2
            have r9 := hR.out.lt
            have hB5 : Hid (Below w.heap.size w (((wz.setCell ⟨w.heap.size + 1, 0, none⟩ (.bool g1)).setCell ⟨w.heap.size + 1, 1, none⟩ (.string n1)).setCell ⟨w.heap.size + 1, 2, none⟩ (.string d1))) := (((hB.out.setCell (p := ⟨w.heap.size + 1, 0, none⟩) (by simp only []; omega) _).setCell (p := ⟨w.heap.size + 1, 1, none⟩) (by simp only []; omega) _).setCell (p := ⟨w.heap.size + 1, 2, none⟩) (by simp only []; omega) _)
            have hR5 : Hid (Bk (((wz.setCell ⟨w.heap.size + 1, 0, none⟩ (.bool g1)).setCell ⟨w.heap.size + 1, 1, none⟩ (.string n1)).setCell ⟨w.heap.size + 1, 2, none⟩ (.string d1)) (w.heap.size + 1) 23 [.bool g1, .string n1, .string d1]) := ((Bk.set hR.out 0 (.bool g1)).set 1 (.string n1)).set 2 (.string d1)
            go_wp2
            (try simp only [Exit.inBlock, Exit.then])
            have s0 := hR5.out.cell (j := 0) rfl
            have s1 := hR5.out.cell (j := 1) rfl
            have s2 := hR5.out.cell (j := 2) rfl
            have s9 := hR5.out.lt
            refine bodyPost_ret (v := .tuple #[.agg #[.bool g1, .string n1, .string d1], .int .i64 0]) (by simp [results, Tryz.results17, go_sem, s0, s1, s2]) rfl ⟨hfin.out, hB5.out⟩
end Mo
end Go.Proofs.YtpmlhgmmobpilaaGreatDoor

namespace Go.Proofs.YtpmlhgmmobpilaaGreatDoor
open Go.RowKit Go.Shelf
namespace Mo
open Nt Ci
/-- The text of an amount. -/
def textA (c : ByteArray) (u : Int) : ByteArray := c ++ ⟨#[32]⟩ ++ ⟨(Lib.itoa u).toArray⟩
def textR (c : ByteArray) (u : Int) : ByteArray × Int := if properB c u = true then (textA c u, 0) else (⟨#[]⟩, 1)
theorem proper_parts {c : ByteArray} {u : Int} (h : properB c u = true) : identB c = true ∧ c.size ≤ 24 ∧ 0 < c.size ∧ -1000000000000 ≤ u ∧ u ≤ 1000000000000 := by
  unfold properB unitB at h
  simp only [Bool.and_eq_true, decide_eq_true_eq] at h
  have h1 := h.1
  unfold identB at h1
  simp only [Bool.and_eq_true, decide_eq_true_eq] at h1
  exact ⟨h.1, h1.2.2, h1.2.1, h.2.1, h.2.2⟩
theorem itoa_len {u : Int} (h0 : -1000000000000 ≤ u) (h1 : u ≤ 1000000000000) : (Lib.itoa u).length ≤ 20 := by
  unfold Lib.itoa
  split
  · have := (decDigits_len_iff u.natAbs 14 (by omega)).2 (by omega)
    rw [List.length_cons]; omega
  · have := (decDigits_len_iff u.toNat 14 (by omega)).2 (by omega)
    omega
set_option maxRecDepth 100000 in
theorem Text_any (c : ByteArray) (u : Int) (w : World) (hE : Env w) (hc : c.size ≤ 140737488355328) :
    Calls Tryz.prog 38 #[.agg #[.string c, .int .i64 u]] w fun e w' => e = .returned (.tuple #[.string (textR c u).1, .int .i64 (textR c u).2]) ∧ Below w.heap.size w w' := by
  have hB1 : Hid (Below w.heap.size w (w.alloc (.cells #[.string c, .int .i64 u] 35))) := (Below.refl _ w).alloc (Nat.le_refl _) _
  have ha1 : Hid (Bk (w.alloc (.cells #[.string c, .int .i64 u] 35)) w.heap.size 35 [.string c, .int .i64 u]) := Bk.new w _ _
  have kp := Lib.hid (proper_any c u (w.alloc (.cells #[.string c, .int .i64 u] 35)) hc)
  have a0 := ha1.out.cell (j := 0) rfl
  have a1 := ha1.out.cell (j := 1) rfl
  have a9 := ha1.out.lt
  cases hp : properB c u with
  | false =>
    have hr : textR c u = (⟨#[]⟩, 1) := if_neg (by rw [hp]; decide)
    rw [hr]
    rw [hp] at kp
    clear hp hr
    go_enter Tryz.func38, Tryz.ntmps38
    go_wp2_with fail
    refine kp.out.mono ?_
    rintro e w2 ⟨rfl, hb⟩
    have hB2 := Lib.hid (hB1.out.trans (hb.mono hB1.out.size))
    clear hb
    go_wp2
    go_ret2
    exact ⟨rfl, hB2.out⟩
  | true =>
    have hr : textR c u = (textA c u, 0) := if_pos hp
    obtain ⟨_, z1, z2, z3, z4⟩ := proper_parts hp
    rw [hr]
    rw [hp] at kp
    clear hp hr
    have ki := Lib.hid (fun W (h : Env W) => itoa_any u (by omega) (by omega) W h.tab)
    replace hE := Lib.hid hE
    have hta : Hid (textA c u = c ++ ⟨#[32]⟩ ++ ⟨(Lib.itoa u).toArray⟩) := rfl
    have hil := itoa_len z3 z4
    generalize Lib.itoa u = it at ki hta hil
    go_enter Tryz.func38, Tryz.ntmps38
    go_wp2_with fail
    refine kp.out.mono ?_
    rintro e w2 ⟨rfl, hb⟩
    have hB2 := Lib.hid (hB1.out.trans (hb.mono hB1.out.size))
    have ha2 := Lib.hid (ha1.out.below hb)
    have ha2d : Hid (Bk w2.drew w.heap.size 35 [.string c, .int .i64 u]) := ha2.out.below (Below.refl _ _).drew
    have hB2d : Hid (Below w.heap.size w w2.drew) := hB2.out.drew
    clear hb a0 a1 a9 kp
    have a0 := ha2.out.cell (j := 0) rfl
    have a1 := ha2.out.cell (j := 1) rfl
    have a9 := ha2.out.lt
    go_wp2_with fail
    have hn1 : ¬ 9223372036854775807 < c.size + 1 := by omega
    have hn2 : ¬ 9223372036854775807 < c.size + 1 + it.length := by omega
    go_region_held3 (fun w' => w'.cell? ⟨w.heap.size, 0, none⟩ = some (.string c) ∧ w'.cell? ⟨w.heap.size, 1, none⟩ = some (.int .i64 u)) (first | (with_reducible exact ⟨ha2.out.cell (j := 0) rfl, ha2.out.cell (j := 1) rfl⟩) | (with_reducible exact ⟨ha2d.out.cell (j := 0) rfl, ha2d.out.cell (j := 1) rfl⟩) | (with_reducible exact ⟨ha3.out.cell (j := 0) rfl, ha3.out.cell (j := 1) rfl⟩) | go_keep)
      (first | (go_at_call 89; refine (ki.out _ (hE.out.below hB2d.out)).mono ?_; rintro e w3 ⟨rfl, hb⟩; have hB3 := Lib.hid (hB2d.out.trans (hb.mono hB2d.out.size)); have ha3 := Lib.hid (ha2d.out.below hb); clear hb))
    go_wp2
    go_ret2
    exact ⟨by rw [hta.out]; rfl, hB3.out⟩
end Mo
end Go.Proofs.YtpmlhgmmobpilaaGreatDoor

namespace Go.Proofs.YtpmlhgmmobpilaaGreatDoor
open Go.RowKit Go.Shelf
namespace Mo
open Nt Ci
def cutC (t : ByteArray) : ByteArray := ⟨(Lib.cut t.data.toList [32]).1.toArray⟩
def cutD (t : ByteArray) : ByteArray := ⟨(Lib.cut t.data.toList [32]).2.1.toArray⟩
def cutY (t : ByteArray) : Bool := (Lib.cut t.data.toList [32]).2.2
def numO (t : ByteArray) : Option Int := match Lib.atoiAll t.data.toList with
  | .ok n => some n
  | _ => none
/-- What Parse returns. -/
def parseR (t : ByteArray) : (ByteArray × Int) × Int := match numO (cutD t) with
  | some n => if (textR (cutC t) n).2 = 0 ∧ (textR (cutC t) n).1 = t then ((cutC t, n), 0) else ((⟨#[]⟩, 0), 5)
  | none => ((⟨#[]⟩, 0), 5)
theorem cutS_any (t : ByteArray) (w : World) (hE : REnv w) (ht : t.size ≤ 1000000) : Calls Tryz.prog 91 #[.string t, .string ⟨#[32]⟩] w fun e w' => e = .returned (.tuple #[.string (cutC t), .string (cutD t), .bool (cutY t)]) ∧ Below w.heap.size w w' := by
  obtain ⟨m, hm⟩ := hE.2
  refine (Tryz.strings_Cut t ⟨#[32]⟩ m w (by omega) hm).mono ?_
  rintro e w' ⟨rfl, k, rfl⟩
  exact ⟨rfl, blw_drewN (Below.refl _ _) k⟩
theorem cutl_len (l : List UInt8) : (Lib.cut l [32]).1.length ≤ l.length ∧ (Lib.cut l [32]).2.1.length ≤ l.length := by
  unfold Lib.cut
  split
  · exact ⟨by simp; omega, by simp⟩
  · exact ⟨Nat.le_refl _, Nat.zero_le _⟩
theorem cut_sizes (t : ByteArray) : (cutC t).size ≤ t.size ∧ (cutD t).size ≤ t.size := by
  have h := cutl_len t.data.toList
  rw [← Lib.size_eq] at h
  exact ⟨by rw [Lib.size_eq]; exact h.1, by rw [Lib.size_eq]; exact h.2⟩
/-- Atoi at any text. -/
theorem Atoi_some (s : ByteArray) (w : World) (hE : Env w) (hs : s.size ≤ 1000000) :
    Calls Tryz.prog 92 #[.string s] w fun e w' => ((∃ n, numO s = some n ∧ e = .returned (.tuple #[.int .i64 n, .nilIface])) ∨ (∃ (z : Int) (N : Nat), numO s = none ∧ e = .returned (.tuple #[.int .i64 z, .iface 174 (.pointer (some ⟨N, 0, none⟩))]))) ∧ Below w.heap.size w w' := by
  cases h : Lib.atoiAll s.data.toList
  · rename_i n
    refine (atoi_ok s n hs h w hE).mono ?_
    rintro e w' ⟨rfl, hb⟩
    exact ⟨.inl ⟨n, by unfold numO; rw [h], rfl⟩, hb⟩
  · obtain ⟨tp, p, hv⟩ := hE.syn
    have hk := Any.strconv_Atoi_syntax_var Tryz.laysC172 s (by omega) h tp p w hv
    refine Calls.mono (show Calls Tryz.prog 92 #[.string s] w _ from hk) ?_
    rintro e w' ⟨N, rfl, _, _, hb⟩
    exact ⟨.inr ⟨0, N, by unfold numO; rw [h], rfl⟩, hb⟩
  · refine (atoi_bad s hs h w hE).mono ?_
    rintro e w' ⟨z, N, rfl, hb⟩
    exact ⟨.inr ⟨z, N, by unfold numO; rw [h], rfl⟩, hb⟩
set_option maxRecDepth 100000 in
set_option maxHeartbeats 8000000 in
theorem MParse_any (t : ByteArray) (w : World) (hE : REnv w) (ht : t.size ≤ 1000000) :
    Calls Tryz.prog 40 #[.string t] w fun e w' => e = .returned (.tuple #[.agg #[.string (parseR t).1.1, .int .i64 (parseR t).1.2], .int .i64 (parseR t).2]) ∧ Below w.heap.size w w' := by
  have hB1 : Hid (Below w.heap.size w (w.alloc (.cells #[.string ⟨#[]⟩, .int .i64 0] 35))) := (Below.refl _ w).alloc (Nat.le_refl _) _
  have hr1 : Hid (Bk (w.alloc (.cells #[.string ⟨#[]⟩, .int .i64 0] 35)) w.heap.size 35 [.string ⟨#[]⟩, .int .i64 0]) := Bk.new w _ _
  have kc := Lib.hid (cutS_any t (w.alloc (.cells #[.string ⟨#[]⟩, .int .i64 0] 35)) (hE.below hB1.out) ht)
  have hsz := cut_sizes t
  have ka := Lib.hid (fun W (h : Env W) => Atoi_some (cutD t) W h (by omega))
  have kt := Lib.hid (fun n W (h : Env W) => Text_any (cutC t) n W h (by omega))
  have hp0 : Hid (numO (cutD t) = none → parseR t = ((⟨#[]⟩, 0), 5)) := fun h => by unfold parseR; rw [h]
  have hp1 : Hid (∀ n, numO (cutD t) = some n → (textR (cutC t) n).2 = 0 → (textR (cutC t) n).1 = t → parseR t = ((cutC t, n), 0)) := fun n h h1 h2 => by unfold parseR; rw [h]; exact if_pos ⟨h1, h2⟩
  have hp2 : Hid (∀ n, numO (cutD t) = some n → ¬ ((textR (cutC t) n).2 = 0 ∧ (textR (cutC t) n).1 = t) → parseR t = ((⟨#[]⟩, 0), 5)) := fun n h h1 => by unfold parseR; rw [h]; exact if_neg h1
  generalize parseR t = res at hp0 hp1 hp2 ⊢
  generalize cutC t = c at kc kt hp1 hp2 hsz
  generalize cutD t = d at kc ka hp0 hp1 hp2 hsz
  generalize cutY t = y at kc
  replace hE := Lib.hid hE
  clear hsz
  go_enter Tryz.func40, Tryz.ntmps40
  go_wp2_with fail
  refine kc.out.mono ?_
  rintro e w2 ⟨rfl, hb⟩
  have hB2 := Lib.hid (hB1.out.trans (hb.mono hB1.out.size)); have hr2 := Lib.hid (hr1.out.below hb)
  clear hb hB1 hr1 kc
  have ka2 := Lib.hid (ka.out w2 (hE.out.1.below hB2.out)); clear ka
  go_wp2_with fail
  refine ka2.out.mono ?_
  rintro e w3 ⟨hor, hb⟩
  have hB3 := Lib.hid (hB2.out.trans (hb.mono hB2.out.size)); have hr3 := Lib.hid (hr2.out.below hb)
  clear hb hB2 hr2 ka2
  rcases hor with ⟨n, hno, rfl⟩ | ⟨z, N, hno, rfl⟩
  rotate_left
  · have hrr := hp0.out hno
    clear hp0 hp1 hp2
    have hB4 : Hid (Below w.heap.size w (w3.alloc (.cells #[.string c, .int .i64 z] 35))) := hB3.out.alloc hB3.out.size _
    have hr4 := Lib.hid (hr3.out.alloc (.cells #[.string c, .int .i64 z] 35))
    have ha4 : Hid (Bk (w3.alloc (.cells #[.string c, .int .i64 z] 35)) w3.heap.size 35 [.string c, .int .i64 z]) := Bk.new _ _ _
    have kt4 := Lib.hid (kt.out z (w3.alloc (.cells #[.string c, .int .i64 z] 35)) (hE.out.1.below hB4.out)); clear kt
    obtain ⟨tx, htx⟩ : ∃ x, x = textR c z := ⟨_, rfl⟩
    rw [← htx] at kt4
    obtain ⟨bk, er⟩ := tx
    replace kt4 : Hid (Calls Tryz.prog 38 #[.agg #[.string c, .int .i64 z]] (w3.alloc (.cells #[.string c, .int .i64 z] 35)) fun e w' => e = .returned (.tuple #[.string bk, .int .i64 er]) ∧ Below ((w3.alloc (.cells #[.string c, .int .i64 z] 35))).heap.size (w3.alloc (.cells #[.string c, .int .i64 z] 35)) w') := kt4
    clear hB3 hr3
    replace htx := Lib.hid htx
    go_wp2_with fail
    refine kt4.out.mono ?_
    rintro e w5 ⟨rfl, hb⟩
    have hB5 := Lib.hid (hB4.out.trans (hb.mono hB4.out.size)); have hr5 := Lib.hid (hr4.out.below hb); have ha5 := Lib.hid (ha4.out.below hb)
    clear hb hB4 hr4 ha4 kt4
    have r0 := hr5.out.cell (j := 0) rfl; have q0 := hr5.out.frozen 0
    have r1 := hr5.out.cell (j := 1) rfl; have q1 := hr5.out.frozen 1
    have r9 := hr5.out.lt
    have hB9 : Hid (Below w.heap.size w ((w5.setCell ⟨w.heap.size, 0, none⟩ (.string ⟨#[]⟩)).setCell ⟨w.heap.size, 1, none⟩ (.int .i64 0))) := (hB5.out.setCell (p := ⟨w.heap.size, 0, none⟩) (Nat.le_refl _) _).setCell (p := ⟨w.heap.size, 1, none⟩) (Nat.le_refl _) _
    have hR9 : Hid (Bk ((w5.setCell ⟨w.heap.size, 0, none⟩ (.string ⟨#[]⟩)).setCell ⟨w.heap.size, 1, none⟩ (.int .i64 0)) w.heap.size 35 [.string ⟨#[]⟩, .int .i64 0]) := (Bk.set hr5.out 0 (.string ⟨#[]⟩)).set 1 (.int .i64 0)
    go_wp2
    (try simp only [Exit.inBlock, Exit.then])
    have s0 := hR9.out.cell (j := 0) rfl
    have s1 := hR9.out.cell (j := 1) rfl
    have s9 := hR9.out.lt
    refine bodyPost_ret (v := .tuple #[.agg #[.string ⟨#[]⟩, .int .i64 0], .int .i64 5]) (by simp [results, Tryz.results40, go_sem, s0, s1]) rfl ⟨by rw [hrr], hB9.out⟩
  · replace hp1 := Lib.hid (hp1.out n hno); replace hp2 := Lib.hid (hp2.out n hno)
    clear hp0
    have hB4 : Hid (Below w.heap.size w (w3.alloc (.cells #[.string c, .int .i64 n] 35))) := hB3.out.alloc hB3.out.size _
    have hr4 := Lib.hid (hr3.out.alloc (.cells #[.string c, .int .i64 n] 35))
    have ha4 : Hid (Bk (w3.alloc (.cells #[.string c, .int .i64 n] 35)) w3.heap.size 35 [.string c, .int .i64 n]) := Bk.new _ _ _
    have kt4 := Lib.hid (kt.out n (w3.alloc (.cells #[.string c, .int .i64 n] 35)) (hE.out.1.below hB4.out)); clear kt
    obtain ⟨tx, htx⟩ : ∃ x, x = textR c n := ⟨_, rfl⟩
    rw [← htx] at kt4
    obtain ⟨bk, er⟩ := tx
    replace kt4 : Hid (Calls Tryz.prog 38 #[.agg #[.string c, .int .i64 n]] (w3.alloc (.cells #[.string c, .int .i64 n] 35)) fun e w' => e = .returned (.tuple #[.string bk, .int .i64 er]) ∧ Below ((w3.alloc (.cells #[.string c, .int .i64 n] 35))).heap.size (w3.alloc (.cells #[.string c, .int .i64 n] 35)) w') := kt4
    clear hB3 hr3
    replace htx := Lib.hid htx
    go_wp2_with fail
    refine kt4.out.mono ?_
    rintro e w5 ⟨rfl, hb⟩
    have hB5 := Lib.hid (hB4.out.trans (hb.mono hB4.out.size)); have hr5 := Lib.hid (hr4.out.below hb); have ha5 := Lib.hid (ha4.out.below hb)
    clear hb hB4 hr4 ha4 kt4
    have r0 := hr5.out.cell (j := 0) rfl; have q0 := hr5.out.frozen 0
    have r1 := hr5.out.cell (j := 1) rfl; have q1 := hr5.out.frozen 1
    have r9 := hr5.out.lt
    rw [← htx.out] at hp1 hp2
    clear htx
    by_cases he : er = 0
    rotate_left
    · have hrr := hp2.out fun h => he h.1
      have m1 : (er != 0) = true := by rw [bne_iff_ne]; exact he
      replace he := Lib.hid he
      have hB9 : Hid (Below w.heap.size w ((w5.setCell ⟨w.heap.size, 0, none⟩ (.string ⟨#[]⟩)).setCell ⟨w.heap.size, 1, none⟩ (.int .i64 0))) := (hB5.out.setCell (p := ⟨w.heap.size, 0, none⟩) (Nat.le_refl _) _).setCell (p := ⟨w.heap.size, 1, none⟩) (Nat.le_refl _) _
      have hR9 : Hid (Bk ((w5.setCell ⟨w.heap.size, 0, none⟩ (.string ⟨#[]⟩)).setCell ⟨w.heap.size, 1, none⟩ (.int .i64 0)) w.heap.size 35 [.string ⟨#[]⟩, .int .i64 0]) := (Bk.set hr5.out 0 (.string ⟨#[]⟩)).set 1 (.int .i64 0)
      go_wp2
      (try simp only [Exit.inBlock, Exit.then])
      have s0 := hR9.out.cell (j := 0) rfl
      have s1 := hR9.out.cell (j := 1) rfl
      have s9 := hR9.out.lt
      refine bodyPost_ret (v := .tuple #[.agg #[.string ⟨#[]⟩, .int .i64 0], .int .i64 5]) (by simp [results, Tryz.results40, go_sem, s0, s1]) rfl ⟨by rw [hrr], hB9.out⟩
    · obtain rfl := he.symm
      have hE2 := @toList_eq bk t
      by_cases hbt : bk = t
      rotate_left
      · have hrr := hp2.out fun h => hbt h.2
        rw [decide_eq_false hbt] at hE2
        have m2 : (bk.toList != t.toList) = true := by rw [bne, hE2]; rfl
        replace hbt := Lib.hid hbt
        have hB9 : Hid (Below w.heap.size w ((w5.setCell ⟨w.heap.size, 0, none⟩ (.string ⟨#[]⟩)).setCell ⟨w.heap.size, 1, none⟩ (.int .i64 0))) := (hB5.out.setCell (p := ⟨w.heap.size, 0, none⟩) (Nat.le_refl _) _).setCell (p := ⟨w.heap.size, 1, none⟩) (Nat.le_refl _) _
        have hR9 : Hid (Bk ((w5.setCell ⟨w.heap.size, 0, none⟩ (.string ⟨#[]⟩)).setCell ⟨w.heap.size, 1, none⟩ (.int .i64 0)) w.heap.size 35 [.string ⟨#[]⟩, .int .i64 0]) := (Bk.set hr5.out 0 (.string ⟨#[]⟩)).set 1 (.int .i64 0)
        go_wp2
        (try simp only [Exit.inBlock, Exit.then])
        have s0 := hR9.out.cell (j := 0) rfl
        have s1 := hR9.out.cell (j := 1) rfl
        have s9 := hR9.out.lt
        refine bodyPost_ret (v := .tuple #[.agg #[.string ⟨#[]⟩, .int .i64 0], .int .i64 5]) (by simp [results, Tryz.results40, go_sem, s0, s1]) rfl ⟨by rw [hrr], hB9.out⟩
      · have hrr := hp1.out rfl hbt
        rw [decide_eq_true hbt] at hE2
        have m2 : (bk.toList != t.toList) = false := by rw [bne, hE2]; rfl
        replace hbt := Lib.hid hbt
        have a0 := ha5.out.cell (j := 0) rfl; have a1 := ha5.out.cell (j := 1) rfl; have a9 := ha5.out.lt
        have hB9 : Hid (Below w.heap.size w ((w5.setCell ⟨w.heap.size, 0, none⟩ (.string c)).setCell ⟨w.heap.size, 1, none⟩ (.int .i64 n))) := (hB5.out.setCell (p := ⟨w.heap.size, 0, none⟩) (Nat.le_refl _) _).setCell (p := ⟨w.heap.size, 1, none⟩) (Nat.le_refl _) _
        have hR9 : Hid (Bk ((w5.setCell ⟨w.heap.size, 0, none⟩ (.string c)).setCell ⟨w.heap.size, 1, none⟩ (.int .i64 n)) w.heap.size 35 [.string c, .int .i64 n]) := (Bk.set hr5.out 0 (.string c)).set 1 (.int .i64 n)
        go_wp2
        (try simp only [Exit.inBlock, Exit.then])
        have s0 := hR9.out.cell (j := 0) rfl
        have s1 := hR9.out.cell (j := 1) rfl
        have s9 := hR9.out.lt
        refine bodyPost_ret (v := .tuple #[.agg #[.string c, .int .i64 n], .int .i64 0]) (by simp [results, Tryz.results40, go_sem, s0, s1]) rfl ⟨by rw [hrr], hB9.out⟩
end Mo
end Go.Proofs.YtpmlhgmmobpilaaGreatDoor

namespace Go.Proofs.YtpmlhgmmobpilaaGreatDoor
open Go.RowKit Go.Shelf
namespace Ci
open Nt
open Classical
theorem Gr.grown {W W' : World} {B R n mb : Nat} {v : Nat → Value} {adj : Nat → List Nat} (h : Gr W B R n v adj) (hg : W.grownBy W' (some mb)) (hR : R ≠ mb) (hv : ∀ i, i < n → (v i).ownBlock ≠ some mb) : Gr W' B R n v adj := by
  have hb : W'.heap[R]? = W.heap[R]? := hg.block R h.lt fun e => hR (Option.some.inj e)
  exact ⟨Nat.lt_of_lt_of_le h.lt hg.size, fun i hi => (World.cell?_of_block (a := ⟨R, i, none⟩) hb).trans (h.hd i hi), fun i => (World.frozen?_of_block (a := ⟨R, i, none⟩) hb).trans (h.fr i), fun i hi => (h.rows i hi).kept hg (by
    cases hu : (v i).ownBlock with
    | none => exact .inl rfl
    | some b => exact .inr fun e => hv i hi (hu.trans e)), h.apart, h.ne, h.lowR⟩
theorem zeroB (w : World) : (zeroValue 4).run Tryz.prog w = .ok (.bool false) w := by kernel_rfl
end Ci
end Go.Proofs.YtpmlhgmmobpilaaGreatDoor
namespace Go.Proofs.YtpmlhgmmobpilaaGreatDoor
open Go.RowKit Go.Shelf
namespace Ci
open Nt
open Classical
/-- A map of the call's own that reads as the parties reached. -/
def ReachM (w : World) (n mb : Nat) (E : List (Nat × Nat)) (p : Nat) : Prop := ∃ c f, MapK Tryz.prog 3 κi w mb c f ∧ ∀ x : Nat, x < n → f (x : Int) = if Reach E p x then some (.bool true) else none
end Ci
end Go.Proofs.YtpmlhgmmobpilaaGreatDoor
namespace Go.Proofs.YtpmlhgmmobpilaaGreatDoor
open Go.RowKit Go.Shelf
namespace Ci
open Nt
/-- What was turned ahead of link j of party i. -/
def TurnI (n i j : Nat) (adj T : Nat → List Nat) : Prop := (∀ q x, q < n → (x ∈ T q ↔ (x < i ∧ q ∈ adj x) ∨ (x = i ∧ q ∈ (adj i).take j))) ∧ ∀ q, (T q).length ≤ 1000 * i + j
theorem TurnI.next {n i : Nat} {adj T : Nat → List Nat} (h : TurnI n i (adj i).length adj T) (hl : (adj i).length ≤ 1000) : TurnI n (i + 1) 0 adj T := by
  refine ⟨fun q x hq => ?_, fun q => by have := h.2 q; omega⟩
  rw [h.1 q x hq, List.take_length]
  constructor
  · rintro (⟨a, b⟩ | ⟨rfl, b⟩)
    · exact .inl ⟨by omega, b⟩
    · exact .inl ⟨by omega, b⟩
  · rintro (⟨a, b⟩ | ⟨_, b⟩)
    · by_cases e : x = i
      · subst e; exact .inr ⟨rfl, b⟩
      · exact .inl ⟨by omega, b⟩
    · simp at b
theorem TurnI.step {n i j : Nat} {adj T : Nat → List Nat} (h : TurnI n i j adj T) (hj : j < (adj i).length) : TurnI n i (j + 1) adj (setL T (adj i)[j] i) := by
  refine ⟨fun q x hq => ?_, fun q => ?_⟩
  · unfold setL
    rw [List.take_succ_eq_append_getElem hj]
    by_cases e : q = (adj i)[j]
    · rw [if_pos e, List.mem_append, h.1 q x hq, List.mem_append, List.mem_singleton, List.mem_singleton]
      constructor
      · rintro ((a | ⟨a, b⟩) | a)
        · exact .inl a
        · exact .inr ⟨a, .inl b⟩
        · exact .inr ⟨a, .inr e⟩
      · rintro (a | ⟨a, b | _⟩)
        · exact .inl (.inl a)
        · exact .inl (.inr ⟨a, b⟩)
        · exact .inr a
    · rw [if_neg e, h.1 q x hq, List.mem_append, List.mem_singleton]
      constructor
      · rintro (a | ⟨a, b⟩)
        · exact .inl a
        · exact .inr ⟨a, .inl b⟩
      · rintro (a | ⟨a, b | b⟩)
        · exact .inl a
        · exact .inr ⟨a, b⟩
        · exact absurd b e
  · unfold setL
    have := h.2 q
    split
    · rw [List.length_append, List.length_singleton]; omega
    · omega
end Ci
end Go.Proofs.YtpmlhgmmobpilaaGreatDoor
namespace Go.Proofs.YtpmlhgmmobpilaaGreatDoor
open Go.RowKit Go.Shelf
namespace Ci
open Nt
/-- All blocks but some are as before. -/
structure Kp (xs : List Nat) (w w' : World) : Prop where
  os : w'.os = w.os
  tape : w'.tape = w.tape
  output : w'.output = w.output
  size : w.heap.size ≤ w'.heap.size
  block : ∀ k, k < w.heap.size → k ∉ xs → w'.heap[k]? = w.heap[k]?
section
variable {xs : List Nat} {w w' w'' : World} {B R n i b c mb : Nat} {v : Nat → Value} {adj ls : Nat → List Nat} {α : Type} {P : Program} {k : TypeId} {κ : α → Lit} {f : α → Option Value} {t : TypeId} {cs : List Value}
theorem Kp.refl (xs : List Nat) (w : World) : Kp xs w w := ⟨rfl, rfl, rfl, Nat.le_refl _, fun _ _ _ => rfl⟩
theorem Kp.below (h : Kp xs w w') (hb : Below w'.heap.size w' w'') : Kp xs w w'' :=
  ⟨hb.os.trans h.os, hb.tape.trans h.tape, hb.output.trans h.output, Nat.le_trans h.size hb.size, fun k hk hx => (hb.block k (Nat.lt_of_lt_of_le hk h.size)).trans (h.block k hk hx)⟩
theorem Kp.alloc (h : Kp xs w w') (o : Obj) : Kp xs w (w'.alloc o) := h.below ((Below.refl _ w').alloc (Nat.le_refl _) o)
theorem Kp.drew (h : Kp xs w w') : Kp xs w w'.drew := h.below (Below.refl _ w').drew
theorem Kp.grown {row : Option Nat} (h : Kp xs w w') (hg : w'.grownBy w'' row) (hr : ∀ b, row = some b → b ∈ xs ∨ w.heap.size ≤ b) : Kp xs w w'' :=
  ⟨hg.os.trans h.os, hg.tape.trans h.tape, hg.output.trans h.output, Nat.le_trans h.size hg.size, fun k hk hx => (hg.block k (Nat.lt_of_lt_of_le hk h.size) (fun e => by
    rcases hr k e.symm with h1 | h1
    · exact hx h1
    · omega)).trans (h.block k hk hx)⟩
theorem grown_set (w : World) (a : Addr) (u : Value) : w.grownBy (w.setCell a u) (some a.block) := ⟨rfl, rfl, rfl, by simp, fun k _ hk => Below.heap_setCell _ _ _ _ (fun e => hk (by rw [e]))⟩
theorem grown_alloc (w : World) (o : Obj) (row : Option Nat) : w.grownBy (w.alloc o) row := ⟨rfl, rfl, rfl, by simp, fun k hk _ => heap_alloc_old w o hk⟩
theorem Kp.set (h : Kp xs w w') {a : Addr} (u : Value) (ha : a.block ∈ xs ∨ w.heap.size ≤ a.block) : Kp xs w (w'.setCell a u) := h.grown (grown_set w' a u) fun b e => by cases e; exact ha
theorem Kp.to_below (h : Kp xs w w') {w0 : World} (h0 : Below w0.heap.size w0 w) (hx : ∀ x, x ∈ xs → w0.heap.size ≤ x) : Below w0.heap.size w0 w' :=
  h0.trans ⟨h.os, h.tape, h.output, h.size, fun k hk => h.block k (Nat.lt_of_lt_of_le hk h0.size) fun e => by have := hx k e; omega⟩
theorem Kp.heap (h : Kp xs w w') (hb : b < w.heap.size) (hx : b ∉ xs) : w'.heap[b]? = w.heap[b]? := h.block b hb hx
theorem Gr.of_block (h : Gr w B R n v adj) (hs : w.heap.size ≤ w'.heap.size) (hR : w'.heap[R]? = w.heap[R]?) (hv : ∀ i b, i < n → (v i).ownBlock = some b → w'.heap[b]? = w.heap[b]?) : Gr w' B R n v adj :=
  ⟨Nat.lt_of_lt_of_le h.lt hs, fun i hi => (World.cell?_of_block (a := ⟨R, i, none⟩) hR).trans (h.hd i hi), fun i => (World.frozen?_of_block (a := ⟨R, i, none⟩) hR).trans (h.fr i), fun i hi => by
    obtain ⟨h1, h2⟩ := h.rows i hi
    refine ⟨h1, ?_⟩
    rcases h2 with h2 | ⟨g, cap, cur, hv2, hg, hh, rest⟩
    · exact .inl h2
    · exact .inr ⟨g, cap, cur, hv2, hg, (hv i g hi (by rw [hv2]; rfl)).trans hh, rest⟩, h.apart, h.ne, h.lowR⟩
theorem Gr.kp (h : Gr w B R n v adj) (hk : Kp xs w w') (hR : R ∉ xs) (hv : ∀ i b, i < n → (v i).ownBlock = some b → b ∉ xs) : Gr w' B R n v adj :=
  h.of_block hk.size (hk.block R h.lt hR) fun i b hi e => hk.block b ((h.rows i hi).lt b e).2 (hv i b hi e)
theorem MapK.kp (h : MapK P k κ w b c f) (hk : Kp xs w w') (hb : b ∉ xs) : MapK P k κ w' b c f := h.block (hk.block b h.lt hb)
theorem Bk.kp (h : Bk w b t cs) (hk : Kp xs w w') (hb : b ∉ xs) : Bk w' b t cs := by
  have e := hk.block b h.lt hb
  exact (show w'.heap[b]? = _ from e.trans h)
structure LM (w : World) (B mb n c : Nat) (v : Nat → Value) (ls : Nat → List Nat) : Prop where
  map : ∃ f : Int → Option Value, MapK Tryz.prog 3 κi w mb c f ∧ ∀ x : Nat, x < n → f (x : Int) = if ls x = [] then none else some (v x)
  nil : ∀ x, x < n → ls x = [] → v x = .slice none 0 0
  rows : ∀ x, x < n → w.ownsRow B 3 1 (v x) (ls x).length (intsL (ls x))
  apart : ∀ i j, i < n → j < n → i ≠ j → OffB (v i) (v j)
  ne : ∀ x, x < n → (v x).ownBlock ≠ some mb
theorem LM.lt (h : LM w B mb n c v ls) : mb < w.heap.size := by obtain ⟨f, h, _⟩ := h.map; exact h.lt
theorem LM.grown {row : Option Nat} (h : LM w B mb n c v ls) (hg : w.grownBy w' row) (hm : row ≠ some mb) (hv : ∀ x b, x < n → (v x).ownBlock = some b → row ≠ some b) : LM w' B mb n c v ls := by
  obtain ⟨f, h1, h2⟩ := h.map
  refine ⟨⟨f, h1.kept hg fun e => hm e.symm, h2⟩, h.nil, fun x hx => (h.rows x hx).kept hg ?_, h.apart, h.ne⟩
  cases hu : (v x).ownBlock with
  | none => exact .inl rfl
  | some b => exact .inr fun e => hv x b hx hu e.symm
theorem LM.set (h : LM w B mb n c v ls) {a : Addr} (u : Value) (hm : a.block ≠ mb) (hv : ∀ x, x < n → (v x).ownBlock ≠ some a.block) : LM (w.setCell a u) B mb n c v ls :=
  h.grown (grown_set w a u) (fun e => hm (Option.some.inj e)) fun x b hx e e2 => hv x hx (by rw [e, e2])
theorem LM.alloc (h : LM w B mb n c v ls) (o : Obj) : LM (w.alloc o) B mb n c v ls := h.grown (grown_alloc w o none) (by simp) fun _ _ _ _ => by simp
theorem LM.drew (h : LM w B mb n c v ls) : LM w.drew B mb n c v ls := ⟨h.map, h.nil, h.rows, h.apart, h.ne⟩
theorem LM.below (h : LM w B mb n c v ls) (hb : Below w.heap.size w w') : LM w' B mb n c v ls :=
  h.grown (row := none) ⟨hb.os, hb.tape, hb.output, hb.size, fun k hk _ => hb.block k hk⟩ (by simp) fun _ _ _ _ => by simp
theorem LM.made (w : World) (B n : Nat) : LM (w.alloc (.map #[] 0)) B w.heap.size n 0 (fun _ => .slice none 0 0) fun _ => [] :=
  ⟨⟨_, MapK.made w _ _ _, fun _ _ => (if_pos rfl).symm⟩, fun _ _ _ => rfl, fun _ _ => World.ownsRow_nil _ _ _ _, fun _ _ _ _ _ _ hb => (by cases hb), fun _ _ h => (by cases h)⟩
/-- Block b has n numbers. -/
structure RoI (w : World) (b n : Nat) (o : Nat → Int) : Prop where
  lt : b < w.heap.size
  cell : ∀ x, x < n → w.cell? ⟨b, x, none⟩ = some (.int .i64 (o x))
  fr : ∀ x, w.frozen? ⟨b, x, none⟩ = false
theorem RoI.of_block {o : Nat → Int} (h : RoI w b n o) (hs : w.heap.size ≤ w'.heap.size) (hb : w'.heap[b]? = w.heap[b]?) : RoI w' b n o :=
  ⟨Nat.lt_of_lt_of_le h.lt hs, fun x hx => (World.cell?_of_block (a := ⟨b, x, none⟩) hb).trans (h.cell x hx), fun x => (World.frozen?_of_block (a := ⟨b, x, none⟩) hb).trans (h.fr x)⟩
theorem RoI.below {o : Nat → Int} (h : RoI w b n o) (hb : Below w.heap.size w w') : RoI w' b n o := h.of_block hb.size (hb.block b h.lt)
theorem RoI.grown {o : Nat → Int} {row : Option Nat} (h : RoI w b n o) (hg : w.grownBy w' row) (hr : row ≠ some b) : RoI w' b n o := h.of_block hg.size (hg.block b h.lt fun e => hr e.symm)
theorem RoI.alloc {o : Nat → Int} (h : RoI w b n o) (x : Obj) : RoI (w.alloc x) b n o := h.below ((Below.refl _ w).alloc (Nat.le_refl _) x)
theorem RoI.set {o : Nat → Int} (h : RoI w b n o) {x : Nat} (hx : x < n) (r : Int) : RoI (w.setCell ⟨b, x, none⟩ (.int .i64 r)) b n (setI o x r) := by
  refine ⟨by simpa using h.lt, fun y hy => ?_, fun y => by simpa using h.fr y⟩
  by_cases e : y = x
  · subst e
    rw [setI_same]
    exact World.cell?_setCell_same _ _ _ (h.cell y hy)
  · rw [setI_other e, World.cell?_setCell_other _ _ _ _ (fun c => by injection c with _ c2; first | exact e c2 | exact e c2.symm)]
    exact h.cell y hy
theorem RoI.made (w : World) (n : Nat) (t : TypeId) : RoI (w.alloc (.cells (madeCells #[.int .i64 0] n) t)) w.heap.size n fun _ => 0 := by
  have h := heap_alloc_new w (.cells (madeCells #[(.int .i64 0 : Value)] n) t)
  refine ⟨by simp, fun x hx => ?_, fun x => by simp only [World.frozen?, h]; simp⟩
  simp only [World.cell?, h]
  simp [madeCells, hx]
  rw [Nat.mod_one]
  rfl
theorem RoI.congr {o o' : Nat → Int} (h : RoI w b n o) (e : ∀ x, x < n → o x = o' x) : RoI w b n o' := ⟨h.lt, fun x hx => by rw [← e x hx]; exact h.cell x hx, h.fr⟩
theorem RoI.inInt {o : Nat → Int} (h : RoI w b n o) : InInt w (some ⟨b, 0, none⟩) ((List.range n).map o) := fun _ => ⟨b, 0, rfl, h.lt, fun j hj => by
  have hj2 : j < n := by simpa using hj
  rw [Nat.zero_add, h.cell j hj2]
  simp⟩
end
end Ci
end Go.Proofs.YtpmlhgmmobpilaaGreatDoor
namespace Go.Proofs.YtpmlhgmmobpilaaGreatDoor
open Go.RowKit Go.Shelf
namespace Ci
/-- The slice reads as l; what lies behind it up to its capacity is the call's own. -/
def QIn (w : World) (B : Nat) (v : Value) (l : List Nat) : Prop :=
  (∃ A, v = .slice A 0 0 ∧ l = [] ∧ ∀ b, v.ownBlock = some b → B ≤ b ∧ b < w.heap.size) ∨
  ∃ g o cap, v = .slice (some ⟨g, o, none⟩) l.length cap ∧ B ≤ g ∧ g < w.heap.size ∧ l.length ≤ cap ∧ (∀ j, j < cap → (w.cell? ⟨g, o + j, none⟩).isSome = true) ∧ (∀ j, w.frozen? ⟨g, j, none⟩ = false) ∧ ∀ j (h : j < l.length), w.cell? ⟨g, o + j, none⟩ = some (.int .i64 (l[j] : Int))
section
variable {w w' : World} {B : Nat} {v : Value} {l : List Nat} {q : Nat}
theorem QIn.block (h : QIn w B v l) {b : Nat} (hb : v.ownBlock = some b) : B ≤ b ∧ b < w.heap.size := by
  rcases h with ⟨A, rfl, _, h⟩ | ⟨g, o, cap, rfl, h1, h2, _⟩
  · exact h b hb
  · cases hb; exact ⟨h1, h2⟩
/-- Another block turns, and new ones come. -/
theorem QIn.grown {row : Option Nat} (h : QIn w B v l) (hg : w.grownBy w' row) (hne : v.ownBlock = none ∨ v.ownBlock ≠ row) : QIn w' B v l := by
  rcases h with ⟨A, rfl, h1, h2⟩ | ⟨g, o, cap, rfl, h1, h2, h3, h4, h5, h6⟩
  · exact .inl ⟨A, rfl, h1, fun b hb => ⟨(h2 b hb).1, Nat.lt_of_lt_of_le (h2 b hb).2 hg.size⟩⟩
  · have hb : w'.heap[g]? = w.heap[g]? := hg.block g h2 fun e => by
      rcases hne with hne | hne
      · cases hne
      · exact hne e
    refine .inr ⟨g, o, cap, rfl, h1, Nat.lt_of_lt_of_le h2 hg.size, h3, fun j hj => ?_, fun j => ?_, fun j hj => ?_⟩
    · rw [World.cell?_of_block (a := ⟨g, o + j, none⟩) hb]; exact h4 j hj
    · rw [World.frozen?_of_block (a := ⟨g, j, none⟩) hb]; exact h5 j
    · rw [World.cell?_of_block (a := ⟨g, o + j, none⟩) hb]; exact h6 j hj
theorem QIn.set (h : QIn w B v l) {a : Addr} (ha : v.ownBlock ≠ some a.block) (u : Value) : QIn (w.setCell a u) B v l :=
  h.grown (row := some a.block) ⟨rfl, rfl, rfl, by simp, fun k _ hk => Below.heap_setCell _ _ _ _ (fun e => hk (by rw [e]))⟩ (.inr ha)
theorem QIn.alloc (h : QIn w B v l) (o : Obj) : QIn (w.alloc o) B v l :=
  h.grown (row := none) ⟨rfl, rfl, rfl, by simp, fun k hk _ => heap_alloc_old w o hk⟩ (by cases hq : v.ownBlock <;> simp)
theorem QIn.drew (h : QIn w B v l) : QIn w.drew B v l := h
theorem QIn.mono {B' : Nat} (h : QIn w B v l) (hb : B' ≤ B) : QIn w B' v l := by
  rcases h with ⟨A, rfl, h1, h2⟩ | ⟨g, o, cap, rfl, h1, h2⟩
  · exact .inl ⟨A, rfl, h1, fun b e => ⟨Nat.le_trans hb (h2 b e).1, (h2 b e).2⟩⟩
  · exact .inr ⟨g, o, cap, rfl, Nat.le_trans hb h1, h2⟩
end
end Ci
end Go.Proofs.YtpmlhgmmobpilaaGreatDoor
namespace Go.Proofs.YtpmlhgmmobpilaaGreatDoor
open Go.RowKit Go.Shelf
namespace Ci
open Nt
end Ci
end Go.Proofs.YtpmlhgmmobpilaaGreatDoor
namespace Go.Proofs.YtpmlhgmmobpilaaGreatDoor
open Go.RowKit Go.Shelf
namespace Ci
open Nt
theorem ints_ne {a b : List Int} {k : Nat} (h1 : k < a.length) (h2 : k < b.length) (h : a[k] ≠ b[k]) : decide (a = b) = false := decide_eq_false fun e => h (by simp only [e])
theorem ints_eq {a b : List Int} (hl : a.length = b.length) (h : ∀ k (h1 : k < a.length) (h2 : k < b.length), a[k] = b[k]) : decide (a = b) = true := decide_eq_true (List.ext_getElem hl h)
end Ci
end Go.Proofs.YtpmlhgmmobpilaaGreatDoor
namespace Go.Proofs.YtpmlhgmmobpilaaGreatDoor
open Go.RowKit Go.Shelf
namespace Ci
open Nt
end Ci
end Go.Proofs.YtpmlhgmmobpilaaGreatDoor
namespace Go.Proofs.YtpmlhgmmobpilaaGreatDoor
open Go.RowKit Go.Shelf
namespace Ci
open Nt
def bare (l : List (Option Addr × Nat × List Int)) : List (List Int) := l.map fun x => x.2.2
end Ci
end Go.Proofs.YtpmlhgmmobpilaaGreatDoor
namespace Go.Proofs.YtpmlhgmmobpilaaGreatDoor
open Go.RowKit Go.Shelf
namespace Ci
open Nt
def LkSz (x : Lk) : Prop := x.2.2.2.1.size ≤ 400 ∧ x.2.2.2.2.size ≤ 400
instance (x : Lk) : Decidable (LkSz x) := inferInstanceAs (Decidable (_ ∧ _))
end Ci
end Go.Proofs.YtpmlhgmmobpilaaGreatDoor
namespace Go.Proofs.YtpmlhgmmobpilaaGreatDoor
open Go.RowKit Go.Shelf
namespace Ci
open Nt
def lksL (l : List Lk) : List Value := (l.map lkL).flatten
theorem lksL_snoc (l : List Lk) (x : Lk) : lksL (l ++ [x]) = lksL l ++ lkL x := by
  unfold lksL
  rw [List.map_append, List.flatten_append]
  simp
section
variable {W W' : World} {base n : Nat} {e : TypeId} {u : Value} {l : List Lk}
end
end Ci
end Go.Proofs.YtpmlhgmmobpilaaGreatDoor

namespace Go.Proofs.YtpmlhgmmobpilaaGreatDoor
open Go.RowKit Go.Shelf
namespace Ci
open Nt
theorem negs_lt {n p : Nat} {o : Nat → Int} (hp : p < n) (h : 0 ≤ o p) : negs n o + 1 ≤ n := by
  have h1 := filter_lt (f := fun x => decide (o x < 0)) (g := fun _ => true) (l := List.range n) (fun _ _ _ => rfl) ⟨p, List.mem_range.2 hp, decide_eq_false (by omega), rfl⟩
  have h2 : (List.filter (fun _ => true) (List.range n)).length = n := by
    rw [List.filter_eq_self.2 fun _ _ => rfl, List.length_range]
  rw [h2] at h1
  exact h1
theorem negs_le (n : Nat) (o : Nat → Int) : negs n o ≤ n := by
  have := List.length_filter_le (fun x => decide (o x < 0)) (List.range n)
  rw [List.length_range] at this
  exact this
/-- No rank is as great as the number of those that have one. -/
def Bd (n : Nat) (o : Nat → Int) : Prop := ∀ x, x < n → o x + (negs n o : Int) < n
theorem Bd.start {n : Nat} {F : List Nat} {o : Nat → Int} (h : ∀ x, o x = if x ∈ F then 0 else -1) : Bd n o := fun x hx => by
  by_cases e : x ∈ F
  · have h1 : o x = 0 := by rw [h x, if_pos e]
    have := negs_lt hx (by omega : 0 ≤ o x)
    omega
  · have h1 : o x = -1 := by rw [h x, if_neg e]
    have := negs_le n o
    omega
theorem Bd.set {n p q : Nat} {o : Nat → Int} (h : Bd n o) (hp : p < n) (hq : q < n) (h0 : o q < 0) (hv : 0 ≤ o p) : Bd n (setI o q (o p + 1)) := fun x hx => by
  have h1 := negs_set hq h0 (v := o p + 1) (by omega)
  have h2 := h p hp
  have h3 := h x hx
  by_cases e : x = q
  · rw [e, setI_same]; omega
  · rw [setI_other e]; omega
end Ci
end Go.Proofs.YtpmlhgmmobpilaaGreatDoor
namespace Go.Proofs.YtpmlhgmmobpilaaGreatDoor
open Go.RowKit Go.Shelf
namespace Ci
open Nt
open Classical
/-- While the components are gathered. -/
structure P1 (E : List (Nat × Nat)) (n : Nat) (w0 : World) (S p q : Nat) (v : Nat → Value) (F : Nat → Int) (wr : World) : Prop where
  kp : Kp [S, S + 1, S + 1 + 1] w0 wr
  lm : LM wr w0.heap.size S n (cQ E p q) v (lsQ E n p q)
  pl : ∃ c f, MapK Tryz.prog 3 κi wr (S + 1 + 1) c f ∧ c ≤ 1000 * p + q ∧ ∀ x : Nat, x < n → f (x : Int) = if PL E p q x then some (.bool true) else none
  ro : RoI wr (S + 1) n F
  fs : ∀ x, x < n → PL E p q x → F x = (fst E x : Int)
section
variable {E : List (Nat × Nat)} {n p q S : Nat} {w0 wr w' : World} {v : Nat → Value} {F : Nat → Int}
theorem LM.congr {w : World} {B mb c c' : Nat} {ls ls' : Nat → List Nat} (h : LM w B mb n c v ls) (e : ∀ x, ls x = ls' x) (ec : c = c') : LM w B mb n c' v ls' := by
  obtain rfl : ls = ls' := funext e
  subst ec
  exact h
theorem P1.below (h : P1 E n w0 S p q v F wr) (hb : Below wr.heap.size wr w') : P1 E n w0 S p q v F w' := by
  obtain ⟨c, f, h1, h2⟩ := h.pl
  exact ⟨h.kp.below hb, h.lm.below hb, ⟨c, f, h1.below hb, h2⟩, h.ro.below hb, h.fs⟩
theorem P1.had (h : P1 E n w0 S p 0 v F wr) (hp : fst E p ≠ p) : P1 E n w0 S (p + 1) 0 v F wr := by
  obtain ⟨c, f, h1, h2, h3⟩ := h.pl
  refine ⟨h.kp, h.lm.congr (fun x => ?_) ?_, ⟨c, f, h1, by omega, fun x hx => ?_⟩, h.ro, fun x hx hP => h.fs x hx ((PL_had hp).1 hP)⟩
  · rw [lsQ_zero, lsQ_zero, lsO_had hp]
  · rw [cQ_zero, cQ_zero, cO_succ, if_neg hp]
  · rw [h3 x hx]
    by_cases e : PL E p 0 x
    · rw [if_pos e, if_pos ((PL_had hp).2 e)]
    · rw [if_neg e, if_neg fun c => e ((PL_had hp).1 c)]
theorem P1.next (h : P1 E n w0 S p n v F wr) (hp : fst E p = p) (hpn : p < n) (hn : n ≤ 1000) : P1 E n w0 S (p + 1) 0 v F wr := by
  obtain ⟨c, f, h1, h2, h3⟩ := h.pl
  refine ⟨h.kp, h.lm.congr (fun x => ?_) ?_, ⟨c, f, h1, by omega, fun x hx => ?_⟩, h.ro, fun x hx hP => h.fs x hx ((PL_next hp hx).1 hP)⟩
  · rw [lsQ_zero, lsO_next hp]
  · rw [cQ_zero, cO_next hp hpn]
  · rw [h3 x hx]
    by_cases e : PL E p n x
    · rw [if_pos e, if_pos ((PL_next hp hx).2 e)]
    · rw [if_neg e, if_neg fun c => e ((PL_next hp hx).1 c)]
theorem P1.skip (h : P1 E n w0 S p q v F wr) (hm : ¬ Mut E p q) : P1 E n w0 S p (q + 1) v F wr := by
  obtain ⟨c, f, h1, h2, h3⟩ := h.pl
  refine ⟨h.kp, h.lm.congr (fun x => (lsQ_skip hm).symm) (cQ_skip hm).symm, ⟨c, f, h1, by omega, fun x hx => ?_⟩, h.ro, fun x hx hP => h.fs x hx ((PL_skip hm).1 hP)⟩
  rw [h3 x hx]
  by_cases e : PL E p q x
  · rw [if_pos e, if_pos ((PL_skip hm).2 e)]
  · rw [if_neg e, if_neg fun c => e ((PL_skip hm).1 c)]
theorem ReachM.below {mb : Nat} {w : World} (h : ReachM w n mb E p) (hb : Below w.heap.size w w') : ReachM w' n mb E p := by
  obtain ⟨c, f, h1, h3⟩ := h
  exact ⟨c, f, h1.below hb, h3⟩
theorem ReachM.kp {mb : Nat} {xs : List Nat} {w : World} (h : ReachM w n mb E p) (hk : Kp xs w w') (hm : mb ∉ xs) : ReachM w' n mb E p := by
  obtain ⟨c, f, h1, h3⟩ := h
  exact ⟨c, f, h1.kp hk hm, h3⟩
theorem P1.start (E : List (Nat × Nat)) (n : Nat) (wS : World) (t : TypeId) :
    P1 E n (((wS.alloc (.map #[] 0)).alloc (.cells (madeCells #[.int .i64 0] n) t)).alloc (.map #[] 0)) wS.heap.size 0 0 (fun _ => .slice none 0 0) (fun _ => 0) (((wS.alloc (.map #[] 0)).alloc (.cells (madeCells #[.int .i64 0] n) t)).alloc (.map #[] 0)) := by
  have s1 : (wS.alloc (.map #[] 0)).heap.size = wS.heap.size + 1 := by simp
  have s2 : ((wS.alloc (.map #[] 0)).alloc (.cells (madeCells #[.int .i64 0] n) t)).heap.size = wS.heap.size + 1 + 1 := by simp
  have hR := (RoI.made (wS.alloc (.map #[] 0)) n t).alloc (.map #[] 0)
  rw [s1] at hR
  have hM := MapK.made ((wS.alloc (.map #[] 0)).alloc (.cells (madeCells #[.int .i64 0] n) t)) Tryz.prog 3 κi
  rw [s2] at hM
  refine ⟨Kp.refl _ _, (((LM.made wS _ n).alloc _).alloc _).congr (fun x => ?_) ?_, ⟨0, _, hM, Nat.zero_le _, fun x _ => ?_⟩, hR, fun x _ hP => ?_⟩
  · rw [lsQ_zero]
    unfold lsO
    rw [if_neg (by omega)]
  · rw [cQ_zero]; rfl
  · rw [if_neg fun c => by have := PL_zero.1 c; omega]
  · have := PL_zero.1 hP; omega
end
/-- While the components are put in order. -/
structure P2 (E : List (Nat × Nat)) (n : Nat) (w7 : World) (S : Nat) (v : Nat → Value) (pre left : List Nat) (vo : Value) (wr : World) : Prop where
  st : Stage n E pre left
  kp : Kp [S] w7 wr
  mp : ∃ f, MapK Tryz.prog 3 κi wr S left.length f ∧ ∀ x : Nat, x < n → f (x : Int) = if x ∈ left then some (v x) else none
  out : wr.ownsRow w7.heap.size 24 1 vo pre.length (pre.map v)
section
variable {E : List (Nat × Nat)} {n p q S : Nat} {w0 w7 wr w' : World} {v : Nat → Value} {F : Nat → Int} {pre left : List Nat} {vo : Value}
theorem P2.start (h : P1 E n w0 S n 0 v F w7) (hE : InN n E) : P2 E n w7 S v [] (leasts n E) (.slice none 0 0) w7 := by
  obtain ⟨f, h1, h2⟩ := h.lm.map
  rw [cQ_zero, cO_all] at h1
  refine ⟨Stage.start hE, Kp.refl _ _, ⟨f, h1, fun x hx => ?_⟩, World.ownsRow_nil _ _ _ _⟩
  rw [h2 x hx, lsQ_zero, lsO_all hx]
  by_cases e : x ∈ leasts n E
  · rw [if_pos e, if_pos e, if_neg (comp_ne hx)]
  · rw [if_neg e, if_neg e, if_pos rfl]
end
end Ci
end Go.Proofs.YtpmlhgmmobpilaaGreatDoor
namespace Go.Proofs.YtpmlhgmmobpilaaGreatDoor
open Go.RowKit Go.Shelf
namespace Ci
open Nt
open Classical
end Ci
end Go.Proofs.YtpmlhgmmobpilaaGreatDoor

namespace Go.Proofs.YtpmlhgmmobpilaaGreatDoor
namespace Co
open Ci
/-- How many 6000ths of the votes in p the parties of a set have; a link: company, holder, part. -/
def vs (V : List (Nat × Nat × Nat)) (S : Nat → Bool) (p : Nat) : Nat := (V.map fun x => if x.1 = p ∧ S x.2.1 = true then x.2.2 else 0).sum
def maj (V : List (Nat × Nat × Nat)) (S : Nat → Bool) (p : Nat) : Bool := decide (3000 < vs V S p)
/-- Those that are controlled up to a round. -/
def inR (V : List (Nat × Nat × Nat)) (F : List Nat) : Nat → Nat → Bool
  | 0, p => decide (p ∈ F)
  | k + 1, p => inR V F k p || maj V (inR V F k) p
section
variable {V : List (Nat × Nat × Nat)} {F F' : List Nat} {S T : Nat → Bool} {n p q k j : Nat}
def IsRd (V : List (Nat × Nat × Nat)) (F : List Nat) (p : Nat) (r : Int) : Prop :=
  (r = -1 ∧ ∀ k, inR V F k p = false) ∨ ∃ k : Nat, r = (k : Int) ∧ inR V F k p = true ∧ ∀ j, j < k → inR V F j p = false
theorem isRd_ex (V : List (Nat × Nat × Nat)) (F : List Nat) (p : Nat) : ∃ r, IsRd V F p r := by
  by_cases h : ∃ k, inR V F k p = true
  · obtain ⟨k, hk⟩ := h
    obtain ⟨j, _, h1, h2⟩ := least_ex (P := fun k => inR V F k p = true) k hk
    exact ⟨j, .inr ⟨j, rfl, h1, fun i hi => by simpa using h2 i hi⟩⟩
  · exact ⟨-1, .inl ⟨rfl, fun k => by
      cases hc : inR V F k p
      · rfl
      · exact absurd ⟨k, hc⟩ h⟩⟩
/-- The round in which a party is controlled; -1 if it never is. -/
noncomputable def rd (V : List (Nat × Nat × Nat)) (F : List Nat) (p : Nat) : Int := Classical.choose (isRd_ex V F p)
end
end Co
end Go.Proofs.YtpmlhgmmobpilaaGreatDoor
namespace Go.Proofs.YtpmlhgmmobpilaaGreatDoor
open Go.RowKit Go.Shelf
namespace Co
open Nt Ci
/-- The links of a company, in their order. -/
def row (l : List Lk) (p : Nat) : List Lk := l.filter fun x => decide (x.1 = (p : Int))
end Co
end Go.Proofs.YtpmlhgmmobpilaaGreatDoor
namespace Go.Proofs.YtpmlhgmmobpilaaGreatDoor
open Go.RowKit Go.Shelf
namespace Co
open Nt Ci
section
variable {V : List (Nat × Nat × Nat)} {L : List Nat} {n p q k j m : Nat}
/-- What is known behind round k. -/
noncomputable def cut (V : List (Nat × Nat × Nat)) (L : List Nat) (k p : Nat) : Int := if inR V L k p = true then rd V L p else -1
/-- Who comes up in round k + 1, among the first m. -/
noncomputable def nx (V : List (Nat × Nat × Nat)) (L : List Nat) (k m : Nat) : List Nat := (List.range m).filter fun q => decide (rd V L q = ((k + 1 : Nat) : Int))
end
end Co
end Go.Proofs.YtpmlhgmmobpilaaGreatDoor
namespace Go.Proofs.YtpmlhgmmobpilaaGreatDoor
open Go.RowKit Go.Shelf
namespace Ci
/-- Block R has the headers of n slices of links. -/
structure Gv (W : World) (B R n : Nat) (v : Nat → Value) (rw_ : Nat → List Lk) : Prop where
  lt : R < W.heap.size
  hd : ∀ i, i < n → W.cell? ⟨R, i, none⟩ = some (v i)
  fr : ∀ i, W.frozen? ⟨R, i, none⟩ = false
  rows : ∀ i, i < n → W.ownsRow B 94 5 (v i) (rw_ i).length (lksL (rw_ i))
  apart : ∀ i j, i < n → j < n → i ≠ j → OffB (v i) (v j)
  ne : ∀ i, i < n → (v i).ownBlock ≠ some R
  lowR : B ≤ R
section
variable {W W' : World} {B R n i : Nat} {v : Nat → Value} {rw_ : Nat → List Lk}
theorem Gv.below (h : Gv W B R n v rw_) (hb : Below W.heap.size W W') : Gv W' B R n v rw_ :=
  ⟨Nat.lt_of_lt_of_le h.lt hb.size, fun i hi => (hb.cell (p := ⟨R, i, none⟩) h.lt).trans (h.hd i hi), fun i => (hb.frozen (p := ⟨R, i, none⟩) h.lt).trans (h.fr i), fun i hi => own_below' (h.rows i hi) hb, h.apart, h.ne, h.lowR⟩
theorem Gv.alloc (h : Gv W B R n v rw_) (o : Obj) : Gv (W.alloc o) B R n v rw_ := h.below ((Below.refl _ W).alloc (Nat.le_refl _) o)
theorem Gv.drew (h : Gv W B R n v rw_) : Gv W.drew B R n v rw_ := h.below (Below.refl _ W).drew
theorem Gv.mono {B' : Nat} (h : Gv W B R n v rw_) (hb : B' ≤ B) : Gv W B' R n v rw_ :=
  ⟨h.lt, h.hd, h.fr, fun i hi => by
    obtain ⟨h1, h2⟩ := h.rows i hi
    refine ⟨h1, ?_⟩
    rcases h2 with h2 | ⟨g, cap, cur, hv, hg, hh⟩
    · exact .inl h2
    · exact .inr ⟨g, cap, cur, hv, Nat.le_trans hb hg, hh⟩, h.apart, h.ne, Nat.le_trans hb h.lowR⟩
theorem Gv.start (w : World) {B : Nat} (hB : B ≤ w.heap.size) (n : Nat) (t : TypeId) : Gv (w.alloc (.cells (madeCells #[.slice none 0 0] n) t)) B w.heap.size n (fun _ => .slice none 0 0) fun _ => [] := by
  have h := heap_alloc_new w (.cells (madeCells #[(.slice none 0 0 : Value)] n) t)
  refine ⟨by simp, fun x hx => ?_, fun x => by simp only [World.frozen?, h]; simp, fun _ _ => World.ownsRow_nil _ _ _ _, fun _ _ _ _ _ b hb => (by cases hb), fun _ _ hb => (by cases hb), hB⟩
  simp only [World.cell?, h]
  simp [madeCells, hx]
  rw [Nat.mod_one]
  rfl
def setK (rw_ : Nat → List Lk) (x : Nat) (q : Lk) : Nat → List Lk := fun i => if i = x then rw_ i ++ [q] else rw_ i
/-- A row has grown, and its header is stored anew. -/
theorem Gv.step (h : Gv W B R n v rw_) {x : Nat} {q : Lk} (hx : x < n) {u : Value} (hg : W.grownBy W' (v x).ownBlock) (ho : W'.ownsRow B 94 5 u ((rw_ x).length + 1) (lksL (rw_ x) ++ lkL q)) (hn : u.ownBlock = (v x).ownBlock ∨ u.ownBlock = some W.heap.size) :
    Gv (W'.setCell ⟨R, x, none⟩ u) B R n (fun i => if i = x then u else v i) (setK rw_ x q) := by
  have hRx : some R ≠ (v x).ownBlock := fun e => h.ne x hx e.symm
  have hbR : W'.heap[R]? = W.heap[R]? := hg.block R h.lt hRx
  have hcell : ∀ i, W'.cell? ⟨R, i, none⟩ = W.cell? ⟨R, i, none⟩ := fun i => World.cell?_of_block (a := ⟨R, i, none⟩) hbR
  have hfr : ∀ i, W'.frozen? ⟨R, i, none⟩ = W.frozen? ⟨R, i, none⟩ := fun i => World.frozen?_of_block (a := ⟨R, i, none⟩) hbR
  have huR : u.ownBlock ≠ some R := fun e => by
    rcases hn with hn | hn
    · exact h.ne x hx (by rw [← hn, e])
    · rw [e] at hn
      have := h.lt
      simp only [Option.some.injEq] at hn
      omega
  have hne : ∀ a b : Nat, a ≠ b → (⟨R, a, none⟩ : Addr) ≠ ⟨R, b, none⟩ := fun a b e1 e2 => by injection e2 with _ e3; exact e1 e3
  have far : ∀ {m : Nat} {z : Value} {xs : List Value}, W'.ownsRow B 94 5 z m xs → z.ownBlock ≠ some R → (W'.setCell ⟨R, x, none⟩ u).ownsRow B 94 5 z m xs := fun h hz =>
    h.kept (row := some R) ⟨rfl, rfl, rfl, by simp, fun k _ hk => Below.heap_setCell _ _ _ _ (fun e => hk (by rw [e]))⟩ (.inr hz)
  have hoff : ∀ i, i < n → i ≠ x → OffB (v i) u := fun i hi hix b hb e => by
    rcases hn with hn | hn
    · exact h.apart i x hi hx hix b hb (by rw [← hn, e])
    · have := ((h.rows i hi).lt b hb).2
      rw [e] at hn
      simp only [Option.some.injEq] at hn
      omega
  refine ⟨by have := hg.size; have := h.lt; simp; omega, fun i hi => ?_, fun i => by simpa [hfr] using h.fr i, fun i hi => ?_, fun i j hi hj e => ?_, fun i hi => ?_, h.lowR⟩
  · by_cases e : i = x
    · subst e
      rw [if_pos rfl]
      exact World.cell?_setCell_same _ _ _ ((hcell i).trans (h.hd i hi))
    · rw [if_neg e, World.cell?_setCell_other _ _ _ _ (by first | exact hne _ _ e | exact hne _ _ fun c => e c.symm), hcell]
      exact h.hd i hi
  · by_cases e : i = x
    · subst e
      rw [if_pos rfl]
      have : setK rw_ i q i = rw_ i ++ [q] := if_pos rfl
      rw [this, List.length_append, lksL_snoc]
      exact far ho huR
    · rw [if_neg e]
      have : setK rw_ x q i = rw_ i := if_neg e
      rw [this]
      refine far ((h.rows i hi).kept hg ?_) (h.ne i hi)
      cases hv : (v i).ownBlock with
      | none => exact .inl rfl
      | some b => exact .inr fun c => h.apart i x hi hx e b hv c.symm
  · by_cases e1 : i = x
    · have e2 : j ≠ x := fun c => e (by rw [e1, c])
      rw [if_pos e1, if_neg e2]
      exact fun b hb hc => hoff j hj e2 b hc hb
    · rw [if_neg e1]
      by_cases e2 : j = x
      · rw [if_pos e2]
        exact hoff i hi e1
      · rw [if_neg e2]
        exact h.apart i j hi hj e
  · by_cases e : i = x
    · rw [if_pos e]; exact huR
    · rw [if_neg e]; exact h.ne i hi
theorem Gv.of_block (h : Gv W B R n v rw_) (hs : W.heap.size ≤ W'.heap.size) (hR : W'.heap[R]? = W.heap[R]?) (hv : ∀ i b, i < n → (v i).ownBlock = some b → W'.heap[b]? = W.heap[b]?) : Gv W' B R n v rw_ :=
  ⟨Nat.lt_of_lt_of_le h.lt hs, fun i hi => (World.cell?_of_block (a := ⟨R, i, none⟩) hR).trans (h.hd i hi), fun i => (World.frozen?_of_block (a := ⟨R, i, none⟩) hR).trans (h.fr i), fun i hi => by
    obtain ⟨h1, h2⟩ := h.rows i hi
    refine ⟨h1, ?_⟩
    rcases h2 with h2 | ⟨g, cap, cur, hv2, hg, hh, rest⟩
    · exact .inl h2
    · exact .inr ⟨g, cap, cur, hv2, hg, (hv i g hi (by rw [hv2]; rfl)).trans hh, rest⟩, h.apart, h.ne, h.lowR⟩
theorem Gv.kp {xs : List Nat} (h : Gv W B R n v rw_) (hk : Kp xs W W') (hR : R ∉ xs) (hv : ∀ i b, i < n → (v i).ownBlock = some b → b ∉ xs) : Gv W' B R n v rw_ :=
  h.of_block hk.size (hk.block R h.lt hR) fun i b hi e => hk.block b ((h.rows i hi).lt b e).2 (hv i b hi e)
theorem Gv.congr {a' : Nat → List Lk} (h : Gv W B R n v rw_) (e : ∀ i, i < n → rw_ i = a' i) : Gv W B R n v a' :=
  ⟨h.lt, h.hd, h.fr, fun i hi => by rw [← e i hi]; exact h.rows i hi, h.apart, h.ne, h.lowR⟩
end
end Ci
end Go.Proofs.YtpmlhgmmobpilaaGreatDoor
namespace Go.Proofs.YtpmlhgmmobpilaaGreatDoor
open Go.RowKit Go.Shelf
namespace Co
open Nt Ci
/-- A search: the votes of each company, and the rounds. -/
structure SeIn (w : World) (xb R b B n : Nat) (v : Nat → Value) (rows : Nat → List Lk) (o : Nat → Int) : Prop where
  x : Bk w xb 104 [.slice (some ⟨R, 0, none⟩) n n, .slice (some ⟨b, 0, none⟩) n n]
  g : Gv w B R n v rows
  r : RoI w b n o
  nx : xb ≠ b
  nxR : xb ≠ R
  nR : R ≠ b
  nv : ∀ i, i < n → (v i).ownBlock ≠ some b
  lb : B ≤ b
section
variable {w w' : World} {xb R b B n : Nat} {v : Nat → Value} {rows : Nat → List Lk} {o : Nat → Int}
theorem SeIn.below (h : SeIn w xb R b B n v rows o) (hb : Below w.heap.size w w') : SeIn w' xb R b B n v rows o :=
  ⟨h.x.below hb, h.g.below hb, h.r.below hb, h.nx, h.nxR, h.nR, h.nv, h.lb⟩
/-- A round is stored. -/
theorem SeIn.set (h : SeIn w xb R b B n v rows o) {p : Nat} (hp : p < n) (k : Int) : SeIn (w.setCell ⟨b, p, none⟩ (.int .i64 k)) xb R b B n v rows (setI o p k) := by
  have hg : w.grownBy (w.setCell ⟨b, p, none⟩ (.int .i64 k)) (some b) := grown_set w ⟨b, p, none⟩ _
  refine ⟨h.x.far h.nx _, ?_, h.r.set hp k, h.nx, h.nxR, h.nR, h.nv, h.lb⟩
  exact h.g.of_block (by simp) (Below.heap_setCell _ _ _ _ h.nR) fun i b' hi e => Below.heap_setCell _ _ _ _ fun c => h.nv i hi (by rw [e, c])
theorem SeIn.congr {o' : Nat → Int} (h : SeIn w xb R b B n v rows o) (e : ∀ x, x < n → o x = o' x) : SeIn w xb R b B n v rows o' := ⟨h.x, h.g, h.r.congr e, h.nx, h.nxR, h.nR, h.nv, h.lb⟩
end
end Co
end Go.Proofs.YtpmlhgmmobpilaaGreatDoor
namespace Go.Proofs.YtpmlhgmmobpilaaGreatDoor
open Go.RowKit Go.Shelf
namespace Co
open Nt Ci
/-- Block sb holds a rational number. -/
def QB (W : World) (sb : Nat) (q : Rat) : Prop := ∃ g n d, (.agg #[.bool g, .string n, .string d] : Value) = qv q ∧ Bk W sb 23 [.bool g, .string n, .string d]
theorem QB.below {W W' : World} {sb : Nat} {q : Rat} (h : QB W sb q) (hb : Below W.heap.size W W') : QB W' sb q := by
  obtain ⟨g, n, d, e, h⟩ := h
  exact ⟨g, n, d, e, h.below hb⟩
end Co
end Go.Proofs.YtpmlhgmmobpilaaGreatDoor
namespace Go.Proofs.YtpmlhgmmobpilaaGreatDoor
open Go.RowKit Go.Shelf
namespace Co
open Nt Ci
def isReg (k : Nat) : Code → Bool
  | .region a _ _ => a == k
  | _ => false
end Co
end Go.Proofs.YtpmlhgmmobpilaaGreatDoor
namespace Go.Proofs.YtpmlhgmmobpilaaGreatDoor
open Go.RowKit Go.Shelf
namespace Co
open Nt Ci
/-- A search over the votes of a structure, laid by the call. -/
def Se (s : SR) (base : Nat) (w : World) (xb b : Nat) (o : Nat → Int) : Prop :=
  ∃ R B v, base ≤ B ∧ base ≤ xb ∧ SeIn w xb R b B s.ps.length v (row s.vot) o
theorem Se.below {s : SR} {base xb b : Nat} {o : Nat → Int} {w w' : World} (h : Se s base w xb b o) (hb : Below w.heap.size w w') : Se s base w' xb b o := by
  obtain ⟨R, B, v, h1, h2, h3⟩ := h
  exact ⟨R, B, v, h1, h2, h3.below hb⟩
end Co
end Go.Proofs.YtpmlhgmmobpilaaGreatDoor
namespace Go.Proofs.YtpmlhgmmobpilaaGreatDoor
open Go.RowKit Go.Shelf
namespace Co
open Nt Ci
end Co
end Go.Proofs.YtpmlhgmmobpilaaGreatDoor
namespace Go.Proofs.YtpmlhgmmobpilaaGreatDoor
open Go.RowKit Go.Shelf
namespace Co
open Nt Ci
end Co
end Go.Proofs.YtpmlhgmmobpilaaGreatDoor
namespace Go.Proofs.YtpmlhgmmobpilaaGreatDoor
open Go.RowKit Go.Shelf
namespace Co
open Nt Ci
end Co
end Go.Proofs.YtpmlhgmmobpilaaGreatDoor

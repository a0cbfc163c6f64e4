/- Texts that the proof needs: MonFind, RatFloor, RatDig, MonRoundP, MonRound, MonConv, CoA. -/
import Derived.LaidEql
import Derived.Deep.RegionHeld3
import Derived.Test.YtpmlhgmmobpilaaGreatDoorKmA
import Derived.Test.YtpmlhgmmobpilaaGreatDoorKmB
import Derived.Test.YtpmlhgmmobpilaaGreatDoorKmC
import Derived.Test.YtpmlhgmmobpilaaGreatDoorKmD
import Derived.Test.YtpmlhgmmobpilaaGreatDoorKmE
namespace Go.Proofs.YtpmlhgmmobpilaaGreatDoor
open Go.RowKit Go.Shelf
namespace Mo
open Nt Ci
section
variable {l : List Rt} {base cur : ByteArray} {day : Int}
theorem find_no (h : ¬ (validR l base = true ∧ identB cur = true ∧ dayB day = true)) : findR l base cur day = (noR, 1) := if_neg h
theorem find_own (h : validR l base = true ∧ identB cur = true ∧ dayB day = true) (e : cur = base) : findR l base cur day = ((base, 0, 1, 1), 0) := by unfold findR; rw [if_pos h, if_pos e]
theorem find_some (h : validR l base = true ∧ identB cur = true ∧ dayB day = true) (e : ¬ cur = base) (hs : (bestR l cur day).isSome = true) : findR l base cur day = ((bestR l cur day).getD noR, 0) := by
  unfold findR
  rw [if_pos h, if_neg e]
  cases c : bestR l cur day with
  | none => rw [c] at hs; cases hs
  | some x => rfl
theorem find_none (h : validR l base = true ∧ identB cur = true ∧ dayB day = true) (e : ¬ cur = base) (hs : (bestR l cur day).isSome = false) : findR l base cur day = (noR, 11) := by
  unfold findR
  rw [if_pos h, if_neg e]
  cases c : bestR l cur day with
  | none => rfl
  | some x => rw [c] at hs; cases hs
end
set_option maxRecDepth 100000 in
set_option maxHeartbeats 8000000 in
theorem Find_any (l : List Rt) (A : Option Addr) (cap : Nat) (base cur : ByteArray) (day : Int) (w : World) (hl : InRt w A l) (hll : l.length ≤ 140737488355328) (hbs : base.size ≤ 140737488355328) (hcs : cur.size ≤ 140737488355328) (hz : RtSz l) :
    Calls Tryz.prog 21 #[.slice A l.length cap, .string base, .string cur, .int .i64 day] w fun e w' => e = .returned (.tuple #[rtV (findR l base cur day).1, .int .i64 (findR l base cur day).2]) ∧ Below w.heap.size w w' := by
  have hB1 : Hid (Below w.heap.size w (((w.alloc (.cells #[.string cur] 9)).alloc (.cells #[.int .i64 day] 3)).alloc (.cells #[.string ⟨#[]⟩, .int .i64 0, .int .i64 0, .int .i64 0] 42))) := ((((Below.refl _ w).alloc (Nat.le_refl _) _).alloc (by simp) _).alloc (by simp; omega) _)
  have hc1 : Hid (Bk (((w.alloc (.cells #[.string cur] 9)).alloc (.cells #[.int .i64 day] 3)).alloc (.cells #[.string ⟨#[]⟩, .int .i64 0, .int .i64 0, .int .i64 0] 42)) w.heap.size 9 [.string cur]) := ((Bk.new w _ _).alloc _).alloc _
  have hd1 : Hid (Bk (((w.alloc (.cells #[.string cur] 9)).alloc (.cells #[.int .i64 day] 3)).alloc (.cells #[.string ⟨#[]⟩, .int .i64 0, .int .i64 0, .int .i64 0] 42)) (w.heap.size + 1) 3 [.int .i64 day]) := by have h := (Bk.new (w.alloc (.cells #[.string cur] 9)) 3 [.int .i64 day]).alloc (.cells #[.string ⟨#[]⟩, .int .i64 0, .int .i64 0, .int .i64 0] 42); rw [World.size_alloc] at h; exact h
  have hr1 : Hid (Bk (((w.alloc (.cells #[.string cur] 9)).alloc (.cells #[.int .i64 day] 3)).alloc (.cells #[.string ⟨#[]⟩, .int .i64 0, .int .i64 0, .int .i64 0] 42)) (w.heap.size + 1 + 1) 42 [.string ⟨#[]⟩, .int .i64 0, .int .i64 0, .int .i64 0]) := by have h := Bk.new ((w.alloc (.cells #[.string cur] 9)).alloc (.cells #[.int .i64 day] 3)) 42 [.string ⟨#[]⟩, .int .i64 0, .int .i64 0, .int .i64 0]; rw [World.size_alloc, World.size_alloc] at h; exact h
  have kv := Valid_any l A cap base (((w.alloc (.cells #[.string cur] 9)).alloc (.cells #[.int .i64 day] 3)).alloc (.cells #[.string ⟨#[]⟩, .int .i64 0, .int .i64 0, .int .i64 0] 42)) (hl.below hB1.out) hll hbs hz
  have kic := Lib.hid (fun W => isCurrency_w cur W (by omega))
  have kid := Lib.hid (fun W => isDay_w day W)
  have hE := @toList_eq cur base
  have kbe := Lib.hid (fun cb db W (hW : Below w.heap.size w W) h1 h2 => best_any l A cap cb db cur day W (hl.below hW) hll h1 h2)
  have f1 := @find_no l base cur day; have f2 := @find_own l base cur day; have f3 := @find_some l base cur day; have f4 := @find_none l base cur day
  generalize findR l base cur day = fr at f1 f2 f3 f4 ⊢
  obtain ⟨bv, hbv⟩ : ∃ x, x = validR l base := ⟨_, rfl⟩; obtain ⟨bi, hbi⟩ : ∃ x, x = identB cur := ⟨_, rfl⟩; obtain ⟨bd, hbd⟩ : ∃ x, x = dayB day := ⟨_, rfl⟩
  rw [← hbv] at kv; rw [← hbi] at kic; rw [← hbd] at kid; rw [← hbv, ← hbi, ← hbd] at f1 f2 f3 f4
  clear hbv hbi hbd
  replace kv := Lib.hid kv; replace hz := Lib.hid hz; replace hl := Lib.hid hl
  have c0 := hc1.out.cell (j := 0) rfl; have c9 := hc1.out.lt
  have d0 := hd1.out.cell (j := 0) rfl; have d9 := hd1.out.lt
  go_enter Tryz.func21, Tryz.ntmps21
  go_wp2_with fail
  refine kv.out.mono ?_
  rintro e w2 ⟨rfl, hb⟩
  have hB2 := Lib.hid (hB1.out.trans (hb.mono hB1.out.size)); have hc2 := Lib.hid (hc1.out.below hb); have hd2 := Lib.hid (hd1.out.below hb); have hr2 := Lib.hid (hr1.out.below hb)
  clear hb hB1 hc1 hd1 hr1 c0 d0 c9 d9 kv
  have c0 := hc2.out.cell (j := 0) rfl; have d0 := hd2.out.cell (j := 0) rfl; have c9 := hc2.out.lt; have d9 := hd2.out.lt
  have r0 := hr2.out.cell (j := 0) rfl; have p0 := hr2.out.frozen 0
  have r1 := hr2.out.cell (j := 1) rfl; have p1 := hr2.out.frozen 1
  have r2 := hr2.out.cell (j := 2) rfl; have p2 := hr2.out.frozen 2
  have r3 := hr2.out.cell (j := 3) rfl; have p3 := hr2.out.frozen 3
  have r9 := hr2.out.lt
  cases bv with
  | false =>
    have hfr : fr = (noR, 1) := f1 (by simp)
    clear f1 f2 f3 f4
    have hB5 : Hid (Below w.heap.size w ((((w2.setCell ⟨w.heap.size + 1 + 1, 0, none⟩ (.string ⟨#[]⟩)).setCell ⟨w.heap.size + 1 + 1, 1, none⟩ (.int .i64 0)).setCell ⟨w.heap.size + 1 + 1, 2, none⟩ (.int .i64 0)).setCell ⟨w.heap.size + 1 + 1, 3, none⟩ (.int .i64 0))) := ((((hB2.out.setCell (p := ⟨w.heap.size + 1 + 1, 0, none⟩) (by simp only []; omega) _).setCell (p := ⟨w.heap.size + 1 + 1, 1, none⟩) (by simp only []; omega) _).setCell (p := ⟨w.heap.size + 1 + 1, 2, none⟩) (by simp only []; omega) _).setCell (p := ⟨w.heap.size + 1 + 1, 3, none⟩) (by simp only []; omega) _)
    have hR5 : Hid (Bk ((((w2.setCell ⟨w.heap.size + 1 + 1, 0, none⟩ (.string ⟨#[]⟩)).setCell ⟨w.heap.size + 1 + 1, 1, none⟩ (.int .i64 0)).setCell ⟨w.heap.size + 1 + 1, 2, none⟩ (.int .i64 0)).setCell ⟨w.heap.size + 1 + 1, 3, none⟩ (.int .i64 0)) (w.heap.size + 1 + 1) 42 [.string ⟨#[]⟩, .int .i64 0, .int .i64 0, .int .i64 0]) := (((Bk.set hr2.out 0 (.string ⟨#[]⟩)).set 1 (.int .i64 0)).set 2 (.int .i64 0)).set 3 (.int .i64 0)
    go_wp2
    (try simp only [Exit.inBlock, Exit.then])
    have s0 := hR5.out.cell (j := 0) rfl
    have s1 := hR5.out.cell (j := 1) rfl
    have s2 := hR5.out.cell (j := 2) rfl
    have s3 := hR5.out.cell (j := 3) rfl
    have s9 := hR5.out.lt
    refine bodyPost_ret (v := .tuple #[.agg #[.string ⟨#[]⟩, .int .i64 0, .int .i64 0, .int .i64 0], .int .i64 1]) (by simp [results, Tryz.results21, go_sem, s0, s1, s2, s3]) rfl ⟨by rw [hfr]; rfl, hB5.out⟩
  | true =>
    go_wp2_with fail
    refine (kic.out _).mono ?_
    rintro e wq ⟨rfl, hq⟩
    obtain rfl := hq.symm
    cases bi with
    | false =>
      have hfr : fr = (noR, 1) := f1 (by simp)
      clear f1 f2 f3 f4
      have hB5 : Hid (Below w.heap.size w ((((w2.setCell ⟨w.heap.size + 1 + 1, 0, none⟩ (.string ⟨#[]⟩)).setCell ⟨w.heap.size + 1 + 1, 1, none⟩ (.int .i64 0)).setCell ⟨w.heap.size + 1 + 1, 2, none⟩ (.int .i64 0)).setCell ⟨w.heap.size + 1 + 1, 3, none⟩ (.int .i64 0))) := ((((hB2.out.setCell (p := ⟨w.heap.size + 1 + 1, 0, none⟩) (by simp only []; omega) _).setCell (p := ⟨w.heap.size + 1 + 1, 1, none⟩) (by simp only []; omega) _).setCell (p := ⟨w.heap.size + 1 + 1, 2, none⟩) (by simp only []; omega) _).setCell (p := ⟨w.heap.size + 1 + 1, 3, none⟩) (by simp only []; omega) _)
      have hR5 : Hid (Bk ((((w2.setCell ⟨w.heap.size + 1 + 1, 0, none⟩ (.string ⟨#[]⟩)).setCell ⟨w.heap.size + 1 + 1, 1, none⟩ (.int .i64 0)).setCell ⟨w.heap.size + 1 + 1, 2, none⟩ (.int .i64 0)).setCell ⟨w.heap.size + 1 + 1, 3, none⟩ (.int .i64 0)) (w.heap.size + 1 + 1) 42 [.string ⟨#[]⟩, .int .i64 0, .int .i64 0, .int .i64 0]) := (((Bk.set hr2.out 0 (.string ⟨#[]⟩)).set 1 (.int .i64 0)).set 2 (.int .i64 0)).set 3 (.int .i64 0)
      go_wp2
      (try simp only [Exit.inBlock, Exit.then])
      have s0 := hR5.out.cell (j := 0) rfl
      have s1 := hR5.out.cell (j := 1) rfl
      have s2 := hR5.out.cell (j := 2) rfl
      have s3 := hR5.out.cell (j := 3) rfl
      have s9 := hR5.out.lt
      refine bodyPost_ret (v := .tuple #[.agg #[.string ⟨#[]⟩, .int .i64 0, .int .i64 0, .int .i64 0], .int .i64 1]) (by simp [results, Tryz.results21, go_sem, s0, s1, s2, s3]) rfl ⟨by rw [hfr]; rfl, hB5.out⟩
    | true =>
      go_wp2_with fail
      refine (kid.out _).mono ?_
      rintro e wq ⟨rfl, hq⟩
      obtain rfl := hq.symm
      cases bd with
      | false =>
        have hfr : fr = (noR, 1) := f1 (by simp)
        clear f1 f2 f3 f4
        have hB5 : Hid (Below w.heap.size w ((((w2.setCell ⟨w.heap.size + 1 + 1, 0, none⟩ (.string ⟨#[]⟩)).setCell ⟨w.heap.size + 1 + 1, 1, none⟩ (.int .i64 0)).setCell ⟨w.heap.size + 1 + 1, 2, none⟩ (.int .i64 0)).setCell ⟨w.heap.size + 1 + 1, 3, none⟩ (.int .i64 0))) := ((((hB2.out.setCell (p := ⟨w.heap.size + 1 + 1, 0, none⟩) (by simp only []; omega) _).setCell (p := ⟨w.heap.size + 1 + 1, 1, none⟩) (by simp only []; omega) _).setCell (p := ⟨w.heap.size + 1 + 1, 2, none⟩) (by simp only []; omega) _).setCell (p := ⟨w.heap.size + 1 + 1, 3, none⟩) (by simp only []; omega) _)
        have hR5 : Hid (Bk ((((w2.setCell ⟨w.heap.size + 1 + 1, 0, none⟩ (.string ⟨#[]⟩)).setCell ⟨w.heap.size + 1 + 1, 1, none⟩ (.int .i64 0)).setCell ⟨w.heap.size + 1 + 1, 2, none⟩ (.int .i64 0)).setCell ⟨w.heap.size + 1 + 1, 3, none⟩ (.int .i64 0)) (w.heap.size + 1 + 1) 42 [.string ⟨#[]⟩, .int .i64 0, .int .i64 0, .int .i64 0]) := (((Bk.set hr2.out 0 (.string ⟨#[]⟩)).set 1 (.int .i64 0)).set 2 (.int .i64 0)).set 3 (.int .i64 0)
        go_wp2
        (try simp only [Exit.inBlock, Exit.then])
        have s0 := hR5.out.cell (j := 0) rfl
        have s1 := hR5.out.cell (j := 1) rfl
        have s2 := hR5.out.cell (j := 2) rfl
        have s3 := hR5.out.cell (j := 3) rfl
        have s9 := hR5.out.lt
        refine bodyPost_ret (v := .tuple #[.agg #[.string ⟨#[]⟩, .int .i64 0, .int .i64 0, .int .i64 0], .int .i64 1]) (by simp [results, Tryz.results21, go_sem, s0, s1, s2, s3]) rfl ⟨by rw [hfr]; rfl, hB5.out⟩
      | true =>
        by_cases hcb : cur = base
        · have hfr := f2 (by simp) hcb
          rw [decide_eq_true hcb] at hE
          replace hcb := Lib.hid hcb
          clear f1 f2 f3 f4
          have hB5 : Hid (Below w.heap.size w ((((w2.setCell ⟨w.heap.size + 1 + 1, 0, none⟩ (.string base)).setCell ⟨w.heap.size + 1 + 1, 1, none⟩ (.int .i64 0)).setCell ⟨w.heap.size + 1 + 1, 2, none⟩ (.int .i64 1)).setCell ⟨w.heap.size + 1 + 1, 3, none⟩ (.int .i64 1))) := ((((hB2.out.setCell (p := ⟨w.heap.size + 1 + 1, 0, none⟩) (by simp only []; omega) _).setCell (p := ⟨w.heap.size + 1 + 1, 1, none⟩) (by simp only []; omega) _).setCell (p := ⟨w.heap.size + 1 + 1, 2, none⟩) (by simp only []; omega) _).setCell (p := ⟨w.heap.size + 1 + 1, 3, none⟩) (by simp only []; omega) _)
          have hR5 : Hid (Bk ((((w2.setCell ⟨w.heap.size + 1 + 1, 0, none⟩ (.string base)).setCell ⟨w.heap.size + 1 + 1, 1, none⟩ (.int .i64 0)).setCell ⟨w.heap.size + 1 + 1, 2, none⟩ (.int .i64 1)).setCell ⟨w.heap.size + 1 + 1, 3, none⟩ (.int .i64 1)) (w.heap.size + 1 + 1) 42 [.string base, .int .i64 0, .int .i64 1, .int .i64 1]) := (((Bk.set hr2.out 0 (.string base)).set 1 (.int .i64 0)).set 2 (.int .i64 1)).set 3 (.int .i64 1)
          go_wp2
          (try simp only [Exit.inBlock, Exit.then])
          have s0 := hR5.out.cell (j := 0) rfl
          have s1 := hR5.out.cell (j := 1) rfl
          have s2 := hR5.out.cell (j := 2) rfl
          have s3 := hR5.out.cell (j := 3) rfl
          have s9 := hR5.out.lt
          refine bodyPost_ret (v := .tuple #[.agg #[.string base, .int .i64 0, .int .i64 1, .int .i64 1], .int .i64 0]) (by simp [results, Tryz.results21, go_sem, s0, s1, s2, s3]) rfl ⟨by rw [hfr]; rfl, hB5.out⟩
        · rw [decide_eq_false hcb] at hE
          have k6 := kbe.out w.heap.size (w.heap.size + 1) w2 hB2.out c0 d0
          have g3 := f3 (by simp) hcb; have g4 := f4 (by simp) hcb
          clear f1 f2 f3 f4
          replace hcb := Lib.hid hcb
          generalize (bestR l cur day).isSome = bs at k6 g3 g4
          obtain ⟨y, hy⟩ : ∃ y, y = (bestR l cur day).getD noR := ⟨_, rfl⟩
          rw [← hy] at k6 g3
          replace hy := Lib.hid hy
          obtain ⟨yc, yd, yn, ym⟩ := y
          replace k6 : Hid (Calls Tryz.prog 62 #[.slice A l.length cap, .func (.func 61) #[] #[.pointer (some ⟨w.heap.size, 0, none⟩), .pointer (some ⟨w.heap.size + 1, 0, none⟩)], .func (.func 63) #[] #[]] w2 fun e w' => e = .returned (.tuple #[.agg #[.string yc, .int .i64 yd, .int .i64 yn, .int .i64 ym], .bool bs]) ∧ Below w2.heap.size w2 w') := k6
          go_wp2_with fail
          refine k6.out.mono ?_
          rintro e w6 ⟨rfl, hb⟩
          have hB6 := Lib.hid (hB2.out.trans (hb.mono hB2.out.size)); have hr6 := Lib.hid (hr2.out.below hb)
          clear hb hB2 hc2 hd2 hr2 c0 d0 c9 d9 r0 r1 r2 r3 r9 k6
          have r0 := hr6.out.cell (j := 0) rfl; have q0 := hr6.out.frozen 0
          have r1 := hr6.out.cell (j := 1) rfl; have q1 := hr6.out.frozen 1
          have r2 := hr6.out.cell (j := 2) rfl; have q2 := hr6.out.frozen 2
          have r3 := hr6.out.cell (j := 3) rfl; have q3 := hr6.out.frozen 3
          have r9 := hr6.out.lt
          cases bs with
          | false =>
            have hfr := g4 rfl
            clear g3 g4
            have hB4 : Hid (Below w.heap.size w ((((w6.setCell ⟨w.heap.size + 1 + 1, 0, none⟩ (.string ⟨#[]⟩)).setCell ⟨w.heap.size + 1 + 1, 1, none⟩ (.int .i64 0)).setCell ⟨w.heap.size + 1 + 1, 2, none⟩ (.int .i64 0)).setCell ⟨w.heap.size + 1 + 1, 3, none⟩ (.int .i64 0))) := ((((hB6.out.setCell (p := ⟨w.heap.size + 1 + 1, 0, none⟩) (by simp only []; omega) _).setCell (p := ⟨w.heap.size + 1 + 1, 1, none⟩) (by simp only []; omega) _).setCell (p := ⟨w.heap.size + 1 + 1, 2, none⟩) (by simp only []; omega) _).setCell (p := ⟨w.heap.size + 1 + 1, 3, none⟩) (by simp only []; omega) _)
            have hB5 : Hid (Below w.heap.size w (((((w6.setCell ⟨w.heap.size + 1 + 1, 0, none⟩ (.string ⟨#[]⟩)).setCell ⟨w.heap.size + 1 + 1, 1, none⟩ (.int .i64 0)).setCell ⟨w.heap.size + 1 + 1, 2, none⟩ (.int .i64 0)).setCell ⟨w.heap.size + 1 + 1, 3, none⟩ (.int .i64 0)).alloc (.cells #[.string yc, .int .i64 yd, .int .i64 yn, .int .i64 ym] 42))) := hB4.out.alloc hB4.out.size _
            have hR5 : Hid (Bk (((((w6.setCell ⟨w.heap.size + 1 + 1, 0, none⟩ (.string ⟨#[]⟩)).setCell ⟨w.heap.size + 1 + 1, 1, none⟩ (.int .i64 0)).setCell ⟨w.heap.size + 1 + 1, 2, none⟩ (.int .i64 0)).setCell ⟨w.heap.size + 1 + 1, 3, none⟩ (.int .i64 0)).alloc (.cells #[.string yc, .int .i64 yd, .int .i64 yn, .int .i64 ym] 42)) (w.heap.size + 1 + 1) 42 [.string ⟨#[]⟩, .int .i64 0, .int .i64 0, .int .i64 0]) := ((((Bk.set hr6.out 0 (.string ⟨#[]⟩)).set 1 (.int .i64 0)).set 2 (.int .i64 0)).set 3 (.int .i64 0)).alloc _
            go_wp2
            (try simp only [Exit.inBlock, Exit.then])
            have s0 := hR5.out.cell (j := 0) rfl
            have s1 := hR5.out.cell (j := 1) rfl
            have s2 := hR5.out.cell (j := 2) rfl
            have s3 := hR5.out.cell (j := 3) rfl
            have s9 := hR5.out.lt
            refine bodyPost_ret (v := .tuple #[.agg #[.string ⟨#[]⟩, .int .i64 0, .int .i64 0, .int .i64 0], .int .i64 11]) (by simp [results, Tryz.results21, go_sem, s0, s1, s2, s3]) rfl ⟨by rw [hfr]; rfl, hB5.out⟩
          | true =>
            have hfr := g3 rfl
            clear g3 g4
            have hB4 : Hid (Below w.heap.size w ((((w6.setCell ⟨w.heap.size + 1 + 1, 0, none⟩ (.string yc)).setCell ⟨w.heap.size + 1 + 1, 1, none⟩ (.int .i64 yd)).setCell ⟨w.heap.size + 1 + 1, 2, none⟩ (.int .i64 yn)).setCell ⟨w.heap.size + 1 + 1, 3, none⟩ (.int .i64 ym))) := ((((hB6.out.setCell (p := ⟨w.heap.size + 1 + 1, 0, none⟩) (by simp only []; omega) _).setCell (p := ⟨w.heap.size + 1 + 1, 1, none⟩) (by simp only []; omega) _).setCell (p := ⟨w.heap.size + 1 + 1, 2, none⟩) (by simp only []; omega) _).setCell (p := ⟨w.heap.size + 1 + 1, 3, none⟩) (by simp only []; omega) _)
            have hB5 : Hid (Below w.heap.size w (((((w6.setCell ⟨w.heap.size + 1 + 1, 0, none⟩ (.string yc)).setCell ⟨w.heap.size + 1 + 1, 1, none⟩ (.int .i64 yd)).setCell ⟨w.heap.size + 1 + 1, 2, none⟩ (.int .i64 yn)).setCell ⟨w.heap.size + 1 + 1, 3, none⟩ (.int .i64 ym)).alloc (.cells #[.string yc, .int .i64 yd, .int .i64 yn, .int .i64 ym] 42))) := hB4.out.alloc hB4.out.size _
            have hR5 : Hid (Bk (((((w6.setCell ⟨w.heap.size + 1 + 1, 0, none⟩ (.string yc)).setCell ⟨w.heap.size + 1 + 1, 1, none⟩ (.int .i64 yd)).setCell ⟨w.heap.size + 1 + 1, 2, none⟩ (.int .i64 yn)).setCell ⟨w.heap.size + 1 + 1, 3, none⟩ (.int .i64 ym)).alloc (.cells #[.string yc, .int .i64 yd, .int .i64 yn, .int .i64 ym] 42)) (w.heap.size + 1 + 1) 42 [.string yc, .int .i64 yd, .int .i64 yn, .int .i64 ym]) := ((((Bk.set hr6.out 0 (.string yc)).set 1 (.int .i64 yd)).set 2 (.int .i64 yn)).set 3 (.int .i64 ym)).alloc _
            go_wp2
            (try simp only [Exit.inBlock, Exit.then])
            have s0 := hR5.out.cell (j := 0) rfl
            have s1 := hR5.out.cell (j := 1) rfl
            have s2 := hR5.out.cell (j := 2) rfl
            have s3 := hR5.out.cell (j := 3) rfl
            have s9 := hR5.out.lt
            refine bodyPost_ret (v := .tuple #[.agg #[.string yc, .int .i64 yd, .int .i64 yn, .int .i64 ym], .int .i64 0]) (by simp [results, Tryz.results21, go_sem, s0, s1, s2, s3]) rfl ⟨by rw [hfr]; rfl, hB5.out⟩
end Mo
end Go.Proofs.YtpmlhgmmobpilaaGreatDoor

namespace Go.Proofs.YtpmlhgmmobpilaaGreatDoor
open Go.RowKit Go.Shelf
namespace Nt
theorem atoi_neg (n : Nat) (hn : 0 < n) : Lib.atoiAll (45 :: Lib.decDigits n) = if n ≤ 9223372036854775808 then .ok (-(n : Int)) else .range := by
  have hd := decDigits_dig n
  have hv := dval_decDigits n
  have hne := decDigits_ne n
  have hp := parse10 (Lib.decDigits n) 0 hd (by omega)
  rw [Nat.zero_mul, Nat.zero_add, hv] at hp
  unfold Lib.atoiAll
  simp only [Lib.parseMag]
  have e45 : (if (45 : UInt8).toNat = 43 ∨ (45 : UInt8).toNat = 45 then Lib.decDigits n else 45 :: Lib.decDigits n) = Lib.decDigits n := if_pos (by decide)
  rw [e45, if_neg hne, hp]
  by_cases hle : n ≤ 9223372036854775808
  · rw [if_pos (by omega), if_pos hle]
    simp
    omega
  · rw [if_neg hle]
    by_cases h64 : n < 18446744073709551616
    · rw [if_pos h64]
      simp
      omega
    · rw [if_neg h64]
/-- What Atoi does to a text: a number, or some error. -/
def AtoiOk (s : ByteArray) (z : Int) : Prop := ∀ W, Env W → Calls Tryz.prog 92 #[.string s] W fun e w' => e = .returned (.tuple #[.int .i64 z, .nilIface]) ∧ Below W.heap.size W w'
def AtoiBad (s : ByteArray) : Prop := ∀ W, Env W → Calls Tryz.prog 92 #[.string s] W fun e w' => ∃ (z : Int) (N : Nat), e = .returned (.tuple #[.int .i64 z, .iface 174 (.pointer (some ⟨N, 0, none⟩))]) ∧ Below W.heap.size W w'
theorem atoi_ok (s : ByteArray) (z : Int) (hs : s.size ≤ 1000000) (h : Lib.atoiAll s.data.toList = .ok z) : AtoiOk s z := fun W _ => by
  refine (Tryz.strconv_Atoi_ok s (by omega) _ h W).mono ?_
  rintro e w' ⟨rfl, rfl | ⟨t, rfl⟩⟩
  · exact ⟨rfl, Below.refl _ _⟩
  · exact ⟨rfl, Go.Joins.below_bytesWorld _ _ _ _ (Nat.le_refl _)⟩
theorem atoi_bad (s : ByteArray) (hs : s.size ≤ 1000000) (h : Lib.atoiAll s.data.toList = .range) : AtoiBad s := fun W hE => by
  obtain ⟨tp, p, hv⟩ := hE.rng
  refine (Tryz.strconv_Atoi_range_var s (by omega) h tp p W hv).mono ?_
  rintro e w' ⟨N, rfl, _, _, hb⟩
  exact ⟨_, N, rfl, hb⟩
def InInt (z : Int) : Prop := -9223372036854775808 ≤ z ∧ z ≤ 9223372036854775807
instance (z : Int) : Decidable (InInt z) := inferInstanceAs (Decidable (_ ∧ _))
theorem T_size (n : Nat) (h : n < Lim) : (T (some n)).size ≤ 300 := by
  have h1 : isN (T (some n)) = true := isN_T (ok_some h)
  exact size_of_isN h1
theorem minus_list (n : Nat) : ((⟨#[45]⟩ : ByteArray) ++ T (some n)).data.toList = 45 :: Lib.decDigits n := by
  rw [ByteArray.toList_data_append]
  rfl
theorem minus_size (n : Nat) (h : n < Lim) : ((⟨#[45]⟩ : ByteArray) ++ T (some n)).size ≤ 301 := by
  have h1 := T_size n h
  have h2 : (T (some n)).size = (Lib.decDigits n).length := by rw [Lib.size_eq]; rfl
  rw [Lib.size_eq, minus_list, List.length_cons]
  omega
theorem addOneT (k : Nat) (w : World) (hE : Env w) (hk : k + 1 < Lim) : Calls Tryz.prog 94 #[.string (T (some k)), .string ⟨#[49]⟩] w fun e w' => e = .returned (.tuple #[.string (T (some (k + 1))), .int .i64 0]) ∧ Below w.heap.size w w' := by
  have := addT (some k) (some 1) w hE (ok_some (by omega)) (ok_some one_lt_Lim)
  rw [show sumO (some k) (some 1) = some (k + 1) by simp only [sumO, apO, limO, if_pos hk], show sumE (some k) (some 1) = 0 by simp only [sumE, apE, if_pos hk], T_one] at this
  exact this
set_option maxRecDepth 100000 in
set_option maxHeartbeats 2000000 in
theorem Floor_pos_ok (a b k r : Nat) (w : World) (hE : Env w) (ha : a < Lim) (hb : b < Lim) (hv : validB false (T (some a)) (T (some b)) = true) (hq : quoO (some a) (some b) = some k ∧ remO (some a) (some b) = some r ∧ quoX (some a) (some b) = 0) (_hkl : k < Lim) (z : Int) (hA : AtoiOk (T (some k)) z) :
    Calls Tryz.prog 45 #[.agg #[.bool false, .string (T (some a)), .string (T (some b))]] w fun e w' => e = .returned (.tuple #[.int .i64 z, .int .i64 0]) ∧ Below w.heap.size w w' := by
  have sa := size_T (ok_some ha)
  have sb := size_T (ok_some hb)
  replace hE := Lib.hid hE
  replace hv := Lib.hid hv
  replace hq := Lib.hid hq
  replace hA := Lib.hid hA
  go_enter Tryz.func45, Tryz.ntmps45
  go_wp2_with fail
  refine (Valid_any false (T (some a)) (T (some b)) _ (hE.out.below (one_below _ _)) sa sb).mono ?_
  rintro e w1 ⟨rfl, hb1⟩
  rw [hv.out]
  have q1 := (B3.new w false (T (some a)) (T (some b))).below hb1
  have hB1 := Lib.hid ((one_below w (.cells #[.bool false, .string (T (some a)), .string (T (some b))] 23)).trans (hb1.mono (by simp)))
  obtain ⟨a1, a2, a3, a4, a5, a6⟩ := q1.facts
  clear hb1
  replace q1 := Lib.hid q1
  go_wp2_with fail
  refine (divT (some a) (some b) _ (hE.out.below hB1.out) (ok_some ha) (ok_some hb)).mono ?_
  rintro e w2 ⟨rfl, hb2⟩
  rw [hq.out.1, hq.out.2.1, hq.out.2.2]
  have q2 := q1.out.below hb2
  have hB2 := Lib.hid (hB1.out.trans (hb2.mono hB1.out.size))
  clear a1 a2 a3 a4 a5 a6 hb2 q1
  obtain ⟨a1, a2, a3, a4, a5, a6⟩ := q2.facts
  replace q2 := Lib.hid q2
  go_wp2_with fail
  refine (hA.out _ (hE.out.below hB2.out)).mono ?_
  rintro e w4 ⟨rfl, hb4⟩
  have hB4 := Lib.hid (hB2.out.trans (hb4.mono hB2.out.size))
  clear hb4
  go_wp2
  go_ret2
  exact ⟨rfl, hB4.out⟩
set_option maxRecDepth 100000 in
set_option maxHeartbeats 2000000 in
theorem Floor_pos_bad (a b k r : Nat) (w : World) (hE : Env w) (ha : a < Lim) (hb : b < Lim) (hv : validB false (T (some a)) (T (some b)) = true) (hq : quoO (some a) (some b) = some k ∧ remO (some a) (some b) = some r ∧ quoX (some a) (some b) = 0) (_hkl : k < Lim) (hA : AtoiBad (T (some k))) :
    Calls Tryz.prog 45 #[.agg #[.bool false, .string (T (some a)), .string (T (some b))]] w fun e w' => e = .returned (.tuple #[.int .i64 0, .int .i64 10]) ∧ Below w.heap.size w w' := by
  have sa := size_T (ok_some ha)
  have sb := size_T (ok_some hb)
  replace hE := Lib.hid hE
  replace hv := Lib.hid hv
  replace hq := Lib.hid hq
  replace hA := Lib.hid hA
  go_enter Tryz.func45, Tryz.ntmps45
  go_wp2_with fail
  refine (Valid_any false (T (some a)) (T (some b)) _ (hE.out.below (one_below _ _)) sa sb).mono ?_
  rintro e w1 ⟨rfl, hb1⟩
  rw [hv.out]
  have q1 := (B3.new w false (T (some a)) (T (some b))).below hb1
  have hB1 := Lib.hid ((one_below w (.cells #[.bool false, .string (T (some a)), .string (T (some b))] 23)).trans (hb1.mono (by simp)))
  obtain ⟨a1, a2, a3, a4, a5, a6⟩ := q1.facts
  clear hb1
  replace q1 := Lib.hid q1
  go_wp2_with fail
  refine (divT (some a) (some b) _ (hE.out.below hB1.out) (ok_some ha) (ok_some hb)).mono ?_
  rintro e w2 ⟨rfl, hb2⟩
  rw [hq.out.1, hq.out.2.1, hq.out.2.2]
  have q2 := q1.out.below hb2
  have hB2 := Lib.hid (hB1.out.trans (hb2.mono hB1.out.size))
  clear a1 a2 a3 a4 a5 a6 hb2 q1
  obtain ⟨a1, a2, a3, a4, a5, a6⟩ := q2.facts
  replace q2 := Lib.hid q2
  go_wp2_with fail
  refine (hA.out _ (hE.out.below hB2.out)).mono ?_
  rintro e w4 ⟨y, N, rfl, hb4⟩
  have hB4 := Lib.hid (hB2.out.trans (hb4.mono hB2.out.size))
  clear hb4
  go_wp2
  go_ret2
  exact ⟨rfl, hB4.out⟩
set_option maxRecDepth 100000 in
set_option maxHeartbeats 2000000 in
theorem Floor_neg0_ok (a b k r : Nat) (w : World) (hE : Env w) (ha : a < Lim) (hb : b < Lim) (hv : validB true (T (some a)) (T (some b)) = true) (hq : quoO (some a) (some b) = some k ∧ remO (some a) (some b) = some r ∧ quoX (some a) (some b) = 0) (hkl : k < Lim) (hr : r = 0) (z : Int) (hA : AtoiOk ((⟨#[45]⟩ : ByteArray) ++ T (some k)) z) :
    Calls Tryz.prog 45 #[.agg #[.bool true, .string (T (some a)), .string (T (some b))]] w fun e w' => e = .returned (.tuple #[.int .i64 z, .int .i64 0]) ∧ Below w.heap.size w w' := by
  have sa := size_T (ok_some ha)
  have sb := size_T (ok_some hb)
  have zr := T_is_zero r
  rw [decide_eq_true hr] at zr
  have szk := T_size k hkl
  clear hr
  replace hE := Lib.hid hE
  replace hv := Lib.hid hv
  replace hq := Lib.hid hq
  replace hA := Lib.hid hA
  go_enter Tryz.func45, Tryz.ntmps45
  go_wp2_with fail
  refine (Valid_any true (T (some a)) (T (some b)) _ (hE.out.below (one_below _ _)) sa sb).mono ?_
  rintro e w1 ⟨rfl, hb1⟩
  rw [hv.out]
  have q1 := (B3.new w true (T (some a)) (T (some b))).below hb1
  have hB1 := Lib.hid ((one_below w (.cells #[.bool true, .string (T (some a)), .string (T (some b))] 23)).trans (hb1.mono (by simp)))
  obtain ⟨a1, a2, a3, a4, a5, a6⟩ := q1.facts
  clear hb1
  replace q1 := Lib.hid q1
  go_wp2_with fail
  refine (divT (some a) (some b) _ (hE.out.below hB1.out) (ok_some ha) (ok_some hb)).mono ?_
  rintro e w2 ⟨rfl, hb2⟩
  rw [hq.out.1, hq.out.2.1, hq.out.2.2]
  have q2 := q1.out.below hb2
  have hB2 := Lib.hid (hB1.out.trans (hb2.mono hB1.out.size))
  clear a1 a2 a3 a4 a5 a6 hb2 q1
  obtain ⟨a1, a2, a3, a4, a5, a6⟩ := q2.facts
  replace q2 := Lib.hid q2
  go_wp2_with fail
  refine (hA.out _ (hE.out.below hB2.out)).mono ?_
  rintro e w4 ⟨rfl, hb4⟩
  have hB4 := Lib.hid (hB2.out.trans (hb4.mono hB2.out.size))
  clear hb4
  go_wp2
  go_ret2
  exact ⟨rfl, hB4.out⟩
set_option maxRecDepth 100000 in
set_option maxHeartbeats 2000000 in
theorem Floor_neg0_bad (a b k r : Nat) (w : World) (hE : Env w) (ha : a < Lim) (hb : b < Lim) (hv : validB true (T (some a)) (T (some b)) = true) (hq : quoO (some a) (some b) = some k ∧ remO (some a) (some b) = some r ∧ quoX (some a) (some b) = 0) (hkl : k < Lim) (hr : r = 0) (hA : AtoiBad ((⟨#[45]⟩ : ByteArray) ++ T (some k))) :
    Calls Tryz.prog 45 #[.agg #[.bool true, .string (T (some a)), .string (T (some b))]] w fun e w' => e = .returned (.tuple #[.int .i64 0, .int .i64 10]) ∧ Below w.heap.size w w' := by
  have sa := size_T (ok_some ha)
  have sb := size_T (ok_some hb)
  have zr := T_is_zero r
  rw [decide_eq_true hr] at zr
  have szk := T_size k hkl
  clear hr
  replace hE := Lib.hid hE
  replace hv := Lib.hid hv
  replace hq := Lib.hid hq
  replace hA := Lib.hid hA
  go_enter Tryz.func45, Tryz.ntmps45
  go_wp2_with fail
  refine (Valid_any true (T (some a)) (T (some b)) _ (hE.out.below (one_below _ _)) sa sb).mono ?_
  rintro e w1 ⟨rfl, hb1⟩
  rw [hv.out]
  have q1 := (B3.new w true (T (some a)) (T (some b))).below hb1
  have hB1 := Lib.hid ((one_below w (.cells #[.bool true, .string (T (some a)), .string (T (some b))] 23)).trans (hb1.mono (by simp)))
  obtain ⟨a1, a2, a3, a4, a5, a6⟩ := q1.facts
  clear hb1
  replace q1 := Lib.hid q1
  go_wp2_with fail
  refine (divT (some a) (some b) _ (hE.out.below hB1.out) (ok_some ha) (ok_some hb)).mono ?_
  rintro e w2 ⟨rfl, hb2⟩
  rw [hq.out.1, hq.out.2.1, hq.out.2.2]
  have q2 := q1.out.below hb2
  have hB2 := Lib.hid (hB1.out.trans (hb2.mono hB1.out.size))
  clear a1 a2 a3 a4 a5 a6 hb2 q1
  obtain ⟨a1, a2, a3, a4, a5, a6⟩ := q2.facts
  replace q2 := Lib.hid q2
  go_wp2_with fail
  refine (hA.out _ (hE.out.below hB2.out)).mono ?_
  rintro e w4 ⟨y, N, rfl, hb4⟩
  have hB4 := Lib.hid (hB2.out.trans (hb4.mono hB2.out.size))
  clear hb4
  go_wp2
  go_ret2
  exact ⟨rfl, hB4.out⟩
set_option maxRecDepth 100000 in
set_option maxHeartbeats 2000000 in
theorem Floor_neg1_ok (a b k r : Nat) (w : World) (hE : Env w) (ha : a < Lim) (hb : b < Lim) (hv : validB true (T (some a)) (T (some b)) = true) (hq : quoO (some a) (some b) = some k ∧ remO (some a) (some b) = some r ∧ quoX (some a) (some b) = 0) (_hkl : k < Lim) (hr : r ≠ 0) (hk1 : k + 1 < Lim) (z : Int) (hA : AtoiOk ((⟨#[45]⟩ : ByteArray) ++ T (some (k + 1))) z) :
    Calls Tryz.prog 45 #[.agg #[.bool true, .string (T (some a)), .string (T (some b))]] w fun e w' => e = .returned (.tuple #[.int .i64 z, .int .i64 0]) ∧ Below w.heap.size w w' := by
  have sa := size_T (ok_some ha)
  have sb := size_T (ok_some hb)
  have zr := T_is_zero r
  rw [decide_eq_false hr] at zr
  have szk := T_size (k + 1) hk1
  replace hr := Lib.hid hr
  replace hE := Lib.hid hE
  replace hv := Lib.hid hv
  replace hq := Lib.hid hq
  replace hA := Lib.hid hA
  go_enter Tryz.func45, Tryz.ntmps45
  go_wp2_with fail
  refine (Valid_any true (T (some a)) (T (some b)) _ (hE.out.below (one_below _ _)) sa sb).mono ?_
  rintro e w1 ⟨rfl, hb1⟩
  rw [hv.out]
  have q1 := (B3.new w true (T (some a)) (T (some b))).below hb1
  have hB1 := Lib.hid ((one_below w (.cells #[.bool true, .string (T (some a)), .string (T (some b))] 23)).trans (hb1.mono (by simp)))
  obtain ⟨a1, a2, a3, a4, a5, a6⟩ := q1.facts
  clear hb1
  replace q1 := Lib.hid q1
  go_wp2_with fail
  refine (divT (some a) (some b) _ (hE.out.below hB1.out) (ok_some ha) (ok_some hb)).mono ?_
  rintro e w2 ⟨rfl, hb2⟩
  rw [hq.out.1, hq.out.2.1, hq.out.2.2]
  have q2 := q1.out.below hb2
  have hB2 := Lib.hid (hB1.out.trans (hb2.mono hB1.out.size))
  clear a1 a2 a3 a4 a5 a6 hb2 q1
  obtain ⟨a1, a2, a3, a4, a5, a6⟩ := q2.facts
  replace q2 := Lib.hid q2
  go_wp2_with fail
  refine (addOneT k _ (hE.out.below hB2.out) hk1).mono ?_
  rintro e w3 ⟨rfl, hb3⟩
  have hB3 := Lib.hid (hB2.out.trans (hb3.mono hB2.out.size))
  clear a1 a2 a3 a4 a5 a6 hb3
  go_wp2_with fail
  refine (hA.out _ (hE.out.below hB3.out)).mono ?_
  rintro e w4 ⟨rfl, hb4⟩
  have hB4 := Lib.hid (hB3.out.trans (hb4.mono hB3.out.size))
  clear hb4
  go_wp2
  go_ret2
  exact ⟨rfl, hB4.out⟩
set_option maxRecDepth 100000 in
set_option maxHeartbeats 2000000 in
theorem Floor_neg1_bad (a b k r : Nat) (w : World) (hE : Env w) (ha : a < Lim) (hb : b < Lim) (hv : validB true (T (some a)) (T (some b)) = true) (hq : quoO (some a) (some b) = some k ∧ remO (some a) (some b) = some r ∧ quoX (some a) (some b) = 0) (_hkl : k < Lim) (hr : r ≠ 0) (hk1 : k + 1 < Lim) (hA : AtoiBad ((⟨#[45]⟩ : ByteArray) ++ T (some (k + 1)))) :
    Calls Tryz.prog 45 #[.agg #[.bool true, .string (T (some a)), .string (T (some b))]] w fun e w' => e = .returned (.tuple #[.int .i64 0, .int .i64 10]) ∧ Below w.heap.size w w' := by
  have sa := size_T (ok_some ha)
  have sb := size_T (ok_some hb)
  have zr := T_is_zero r
  rw [decide_eq_false hr] at zr
  have szk := T_size (k + 1) hk1
  replace hr := Lib.hid hr
  replace hE := Lib.hid hE
  replace hv := Lib.hid hv
  replace hq := Lib.hid hq
  replace hA := Lib.hid hA
  go_enter Tryz.func45, Tryz.ntmps45
  go_wp2_with fail
  refine (Valid_any true (T (some a)) (T (some b)) _ (hE.out.below (one_below _ _)) sa sb).mono ?_
  rintro e w1 ⟨rfl, hb1⟩
  rw [hv.out]
  have q1 := (B3.new w true (T (some a)) (T (some b))).below hb1
  have hB1 := Lib.hid ((one_below w (.cells #[.bool true, .string (T (some a)), .string (T (some b))] 23)).trans (hb1.mono (by simp)))
  obtain ⟨a1, a2, a3, a4, a5, a6⟩ := q1.facts
  clear hb1
  replace q1 := Lib.hid q1
  go_wp2_with fail
  refine (divT (some a) (some b) _ (hE.out.below hB1.out) (ok_some ha) (ok_some hb)).mono ?_
  rintro e w2 ⟨rfl, hb2⟩
  rw [hq.out.1, hq.out.2.1, hq.out.2.2]
  have q2 := q1.out.below hb2
  have hB2 := Lib.hid (hB1.out.trans (hb2.mono hB1.out.size))
  clear a1 a2 a3 a4 a5 a6 hb2 q1
  obtain ⟨a1, a2, a3, a4, a5, a6⟩ := q2.facts
  replace q2 := Lib.hid q2
  go_wp2_with fail
  refine (addOneT k _ (hE.out.below hB2.out) hk1).mono ?_
  rintro e w3 ⟨rfl, hb3⟩
  have hB3 := Lib.hid (hB2.out.trans (hb3.mono hB2.out.size))
  clear a1 a2 a3 a4 a5 a6 hb3
  go_wp2_with fail
  refine (hA.out _ (hE.out.below hB3.out)).mono ?_
  rintro e w4 ⟨y, N, rfl, hb4⟩
  have hB4 := Lib.hid (hB3.out.trans (hb4.mono hB3.out.size))
  clear hb4
  go_wp2
  go_ret2
  exact ⟨rfl, hB4.out⟩
theorem neg_ediv_up (a d : Nat) (hd : 0 < d) (hr : a % d ≠ 0) : (-(a : Int)) / (d : Int) = -((a / d + 1 : Nat) : Int) := by
  have h1 := Nat.div_add_mod a d
  have h2 := Nat.mod_lt a hd
  have key : (-(a : Int)) / (d : Int) = -((a / d + 1 : Nat) : Int) ∧ (-(a : Int)) % (d : Int) = ((d - a % d : Nat) : Int) := by
    refine (Int.ediv_emod_unique (by omega)).2 ⟨?_, by omega, by omega⟩
    generalize a / d = k at *
    generalize a % d = r at *
    have h3 : ((d * k : Nat) : Int) = (d : Int) * (k : Int) := Int.natCast_mul _ _
    have h4 : (d : Int) * (-((k + 1 : Nat) : Int)) = -((d : Int) * (k : Int)) - d := by
      rw [Int.mul_neg, Int.natCast_add, Int.mul_add]
      omega
    rw [h4, ← h3]
    omega
  exact key.1
/-- The floor of a number, where an int holds it. -/
def floorV (q : Rat) : Int := if InInt q.floor then q.floor else 0
def floorE (q : Rat) : Int := if InInt q.floor then 0 else 10
theorem Floor_any (q : Rat) (hq : OkQ q) (w : World) (hE : Env w) :
    Calls Tryz.prog 45 #[qv q] w fun e w' => e = .returned (.tuple #[.int .i64 (floorV q), .int .i64 (floorE q)]) ∧ Below w.heap.size w w' := by
  have hv := valid_qv hq
  have hd := q.den_nz
  have hqq : quoO (some q.num.natAbs) (some q.den) = some (q.num.natAbs / q.den) ∧ remO (some q.num.natAbs) (some q.den) = some (q.num.natAbs % q.den) ∧ quoX (some q.num.natAbs) (some q.den) = 0 := ⟨if_neg hd, if_neg hd, if_neg hd⟩
  have hkl : q.num.natAbs / q.den < Lim := Nat.lt_of_le_of_lt (Nat.div_le_self _ _) hq.1
  have hfl : q.floor = q.num / q.den := Rat.floor_def q
  unfold floorV floorE
  rw [hfl]
  unfold qv
  have ht := T_size _ hkl
  by_cases hn : q.num < 0
  · rw [decide_eq_true hn] at hv ⊢
    by_cases hr : q.num.natAbs % q.den = 0
    · have hz : q.num / (q.den : Int) = -((q.num.natAbs / q.den : Nat) : Int) := by
        have e : q.num = -((q.num.natAbs : Nat) : Int) := by omega
        conv => lhs; rw [e]
        rw [Int.neg_ediv_of_dvd (Int.ofNat_dvd.2 (Nat.dvd_of_mod_eq_zero hr)), Int.natCast_ediv]
      have hk0 : 0 < q.num.natAbs / q.den := Nat.div_pos (Nat.le_of_dvd (by omega) (Nat.dvd_of_mod_eq_zero hr)) (by omega)
      have ha := atoi_neg _ hk0
      rw [← minus_list] at ha
      have hms := minus_size _ hkl
      rw [hz]
      clear hz hfl
      generalize q.num.natAbs / q.den = k at *
      by_cases hi : k ≤ 9223372036854775808
      · rw [if_pos hi] at ha
        have hin : InInt (-((k : Nat) : Int)) := ⟨by omega, by omega⟩
        rw [if_pos hin, if_pos hin]
        exact Floor_neg0_ok _ _ _ _ w hE hq.1 hq.2 hv hqq hkl hr _ (atoi_ok _ _ (by omega) ha)
      · rw [if_neg hi] at ha
        have hin : ¬ InInt (-((k : Nat) : Int)) := fun h => hi (by have := h.1; omega)
        rw [if_neg hin, if_neg hin]
        exact Floor_neg0_bad _ _ _ _ w hE hq.1 hq.2 hv hqq hkl hr (atoi_bad _ (by omega) ha)
    · have hz : q.num / (q.den : Int) = -((q.num.natAbs / q.den + 1 : Nat) : Int) := by
        have e : q.num = -((q.num.natAbs : Nat) : Int) := by omega
        conv => lhs; rw [e]
        exact neg_ediv_up _ _ (by omega) hr
      have hk1 : q.num.natAbs / q.den + 1 < Lim := by
        have h2 : 2 ≤ q.den := by
          rcases Nat.lt_or_ge q.den 2 with h | h
          · have : q.den = 1 := by omega
            rw [this, Nat.mod_one] at hr
            exact absurd rfl hr
          · exact h
        have h3 : q.num.natAbs / q.den ≤ q.num.natAbs / 2 := Nat.div_le_div_left h2 (by omega)
        generalize q.num.natAbs / q.den = k at *
        have := hq.1
        have := one_lt_Lim
        omega
      have ha := atoi_neg (q.num.natAbs / q.den + 1) (Nat.succ_pos _)
      rw [← minus_list] at ha
      have hms := minus_size _ hk1
      rw [hz]
      clear hz hfl
      generalize q.num.natAbs / q.den = k at *
      by_cases hi : k + 1 ≤ 9223372036854775808
      · rw [if_pos hi] at ha
        have hin : InInt (-((k + 1 : Nat) : Int)) := ⟨by omega, by omega⟩
        rw [if_pos hin, if_pos hin]
        exact Floor_neg1_ok _ _ _ _ w hE hq.1 hq.2 hv hqq hkl hr hk1 _ (atoi_ok _ _ (by omega) ha)
      · rw [if_neg hi] at ha
        have hin : ¬ InInt (-((k + 1 : Nat) : Int)) := fun h => hi (by have := h.1; omega)
        rw [if_neg hin, if_neg hin]
        exact Floor_neg1_bad _ _ _ _ w hE hq.1 hq.2 hv hqq hkl hr hk1 (atoi_bad _ (by omega) ha)
  · rw [decide_eq_false hn] at hv ⊢
    have hz : q.num / (q.den : Int) = ((q.num.natAbs / q.den : Nat) : Int) := by
      have e : q.num = ((q.num.natAbs : Nat) : Int) := by omega
      conv => lhs; rw [e]
      rw [Int.natCast_ediv]
    have ha := atoi_num (q.num.natAbs / q.den)
    rw [hz]
    clear hz hfl
    generalize q.num.natAbs / q.den = k at *
    by_cases hi : k ≤ 9223372036854775807
    · rw [if_pos hi] at ha
      have hin : InInt ((k : Nat) : Int) := ⟨by omega, by omega⟩
      rw [if_pos hin, if_pos hin]
      exact Floor_pos_ok _ _ _ _ w hE hq.1 hq.2 hv hqq hkl _ (atoi_ok _ _ (by omega) ha)
    · rw [if_neg hi] at ha
      have hin : ¬ InInt ((k : Nat) : Int) := fun h => hi (by have := h.2; omega)
      rw [if_neg hin, if_neg hin]
      exact Floor_pos_bad _ _ _ _ w hE hq.1 hq.2 hv hqq hkl (atoi_bad _ (by omega) ha)
end Nt
end Go.Proofs.YtpmlhgmmobpilaaGreatDoor

namespace Go.Proofs.YtpmlhgmmobpilaaGreatDoor
open Go.RowKit
namespace Nt
/-- A number of at most k digits above and below. -/
def Dg (k : Nat) (q : Rat) : Prop := q.num.natAbs < 10 ^ k ∧ q.den < 10 ^ k
theorem Dg.mono {k m : Nat} {q : Rat} (h : Dg k q) (hk : k ≤ m) : Dg m q := by
  have : 10 ^ k ≤ 10 ^ m := Nat.pow_le_pow_right (by omega) hk
  exact ⟨Nat.lt_of_lt_of_le h.1 this, Nat.lt_of_lt_of_le h.2 this⟩
theorem Dg.short {k : Nat} {q : Rat} (h : Dg k q) (hk : k ≤ 140) : ShortQ q := by
  have := h.mono (m := mx1) (by rw [mx1_eq]; exact hk)
  exact this
theorem mkRat_le (n : Int) (d : Nat) (hd : d ≠ 0) : (mkRat n d).num.natAbs ≤ n.natAbs ∧ (mkRat n d).den ≤ d := by
  have e : n = sg (decide (n < 0)) n.natAbs := (sg_self n).symm
  rw [e, mk_num _ _ _ hd, mk_den _ _ _ hd, sg_natAbs, sg_natAbs]
  exact ⟨Nat.div_le_self _ _, Nat.div_le_self _ _⟩
theorem Dg.add {k m : Nat} {p q : Rat} (hp : Dg k p) (hq : Dg m q) : Dg (k + m + 1) (p + q) := by
  have hd : p.den * q.den ≠ 0 := Nat.mul_ne_zero p.den_nz q.den_nz
  have h := mkRat_le (p.num * q.den + q.num * p.den) (p.den * q.den) hd
  rw [add_mk] at h
  have e : 10 ^ (k + m + 1) = 10 ^ k * 10 ^ m * 10 := by rw [Nat.pow_succ, Nat.pow_add]
  have h1 : p.num.natAbs * q.den < 10 ^ k * 10 ^ m := Nat.mul_lt_mul'' hp.1 hq.2
  have h2 : q.num.natAbs * p.den < 10 ^ m * 10 ^ k := Nat.mul_lt_mul'' hq.1 hp.2
  have h3 : p.den * q.den < 10 ^ k * 10 ^ m := Nat.mul_lt_mul'' hp.2 hq.2
  rw [Nat.mul_comm (10 ^ m)] at h2
  have h4 := Int.natAbs_add_le (p.num * q.den) (q.num * p.den)
  rw [Int.natAbs_mul, Int.natAbs_mul, Int.natAbs_natCast, Int.natAbs_natCast] at h4
  unfold Dg
  rw [e]
  generalize 10 ^ k * 10 ^ m = X at *
  exact ⟨by omega, by omega⟩
theorem Dg.neg {k : Nat} {q : Rat} (h : Dg k q) : Dg k (-q) := ⟨by show (-q.num).natAbs < 10 ^ k; rw [Int.natAbs_neg]; exact h.1, h.2⟩
theorem Dg.sub {k m : Nat} {p q : Rat} (hp : Dg k p) (hq : Dg m q) : Dg (k + m + 1) (p - q) := by rw [Rat.sub_eq_add_neg]; exact hp.add hq.neg
theorem Dg.mul {k m : Nat} {p q : Rat} (hp : Dg k p) (hq : Dg m q) : Dg (k + m) (p * q) := by
  have hd : p.den * q.den ≠ 0 := Nat.mul_ne_zero p.den_nz q.den_nz
  have h := mkRat_le (p.num * q.num) (p.den * q.den) hd
  rw [← Rat.mul_def'] at h
  have h1 : p.num.natAbs * q.num.natAbs < 10 ^ k * 10 ^ m := Nat.mul_lt_mul'' hp.1 hq.1
  have h3 : p.den * q.den < 10 ^ k * 10 ^ m := Nat.mul_lt_mul'' hp.2 hq.2
  rw [Int.natAbs_mul] at h
  unfold Dg
  rw [Nat.pow_add]
  exact ⟨by omega, by omega⟩
theorem dg_of_size {q : Rat} {k : Nat} (hk : 0 < k) (h1 : (T (some q.num.natAbs)).size ≤ k) (h2 : (T (some q.den)).size ≤ k) : Dg k q := by
  have e : ∀ n, (T (some n)).size = (Lib.decDigits n).length := fun n => by rw [Lib.size_eq]; rfl
  rw [e] at h1 h2
  exact ⟨(decDigits_len_iff _ k hk).1 h1, (decDigits_len_iff _ k hk).1 h2⟩
end Nt
end Go.Proofs.YtpmlhgmmobpilaaGreatDoor

namespace Go.Proofs.YtpmlhgmmobpilaaGreatDoor
namespace Mo
open Nt
def halfQ : Rat := mkRat 1 2
theorem tmod2 (n : Int) : n.tmod 2 = 0 ↔ n % 2 = 0 := by
  constructor
  · intro h; have := Int.dvd_of_tmod_eq_zero h; omega
  · intro h; exact Int.tmod_eq_zero_of_dvd (by omega)
theorem half_eq : halfQ = 1 / 2 := by
  unfold halfQ
  rw [Rat.mkRat_eq_div]
  rfl
theorem ofQ_one (k : Int) : ofQ k 1 = (k : Rat) := by
  unfold ofQ
  have e : (!(decide (k < 0) == decide ((1 : Int) < 0))) = decide (k < 0) := by cases decide (k < 0) <;> rfl
  rw [e, sg_self]
  exact Rat.mkRat_self (k : Rat)
theorem ofQ_half : ofQ 1 2 = halfQ := rfl
theorem short_int {k : Int} (h0 : -9223372036854775808 ≤ k) (h1 : k ≤ 9223372036854775807) : ShortQ (k : Rat) := by
  refine ⟨int_abs_lim h0 h1, ?_⟩
  have := int_abs_lim (n := 1) (by omega) (by omega)
  exact this
theorem short_half : ShortQ halfQ := by
  have h1 := int_abs_lim (n := 1) (by omega) (by omega)
  have h2 := int_abs_lim (n := 2) (by omega) (by omega)
  exact ⟨h1, h2⟩
theorem half_two : halfQ + halfQ = 1 := by rw [half_eq]; grind
/-- n and one half. -/
theorem mid_short {n : Int} (h0 : -9223372036854775808 ≤ n) (h1 : n ≤ 9223372036854775807) : ShortQ ((n : Rat) + halfQ) := by
  have hn : Dg 19 (n : Rat) := ⟨by show n.natAbs < _; omega, by show 1 < _; omega⟩
  have hh : Dg 1 halfQ := ⟨by decide, by decide⟩
  exact (hn.add hh).short (by omega)
/-- The nearest integer, and the even one of two. -/
def roundQ (q : Rat) : Int := if 0 < cmpQ q ((q.floor : Rat) + halfQ) ∨ (cmpQ q ((q.floor : Rat) + halfQ) = 0 ∧ q.floor.tmod 2 ≠ 0) then q.floor + 1 else q.floor
/-- What Round returns for a number of moderate size. -/
def roundV (q : Rat) : Int × Int := if InInt q.floor ∧ q.floor ≠ 9223372036854775807 then (roundQ q, 0) else (0, 10)
theorem cmp_pos {p q : Rat} : 0 < cmpQ p q ↔ q < p := by
  unfold cmpQ
  by_cases h : p < q
  · rw [if_pos h]
    exact ⟨fun c => by omega, fun c => by grind⟩
  · rw [if_neg h]
    by_cases h2 : p = q
    · rw [if_pos h2, h2]
      exact ⟨fun c => by omega, fun c => absurd c Rat.lt_irrefl⟩
    · rw [if_neg h2]
      exact ⟨fun _ => by grind, fun _ => by omega⟩
theorem cmp_zero {p q : Rat} : cmpQ p q = 0 ↔ p = q := by
  unfold cmpQ
  by_cases h : p < q
  · rw [if_pos h]
    exact ⟨fun c => by omega, fun c => by rw [c] at h; exact absurd h Rat.lt_irrefl⟩
  · rw [if_neg h]
    by_cases h2 : p = q
    · rw [if_pos h2]; exact ⟨fun _ => h2, fun _ => rfl⟩
    · rw [if_neg h2]; exact ⟨fun c => by omega, fun c => absurd c h2⟩
theorem cmp_neg {p q : Rat} : cmpQ p q < 0 ↔ p < q := by
  unfold cmpQ
  by_cases h : p < q
  · rw [if_pos h]; exact ⟨fun _ => h, fun _ => by omega⟩
  · rw [if_neg h]
    exact ⟨fun c => by split at c <;> omega, fun c => absurd c h⟩
/-- Without the sign. -/
def absR (q : Rat) : Rat := if q < 0 then -q else q
theorem absR_num (q : Rat) : (absR q).num.natAbs = q.num.natAbs ∧ (absR q).den = q.den ∧ ¬ (absR q).num < 0 := by
  unfold absR
  have h := neg_iff q
  by_cases c : q < 0
  · rw [if_pos c]
    have := h.2 c
    refine ⟨by show (-q.num).natAbs = _; omega, rfl, by show ¬ -q.num < 0; omega⟩
  · rw [if_neg c]
    exact ⟨rfl, rfl, fun d => c (h.1 d)⟩
theorem absR_qv (q : Rat) : qv (absR q) = .agg #[.bool false, .string (T (some q.num.natAbs)), .string (T (some q.den))] := by
  obtain ⟨h1, h2, h3⟩ := absR_num q
  unfold qv
  rw [h1, h2, decide_eq_false h3]
theorem absR_short {q : Rat} (h : ShortQ q) : ShortQ (absR q) := by
  obtain ⟨h1, h2, _⟩ := absR_num q
  exact ⟨by rw [h1]; exact h.1, by rw [h2]; exact h.2⟩
theorem floor_bounds (q : Rat) : (q.floor : Rat) ≤ q ∧ q < (q.floor : Rat) + 1 := by
  have h := Rat.lt_floor_add_one q
  refine ⟨Rat.floor_le q, ?_⟩
  simpa using h
section
variable {f q h : Rat}
theorem near1 (hh : h + h = 1) (h2 : q < f + 1) (c : f + h < q) : absR (q - (f + 1)) < h := by unfold absR; split <;> grind
theorem near2 (hh : h + h = 1) (c : q = f + h) : absR (q - (f + 1)) = h := by unfold absR; split <;> grind
theorem near3 (hh : h + h = 1) (c : q = f + h) : absR (q - f) = h := by unfold absR; split <;> grind
theorem near4 (h1 : f ≤ q) (c : ¬ f + h < q) (c2 : ¬ q = f + h) : absR (q - f) < h := by unfold absR; split <;> grind
end
/-- The difference is at most one half, and if it is one half, the result is even. -/
theorem round_near (q : Rat) : cmpQ (absR (q - (roundQ q : Rat))) halfQ ≤ 0 ∧ (cmpQ (absR (q - (roundQ q : Rat))) halfQ < 0 ∨ (roundQ q).tmod 2 = 0) := by
  obtain ⟨h1, h2⟩ := floor_bounds q
  have hP : (0 < cmpQ q ((q.floor : Rat) + halfQ) ∨ (cmpQ q ((q.floor : Rat) + halfQ) = 0 ∧ q.floor.tmod 2 ≠ 0)) ↔ ((q.floor : Rat) + halfQ < q ∨ (q = (q.floor : Rat) + halfQ ∧ q.floor.tmod 2 ≠ 0)) := by rw [cmp_pos, cmp_zero]
  have hh := half_two
  have e : ((q.floor + 1 : Int) : Rat) = (q.floor : Rat) + 1 := by simp
  have key : absR (q - (roundQ q : Rat)) < halfQ ∨ (absR (q - (roundQ q : Rat)) = halfQ ∧ (roundQ q).tmod 2 = 0) := by
    unfold roundQ
    by_cases c1 : (q.floor : Rat) + halfQ < q
    · rw [if_pos (hP.2 (.inl c1)), e]
      exact .inl (near1 hh h2 c1)
    · by_cases c2 : q = (q.floor : Rat) + halfQ
      · by_cases c3 : q.floor.tmod 2 = 0
        · rw [if_neg (fun d => (hP.1 d).elim c1 fun d => d.2 c3)]
          exact .inr ⟨near3 hh c2, c3⟩
        · rw [if_pos (hP.2 (.inr ⟨c2, c3⟩)), e]
          refine .inr ⟨near2 hh c2, ?_⟩
          rw [tmod2] at c3 ⊢
          omega
      · rw [if_neg (fun d => (hP.1 d).elim c1 fun d => c2 d.1)]
        exact .inl (near4 h1 c1 c2)
  rcases key with h | ⟨h, h3⟩
  · have := cmp_neg.2 h
    exact ⟨by omega, .inl this⟩
  · have := cmp_zero.2 h
    exact ⟨by omega, .inr h3⟩
/-- Every integer stays. -/
theorem round_int (n : Int) : roundQ (n : Rat) = n := by
  unfold roundQ
  rw [Rat.floor_intCast]
  have hh := half_two
  rw [if_neg]
  rw [cmp_pos, cmp_zero]
  generalize (n : Rat) = f
  generalize halfQ = hf at *
  rintro (h | ⟨h, _⟩) <;> grind
theorem roundV_int {n : Int} (h0 : -9223372036854775808 ≤ n) (h1 : n ≤ 9223372036854775807) : roundV (n : Rat) = if n = 9223372036854775807 then (0, 10) else (n, 0) := by
  unfold roundV
  rw [Rat.floor_intCast, round_int]
  by_cases c : n = 9223372036854775807
  · rw [if_pos c, if_neg fun d => d.2 c]
  · rw [if_neg c, if_pos ⟨⟨h0, h1⟩, c⟩]
/-- The result is between the floor and the next integer. -/
theorem round_in {q : Rat} (h : InInt q.floor ∧ q.floor ≠ 9223372036854775807) : InInt (roundQ q) := by
  obtain ⟨⟨h1, h2⟩, h3⟩ := h
  unfold roundQ
  split
  · exact ⟨by omega, by omega⟩
  · exact ⟨h1, h2⟩
end Mo
end Go.Proofs.YtpmlhgmmobpilaaGreatDoor

namespace Go.Proofs.YtpmlhgmmobpilaaGreatDoor
open Go.RowKit Go.Shelf
namespace Mo
open Nt
theorem agg_qv (q : Rat) : ∃ g n d, qv q = .agg #[.bool g, .string n, .string d] := ⟨_, _, _, rfl⟩
set_option maxRecDepth 100000 in
set_option maxHeartbeats 4000000 in
theorem Round_bad (g : Bool) (n d : ByteArray) (w : World) (hE : Env w) (s1 : n.size ≤ 140737488355328) (s2 : d.size ≤ 140737488355328) (hv : validB g n d = false) :
    Calls Tryz.prog 12 #[.agg #[.bool g, .string n, .string d]] w fun e w' => e = .returned (.tuple #[.int .i64 0, .int .i64 1]) ∧ Below w.heap.size w w' := by
  have hB1 : Hid (Below w.heap.size w (w.alloc (.cells #[.bool g, .string n, .string d] 23))) := (Below.refl _ w).alloc (Nat.le_refl _) _
  have hb1 : Hid (B3 (w.alloc (.cells #[.bool g, .string n, .string d] 23)) w.heap.size g n d) := B3.new w g n d
  have kv := Lib.hid (Nt.Valid_any g n d (w.alloc (.cells #[.bool g, .string n, .string d] 23)) (hE.below hB1.out) s1 s2)
  rw [hv] at kv
  go_enter Tryz.func12, Tryz.ntmps12
  obtain ⟨x0, x1, x2, x3, x4, x5⟩ := hb1.out.facts
  have x9 := hb1.out.lt
  go_wp2_with fail
  refine kv.out.mono ?_
  rintro e w2 ⟨rfl, hb⟩
  have hB2 := Lib.hid (hB1.out.trans (hb.mono hB1.out.size))
  clear hb
  go_wp2
  go_ret2
  exact ⟨rfl, hB2.out⟩
set_option maxRecDepth 100000 in
set_option maxHeartbeats 8000000 in
theorem Round_short (q : Rat) (hs : ShortQ q) (w : World) (hE : Env w) :
    Calls Tryz.prog 12 #[qv q] w fun e w' => e = .returned (.tuple #[.int .i64 (roundV q).1, .int .i64 (roundV q).2]) ∧ Below w.heap.size w w' := by
  have hq := hs.ok
  have hsz := short_sizes hs
  have hv := valid_qv hq
  have s1 := T_size _ hq.1; have s2 := T_size _ hq.2
  obtain ⟨g, hg⟩ : ∃ g, g = decide (q.num < 0) := ⟨_, rfl⟩
  obtain ⟨n, hn⟩ : ∃ n, n = T (some q.num.natAbs) := ⟨_, rfl⟩
  obtain ⟨d, hd⟩ : ∃ d, d = T (some q.den) := ⟨_, rfl⟩
  have hqv : qv q = .agg #[.bool g, .string n, .string d] := by rw [hg, hn, hd]; rfl
  have kf : Hid (∀ W, Env W → Calls Tryz.prog 45 #[.agg #[.bool g, .string n, .string d]] W fun e w' => e = .returned (.tuple #[.int .i64 (floorV q), .int .i64 (floorE q)]) ∧ Below W.heap.size W w') := fun W hW => by rw [← hqv]; exact Floor_any q hq W hW
  rw [← hg, ← hn, ← hd] at hv
  rw [← hn, ← hd] at hsz
  rw [← hn] at s1; rw [← hd] at s2
  rw [hqv]
  clear hg hn hd
  have hB1 : Hid (Below w.heap.size w (w.alloc (.cells #[.bool g, .string n, .string d] 23))) := (Below.refl _ w).alloc (Nat.le_refl _) _
  have hb1 : Hid (B3 (w.alloc (.cells #[.bool g, .string n, .string d] 23)) w.heap.size g n d) := B3.new w g n d
  have kv := Lib.hid (Nt.Valid_any g n d (w.alloc (.cells #[.bool g, .string n, .string d] 23)) (hE.below hB1.out) (by omega) (by omega))
  rw [hv] at kv
  have m1 : decide (140 < (n.size : Int)) = false := decide_eq_false (by omega); have m2 : decide (140 < (d.size : Int)) = false := decide_eq_false (by omega)
  replace hE := Lib.hid hE
  by_cases hfl : InInt q.floor ∧ q.floor ≠ 9223372036854775807
  rotate_left
  · have hr : roundV q = (0, 10) := by unfold roundV; rw [if_neg hfl]
    rw [hr]
    by_cases hin : InInt q.floor
    · have hmx : q.floor = 9223372036854775807 := Decidable.byContradiction fun c => hfl ⟨hin, c⟩
      have e1 : floorV q = 9223372036854775807 := by unfold floorV; rw [if_pos hin, hmx]
      have e2 : floorE q = 0 := by unfold floorE; rw [if_pos hin]
      rw [e1, e2] at kf
      clear hr e1 e2 hin hmx hfl
      go_enter Tryz.func12, Tryz.ntmps12
      obtain ⟨x0, x1, x2, x3, x4, x5⟩ := hb1.out.facts
      have x9 := hb1.out.lt
      go_wp2_with fail
      refine kv.out.mono ?_
      rintro e w2 ⟨rfl, hb⟩
      have hB2 := Lib.hid (hB1.out.trans (hb.mono hB1.out.size)); have hb2 := Lib.hid (hb1.out.below hb)
      clear hb x0 x1 x2 x3 x4 x5 x9 kv
      obtain ⟨x0, x1, x2, x3, x4, x5⟩ := hb2.out.facts
      have x9 := hb2.out.lt
      have kF := Lib.hid (kf.out w2 (hE.out.below hB2.out))
      go_wp2_with fail
      refine kF.out.mono ?_
      rintro e w3 ⟨rfl, hb⟩
      have hB3 := Lib.hid (hB2.out.trans (hb.mono hB2.out.size)); have hb3 := Lib.hid (hb2.out.below hb)
      clear hb hb2 x0 x1 x2 x3 x4 x5 x9 kF kf
      go_wp2
      go_ret2
      exact ⟨rfl, hB3.out⟩
    · have e1 : floorV q = 0 := by unfold floorV; rw [if_neg hin]
      have e2 : floorE q = 10 := by unfold floorE; rw [if_neg hin]
      rw [e1, e2] at kf
      clear hr e1 e2 hin hfl
      go_enter Tryz.func12, Tryz.ntmps12
      obtain ⟨x0, x1, x2, x3, x4, x5⟩ := hb1.out.facts
      have x9 := hb1.out.lt
      go_wp2_with fail
      refine kv.out.mono ?_
      rintro e w2 ⟨rfl, hb⟩
      have hB2 := Lib.hid (hB1.out.trans (hb.mono hB1.out.size)); have hb2 := Lib.hid (hb1.out.below hb)
      clear hb x0 x1 x2 x3 x4 x5 x9 kv
      obtain ⟨x0, x1, x2, x3, x4, x5⟩ := hb2.out.facts
      have x9 := hb2.out.lt
      have kF := Lib.hid (kf.out w2 (hE.out.below hB2.out))
      go_wp2_with fail
      refine kF.out.mono ?_
      rintro e w3 ⟨rfl, hb⟩
      have hB3 := Lib.hid (hB2.out.trans (hb.mono hB2.out.size)); have hb3 := Lib.hid (hb2.out.below hb)
      clear hb hb2 x0 x1 x2 x3 x4 x5 x9 kF kf
      go_wp2
      go_ret2
      exact ⟨rfl, hB3.out⟩
  · have hr : roundV q = (roundQ q, 0) := by unfold roundV; rw [if_pos hfl]
    rw [hr]
    obtain ⟨⟨hi0, hi1⟩, hmx⟩ := hfl
    have e1 : floorV q = q.floor := by unfold floorV; rw [if_pos ⟨hi0, hi1⟩]
    have e2 : floorE q = 0 := by unfold floorE; rw [if_pos ⟨hi0, hi1⟩]
    rw [e1, e2] at kf
    have hrq : roundQ q = if 0 < cmpQ q ((q.floor : Rat) + halfQ) ∨ (cmpQ q ((q.floor : Rat) + halfQ) = 0 ∧ q.floor.tmod 2 ≠ 0) then q.floor + 1 else q.floor := rfl
    rw [hrq]
    generalize q.floor = N at hi0 hi1 hmx kf ⊢
    clear hr e1 e2 hrq
    have hN1 : N + 1 ≤ 9223372036854775807 := by omega
    obtain ⟨g1, n1, d1, q1⟩ := agg_qv (N : Rat)
    obtain ⟨g2, n2, d2, q2⟩ := agg_qv halfQ
    obtain ⟨g3, n3, d3, q3⟩ := agg_qv ((N : Rat) + halfQ)
    have ko1 : Hid (∀ W, Env W → Calls Tryz.prog 46 #[.int .i64 N, .int .i64 1] W fun e w' => e = .returned (.tuple #[.agg #[.bool g1, .string n1, .string d1], .int .i64 0]) ∧ Below W.heap.size W w') := fun W hW => by have h := RatOf_any N 1 hi0 hi1 (by omega) (by omega) (by omega) W hW; rw [ofQ_one, q1] at h; exact h
    have ko2 : Hid (∀ W, Env W → Calls Tryz.prog 46 #[.int .i64 1, .int .i64 2] W fun e w' => e = .returned (.tuple #[.agg #[.bool g2, .string n2, .string d2], .int .i64 0]) ∧ Below W.heap.size W w') := fun W hW => by have h := RatOf_any 1 2 (by omega) (by omega) (by omega) (by omega) (by omega) W hW; rw [ofQ_half, q2] at h; exact h
    have ka : Hid (∀ W, Env W → Calls Tryz.prog 20 #[.agg #[.bool g1, .string n1, .string d1], .agg #[.bool g2, .string n2, .string d2]] W fun e w' => e = .returned (.tuple #[.agg #[.bool g3, .string n3, .string d3], .int .i64 0]) ∧ Below W.heap.size W w') := fun W hW => by have h := Add_short (N : Rat) halfQ (short_int hi0 hi1) short_half W hW; rw [q1, q2, q3] at h; exact h
    have kc : Hid (∀ W, Env W → Calls Tryz.prog 25 #[.agg #[.bool g, .string n, .string d], .agg #[.bool g3, .string n3, .string d3]] W fun e w' => e = .returned (.tuple #[.int .i64 (cmpQ q ((N : Rat) + halfQ)), .int .i64 0]) ∧ Below W.heap.size W w') := fun W hW => by have h := Compare_short q ((N : Rat) + halfQ) hs (mid_short hi0 hi1) W hW; rw [hqv, q3] at h; exact h
    generalize cmpQ q ((N : Rat) + halfQ) = c at kc ⊢
    obtain ⟨res, hres⟩ : ∃ r, r = if 0 < c ∨ (c = 0 ∧ N.tmod 2 ≠ 0) then N + 1 else N := ⟨_, rfl⟩
    rw [← hres]
    replace hres := Lib.hid hres
    clear hs hsz hqv hq q1 q2 q3 hv
    have t1 : (N == 9223372036854775807) = false := by rw [beq_eq_false_iff_ne]; exact hmx
    go_enter Tryz.func12, Tryz.ntmps12
    obtain ⟨x0, x1, x2, x3, x4, x5⟩ := hb1.out.facts
    have x9 := hb1.out.lt
    go_wp2_with fail
    refine kv.out.mono ?_
    rintro e w2 ⟨rfl, hb⟩
    have hB2 := Lib.hid (hB1.out.trans (hb.mono hB1.out.size)); have hb2 := Lib.hid (hb1.out.below hb)
    clear hb x0 x1 x2 x3 x4 x5 x9 kv
    obtain ⟨x0, x1, x2, x3, x4, x5⟩ := hb2.out.facts
    have x9 := hb2.out.lt
    have kF := Lib.hid (kf.out w2 (hE.out.below hB2.out))
    go_wp2_with fail
    refine kF.out.mono ?_
    rintro e w3 ⟨rfl, hb⟩
    have hB3 := Lib.hid (hB2.out.trans (hb.mono hB2.out.size)); have hb3 := Lib.hid (hb2.out.below hb)
    clear hb hb2 x0 x1 x2 x3 x4 x5 x9 kF kf
    have k1 := Lib.hid (ko1.out w3 (hE.out.below hB3.out))
    go_wp2_with fail
    refine k1.out.mono ?_
    rintro e w4 ⟨rfl, hb⟩
    have hB4 := Lib.hid (hB3.out.trans (hb.mono hB3.out.size)); have hb4 := Lib.hid (hb3.out.below hb)
    clear hb hb3 k1 ko1
    have hB5 : Hid (Below w.heap.size w (w4.alloc (.cells #[.bool g1, .string n1, .string d1] 23))) := hB4.out.alloc hB4.out.size _
    have hb5 := Lib.hid (hb4.out.alloc (.cells #[.bool g1, .string n1, .string d1] 23))
    have hp5 : Hid (B3 (w4.alloc (.cells #[.bool g1, .string n1, .string d1] 23)) w4.heap.size g1 n1 d1) := B3.new w4 g1 n1 d1
    clear hB4 hb4
    have k2 := Lib.hid (ko2.out (w4.alloc (.cells #[.bool g1, .string n1, .string d1] 23)) (hE.out.below hB5.out))
    go_wp2_with fail
    refine k2.out.mono ?_
    rintro e w6 ⟨rfl, hb⟩
    have hB6 := Lib.hid (hB5.out.trans (hb.mono hB5.out.size)); have hb6 := Lib.hid (hb5.out.below hb); have hp6 := Lib.hid (hp5.out.below hb)
    clear hb hB5 hb5 hp5 k2 ko2
    have hB7 : Hid (Below w.heap.size w (w6.alloc (.cells #[.bool g2, .string n2, .string d2] 23))) := hB6.out.alloc hB6.out.size _
    have hb7 := Lib.hid (hb6.out.alloc (.cells #[.bool g2, .string n2, .string d2] 23))
    have hp7 := Lib.hid (hp6.out.alloc (.cells #[.bool g2, .string n2, .string d2] 23))
    have hr7 : Hid (B3 (w6.alloc (.cells #[.bool g2, .string n2, .string d2] 23)) w6.heap.size g2 n2 d2) := B3.new w6 g2 n2 d2
    have k3 := Lib.hid (ka.out (w6.alloc (.cells #[.bool g2, .string n2, .string d2] 23)) (hE.out.below hB7.out))
    obtain ⟨y0, y1, y2, y3, y4, y5⟩ := hp6.out.facts
    have y9 := hp6.out.lt
    clear hB6 hb6 hp6
    go_wp2_with fail
    refine k3.out.mono ?_
    rintro e w8 ⟨rfl, hb⟩
    have hB8 := Lib.hid (hB7.out.trans (hb.mono hB7.out.size)); have hb8 := Lib.hid (hb7.out.below hb)
    clear hb hB7 hb7 hp7 hr7 k3 ka y0 y1 y2 y3 y4 y5 y9
    have hB9 : Hid (Below w.heap.size w (w8.alloc (.cells #[.bool g3, .string n3, .string d3] 23))) := hB8.out.alloc hB8.out.size _
    have k4 := Lib.hid (kc.out (w8.alloc (.cells #[.bool g3, .string n3, .string d3] 23)) (hE.out.below hB9.out))
    obtain ⟨x0, x1, x2, x3, x4, x5⟩ := hb8.out.facts
    have x9 := hb8.out.lt
    clear hB8 hb8
    go_wp2_with fail
    refine k4.out.mono ?_
    rintro e w10 ⟨rfl, hb⟩
    have hB10 := Lib.hid (hB9.out.trans (hb.mono hB9.out.size))
    clear hb hB9 k4 kc x0 x1 x2 x3 x4 x5 x9
    by_cases c1 : 0 < c
    · obtain rfl : res = N + 1 := by rw [hres.out, if_pos (.inl c1)]
      have v1 : decide (0 < c) = true := decide_eq_true c1
      replace c1 := Lib.hid c1
      clear hres
      go_wp2
      go_ret2
      exact ⟨rfl, hB10.out⟩
    · have v1 : decide (0 < c) = false := decide_eq_false c1
      by_cases c2 : c = 0 ∧ N.tmod 2 ≠ 0
      · obtain rfl : res = N + 1 := by rw [hres.out, if_pos (.inr c2)]
        have v2 : (c == 0) = true := by rw [beq_iff_eq]; exact c2.1
        have v3 : (N.tmod 2 != 0) = true := by rw [bne_iff_ne]; exact c2.2
        replace c1 := Lib.hid c1; replace c2 := Lib.hid c2
        clear hres
        go_wp2
        go_ret2
        exact ⟨rfl, hB10.out⟩
      · obtain rfl : N = res := by rw [hres.out, if_neg fun h => h.elim c1 c2]
        by_cases c3 : c = 0
        · have v2 : (c == 0) = true := by rw [beq_iff_eq]; exact c3
          have v3 : (N.tmod 2 != 0) = false := by rw [bne_eq_false_iff_eq]; exact Decidable.byContradiction fun h => c2 ⟨c3, h⟩
          replace c1 := Lib.hid c1; replace c2 := Lib.hid c2; replace c3 := Lib.hid c3
          clear hres
          go_wp2
          go_ret2
          exact ⟨rfl, hB10.out⟩
        · have v2 : (c == 0) = false := by rw [beq_eq_false_iff_ne]; exact c3
          replace c1 := Lib.hid c1; replace c2 := Lib.hid c2; replace c3 := Lib.hid c3
          clear hres
          go_wp2
          go_ret2
          exact ⟨rfl, hB10.out⟩
end Mo
end Go.Proofs.YtpmlhgmmobpilaaGreatDoor

namespace Go.Proofs.YtpmlhgmmobpilaaGreatDoor
open Go.RowKit Go.Shelf
namespace Mo
open Nt Ci
def unitB (u : Int) : Bool := decide (-1000000000000 ≤ u) && decide (u ≤ 1000000000000)
def properB (c : ByteArray) (u : Int) : Bool := identB c && unitB u
set_option maxRecDepth 100000 in
theorem proper_any (c : ByteArray) (u : Int) (w : World) (hc : c.size ≤ 140737488355328) : Calls Tryz.prog 55 #[.agg #[.string c, .int .i64 u]] w fun e w' => e = .returned (.bool (properB c u)) ∧ Below w.heap.size w w' := by
  have hB1 : Hid (Below w.heap.size w (w.alloc (.cells #[.string c, .int .i64 u] 35))) := (Below.refl _ w).alloc (Nat.le_refl _) _
  have kc := Lib.hid (isCurrency_w c (w.alloc (.cells #[.string c, .int .i64 u] 35)) (by omega))
  unfold properB unitB
  generalize identB c = b at kc ⊢
  cases b with
  | false =>
    rw [Bool.false_and]
    go_enter Tryz.func55, Tryz.ntmps55
    go_wp2_with fail
    refine kc.out.mono ?_
    rintro e wq ⟨rfl, hq⟩
    obtain rfl := hq.symm
    go_wp2
    go_ret
    exact ⟨rfl, hB1.out⟩
  | true =>
    rw [Bool.true_and]
    cases h1 : decide (-1000000000000 ≤ u) with
    | false =>
      rw [Bool.false_and]
      go_enter Tryz.func55, Tryz.ntmps55
      go_wp2_with fail
      refine kc.out.mono ?_
      rintro e wq ⟨rfl, hq⟩
      obtain rfl := hq.symm
      go_wp2
      go_ret
      exact ⟨rfl, hB1.out⟩
    | true =>
      rw [Bool.true_and]
      cases h2 : decide (u ≤ 1000000000000) with
      | false =>
        go_enter Tryz.func55, Tryz.ntmps55
        go_wp2_with fail
        refine kc.out.mono ?_
        rintro e wq ⟨rfl, hq⟩
        obtain rfl := hq.symm
        go_wp2
        go_ret
        exact ⟨rfl, hB1.out⟩
      | true =>
        go_enter Tryz.func55, Tryz.ntmps55
        go_wp2_with fail
        refine kc.out.mono ?_
        rintro e wq ⟨rfl, hq⟩
        obtain rfl := hq.symm
        go_wp2
        go_ret
        exact ⟨rfl, hB1.out⟩
/-- Block sb holds a rational number. -/
def QB (W : World) (sb : Nat) (q : Rat) : Prop := ∃ g n d, (.agg #[.bool g, .string n, .string d] : Value) = qv q ∧ Bk W sb 23 [.bool g, .string n, .string d]
/-- Conversions, step by step. -/
def cvK (u xn xm ym yn : Int) : Nat → Rat
  | 0 => (u : Rat)
  | 1 => (u : Rat) * ofQ xn xm
  | _ => (u : Rat) * ofQ xn xm * ofQ ym yn
def cvQ (u : Int) (x y : Rt) : Rat := cvK u x.2.2.1 x.2.2.2 y.2.2.2 y.2.2.1 2
def cvV : Option Rat → Value
  | none => zv
  | some q => qv q
/-- What Convert returns. -/
def convR (l : List Rt) (base c : ByteArray) (u : Int) (tc : ByteArray) (day : Int) : Option Rat × Int :=
  if properB c u = true then
    (if (findR l base c day).2 = 0 then (if (findR l base tc day).2 = 0 then (some (cvQ u (findR l base c day).1 (findR l base tc day).1), 0) else (none, (findR l base tc day).2)) else (none, (findR l base c day).2))
  else (none, 1)
theorem ofQ_dg {m n : Int} (hm : 1 ≤ m ∧ m ≤ 1000000) (hn : 1 ≤ n ∧ n ≤ 1000000) : Dg 7 (ofQ m n) := by
  have h := mkRat_le (sg (!(decide (m < 0) == decide (n < 0))) m.natAbs) n.natAbs (by omega)
  rw [sg_natAbs] at h
  refine ⟨Nat.lt_of_le_of_lt h.1 ?_, Nat.lt_of_le_of_lt h.2 ?_⟩ <;> omega
theorem units_dg {u : Int} (h : unitB u = true) : Dg 13 (u : Rat) := by
  unfold unitB at h
  simp only [Bool.and_eq_true, decide_eq_true_eq] at h
  exact ⟨by show u.natAbs < _; omega, by show 1 < _; omega⟩
theorem cvK_short {u xn xm ym yn : Int} (hu : unitB u = true) (h1 : 1 ≤ xn ∧ xn ≤ 1000000) (h2 : 1 ≤ xm ∧ xm ≤ 1000000) (h3 : 1 ≤ ym ∧ ym ≤ 1000000) (h4 : 1 ≤ yn ∧ yn ≤ 1000000) (k : Nat) : ShortQ (cvK u xn xm ym yn k) := by
  have d0 := units_dg hu
  have d1 := d0.mul (ofQ_dg h1 h2)
  have d2 := d1.mul (ofQ_dg h3 h4)
  unfold cvK
  split
  · exact d0.short (by omega)
  · exact d1.short (by omega)
  · exact d2.short (by omega)
theorem find_lim {l : List Rt} {base cur : ByteArray} {day : Int} (h : (findR l base cur day).2 = 0) : (1 ≤ (findR l base cur day).1.2.2.1 ∧ (findR l base cur day).1.2.2.1 ≤ 1000000) ∧ (1 ≤ (findR l base cur day).1.2.2.2 ∧ (findR l base cur day).1.2.2.2 ≤ 1000000) := by
  have := find_ok (l := l) (base := base) (cur := cur) (day := day) (x := (findR l base cur day).1) (Prod.ext rfl h)
  exact ⟨this.1, this.2.1⟩
set_option maxRecDepth 100000 in
set_option maxHeartbeats 8000000 in
theorem Convert_any (l : List Rt) (A : Option Addr) (cap : Nat) (base c : ByteArray) (u : Int) (tc : ByteArray) (day : Int) (w : World) (hE : Env w) (hl : InRt w A l) (hll : l.length ≤ 140737488355328) (hbs : base.size ≤ 140737488355328) (hcs : c.size ≤ 140737488355328) (hts : tc.size ≤ 140737488355328) (hz : RtSz l) :
    Calls Tryz.prog 17 #[.slice A l.length cap, .string base, .agg #[.string c, .int .i64 u], .string tc, .int .i64 day] w fun e w' => e = .returned (.tuple #[cvV (convR l base c u tc day).1, .int .i64 (convR l base c u tc day).2]) ∧ Below w.heap.size w w' := by
  have hB1 : Hid (Below w.heap.size w ((w.alloc (.cells #[.string c, .int .i64 u] 35)).alloc (.cells #[.bool false, .string ⟨#[]⟩, .string ⟨#[]⟩] 23))) := ((Below.refl _ w).alloc (Nat.le_refl _) _).alloc (by simp) _
  have ha1 : Hid (Bk ((w.alloc (.cells #[.string c, .int .i64 u] 35)).alloc (.cells #[.bool false, .string ⟨#[]⟩, .string ⟨#[]⟩] 23)) w.heap.size 35 [.string c, .int .i64 u]) := (Bk.new w _ _).alloc _
  have hr1 : Hid (Bk ((w.alloc (.cells #[.string c, .int .i64 u] 35)).alloc (.cells #[.bool false, .string ⟨#[]⟩, .string ⟨#[]⟩] 23)) (w.heap.size + 1) 23 [.bool false, .string ⟨#[]⟩, .string ⟨#[]⟩]) := by have h := Bk.new (w.alloc (.cells #[.string c, .int .i64 u] 35)) 23 [.bool false, .string ⟨#[]⟩, .string ⟨#[]⟩]; rw [World.size_alloc] at h; exact h
  have kp := Lib.hid (proper_any c u ((w.alloc (.cells #[.string c, .int .i64 u] 35)).alloc (.cells #[.bool false, .string ⟨#[]⟩, .string ⟨#[]⟩] 23)) hcs)
  have kf := Lib.hid (fun cur (hc : cur.size ≤ 140737488355328) W (hW : Below w.heap.size w W) => Find_any l A cap base cur day W (hl.below hW) hll hbs hc hz)
  obtain ⟨res, hres⟩ : ∃ r, r = convR l base c u tc day := ⟨_, rfl⟩
  rw [← hres]
  unfold convR at hres
  have hl1 := @find_lim l base c day; have hl2 := @find_lim l base tc day
  have kf1 := Lib.hid (kf.out c hcs); have kf2 := Lib.hid (kf.out tc hts)
  clear kf
  obtain ⟨fx, hfx⟩ : ∃ x, x = findR l base c day := ⟨_, rfl⟩; obtain ⟨fy, hfy⟩ : ∃ x, x = findR l base tc day := ⟨_, rfl⟩
  simp only [← hfx] at kf1 hl1 hres; simp only [← hfy] at kf2 hl2 hres
  clear hfx hfy
  obtain ⟨⟨xc, xd, xn, xm⟩, ex⟩ := fx; obtain ⟨⟨yc, yd, yn, ym⟩, ey⟩ := fy
  have hpu : properB c u = true → unitB u = true := fun h => by unfold properB at h; rw [Bool.and_eq_true] at h; exact h.2
  generalize properB c u = pb at kp hres hpu
  replace kf1 : Hid (∀ W, Below w.heap.size w W → Calls Tryz.prog 21 #[.slice A l.length cap, .string base, .string c, .int .i64 day] W fun e w' => e = .returned (.tuple #[.agg #[.string xc, .int .i64 xd, .int .i64 xn, .int .i64 xm], .int .i64 ex]) ∧ Below W.heap.size W w') := kf1
  replace kf2 : Hid (∀ W, Below w.heap.size w W → Calls Tryz.prog 21 #[.slice A l.length cap, .string base, .string tc, .int .i64 day] W fun e w' => e = .returned (.tuple #[.agg #[.string yc, .int .i64 yd, .int .i64 yn, .int .i64 ym], .int .i64 ey]) ∧ Below W.heap.size W w') := kf2
  replace hl1 : ex = 0 → (1 ≤ xn ∧ xn ≤ 1000000) ∧ (1 ≤ xm ∧ xm ≤ 1000000) := hl1
  replace hl2 : ey = 0 → (1 ≤ yn ∧ yn ≤ 1000000) ∧ (1 ≤ ym ∧ ym ≤ 1000000) := hl2
  replace hE := Lib.hid hE; replace hl := Lib.hid hl; replace hz := Lib.hid hz; replace hl1 := Lib.hid hl1; replace hl2 := Lib.hid hl2; replace hres := Lib.hid hres; replace hpu := Lib.hid hpu
  go_enter Tryz.func17, Tryz.ntmps17
  have a0 := ha1.out.cell (j := 0) rfl
  have a1 := ha1.out.cell (j := 1) rfl
  have a9 := ha1.out.lt
  go_wp2_with fail
  refine kp.out.mono ?_
  rintro e w2 ⟨rfl, hb⟩
  have hB2 := Lib.hid (hB1.out.trans (hb.mono hB1.out.size)); have ha2 := Lib.hid (ha1.out.below hb); have hr2 := Lib.hid (hr1.out.below hb)
  clear hb hB1 ha1 hr1 a0 a1 a9 kp
  have a0 := ha2.out.cell (j := 0) rfl
  have a1 := ha2.out.cell (j := 1) rfl
  have a9 := ha2.out.lt
  have r0 := hr2.out.cell (j := 0) rfl; have p0 := hr2.out.frozen 0
  have r1 := hr2.out.cell (j := 1) rfl; have p1 := hr2.out.frozen 1
  have r2 := hr2.out.cell (j := 2) rfl; have p2 := hr2.out.frozen 2
  have r9 := hr2.out.lt
  cases pb with
  | false =>
    have hrr : res = (none, 1) := hres.out.trans (if_neg (by decide))
    have hB5 : Hid (Below w.heap.size w (((w2.setCell ⟨w.heap.size + 1, 0, none⟩ (.bool false)).setCell ⟨w.heap.size + 1, 1, none⟩ (.string ⟨#[]⟩)).setCell ⟨w.heap.size + 1, 2, none⟩ (.string ⟨#[]⟩))) := (((hB2.out.setCell (p := ⟨w.heap.size + 1, 0, none⟩) (by simp only []; omega) _).setCell (p := ⟨w.heap.size + 1, 1, none⟩) (by simp only []; omega) _).setCell (p := ⟨w.heap.size + 1, 2, none⟩) (by simp only []; omega) _)
    have hR5 : Hid (Bk (((w2.setCell ⟨w.heap.size + 1, 0, none⟩ (.bool false)).setCell ⟨w.heap.size + 1, 1, none⟩ (.string ⟨#[]⟩)).setCell ⟨w.heap.size + 1, 2, none⟩ (.string ⟨#[]⟩)) (w.heap.size + 1) 23 [.bool false, .string ⟨#[]⟩, .string ⟨#[]⟩]) := ((Bk.set hr2.out 0 (.bool false)).set 1 (.string ⟨#[]⟩)).set 2 (.string ⟨#[]⟩)
    go_wp2
    (try simp only [Exit.inBlock, Exit.then])
    have s0 := hR5.out.cell (j := 0) rfl
    have s1 := hR5.out.cell (j := 1) rfl
    have s2 := hR5.out.cell (j := 2) rfl
    have s9 := hR5.out.lt
    refine bodyPost_ret (v := .tuple #[.agg #[.bool false, .string ⟨#[]⟩, .string ⟨#[]⟩], .int .i64 1]) (by simp [results, Tryz.results17, go_sem, s0, s1, s2]) rfl ⟨by rw [hrr]; rfl, hB5.out⟩
  | true =>
    clear r0 r1 r2 r9 p0 p1 p2
    have hu := hpu.out rfl
    have k1 := Lib.hid (kf1.out w2 hB2.out)
    go_wp2_with fail
    refine k1.out.mono ?_
    rintro e w3 ⟨rfl, hb⟩
    have hB3 := Lib.hid (hB2.out.trans (hb.mono hB2.out.size)); have ha3 := Lib.hid (ha2.out.below hb); have hr3 := Lib.hid (hr2.out.below hb)
    clear hb hB2 ha2 hr2 a0 a1 a9 k1 kf1
    by_cases hex : ex = 0
    rotate_left
    · have hrr : res = (none, ex) := hres.out.trans ((if_pos (by trivial)).trans (if_neg hex))
      have m1 : (ex != 0) = true := by rw [bne_iff_ne]; exact hex
      replace hex := Lib.hid hex
      have r0 := hr3.out.cell (j := 0) rfl; have p0 := hr3.out.frozen 0
      have r1 := hr3.out.cell (j := 1) rfl; have p1 := hr3.out.frozen 1
      have r2 := hr3.out.cell (j := 2) rfl; have p2 := hr3.out.frozen 2
      have r9 := hr3.out.lt
      have hB4 : Hid (Below w.heap.size w (((w3.setCell ⟨w.heap.size + 1, 0, none⟩ (.bool false)).setCell ⟨w.heap.size + 1, 1, none⟩ (.string ⟨#[]⟩)).setCell ⟨w.heap.size + 1, 2, none⟩ (.string ⟨#[]⟩))) := (((hB3.out.setCell (p := ⟨w.heap.size + 1, 0, none⟩) (by simp only []; omega) _).setCell (p := ⟨w.heap.size + 1, 1, none⟩) (by simp only []; omega) _).setCell (p := ⟨w.heap.size + 1, 2, none⟩) (by simp only []; omega) _)
      have hB5 : Hid (Below w.heap.size w ((((w3.setCell ⟨w.heap.size + 1, 0, none⟩ (.bool false)).setCell ⟨w.heap.size + 1, 1, none⟩ (.string ⟨#[]⟩)).setCell ⟨w.heap.size + 1, 2, none⟩ (.string ⟨#[]⟩)).alloc (.cells #[.string xc, .int .i64 xd, .int .i64 xn, .int .i64 xm] 42))) := hB4.out.alloc hB4.out.size _
      have hR5 : Hid (Bk ((((w3.setCell ⟨w.heap.size + 1, 0, none⟩ (.bool false)).setCell ⟨w.heap.size + 1, 1, none⟩ (.string ⟨#[]⟩)).setCell ⟨w.heap.size + 1, 2, none⟩ (.string ⟨#[]⟩)).alloc (.cells #[.string xc, .int .i64 xd, .int .i64 xn, .int .i64 xm] 42)) (w.heap.size + 1) 23 [.bool false, .string ⟨#[]⟩, .string ⟨#[]⟩]) := (((Bk.set hr3.out 0 (.bool false)).set 1 (.string ⟨#[]⟩)).set 2 (.string ⟨#[]⟩)).alloc _
      go_wp2
      (try simp only [Exit.inBlock, Exit.then])
      have s0 := hR5.out.cell (j := 0) rfl
      have s1 := hR5.out.cell (j := 1) rfl
      have s2 := hR5.out.cell (j := 2) rfl
      have s9 := hR5.out.lt
      refine bodyPost_ret (v := .tuple #[.agg #[.bool false, .string ⟨#[]⟩, .string ⟨#[]⟩], .int .i64 ex]) (by simp [results, Tryz.results17, go_sem, s0, s1, s2]) rfl ⟨by rw [hrr]; rfl, hB5.out⟩
    · have hx := hl1.out hex
      have hr0 := hres.out.trans ((if_pos (by trivial)).trans (if_pos hex))
      replace hr0 := Lib.hid hr0
      obtain rfl := hex
      have hB4 : Hid (Below w.heap.size w (w3.alloc (.cells #[.string xc, .int .i64 xd, .int .i64 xn, .int .i64 xm] 42))) := hB3.out.alloc hB3.out.size _
      have ha4 := Lib.hid (ha3.out.alloc (.cells #[.string xc, .int .i64 xd, .int .i64 xn, .int .i64 xm] 42)); have hr4 := Lib.hid (hr3.out.alloc (.cells #[.string xc, .int .i64 xd, .int .i64 xn, .int .i64 xm] 42))
      have hx4 : Hid (Bk (w3.alloc (.cells #[.string xc, .int .i64 xd, .int .i64 xn, .int .i64 xm] 42)) w3.heap.size 42 [.string xc, .int .i64 xd, .int .i64 xn, .int .i64 xm]) := Bk.new _ _ _
      have k2 := Lib.hid (kf2.out (w3.alloc (.cells #[.string xc, .int .i64 xd, .int .i64 xn, .int .i64 xm] 42)) hB4.out)
      clear hB3 ha3 hr3
      go_wp2_with fail
      refine k2.out.mono ?_
      rintro e w5 ⟨rfl, hb⟩
      have hB5 := Lib.hid (hB4.out.trans (hb.mono hB4.out.size)); have ha5 := Lib.hid (ha4.out.below hb); have hr5 := Lib.hid (hr4.out.below hb); have hx5 := Lib.hid (hx4.out.below hb)
      clear hb hB4 ha4 hr4 hx4 k2 kf2
      by_cases hey : ey = 0
      rotate_left
      · have hrr : res = (none, ey) := hr0.out.trans (if_neg hey)
        have m1 : (ey != 0) = true := by rw [bne_iff_ne]; exact hey
        replace hey := Lib.hid hey
        replace hB5 : Hid (Below w.heap.size w w5) := hB5
        have r0 := hr5.out.cell (j := 0) rfl; have p0 := hr5.out.frozen 0
        have r1 := hr5.out.cell (j := 1) rfl; have p1 := hr5.out.frozen 1
        have r2 := hr5.out.cell (j := 2) rfl; have p2 := hr5.out.frozen 2
        have r9 := hr5.out.lt
        have hB4 : Hid (Below w.heap.size w (((w5.setCell ⟨w.heap.size + 1, 0, none⟩ (.bool false)).setCell ⟨w.heap.size + 1, 1, none⟩ (.string ⟨#[]⟩)).setCell ⟨w.heap.size + 1, 2, none⟩ (.string ⟨#[]⟩))) := (((hB5.out.setCell (p := ⟨w.heap.size + 1, 0, none⟩) (by simp only []; omega) _).setCell (p := ⟨w.heap.size + 1, 1, none⟩) (by simp only []; omega) _).setCell (p := ⟨w.heap.size + 1, 2, none⟩) (by simp only []; omega) _)
        have hB6 : Hid (Below w.heap.size w ((((w5.setCell ⟨w.heap.size + 1, 0, none⟩ (.bool false)).setCell ⟨w.heap.size + 1, 1, none⟩ (.string ⟨#[]⟩)).setCell ⟨w.heap.size + 1, 2, none⟩ (.string ⟨#[]⟩)).alloc (.cells #[.string yc, .int .i64 yd, .int .i64 yn, .int .i64 ym] 42))) := hB4.out.alloc hB4.out.size _
        have hR6 : Hid (Bk ((((w5.setCell ⟨w.heap.size + 1, 0, none⟩ (.bool false)).setCell ⟨w.heap.size + 1, 1, none⟩ (.string ⟨#[]⟩)).setCell ⟨w.heap.size + 1, 2, none⟩ (.string ⟨#[]⟩)).alloc (.cells #[.string yc, .int .i64 yd, .int .i64 yn, .int .i64 ym] 42)) (w.heap.size + 1) 23 [.bool false, .string ⟨#[]⟩, .string ⟨#[]⟩]) := (((Bk.set hr5.out 0 (.bool false)).set 1 (.string ⟨#[]⟩)).set 2 (.string ⟨#[]⟩)).alloc _
        go_wp2
        (try simp only [Exit.inBlock, Exit.then])
        have s0 := hR6.out.cell (j := 0) rfl
        have s1 := hR6.out.cell (j := 1) rfl
        have s2 := hR6.out.cell (j := 2) rfl
        have s9 := hR6.out.lt
        refine bodyPost_ret (v := .tuple #[.agg #[.bool false, .string ⟨#[]⟩, .string ⟨#[]⟩], .int .i64 ey]) (by simp [results, Tryz.results17, go_sem, s0, s1, s2]) rfl ⟨by rw [hrr]; rfl, hB6.out⟩
      · have hy := hl2.out hey
        have hrr : Hid (res = (some (cvK u xn xm ym yn 2), 0)) := hr0.out.trans (if_pos hey)
        obtain rfl := hey
        have hsh := Lib.hid (fun k => cvK_short hu hx.1 hx.2 hy.2 hy.1 k)
        have hdx := Lib.hid ((ofQ_dg hx.1 hx.2).short (by omega)); have hdy := Lib.hid ((ofQ_dg hy.2 hy.1).short (by omega))
        have hu2 : -1000000000000 ≤ u ∧ u ≤ 1000000000000 := by unfold unitB at hu; simpa using hu
        obtain ⟨⟨x1, x2⟩, x3, x4⟩ := hx; obtain ⟨⟨y1, y2⟩, y3, y4⟩ := hy; obtain ⟨u1, u2⟩ := hu2
        clear hr0 hres hl1 hl2 hpu
        have hB6 : Hid (Below w.heap.size w (w5.alloc (.cells #[.string yc, .int .i64 yd, .int .i64 yn, .int .i64 ym] 42))) := hB5.out.alloc hB5.out.size _
        have hr6 := Lib.hid (hr5.out.alloc (.cells #[.string yc, .int .i64 yd, .int .i64 yn, .int .i64 ym] 42)); have hx6 := Lib.hid (hx5.out.alloc (.cells #[.string yc, .int .i64 yd, .int .i64 yn, .int .i64 ym] 42))
        have hy6 : Hid (Bk (w5.alloc (.cells #[.string yc, .int .i64 yd, .int .i64 yn, .int .i64 ym] 42)) w5.heap.size 42 [.string yc, .int .i64 yd, .int .i64 yn, .int .i64 ym]) := Bk.new _ _ _
        obtain ⟨g0, n0, d0, q0⟩ := agg_qv (u : Rat)
        have ko1 : Hid (Calls Tryz.prog 46 #[.int .i64 u, .int .i64 1] (w5.alloc (.cells #[.string yc, .int .i64 yd, .int .i64 yn, .int .i64 ym] 42)) fun e w' => e = .returned (.tuple #[.agg #[.bool g0, .string n0, .string d0], .int .i64 0]) ∧ Below ((w5.alloc (.cells #[.string yc, .int .i64 yd, .int .i64 yn, .int .i64 ym] 42))).heap.size (w5.alloc (.cells #[.string yc, .int .i64 yd, .int .i64 yn, .int .i64 ym] 42)) w') := by have h := RatOf_any u 1 (by omega) (by omega) (by omega) (by omega) (by omega) (w5.alloc (.cells #[.string yc, .int .i64 yd, .int .i64 yn, .int .i64 ym] 42)) (hE.out.below hB6.out); rw [ofQ_one, q0] at h; exact h
        have a0 := ha5.out.cell (j := 0) rfl
        have a1 := ha5.out.cell (j := 1) rfl
        have a9 := ha5.out.lt
        clear hB5 ha5 hr5 hx5
        go_wp2_with fail
        refine ko1.out.mono ?_
        rintro e w7 ⟨rfl, hb⟩
        have hB7 := Lib.hid (hB6.out.trans (hb.mono hB6.out.size)); have hr7 := Lib.hid (hr6.out.below hb); have hx7 := Lib.hid (hx6.out.below hb); have hy7 := Lib.hid (hy6.out.below hb)
        clear hb hB6 hr6 hx6 hy6 ko1 a0 a1 a9
        have x20 := hx7.out.cell (j := 2) rfl; have y20 := hy7.out.cell (j := 2) rfl
        have x30 := hx7.out.cell (j := 3) rfl; have y30 := hy7.out.cell (j := 3) rfl
        have x90 := hx7.out.lt; have y90 := hy7.out.lt
        have hsv : Hid (Bk ((w7.alloc (.cells #[.bool g0, .string n0, .string d0] 23)).alloc (.cells #[.int .i64 xn, .int .i64 xm, .int .i64 ym, .int .i64 yn] 78)) (w7.heap.size + 1) 78 [.int .i64 xn, .int .i64 xm, .int .i64 ym, .int .i64 yn]) := by have h := Bk.new (w7.alloc (.cells #[.bool g0, .string n0, .string d0] 23)) 78 [.int .i64 xn, .int .i64 xm, .int .i64 ym, .int .i64 yn]; rw [World.size_alloc] at h; exact h
        have hqv : Hid (QB ((w7.alloc (.cells #[.bool g0, .string n0, .string d0] 23)).alloc (.cells #[.int .i64 xn, .int .i64 xm, .int .i64 ym, .int .i64 yn] 78)) w7.heap.size (cvK u xn xm ym yn 0)) := ⟨g0, n0, d0, q0.symm, (Bk.new _ _ _).alloc _⟩
        have hB8 : Hid (Below w.heap.size w ((w7.alloc (.cells #[.bool g0, .string n0, .string d0] 23)).alloc (.cells #[.int .i64 xn, .int .i64 xm, .int .i64 ym, .int .i64 yn] 78))) := (hB7.out.alloc hB7.out.size _).alloc (by have := hB7.out.size; simp; omega) _
        have hr8 := Lib.hid ((hr7.out.alloc (.cells #[.bool g0, .string n0, .string d0] 23)).alloc (.cells #[.int .i64 xn, .int .i64 xm, .int .i64 ym, .int .i64 yn] 78))
        have hwv : Hid (w.heap.size + 1 < w7.heap.size) := hr7.out.lt
        go_wp2_with fail
        clear hB7 hr7 hx7 hy7 x20 x30 y20 y30 x90 y90
        go_loopw [68] (fun ix wr => ∃ (k : Nat), k ≤ 2 ∧ ix = .int .i64 (k : Int) ∧ Hid (Below w.heap.size w wr) ∧ Hid (QB wr w7.heap.size (cvK u xn xm ym yn k)) ∧ Hid (Bk wr (w7.heap.size + 1) 78 [.int .i64 xn, .int .i64 xm, .int .i64 ym, .int .i64 yn]) ∧ Hid (Bk wr (w.heap.size + 1) 23 [.bool false, .string ⟨#[]⟩, .string ⟨#[]⟩])) (fun ix _ => 2 - (intOf ix).toNat)
        case atStart => exact ⟨0, by omega, rfl, hB8, hqv, hsv, hr8⟩
        case round =>
          obtain ⟨k, hk, rfl, hB, hQ, hS, hR⟩ := hrel
          clear hB8 hqv hsv hr8
          obtain ⟨wz, rfl⟩ : ∃ z, z = wr := ⟨_, rfl⟩
          obtain ⟨g1, n1, d1, hq1, hs1⟩ := hQ.out
          replace hs1 := Lib.hid hs1
          clear hQ
          rcases (by omega : k = 0 ∨ k = 1 ∨ k = 2) with rfl | rfl | rfl
          · obtain ⟨g2, n2, d2, q2⟩ := agg_qv (ofQ xn xm)
            obtain ⟨g3, n3, d3, q3⟩ := agg_qv (cvK u xn xm ym yn 1)
            have kO : Hid (∀ W, Env W → Calls Tryz.prog 46 #[.int .i64 xn, .int .i64 xm] W fun e w' => e = .returned (.tuple #[.agg #[.bool g2, .string n2, .string d2], .int .i64 0]) ∧ Below W.heap.size W w') := fun W hW => by have h := RatOf_any xn xm (by omega) (by omega) (by omega) (by omega) (by omega) W hW; rw [q2] at h; exact h
            have kM : Hid (∀ W, Env W → Calls Tryz.prog 19 #[.agg #[.bool g1, .string n1, .string d1], .agg #[.bool g2, .string n2, .string d2]] W fun e w' => e = .returned (.tuple #[.agg #[.bool g3, .string n3, .string d3], .int .i64 0]) ∧ Below W.heap.size W w') := fun W hW => by have h := Mul_short (cvK u xn xm ym yn 0) (ofQ xn xm) (hsh.out 0) hdx.out W hW; rw [show cvK u xn xm ym yn 0 * ofQ xn xm = cvK u xn xm ym yn 1 from rfl, ← hq1, q2, q3] at h; exact h
            clear hq1 q2
            have e0 : wz.cell? ⟨w7.heap.size + 1, 0, none⟩ = some (.int .i64 xn) := hS.out.cell (j := 0) rfl; have e1 : wz.cell? ⟨w7.heap.size + 1, 1, none⟩ = some (.int .i64 xm) := hS.out.cell (j := 1) rfl; have e9 := hS.out.lt
            have hB9 : Hid (Below w.heap.size w (wz.alloc (.cells #[.int .i64 xn, .int .i64 xm] 78))) := hB.out.alloc hB.out.size _
            have hs9 := Lib.hid (hs1.out.alloc (.cells #[.int .i64 xn, .int .i64 xm] 78)); have hS9 := Lib.hid (hS.out.alloc (.cells #[.int .i64 xn, .int .i64 xm] 78)); have hR9 := Lib.hid (hR.out.alloc (.cells #[.int .i64 xn, .int .i64 xm] 78))
            have kO9 := Lib.hid (kO.out (wz.alloc (.cells #[.int .i64 xn, .int .i64 xm] 78)) (hE.out.below hB9.out))
            clear hB hs1 hS hR kO
            go_wp2_with fail
            refine kO9.out.mono ?_
            rintro e w10 ⟨rfl, hb⟩
            have hB10 := Lib.hid (hB9.out.trans (hb.mono hB9.out.size)); have hs10 := Lib.hid (hs9.out.below hb); have hS10 := Lib.hid (hS9.out.below hb); have hR10 := Lib.hid (hR9.out.below hb)
            clear hb hB9 hs9 hS9 hR9 kO9 e0 e1 e9
            have hB11 : Hid (Below w.heap.size w (w10.alloc (.cells #[.bool g2, .string n2, .string d2] 23))) := hB10.out.alloc hB10.out.size _
            have hs11 := Lib.hid (hs10.out.alloc (.cells #[.bool g2, .string n2, .string d2] 23)); have hS11 := Lib.hid (hS10.out.alloc (.cells #[.bool g2, .string n2, .string d2] 23)); have hR11 := Lib.hid (hR10.out.alloc (.cells #[.bool g2, .string n2, .string d2] 23))
            have kM11 := Lib.hid (kM.out (w10.alloc (.cells #[.bool g2, .string n2, .string d2] 23)) (hE.out.below hB11.out))
            have v0 := hs10.out.cell (j := 0) rfl; have v1 := hs10.out.cell (j := 1) rfl; have v2 := hs10.out.cell (j := 2) rfl; have v9 := hs10.out.lt
            clear hB10 hs10 hS10 hR10 kM
            go_wp2_with fail
            refine kM11.out.mono ?_
            rintro e w12 ⟨rfl, hb⟩
            have hB12 := Lib.hid (hB11.out.trans (hb.mono hB11.out.size)); have hs12 := Lib.hid (hs11.out.below hb); have hS12 := Lib.hid (hS11.out.below hb); have hR12 := Lib.hid (hR11.out.below hb)
            clear hb hB11 hs11 hS11 hR11 kM11 v0 v1 v2 v9
            have hB13 : Hid (Below w.heap.size w (((w12.setCell ⟨w7.heap.size, 0, none⟩ (.bool g3)).setCell ⟨w7.heap.size, 1, none⟩ (.string n3)).setCell ⟨w7.heap.size, 2, none⟩ (.string d3))) := ((hB12.out.setCell (p := ⟨w7.heap.size, 0, none⟩) (by have := hwv.out; simp only []; omega) _).setCell (p := ⟨w7.heap.size, 1, none⟩) (by have := hwv.out; simp only []; omega) _).setCell (p := ⟨w7.heap.size, 2, none⟩) (by have := hwv.out; simp only []; omega) _
            have hQ13 : Hid (QB (((w12.setCell ⟨w7.heap.size, 0, none⟩ (.bool g3)).setCell ⟨w7.heap.size, 1, none⟩ (.string n3)).setCell ⟨w7.heap.size, 2, none⟩ (.string d3)) w7.heap.size (cvK u xn xm ym yn 1)) := ⟨g3, n3, d3, q3.symm, ((hs12.out.set 0 (.bool g3)).set 1 (.string n3)).set 2 (.string d3)⟩
            have hS13 : Hid (Bk (((w12.setCell ⟨w7.heap.size, 0, none⟩ (.bool g3)).setCell ⟨w7.heap.size, 1, none⟩ (.string n3)).setCell ⟨w7.heap.size, 2, none⟩ (.string d3)) (w7.heap.size + 1) 78 [.int .i64 xn, .int .i64 xm, .int .i64 ym, .int .i64 yn]) := ((hS12.out.far (p := ⟨w7.heap.size, 0, none⟩) (by simp) _).far (p := ⟨w7.heap.size, 1, none⟩) (by simp) _).far (p := ⟨w7.heap.size, 2, none⟩) (by simp) _
            have hR13 : Hid (Bk (((w12.setCell ⟨w7.heap.size, 0, none⟩ (.bool g3)).setCell ⟨w7.heap.size, 1, none⟩ (.string n3)).setCell ⟨w7.heap.size, 2, none⟩ (.string d3)) (w.heap.size + 1) 23 [.bool false, .string ⟨#[]⟩, .string ⟨#[]⟩]) := ((hR12.out.far (p := ⟨w7.heap.size, 0, none⟩) (by have := hwv.out; simp only []; omega) _).far (p := ⟨w7.heap.size, 1, none⟩) (by have := hwv.out; simp only []; omega) _).far (p := ⟨w7.heap.size, 2, none⟩) (by have := hwv.out; simp only []; omega) _
            have v0 := hs12.out.cell (j := 0) rfl; have v1 := hs12.out.cell (j := 1) rfl; have v2 := hs12.out.cell (j := 2) rfl; have v9 := hs12.out.lt; have f0 := hs12.out.frozen 0; have f1 := hs12.out.frozen 1; have f2 := hs12.out.frozen 2
            go_wp2
            exact ⟨⟨1, by omega, by go_num, hB13, hQ13, hS13, hR13⟩, by simp only [intOf]; omega⟩
          · obtain ⟨g2, n2, d2, q2⟩ := agg_qv (ofQ ym yn)
            obtain ⟨g3, n3, d3, q3⟩ := agg_qv (cvK u xn xm ym yn 2)
            have kO : Hid (∀ W, Env W → Calls Tryz.prog 46 #[.int .i64 ym, .int .i64 yn] W fun e w' => e = .returned (.tuple #[.agg #[.bool g2, .string n2, .string d2], .int .i64 0]) ∧ Below W.heap.size W w') := fun W hW => by have h := RatOf_any ym yn (by omega) (by omega) (by omega) (by omega) (by omega) W hW; rw [q2] at h; exact h
            have kM : Hid (∀ W, Env W → Calls Tryz.prog 19 #[.agg #[.bool g1, .string n1, .string d1], .agg #[.bool g2, .string n2, .string d2]] W fun e w' => e = .returned (.tuple #[.agg #[.bool g3, .string n3, .string d3], .int .i64 0]) ∧ Below W.heap.size W w') := fun W hW => by have h := Mul_short (cvK u xn xm ym yn 1) (ofQ ym yn) (hsh.out 1) hdy.out W hW; rw [show cvK u xn xm ym yn 1 * ofQ ym yn = cvK u xn xm ym yn 2 from rfl, ← hq1, q2, q3] at h; exact h
            clear hq1 q2
            have e0 : wz.cell? ⟨w7.heap.size + 1, 2, none⟩ = some (.int .i64 ym) := hS.out.cell (j := 2) rfl; have e1 : wz.cell? ⟨w7.heap.size + 1, 3, none⟩ = some (.int .i64 yn) := hS.out.cell (j := 3) rfl; have e9 := hS.out.lt
            have hB9 : Hid (Below w.heap.size w (wz.alloc (.cells #[.int .i64 ym, .int .i64 yn] 78))) := hB.out.alloc hB.out.size _
            have hs9 := Lib.hid (hs1.out.alloc (.cells #[.int .i64 ym, .int .i64 yn] 78)); have hS9 := Lib.hid (hS.out.alloc (.cells #[.int .i64 ym, .int .i64 yn] 78)); have hR9 := Lib.hid (hR.out.alloc (.cells #[.int .i64 ym, .int .i64 yn] 78))
            have kO9 := Lib.hid (kO.out (wz.alloc (.cells #[.int .i64 ym, .int .i64 yn] 78)) (hE.out.below hB9.out))
            clear hB hs1 hS hR kO
            go_wp2_with fail
            refine kO9.out.mono ?_
            rintro e w10 ⟨rfl, hb⟩
            have hB10 := Lib.hid (hB9.out.trans (hb.mono hB9.out.size)); have hs10 := Lib.hid (hs9.out.below hb); have hS10 := Lib.hid (hS9.out.below hb); have hR10 := Lib.hid (hR9.out.below hb)
            clear hb hB9 hs9 hS9 hR9 kO9 e0 e1 e9
            have hB11 : Hid (Below w.heap.size w (w10.alloc (.cells #[.bool g2, .string n2, .string d2] 23))) := hB10.out.alloc hB10.out.size _
            have hs11 := Lib.hid (hs10.out.alloc (.cells #[.bool g2, .string n2, .string d2] 23)); have hS11 := Lib.hid (hS10.out.alloc (.cells #[.bool g2, .string n2, .string d2] 23)); have hR11 := Lib.hid (hR10.out.alloc (.cells #[.bool g2, .string n2, .string d2] 23))
            have kM11 := Lib.hid (kM.out (w10.alloc (.cells #[.bool g2, .string n2, .string d2] 23)) (hE.out.below hB11.out))
            have v0 := hs10.out.cell (j := 0) rfl; have v1 := hs10.out.cell (j := 1) rfl; have v2 := hs10.out.cell (j := 2) rfl; have v9 := hs10.out.lt
            clear hB10 hs10 hS10 hR10 kM
            go_wp2_with fail
            refine kM11.out.mono ?_
            rintro e w12 ⟨rfl, hb⟩
            have hB12 := Lib.hid (hB11.out.trans (hb.mono hB11.out.size)); have hs12 := Lib.hid (hs11.out.below hb); have hS12 := Lib.hid (hS11.out.below hb); have hR12 := Lib.hid (hR11.out.below hb)
            clear hb hB11 hs11 hS11 hR11 kM11 v0 v1 v2 v9
            have hB13 : Hid (Below w.heap.size w (((w12.setCell ⟨w7.heap.size, 0, none⟩ (.bool g3)).setCell ⟨w7.heap.size, 1, none⟩ (.string n3)).setCell ⟨w7.heap.size, 2, none⟩ (.string d3))) := ((hB12.out.setCell (p := ⟨w7.heap.size, 0, none⟩) (by have := hwv.out; simp only []; omega) _).setCell (p := ⟨w7.heap.size, 1, none⟩) (by have := hwv.out; simp only []; omega) _).setCell (p := ⟨w7.heap.size, 2, none⟩) (by have := hwv.out; simp only []; omega) _
            have hQ13 : Hid (QB (((w12.setCell ⟨w7.heap.size, 0, none⟩ (.bool g3)).setCell ⟨w7.heap.size, 1, none⟩ (.string n3)).setCell ⟨w7.heap.size, 2, none⟩ (.string d3)) w7.heap.size (cvK u xn xm ym yn 2)) := ⟨g3, n3, d3, q3.symm, ((hs12.out.set 0 (.bool g3)).set 1 (.string n3)).set 2 (.string d3)⟩
            have hS13 : Hid (Bk (((w12.setCell ⟨w7.heap.size, 0, none⟩ (.bool g3)).setCell ⟨w7.heap.size, 1, none⟩ (.string n3)).setCell ⟨w7.heap.size, 2, none⟩ (.string d3)) (w7.heap.size + 1) 78 [.int .i64 xn, .int .i64 xm, .int .i64 ym, .int .i64 yn]) := ((hS12.out.far (p := ⟨w7.heap.size, 0, none⟩) (by simp) _).far (p := ⟨w7.heap.size, 1, none⟩) (by simp) _).far (p := ⟨w7.heap.size, 2, none⟩) (by simp) _
            have hR13 : Hid (Bk (((w12.setCell ⟨w7.heap.size, 0, none⟩ (.bool g3)).setCell ⟨w7.heap.size, 1, none⟩ (.string n3)).setCell ⟨w7.heap.size, 2, none⟩ (.string d3)) (w.heap.size + 1) 23 [.bool false, .string ⟨#[]⟩, .string ⟨#[]⟩]) := ((hR12.out.far (p := ⟨w7.heap.size, 0, none⟩) (by have := hwv.out; simp only []; omega) _).far (p := ⟨w7.heap.size, 1, none⟩) (by have := hwv.out; simp only []; omega) _).far (p := ⟨w7.heap.size, 2, none⟩) (by have := hwv.out; simp only []; omega) _
            have v0 := hs12.out.cell (j := 0) rfl; have v1 := hs12.out.cell (j := 1) rfl; have v2 := hs12.out.cell (j := 2) rfl; have v9 := hs12.out.lt; have f0 := hs12.out.frozen 0; have f1 := hs12.out.frozen 1; have f2 := hs12.out.frozen 2
            go_wp2
            exact ⟨⟨2, by omega, by go_num, hB13, hQ13, hS13, hR13⟩, by simp only [intOf]; omega⟩
          · have hfin : Hid (Ending.returned (.tuple #[.agg #[.bool g1, .string n1, .string d1], .int .i64 0]) = .returned (.tuple #[cvV res.1, .int .i64 res.2])) := by rw [hrr.out, hq1]; rfl
            replace hq1 := Lib.hid hq1
            have v0 := hs1.out.cell (j := 0) rfl; have v1 := hs1.out.cell (j := 1) rfl; have v2 := hs1.out.cell (j := 2) rfl; have v9 := hs1.out.lt
            have hne : w.heap.size + 1 ≠ w7.heap.size := Nat.ne_of_lt hwv.out; have hne2 : w7.heap.size ≠ w.heap.size + 1 := Ne.symm hne
            have r0 := hR.out.cell (j := 0) rfl; have p0 := hR.out.frozen 0
            have r1 := hR.out.cell (j := 1) rfl; have p1 := hR.out.frozen 1
            have r2 := hR.out.cell (j := 2) rfl; have p2 := hR.out.frozen 2
            have r9 := hR.out.lt
            have hB5 : Hid (Below w.heap.size w (((wz.setCell ⟨w.heap.size + 1, 0, none⟩ (.bool g1)).setCell ⟨w.heap.size + 1, 1, none⟩ (.string n1)).setCell ⟨w.heap.size + 1, 2, none⟩ (.string d1))) := (((hB.out.setCell (p := ⟨w.heap.size + 1, 0, none⟩) (by simp only []; omega) _).setCell (p := ⟨w.heap.size + 1, 1, none⟩) (by simp only []; omega) _).setCell (p := ⟨w.heap.size + 1, 2, none⟩) (by simp only []; omega) _)
            have hR5 : Hid (Bk (((wz.setCell ⟨w.heap.size + 1, 0, none⟩ (.bool g1)).setCell ⟨w.heap.size + 1, 1, none⟩ (.string n1)).setCell ⟨w.heap.size + 1, 2, none⟩ (.string d1)) (w.heap.size + 1) 23 [.bool g1, .string n1, .string d1]) := ((Bk.set hR.out 0 (.bool g1)).set 1 (.string n1)).set 2 (.string d1)
            go_wp2
            (try simp only [Exit.inBlock, Exit.then])
            have s0 := hR5.out.cell (j := 0) rfl
            have s1 := hR5.out.cell (j := 1) rfl
            have s2 := hR5.out.cell (j := 2) rfl
            have s9 := hR5.out.lt
            refine bodyPost_ret (v := .tuple #[.agg #[.bool g1, .string n1, .string d1], .int .i64 0]) (by simp [results, Tryz.results17, go_sem, s0, s1, s2]) rfl ⟨hfin.out, hB5.out⟩
end Mo
end Go.Proofs.YtpmlhgmmobpilaaGreatDoor

namespace Go.Proofs.YtpmlhgmmobpilaaGreatDoor
namespace Co
open Ci
/-- How many 6000ths of the votes in p the parties of a set have; a link: company, holder, part. -/
def vs (V : List (Nat × Nat × Nat)) (S : Nat → Bool) (p : Nat) : Nat := (V.map fun x => if x.1 = p ∧ S x.2.1 = true then x.2.2 else 0).sum
def maj (V : List (Nat × Nat × Nat)) (S : Nat → Bool) (p : Nat) : Bool := decide (3000 < vs V S p)
/-- Those that are controlled up to a round. -/
def inR (V : List (Nat × Nat × Nat)) (F : List Nat) : Nat → Nat → Bool
  | 0, p => decide (p ∈ F)
  | k + 1, p => inR V F k p || maj V (inR V F k) p
section
variable {V : List (Nat × Nat × Nat)} {F F' : List Nat} {S T : Nat → Bool} {n p q k j : Nat}
def IsRd (V : List (Nat × Nat × Nat)) (F : List Nat) (p : Nat) (r : Int) : Prop :=
  (r = -1 ∧ ∀ k, inR V F k p = false) ∨ ∃ k : Nat, r = (k : Int) ∧ inR V F k p = true ∧ ∀ j, j < k → inR V F j p = false
theorem isRd_ex (V : List (Nat × Nat × Nat)) (F : List Nat) (p : Nat) : ∃ r, IsRd V F p r := by
  by_cases h : ∃ k, inR V F k p = true
  · obtain ⟨k, hk⟩ := h
    obtain ⟨j, _, h1, h2⟩ := least_ex (P := fun k => inR V F k p = true) k hk
    exact ⟨j, .inr ⟨j, rfl, h1, fun i hi => by simpa using h2 i hi⟩⟩
  · exact ⟨-1, .inl ⟨rfl, fun k => by
      cases hc : inR V F k p
      · rfl
      · exact absurd ⟨k, hc⟩ h⟩⟩
/-- The round in which a party is controlled; -1 if it never is. -/
noncomputable def rd (V : List (Nat × Nat × Nat)) (F : List Nat) (p : Nat) : Int := Classical.choose (isRd_ex V F p)
end
end Co
end Go.Proofs.YtpmlhgmmobpilaaGreatDoor
namespace Go.Proofs.YtpmlhgmmobpilaaGreatDoor
open Go.RowKit Go.Shelf
namespace Co
open Nt Ci
/-- A number of 6000ths. -/
def uq (u : Nat) : Rat := mkRat (u : Int) 6000
/-- The links of a company, in their order. -/
def row (l : List Lk) (p : Nat) : List Lk := l.filter fun x => decide (x.1 = (p : Int))
end Co
end Go.Proofs.YtpmlhgmmobpilaaGreatDoor
namespace Go.Proofs.YtpmlhgmmobpilaaGreatDoor
open Go.RowKit Go.Shelf
namespace Co
open Nt Ci
section
variable {V : List (Nat × Nat × Nat)} {L : List Nat} {n p q k j m : Nat}
/-- Who comes up in round k + 1, among the first m. -/
noncomputable def nx (V : List (Nat × Nat × Nat)) (L : List Nat) (k m : Nat) : List Nat := (List.range m).filter fun q => decide (rd V L q = ((k + 1 : Nat) : Int))
end
end Co
end Go.Proofs.YtpmlhgmmobpilaaGreatDoor
namespace Go.Proofs.YtpmlhgmmobpilaaGreatDoor
open Go.RowKit Go.Shelf
namespace Ci
/-- Block R has the headers of n slices of links. -/
structure Gv (W : World) (B R n : Nat) (v : Nat → Value) (rw_ : Nat → List Lk) : Prop where
  lt : R < W.heap.size
  hd : ∀ i, i < n → W.cell? ⟨R, i, none⟩ = some (v i)
  fr : ∀ i, W.frozen? ⟨R, i, none⟩ = false
  rows : ∀ i, i < n → W.ownsRow B 94 5 (v i) (rw_ i).length (lksL (rw_ i))
  apart : ∀ i j, i < n → j < n → i ≠ j → OffB (v i) (v j)
  ne : ∀ i, i < n → (v i).ownBlock ≠ some R
  lowR : B ≤ R
section
variable {W W' : World} {B R n i : Nat} {v : Nat → Value} {rw_ : Nat → List Lk}
theorem Gv.below (h : Gv W B R n v rw_) (hb : Below W.heap.size W W') : Gv W' B R n v rw_ :=
  ⟨Nat.lt_of_lt_of_le h.lt hb.size, fun i hi => (hb.cell (p := ⟨R, i, none⟩) h.lt).trans (h.hd i hi), fun i => (hb.frozen (p := ⟨R, i, none⟩) h.lt).trans (h.fr i), fun i hi => own_below' (h.rows i hi) hb, h.apart, h.ne, h.lowR⟩
theorem Gv.alloc (h : Gv W B R n v rw_) (o : Obj) : Gv (W.alloc o) B R n v rw_ := h.below ((Below.refl _ W).alloc (Nat.le_refl _) o)
theorem Gv.drew (h : Gv W B R n v rw_) : Gv W.drew B R n v rw_ := h.below (Below.refl _ W).drew
theorem Gv.mono {B' : Nat} (h : Gv W B R n v rw_) (hb : B' ≤ B) : Gv W B' R n v rw_ :=
  ⟨h.lt, h.hd, h.fr, fun i hi => by
    obtain ⟨h1, h2⟩ := h.rows i hi
    refine ⟨h1, ?_⟩
    rcases h2 with h2 | ⟨g, cap, cur, hv, hg, hh⟩
    · exact .inl h2
    · exact .inr ⟨g, cap, cur, hv, Nat.le_trans hb hg, hh⟩, h.apart, h.ne, Nat.le_trans hb h.lowR⟩
theorem Gv.start (w : World) {B : Nat} (hB : B ≤ w.heap.size) (n : Nat) (t : TypeId) : Gv (w.alloc (.cells (madeCells #[.slice none 0 0] n) t)) B w.heap.size n (fun _ => .slice none 0 0) fun _ => [] := by
  have h := heap_alloc_new w (.cells (madeCells #[(.slice none 0 0 : Value)] n) t)
  refine ⟨by simp, fun x hx => ?_, fun x => by simp only [World.frozen?, h]; simp, fun _ _ => World.ownsRow_nil _ _ _ _, fun _ _ _ _ _ b hb => (by cases hb), fun _ _ hb => (by cases hb), hB⟩
  simp only [World.cell?, h]
  simp [madeCells, hx]
  rw [Nat.mod_one]
  rfl
def setK (rw_ : Nat → List Lk) (x : Nat) (q : Lk) : Nat → List Lk := fun i => if i = x then rw_ i ++ [q] else rw_ i
/-- A row has grown, and its header is stored anew. -/
theorem Gv.step (h : Gv W B R n v rw_) {x : Nat} {q : Lk} (hx : x < n) {u : Value} (hg : W.grownBy W' (v x).ownBlock) (ho : W'.ownsRow B 94 5 u ((rw_ x).length + 1) (lksL (rw_ x) ++ lkL q)) (hn : u.ownBlock = (v x).ownBlock ∨ u.ownBlock = some W.heap.size) :
    Gv (W'.setCell ⟨R, x, none⟩ u) B R n (fun i => if i = x then u else v i) (setK rw_ x q) := by
  have hRx : some R ≠ (v x).ownBlock := fun e => h.ne x hx e.symm
  have hbR : W'.heap[R]? = W.heap[R]? := hg.block R h.lt hRx
  have hcell : ∀ i, W'.cell? ⟨R, i, none⟩ = W.cell? ⟨R, i, none⟩ := fun i => World.cell?_of_block (a := ⟨R, i, none⟩) hbR
  have hfr : ∀ i, W'.frozen? ⟨R, i, none⟩ = W.frozen? ⟨R, i, none⟩ := fun i => World.frozen?_of_block (a := ⟨R, i, none⟩) hbR
  have huR : u.ownBlock ≠ some R := fun e => by
    rcases hn with hn | hn
    · exact h.ne x hx (by rw [← hn, e])
    · rw [e] at hn
      have := h.lt
      simp only [Option.some.injEq] at hn
      omega
  have hne : ∀ a b : Nat, a ≠ b → (⟨R, a, none⟩ : Addr) ≠ ⟨R, b, none⟩ := fun a b e1 e2 => by injection e2 with _ e3; exact e1 e3
  have far : ∀ {m : Nat} {z : Value} {xs : List Value}, W'.ownsRow B 94 5 z m xs → z.ownBlock ≠ some R → (W'.setCell ⟨R, x, none⟩ u).ownsRow B 94 5 z m xs := fun h hz =>
    h.kept (row := some R) ⟨rfl, rfl, rfl, by simp, fun k _ hk => Below.heap_setCell _ _ _ _ (fun e => hk (by rw [e]))⟩ (.inr hz)
  have hoff : ∀ i, i < n → i ≠ x → OffB (v i) u := fun i hi hix b hb e => by
    rcases hn with hn | hn
    · exact h.apart i x hi hx hix b hb (by rw [← hn, e])
    · have := ((h.rows i hi).lt b hb).2
      rw [e] at hn
      simp only [Option.some.injEq] at hn
      omega
  refine ⟨by have := hg.size; have := h.lt; simp; omega, fun i hi => ?_, fun i => by simpa [hfr] using h.fr i, fun i hi => ?_, fun i j hi hj e => ?_, fun i hi => ?_, h.lowR⟩
  · by_cases e : i = x
    · subst e
      rw [if_pos rfl]
      exact World.cell?_setCell_same _ _ _ ((hcell i).trans (h.hd i hi))
    · rw [if_neg e, World.cell?_setCell_other _ _ _ _ (by first | exact hne _ _ e | exact hne _ _ fun c => e c.symm), hcell]
      exact h.hd i hi
  · by_cases e : i = x
    · subst e
      rw [if_pos rfl]
      have : setK rw_ i q i = rw_ i ++ [q] := if_pos rfl
      rw [this, List.length_append, lksL_snoc]
      exact far ho huR
    · rw [if_neg e]
      have : setK rw_ x q i = rw_ i := if_neg e
      rw [this]
      refine far ((h.rows i hi).kept hg ?_) (h.ne i hi)
      cases hv : (v i).ownBlock with
      | none => exact .inl rfl
      | some b => exact .inr fun c => h.apart i x hi hx e b hv c.symm
  · by_cases e1 : i = x
    · have e2 : j ≠ x := fun c => e (by rw [e1, c])
      rw [if_pos e1, if_neg e2]
      exact fun b hb hc => hoff j hj e2 b hc hb
    · rw [if_neg e1]
      by_cases e2 : j = x
      · rw [if_pos e2]
        exact hoff i hi e1
      · rw [if_neg e2]
        exact h.apart i j hi hj e
  · by_cases e : i = x
    · rw [if_pos e]; exact huR
    · rw [if_neg e]; exact h.ne i hi
theorem Gv.of_block (h : Gv W B R n v rw_) (hs : W.heap.size ≤ W'.heap.size) (hR : W'.heap[R]? = W.heap[R]?) (hv : ∀ i b, i < n → (v i).ownBlock = some b → W'.heap[b]? = W.heap[b]?) : Gv W' B R n v rw_ :=
  ⟨Nat.lt_of_lt_of_le h.lt hs, fun i hi => (World.cell?_of_block (a := ⟨R, i, none⟩) hR).trans (h.hd i hi), fun i => (World.frozen?_of_block (a := ⟨R, i, none⟩) hR).trans (h.fr i), fun i hi => by
    obtain ⟨h1, h2⟩ := h.rows i hi
    refine ⟨h1, ?_⟩
    rcases h2 with h2 | ⟨g, cap, cur, hv2, hg, hh, rest⟩
    · exact .inl h2
    · exact .inr ⟨g, cap, cur, hv2, hg, (hv i g hi (by rw [hv2]; rfl)).trans hh, rest⟩, h.apart, h.ne, h.lowR⟩
theorem Gv.kp {xs : List Nat} (h : Gv W B R n v rw_) (hk : Kp xs W W') (hR : R ∉ xs) (hv : ∀ i b, i < n → (v i).ownBlock = some b → b ∉ xs) : Gv W' B R n v rw_ :=
  h.of_block hk.size (hk.block R h.lt hR) fun i b hi e => hk.block b ((h.rows i hi).lt b e).2 (hv i b hi e)
theorem Gv.congr {a' : Nat → List Lk} (h : Gv W B R n v rw_) (e : ∀ i, i < n → rw_ i = a' i) : Gv W B R n v a' :=
  ⟨h.lt, h.hd, h.fr, fun i hi => by rw [← e i hi]; exact h.rows i hi, h.apart, h.ne, h.lowR⟩
end
end Ci
end Go.Proofs.YtpmlhgmmobpilaaGreatDoor
namespace Go.Proofs.YtpmlhgmmobpilaaGreatDoor
open Go.RowKit Go.Shelf
namespace Co
open Nt Ci
/-- A search: the votes of each company, and the rounds. -/
structure SeIn (w : World) (xb R b B n : Nat) (v : Nat → Value) (rows : Nat → List Lk) (o : Nat → Int) : Prop where
  x : Bk w xb 104 [.slice (some ⟨R, 0, none⟩) n n, .slice (some ⟨b, 0, none⟩) n n]
  g : Gv w B R n v rows
  r : RoI w b n o
  nx : xb ≠ b
  nxR : xb ≠ R
  nR : R ≠ b
  nv : ∀ i, i < n → (v i).ownBlock ≠ some b
  lb : B ≤ b
section
variable {w w' : World} {xb R b B n : Nat} {v : Nat → Value} {rows : Nat → List Lk} {o : Nat → Int}
theorem SeIn.below (h : SeIn w xb R b B n v rows o) (hb : Below w.heap.size w w') : SeIn w' xb R b B n v rows o :=
  ⟨h.x.below hb, h.g.below hb, h.r.below hb, h.nx, h.nxR, h.nR, h.nv, h.lb⟩
/-- A round is stored. -/
theorem SeIn.set (h : SeIn w xb R b B n v rows o) {p : Nat} (hp : p < n) (k : Int) : SeIn (w.setCell ⟨b, p, none⟩ (.int .i64 k)) xb R b B n v rows (setI o p k) := by
  have hg : w.grownBy (w.setCell ⟨b, p, none⟩ (.int .i64 k)) (some b) := grown_set w ⟨b, p, none⟩ _
  refine ⟨h.x.far h.nx _, ?_, h.r.set hp k, h.nx, h.nxR, h.nR, h.nv, h.lb⟩
  exact h.g.of_block (by simp) (Below.heap_setCell _ _ _ _ h.nR) fun i b' hi e => Below.heap_setCell _ _ _ _ fun c => h.nv i hi (by rw [e, c])
theorem SeIn.congr {o' : Nat → Int} (h : SeIn w xb R b B n v rows o) (e : ∀ x, x < n → o x = o' x) : SeIn w xb R b B n v rows o' := ⟨h.x, h.g, h.r.congr e, h.nx, h.nxR, h.nR, h.nv, h.lb⟩
end
end Co
end Go.Proofs.YtpmlhgmmobpilaaGreatDoor
namespace Go.Proofs.YtpmlhgmmobpilaaGreatDoor
open Go.RowKit Go.Shelf
namespace Co
open Nt Ci
/-- Block sb holds a rational number. -/
def QB (W : World) (sb : Nat) (q : Rat) : Prop := ∃ g n d, (.agg #[.bool g, .string n, .string d] : Value) = qv q ∧ Bk W sb 23 [.bool g, .string n, .string d]
theorem QB.below {W W' : World} {sb : Nat} {q : Rat} (h : QB W sb q) (hb : Below W.heap.size W W') : QB W' sb q := by
  obtain ⟨g, n, d, e, h⟩ := h
  exact ⟨g, n, d, e, h.below hb⟩
theorem half_eq : (.agg #[.bool false, .string ⟨#[49]⟩, .string ⟨#[50]⟩] : Value) = qv (uq 3000) := by kernel_rfl
end Co
end Go.Proofs.YtpmlhgmmobpilaaGreatDoor
namespace Go.Proofs.YtpmlhgmmobpilaaGreatDoor
open Go.RowKit Go.Shelf
namespace Co
open Nt Ci
def isReg (k : Nat) : Code → Bool
  | .region a _ _ => a == k
  | _ => false
end Co
end Go.Proofs.YtpmlhgmmobpilaaGreatDoor
namespace Go.Proofs.YtpmlhgmmobpilaaGreatDoor
open Go.RowKit Go.Shelf
namespace Co
open Nt Ci
/-- A search over the votes of a structure, laid by the call. -/
def Se (s : SR) (base : Nat) (w : World) (xb b : Nat) (o : Nat → Int) : Prop :=
  ∃ R B v, base ≤ B ∧ base ≤ xb ∧ SeIn w xb R b B s.ps.length v (row s.vot) o
theorem Se.below {s : SR} {base xb b : Nat} {o : Nat → Int} {w w' : World} (h : Se s base w xb b o) (hb : Below w.heap.size w w') : Se s base w' xb b o := by
  obtain ⟨R, B, v, h1, h2, h3⟩ := h
  exact ⟨R, B, v, h1, h2, h3.below hb⟩
end Co
end Go.Proofs.YtpmlhgmmobpilaaGreatDoor
namespace Go.Proofs.YtpmlhgmmobpilaaGreatDoor
open Go.RowKit Go.Shelf
namespace Co
open Nt Ci
end Co
end Go.Proofs.YtpmlhgmmobpilaaGreatDoor
namespace Go.Proofs.YtpmlhgmmobpilaaGreatDoor
open Go.RowKit Go.Shelf
namespace Co
open Nt Ci
end Co
end Go.Proofs.YtpmlhgmmobpilaaGreatDoor
namespace Go.Proofs.YtpmlhgmmobpilaaGreatDoor
open Go.RowKit Go.Shelf
namespace Co
open Nt Ci
end Co
end Go.Proofs.YtpmlhgmmobpilaaGreatDoor

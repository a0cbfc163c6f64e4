/- LinearOnly: Solve finds the numbers again. -/
import Derived.Test.YtjjlnahipiinfaaGreatDoorLinD
namespace Go.Proofs.YtjjlnahipiinfaaGreatDoor
open Go.RowKit Go.Shelf
namespace Nt

theorem map_rq_sz {s : List Rat} (h : ∀ q ∈ s, OkQ q) : ∀ x ∈ s.map rq, rawSz x := fun x hx => by
  obtain ⟨q, hq, rfl⟩ := List.mem_map.1 hx
  exact rawSz_rq (h q hq)
theorem applied_ok {A : List (List Raw)} {x : List Raw} {s : List Rat} (h : appliedB A x = some s) : s.length = A.length ∧ ∀ q ∈ s, OkQ q := by
  obtain ⟨e1, e2⟩ := apTo_some h
  refine ⟨e1, fun q hq => ?_⟩
  obtain ⟨i, hi, rfl⟩ := List.getElem_of_mem hq
  have a2 := (e2 i (by omega)).2
  rw [getD_at hi] at a2
  rcases dotTo_ok a2 with h | ⟨p, q, h1, h2, h⟩
  · rw [h]; exact ok_zero
  · rw [h]; exact okQ_add h1 h2
theorem first_bad_raw {l : List Raw} (h : allV l = false) : ∃ k, ∃ hk : k < l.length, vraw l[k] = false ∧ ∀ j (hj : j < l.length), j < k → vraw l[j] = true := by
  have h1 : ¬ ∀ j, j < l.length → vraw (l.getD j zraw) = true := fun h2 => by
    have : allV l = true := allV_iff.2 fun i hi => by have := h2 i hi; rwa [getD_at hi] at this
    rw [this] at h; cases h
  obtain ⟨t, a, b, c, d⟩ := first_bad (P := fun j => j < l.length → vraw (l.getD j zraw) = true) (k := 0) (n := l.length) (fun h2 => h1 fun j hj => h2 j (Nat.zero_le _) (by omega) hj)
  have ht : t < l.length := by
    by_cases e : t < l.length
    · exact e
    · exact absurd (fun h3 => absurd h3 e) d
  refine ⟨t, ht, ?_, fun j hj hjt => ?_⟩
  · have : ¬ vraw (l.getD t zraw) = true := fun h3 => d fun _ => h3
    rw [getD_at ht] at this
    exact (Bool.not_eq_true _).mp this
  · have := c j (Nat.zero_le _) hjt hj
    rwa [getD_at hj] at this

set_option maxRecDepth 100000 in
set_option maxHeartbeats 4000000 in
theorem lonly_any (kh : HeadC) (Aa Ab : Option Addr) (ca cb : Nat) (la : List RowH) (lb : List Raw) (w : World) (hE : Env w) (hs : SysIn w Aa Ab la lb) :
    Calls Tryz.prog 7 #[.slice Aa la.length ca, .slice Ab lb.length cb] w fun e w' => e = .returned (.bool true) ∧ Below w.heap.size w w' := by
  have kf := fun W (h : Below w.heap.size w W) => Few_any Aa Ab ca cb la lb W (hs.below h)
  have nb := hs.nb
  have na := hs.na
  replace kh := Lib.hid kh
  cases h0 : fewB (rowsOf la) lb with
  | false =>
    rw [h0] at kf
    replace kf := Lib.hid kf
    replace hE := Lib.hid hE
    clear h0 hs
    go_enter Tryz.func7, Tryz.ntmps7
    go_wp2_with fail
    refine (kh.out _ hE.out).mono ?_
    rintro e w1 ⟨rfl, hb1⟩
    replace hb1 := Lib.hid hb1
    go_wp2_with fail
    refine (kf.out _ hb1.out).mono ?_
    rintro e w2 ⟨rfl, hb2⟩
    have hB2 := Lib.hid (hb1.out.trans (hb2.mono hb1.out.size))
    clear hb2
    go_wp2
    go_ret
    exact ⟨rfl, hB2.out⟩
  | true =>
    rw [h0] at kf
    obtain ⟨f1, f2, _, _⟩ := few_says h0
    rw [rowsOf_length] at f1
    replace kf := Lib.hid kf
    clear h0
    by_cases hl : la.length = lb.length
    · have hmb := Lib.hid hs.mb
      have hzb := Lib.hid hs.zb
      cases h2 : appliedB (rowsOf la) lb with
      | none =>
        have ka := Lib.hid fun W (h : Below w.heap.size w W) (hW : Env W) => Applied_no Aa Ab ca cb la lb W hW (hs.below h) (by omega) h2
        rw [hl] at ka kf ⊢
        replace hE := Lib.hid hE
        clear h2 hs hl na f1
        go_enter Tryz.func7, Tryz.ntmps7
        go_wp2_with fail
        refine (kh.out _ hE.out).mono ?_
        rintro e w1 ⟨rfl, hb1⟩
        replace hb1 := Lib.hid hb1
        go_wp2_with fail
        refine (kf.out _ hb1.out).mono ?_
        rintro e w2 ⟨rfl, hb2⟩
        have hB2 := Lib.hid (hb1.out.trans (hb2.mono hb1.out.size))
        clear hb2
        go_wp2_with fail
        refine (ka.out _ hB2.out (hE.out.below hB2.out)).mono ?_
        rintro e w3 ⟨rfl, hb3⟩
        have hB3 := Lib.hid (hB2.out.trans (hb3.mono hB2.out.size))
        clear hb3
        go_wp2
        go_ret
        exact ⟨rfl, hB3.out⟩
      | some s =>
        have ka := Lib.hid fun W (h : Below w.heap.size w W) (hW : Env W) => Applied_ok Aa Ab ca cb la lb s W hW (hs.below h) (by omega) h2
        obtain ⟨e1, e2⟩ := applied_ok h2
        rw [rowsOf_length] at e1
        have e3 : (s.map rq).length = lb.length := by rw [List.length_map]; omega
        rw [e3] at ka
        have hfine : Hid (allV lb = true → solveB (rowsOf la) (s.map rq) = .error 12 ∨ solveB (rowsOf la) (s.map rq) = .error 2 ∨ solveB (rowsOf la) (s.map rq) = .ok lb) := fun hx => only_law (fun p q => okQ_add) (by rw [rowsOf_length]; exact hl) hx h2
        have hsw := Lib.hid fun W p (h : Below w.heap.size w W) (hp : InRow W p (s.map rq)) => hs.swap h hp (by omega) (map_rq_sz e2)
        have hes := Lib.hid e3
        replace hE := Lib.hid hE
        clear hs h2 e1 e2 e3
        cases hv : allV lb with
        | false =>
          obtain ⟨k, hk, hk1, hk2⟩ := first_bad_raw hv
          have hlow := Lib.hid hk2
          have hbad := Lib.hid hk1
          rw [hl] at ka kf ⊢
          clear hfine hsw hv hk1 hk2 hl na f1
          go_enter Tryz.func7, Tryz.ntmps7
          go_wp2_with fail
          refine (kh.out _ hE.out).mono ?_
          rintro e w1 ⟨rfl, hb1⟩
          replace hb1 := Lib.hid hb1
          go_wp2_with fail
          refine (kf.out _ hb1.out).mono ?_
          rintro e w2 ⟨rfl, hb2⟩
          have hB2 := Lib.hid (hb1.out.trans (hb2.mono hb1.out.size))
          clear hb2
          go_wp2_with fail
          refine (ka.out _ hB2.out (hE.out.below hB2.out)).mono ?_
          rintro e w3 ⟨⟨p, c, rfl, hp⟩, hb3⟩
          have hB3 := Lib.hid (hB2.out.trans (hb3.mono hB2.out.size))
          clear hb3 hp
          go_wp2
          go_loopw [8] (fun j wz => ∃ z : Nat, z ≤ k ∧ j = .int .i64 (z : Int) ∧ Hid (Below w.heap.size w wz)) (fun j _ => k - (intOf j).toNat)
          case atStart => exact ⟨0, Nat.zero_le _, rfl, hB3⟩
          case round =>
            obtain ⟨z, hz, rfl, hBz⟩ := hrel
            have hz1 : z < lb.length := by omega
            obtain ⟨bb, ob, rfl, hbb, q1, q2, q3⟩ := hmb.out.at hz1
            have kv := validr_any lb[z] (hzb.out _ (List.getElem_mem hz1))
            have hvz : vraw lb[z] = decide (z < k) := by
              by_cases e : z < k
              · rw [hlow.out z hz1 e, decide_eq_true e]
              · have e2 : z = k := by omega
                subst e2
                rw [hbad.out, decide_eq_false e]
            rw [hvz] at kv
            obtain ⟨ry, hry⟩ : ∃ x, x = lb[z] := ⟨_, rfl⟩
            rw [← hry] at q1 q2 q3 kv
            obtain ⟨g, nn, dd⟩ := ry
            replace q1 : wr.cell? ⟨bb, ob + z * 3, none⟩ = some (.bool g) := (hBz.out.cell (p := ⟨bb, _, none⟩) hbb).trans q1
            replace q2 : wr.cell? ⟨bb, ob + z * 3 + 1, none⟩ = some (.string nn) := (hBz.out.cell (p := ⟨bb, _, none⟩) hbb).trans q2
            replace q3 : wr.cell? ⟨bb, ob + z * 3 + 2, none⟩ = some (.string dd) := (hBz.out.cell (p := ⟨bb, _, none⟩) hbb).trans q3
            replace kv : Hid (∀ W, Env W → Calls Tryz.prog 19 #[.agg #[.bool g, .string nn, .string dd]] W fun e w' => e = .returned (.bool (decide (z < k))) ∧ Below W.heap.size W w') := kv
            have j0 : (0 : Int) ≤ (z : Int) := by omega
            have j1 : (z : Int) < (lb.length : Int) := by omega
            clear hvz hry
            by_cases e : z < k
            · rw [decide_eq_true e] at kv
              go_wp2_with fail
              refine (kv.out _ (hE.out.below hBz.out)).mono ?_
              rintro e w4 ⟨rfl, hb4⟩
              have hB4 := Lib.hid (hBz.out.trans (hb4.mono hBz.out.size))
              clear hb4
              go_wp2
              go_roundw
              case rel => exact ⟨z + 1, by omega, by go_num, hB4⟩
              case measure => simp [intOf]; omega
            · rw [decide_eq_false e] at kv
              go_wp2_with fail
              refine (kv.out _ (hE.out.below hBz.out)).mono ?_
              rintro e w4 ⟨rfl, hb4⟩
              have hB4 := Lib.hid (hBz.out.trans (hb4.mono hBz.out.size))
              clear hb4
              go_wp2
              go_ret
              exact ⟨rfl, hB4.out⟩
        | true =>
          have hall := Lib.hid (allV_iff.1 hv)
          have hf := hfine.out hv
          have kv : ∃ er : Int, ∃ ys : List Raw, (er = 12 ∧ ys = [] ∨ er = 2 ∧ ys = [] ∨ er = 0 ∧ ys = lb) ∧ ∀ W p c, Below w.heap.size w W → Env W → InRow W p (s.map rq) → Calls Tryz.prog 12 #[.slice Aa la.length ca, .slice p lb.length c] W fun e w' => (∃ p2 c2, e = .returned (.tuple #[.slice p2 ys.length c2, .int .i64 er]) ∧ InRow w' p2 ys) ∧ Below W.heap.size W w' := by
            rcases hf with hf | hf | hf
            · refine ⟨12, [], .inl ⟨rfl, rfl⟩, fun W p c hW hEW hp => ?_⟩
              have k := Solve_er Aa p ca c la (s.map rq) 12 W hEW (hsw.out W p hW hp) hf
              rw [hes.out] at k
              exact k.mono fun e w' h => ⟨⟨none, 0, h.1, fun h => absurd h (by simp)⟩, h.2⟩
            · refine ⟨2, [], .inr (.inl ⟨rfl, rfl⟩), fun W p c hW hEW hp => ?_⟩
              have k := Solve_er Aa p ca c la (s.map rq) 2 W hEW (hsw.out W p hW hp) hf
              rw [hes.out] at k
              exact k.mono fun e w' h => ⟨⟨none, 0, h.1, fun h => absurd h (by simp)⟩, h.2⟩
            · refine ⟨0, lb, .inr (.inr ⟨rfl, rfl⟩), fun W p c hW hEW hp => ?_⟩
              have k := Solve_ok Aa p ca c la (s.map rq) lb W hEW (hsw.out W p hW hp) hf
              rw [hes.out] at k
              exact k
          obtain ⟨er, ys, hcase, ks⟩ := kv
          have kq := Lib.hid fun W p c (h : Below w.heap.size w W) (hp : InRow W p lb) => Same_eq Ab p cb c lb W (hmb.out.below h (Nat.le_refl _)) hp (by omega)
          rw [hl] at ka kf ks ⊢
          clear hfine hsw hv hf hl na f1
          rcases hcase with ⟨rfl, hys⟩ | ⟨rfl, hys⟩ | ⟨rfl, hys⟩
          all_goals (
            rw [hys] at ks
            replace ks := Lib.hid ks
            clear hys
            go_enter Tryz.func7, Tryz.ntmps7
            go_wp2_with fail
            refine (kh.out _ hE.out).mono ?_
            rintro e w1 ⟨rfl, hb1⟩
            replace hb1 := Lib.hid hb1
            go_wp2_with fail
            refine (kf.out _ hb1.out).mono ?_
            rintro e w2 ⟨rfl, hb2⟩
            have hB2 := Lib.hid (hb1.out.trans (hb2.mono hb1.out.size))
            clear hb2
            go_wp2_with fail
            refine (ka.out _ hB2.out (hE.out.below hB2.out)).mono ?_
            rintro e w3 ⟨⟨p, c, rfl, hp⟩, hb3⟩
            have hB3 := Lib.hid (hB2.out.trans (hb3.mono hB2.out.size))
            replace hp := Lib.hid hp
            clear hb3
            go_wp2
            go_loopw [8] (fun j wz => ∃ z : Nat, z ≤ lb.length ∧ j = .int .i64 (z : Int) ∧ Hid (Below w3.heap.size w3 wz)) (fun j _ => lb.length - (intOf j).toNat)
            case atStart => exact ⟨0, Nat.zero_le _, rfl, Below.refl _ _⟩
            case round =>
              obtain ⟨z, hz, rfl, hCz⟩ := hrel
              have hBz := Lib.hid (hB3.out.trans (hCz.out.mono hB3.out.size))
              by_cases hz1 : z < lb.length
              · obtain ⟨bb, ob, rfl, hbb, q1, q2, q3⟩ := hmb.out.at hz1
                have kv := validr_any lb[z] (hzb.out _ (List.getElem_mem hz1))
                rw [hall.out z hz1] at kv
                obtain ⟨ry, hry⟩ : ∃ x, x = lb[z] := ⟨_, rfl⟩
                rw [← hry] at q1 q2 q3 kv
                obtain ⟨g, nn, dd⟩ := ry
                replace q1 : wr.cell? ⟨bb, ob + z * 3, none⟩ = some (.bool g) := (hBz.out.cell (p := ⟨bb, _, none⟩) hbb).trans q1
                replace q2 : wr.cell? ⟨bb, ob + z * 3 + 1, none⟩ = some (.string nn) := (hBz.out.cell (p := ⟨bb, _, none⟩) hbb).trans q2
                replace q3 : wr.cell? ⟨bb, ob + z * 3 + 2, none⟩ = some (.string dd) := (hBz.out.cell (p := ⟨bb, _, none⟩) hbb).trans q3
                replace kv : Hid (∀ W, Env W → Calls Tryz.prog 19 #[.agg #[.bool g, .string nn, .string dd]] W fun e w' => e = .returned (.bool true) ∧ Below W.heap.size W w') := kv
                have j0 : (0 : Int) ≤ (z : Int) := by omega
                have j1 : (z : Int) < (lb.length : Int) := by omega
                clear hry
                go_wp2_with fail
                refine (kv.out _ (hE.out.below hBz.out)).mono ?_
                rintro e w4 ⟨rfl, hb4⟩
                have hB4 := Lib.hid (hCz.out.trans (hb4.mono hCz.out.size))
                clear hb4
                go_wp2
                go_roundw
                case rel => exact ⟨z + 1, by omega, by go_num, hB4⟩
                case measure => simp [intOf]; omega
              · obtain rfl : z = lb.length := by omega
                go_wp2_with fail
                refine (ks.out _ p c hBz.out (hE.out.below hBz.out) (hp.out.below hCz.out (Nat.le_refl _))).mono ?_
                rintro e w5 ⟨⟨p2, c2, rfl, hp2⟩, hb5⟩
                have hB5 := Lib.hid (hBz.out.trans (hb5.mono hBz.out.size))
                replace hp2 := Lib.hid hp2
                clear hb5
                go_wp2_with (refine (kq.out _ p2 c2 hB5.out hp2.out).mono ?_; rintro e w6 ⟨rfl, hb6⟩; replace hb6 := Lib.hid hb6)
                go_ret
                first
                  | exact ⟨rfl, hB5.out⟩
                  | exact ⟨rfl, hB5.out.trans (hb6.out.mono hB5.out.size)⟩)
    · have t1 : ((la.length : Int) == (lb.length : Int)) = false := by rw [beq_eq_false_iff_ne]; omega
      have t2 : ((la.length : Int) != (lb.length : Int)) = true := by rw [bne_iff_ne]; omega
      have t3 : (la.length == lb.length) = false := by rw [beq_eq_false_iff_ne]; exact hl
      have t4 : ¬ la.length = lb.length := hl
      replace hE := Lib.hid hE
      clear hs hl
      go_enter Tryz.func7, Tryz.ntmps7
      go_wp2_with fail
      refine (kh.out _ hE.out).mono ?_
      rintro e w1 ⟨rfl, hb1⟩
      replace hb1 := Lib.hid hb1
      go_wp2_with fail
      refine (kf.out _ hb1.out).mono ?_
      rintro e w2 ⟨rfl, hb2⟩
      have hB2 := Lib.hid (hb1.out.trans (hb2.mono hb1.out.size))
      clear hb2
      go_wp2
      go_ret
      exact ⟨rfl, hB2.out⟩
end Nt
end Go.Proofs.YtjjlnahipiinfaaGreatDoor

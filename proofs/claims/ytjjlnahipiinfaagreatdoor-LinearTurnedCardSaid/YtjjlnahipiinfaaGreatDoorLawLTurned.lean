/- LinearTurned: the equations, or the unknowns, in the opposite order. -/
import Derived.Test.YtjjlnahipiinfaaGreatDoorLinD
namespace Go.Proofs.YtjjlnahipiinfaaGreatDoor
open Go.RowKit Go.Shelf
namespace Nt

theorem infoRow : (Tryz.prog.info? 23).map (fun i => (i.zero, i.size, i.bytes)) = some (some (.slice none 0 0), 1, 24) := infoRS
set_option maxRecDepth 100000 in
set_option maxHeartbeats 16000000 in
theorem lturned_any (kh : HeadC) (Aa Ab : Option Addr) (ca cb : Nat) (la : List RowH) (lb : List Raw) (w : World) (hE : Env w) (hs : SysIn w Aa Ab la lb) :
    Calls Tryz.prog 4 #[.slice Aa la.length ca, .slice Ab lb.length cb] w fun e w' => e = .returned (.bool true) ∧ Below w.heap.size w w' := by
  have kf := fun W (h : Below w.heap.size w W) (hW : Env W) => square_any Aa Ab ca cb la lb W hW (hs.below h)
  have nb := hs.nb
  have na := hs.na
  replace kh := Lib.hid kh
  cases h0 : squareB (rowsOf la) lb with
  | false =>
    rw [h0] at kf
    replace kf := Lib.hid kf
    replace hE := Lib.hid hE
    clear h0 hs
    go_enter Tryz.func4, Tryz.ntmps4
    go_wp2_with fail
    refine (kh.out _ hE.out).mono ?_
    rintro e w1 ⟨rfl, hb1⟩
    replace hb1 := Lib.hid hb1
    go_wp2_with fail
    refine (kf.out _ hb1.out (hE.out.below hb1.out)).mono ?_
    rintro e w2 ⟨rfl, hb2⟩
    have hB2 := Lib.hid (hb1.out.trans (hb2.mono hb1.out.size))
    clear hb2
    go_wp2
    go_ret
    exact ⟨rfl, hB2.out⟩
  | true =>
    rw [h0] at kf
    obtain ⟨hf, hsq⟩ := square_sq h0
    obtain ⟨n, hn⟩ : ∃ n, n = lb.length := ⟨_, rfl⟩
    rw [← hn] at hsq
    have hla : la.length = n := by have := hsq.1; rwa [rowsOf_length] at this
    have h8 : n ≤ 8 := hsq.2.2.1
    have hrl : Hid (∀ i (h : i < la.length), la[i].2.2.length = n) := fun i hi => by
      have hi2 : i < (rowsOf la).length := by rw [rowsOf_length]; exact hi
      have := (matB_iff.1 hsq.2.2.2.2 i hi2).1
      rwa [rowsOf_get la i hi] at this
    have kb := Lib.hid (back_same hsq)
    have kt := Lib.hid (turn_same hsq)
    have ks1 := Lib.hid fun W (h : Below w.heap.size w W) (hW : Env W) => Solve_r Aa Ab ca cb la lb W hW (hs.below h)
    have hma := Lib.hid hs.ma
    have hmb := Lib.hid hs.mb
    have hza := Lib.hid hs.za
    have hzb := Lib.hid hs.zb
    have hbd1 := @solve_bd (rowsOf la) lb
    have hbd2 := @solve_bd (rowsOf la).reverse lb.reverse
    have hbd3 := @solve_bd ((rowsOf la).map List.reverse) lb
    have ks2 : Hid (∀ W p q c d, Below w.heap.size w W → Env W → InMat W p la.reverse → InRow W q lb.reverse → Calls Tryz.prog 12 #[.slice p n c, .slice q n d] W fun e w' => (∃ p c, e = .returned (.tuple #[.slice p (xsOf (solveB (rowsOf la).reverse lb.reverse)).length c, .int .i64 (erOf (solveB (rowsOf la).reverse lb.reverse))]) ∧ InRow w' p (xsOf (solveB (rowsOf la).reverse lb.reverse))) ∧ Below W.heap.size W w') := fun W p q c d h hW h1 h2 => by
      have k := Solve_r p q c d la.reverse lb.reverse W hW ⟨h1, h2, by simpa using na, by simpa using nb, fun x hx => hza.out x (by simpa using hx), fun x hx => hzb.out x (by simpa using hx)⟩
      have e : rowsOf la.reverse = (rowsOf la).reverse := by unfold rowsOf; rw [List.map_reverse]
      rw [e, List.length_reverse, List.length_reverse, hla, ← hn] at k
      exact k
    have ks3 : Hid (∀ W p c L, Below w.heap.size w W → Env W → InMat W p L → L.length = n → rowsOf L = (rowsOf la).map List.reverse → Calls Tryz.prog 12 #[.slice p n c, .slice Ab n cb] W fun e w' => (∃ p c, e = .returned (.tuple #[.slice p (xsOf (solveB ((rowsOf la).map List.reverse) lb)).length c, .int .i64 (erOf (solveB ((rowsOf la).map List.reverse) lb))]) ∧ InRow w' p (xsOf (solveB ((rowsOf la).map List.reverse) lb))) ∧ Below W.heap.size W w') := fun W p c L h hW h1 h2 h3 => by
      have k := Solve_r p Ab c cb L lb W hW ⟨h1, hmb.out.below h (Nat.le_refl _), by omega, nb, fun x hx => by
        have hx2 : x.2.2 ∈ (rowsOf la).map List.reverse := by rw [← h3]; exact List.mem_map_of_mem (f := fun y : RowH => y.2.2) hx
        obtain ⟨r, hr, e⟩ := List.mem_map.1 hx2
        obtain ⟨x0, hx0, rfl⟩ := List.mem_map.1 hr
        obtain ⟨z1, z2⟩ := hza.out x0 hx0
        rw [← e]
        exact ⟨by simpa using z1, fun y hy => z2 y (by simpa using hy)⟩, hzb.out⟩
      rw [h3, h2, ← hn] at k
      exact k
    generalize xsOf (solveB (rowsOf la) lb) = xs1 at *
    generalize erOf (solveB (rowsOf la) lb) = er1 at *
    generalize xsOf (solveB (rowsOf la).reverse lb.reverse) = xs2 at *
    generalize erOf (solveB (rowsOf la).reverse lb.reverse) = er2 at *
    generalize xsOf (solveB ((rowsOf la).map List.reverse) lb) = xs3 at *
    generalize erOf (solveB ((rowsOf la).map List.reverse) lb) = er3 at *
    obtain ⟨b1, b2, b3, b4⟩ := hbd1
    obtain ⟨b5, b6, b7, b8⟩ := hbd2
    obtain ⟨b9, b10, b11, b12⟩ := hbd3
    rw [List.length_reverse] at b7
    rw [← hn] at b3 b7 b11 kf ks1
    rw [hla] at kf ks1
    have l1 : xs1.length ≤ 100 := by omega
    have l3 : xs3.length ≤ 100 := by omega
    have hla' := Lib.hid hla
    have hlb' := Lib.hid hn.symm
    replace kf := Lib.hid kf
    replace b4 := Lib.hid b4
    replace b8 := Lib.hid b8
    replace b12 := Lib.hid b12
    replace hE := Lib.hid hE
    have hks := Lib.hid ks1.out
    clear ks1
    rw [hla, ← hn]
    clear h0 hs hf hsq hn hla nb na b3 b7 b11
    obtain ⟨i0, hi0, hzz⟩ := Option.map_eq_some_iff.1 infoQ
    simp only [Prod.mk.injEq] at hzz
    obtain ⟨hz0, hz1, hz2⟩ := hzz
    obtain ⟨i1, hi1, hyy⟩ := Option.map_eq_some_iff.1 infoRow
    simp only [Prod.mk.injEq] at hyy
    obtain ⟨hy0, hy1, hy2⟩ := hyy
    replace hi0 := Lib.hid hi0
    replace hz0 := Lib.hid hz0
    replace hz1 := Lib.hid hz1
    replace hz2 := Lib.hid hz2
    replace hi1 := Lib.hid hi1
    replace hy0 := Lib.hid hy0
    replace hy1 := Lib.hid hy1
    replace hy2 := Lib.hid hy2
    go_enter Tryz.func4, Tryz.ntmps4
    go_wp2_with fail
    refine (kh.out _ hE.out).mono ?_
    rintro e w1 ⟨rfl, hb1⟩
    replace hb1 := Lib.hid hb1
    go_wp2_with fail
    refine (kf.out _ hb1.out (hE.out.below hb1.out)).mono ?_
    rintro e w2 ⟨rfl, hb2⟩
    have hB2 := Lib.hid (hb1.out.trans (hb2.mono hb1.out.size))
    clear hb2
    go_wp2
    go_loopw [7, 8, 9, 10] (fun v7 v8 v9 i wr => ∃ y : Nat, y ≤ n ∧ i = .int .i64 (y : Int) ∧ Hid (∃ R, Qd wr w.heap.size n la lb y y y 0 v7 v8 v9 (.slice none 0 0) R) ∧ Hid (Below w.heap.size w wr)) (fun _ _ _ i _ => n - (intOf i).toNat)
    case atStart => exact ⟨0, Nat.zero_le _, rfl, ⟨fun _ => .slice none 0 0, Qd.start _ _ _ _ _ _⟩, hB2⟩
    case round =>
      obtain ⟨y, hy, rfl, hQ, hBr⟩ := hrel
      by_cases hlt : y < n
      · obtain ⟨R, hQ⟩ := hQ.out
        replace hQ := Lib.hid hQ
        obtain ⟨ba, oa, rfl, hba, hca⟩ := hma.out (by rw [hla'.out]; omega)
        have hy1' : n - 1 - y < la.length := by rw [hla'.out]; omega
        have hy2' : y < la.length := by rw [hla'.out]; omega
        have hy3' : n - 1 - y < lb.length := by rw [hlb'.out]; omega
        obtain ⟨bb, ob, rfl, hbb, f1, f2, f3⟩ := hmb.out.at hy3'
        obtain ⟨c1, _⟩ := hca (n - 1 - y) hy1'
        obtain ⟨c2, hrow⟩ := hca y hy2'
        have hrl2 := hrl.out y hy2'
        have hgx : la.getD (n - 1 - y) rowD0 = la[n - 1 - y] := getD_at hy1'
        have hgy : la.getD y rowD0 = la[y] := getD_at hy2'
        have hgb : lb.getD (n - 1 - y) zraw = lb[n - 1 - y] := getD_at hy3'
        obtain ⟨rx, hrx⟩ : ∃ x, x = la[n - 1 - y] := ⟨_, rfl⟩
        obtain ⟨ry, hry⟩ : ∃ x, x = la[y] := ⟨_, rfl⟩
        obtain ⟨rb, hrb⟩ : ∃ x, x = lb[n - 1 - y] := ⟨_, rfl⟩
        rw [← hrx] at c1 hgx
        rw [← hry] at c2 hrow hgy hrl2
        rw [← hrb] at f1 f2 f3 hgb
        obtain ⟨ra, rc, rl⟩ := rx
        obtain ⟨ra2, rc2, rl2⟩ := ry
        obtain ⟨g, nn, dd⟩ := rb
        replace hrl2 : rl2.length = n := hrl2
        replace hrow : InRow w ra2 rl2 := hrow
        have hF : Hid (∀ W, Below w.heap.size w W → W.cell? ⟨ba, oa + (n - 1 - y), none⟩ = some (.slice ra rl.length rc) ∧ W.cell? ⟨ba, oa + y, none⟩ = some (.slice ra2 n rc2) ∧ W.cell? ⟨bb, ob + (n - 1 - y) * 3, none⟩ = some (.bool g) ∧ W.cell? ⟨bb, ob + (n - 1 - y) * 3 + 1, none⟩ = some (.string nn) ∧ W.cell? ⟨bb, ob + (n - 1 - y) * 3 + 2, none⟩ = some (.string dd)) := fun W h => by
          have c3 : w.cell? ⟨ba, oa + y, none⟩ = some (.slice ra2 rl2.length rc2) := c2
          rw [hrl2] at c3
          exact ⟨(h.cell (p := ⟨ba, _, none⟩) hba).trans c1, (h.cell (p := ⟨ba, _, none⟩) hba).trans c3, (h.cell (p := ⟨bb, _, none⟩) hbb).trans f1, (h.cell (p := ⟨bb, _, none⟩) hbb).trans f2, (h.cell (p := ⟨bb, _, none⟩) hbb).trans f3⟩
        have h7e : Hid (((List.range y).map fun i => hdr (la.getD (n - 1 - i) rowD0)) ++ [.slice ra rl.length rc] = (List.range (y + 1)).map fun i => hdr (la.getD (n - 1 - i) rowD0)) := by
          show _ = _
          rw [List.range_succ, List.map_append, List.map_singleton, hgx]; rfl
        have h9e : Hid ((rowL y fun i => lb.getD (n - 1 - i) zraw) ++ rawL (g, nn, dd) = rowL (y + 1) fun i => lb.getD (n - 1 - i) zraw) := by
          show _ = _
          rw [rowL_succ, hgb]
        have hgy2 : Hid ((la.getD y rowD0).2.2 = rl2) := by show _ = _; rw [hgy]
        have hl2 := Lib.hid hrl2
        replace hrow := Lib.hid hrow
        clear c1 c2 f1 f2 f3 hrx hry hrb hgx hgy hgb hca hrl2
        obtain ⟨c1, c2, f1, f2, f3⟩ := hF.out _ hBr.out
        have s0 : (0 : Int) ≤ (n : Int) - 1 - (y : Int) := by omega
        have s1 : (n : Int) - 1 - (y : Int) < (n : Int) := by omega
        have s2 : ((n : Int) - 1 - (y : Int)).toNat = n - 1 - y := by omega
        have s3 : (0 : Int) ≤ (y : Int) := by omega
        have s4 : (y : Int) < (n : Int) := by omega
        have hsz := hBr.out.size
        go_wp2_with (first | (at_builtin; refine wpList_append_new _ rfl _ _ 22 rfl w.heap.size 23 i1 (.slice none 0 0) 1 24 Tryz.underlying22 hi1.out hy0.out hy1.out hy2.out rfl (by decide) u7 y ((List.range y).map fun i => hdr (la.getD (n - 1 - i) rowD0)) rfl (hQ.out.o7.alloc _) ⟨wr.heap.size, 0, none⟩ 1 1 [.slice ra rl.length rc] rfl rfl (head_new _ _ _) (one_cell1 _ rfl) (by omega) (by unfold maxLen; omega) (by omega) (by simp; omega) ?_; intro v7' wa ho7 hg7 hn7; have hB7 : Hid (Below w.heap.size w wa) := ((hBr.out.alloc hsz _).grown hg7 (by simp; omega) (fun b e => (hQ.out.o7.lt b e).1)); have hQ7 : Hid (Qd wa w.heap.size n la lb (y + 1) y y 0 v7' u8 u9 (.slice none 0 0) R) := ((hQ.out.alloc _).step7 (by rw [← h7e.out]; exact ho7) hg7 hn7); clear c1 c2 f1 f2 f3 ho7 hg7 hn7; obtain ⟨c1, c2, f1, f2, f3⟩ := hF.out _ hB7.out; have hszA := hB7.out.size) | (at_builtin; refine wpList_append_new _ rfl _ _ 23 rfl w.heap.size 31 i0 (.agg #[.bool false, .string ⟨#[]⟩, .string ⟨#[]⟩]) 3 40 Tryz.underlying23 hi0.out hz0.out hz1.out hz2.out rfl (by decide) u9 y (rowL y fun i => lb.getD (n - 1 - i) zraw) rfl (hQ7.out.o9.alloc _) ⟨wa.heap.size, 0, none⟩ 1 1 (rawL (g, nn, dd)) rfl rfl (raw_new _ _ _ _ _) (raw_cell _) (by omega) (by unfold maxLen; omega) (by omega) (by simp; omega) ?_; intro v9' wb ho9 hg9 hn9; have hB9 : Hid (Below w.heap.size w wb) := ((hB7.out.alloc hszA _).grown hg9 (by simp; omega) (fun b e => (hQ7.out.o9.lt b e).1)); have hQ9 : Hid (Qd wb w.heap.size n la lb (y + 1) (y + 1) y 0 v7' u8 v9' (.slice none 0 0) R) := ((hQ7.out.alloc _).step9 (by rw [← h9e.out]; exact ho9) hg9 hn9); clear ho9 hg9 hn9))
        clear c1 c2 f1 f2 f3 hQ hQ7 hsz hszA hBr
        go_loopw [11, 12] (fun v11 j wz => ∃ z : Nat, z ≤ n ∧ j = .int .i64 (z : Int) ∧ Hid (Qd wz w.heap.size n la lb (y + 1) (y + 1) y z v7' u8 v9' v11 R) ∧ Hid (Below w.heap.size w wz)) (fun _ j _ => n - (intOf j).toNat)
        case atStart => exact ⟨0, Nat.zero_le _, rfl, hQ9, hB9⟩
        case round =>
          obtain ⟨z, hz, rfl, hQz, hBz⟩ := hrel
          obtain ⟨_, c2, _, _, _⟩ := hF.out _ hBz.out
          have hszz := hBz.out.size
          by_cases hlz : z < n
          · have hzq : n - 1 - z < rl2.length := by rw [hl2.out]; omega
            obtain ⟨bx, ox, rfl, hbx, f1, f2, f3⟩ := hrow.out.at hzq
            have hgr : (la.getD y rowD0).2.2.getD (n - 1 - z) zraw = rl2[n - 1 - z] := by rw [hgy2.out]; exact getD_at hzq
            obtain ⟨rb, hrb⟩ : ∃ x, x = rl2[n - 1 - z] := ⟨_, rfl⟩
            rw [← hrb] at f1 f2 f3 hgr
            obtain ⟨g2, nn2, dd2⟩ := rb
            replace f1 : wr.cell? ⟨bx, ox + (n - 1 - z) * 3, none⟩ = some (.bool g2) := (hBz.out.cell (p := ⟨bx, _, none⟩) hbx).trans f1
            replace f2 : wr.cell? ⟨bx, ox + (n - 1 - z) * 3 + 1, none⟩ = some (.string nn2) := (hBz.out.cell (p := ⟨bx, _, none⟩) hbx).trans f2
            replace f3 : wr.cell? ⟨bx, ox + (n - 1 - z) * 3 + 2, none⟩ = some (.string dd2) := (hBz.out.cell (p := ⟨bx, _, none⟩) hbx).trans f3
            have h11e : Hid ((rowL z fun j => (la.getD y rowD0).2.2.getD (n - 1 - j) zraw) ++ rawL (g2, nn2, dd2) = rowL (z + 1) fun j => (la.getD y rowD0).2.2.getD (n - 1 - j) zraw) := by
              show _ = _
              rw [rowL_succ, hgr]
            have t0 : (0 : Int) ≤ (n : Int) - 1 - (z : Int) := by omega
            have t1 : (n : Int) - 1 - (z : Int) < (n : Int) := by omega
            have t2 : ((n : Int) - 1 - (z : Int)).toNat = n - 1 - z := by omega
            clear hrb hgr s0 s1 s2
            go_wp2_with (at_builtin; refine wpList_append_new _ rfl _ _ 23 rfl w.heap.size 31 i0 (.agg #[.bool false, .string ⟨#[]⟩, .string ⟨#[]⟩]) 3 40 Tryz.underlying23 hi0.out hz0.out hz1.out hz2.out rfl (by decide) u11 z (rowL z fun j => (la.getD y rowD0).2.2.getD (n - 1 - j) zraw) rfl (hQz.out.o11.alloc _) ⟨wr.heap.size, 0, none⟩ 1 1 (rawL (g2, nn2, dd2)) rfl rfl (raw_new _ _ _ _ _) (raw_cell _) (by omega) (by unfold maxLen; omega) (by omega) (by simp; omega) ?_; intro v11' wa ho hg hn; have hB7 : Hid (Below w.heap.size w wa) := ((hBz.out.alloc hszz _).grown hg (by simp; omega) (fun b e => (hQz.out.o11.lt b e).1)); have hQ7 : Hid (Qd wa w.heap.size n la lb (y + 1) (y + 1) y (z + 1) v7' u8 v9' v11' R) := ((hQz.out.alloc _).step11 (by rw [← h11e.out]; exact ho) hg hn); clear ho hg hn)
            exact ⟨⟨z + 1, by omega, by go_num, hQ7, hB7⟩, by simp only [intOf]; omega⟩
          · obtain rfl : n = z := by omega
            obtain ⟨A11, c11, rfl, _⟩ := inRow_of_own hQz.out.o11
            clear c2 s0 s1 s2
            go_wp2_with (at_builtin; refine wpList_append_new _ rfl _ _ 22 rfl w.heap.size 23 i1 (.slice none 0 0) 1 24 Tryz.underlying22 hi1.out hy0.out hy1.out hy2.out rfl (by decide) u8 y ((List.range y).map R) rfl (hQz.out.o8.alloc _) ⟨wr.heap.size, 0, none⟩ 1 1 [.slice A11 n c11] rfl rfl (head_new _ _ _) (one_cell1 _ rfl) (by omega) (by unfold maxLen; omega) (by omega) (by simp; omega) ?_; intro v8' wa ho hg hn; have hB7 : Hid (Below w.heap.size w wa) := ((hBz.out.alloc hszz _).grown hg (by simp; omega) (fun b e => (hQz.out.o8.lt b e).1)); have hQ7 := Lib.hid ((hQz.out.alloc _).step8 ho hg hn); clear ho hg hn)
            exact ⟨⟨y + 1, by omega, by go_num, ⟨_, hQ7.out⟩, hB7⟩, by simp only [intOf]; omega⟩
      · obtain rfl : y = n := by omega
        obtain ⟨R, hQ⟩ := hQ.out
        have hin : ∀ x ∈ la, InRow wr x.1 x.2.2 := fun x hx => by
          obtain ⟨i, hi, rfl⟩ := List.getElem_of_mem hx
          obtain ⟨ba, oa, _, _, hca⟩ := hma.out (by omega)
          exact (hca i hi).2.below hBr.out (Nat.le_refl _)
        obtain ⟨⟨p7, c7, rfl, m7⟩, ⟨p9, c9, rfl, m9⟩, p8, c8, L8, rfl, m8, n8, e8⟩ := hQ.systems hla'.out hlb'.out hrl.out hin
        replace m7 := Lib.hid m7
        replace m8 := Lib.hid m8
        replace m9 := Lib.hid m9
        replace n8 := Lib.hid n8
        replace e8 := Lib.hid e8
        clear hQ hin hlt
        go_wp2_with fail
        refine (hks.out _ hBr.out (hE.out.below hBr.out)).mono ?_
        rintro e w3 ⟨⟨q1, d1, rfl, s1⟩, hb⟩
        have hB3 := Lib.hid (hBr.out.trans (hb.mono hBr.out.size))
        have m73 := Lib.hid (m7.out.below hb (Nat.le_refl _))
        have m83 := Lib.hid (m8.out.below hb (Nat.le_refl _))
        have m93 := Lib.hid (m9.out.below hb (Nat.le_refl _))
        replace s1 := Lib.hid s1
        clear hb m7 m8 m9
        go_wp2_with fail
        refine (ks2.out _ p7 p9 c7 c9 hB3.out (hE.out.below hB3.out) m73.out m93.out).mono ?_
        rintro e w4 ⟨⟨q2, d2, rfl, s2⟩, hb⟩
        have hB4 := Lib.hid (hB3.out.trans (hb.mono hB3.out.size))
        have m84 := Lib.hid (m83.out.below hb (Nat.le_refl _))
        have s14 := Lib.hid (s1.out.below hb (Nat.le_refl _))
        replace s2 := Lib.hid s2
        clear hb m73 m83 m93 s1
        go_wp2_with fail
        refine (ks3.out _ p8 c8 L8 hB4.out (hE.out.below hB4.out) m84.out n8.out e8.out).mono ?_
        rintro e w5 ⟨⟨q3, d3, rfl, s3⟩, hb⟩
        have hB5 := Lib.hid (hB4.out.trans (hb.mono hB4.out.size))
        have s15 := Lib.hid (s14.out.below hb (Nat.le_refl _))
        have s25 := Lib.hid (s2.out.below hb (Nat.le_refl _))
        replace s3 := Lib.hid s3
        clear hb m84 s14 s2 hB3 hB4
        go_wp2
        go_loopw [19, 20] (fun v i wz => ∃ t : Nat, t ≤ xs3.length ∧ i = .int .i64 ((xs3.length : Int) - 1 - (t : Int)) ∧ Hid (wz.ownsRow w5.heap.size 31 3 v t (rowL t fun j => xs3.getD (xs3.length - 1 - j) zraw)) ∧ Hid (Below w5.heap.size w5 wz)) (fun _ i _ => (intOf i + 1).toNat)
        case atStart => exact ⟨0, Nat.zero_le _, by congr 1; omega, World.ownsRow_nil _ _ _ _, Below.refl _ _⟩
        case round =>
          obtain ⟨t, ht, rfl, hO, hC⟩ := hrel
          have hszz := hC.out.size
          by_cases htl : t < xs3.length
          · have hzq : xs3.length - 1 - t < xs3.length := by omega
            obtain ⟨bx, ox, rfl, hbx, f1, f2, f3⟩ := s3.out.at hzq
            have hgr : xs3.getD (xs3.length - 1 - t) zraw = xs3[xs3.length - 1 - t] := getD_at hzq
            obtain ⟨rb, hrb⟩ : ∃ x, x = xs3[xs3.length - 1 - t] := ⟨_, rfl⟩
            rw [← hrb] at f1 f2 f3 hgr
            obtain ⟨g3, nn3, dd3⟩ := rb
            replace f1 : wr.cell? ⟨bx, ox + (xs3.length - 1 - t) * 3, none⟩ = some (.bool g3) := (hC.out.cell (p := ⟨bx, _, none⟩) hbx).trans f1
            replace f2 : wr.cell? ⟨bx, ox + (xs3.length - 1 - t) * 3 + 1, none⟩ = some (.string nn3) := (hC.out.cell (p := ⟨bx, _, none⟩) hbx).trans f2
            replace f3 : wr.cell? ⟨bx, ox + (xs3.length - 1 - t) * 3 + 2, none⟩ = some (.string dd3) := (hC.out.cell (p := ⟨bx, _, none⟩) hbx).trans f3
            have h19e : Hid ((rowL t fun j => xs3.getD (xs3.length - 1 - j) zraw) ++ rawL (g3, nn3, dd3) = rowL (t + 1) fun j => xs3.getD (xs3.length - 1 - j) zraw) := by
              show _ = _
              rw [rowL_succ, hgr]
            obtain ⟨i, hi⟩ : ∃ i : Int, i = (xs3.length : Int) - 1 - (t : Int) := ⟨_, rfl⟩
            rw [← hi]
            have t0 : (0 : Int) ≤ i := by omega
            have t1 : i < (xs3.length : Int) := by omega
            have t2 : i.toNat = xs3.length - 1 - t := by omega
            replace hi := Lib.hid hi
            clear hrb hgr
            go_wp2_with (at_builtin; refine wpList_append_new _ rfl _ _ 23 rfl w5.heap.size 31 i0 (.agg #[.bool false, .string ⟨#[]⟩, .string ⟨#[]⟩]) 3 40 Tryz.underlying23 hi0.out hz0.out hz1.out hz2.out rfl (by decide) u19 t (rowL t fun j => xs3.getD (xs3.length - 1 - j) zraw) rfl (hO.out.alloc _) ⟨wr.heap.size, 0, none⟩ 1 1 (rawL (g3, nn3, dd3)) rfl rfl (raw_new _ _ _ _ _) (raw_cell _) (by omega) (by unfold maxLen; omega) (by omega) (by simp; omega) ?_; intro v19' wa ho hg hn; have hB7 : Hid (Below w5.heap.size w5 wa) := ((hC.out.alloc hszz _).grown hg (by simp; omega) (fun b e => (hO.out.lt b e).1)); have hO7 : Hid (wa.ownsRow w5.heap.size 31 3 v19' (t + 1) (rowL (t + 1) fun j => xs3.getD (xs3.length - 1 - j) zraw)) := (by rw [← h19e.out]; exact ho); clear ho hg hn)
            exact ⟨⟨t + 1, by omega, by rw [hi.out]; congr 1; omega, hO7, hB7⟩, by simp only [intOf]; omega⟩
          · obtain rfl : t = xs3.length := by omega
            obtain ⟨A19, c19, rfl, m19⟩ := inRow_of_own hO.out
            rw [rowL_map (l := xs3.reverse) (by simp) fun i hi => by
              rw [← getD_back rfl (by simpa using hi), getD_at hi]] at m19
            obtain ⟨i, hi⟩ : ∃ i : Int, i = (xs3.length : Int) - 1 - (xs3.length : Int) := ⟨_, rfl⟩
            rw [← hi]
            have t0 : ¬ (0 : Int) ≤ i := by omega
            have hB7 := Lib.hid (hB5.out.trans (hC.out.mono hB5.out.size))
            have k1 := Lib.hid (lsame_any q1 q2 d1 d2 xs1 xs2 er1 er2 ⟨b1, b2⟩ ⟨b5, b6⟩ wr (s15.out.below hC.out (Nat.le_refl _)) (s25.out.below hC.out (Nat.le_refl _)) l1)
            rw [kb.out] at k1
            have k2 : Hid (∀ W, Below wr.heap.size wr W → Calls Tryz.prog 16 #[.slice q1 xs1.length d1, .int .i64 er1, .slice A19 xs3.length c19, .int .i64 er3] W fun en w' => en = .returned (.bool true) ∧ Below W.heap.size W w') := fun W h => by
              have k := lsame_any q1 A19 d1 c19 xs1 xs3.reverse er1 er3 ⟨b1, b2⟩ ⟨b9, b10⟩ W ((s15.out.below hC.out (Nat.le_refl _)).below h (Nat.le_refl _)) (m19.below h (Nat.le_refl _)) l1
              rw [kt.out, List.length_reverse] at k
              exact k
            clear hi hO m19 hC htl
            go_wp2_with fail
            refine k1.out.mono ?_
            rintro e w6 ⟨rfl, hb⟩
            have hB8 := Lib.hid (hB7.out.trans (hb.mono hB7.out.size))
            replace hb := Lib.hid hb
            go_wp2_with fail
            refine (k2.out _ hb.out).mono ?_
            rintro e w7 ⟨rfl, hb9⟩
            have hB9 := Lib.hid (hB8.out.trans (hb9.mono hB8.out.size))
            clear hb9
            go_wp2
            go_ret
            exact ⟨rfl, hB9.out⟩
end Nt
end Go.Proofs.YtjjlnahipiinfaaGreatDoor

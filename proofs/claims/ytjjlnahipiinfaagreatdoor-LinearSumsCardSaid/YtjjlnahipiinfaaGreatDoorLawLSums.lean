/- LinearSums: the solution for the sum of two right sides. -/
import Derived.Test.YtjjlnahipiinfaaGreatDoorLinD
namespace Go.Proofs.YtjjlnahipiinfaaGreatDoor
open Go.RowKit Go.Shelf
namespace Nt

theorem addR_step (x y : Raw) (hx : rawSz x) (hy : rawSz y) : ∃ (r : Raw) (E : Int), (∀ w, Env w → Calls Tryz.prog 22 #[rawV x, rawV y] w fun e w' => e = .returned (.tuple #[rawV r, .int .i64 E]) ∧ Below w.heap.size w w') ∧
    ((E = 0 ∧ r = rq (vq x + vq y) ∧ OkQ (vq x + vq y)) ∨ E = 1 ∨ E = 2) := by
  by_cases h1 : vraw x = true
  · by_cases h2 : vraw y = true
    · have e1 : qv (vq x) = rawV x := congrArg rawV (raw_of h1).1
      have e2 : qv (vq y) = rawV y := congrArg rawV (raw_of h2).1
      by_cases hc : ShortQ (vq x) ∧ ShortQ (vq y)
      · refine ⟨rq (vq x + vq y), 0, fun w hE => ?_, .inl ⟨rfl, rfl, okQ_add hc.1 hc.2⟩⟩
        have k := Add_short (vq x) (vq y) hc.1 hc.2 w hE
        rw [e1, e2] at k
        exact k
      · refine ⟨zraw, 2, fun w hE => ?_, .inr (.inr rfl)⟩
        have k := Add_long (vq x) (vq y) (raw_of h1).2 (raw_of h2).2 hc w hE
        rw [e1, e2] at k
        exact k
    · exact ⟨zraw, 1, fun w hE => Add_bad x.1 y.1 x.2.1 x.2.2 y.2.1 y.2.2 w hE hx.1 hx.2 hy.1 hy.2 (.inr ((Bool.not_eq_true _).mp h2)), .inr (.inl rfl)⟩
  · exact ⟨zraw, 1, fun w hE => Add_bad x.1 y.1 x.2.1 x.2.2 y.2.1 y.2.2 w hE hx.1 hx.2 hy.1 hy.2 (.inl ((Bool.not_eq_true _).mp h1)), .inr (.inl rfl)⟩
theorem er_sq {n : Nat} {A : List (List Raw)} {b : List Raw} (h : SqB n A b) : erOf (solveB A b) = 0 ∨ erOf (solveB A b) = 2 ∨ erOf (solveB A b) = 12 := by
  rw [solveB_sq h]
  rcases sol_cases SQ n (sysM A b) with ⟨M, hM⟩ | hM | hM
  · rw [hM]; exact .inl rfl
  · rw [hM]; exact .inr (.inr rfl)
  · rw [hM]; exact .inr (.inl rfl)
theorem sums_comb {n : Nat} {A : List (List Raw)} {b c : List Raw} (hb : SqB n A b) (hc : SqB n A c) (hv : ∀ i, i < n → OkQ (rhs b i + rhs c i)) :
    (erOf (solveB A b) = 0 ∧ erOf (solveB A c) = 0 ∧ erOf (solveB A (outL n fun i => rhs b i + rhs c i)) = 0 ∧ (xsOf (solveB A b)).length = n ∧ (xsOf (solveB A c)).length = n ∧ xsOf (solveB A (outL n fun i => rhs b i + rhs c i)) = outL n fun i => rhs (xsOf (solveB A b)) i + rhs (xsOf (solveB A c)) i) ∨
    ((erOf (solveB A b) = 0 ∨ erOf (solveB A b) = 2 ∨ erOf (solveB A b) = 12) ∧ (erOf (solveB A c) = 0 ∨ erOf (solveB A c) = 2 ∨ erOf (solveB A c) = 12) ∧ (erOf (solveB A (outL n fun i => rhs b i + rhs c i)) = 0 ∨ erOf (solveB A (outL n fun i => rhs b i + rhs c i)) = 2 ∨ erOf (solveB A (outL n fun i => rhs b i + rhs c i)) = 12) ∧
     (erOf (solveB A b) = 2 ∨ erOf (solveB A c) = 2 ∨ erOf (solveB A (outL n fun i => rhs b i + rhs c i)) = 2 ∨ (erOf (solveB A b) = 12 ∧ erOf (solveB A c) = 12 ∧ erOf (solveB A (outL n fun i => rhs b i + rhs c i)) = 12))) := by
  have hd : SqB n A (outL n fun i => rhs b i + rhs c i) := ⟨hb.1, outL_length _ _, hb.2.2.1, allV_outL hv, hb.2.2.2.2⟩
  rcases sums_law hb hc hv with h | h | h | ⟨h1, h2, h3⟩ | ⟨f, g, h1, h2, h3⟩
  · exact .inr ⟨er_sq hb, er_sq hc, er_sq hd, .inl (by rw [h]; rfl)⟩
  · exact .inr ⟨er_sq hb, er_sq hc, er_sq hd, .inr (.inl (by rw [h]; rfl))⟩
  · exact .inr ⟨er_sq hb, er_sq hc, er_sq hd, .inr (.inr (.inl (by rw [h]; rfl)))⟩
  · exact .inr ⟨er_sq hb, er_sq hc, er_sq hd, .inr (.inr (.inr ⟨by rw [h1]; rfl, by rw [h2]; rfl, by rw [h3]; rfl⟩))⟩
  · refine .inl ⟨by rw [h1]; rfl, by rw [h2]; rfl, by rw [h3]; rfl, by rw [h1]; exact outL_length _ _, by rw [h2]; exact outL_length _ _, ?_⟩
    rw [h1, h2, h3]
    show outL n _ = outL n _
    refine outL_congr fun i hi => ?_
    unfold rhs xsOf
    rw [outL_getD _ _ hi, outL_getD _ _ hi, vq_rq, vq_rq]

set_option maxRecDepth 100000 in
set_option maxHeartbeats 16000000 in
theorem lsums_any (kh : HeadC) (Aa Ab Ac : Option Addr) (ca cb cc : Nat) (la : List RowH) (lb lc : List Raw) (w : World) (hE : Env w) (hs : SysIn w Aa Ab la lb) (hmc : InRow w Ac lc) (nc : lc.length ≤ 140737488355328) (zc : ∀ x ∈ lc, rawSz x) :
    Calls Tryz.prog 9 #[.slice Aa la.length ca, .slice Ab lb.length cb, .slice Ac lc.length cc] w fun e w' => e = .returned (.bool true) ∧ Below w.heap.size w w' := by
  have kf := fun W (h : Below w.heap.size w W) (hW : Env W) => square_any Aa Ab ca cb la lb W hW (hs.below h)
  have kg := fun W (h : Below w.heap.size w W) (hW : Env W) => square_any Aa Ac ca cc la lc W hW (hs.swap h (hmc.below h (Nat.le_refl _)) nc zc)
  have nb := hs.nb
  have na := hs.na
  replace kh := Lib.hid kh
  cases h0 : squareB (rowsOf la) lb with
  | false =>
    rw [h0] at kf
    replace kf := Lib.hid kf
    replace hE := Lib.hid hE
    clear h0 hs kg hmc
    go_enter Tryz.func9, Tryz.ntmps9
    go_wp2_with fail
    refine (kh.out _ hE.out).mono ?_
    rintro e w1 ⟨rfl, hb1⟩
    replace hb1 := Lib.hid hb1
    go_wp2_with fail
    refine (kf.out _ hb1.out (hE.out.below hb1.out)).mono ?_
    rintro e w2 ⟨rfl, hb2⟩
    have hB2 := Lib.hid (hb1.out.trans (hb2.mono hb1.out.size))
    clear hb2
    go_wp2
    go_ret
    exact ⟨rfl, hB2.out⟩
  | true =>
  rw [h0] at kf
  replace kf := Lib.hid kf
  cases h1 : squareB (rowsOf la) lc with
  | false =>
    rw [h1] at kg
    replace kg := Lib.hid kg
    replace hE := Lib.hid hE
    clear h0 h1 hs hmc
    go_enter Tryz.func9, Tryz.ntmps9
    go_wp2_with fail
    refine (kh.out _ hE.out).mono ?_
    rintro e w1 ⟨rfl, hb1⟩
    replace hb1 := Lib.hid hb1
    go_wp2_with fail
    refine (kf.out _ hb1.out (hE.out.below hb1.out)).mono ?_
    rintro e w2 ⟨rfl, hb2⟩
    have hB2 := Lib.hid (hb1.out.trans (hb2.mono hb1.out.size))
    clear hb2
    go_wp2_with fail
    refine (kg.out _ hB2.out (hE.out.below hB2.out)).mono ?_
    rintro e w3 ⟨rfl, hb3⟩
    have hB3 := Lib.hid (hB2.out.trans (hb3.mono hB2.out.size))
    clear hb3
    go_wp2
    go_ret
    exact ⟨rfl, hB3.out⟩
  | true =>
  rw [h1] at kg
  replace kg := Lib.hid kg
  obtain ⟨_, hsq⟩ := square_sq h0
  obtain ⟨_, hsc⟩ := square_sq h1
  obtain ⟨n, hn⟩ : ∃ n, n = lb.length := ⟨_, rfl⟩
  have hcn : lc.length = n := by have e1 := hsq.1; have e2 := hsc.1; omega
  rw [hcn] at hsc
  rw [← hn] at hsq
  have hla : la.length = n := by have := hsq.1; rwa [rowsOf_length] at this
  have h8 : n ≤ 8 := hsq.2.2.1
  have hcomb : Hid (∀ h : ∀ i, i < n → OkQ (rhs lb i + rhs lc i), _) := fun h => sums_comb hsq hsc h
  have ks1 := fun W (h : Below w.heap.size w W) (hW : Env W) => Solve_r Aa Ab ca cb la lb W hW (hs.below h)
  have ks2 := fun W (h : Below w.heap.size w W) (hW : Env W) => Solve_r Aa Ac ca cc la lc W hW (hs.swap h (hmc.below h (Nat.le_refl _)) nc zc)
  have ks3 : Hid (∀ W p c, Below w.heap.size w W → Env W → InRow W p (outL n fun i => rhs lb i + rhs lc i) → (∀ i, i < n → OkQ (rhs lb i + rhs lc i)) → Calls Tryz.prog 12 #[.slice Aa n ca, .slice p n c] W fun e w' => (∃ p c, e = .returned (.tuple #[.slice p (xsOf (solveB (rowsOf la) (outL n fun i => rhs lb i + rhs lc i))).length c, .int .i64 (erOf (solveB (rowsOf la) (outL n fun i => rhs lb i + rhs lc i)))]) ∧ InRow w' p (xsOf (solveB (rowsOf la) (outL n fun i => rhs lb i + rhs lc i)))) ∧ Below W.heap.size W w') := fun W p c h hW hp hk => by
    have k := Solve_r Aa p ca c la (outL n fun i => rhs lb i + rhs lc i) W hW (hs.swap h hp (by rw [outL_length]; omega) (fun x hx => by
      obtain ⟨i, hi, rfl⟩ := List.getElem_of_mem hx
      rw [outL_get]
      exact rawSz_rq (hk i (by simpa [outL_length] using hi))))
    rw [outL_length, hla] at k
    exact k
  have hmb := Lib.hid hs.mb
  have zlb := Lib.hid hs.zb
  have zlc := Lib.hid zc
  have hbd1 := @solve_bd (rowsOf la) lb
  have hbd2 := @solve_bd (rowsOf la) lc
  have hmc' := Lib.hid hmc
  generalize xsOf (solveB (rowsOf la) (outL n fun i => rhs lb i + rhs lc i)) = xs3 at *
  generalize erOf (solveB (rowsOf la) (outL n fun i => rhs lb i + rhs lc i)) = er3 at *
  generalize xsOf (solveB (rowsOf la) lb) = xs1 at *
  generalize erOf (solveB (rowsOf la) lb) = er1 at *
  generalize xsOf (solveB (rowsOf la) lc) = xs2 at *
  generalize erOf (solveB (rowsOf la) lc) = er2 at *
  have zxs1 := Lib.hid hbd1.2.2.2
  have zxs2 := Lib.hid hbd2.2.2.2
  rw [hla, ← hn] at kf ks1
  rw [hla, hcn] at kg ks2
  replace ks1 := Lib.hid ks1
  replace ks2 := Lib.hid ks2
  replace hE := Lib.hid hE
  have hlb' := Lib.hid hn.symm
  have hlc' := Lib.hid hcn
  rw [hla, ← hn, hcn]
  clear h0 h1 hs hsq hsc hn hla nb na hcn hbd1 hbd2 hmc nc zc
  replace kf := Lib.hid kf.out
  replace kg := Lib.hid kg.out
  obtain ⟨i0, hi0, hzz⟩ := Option.map_eq_some_iff.1 infoQ
  simp only [Prod.mk.injEq] at hzz
  obtain ⟨hz0, hz1, hz2⟩ := hzz
  replace hi0 := Lib.hid hi0
  replace hz0 := Lib.hid hz0
  replace hz1 := Lib.hid hz1
  replace hz2 := Lib.hid hz2
  go_enter Tryz.func9, Tryz.ntmps9
  go_wp2_with fail
  refine (kh.out _ hE.out).mono ?_
  rintro e w1 ⟨rfl, hb1⟩
  replace hb1 := Lib.hid hb1
  go_wp2_with fail
  refine (kf.out _ hb1.out (hE.out.below hb1.out)).mono ?_
  rintro e w2 ⟨rfl, hb2⟩
  have hB2 := Lib.hid (hb1.out.trans (hb2.mono hb1.out.size))
  clear hb2
  go_wp2_with fail
  refine (kg.out _ hB2.out (hE.out.below hB2.out)).mono ?_
  rintro e w3 ⟨rfl, hb3⟩
  have hB3 := Lib.hid (hB2.out.trans (hb3.mono hB2.out.size))
  clear hb3
  go_wp2_with fail
  refine (ks1.out _ hB3.out (hE.out.below hB3.out)).mono ?_
  rintro e w4 ⟨⟨q1, d1, rfl, s1⟩, hb⟩
  have hB4 := Lib.hid (hB3.out.trans (hb.mono hB3.out.size))
  replace s1 := Lib.hid s1
  clear hb
  go_wp2_with fail
  refine (ks2.out _ hB4.out (hE.out.below hB4.out)).mono ?_
  rintro e w5 ⟨⟨q2, d2, rfl, s2⟩, hb⟩
  have hB5 := Lib.hid (hB4.out.trans (hb.mono hB4.out.size))
  have s15 := Lib.hid (s1.out.below hb (Nat.le_refl _))
  replace s2 := Lib.hid s2
  clear hb s1 hb1 hB2 hB3 hB4 kf kg ks1 ks2 kh
  go_wp2
  go_loopw [8, 14] (fun v i wz => ∃ y : Nat, y ≤ n ∧ i = .int .i64 (y : Int) ∧ Hid (wz.ownsRow w5.heap.size 31 3 v y (rowL y fun i => rq (rhs lb i + rhs lc i))) ∧ Hid (∀ i, i < y → OkQ (rhs lb i + rhs lc i)) ∧ Hid (Below w5.heap.size w5 wz)) (fun _ i _ => n - (intOf i).toNat)
  case atStart => exact ⟨0, Nat.zero_le _, rfl, World.ownsRow_nil _ _ _ _, fun i h => absurd h (by omega), Below.refl _ _⟩
  case round =>
    obtain ⟨y, hy, rfl, hO, hOk, hBw⟩ := hrel
    have hmb5 := Lib.hid (hmb.out.below hB5.out (Nat.le_refl _))
    have hmc5 := Lib.hid (hmc'.out.below hB5.out (Nat.le_refl _))
    have hE5 := Lib.hid (hE.out.below hB5.out)
    by_cases hlt : y < n
    · clear hmb hmc' hcomb ks3 s15 s2 hE
      have hyx : y < lb.length := by rw [hlb'.out]; exact hlt
      have hyy : y < lc.length := by rw [hlc'.out]; exact hlt
      obtain ⟨bx, ox, hpx, hbx, p1, p2, p3⟩ := hmb5.out.at hyx
      obtain ⟨by', oy, hpy, hby, q1, q2, q3⟩ := hmc5.out.at hyy
      obtain rfl := hpx
      obtain rfl := hpy
      obtain ⟨r1, E, ka, hcase⟩ := addR_step lb[y] lc[y] (zlb.out _ (List.getElem_mem hyx)) (zlc.out _ (List.getElem_mem hyy))
      have hr1 : rhs lb y = vq lb[y] := by unfold rhs; rw [getD_at hyx]
      have hr2 : rhs lc y = vq lc[y] := by unfold rhs; rw [getD_at hyy]
      rw [← hr1, ← hr2] at hcase
      obtain ⟨rx, hrx⟩ : ∃ x, x = lb[y] := ⟨_, rfl⟩
      obtain ⟨ry, hry⟩ : ∃ x, x = lc[y] := ⟨_, rfl⟩
      rw [← hrx] at p1 p2 p3 ka
      rw [← hry] at q1 q2 q3 ka
      obtain ⟨g1, n1, d1⟩ := rx
      obtain ⟨g2, n2, d2⟩ := ry
      obtain ⟨r1g, r1n, r1d⟩ := r1
      have HO : Hid (∀ W, Below w5.heap.size w5 W → W.cell? ⟨bx, ox + y * 3, none⟩ = some (.bool g1) ∧ W.cell? ⟨bx, ox + y * 3 + 1, none⟩ = some (.string n1) ∧ W.cell? ⟨bx, ox + y * 3 + 2, none⟩ = some (.string d1) ∧ W.cell? ⟨by', oy + y * 3, none⟩ = some (.bool g2) ∧ W.cell? ⟨by', oy + y * 3 + 1, none⟩ = some (.string n2) ∧ W.cell? ⟨by', oy + y * 3 + 2, none⟩ = some (.string d2)) := fun W h =>
        ⟨(h.cell (p := ⟨bx, _, none⟩) hbx).trans p1, (h.cell (p := ⟨bx, _, none⟩) hbx).trans p2, (h.cell (p := ⟨bx, _, none⟩) hbx).trans p3, (h.cell (p := ⟨by', _, none⟩) hby).trans q1, (h.cell (p := ⟨by', _, none⟩) hby).trans q2, (h.cell (p := ⟨by', _, none⟩) hby).trans q3⟩
      clear p1 p2 p3 q1 q2 q3 hrx hry hr1 hr2
      obtain ⟨p1, p2, p3, q1, q2, q3⟩ := HO.out _ hBw.out
      replace ka : Hid (∀ w, Env w → Calls Tryz.prog 22 #[.agg #[.bool g1, .string n1, .string d1], .agg #[.bool g2, .string n2, .string d2]] w fun e w' => e = .returned (.tuple #[.agg #[.bool r1g, .string r1n, .string r1d], .int .i64 E]) ∧ Below w.heap.size w w') := ka
      have j0 : (0 : Int) ≤ (y : Int) := by omega
      have j1 : (y : Int) < (n : Int) := by omega
      have hBa : Hid (Below w5.heap.size w5 (wr.alloc (.cells #[.bool false, .string ⟨#[]⟩, .string ⟨#[]⟩] 31))) := hBw.out.alloc hBw.out.size _
      have hBd : Hid (Below w5.heap.size w5 (wr.alloc (.cells #[.bool false, .string ⟨#[]⟩, .string ⟨#[]⟩] 31)).drew) := hBa.out.drew
      have hBe : Hid (Below w5.heap.size w5 wr.drew) := hBw.out.drew
      have hCd : Hid (Below wr.heap.size wr (wr.alloc (.cells #[.bool false, .string ⟨#[]⟩, .string ⟨#[]⟩] 31)).drew) := ((Below.refl _ wr).alloc (Nat.le_refl _) _).drew
      have hCe : Hid (Below wr.heap.size wr wr.drew) := (Below.refl _ wr).drew
      have hxd : Hid (B3 (wr.alloc (.cells #[.bool false, .string ⟨#[]⟩, .string ⟨#[]⟩] 31)).drew wr.heap.size false ⟨#[]⟩ ⟨#[]⟩) := B3.new wr _ _ _
      have hwz : Hid (w5.heap.size ≤ wr.heap.size) := hBw.out.size
      rcases hcase with ⟨rfl, hr, hok⟩ | rfl | rfl
      · have hmore : Hid ((rowL y fun i => rq (rhs lb i + rhs lc i)) ++ rawL (r1g, r1n, r1d) = rowL (y + 1) fun i => rq (rhs lb i + rhs lc i)) := by
          show _ = _
          rw [rowL_succ, hr]
        have hok2 : Hid (∀ i, i < y + 1 → OkQ (rhs lb i + rhs lc i)) := fun i hi => by
          by_cases e : i = y
          · rw [e]; exact hok
          · exact hOk.out i (by omega)
        clear hr hok
        go_wp2_with fail
        go_region_held3 (fun w' => w'.cell? ⟨bx, ox + y * 3, none⟩ = some (.bool g1) ∧ w'.cell? ⟨bx, ox + y * 3 + 1, none⟩ = some (.string n1) ∧ w'.cell? ⟨bx, ox + y * 3 + 2, none⟩ = some (.string d1) ∧ w'.cell? ⟨by', oy + y * 3, none⟩ = some (.bool g2) ∧ w'.cell? ⟨by', oy + y * 3 + 1, none⟩ = some (.string n2) ∧ w'.cell? ⟨by', oy + y * 3 + 2, none⟩ = some (.string d2)) (first | (with_reducible exact HO.out _ hBe.out) | (with_reducible exact HO.out _ hBd.out) | (with_reducible exact HO.out _ hBw.out) | (with_reducible exact HO.out _ hBa.out) | (with_reducible exact HO.out _ hB2.out) | (with_reducible exact HO.out _ (hB2.out.alloc hB2.out.size _)) | (with_reducible exact HO.out _ (((hB2.out.setCell hwz.out _).setCell hwz.out _).setCell hwz.out _)) | go_keep)
          (first
            | (go_at_call 22; refine (ka.out _ ?_).mono ?_; (with_reducible exact hE5.out.below hBd.out); rintro e w2 ⟨rfl, hb2⟩; have hx2 := Lib.hid (hxd.out.below hb2); have hB2 := Lib.hid (hBd.out.trans (hb2.mono hBd.out.size)); have hC2 := Lib.hid (hCd.out.trans (hb2.mono hCd.out.size)); obtain ⟨y1, y2, y3, y4, y5, y6⟩ := hx2.out.facts; have y7 := hx2.out.lt; clear hb2)
            | (go_at_call 22; refine (ka.out _ ?_).mono ?_; (with_reducible exact hE5.out.below hBe.out); rintro e w2 ⟨rfl, hb2⟩; have hB2 := Lib.hid (hBe.out.trans (hb2.mono hBe.out.size)); have hC2 := Lib.hid (hCe.out.trans (hb2.mono hCe.out.size)); clear hb2))
        all_goals (
          first
            | (obtain ⟨w3, hw3⟩ : ∃ W, W = w2.alloc (.cells #[.bool r1g, .string r1n, .string r1d] 31) := ⟨_, rfl⟩; rw [← hw3]; have hx3 : Hid (B3 w3 w2.heap.size r1g r1n r1d) := (by rw [hw3]; exact B3.new w2 _ _ _); have hB3 : Hid (Below w5.heap.size w5 w3) := (by rw [hw3]; exact hB2.out.alloc hB2.out.size _); have hC3 : Hid (Below wr.heap.size wr w3) := (by rw [hw3]; exact hC2.out.alloc hC2.out.size _))
            | (obtain ⟨w3, hw3⟩ : ∃ W, W = ((w2.setCell ⟨wr.heap.size, 0, none⟩ (.bool r1g)).setCell ⟨wr.heap.size, 1, none⟩ (.string r1n)).setCell ⟨wr.heap.size, 2, none⟩ (.string r1d) := ⟨_, rfl⟩; rw [← hw3]; have hx3 : Hid (B3 w3 wr.heap.size r1g r1n r1d) := (by rw [hw3]; exact ((hx2.out.set0 r1g).set1 r1n).set2 r1d); have hB3 : Hid (Below w5.heap.size w5 w3) := (by rw [hw3]; exact ((hB2.out.setCell hwz.out _).setCell hwz.out _).setCell hwz.out _); have hC3 : Hid (Below wr.heap.size wr w3) := (by rw [hw3]; exact ((hC2.out.setCell (Nat.le_refl _) _).setCell (Nat.le_refl _) _).setCell (Nat.le_refl _) _); clear hx2 y1 y2 y3 y4 y5 y6 y7)
          clear hw3 hB2 hC2 hBe hBd hBa hCe hCd hxd hwz j0 j1 ka HO p1 p2 p3 q1 q2 q3
          obtain ⟨x1, x2, x3, x4, x5, x6⟩ := hx3.out.facts
          have x7 := hx3.out.lt
          have hO3 := Lib.hid (own_below hO.out hC3.out)
          have hsz3 := hB3.out.size
          clear hC3 hx3
          go_wp2_with (at_builtin; refine wpList_append_own _ rfl _ _ 23 rfl w5.heap.size 31 i0 (.agg #[.bool false, .string ⟨#[]⟩, .string ⟨#[]⟩]) 3 40 Tryz.underlying23 hi0.out hz0.out hz1.out hz2.out rfl (by decide) u8 y (rowL y fun i => rq (rhs lb i + rhs lc i)) rfl (hO3.out.alloc _) ⟨w3.heap.size, 0, none⟩ 1 1 (rawL (r1g, r1n, r1d)) rfl rfl (raw_new _ _ _ _ _) (raw_cell _) (by unfold maxLen; omega) (by omega) (by simp; omega) ?_; intro v9 w9 ho9 hg9 _; have hB9 : Hid (Below w5.heap.size w5 w9) := ((hB3.out.alloc hsz3 _).grown hg9 (by simp; omega) (fun b e => (hO3.out.lt b e).1)); have hO9 : Hid (w9.ownsRow w5.heap.size 31 3 v9 (y + 1) (rowL (y + 1) fun i => rq (rhs lb i + rhs lc i))) := (by rw [← hmore.out]; exact ho9); clear ho9 hg9)
          exact ⟨⟨y + 1, by omega, by go_num, hO9, hok2, hB9⟩, by simp only [intOf]; omega⟩
          )
      · skip
        go_wp2_with fail
        go_region_held3 (fun w' => w'.cell? ⟨bx, ox + y * 3, none⟩ = some (.bool g1) ∧ w'.cell? ⟨bx, ox + y * 3 + 1, none⟩ = some (.string n1) ∧ w'.cell? ⟨bx, ox + y * 3 + 2, none⟩ = some (.string d1) ∧ w'.cell? ⟨by', oy + y * 3, none⟩ = some (.bool g2) ∧ w'.cell? ⟨by', oy + y * 3 + 1, none⟩ = some (.string n2) ∧ w'.cell? ⟨by', oy + y * 3 + 2, none⟩ = some (.string d2)) (first | (with_reducible exact HO.out _ hBe.out) | (with_reducible exact HO.out _ hBd.out) | (with_reducible exact HO.out _ hBw.out) | (with_reducible exact HO.out _ hBa.out) | (with_reducible exact HO.out _ hB2.out) | (with_reducible exact HO.out _ (hB2.out.alloc hB2.out.size _)) | (with_reducible exact HO.out _ (((hB2.out.setCell hwz.out _).setCell hwz.out _).setCell hwz.out _)) | go_keep)
          (first
            | (go_at_call 22; refine (ka.out _ ?_).mono ?_; (with_reducible exact hE5.out.below hBd.out); rintro e w2 ⟨rfl, hb2⟩; have hx2 := Lib.hid (hxd.out.below hb2); have hB2 := Lib.hid (hBd.out.trans (hb2.mono hBd.out.size)); have hC2 := Lib.hid (hCd.out.trans (hb2.mono hCd.out.size)); obtain ⟨y1, y2, y3, y4, y5, y6⟩ := hx2.out.facts; have y7 := hx2.out.lt; clear hb2)
            | (go_at_call 22; refine (ka.out _ ?_).mono ?_; (with_reducible exact hE5.out.below hBe.out); rintro e w2 ⟨rfl, hb2⟩; have hB2 := Lib.hid (hBe.out.trans (hb2.mono hBe.out.size)); have hC2 := Lib.hid (hCe.out.trans (hb2.mono hCe.out.size)); clear hb2))
        all_goals (
          first
            | (obtain ⟨w3, hw3⟩ : ∃ W, W = w2.alloc (.cells #[.bool r1g, .string r1n, .string r1d] 31) := ⟨_, rfl⟩; rw [← hw3]; have hx3 : Hid (B3 w3 w2.heap.size r1g r1n r1d) := (by rw [hw3]; exact B3.new w2 _ _ _); have hB3 : Hid (Below w5.heap.size w5 w3) := (by rw [hw3]; exact hB2.out.alloc hB2.out.size _); have hC3 : Hid (Below wr.heap.size wr w3) := (by rw [hw3]; exact hC2.out.alloc hC2.out.size _))
            | (obtain ⟨w3, hw3⟩ : ∃ W, W = ((w2.setCell ⟨wr.heap.size, 0, none⟩ (.bool r1g)).setCell ⟨wr.heap.size, 1, none⟩ (.string r1n)).setCell ⟨wr.heap.size, 2, none⟩ (.string r1d) := ⟨_, rfl⟩; rw [← hw3]; have hx3 : Hid (B3 w3 wr.heap.size r1g r1n r1d) := (by rw [hw3]; exact ((hx2.out.set0 r1g).set1 r1n).set2 r1d); have hB3 : Hid (Below w5.heap.size w5 w3) := (by rw [hw3]; exact ((hB2.out.setCell hwz.out _).setCell hwz.out _).setCell hwz.out _); have hC3 : Hid (Below wr.heap.size wr w3) := (by rw [hw3]; exact ((hC2.out.setCell (Nat.le_refl _) _).setCell (Nat.le_refl _) _).setCell (Nat.le_refl _) _); clear hx2 y1 y2 y3 y4 y5 y6 y7)
          clear hw3 hB2 hC2 hBe hBd hBa hCe hCd hxd hwz j0 j1 ka HO p1 p2 p3 q1 q2 q3
          obtain ⟨x1, x2, x3, x4, x5, x6⟩ := hx3.out.facts
          have x7 := hx3.out.lt
          clear hC3 hx3
          go_wp2
          go_ret
          exact ⟨rfl, hB5.out.trans (hB3.out.mono hB5.out.size)⟩
          )
      · skip
        go_wp2_with fail
        go_region_held3 (fun w' => w'.cell? ⟨bx, ox + y * 3, none⟩ = some (.bool g1) ∧ w'.cell? ⟨bx, ox + y * 3 + 1, none⟩ = some (.string n1) ∧ w'.cell? ⟨bx, ox + y * 3 + 2, none⟩ = some (.string d1) ∧ w'.cell? ⟨by', oy + y * 3, none⟩ = some (.bool g2) ∧ w'.cell? ⟨by', oy + y * 3 + 1, none⟩ = some (.string n2) ∧ w'.cell? ⟨by', oy + y * 3 + 2, none⟩ = some (.string d2)) (first | (with_reducible exact HO.out _ hBe.out) | (with_reducible exact HO.out _ hBd.out) | (with_reducible exact HO.out _ hBw.out) | (with_reducible exact HO.out _ hBa.out) | (with_reducible exact HO.out _ hB2.out) | (with_reducible exact HO.out _ (hB2.out.alloc hB2.out.size _)) | (with_reducible exact HO.out _ (((hB2.out.setCell hwz.out _).setCell hwz.out _).setCell hwz.out _)) | go_keep)
          (first
            | (go_at_call 22; refine (ka.out _ ?_).mono ?_; (with_reducible exact hE5.out.below hBd.out); rintro e w2 ⟨rfl, hb2⟩; have hx2 := Lib.hid (hxd.out.below hb2); have hB2 := Lib.hid (hBd.out.trans (hb2.mono hBd.out.size)); have hC2 := Lib.hid (hCd.out.trans (hb2.mono hCd.out.size)); obtain ⟨y1, y2, y3, y4, y5, y6⟩ := hx2.out.facts; have y7 := hx2.out.lt; clear hb2)
            | (go_at_call 22; refine (ka.out _ ?_).mono ?_; (with_reducible exact hE5.out.below hBe.out); rintro e w2 ⟨rfl, hb2⟩; have hB2 := Lib.hid (hBe.out.trans (hb2.mono hBe.out.size)); have hC2 := Lib.hid (hCe.out.trans (hb2.mono hCe.out.size)); clear hb2))
        all_goals (
          first
            | (obtain ⟨w3, hw3⟩ : ∃ W, W = w2.alloc (.cells #[.bool r1g, .string r1n, .string r1d] 31) := ⟨_, rfl⟩; rw [← hw3]; have hx3 : Hid (B3 w3 w2.heap.size r1g r1n r1d) := (by rw [hw3]; exact B3.new w2 _ _ _); have hB3 : Hid (Below w5.heap.size w5 w3) := (by rw [hw3]; exact hB2.out.alloc hB2.out.size _); have hC3 : Hid (Below wr.heap.size wr w3) := (by rw [hw3]; exact hC2.out.alloc hC2.out.size _))
            | (obtain ⟨w3, hw3⟩ : ∃ W, W = ((w2.setCell ⟨wr.heap.size, 0, none⟩ (.bool r1g)).setCell ⟨wr.heap.size, 1, none⟩ (.string r1n)).setCell ⟨wr.heap.size, 2, none⟩ (.string r1d) := ⟨_, rfl⟩; rw [← hw3]; have hx3 : Hid (B3 w3 wr.heap.size r1g r1n r1d) := (by rw [hw3]; exact ((hx2.out.set0 r1g).set1 r1n).set2 r1d); have hB3 : Hid (Below w5.heap.size w5 w3) := (by rw [hw3]; exact ((hB2.out.setCell hwz.out _).setCell hwz.out _).setCell hwz.out _); have hC3 : Hid (Below wr.heap.size wr w3) := (by rw [hw3]; exact ((hC2.out.setCell (Nat.le_refl _) _).setCell (Nat.le_refl _) _).setCell (Nat.le_refl _) _); clear hx2 y1 y2 y3 y4 y5 y6 y7)
          clear hw3 hB2 hC2 hBe hBd hBa hCe hCd hxd hwz j0 j1 ka HO p1 p2 p3 q1 q2 q3
          obtain ⟨x1, x2, x3, x4, x5, x6⟩ := hx3.out.facts
          have x7 := hx3.out.lt
          clear hC3 hx3
          go_wp2
          go_ret
          exact ⟨rfl, hB5.out.trans (hB3.out.mono hB5.out.size)⟩
          )
    · obtain rfl : y = n := by omega
      have hAll := Lib.hid (hcomb.out hOk.out)
      obtain ⟨A8, c8, rfl, m8⟩ := inRow_of_own hO.out
      replace m8 : Hid (InRow wr A8 (outL y fun i => rhs lb i + rhs lc i)) := m8
      have hB6 := Lib.hid (hB5.out.trans (hBw.out.mono hB5.out.size))
      have s16 := Lib.hid (s15.out.below hBw.out (Nat.le_refl _))
      have s26 := Lib.hid (s2.out.below hBw.out (Nat.le_refl _))
      clear hcomb s15 s2 hmb5 hmc5 hmb hmc' hlt hO
      go_wp2_with fail
      refine (ks3.out _ A8 c8 hB6.out (hE.out.below hB6.out) m8.out hOk.out).mono ?_
      rintro e w7 ⟨⟨q3, d3, rfl, s3⟩, hb⟩
      have hB7 := Lib.hid (hB6.out.trans (hb.mono hB6.out.size))
      have s17 := Lib.hid (s16.out.below hb (Nat.le_refl _))
      have s27 := Lib.hid (s26.out.below hb (Nat.le_refl _))
      replace s3 := Lib.hid s3
      clear hb s16 s26 m8 hB6 ks3 hOk
      rcases hAll.out with ⟨rfl, rfl, rfl, l1, l2, hx3⟩ | ⟨e1, e2, e3, hor⟩
      · have hl3 : xs3.length = y := by rw [hx3, outL_length]
        rw [l1, l2, hl3]
        have hl1' := Lib.hid l1
        have hl2' := Lib.hid l2
        replace hx3 := Lib.hid hx3
        have hE7 := Lib.hid (hE.out.below hB7.out)
        clear hAll l1 l2 hl3 hE
        obtain ⟨n, hn⟩ : ∃ n, n = y := ⟨_, rfl⟩
        rw [← hn] at hx3 hl1' hl2' h8 ⊢
        clear hn hBw hB5 hE5 hlb' hlc' hy
        go_wp2
        go_loopw [9, 19] (fun v i wz => ∃ y : Nat, y ≤ n ∧ i = .int .i64 (y : Int) ∧ Hid (wz.ownsRow w7.heap.size 31 3 v y (rowL y fun i => rq (rhs xs1 i + rhs xs2 i))) ∧ Hid (∀ i, i < y → OkQ (rhs xs1 i + rhs xs2 i)) ∧ Hid (Below w7.heap.size w7 wz)) (fun _ i _ => n - (intOf i).toNat)
        case atStart => exact ⟨0, Nat.zero_le _, rfl, World.ownsRow_nil _ _ _ _, fun i h => absurd h (by omega), Below.refl _ _⟩
        case round =>
          obtain ⟨y, hy, rfl, hO, hOk, hBw⟩ := hrel
          by_cases hlt : y < n
          · clear s3 hx3
            have hyx : y < xs1.length := by rw [hl1'.out]; exact hlt
            have hyy : y < xs2.length := by rw [hl2'.out]; exact hlt
            obtain ⟨bx, ox, hpx, hbx, p1, p2, p3⟩ := s17.out.at hyx
            obtain ⟨by', oy, hpy, hby, q1, q2, q3⟩ := s27.out.at hyy
            obtain rfl := hpx
            obtain rfl := hpy
            obtain ⟨r1, E, ka, hcase⟩ := addR_step xs1[y] xs2[y] (zxs1.out _ (List.getElem_mem hyx)) (zxs2.out _ (List.getElem_mem hyy))
            have hr1 : rhs xs1 y = vq xs1[y] := by unfold rhs; rw [getD_at hyx]
            have hr2 : rhs xs2 y = vq xs2[y] := by unfold rhs; rw [getD_at hyy]
            rw [← hr1, ← hr2] at hcase
            obtain ⟨rx, hrx⟩ : ∃ x, x = xs1[y] := ⟨_, rfl⟩
            obtain ⟨ry, hry⟩ : ∃ x, x = xs2[y] := ⟨_, rfl⟩
            rw [← hrx] at p1 p2 p3 ka
            rw [← hry] at q1 q2 q3 ka
            obtain ⟨g1, n1, d1⟩ := rx
            obtain ⟨g2, n2, d2⟩ := ry
            obtain ⟨r1g, r1n, r1d⟩ := r1
            have HO : Hid (∀ W, Below w7.heap.size w7 W → W.cell? ⟨bx, ox + y * 3, none⟩ = some (.bool g1) ∧ W.cell? ⟨bx, ox + y * 3 + 1, none⟩ = some (.string n1) ∧ W.cell? ⟨bx, ox + y * 3 + 2, none⟩ = some (.string d1) ∧ W.cell? ⟨by', oy + y * 3, none⟩ = some (.bool g2) ∧ W.cell? ⟨by', oy + y * 3 + 1, none⟩ = some (.string n2) ∧ W.cell? ⟨by', oy + y * 3 + 2, none⟩ = some (.string d2)) := fun W h =>
              ⟨(h.cell (p := ⟨bx, _, none⟩) hbx).trans p1, (h.cell (p := ⟨bx, _, none⟩) hbx).trans p2, (h.cell (p := ⟨bx, _, none⟩) hbx).trans p3, (h.cell (p := ⟨by', _, none⟩) hby).trans q1, (h.cell (p := ⟨by', _, none⟩) hby).trans q2, (h.cell (p := ⟨by', _, none⟩) hby).trans q3⟩
            clear p1 p2 p3 q1 q2 q3 hrx hry hr1 hr2
            obtain ⟨p1, p2, p3, q1, q2, q3⟩ := HO.out _ hBw.out
            replace ka : Hid (∀ w, Env w → Calls Tryz.prog 22 #[.agg #[.bool g1, .string n1, .string d1], .agg #[.bool g2, .string n2, .string d2]] w fun e w' => e = .returned (.tuple #[.agg #[.bool r1g, .string r1n, .string r1d], .int .i64 E]) ∧ Below w.heap.size w w') := ka
            have j0 : (0 : Int) ≤ (y : Int) := by omega
            have j1 : (y : Int) < (n : Int) := by omega
            have hBa : Hid (Below w7.heap.size w7 (wr.alloc (.cells #[.bool false, .string ⟨#[]⟩, .string ⟨#[]⟩] 31))) := hBw.out.alloc hBw.out.size _
            have hBd : Hid (Below w7.heap.size w7 (wr.alloc (.cells #[.bool false, .string ⟨#[]⟩, .string ⟨#[]⟩] 31)).drew) := hBa.out.drew
            have hBe : Hid (Below w7.heap.size w7 wr.drew) := hBw.out.drew
            have hCd : Hid (Below wr.heap.size wr (wr.alloc (.cells #[.bool false, .string ⟨#[]⟩, .string ⟨#[]⟩] 31)).drew) := ((Below.refl _ wr).alloc (Nat.le_refl _) _).drew
            have hCe : Hid (Below wr.heap.size wr wr.drew) := (Below.refl _ wr).drew
            have hxd : Hid (B3 (wr.alloc (.cells #[.bool false, .string ⟨#[]⟩, .string ⟨#[]⟩] 31)).drew wr.heap.size false ⟨#[]⟩ ⟨#[]⟩) := B3.new wr _ _ _
            have hwz : Hid (w7.heap.size ≤ wr.heap.size) := hBw.out.size
            rcases hcase with ⟨rfl, hr, hok⟩ | rfl | rfl
            · have hmore : Hid ((rowL y fun i => rq (rhs xs1 i + rhs xs2 i)) ++ rawL (r1g, r1n, r1d) = rowL (y + 1) fun i => rq (rhs xs1 i + rhs xs2 i)) := by
                show _ = _
                rw [rowL_succ, hr]
              have hok2 : Hid (∀ i, i < y + 1 → OkQ (rhs xs1 i + rhs xs2 i)) := fun i hi => by
                by_cases e : i = y
                · rw [e]; exact hok
                · exact hOk.out i (by omega)
              clear hr hok
              go_wp2_with fail
              go_region_held3 (fun w' => w'.cell? ⟨bx, ox + y * 3, none⟩ = some (.bool g1) ∧ w'.cell? ⟨bx, ox + y * 3 + 1, none⟩ = some (.string n1) ∧ w'.cell? ⟨bx, ox + y * 3 + 2, none⟩ = some (.string d1) ∧ w'.cell? ⟨by', oy + y * 3, none⟩ = some (.bool g2) ∧ w'.cell? ⟨by', oy + y * 3 + 1, none⟩ = some (.string n2) ∧ w'.cell? ⟨by', oy + y * 3 + 2, none⟩ = some (.string d2)) (first | (with_reducible exact HO.out _ hBe.out) | (with_reducible exact HO.out _ hBd.out) | (with_reducible exact HO.out _ hBw.out) | (with_reducible exact HO.out _ hBa.out) | (with_reducible exact HO.out _ hB2.out) | (with_reducible exact HO.out _ (hB2.out.alloc hB2.out.size _)) | (with_reducible exact HO.out _ (((hB2.out.setCell hwz.out _).setCell hwz.out _).setCell hwz.out _)) | go_keep)
                (first
                  | (go_at_call 22; refine (ka.out _ ?_).mono ?_; (with_reducible exact hE7.out.below hBd.out); rintro e w2 ⟨rfl, hb2⟩; have hx2 := Lib.hid (hxd.out.below hb2); have hB2 := Lib.hid (hBd.out.trans (hb2.mono hBd.out.size)); have hC2 := Lib.hid (hCd.out.trans (hb2.mono hCd.out.size)); obtain ⟨y1, y2, y3, y4, y5, y6⟩ := hx2.out.facts; have y7 := hx2.out.lt; clear hb2)
                  | (go_at_call 22; refine (ka.out _ ?_).mono ?_; (with_reducible exact hE7.out.below hBe.out); rintro e w2 ⟨rfl, hb2⟩; have hB2 := Lib.hid (hBe.out.trans (hb2.mono hBe.out.size)); have hC2 := Lib.hid (hCe.out.trans (hb2.mono hCe.out.size)); clear hb2))
              all_goals (
                first
                  | (obtain ⟨w3, hw3⟩ : ∃ W, W = w2.alloc (.cells #[.bool r1g, .string r1n, .string r1d] 31) := ⟨_, rfl⟩; rw [← hw3]; have hx3 : Hid (B3 w3 w2.heap.size r1g r1n r1d) := (by rw [hw3]; exact B3.new w2 _ _ _); have hB3 : Hid (Below w7.heap.size w7 w3) := (by rw [hw3]; exact hB2.out.alloc hB2.out.size _); have hC3 : Hid (Below wr.heap.size wr w3) := (by rw [hw3]; exact hC2.out.alloc hC2.out.size _))
                  | (obtain ⟨w3, hw3⟩ : ∃ W, W = ((w2.setCell ⟨wr.heap.size, 0, none⟩ (.bool r1g)).setCell ⟨wr.heap.size, 1, none⟩ (.string r1n)).setCell ⟨wr.heap.size, 2, none⟩ (.string r1d) := ⟨_, rfl⟩; rw [← hw3]; have hx3 : Hid (B3 w3 wr.heap.size r1g r1n r1d) := (by rw [hw3]; exact ((hx2.out.set0 r1g).set1 r1n).set2 r1d); have hB3 : Hid (Below w7.heap.size w7 w3) := (by rw [hw3]; exact ((hB2.out.setCell hwz.out _).setCell hwz.out _).setCell hwz.out _); have hC3 : Hid (Below wr.heap.size wr w3) := (by rw [hw3]; exact ((hC2.out.setCell (Nat.le_refl _) _).setCell (Nat.le_refl _) _).setCell (Nat.le_refl _) _); clear hx2 y1 y2 y3 y4 y5 y6 y7)
                clear hw3 hB2 hC2 hBe hBd hBa hCe hCd hxd hwz j0 j1 ka HO p1 p2 p3 q1 q2 q3
                obtain ⟨x1, x2, x3, x4, x5, x6⟩ := hx3.out.facts
                have x7 := hx3.out.lt
                have hO3 := Lib.hid (own_below hO.out hC3.out)
                have hsz3 := hB3.out.size
                clear hC3 hx3
                go_wp2_with (at_builtin; refine wpList_append_own _ rfl _ _ 23 rfl w7.heap.size 31 i0 (.agg #[.bool false, .string ⟨#[]⟩, .string ⟨#[]⟩]) 3 40 Tryz.underlying23 hi0.out hz0.out hz1.out hz2.out rfl (by decide) u9 y (rowL y fun i => rq (rhs xs1 i + rhs xs2 i)) rfl (hO3.out.alloc _) ⟨w3.heap.size, 0, none⟩ 1 1 (rawL (r1g, r1n, r1d)) rfl rfl (raw_new _ _ _ _ _) (raw_cell _) (by unfold maxLen; omega) (by omega) (by simp; omega) ?_; intro v9 w9 ho9 hg9 _; have hB9 : Hid (Below w7.heap.size w7 w9) := ((hB3.out.alloc hsz3 _).grown hg9 (by simp; omega) (fun b e => (hO3.out.lt b e).1)); have hO9 : Hid (w9.ownsRow w7.heap.size 31 3 v9 (y + 1) (rowL (y + 1) fun i => rq (rhs xs1 i + rhs xs2 i))) := (by rw [← hmore.out]; exact ho9); clear ho9 hg9)
                exact ⟨⟨y + 1, by omega, by go_num, hO9, hok2, hB9⟩, by simp only [intOf]; omega⟩
                )
            · skip
              go_wp2_with fail
              go_region_held3 (fun w' => w'.cell? ⟨bx, ox + y * 3, none⟩ = some (.bool g1) ∧ w'.cell? ⟨bx, ox + y * 3 + 1, none⟩ = some (.string n1) ∧ w'.cell? ⟨bx, ox + y * 3 + 2, none⟩ = some (.string d1) ∧ w'.cell? ⟨by', oy + y * 3, none⟩ = some (.bool g2) ∧ w'.cell? ⟨by', oy + y * 3 + 1, none⟩ = some (.string n2) ∧ w'.cell? ⟨by', oy + y * 3 + 2, none⟩ = some (.string d2)) (first | (with_reducible exact HO.out _ hBe.out) | (with_reducible exact HO.out _ hBd.out) | (with_reducible exact HO.out _ hBw.out) | (with_reducible exact HO.out _ hBa.out) | (with_reducible exact HO.out _ hB2.out) | (with_reducible exact HO.out _ (hB2.out.alloc hB2.out.size _)) | (with_reducible exact HO.out _ (((hB2.out.setCell hwz.out _).setCell hwz.out _).setCell hwz.out _)) | go_keep)
                (first
                  | (go_at_call 22; refine (ka.out _ ?_).mono ?_; (with_reducible exact hE7.out.below hBd.out); rintro e w2 ⟨rfl, hb2⟩; have hx2 := Lib.hid (hxd.out.below hb2); have hB2 := Lib.hid (hBd.out.trans (hb2.mono hBd.out.size)); have hC2 := Lib.hid (hCd.out.trans (hb2.mono hCd.out.size)); obtain ⟨y1, y2, y3, y4, y5, y6⟩ := hx2.out.facts; have y7 := hx2.out.lt; clear hb2)
                  | (go_at_call 22; refine (ka.out _ ?_).mono ?_; (with_reducible exact hE7.out.below hBe.out); rintro e w2 ⟨rfl, hb2⟩; have hB2 := Lib.hid (hBe.out.trans (hb2.mono hBe.out.size)); have hC2 := Lib.hid (hCe.out.trans (hb2.mono hCe.out.size)); clear hb2))
              all_goals (
                first
                  | (obtain ⟨w3, hw3⟩ : ∃ W, W = w2.alloc (.cells #[.bool r1g, .string r1n, .string r1d] 31) := ⟨_, rfl⟩; rw [← hw3]; have hx3 : Hid (B3 w3 w2.heap.size r1g r1n r1d) := (by rw [hw3]; exact B3.new w2 _ _ _); have hB3 : Hid (Below w7.heap.size w7 w3) := (by rw [hw3]; exact hB2.out.alloc hB2.out.size _); have hC3 : Hid (Below wr.heap.size wr w3) := (by rw [hw3]; exact hC2.out.alloc hC2.out.size _))
                  | (obtain ⟨w3, hw3⟩ : ∃ W, W = ((w2.setCell ⟨wr.heap.size, 0, none⟩ (.bool r1g)).setCell ⟨wr.heap.size, 1, none⟩ (.string r1n)).setCell ⟨wr.heap.size, 2, none⟩ (.string r1d) := ⟨_, rfl⟩; rw [← hw3]; have hx3 : Hid (B3 w3 wr.heap.size r1g r1n r1d) := (by rw [hw3]; exact ((hx2.out.set0 r1g).set1 r1n).set2 r1d); have hB3 : Hid (Below w7.heap.size w7 w3) := (by rw [hw3]; exact ((hB2.out.setCell hwz.out _).setCell hwz.out _).setCell hwz.out _); have hC3 : Hid (Below wr.heap.size wr w3) := (by rw [hw3]; exact ((hC2.out.setCell (Nat.le_refl _) _).setCell (Nat.le_refl _) _).setCell (Nat.le_refl _) _); clear hx2 y1 y2 y3 y4 y5 y6 y7)
                clear hw3 hB2 hC2 hBe hBd hBa hCe hCd hxd hwz j0 j1 ka HO p1 p2 p3 q1 q2 q3
                obtain ⟨x1, x2, x3, x4, x5, x6⟩ := hx3.out.facts
                have x7 := hx3.out.lt
                clear hC3 hx3
                go_wp2
                go_ret
                exact ⟨rfl, hB7.out.trans (hB3.out.mono hB7.out.size)⟩
                )
            · skip
              go_wp2_with fail
              go_region_held3 (fun w' => w'.cell? ⟨bx, ox + y * 3, none⟩ = some (.bool g1) ∧ w'.cell? ⟨bx, ox + y * 3 + 1, none⟩ = some (.string n1) ∧ w'.cell? ⟨bx, ox + y * 3 + 2, none⟩ = some (.string d1) ∧ w'.cell? ⟨by', oy + y * 3, none⟩ = some (.bool g2) ∧ w'.cell? ⟨by', oy + y * 3 + 1, none⟩ = some (.string n2) ∧ w'.cell? ⟨by', oy + y * 3 + 2, none⟩ = some (.string d2)) (first | (with_reducible exact HO.out _ hBe.out) | (with_reducible exact HO.out _ hBd.out) | (with_reducible exact HO.out _ hBw.out) | (with_reducible exact HO.out _ hBa.out) | (with_reducible exact HO.out _ hB2.out) | (with_reducible exact HO.out _ (hB2.out.alloc hB2.out.size _)) | (with_reducible exact HO.out _ (((hB2.out.setCell hwz.out _).setCell hwz.out _).setCell hwz.out _)) | go_keep)
                (first
                  | (go_at_call 22; refine (ka.out _ ?_).mono ?_; (with_reducible exact hE7.out.below hBd.out); rintro e w2 ⟨rfl, hb2⟩; have hx2 := Lib.hid (hxd.out.below hb2); have hB2 := Lib.hid (hBd.out.trans (hb2.mono hBd.out.size)); have hC2 := Lib.hid (hCd.out.trans (hb2.mono hCd.out.size)); obtain ⟨y1, y2, y3, y4, y5, y6⟩ := hx2.out.facts; have y7 := hx2.out.lt; clear hb2)
                  | (go_at_call 22; refine (ka.out _ ?_).mono ?_; (with_reducible exact hE7.out.below hBe.out); rintro e w2 ⟨rfl, hb2⟩; have hB2 := Lib.hid (hBe.out.trans (hb2.mono hBe.out.size)); have hC2 := Lib.hid (hCe.out.trans (hb2.mono hCe.out.size)); clear hb2))
              all_goals (
                first
                  | (obtain ⟨w3, hw3⟩ : ∃ W, W = w2.alloc (.cells #[.bool r1g, .string r1n, .string r1d] 31) := ⟨_, rfl⟩; rw [← hw3]; have hx3 : Hid (B3 w3 w2.heap.size r1g r1n r1d) := (by rw [hw3]; exact B3.new w2 _ _ _); have hB3 : Hid (Below w7.heap.size w7 w3) := (by rw [hw3]; exact hB2.out.alloc hB2.out.size _); have hC3 : Hid (Below wr.heap.size wr w3) := (by rw [hw3]; exact hC2.out.alloc hC2.out.size _))
                  | (obtain ⟨w3, hw3⟩ : ∃ W, W = ((w2.setCell ⟨wr.heap.size, 0, none⟩ (.bool r1g)).setCell ⟨wr.heap.size, 1, none⟩ (.string r1n)).setCell ⟨wr.heap.size, 2, none⟩ (.string r1d) := ⟨_, rfl⟩; rw [← hw3]; have hx3 : Hid (B3 w3 wr.heap.size r1g r1n r1d) := (by rw [hw3]; exact ((hx2.out.set0 r1g).set1 r1n).set2 r1d); have hB3 : Hid (Below w7.heap.size w7 w3) := (by rw [hw3]; exact ((hB2.out.setCell hwz.out _).setCell hwz.out _).setCell hwz.out _); have hC3 : Hid (Below wr.heap.size wr w3) := (by rw [hw3]; exact ((hC2.out.setCell (Nat.le_refl _) _).setCell (Nat.le_refl _) _).setCell (Nat.le_refl _) _); clear hx2 y1 y2 y3 y4 y5 y6 y7)
                clear hw3 hB2 hC2 hBe hBd hBa hCe hCd hxd hwz j0 j1 ka HO p1 p2 p3 q1 q2 q3
                obtain ⟨x1, x2, x3, x4, x5, x6⟩ := hx3.out.facts
                have x7 := hx3.out.lt
                clear hC3 hx3
                go_wp2
                go_ret
                exact ⟨rfl, hB7.out.trans (hB3.out.mono hB7.out.size)⟩
                )
          · obtain rfl : y = n := by omega
            obtain ⟨A9, c9, rfl, m9⟩ := inRow_of_own hO.out
            have m9' : InRow wr A9 xs3 := by rw [hx3.out]; exact m9
            have hl3 : xs3.length = y := by rw [hx3.out, outL_length]
            have kq := Same_eq q3 A9 d3 c9 xs3 wr (s3.out.below hBw.out (Nat.le_refl _)) m9' (by omega)
            rw [hl3] at kq
            have hB9 := Lib.hid (hB7.out.trans (hBw.out.mono hB7.out.size))
            replace kq := Lib.hid kq
            clear m9 m9' hl3 hO hx3
            go_wp2_with fail
            refine kq.out.mono ?_
            rintro e w8 ⟨rfl, hb⟩
            have hB8 := Lib.hid (hB9.out.trans (hb.mono hB9.out.size))
            clear hb
            go_wp2
            go_ret
            exact ⟨rfl, hB8.out⟩
      · clear hAll s17 s27 s3 hBw hB5 hE5 hlb' hlc' hE
        rcases e1 with rfl | rfl | rfl <;> rcases e2 with rfl | rfl | rfl <;> rcases e3 with rfl | rfl | rfl
        all_goals first
          | (exfalso; omega)
          | (clear hor; go_wp2; go_ret; exact ⟨rfl, hB7.out⟩)
end Nt
end Go.Proofs.YtjjlnahipiinfaaGreatDoor

/- LinearDepends: dependent rows. -/
import Derived.Test.YtjjlnahipiinfaaGreatDoorLinD
import Derived.Deep.RegionHeld3
namespace Go.Proofs.YtjjlnahipiinfaaGreatDoor
open Go.RowKit Go.Shelf
namespace Nt

theorem number_z (W : World) (hE : Env W) : Calls Tryz.prog 17 #[.int .i64 0] W fun e w' => e = .returned (.agg #[.bool (rq 0).1, .string (rq 0).2.1, .string (rq 0).2.2]) ∧ Below W.heap.size W w' :=
  number_any 0 (by omega) (by omega) W hE
/-- The state of the loop that lays a row of zeros. -/
def ZRow (W : World) (B n i : Nat) (la : List RowH) (g cap z : Nat) : Prop :=
  ∃ A c, W.ownsRow B 23 1 (.slice (some ⟨g, 0, none⟩) n cap) n ((la.map hdr).set i (.slice A z c)) ∧ W.ownsRow B 31 3 (.slice A z c) z (rowL z fun _ => rq 0) ∧ Apart (.slice A z c) (.slice (some ⟨g, 0, none⟩) n cap)
set_option maxRecDepth 100000 in
set_option maxHeartbeats 16000000 in
theorem ldepends_any (kh : HeadC) (Aa Ab : Option Addr) (ca cb : Nat) (la : List RowH) (lb : List Raw) (x2 x3 : Int) (h20 : 0 ≤ x2) (h21 : x2 ≤ 255) (h30 : 0 ≤ x3) (h31 : x3 ≤ 255) (w : World) (hE : Env w) (hs : SysIn w Aa Ab la lb) :
    Calls Tryz.prog 5 #[.slice Aa la.length ca, .slice Ab lb.length cb, .int .u8 x2, .int .u8 x3] w fun e w' => e = .returned (.bool true) ∧ Below w.heap.size w w' := by
  have kf := fun W (h : Below w.heap.size w W) (hW : Env W) => square_any Aa Ab ca cb la lb W hW (hs.below h)
  have nb := hs.nb
  have na := hs.na
  replace kh := Lib.hid kh
  cases h0 : squareB (rowsOf la) lb with
  | false =>
    rw [h0] at kf
    replace kf := Lib.hid kf
    replace hE := Lib.hid hE
    clear h0 hs
    go_enter Tryz.func5, Tryz.ntmps5
    go_wp2_with fail
    refine (kh.out _ hE.out).mono ?_
    rintro e w1 ⟨rfl, hb1⟩
    replace hb1 := Lib.hid hb1
    go_wp2_with fail
    refine (kf.out _ hb1.out (hE.out.below hb1.out)).mono ?_
    rintro e w2 ⟨rfl, hb2⟩
    have hB2 := Lib.hid (hb1.out.trans (hb2.mono hb1.out.size))
    clear hb2
    go_wp2
    go_ret
    exact ⟨rfl, hB2.out⟩
  | true =>
  rw [h0] at kf
  obtain ⟨_, hsq⟩ := square_sq h0
  obtain ⟨n, hn⟩ : ∃ n, n = lb.length := ⟨_, rfl⟩
  rw [← hn] at hsq
  have hla : la.length = n := by have := hsq.1; rwa [rowsOf_length] at this
  have h8 : n ≤ 8 := hsq.2.2.1
  rw [hla, ← hn] at kf ⊢
  replace kf := Lib.hid kf
  by_cases hn0 : n = 0
  · replace hE := Lib.hid hE
    have h00 : n ≤ 0 := by omega
    clear h0 hs hsq hla nb na h8 hn
    subst hn0
    go_enter Tryz.func5, Tryz.ntmps5
    go_wp2_with fail
    refine (kh.out _ hE.out).mono ?_
    rintro e w1 ⟨rfl, hb1⟩
    replace hb1 := Lib.hid hb1
    go_wp2_with fail
    refine (kf.out _ hb1.out (hE.out.below hb1.out)).mono ?_
    rintro e w2 ⟨rfl, hb2⟩
    have hB2 := Lib.hid (hb1.out.trans (hb2.mono hb1.out.size))
    clear hb2
    go_wp2
    go_ret
    exact ⟨rfl, hB2.out⟩
  have hn1 : 0 < n := by omega
  have hrl : Hid (∀ i (h : i < la.length), la[i].2.2.length = n) := fun i hi => by
    have hi2 : i < (rowsOf la).length := by rw [rowsOf_length]; exact hi
    have := (matB_iff.1 hsq.2.2.2.2 i hi2).1
    rwa [rowsOf_get la i hi] at this
  obtain ⟨ba, oa, rfl, hba, hca⟩ := hs.ma (by omega)
  have hma : Hid (∀ W, Below w.heap.size w W → InMat W (some ⟨ba, oa, none⟩) la) := fun W h => hs.ma.below h (Nat.le_refl _)
  have hmb : Hid (∀ W, Below w.heap.size w W → InRow W Ab lb) := fun W h => hs.mb.below h (Nat.le_refl _)
  have ksol : Hid (∀ (L : List RowH) W p c er, Below w.heap.size w W → Env W → InMat W p L → L.length = n → (∀ x ∈ L, x.2.2.length ≤ 140737488355328 ∧ ∀ y ∈ x.2.2, rawSz y) → solveB (rowsOf L) lb = .error er → Calls Tryz.prog 12 #[.slice p n c, .slice Ab n cb] W fun e w' => e = .returned (.tuple #[.slice none 0 0, .int .i64 er]) ∧ Below W.heap.size W w') := fun L W p c er hW hEW hp hl hz he => by
    have k := Solve_er p Ab c cb L lb er W hEW ⟨hp, hmb.out W hW, by omega, nb, hz, hs.zb⟩ he
    rw [hl, ← hn] at k
    exact k
  have hdep := fun i k (hi : i < n) (hk : k < n) (hne : i ≠ k) => dep_eq hsq hi hk hne
  have hdz := fun i (hi : i < n) => dep_zero hsq hi
  have hza := Lib.hid hs.za
  obtain ⟨i, hi⟩ : ∃ i : Nat, x2 % (n : Int) = (i : Int) := ⟨(x2 % (n : Int)).toNat, (Int.toNat_of_nonneg (Int.emod_nonneg _ (by omega))).symm⟩
  obtain ⟨k, hk⟩ : ∃ k : Nat, x3 % (n : Int) = (k : Int) := ⟨(x3 % (n : Int)).toNat, (Int.toNat_of_nonneg (Int.emod_nonneg _ (by omega))).symm⟩
  have hin : i < n := by have := Int.emod_lt_of_pos x2 (show (0 : Int) < (n : Int) by omega); omega
  have hkn : k < n := by have := Int.emod_lt_of_pos x3 (show (0 : Int) < (n : Int) by omega); omega
  have hkl : k < la.length := by omega
  have hrk := hrl.out k hkl
  obtain ⟨rk, hrke⟩ : ∃ x, x = la[k] := ⟨_, rfl⟩
  have hck : Hid (∀ W, Below w.heap.size w W → W.cell? ⟨ba, oa + k, none⟩ = some (.slice rk.1 rk.2.2.length rk.2.1)) := fun W h => by
    rw [hrke]; exact (h.cell (p := ⟨ba, _, none⟩) hba).trans (hca k hkl).1
  rw [← hrke] at hrk
  have hset : Hid (rowsOf (la.set i rk) = (rowsOf la).set i ((rowsOf la).getD k [])) := by
    show _ = _
    rw [rowsOf_set, rowsOf_getD la hkl, hrke]
  have hmem : Hid (rk ∈ la) := by show rk ∈ la; rw [hrke]; exact List.getElem_mem hkl
  obtain ⟨ra, rc, rl⟩ := rk
  replace hrk : rl.length = n := hrk
  replace hck : Hid (∀ W, Below w.heap.size w W → W.cell? ⟨ba, oa + k, none⟩ = some (.slice ra n rc)) := fun W h => by
    have := hck.out W h
    rw [← hrk]; exact this
  obtain ⟨ri, hri⟩ : ∃ x, x = hdr (la.getD i rowD0) := ⟨_, rfl⟩
  have hgi : Hid ((la.map hdr)[i]? = some ri) := by
    show _ = _
    rw [hri, List.getElem?_map, List.getElem?_eq_getElem (by omega), getD_at (by omega)]
    rfl
  have hhdr : Hid ((la.map hdr).set i (.slice ra n rc) = (la.set i (ra, rc, rl)).map hdr) := by
    show _ = _
    rw [List.map_set]
    congr 1
    unfold hdr
    rw [hrk]
  have hlal := Lib.hid hla
  have hrk' := Lib.hid hrk
  replace hE := Lib.hid hE
  have s0 : (0 : Int) ≤ x2 % (n : Int) := by omega
  have s1 : x2 % (n : Int) < (n : Int) := by omega
  have s2 : (0 : Int) ≤ x3 % (n : Int) := by omega
  have s3 : x3 % (n : Int) < (n : Int) := by omega
  have s4 : (x2 % (n : Int)).toNat = i := by omega
  have s5 : (x3 % (n : Int)).toNat = k := by omega
  obtain ⟨i0, hi0, hzz⟩ := Option.map_eq_some_iff.1 infoQ
  simp only [Prod.mk.injEq] at hzz
  obtain ⟨hz0, hz1, hz2⟩ := hzz
  obtain ⟨i1, hi1, hyy⟩ := Option.map_eq_some_iff.1 infoRS
  simp only [Prod.mk.injEq] at hyy
  obtain ⟨hy0, hy1, hy2⟩ := hyy
  replace hi0 := Lib.hid hi0
  replace hz0 := Lib.hid hz0
  replace hz1 := Lib.hid hz1
  replace hz2 := Lib.hid hz2
  replace hi1 := Lib.hid hi1
  replace hy0 := Lib.hid hy0
  replace hy1 := Lib.hid hy1
  replace hy2 := Lib.hid hy2
  clear h0 hs hsq hn hla nb na hn0 hca hrke hrk hri hrl hkl
  replace hdep := Lib.hid hdep
  replace hdz := Lib.hid hdz
  by_cases hik : i = k
  · subst hik
    clear hset hmem hhdr hdep hkn
    have t1 : (x2 % (n : Int) == x3 % (n : Int)) = true := by rw [beq_iff_eq]; omega
    clear hi hk
    go_enter Tryz.func5, Tryz.ntmps5
    go_wp2_with fail
    refine (kh.out _ hE.out).mono ?_
    rintro e w1 ⟨rfl, hb1⟩
    replace hb1 := Lib.hid hb1
    go_wp2_with fail
    refine (kf.out _ hb1.out (hE.out.below hb1.out)).mono ?_
    rintro e w2 ⟨rfl, hb2⟩
    have hB2 := Lib.hid (hb1.out.trans (hb2.mono hb1.out.size))
    clear hb2
    have hszz := hB2.out.size
    have hcells : Hid (∀ j u, (la.map hdr)[j]? = some u → (w2.alloc (.cells #[] 23)).cell? ((⟨ba, oa, none⟩ : Addr).add j) = some u) := hdr_cells (hma.out _ (bal2 hB2.out _))
    have hone : Hid (∀ u ∈ la.map hdr, u.oneCell' = true) := hdr_one la
    have hlen : Hid ((la.map hdr).length = n * 1) := by show _ = _; rw [List.length_map, hlal.out, Nat.mul_one]
    go_wp2_with (at_builtin; refine wpList_append_new _ rfl _ _ 22 rfl w.heap.size 23 i1 (.slice none 0 0) 1 24 Tryz.underlying22 hi1.out hy0.out hy1.out hy2.out rfl (by decide) (.slice (some ⟨w2.heap.size, 0, none⟩) 0 0) 0 [] rfl (World.ownsRow_made w2 #[] 0 hszz (by unfold maxLen; omega) rfl) ⟨ba, oa, none⟩ n ca (la.map hdr) rfl hlen.out hcells.out hone.out (by omega) (by unfold maxLen; omega) (by omega) (by simp; omega) ?_; intro v13 wa ho hg hnb; have hBa : Hid (Below w.heap.size w wa) := ((bal2 hB2.out _).grown hg (by simp; omega) (fun b e => by simp only [Value.ownBlock, Option.some.injEq] at e; omega)); replace ho : wa.ownsRow w.heap.size 23 1 v13 n (la.map hdr) := (by have h9 := ho; rw [Nat.zero_add, List.nil_append] at h9; exact h9); obtain ⟨g, cap, rfl, hg1, hg2, hg3, hg4⟩ := own_form ho hn1; have gf := hg3 i; have gc := hg4 i ri hgi.out; have ck := hck.out _ hBa.out; have hge := Nat.ne_of_gt (Nat.lt_of_lt_of_le hba hg1); replace hg3 := Lib.hid hg3; replace hg1 := Lib.hid hg1; replace ho := Lib.hid ho; clear hg hnb hg4 hcells hone hlen)
    have hZ0 : Hid (ZRow ((wa.setCell ⟨g, i, none⟩ (.slice ra n rc)).setCell ⟨g, i, none⟩ (.slice none 0 0)) w.heap.size n i la g cap 0) := ⟨none, 0, by have h := own_set (i := i) (v := (.slice none 0 0)) (own_set (i := i) (v := (.slice ra n rc)) ho.out); rwa [List.set_set] at h, World.ownsRow_nil _ _ _ _, apart_nil' _⟩
    have hB0 : Hid (Below w.heap.size w ((wa.setCell ⟨g, i, none⟩ (.slice ra n rc)).setCell ⟨g, i, none⟩ (.slice none 0 0))) := (hBa.out.setCell hg1.out _).setCell hg1.out _
    clear gf gc ck ho hg3 hBa hB2 hb1 kf hszz hgi hck
    go_loopw [55] (fun c wz => ∃ z : Nat, z ≤ n ∧ c = .int .i64 (z : Int) ∧ Hid (ZRow wz w.heap.size n i la g cap z) ∧ Hid (Below w.heap.size w wz)) (fun c _ => n - (intOf c).toNat)
    case atStart => exact ⟨0, Nat.zero_le _, rfl, hZ0, hB0⟩
    case round =>
      obtain ⟨z, hz, rfl, hZ, hB⟩ := hrel
      obtain ⟨A, c2, h13, hrow, hap⟩ := hZ.out
      have hxs : Hid (((la.map hdr).set i (.slice A z c2))[i]? = some (.slice A z c2)) := by
        show _ = _
        rw [List.getElem?_set_self (by rw [List.length_map, hlal.out]; exact hin)]
      replace h13 := Lib.hid h13
      replace hrow := Lib.hid hrow
      replace hap := Lib.hid hap
      clear hZ hZ0 hB0
      by_cases hlt : z < n
      · go_wp2_with fail
        obtain ⟨_, gl, gf, gc⟩ := own_at h13.out hn1
        replace gf := gf i
        replace gc := gc i _ hxs.out
        have h13d : Hid (wr.drew.ownsRow w.heap.size 23 1 (.slice (some ⟨g, 0, none⟩) n cap) n ((la.map hdr).set i (.slice A z c2))) := h13.out
        have hrowd : Hid (wr.drew.ownsRow w.heap.size 31 3 (.slice A z c2) z (rowL z fun _ => rq 0)) := hrow.out
        have hBd : Hid (Below w.heap.size w wr.drew) := hB.out.drew
        clear h13 hrow hB gl gf gc
        have h13 := h13d
        have hrow := hrowd
        have hB := hBd
        clear h13d hrowd hBd
        obtain ⟨_, gl, gf, gc⟩ := own_at h13.out hn1
        replace gf := gf i
        replace gc := gc i _ hxs.out
        refine wp_region_noPanic ?_
        refine wp_region_held_drew (S := fun _ => True) (by kernel_rfl) trivial (fun _ => ?_)
        refine wpAnyH_take (i := 0) (oi := _) (v := ?_) rfl (by kernel_rfl) (by kernel_rfl) (by kernel_rfl) (fun _ _ _ h => h) (Or.inl ⟨by rfl, ?_⟩) trivial ?_
        rotate_left
        · (intro w hSw; go_simp <;> with_reducible rfl)
        try simp only [Act.put, List.setIfInBounds_toArray]
        refine wpAnyH_take (i := 1) (oi := _) (v := ?_) rfl (by kernel_rfl) (by kernel_rfl) (by kernel_rfl) (fun _ _ _ h => h) (Or.inl ⟨by rfl, ?_⟩) trivial ?_
        rotate_left
        · (intro w hSw; go_simp <;> with_reducible rfl)
        try simp only [Act.put]
        refine wpAnyH_take (i := 2) (oi := _) (v := ?_) rfl (by kernel_rfl) (by kernel_rfl) (by kernel_rfl) (fun _ _ _ h => h) (Or.inl ⟨by rfl, ?_⟩) trivial ?_
        rotate_left
        · (intro w hSw; go_simp <;> with_reducible rfl)
        try simp only [Act.put]
        refine wpAnyH_take (i := 3) (oi := _) (v := ?_) rfl (by kernel_rfl) (by kernel_rfl) (by kernel_rfl) (fun _ _ _ h => h) (Or.inl ⟨by rfl, ?_⟩) trivial ?_
        rotate_left
        · (intro w hSw; go_simp <;> with_reducible rfl)
        try simp only [Act.put]
        refine wpAnyH_take (i := 4) (oi := _) (v := ?_) rfl (by kernel_rfl) (by kernel_rfl) (by kernel_rfl) (fun _ _ _ h => h) (Or.inl ⟨by rfl, ?_⟩) trivial ?_
        rotate_left
        · (intro w hSw; go_simp <;> with_reducible rfl)
        try simp only [Act.put]
        refine wpAnyH_ready (rs := [5, 6]) (by kernel_rfl) (by simp) ?_
        refine AllReadyH.cons (o := _) rfl (fun K hK => ?_) ?_
        · go_simp
          refine hK.out _ _ trivial (fun _ => ?_)
          clear hK K
          try simp only [Act.put, List.setIfInBounds_toArray, List.set_cons_zero, List.set_cons_succ]
          refine wpAnyH_ready (rs := [6]) (by kernel_rfl) (by simp) ?_
          refine AllReadyH.cons (o := _) rfl (fun K hK => ?_) ?_
          · go_simp
            refine (number_z _ (hE.out.below hB.out)).mono ?_
            rintro e w6 ⟨rfl, hb⟩
            replace h13 := Lib.hid (own_below h13.out hb)
            replace hrow := Lib.hid (own_below hrow.out hb)
            replace hB := Lib.hid (hB.out.trans (hb.mono hB.out.size))
            clear hb gl gf gc
            obtain ⟨_, gl, gf, gc⟩ := own_at h13.out hn1
            replace gf := gf i
            replace gc := gc i _ hxs.out
            refine hK.out _ _ trivial (fun _ => ?_)
            clear hK K
            try simp only [Act.put, List.setIfInBounds_toArray, List.set_cons_zero, List.set_cons_succ]
            refine wpAnyH_ready (rs := [7]) (by kernel_rfl) (by simp) ?_
            refine AllReadyH.cons (o := _) rfl (fun K hK => ?_) ?_
            · go_simp
              have hN : Hid (∀ j u, (rawL ((rq 0).1, (rq 0).2.1, (rq 0).2.2))[j]? = some u → (w6.alloc (.cells #[.bool (rq 0).1, .string (rq 0).2.1, .string (rq 0).2.2] 31)).cell? (Addr.add ⟨w6.heap.size, 0, none⟩ j) = some u) := raw_new w6 _ _ _ _
              replace h13 := Lib.hid (h13.out.alloc (.cells #[.bool (rq 0).1, .string (rq 0).2.1, .string (rq 0).2.2] 31))
              replace hrow := Lib.hid (hrow.out.alloc (.cells #[.bool (rq 0).1, .string (rq 0).2.1, .string (rq 0).2.2] 31))
              replace hB := Lib.hid (bal2 hB.out (.cells #[.bool (rq 0).1, .string (rq 0).2.1, .string (rq 0).2.2] 31))
              clear gl gf gc
              obtain ⟨_, gl, gf, gc⟩ := own_at h13.out hn1
              replace gf := gf i
              replace gc := gc i _ hxs.out
              refine hK.out _ _ trivial (fun _ => ?_)
              clear hK K
              try simp only [Act.put, List.setIfInBounds_toArray, List.set_cons_zero, List.set_cons_succ]
              refine wpAnyH_ready (rs := [8]) (by kernel_rfl) (by simp) ?_
              refine AllReadyH.cons (o := _) rfl (fun K hK => ?_) ?_
              · rw [if_pos (by rfl)]
                refine wp_append_new _ _ _ 23 rfl w.heap.size 31 i0 (.agg #[.bool false, .string ⟨#[]⟩, .string ⟨#[]⟩]) 3 40 Tryz.underlying23 hi0.out hz0.out hz1.out hz2.out rfl (by decide) (.slice A z c2) z (rowL z fun _ => rq 0) rfl hrow.out ⟨w6.heap.size, 0, none⟩ 1 1 (rawL ((rq 0).1, (rq 0).2.1, (rq 0).2.2)) rfl rfl hN.out (raw_cell _) (by omega) (by unfold maxLen; omega) (by omega) hB.out.size ?_
                intro v9 w9 ho9 hg9 hn9
                have hap9 := (apart_new h13.out hn9 hap.out.symm).symm
                have h139 := own_keep h13.out hg9 hap.out.symm
                have hB9 := Lib.hid (hB.out.grown hg9 hB.out.size (fun b e => (hrow.out.lt b e).1))
                have ho9 : w9.ownsRow w.heap.size 31 3 v9 (z + 1) (rowL (z + 1) fun _ => rq 0) := by rw [rowL_succ]; exact ho9
                obtain ⟨A9, c9, rfl, _⟩ := inRow_of_own ho9
                replace ho9 := Lib.hid ho9
                replace hap9 := Lib.hid hap9
                replace h139 := Lib.hid h139
                clear hN gl gf gc hg9 hn9 h13 hrow hap hB
                obtain ⟨_, gl, gf, gc⟩ := own_at h139.out hn1
                replace gf := gf i
                replace gc := gc i _ hxs.out
                refine hK.out _ _ trivial (fun _ => ?_)
                clear hK K
                try simp only [Act.put, List.setIfInBounds_toArray]
                refine wpAnyH_ready (rs := [9]) (by kernel_rfl) (by simp) ?_
                refine AllReadyH.cons (o := _) rfl (fun K hK => ?_) ?_
                · go_simp
                  refine hK.out _ _ trivial (fun _ => ?_)
                  clear hK K
                  try simp only [Act.put, List.setIfInBounds_toArray, List.set_cons_zero, List.set_cons_succ]
                  refine wpAnyH_ready (rs := [10]) (by kernel_rfl) (by simp) ?_
                  refine AllReadyH.cons (o := _) rfl (fun K hK => ?_) ?_
                  · go_simp
                    refine hK.out _ _ trivial (fun _ => ?_)
                    clear hK K
                    try simp only [Act.put, List.setIfInBounds_toArray, List.set_cons_zero, List.set_cons_succ]
                    refine wpAnyH_done (by kernel_rfl) ?_ _
                    refine NoPanic.normal ?_
                    have hZ9 : Hid (ZRow (w9.setCell ⟨g, i, none⟩ (.slice A9 (z + 1) c9)) w.heap.size n i la g cap (z + 1)) := ⟨A9, c9, by have h := own_set (i := i) (v := .slice A9 (z + 1) c9) h139.out; rwa [List.set_set] at h, own_far ho9.out (fun e => hap9.out g e rfl), hap9.out⟩
                    have hB10 : Hid (Below w.heap.size w (w9.setCell ⟨g, i, none⟩ (.slice A9 (z + 1) c9))) := hB9.out.setCell hg1.out _
                    clear gl gf gc
                    go_wp2
                    exact ⟨⟨z + 1, by omega, by go_num, hZ9, hB10⟩, by simp only [intOf]; omega⟩
                  · exact AllReadyH.nil
                · exact AllReadyH.nil
              · exact AllReadyH.nil
            exact AllReadyH.nil
          exact AllReadyH.nil
        refine AllReadyH.cons (o := _) rfl (fun K hK => ?_) ?_
        · go_simp
          refine (number_z _ (hE.out.below hB.out)).mono ?_
          rintro e w6 ⟨rfl, hb⟩
          replace h13 := Lib.hid (own_below h13.out hb)
          replace hrow := Lib.hid (own_below hrow.out hb)
          replace hB := Lib.hid (hB.out.trans (hb.mono hB.out.size))
          clear hb gl gf gc
          obtain ⟨_, gl, gf, gc⟩ := own_at h13.out hn1
          replace gf := gf i
          replace gc := gc i _ hxs.out
          refine hK.out _ _ trivial (fun _ => ?_)
          clear hK K
          try simp only [Act.put, List.setIfInBounds_toArray, List.set_cons_zero, List.set_cons_succ]
          refine wpAnyH_ready (rs := [5, 7]) (by kernel_rfl) (by simp) ?_
          refine AllReadyH.cons (o := _) rfl (fun K hK => ?_) ?_
          · go_simp
            refine hK.out _ _ trivial (fun _ => ?_)
            clear hK K
            try simp only [Act.put, List.setIfInBounds_toArray, List.set_cons_zero, List.set_cons_succ]
            refine wpAnyH_ready (rs := [7]) (by kernel_rfl) (by simp) ?_
            refine AllReadyH.cons (o := _) rfl (fun K hK => ?_) ?_
            · go_simp
              have hN : Hid (∀ j u, (rawL ((rq 0).1, (rq 0).2.1, (rq 0).2.2))[j]? = some u → (w6.alloc (.cells #[.bool (rq 0).1, .string (rq 0).2.1, .string (rq 0).2.2] 31)).cell? (Addr.add ⟨w6.heap.size, 0, none⟩ j) = some u) := raw_new w6 _ _ _ _
              replace h13 := Lib.hid (h13.out.alloc (.cells #[.bool (rq 0).1, .string (rq 0).2.1, .string (rq 0).2.2] 31))
              replace hrow := Lib.hid (hrow.out.alloc (.cells #[.bool (rq 0).1, .string (rq 0).2.1, .string (rq 0).2.2] 31))
              replace hB := Lib.hid (bal2 hB.out (.cells #[.bool (rq 0).1, .string (rq 0).2.1, .string (rq 0).2.2] 31))
              clear gl gf gc
              obtain ⟨_, gl, gf, gc⟩ := own_at h13.out hn1
              replace gf := gf i
              replace gc := gc i _ hxs.out
              refine hK.out _ _ trivial (fun _ => ?_)
              clear hK K
              try simp only [Act.put, List.setIfInBounds_toArray, List.set_cons_zero, List.set_cons_succ]
              refine wpAnyH_ready (rs := [8]) (by kernel_rfl) (by simp) ?_
              refine AllReadyH.cons (o := _) rfl (fun K hK => ?_) ?_
              · rw [if_pos (by rfl)]
                refine wp_append_new _ _ _ 23 rfl w.heap.size 31 i0 (.agg #[.bool false, .string ⟨#[]⟩, .string ⟨#[]⟩]) 3 40 Tryz.underlying23 hi0.out hz0.out hz1.out hz2.out rfl (by decide) (.slice A z c2) z (rowL z fun _ => rq 0) rfl hrow.out ⟨w6.heap.size, 0, none⟩ 1 1 (rawL ((rq 0).1, (rq 0).2.1, (rq 0).2.2)) rfl rfl hN.out (raw_cell _) (by omega) (by unfold maxLen; omega) (by omega) hB.out.size ?_
                intro v9 w9 ho9 hg9 hn9
                have hap9 := (apart_new h13.out hn9 hap.out.symm).symm
                have h139 := own_keep h13.out hg9 hap.out.symm
                have hB9 := Lib.hid (hB.out.grown hg9 hB.out.size (fun b e => (hrow.out.lt b e).1))
                have ho9 : w9.ownsRow w.heap.size 31 3 v9 (z + 1) (rowL (z + 1) fun _ => rq 0) := by rw [rowL_succ]; exact ho9
                obtain ⟨A9, c9, rfl, _⟩ := inRow_of_own ho9
                replace ho9 := Lib.hid ho9
                replace hap9 := Lib.hid hap9
                replace h139 := Lib.hid h139
                clear hN gl gf gc hg9 hn9 h13 hrow hap hB
                obtain ⟨_, gl, gf, gc⟩ := own_at h139.out hn1
                replace gf := gf i
                replace gc := gc i _ hxs.out
                refine hK.out _ _ trivial (fun _ => ?_)
                clear hK K
                try simp only [Act.put, List.setIfInBounds_toArray]
                refine wpAnyH_ready (rs := [9]) (by kernel_rfl) (by simp) ?_
                refine AllReadyH.cons (o := _) rfl (fun K hK => ?_) ?_
                · go_simp
                  refine hK.out _ _ trivial (fun _ => ?_)
                  clear hK K
                  try simp only [Act.put, List.setIfInBounds_toArray, List.set_cons_zero, List.set_cons_succ]
                  refine wpAnyH_ready (rs := [10]) (by kernel_rfl) (by simp) ?_
                  refine AllReadyH.cons (o := _) rfl (fun K hK => ?_) ?_
                  · go_simp
                    refine hK.out _ _ trivial (fun _ => ?_)
                    clear hK K
                    try simp only [Act.put, List.setIfInBounds_toArray, List.set_cons_zero, List.set_cons_succ]
                    refine wpAnyH_done (by kernel_rfl) ?_ _
                    refine NoPanic.normal ?_
                    have hZ9 : Hid (ZRow (w9.setCell ⟨g, i, none⟩ (.slice A9 (z + 1) c9)) w.heap.size n i la g cap (z + 1)) := ⟨A9, c9, by have h := own_set (i := i) (v := .slice A9 (z + 1) c9) h139.out; rwa [List.set_set] at h, own_far ho9.out (fun e => hap9.out g e rfl), hap9.out⟩
                    have hB10 : Hid (Below w.heap.size w (w9.setCell ⟨g, i, none⟩ (.slice A9 (z + 1) c9))) := hB9.out.setCell hg1.out _
                    clear gl gf gc
                    go_wp2
                    exact ⟨⟨z + 1, by omega, by go_num, hZ9, hB10⟩, by simp only [intOf]; omega⟩
                  · exact AllReadyH.nil
                · exact AllReadyH.nil
              · exact AllReadyH.nil
            exact AllReadyH.nil
          refine AllReadyH.cons (o := _) rfl (fun K hK => ?_) ?_
          · go_simp
            have hN : Hid (∀ j u, (rawL ((rq 0).1, (rq 0).2.1, (rq 0).2.2))[j]? = some u → (w6.alloc (.cells #[.bool (rq 0).1, .string (rq 0).2.1, .string (rq 0).2.2] 31)).cell? (Addr.add ⟨w6.heap.size, 0, none⟩ j) = some u) := raw_new w6 _ _ _ _
            replace h13 := Lib.hid (h13.out.alloc (.cells #[.bool (rq 0).1, .string (rq 0).2.1, .string (rq 0).2.2] 31))
            replace hrow := Lib.hid (hrow.out.alloc (.cells #[.bool (rq 0).1, .string (rq 0).2.1, .string (rq 0).2.2] 31))
            replace hB := Lib.hid (bal2 hB.out (.cells #[.bool (rq 0).1, .string (rq 0).2.1, .string (rq 0).2.2] 31))
            clear gl gf gc
            obtain ⟨_, gl, gf, gc⟩ := own_at h13.out hn1
            replace gf := gf i
            replace gc := gc i _ hxs.out
            refine hK.out _ _ trivial (fun _ => ?_)
            clear hK K
            try simp only [Act.put, List.setIfInBounds_toArray, List.set_cons_zero, List.set_cons_succ]
            refine wpAnyH_ready (rs := [5]) (by kernel_rfl) (by simp) ?_
            refine AllReadyH.cons (o := _) rfl (fun K hK => ?_) ?_
            · go_simp
              refine hK.out _ _ trivial (fun _ => ?_)
              clear hK K
              try simp only [Act.put, List.setIfInBounds_toArray, List.set_cons_zero, List.set_cons_succ]
              refine wpAnyH_ready (rs := [8]) (by kernel_rfl) (by simp) ?_
              refine AllReadyH.cons (o := _) rfl (fun K hK => ?_) ?_
              · rw [if_pos (by rfl)]
                refine wp_append_new _ _ _ 23 rfl w.heap.size 31 i0 (.agg #[.bool false, .string ⟨#[]⟩, .string ⟨#[]⟩]) 3 40 Tryz.underlying23 hi0.out hz0.out hz1.out hz2.out rfl (by decide) (.slice A z c2) z (rowL z fun _ => rq 0) rfl hrow.out ⟨w6.heap.size, 0, none⟩ 1 1 (rawL ((rq 0).1, (rq 0).2.1, (rq 0).2.2)) rfl rfl hN.out (raw_cell _) (by omega) (by unfold maxLen; omega) (by omega) hB.out.size ?_
                intro v9 w9 ho9 hg9 hn9
                have hap9 := (apart_new h13.out hn9 hap.out.symm).symm
                have h139 := own_keep h13.out hg9 hap.out.symm
                have hB9 := Lib.hid (hB.out.grown hg9 hB.out.size (fun b e => (hrow.out.lt b e).1))
                have ho9 : w9.ownsRow w.heap.size 31 3 v9 (z + 1) (rowL (z + 1) fun _ => rq 0) := by rw [rowL_succ]; exact ho9
                obtain ⟨A9, c9, rfl, _⟩ := inRow_of_own ho9
                replace ho9 := Lib.hid ho9
                replace hap9 := Lib.hid hap9
                replace h139 := Lib.hid h139
                clear hN gl gf gc hg9 hn9 h13 hrow hap hB
                obtain ⟨_, gl, gf, gc⟩ := own_at h139.out hn1
                replace gf := gf i
                replace gc := gc i _ hxs.out
                refine hK.out _ _ trivial (fun _ => ?_)
                clear hK K
                try simp only [Act.put, List.setIfInBounds_toArray]
                refine wpAnyH_ready (rs := [9]) (by kernel_rfl) (by simp) ?_
                refine AllReadyH.cons (o := _) rfl (fun K hK => ?_) ?_
                · go_simp
                  refine hK.out _ _ trivial (fun _ => ?_)
                  clear hK K
                  try simp only [Act.put, List.setIfInBounds_toArray, List.set_cons_zero, List.set_cons_succ]
                  refine wpAnyH_ready (rs := [10]) (by kernel_rfl) (by simp) ?_
                  refine AllReadyH.cons (o := _) rfl (fun K hK => ?_) ?_
                  · go_simp
                    refine hK.out _ _ trivial (fun _ => ?_)
                    clear hK K
                    try simp only [Act.put, List.setIfInBounds_toArray, List.set_cons_zero, List.set_cons_succ]
                    refine wpAnyH_done (by kernel_rfl) ?_ _
                    refine NoPanic.normal ?_
                    have hZ9 : Hid (ZRow (w9.setCell ⟨g, i, none⟩ (.slice A9 (z + 1) c9)) w.heap.size n i la g cap (z + 1)) := ⟨A9, c9, by have h := own_set (i := i) (v := .slice A9 (z + 1) c9) h139.out; rwa [List.set_set] at h, own_far ho9.out (fun e => hap9.out g e rfl), hap9.out⟩
                    have hB10 : Hid (Below w.heap.size w (w9.setCell ⟨g, i, none⟩ (.slice A9 (z + 1) c9))) := hB9.out.setCell hg1.out _
                    clear gl gf gc
                    go_wp2
                    exact ⟨⟨z + 1, by omega, by go_num, hZ9, hB10⟩, by simp only [intOf]; omega⟩
                  · exact AllReadyH.nil
                · exact AllReadyH.nil
              · exact AllReadyH.nil
            exact AllReadyH.nil
          exact AllReadyH.nil
        exact AllReadyH.nil
      · obtain rfl : n = z := by omega
        obtain ⟨A1, c1, e1, hin1⟩ := inRow_of_own hrow.out
        simp only [Value.slice.injEq, true_and] at e1
        obtain ⟨rfl, rfl⟩ := e1
        have hin2 : InRow wr A (outL n fun _ => 0) := hin1
        have hmat := Lib.hid (inMat_set (x := (A, c2, outL n fun _ => 0)) hlal.out h13.out (by rw [List.map_set]; unfold hdr; rw [outL_length]) (hma.out _ hB.out) hin2)
        have hrows : rowsOf (la.set i (A, c2, outL n fun _ => 0)) = (rowsOf la).set i (outL n fun _ => 0) := rowsOf_set la i _
        have hzz : ∀ x ∈ la.set i (A, c2, outL n fun _ => 0), x.2.2.length ≤ 140737488355328 ∧ ∀ y ∈ x.2.2, rawSz y := fun x hx => by
          rcases mem_set_row hx with h1 | h1
          · exact hza.out x h1
          · rw [h1]
            refine ⟨by rw [outL_length]; omega, fun y hy => ?_⟩
            obtain ⟨j, hj, rfl⟩ := List.getElem_of_mem hy
            rw [outL_get]; exact rawSz_rq ok_zero
        have hd := hdz.out i hin
        rw [← hrows] at hd
        have hlen : (la.set i (A, c2, outL n fun _ => 0)).length = n := by rw [List.length_set]; exact hlal.out
        have kk : Hid (∀ er, solveB (rowsOf (la.set i (A, c2, outL n fun _ => 0))) lb = .error er → Calls Tryz.prog 12 #[.slice (some ⟨g, 0, none⟩) n cap, .slice Ab n cb] wr fun e w' => e = .returned (.tuple #[.slice none 0 0, .int .i64 er]) ∧ Below wr.heap.size wr w') := fun er he => ksol.out _ wr _ cap er hB.out (hE.out.below hB.out) hmat.out hlen hzz he
        clear hin1 hin2 hmat hrows hzz hlen h13 hrow hxs ksol hdz hlt
        rcases hd with hd | hd
        all_goals (
          have k9 := Lib.hid (kk.out _ hd)
          clear hd kk
          go_wp2_with fail
          refine k9.out.mono ?_
          rintro e w7 ⟨rfl, hb⟩
          have hB7 := Lib.hid (hB.out.trans (hb.mono hB.out.size))
          clear hb
          go_wp2
          go_ret
          exact ⟨rfl, hB7.out⟩)
  · have t1 : (x2 % (n : Int) == x3 % (n : Int)) = false := by rw [beq_eq_false_iff_ne]; omega
    clear hi hk
    go_enter Tryz.func5, Tryz.ntmps5
    go_wp2_with fail
    refine (kh.out _ hE.out).mono ?_
    rintro e w1 ⟨rfl, hb1⟩
    replace hb1 := Lib.hid hb1
    go_wp2_with fail
    refine (kf.out _ hb1.out (hE.out.below hb1.out)).mono ?_
    rintro e w2 ⟨rfl, hb2⟩
    have hB2 := Lib.hid (hb1.out.trans (hb2.mono hb1.out.size))
    clear hb2
    have hszz := hB2.out.size
    have hcells : Hid (∀ j u, (la.map hdr)[j]? = some u → (w2.alloc (.cells #[] 23)).cell? ((⟨ba, oa, none⟩ : Addr).add j) = some u) := hdr_cells (hma.out _ (bal2 hB2.out _))
    have hone : Hid (∀ u ∈ la.map hdr, u.oneCell' = true) := hdr_one la
    have hlen : Hid ((la.map hdr).length = n * 1) := by show _ = _; rw [List.length_map, hlal.out, Nat.mul_one]
    go_wp2_with (at_builtin; refine wpList_append_new _ rfl _ _ 22 rfl w.heap.size 23 i1 (.slice none 0 0) 1 24 Tryz.underlying22 hi1.out hy0.out hy1.out hy2.out rfl (by decide) (.slice (some ⟨w2.heap.size, 0, none⟩) 0 0) 0 [] rfl (World.ownsRow_made w2 #[] 0 hszz (by unfold maxLen; omega) rfl) ⟨ba, oa, none⟩ n ca (la.map hdr) rfl hlen.out hcells.out hone.out (by omega) (by unfold maxLen; omega) (by omega) (by simp; omega) ?_; intro v13 wa ho hg hnb; have hBa : Hid (Below w.heap.size w wa) := ((bal2 hB2.out _).grown hg (by simp; omega) (fun b e => by simp only [Value.ownBlock, Option.some.injEq] at e; omega)); replace ho : wa.ownsRow w.heap.size 23 1 v13 n (la.map hdr) := (by have h9 := ho; rw [Nat.zero_add, List.nil_append] at h9; exact h9); obtain ⟨g, cap, rfl, hg1, hg2, hg3, hg4⟩ := own_form ho hn1; have gf := hg3 i; have gc := hg4 i ri hgi.out; have ck := hck.out _ hBa.out; have hge := Nat.ne_of_gt (Nat.lt_of_lt_of_le hba hg1); replace hg3 := Lib.hid hg3; replace hg1 := Lib.hid hg1; replace ho := Lib.hid ho; clear hg hnb hg4 hcells hone hlen)
    have hBs : Hid (Below w.heap.size w (wa.setCell ⟨g, i, none⟩ (.slice ra n rc))) := hBa.out.setCell hg1.out _
    have hmw := hma.out _ hBs.out
    have hmat := Lib.hid (inMat_set (x := (ra, rc, rl)) hlal.out (own_set (i := i) (v := .slice ra n rc) ho.out) hhdr.out hmw (inMat_mem hmw hmem.out))
    have hzz : ∀ x ∈ la.set i (ra, rc, rl), x.2.2.length ≤ 140737488355328 ∧ ∀ y ∈ x.2.2, rawSz y := fun x hx => by
      rcases mem_set_row hx with h1 | h1
      · exact hza.out x h1
      · rw [h1]; exact hza.out _ hmem.out
    have hd := hdep.out i k hin hkn hik
    rw [← hset.out] at hd
    have hlen : (la.set i (ra, rc, rl)).length = n := by rw [List.length_set]; exact hlal.out
    have kk : Hid (∀ er, solveB (rowsOf (la.set i (ra, rc, rl))) lb = .error er → Calls Tryz.prog 12 #[.slice (some ⟨g, 0, none⟩) n cap, .slice Ab n cb] (wa.setCell ⟨g, i, none⟩ (.slice ra n rc)) fun e w' => e = .returned (.tuple #[.slice none 0 0, .int .i64 er]) ∧ Below (wa.setCell ⟨g, i, none⟩ (.slice ra n rc)).heap.size (wa.setCell ⟨g, i, none⟩ (.slice ra n rc)) w') := fun er he => ksol.out _ _ _ cap er hBs.out (hE.out.below hBs.out) hmat.out hlen hzz he
    clear hmw hmat hzz hlen ksol hdep hdz hset hhdr hmem
    rcases hd with hd | hd
    all_goals (
      refine (kk.out _ hd).mono ?_
      rintro e w7 ⟨rfl, hb⟩
      have hB7 := Lib.hid (hBs.out.trans (hb.mono hBs.out.size))
      clear hb hd kk
      go_wp2
      go_ret
      exact ⟨rfl, hB7.out⟩)
end Nt
end Go.Proofs.YtjjlnahipiinfaaGreatDoor

/- Sums of products; slices that grow and that are stored into. -/
import Derived.Test.YtjjlnahipiinfaaGreatDoorLinC
import Derived.Deep.Slices
namespace Go.Proofs.YtjjlnahipiinfaaGreatDoor
open Go.RowKit Go.Shelf
namespace Nt

theorem okQ_add {p q : Rat} (hp : ShortQ p) (hq : ShortQ q) : OkQ (p + q) := okQ_dg (Dg.add (k := mx1) (m := mx1) hp hq) (by rw [mx1_eq]; omega)
theorem rawSz_rq {q : Rat} (h : OkQ q) : rawSz (rq q) := by
  have := size_of_valid (valid_qv h)
  unfold rawSz rq
  exact ⟨by have := this.1; dsimp only; omega, by have := this.2; dsimp only; omega⟩
theorem Mul_some {x y : Raw} {p : Rat} (h : mulR x y = some p) (w : World) (hE : Env w) :
    Calls Tryz.prog 21 #[rawV x, rawV y] w fun e w' => e = .returned (.tuple #[rawV (rq p), .int .i64 0]) ∧ Below w.heap.size w w' := by
  unfold mulR at h
  split at h
  · rename_i hc
    obtain ⟨h1, h2, h3, h4⟩ := hc
    simp only [Option.some.injEq] at h
    have k := Mul_short (vq x) (vq y) h3 h4 w hE
    have e1 : qv (vq x) = rawV x := congrArg rawV (raw_of h1).1
    have e2 : qv (vq y) = rawV y := congrArg rawV (raw_of h2).1
    rw [e1, e2, h] at k
    exact k
  · cases h
theorem Mul_none {x y : Raw} (h : mulR x y = none) (hx : rawSz x) (hy : rawSz y) : ∃ E : Int, (E = 1 ∨ E = 2) ∧ ∀ w, Env w →
    Calls Tryz.prog 21 #[rawV x, rawV y] w fun e w' => e = .returned (.tuple #[zv, .int .i64 E]) ∧ Below w.heap.size w w' := by
  by_cases h1 : vraw x = true
  · by_cases h2 : vraw y = true
    · refine ⟨2, .inr rfl, fun w hE => ?_⟩
      have hl : ¬ (ShortQ (vq x) ∧ ShortQ (vq y)) := fun hc => by
        unfold mulR at h
        rw [if_pos ⟨h1, h2, hc.1, hc.2⟩] at h
        cases h
      have k := Mul_long (vq x) (vq y) (raw_of h1).2 (raw_of h2).2 hl w hE
      have e1 : qv (vq x) = rawV x := congrArg rawV (raw_of h1).1
      have e2 : qv (vq y) = rawV y := congrArg rawV (raw_of h2).1
      rw [e1, e2] at k
      exact k
    · exact ⟨1, .inl rfl, fun w hE => Mul_bad x.1 y.1 x.2.1 x.2.2 y.2.1 y.2.2 w hE hx.1 hx.2 hy.1 hy.2 (.inr ((Bool.not_eq_true _).mp h2))⟩
  · exact ⟨1, .inl rfl, fun w hE => Mul_bad x.1 y.1 x.2.1 x.2.2 y.2.1 y.2.2 w hE hx.1 hx.2 hy.1 hy.2 (.inl ((Bool.not_eq_true _).mp h1))⟩
theorem Add_some {p q t : Rat} (h : addQ p q = some t) (w : World) (hE : Env w) :
    Calls Tryz.prog 22 #[rawV (rq p), rawV (rq q)] w fun e w' => e = .returned (.tuple #[rawV (rq t), .int .i64 0]) ∧ Below w.heap.size w w' := by
  unfold addQ at h
  split at h
  · rename_i hc
    simp only [Option.some.injEq] at h
    rw [← h]
    exact Add_short p q hc.1 hc.2 w hE
  · cases h
theorem Add_none {p q : Rat} (h : addQ p q = none) (hp : OkQ p) (hq : OkQ q) (w : World) (hE : Env w) :
    Calls Tryz.prog 22 #[rawV (rq p), rawV (rq q)] w fun e w' => e = .returned (.tuple #[zv, .int .i64 2]) ∧ Below w.heap.size w w' := by
  unfold addQ at h
  split at h
  · cases h
  · rename_i hc
    exact Add_long p q hp hq hc w hE
theorem Add_zv {p : Rat} (hp : OkQ p) (w : World) (hE : Env w) :
    Calls Tryz.prog 22 #[rawV (rq p), zv] w fun e w' => e = .returned (.tuple #[zv, .int .i64 1]) ∧ Below w.heap.size w w' := by
  have hz := rawSz_rq hp
  exact Add_bad (rq p).1 false (rq p).2.1 (rq p).2.2 ⟨#[]⟩ ⟨#[]⟩ w hE hz.1 hz.2 (by decide) (by decide) (.inr (by unfold validB; rw [show isN ⟨#[]⟩ = false from rfl]; rfl))
theorem dotTo_none {r x : List Raw} {k n : Nat} (h : dotTo r x k = none) (hk : k ≤ n) : dotTo r x n = none := by
  induction n with
  | zero => rw [show k = 0 by omega] at h; exact h
  | succ n ih =>
    by_cases e : k = n + 1
    · rw [e] at h; exact h
    · rw [dotTo, ih (by omega)]; rfl
theorem apTo_none {A : List (List Raw)} {x : List Raw} {k n : Nat} (h : apTo A x k = none) (hk : k ≤ n) : apTo A x n = none := by
  induction n with
  | zero => rw [show k = 0 by omega] at h; exact h
  | succ n ih =>
    by_cases e : k = n + 1
    · rw [e] at h; exact h
    · rw [apTo, ih (by omega)]; rfl
/-- What one step of a sum does: it goes on, or an operation has an error. -/
theorem step_cases (x y : Raw) (s : Rat) (hs : OkQ s) (hx : rawSz x) (hy : rawSz y) :
    ∃ (r1 r2 : Raw) (E1 E2 : Int), (∀ w, Env w → Calls Tryz.prog 21 #[rawV x, rawV y] w fun e w' => e = .returned (.tuple #[rawV r1, .int .i64 E1]) ∧ Below w.heap.size w w') ∧
      (∀ w, Env w → Calls Tryz.prog 22 #[rawV (rq s), rawV r1] w fun e w' => e = .returned (.tuple #[rawV r2, .int .i64 E2]) ∧ Below w.heap.size w w') ∧
      ((E1 = 0 ∧ E2 = 0 ∧ ∃ t, r2 = rq t ∧ OkQ t ∧ ((mulR x y).bind fun p => addQ s p) = some t) ∨ ((E1 = 1 ∨ E1 = 2 ∨ E1 = 0 ∧ E2 = 2) ∧ ((mulR x y).bind fun p => addQ s p) = none)) := by
  cases hm : mulR x y with
  | none =>
    obtain ⟨E, hE, km⟩ := Mul_none hm hx hy
    exact ⟨zraw, zraw, E, 1, km, fun w hw => Add_zv hs w hw, .inr ⟨by omega, rfl⟩⟩
  | some p =>
    have hp : OkQ p := by
      unfold mulR at hm
      split at hm
      · rename_i hc
        simp only [Option.some.injEq] at hm
        rw [← hm]
        exact okQ_mul hc.2.2.1 hc.2.2.2
      · cases hm
    cases ha : addQ s p with
    | none => exact ⟨rq p, zraw, 0, 2, fun w hw => Mul_some hm w hw, fun w hw => Add_none ha hs hp w hw, .inr ⟨.inr (.inr ⟨rfl, rfl⟩), ha⟩⟩
    | some t =>
      refine ⟨rq p, rq t, 0, 0, fun w hw => Mul_some hm w hw, fun w hw => Add_some ha w hw, .inl ⟨rfl, rfl, t, rfl, ?_, ha⟩⟩
      unfold addQ at ha
      split at ha
      · rename_i hc
        simp only [Option.some.injEq] at ha
        rw [← ha]
        exact okQ_add hc.1 hc.2
      · cases ha
/-- What applied leaves. -/
def ApPost (A : List (List Raw)) (x : List Raw) (w : World) (e : Ending) (w' : World) : Prop :=
  Below w.heap.size w w' ∧ ((∃ rs v, appliedB A x = some rs ∧ e = .returned (.tuple #[v, .bool true]) ∧ w'.ownsRow w.heap.size 31 3 v rs.length (rowL rs.length fun i => rq (rs.getD i 0))) ∨ (appliedB A x = none ∧ e = .returned (.tuple #[.slice none 0 0, .bool false])))
theorem own_below {w w' : World} {B : Nat} {t : TypeId} {size : Nat} {v : Value} {n : Nat} {xs : List Value} (h : w.ownsRow B t size v n xs) (hb : Below w.heap.size w w') : w'.ownsRow B t size v n xs :=
  h.kept (row := none) ⟨hb.os, hb.tape, hb.output, hb.size, fun k hk _ => hb.block k hk⟩ (by cases hv : v.ownBlock <;> simp)
theorem rowL_get_raw (n : Nat) (f : Nat → Raw) (x : Raw) (h : f n = x) : rowL n f ++ rawL x = rowL (n + 1) f := by rw [rowL_succ, h]
theorem ap_next {A : List (List Raw)} {x : List Raw} {y : Nat} {rs : List Rat} {q : Rat} (h : apTo A x y = some rs) (hl : (A.getD y []).length = x.length) (hd : dotTo (A.getD y []) x x.length = some q) : apTo A x (y + 1) = some (rs ++ [q]) := by
  rw [apTo, h]
  unfold rowAp
  rw [if_pos hl, hd]
  rfl
theorem ap_stop {A : List (List Raw)} {x : List Raw} {y : Nat} (h : rowAp x (A.getD y []) = none) : apTo A x (y + 1) = none := by
  rw [apTo, h]
  cases apTo A x y <;> rfl
theorem row_stop {x r : List Raw} {z : Nat} (hz : z < x.length) {s : Rat} (hs : dotTo r x z = some s) (h : ((mulR (r.getD z zraw) (x.getD z zraw)).bind fun p => addQ s p) = none) : rowAp x r = none := by
  unfold rowAp
  split
  · refine dotTo_none (k := z + 1) ?_ (by omega)
    rw [dotTo, hs]
    exact h
  · rfl
theorem rows_more {rs : List Rat} {q : Rat} {y : Nat} (h : rs.length = y) : (rowL y fun i => rq (rs.getD i 0)) ++ rawL (rq q) = rowL (y + 1) fun i => rq ((rs ++ [q]).getD i 0) := by
  rw [rowL_succ]
  congr 1
  · refine rowL_congr fun j hj => ?_
    rw [List.getD_eq_getElem?_getD, List.getD_eq_getElem?_getD, List.getElem?_append_left (by omega)]
  · congr 2
    rw [List.getD_eq_getElem?_getD, List.getElem?_append_right (by omega), h, Nat.sub_self]
    rfl

set_option maxRecDepth 100000 in
set_option maxHeartbeats 8000000 in
theorem applied_any (Aa Ab : Option Addr) (ca cb : Nat) (la : List RowH) (lx : List Raw) (w : World) (hE : Env w) (hs : SysIn w Aa Ab la lx) (h12 : la.length ≤ 1000) :
    Calls Tryz.prog 18 #[.slice Aa la.length ca, .slice Ab lx.length cb] w (ApPost (rowsOf la) lx w) := by
  have nb := hs.nb
  have na := hs.na
  have hA := Lib.hid hs.ma
  have hB := Lib.hid hs.mb
  have hza := Lib.hid hs.za
  have hzb := Lib.hid hs.zb
  clear hs
  have kn := Lib.hid fun W (h : Env W) => number_any 0 (by omega) (by omega) W h
  rw [show qv ((0 : Int) : Rat) = .agg #[.bool false, .string ⟨#[48]⟩, .string ⟨#[49]⟩] from congrArg rawV rq_zero] at kn
  replace hE := Lib.hid hE
  obtain ⟨i0, hi0, hzz⟩ := Option.map_eq_some_iff.1 infoQ
  simp only [Prod.mk.injEq] at hzz
  obtain ⟨hz0, hz1, hz2⟩ := hzz
  replace hi0 := Lib.hid hi0
  replace hz0 := Lib.hid hz0
  replace hz1 := Lib.hid hz1
  replace hz2 := Lib.hid hz2
  go_enter Tryz.func18, Tryz.ntmps18
  go_wp2
  go_loopw [6, 7] (fun v i wr => ∃ (y : Nat), y ≤ la.length ∧ i = .int .i64 (y : Int) ∧ Hid (∃ rs, apTo (rowsOf la) lx y = some rs ∧ wr.ownsRow w.heap.size 31 3 v y (rowL y fun i => rq (rs.getD i 0))) ∧ Hid (Below w.heap.size w wr)) (fun _ i _ => la.length - (intOf i).toNat)
  case atStart => exact ⟨0, Nat.zero_le _, rfl, ⟨[], rfl, World.ownsRow_nil _ _ _ _⟩, Below.refl _ _⟩
  case round =>
    obtain ⟨y, hy, rfl, hown, hBr⟩ := hrel
    by_cases hlt : y < la.length
    · obtain ⟨ba, oa, rfl, hba, hca⟩ := hA.out (by omega)
      obtain ⟨c1, hr⟩ := hca y hlt
      have hzr := hza.out la[y] (List.getElem_mem hlt)
      have hrow : Hid ((rowsOf la).getD y [] = la[y].2.2) := by
        show _ = _
        rw [getD_at (by rw [rowsOf_length]; exact hlt), rowsOf_get la y hlt]
      obtain ⟨rx, hrx⟩ : ∃ x, x = la[y] := ⟨_, rfl⟩
      rw [← hrx] at c1 hr hzr hrow
      obtain ⟨ra, rc, rl⟩ := rx
      replace hrow : Hid ((rowsOf la).getD y [] = rl) := hrow
      replace hr : Hid (InRow w ra rl) := hr
      have hl47 : rl.length ≤ 140737488355328 := hzr.1
      have hsz : Hid (∀ x ∈ rl, rawSz x) := hzr.2
      replace c1 : w.cell? ⟨ba, oa + y, none⟩ = some (.slice ra rl.length rc) := c1
      replace c1 := Lib.hid c1
      have i0' : (0 : Int) ≤ (y : Int) := by omega
      have i1' : (y : Int) < (la.length : Int) := by omega
      clear hca hrx hzr
      go_wp2_with fail
      refine (kn.out _ (hE.out.below hBr.out)).mono ?_
      rintro e w1 ⟨rfl, hb1⟩
      have hB1 := Lib.hid (hBr.out.trans (hb1.mono hBr.out.size))
      have hown1 : Hid (∃ rs, apTo (rowsOf la) lx y = some rs ∧ w1.ownsRow w.heap.size 31 3 u6 y (rowL y fun i => rq (rs.getD i 0))) := by
        obtain ⟨rs, h1, h2⟩ := hown.out
        exact ⟨rs, h1, own_below h2 hb1⟩
      have d1 := (hB1.out.cell (p := ⟨ba, oa + y, none⟩) hba).trans c1.out
      have hlow := hB1.out.size
      have hbl : ba < w1.heap.size := Nat.lt_of_lt_of_le hba hlow
      clear hb1 hown
      by_cases hrl : rl.length = lx.length
      · rw [hrl] at d1
        have d2 : Hid ((w1.alloc (.cells #[.bool false, .string ⟨#[48]⟩, .string ⟨#[49]⟩] 31)).cell? ⟨ba, oa + y, none⟩ = some (.slice ra lx.length rc)) := (World.cell?_alloc_lt _ _ _ (World.block_lt_of_cell? w1 _ d1)).trans d1
        obtain ⟨B8, hB8e⟩ : ∃ b, b = w1.heap.size := ⟨_, rfl⟩
        have hb0 : Hid (B3 (w1.alloc (.cells #[.bool false, .string ⟨#[48]⟩, .string ⟨#[49]⟩] 31)) B8 (rq 0).1 (rq 0).2.1 (rq 0).2.2) := by rw [hB8e, rq_zero]; exact B3.new w1 _ _ _
        have hC0 : Hid (Below w1.heap.size w1 (w1.alloc (.cells #[.bool false, .string ⟨#[48]⟩, .string ⟨#[49]⟩] 31))) := (Below.refl _ _).alloc (Nat.le_refl _) _
        have hB8 : Hid (w1.heap.size ≤ B8) := by show _ ≤ _; omega
        have hB8b : Hid (w.heap.size ≤ B8) := by show _ ≤ _; omega
        go_wp2
        rw [← hB8e]
        replace hB8e := Lib.hid hB8e
        go_loopw [9] (fun j wz => ∃ z : Nat, z ≤ lx.length ∧ j = .int .i64 (z : Int) ∧ Hid (∃ s, dotTo rl lx z = some s ∧ OkQ s ∧ B3 wz B8 (rq s).1 (rq s).2.1 (rq s).2.2) ∧ Hid (Below w1.heap.size w1 wz)) (fun j _ => lx.length - (intOf j).toNat)
        case atStart => exact ⟨0, Nat.zero_le _, rfl, ⟨0, rfl, ok_zero, hb0⟩, hC0⟩
        case round =>
          obtain ⟨z, hz, rfl, hS, hCr⟩ := hrel
          have hBw := Lib.hid (hB1.out.trans (hCr.out.mono hlow))
          have d3 := (hBw.out.cell (p := ⟨ba, oa + y, none⟩) hba).trans c1.out
          rw [hrl] at d3
          by_cases hlz : z < lx.length
          · obtain ⟨s, hs1, hs2, hs3⟩ := hS.out
            have hz1 : z < rl.length := by omega
            obtain ⟨bx, ox, rfl, hbx, p1, p2, p3⟩ := hr.out.at hz1
            obtain ⟨bb, ob, rfl, hbb, q1, q2, q3⟩ := hB.out.at hlz
            obtain ⟨r1, r2, E1, E2, km, ka, hcase⟩ := step_cases rl[z] lx[z] s hs2 (hsz.out _ (List.getElem_mem hz1)) (hzb.out _ (List.getElem_mem hlz))
            rw [← getD_at (d := zraw) hz1, ← getD_at (d := zraw) hlz] at hcase
            have hnext : ∀ t, ((mulR (rl.getD z zraw) (lx.getD z zraw)).bind fun p => addQ s p) = some t → Hid (dotTo rl lx (z + 1) = some t) := fun t h => by
              show dotTo rl lx (z + 1) = some t
              rw [dotTo, hs1]; exact h
            have hfail : ((mulR (rl.getD z zraw) (lx.getD z zraw)).bind fun p => addQ s p) = none → Hid (appliedB (rowsOf la) lx = none) := fun h => by
              show appliedB (rowsOf la) lx = none
              refine apTo_none (k := y + 1) (ap_stop ?_) (by rw [rowsOf_length]; omega)
              rw [hrow.out]
              exact row_stop hlz hs1 h
            obtain ⟨rx, hrx⟩ : ∃ x, x = rl[z] := ⟨_, rfl⟩
            obtain ⟨ry, hry⟩ : ∃ x, x = lx[z] := ⟨_, rfl⟩
            rw [← hrx] at p1 p2 p3 km
            rw [← hry] at q1 q2 q3 km
            obtain ⟨g1, n1, d1'⟩ := rx
            obtain ⟨g2, n2, d2'⟩ := ry
            obtain ⟨r1g, r1n, r1d⟩ := r1
            obtain ⟨sraw, hsr⟩ : ∃ x, x = rq s := ⟨_, rfl⟩
            rw [← hsr] at hs3 ka
            obtain ⟨sg, sn, sd⟩ := sraw
            have HO : Hid (∀ W, Below w.heap.size w W → W.cell? ⟨ba, oa + y, none⟩ = some (.slice (some ⟨bx, ox, none⟩) lx.length rc) ∧ W.cell? ⟨bx, ox + z * 3, none⟩ = some (.bool g1) ∧ W.cell? ⟨bx, ox + z * 3 + 1, none⟩ = some (.string n1) ∧ W.cell? ⟨bx, ox + z * 3 + 2, none⟩ = some (.string d1') ∧ W.cell? ⟨bb, ob + z * 3, none⟩ = some (.bool g2) ∧ W.cell? ⟨bb, ob + z * 3 + 1, none⟩ = some (.string n2) ∧ W.cell? ⟨bb, ob + z * 3 + 2, none⟩ = some (.string d2')) := fun W h => by
              have k1 := c1.out
              rw [hrl] at k1
              exact ⟨(h.cell (p := ⟨ba, _, none⟩) hba).trans k1, (h.cell (p := ⟨bx, _, none⟩) hbx).trans p1, (h.cell (p := ⟨bx, _, none⟩) hbx).trans p2, (h.cell (p := ⟨bx, _, none⟩) hbx).trans p3, (h.cell (p := ⟨bb, _, none⟩) hbb).trans q1, (h.cell (p := ⟨bb, _, none⟩) hbb).trans q2, (h.cell (p := ⟨bb, _, none⟩) hbb).trans q3⟩
            clear p1 p2 p3 q1 q2 q3 hrx hry hsr hS
            obtain ⟨p0, p1, p2, p3, q1, q2, q3⟩ := HO.out _ hBw.out
            replace km : Hid (∀ w, Env w → Calls Tryz.prog 21 #[.agg #[.bool g1, .string n1, .string d1'], .agg #[.bool g2, .string n2, .string d2']] w fun e w' => e = .returned (.tuple #[.agg #[.bool r1g, .string r1n, .string r1d], .int .i64 E1]) ∧ Below w.heap.size w w') := km
            replace ka : Hid (∀ w, Env w → Calls Tryz.prog 22 #[.agg #[.bool sg, .string sn, .string sd], .agg #[.bool r1g, .string r1n, .string r1d]] w fun e w' => e = .returned (.tuple #[rawV r2, .int .i64 E2]) ∧ Below w.heap.size w w') := ka
            have hs3' : Hid (B3 wr B8 sg sn sd) := hs3
            have j0 : (0 : Int) ≤ (z : Int) := by omega
            have j1 : (z : Int) < (lx.length : Int) := by omega
            have hBa : Hid (Below w.heap.size w (wr.alloc (.cells #[.bool false, .string ⟨#[]⟩, .string ⟨#[]⟩] 31))) := hBw.out.alloc hBw.out.size _
            have hBd : Hid (Below w.heap.size w (wr.alloc (.cells #[.bool false, .string ⟨#[]⟩, .string ⟨#[]⟩] 31)).drew) := hBa.out.drew
            have hBe : Hid (Below w.heap.size w wr.drew) := hBw.out.drew
            have hCd : Hid (Below w1.heap.size w1 (wr.alloc (.cells #[.bool false, .string ⟨#[]⟩, .string ⟨#[]⟩] 31)).drew) := (hCr.out.alloc hCr.out.size _).drew
            have hCe : Hid (Below w1.heap.size w1 wr.drew) := hCr.out.drew
            have hse : Hid (B3 wr.drew B8 sg sn sd) := hs3
            have hsd : Hid (B3 (wr.alloc (.cells #[.bool false, .string ⟨#[]⟩, .string ⟨#[]⟩] 31)).drew B8 sg sn sd) := hs3.alloc _
            have hxd : Hid (B3 (wr.alloc (.cells #[.bool false, .string ⟨#[]⟩, .string ⟨#[]⟩] 31)).drew wr.heap.size false ⟨#[]⟩ ⟨#[]⟩) := B3.new wr _ _ _
            have hne : Hid (B8 ≠ wr.heap.size) := Nat.ne_of_lt hs3.lt
            have hwz : Hid (w.heap.size ≤ wr.heap.size) := hBw.out.size
            have hwz1 : Hid (w1.heap.size ≤ wr.heap.size) := hCr.out.size
            clear hs3 d3 hs3' hs1 hs2 p0 p1 p2 p3 q1 q2 q3 d2
            obtain ⟨p0, p1, p2, p3, q1, q2, q3⟩ := HO.out _ hBw.out
            rcases hcase with ⟨rfl, rfl, t, rfl, ht, hstep⟩ | ⟨hE12, hnone⟩
            · replace hnext := hnext t hstep
              clear hstep hfail
              go_wp2_with fail
              go_region_held3 (fun w' => w'.cell? ⟨ba, oa + y, none⟩ = some (.slice (some ⟨bx, ox, none⟩) lx.length rc) ∧ w'.cell? ⟨bx, ox + z * 3, none⟩ = some (.bool g1) ∧ w'.cell? ⟨bx, ox + z * 3 + 1, none⟩ = some (.string n1) ∧ w'.cell? ⟨bx, ox + z * 3 + 2, none⟩ = some (.string d1') ∧ w'.cell? ⟨bb, ob + z * 3, none⟩ = some (.bool g2) ∧ w'.cell? ⟨bb, ob + z * 3 + 1, none⟩ = some (.string n2) ∧ w'.cell? ⟨bb, ob + z * 3 + 2, none⟩ = some (.string d2')) (first | (with_reducible exact HO.out _ hBe.out) | (with_reducible exact HO.out _ hBd.out) | (with_reducible exact HO.out _ hBw.out) | (with_reducible exact HO.out _ hBa.out) | (with_reducible exact HO.out _ hB2.out) | (with_reducible exact HO.out _ (hB2.out.alloc hB2.out.size _)) | (with_reducible exact HO.out _ (((hB2.out.setCell hwz.out _).setCell hwz.out _).setCell hwz.out _)) | go_keep)
                (first
                  | (go_at_call 21; refine (km.out _ ?_).mono ?_; (with_reducible exact hE.out.below hBd.out); rintro e w2 ⟨rfl, hb2⟩; have hx2 := Lib.hid (hxd.out.below hb2); have hs2 := Lib.hid (hsd.out.below hb2); have hB2 := Lib.hid (hBd.out.trans (hb2.mono hBd.out.size)); have hC2 := Lib.hid (hCd.out.trans (hb2.mono hCd.out.size)); obtain ⟨y1, y2, y3, y4, y5, y6⟩ := hx2.out.facts; have y7 := hx2.out.lt; clear hb2)
                  | (go_at_call 21; refine (km.out _ ?_).mono ?_; (with_reducible exact hE.out.below hBe.out); rintro e w2 ⟨rfl, hb2⟩; have hs2 := Lib.hid (hse.out.below hb2); have hB2 := Lib.hid (hBe.out.trans (hb2.mono hBe.out.size)); have hC2 := Lib.hid (hCe.out.trans (hb2.mono hCe.out.size)); clear hb2))
              all_goals (
                first
                  | (obtain ⟨w3, hw3⟩ : ∃ W, W = w2.alloc (.cells #[.bool r1g, .string r1n, .string r1d] 31) := ⟨_, rfl⟩; rw [← hw3]; have hs3 : Hid (B3 w3 B8 sg sn sd) := (by rw [hw3]; exact hs2.out.alloc _); have hx3 : Hid (B3 w3 w2.heap.size r1g r1n r1d) := (by rw [hw3]; exact B3.new w2 _ _ _); have hB3 : Hid (Below w.heap.size w w3) := (by rw [hw3]; exact hB2.out.alloc hB2.out.size _); have hC3 : Hid (Below w1.heap.size w1 w3) := (by rw [hw3]; exact hC2.out.alloc hC2.out.size _))
                  | (obtain ⟨w3, hw3⟩ : ∃ W, W = ((w2.setCell ⟨wr.heap.size, 0, none⟩ (.bool r1g)).setCell ⟨wr.heap.size, 1, none⟩ (.string r1n)).setCell ⟨wr.heap.size, 2, none⟩ (.string r1d) := ⟨_, rfl⟩; rw [← hw3]; have hs3 : Hid (B3 w3 B8 sg sn sd) := (by rw [hw3]; exact ((hs2.out.other hne.out _).other hne.out _).other hne.out _); have hx3 : Hid (B3 w3 wr.heap.size r1g r1n r1d) := (by rw [hw3]; exact ((hx2.out.set0 r1g).set1 r1n).set2 r1d); have hB3 : Hid (Below w.heap.size w w3) := (by rw [hw3]; exact ((hB2.out.setCell hwz.out _).setCell hwz.out _).setCell hwz.out _); have hC3 : Hid (Below w1.heap.size w1 w3) := (by rw [hw3]; exact ((hC2.out.setCell hwz1.out _).setCell hwz1.out _).setCell hwz1.out _); clear hx2 y1 y2 y3 y4 y5 y6 y7)
                clear hw3 hs2 hB2 hC2 hBe hBd hBa hBw hCe hCd hse hsd hxd hne hwz hwz1 j0 j1 km HO
                obtain ⟨x1, x2, x3, x4, x5, x6⟩ := hx3.out.facts
                have x7 := hx3.out.lt
                obtain ⟨z1, z2, z3, z4, z5, z6⟩ := hs3.out.facts
                have z7 := hs3.out.lt
                go_wp2_with fail
                refine (ka.out _ (hE.out.below hB3.out)).mono ?_
                rintro e w4 ⟨rfl, hb4⟩
                have hs4 := Lib.hid (hs3.out.below hb4)
                have hB4 := Lib.hid (hB3.out.trans (hb4.mono hB3.out.size))
                have hC4 := Lib.hid (hC3.out.trans (hb4.mono hC3.out.size))
                clear hb4 x1 x2 x3 x4 x5 x6 x7 z1 z2 z3 z4 z5 z6 z7
                obtain ⟨z1, z2, z3, z4, z5, z6⟩ := hs4.out.facts
                have z7 := hs4.out.lt
                have hs5 : Hid (B3 ((((w4.setCell ⟨B8, 0, none⟩ (.bool (rq t).1)).setCell ⟨B8, 1, none⟩ (.string (rq t).2.1)).setCell ⟨B8, 2, none⟩ (.string (rq t).2.2)).alloc (.cells #[.bool (rq t).1, .string (rq t).2.1, .string (rq t).2.2] 31)) B8 (rq t).1 (rq t).2.1 (rq t).2.2) := (((hs4.out.set0 _).set1 _).set2 _).alloc _
                have hC5 : Hid (Below w1.heap.size w1 ((((w4.setCell ⟨B8, 0, none⟩ (.bool (rq t).1)).setCell ⟨B8, 1, none⟩ (.string (rq t).2.1)).setCell ⟨B8, 2, none⟩ (.string (rq t).2.2)).alloc (.cells #[.bool (rq t).1, .string (rq t).2.1, .string (rq t).2.2] 31))) := (((hC4.out.setCell hB8.out _).setCell hB8.out _).setCell hB8.out _).alloc (by simpa using hC4.out.size) _
                clear hs3 hs4
                go_wp2
                go_roundw
                case rel => exact ⟨z + 1, by omega, by go_num, ⟨t, hnext.out, ht, hs5.out⟩, hC5⟩
                case measure => simp [intOf]; omega
                )
            · replace hfail := hfail hnone
              clear hnone hnext
              rcases hE12 with rfl | rfl | ⟨rfl, rfl⟩
              · skip
                go_wp2_with fail
                go_region_held3 (fun w' => w'.cell? ⟨ba, oa + y, none⟩ = some (.slice (some ⟨bx, ox, none⟩) lx.length rc) ∧ w'.cell? ⟨bx, ox + z * 3, none⟩ = some (.bool g1) ∧ w'.cell? ⟨bx, ox + z * 3 + 1, none⟩ = some (.string n1) ∧ w'.cell? ⟨bx, ox + z * 3 + 2, none⟩ = some (.string d1') ∧ w'.cell? ⟨bb, ob + z * 3, none⟩ = some (.bool g2) ∧ w'.cell? ⟨bb, ob + z * 3 + 1, none⟩ = some (.string n2) ∧ w'.cell? ⟨bb, ob + z * 3 + 2, none⟩ = some (.string d2')) (first | (with_reducible exact HO.out _ hBe.out) | (with_reducible exact HO.out _ hBd.out) | (with_reducible exact HO.out _ hBw.out) | (with_reducible exact HO.out _ hBa.out) | (with_reducible exact HO.out _ hB2.out) | (with_reducible exact HO.out _ (hB2.out.alloc hB2.out.size _)) | (with_reducible exact HO.out _ (((hB2.out.setCell hwz.out _).setCell hwz.out _).setCell hwz.out _)) | go_keep)
                  (first
                    | (go_at_call 21; refine (km.out _ ?_).mono ?_; (with_reducible exact hE.out.below hBd.out); rintro e w2 ⟨rfl, hb2⟩; have hx2 := Lib.hid (hxd.out.below hb2); have hs2 := Lib.hid (hsd.out.below hb2); have hB2 := Lib.hid (hBd.out.trans (hb2.mono hBd.out.size)); have hC2 := Lib.hid (hCd.out.trans (hb2.mono hCd.out.size)); obtain ⟨y1, y2, y3, y4, y5, y6⟩ := hx2.out.facts; have y7 := hx2.out.lt; clear hb2)
                    | (go_at_call 21; refine (km.out _ ?_).mono ?_; (with_reducible exact hE.out.below hBe.out); rintro e w2 ⟨rfl, hb2⟩; have hs2 := Lib.hid (hse.out.below hb2); have hB2 := Lib.hid (hBe.out.trans (hb2.mono hBe.out.size)); have hC2 := Lib.hid (hCe.out.trans (hb2.mono hCe.out.size)); clear hb2))
                all_goals (
                  first
                    | (obtain ⟨w3, hw3⟩ : ∃ W, W = w2.alloc (.cells #[.bool r1g, .string r1n, .string r1d] 31) := ⟨_, rfl⟩; rw [← hw3]; have hs3 : Hid (B3 w3 B8 sg sn sd) := (by rw [hw3]; exact hs2.out.alloc _); have hx3 : Hid (B3 w3 w2.heap.size r1g r1n r1d) := (by rw [hw3]; exact B3.new w2 _ _ _); have hB3 : Hid (Below w.heap.size w w3) := (by rw [hw3]; exact hB2.out.alloc hB2.out.size _); have hC3 : Hid (Below w1.heap.size w1 w3) := (by rw [hw3]; exact hC2.out.alloc hC2.out.size _))
                    | (obtain ⟨w3, hw3⟩ : ∃ W, W = ((w2.setCell ⟨wr.heap.size, 0, none⟩ (.bool r1g)).setCell ⟨wr.heap.size, 1, none⟩ (.string r1n)).setCell ⟨wr.heap.size, 2, none⟩ (.string r1d) := ⟨_, rfl⟩; rw [← hw3]; have hs3 : Hid (B3 w3 B8 sg sn sd) := (by rw [hw3]; exact ((hs2.out.other hne.out _).other hne.out _).other hne.out _); have hx3 : Hid (B3 w3 wr.heap.size r1g r1n r1d) := (by rw [hw3]; exact ((hx2.out.set0 r1g).set1 r1n).set2 r1d); have hB3 : Hid (Below w.heap.size w w3) := (by rw [hw3]; exact ((hB2.out.setCell hwz.out _).setCell hwz.out _).setCell hwz.out _); have hC3 : Hid (Below w1.heap.size w1 w3) := (by rw [hw3]; exact ((hC2.out.setCell hwz1.out _).setCell hwz1.out _).setCell hwz1.out _); clear hx2 y1 y2 y3 y4 y5 y6 y7)
                  clear hw3 hs2 hB2 hC2 hBe hBd hBa hBw hCe hCd hse hsd hxd hne hwz hwz1 j0 j1 km HO
                  obtain ⟨x1, x2, x3, x4, x5, x6⟩ := hx3.out.facts
                  have x7 := hx3.out.lt
                  obtain ⟨z1, z2, z3, z4, z5, z6⟩ := hs3.out.facts
                  have z7 := hs3.out.lt
                  go_wp2_with fail
                  refine (ka.out _ (hE.out.below hB3.out)).mono ?_
                  rintro e w4 ⟨rfl, hb4⟩
                  have hs4 := Lib.hid (hs3.out.below hb4)
                  have hB4 := Lib.hid (hB3.out.trans (hb4.mono hB3.out.size))
                  have hC4 := Lib.hid (hC3.out.trans (hb4.mono hC3.out.size))
                  clear hb4 x1 x2 x3 x4 x5 x6 x7 z1 z2 z3 z4 z5 z6 z7
                  obtain ⟨z1, z2, z3, z4, z5, z6⟩ := hs4.out.facts
                  have z7 := hs4.out.lt
                  clear hs3 hs4
                  go_wp2
                  go_ret2
                  exact ⟨hB4.out.alloc hB4.out.size _, .inr ⟨hfail.out, rfl⟩⟩
                  )
              · skip
                go_wp2_with fail
                go_region_held3 (fun w' => w'.cell? ⟨ba, oa + y, none⟩ = some (.slice (some ⟨bx, ox, none⟩) lx.length rc) ∧ w'.cell? ⟨bx, ox + z * 3, none⟩ = some (.bool g1) ∧ w'.cell? ⟨bx, ox + z * 3 + 1, none⟩ = some (.string n1) ∧ w'.cell? ⟨bx, ox + z * 3 + 2, none⟩ = some (.string d1') ∧ w'.cell? ⟨bb, ob + z * 3, none⟩ = some (.bool g2) ∧ w'.cell? ⟨bb, ob + z * 3 + 1, none⟩ = some (.string n2) ∧ w'.cell? ⟨bb, ob + z * 3 + 2, none⟩ = some (.string d2')) (first | (with_reducible exact HO.out _ hBe.out) | (with_reducible exact HO.out _ hBd.out) | (with_reducible exact HO.out _ hBw.out) | (with_reducible exact HO.out _ hBa.out) | (with_reducible exact HO.out _ hB2.out) | (with_reducible exact HO.out _ (hB2.out.alloc hB2.out.size _)) | (with_reducible exact HO.out _ (((hB2.out.setCell hwz.out _).setCell hwz.out _).setCell hwz.out _)) | go_keep)
                  (first
                    | (go_at_call 21; refine (km.out _ ?_).mono ?_; (with_reducible exact hE.out.below hBd.out); rintro e w2 ⟨rfl, hb2⟩; have hx2 := Lib.hid (hxd.out.below hb2); have hs2 := Lib.hid (hsd.out.below hb2); have hB2 := Lib.hid (hBd.out.trans (hb2.mono hBd.out.size)); have hC2 := Lib.hid (hCd.out.trans (hb2.mono hCd.out.size)); obtain ⟨y1, y2, y3, y4, y5, y6⟩ := hx2.out.facts; have y7 := hx2.out.lt; clear hb2)
                    | (go_at_call 21; refine (km.out _ ?_).mono ?_; (with_reducible exact hE.out.below hBe.out); rintro e w2 ⟨rfl, hb2⟩; have hs2 := Lib.hid (hse.out.below hb2); have hB2 := Lib.hid (hBe.out.trans (hb2.mono hBe.out.size)); have hC2 := Lib.hid (hCe.out.trans (hb2.mono hCe.out.size)); clear hb2))
                all_goals (
                  first
                    | (obtain ⟨w3, hw3⟩ : ∃ W, W = w2.alloc (.cells #[.bool r1g, .string r1n, .string r1d] 31) := ⟨_, rfl⟩; rw [← hw3]; have hs3 : Hid (B3 w3 B8 sg sn sd) := (by rw [hw3]; exact hs2.out.alloc _); have hx3 : Hid (B3 w3 w2.heap.size r1g r1n r1d) := (by rw [hw3]; exact B3.new w2 _ _ _); have hB3 : Hid (Below w.heap.size w w3) := (by rw [hw3]; exact hB2.out.alloc hB2.out.size _); have hC3 : Hid (Below w1.heap.size w1 w3) := (by rw [hw3]; exact hC2.out.alloc hC2.out.size _))
                    | (obtain ⟨w3, hw3⟩ : ∃ W, W = ((w2.setCell ⟨wr.heap.size, 0, none⟩ (.bool r1g)).setCell ⟨wr.heap.size, 1, none⟩ (.string r1n)).setCell ⟨wr.heap.size, 2, none⟩ (.string r1d) := ⟨_, rfl⟩; rw [← hw3]; have hs3 : Hid (B3 w3 B8 sg sn sd) := (by rw [hw3]; exact ((hs2.out.other hne.out _).other hne.out _).other hne.out _); have hx3 : Hid (B3 w3 wr.heap.size r1g r1n r1d) := (by rw [hw3]; exact ((hx2.out.set0 r1g).set1 r1n).set2 r1d); have hB3 : Hid (Below w.heap.size w w3) := (by rw [hw3]; exact ((hB2.out.setCell hwz.out _).setCell hwz.out _).setCell hwz.out _); have hC3 : Hid (Below w1.heap.size w1 w3) := (by rw [hw3]; exact ((hC2.out.setCell hwz1.out _).setCell hwz1.out _).setCell hwz1.out _); clear hx2 y1 y2 y3 y4 y5 y6 y7)
                  clear hw3 hs2 hB2 hC2 hBe hBd hBa hBw hCe hCd hse hsd hxd hne hwz hwz1 j0 j1 km HO
                  obtain ⟨x1, x2, x3, x4, x5, x6⟩ := hx3.out.facts
                  have x7 := hx3.out.lt
                  obtain ⟨z1, z2, z3, z4, z5, z6⟩ := hs3.out.facts
                  have z7 := hs3.out.lt
                  go_wp2_with fail
                  refine (ka.out _ (hE.out.below hB3.out)).mono ?_
                  rintro e w4 ⟨rfl, hb4⟩
                  have hs4 := Lib.hid (hs3.out.below hb4)
                  have hB4 := Lib.hid (hB3.out.trans (hb4.mono hB3.out.size))
                  have hC4 := Lib.hid (hC3.out.trans (hb4.mono hC3.out.size))
                  clear hb4 x1 x2 x3 x4 x5 x6 x7 z1 z2 z3 z4 z5 z6 z7
                  obtain ⟨z1, z2, z3, z4, z5, z6⟩ := hs4.out.facts
                  have z7 := hs4.out.lt
                  clear hs3 hs4
                  go_wp2
                  go_ret2
                  exact ⟨hB4.out.alloc hB4.out.size _, .inr ⟨hfail.out, rfl⟩⟩
                  )
              · skip
                go_wp2_with fail
                go_region_held3 (fun w' => w'.cell? ⟨ba, oa + y, none⟩ = some (.slice (some ⟨bx, ox, none⟩) lx.length rc) ∧ w'.cell? ⟨bx, ox + z * 3, none⟩ = some (.bool g1) ∧ w'.cell? ⟨bx, ox + z * 3 + 1, none⟩ = some (.string n1) ∧ w'.cell? ⟨bx, ox + z * 3 + 2, none⟩ = some (.string d1') ∧ w'.cell? ⟨bb, ob + z * 3, none⟩ = some (.bool g2) ∧ w'.cell? ⟨bb, ob + z * 3 + 1, none⟩ = some (.string n2) ∧ w'.cell? ⟨bb, ob + z * 3 + 2, none⟩ = some (.string d2')) (first | (with_reducible exact HO.out _ hBe.out) | (with_reducible exact HO.out _ hBd.out) | (with_reducible exact HO.out _ hBw.out) | (with_reducible exact HO.out _ hBa.out) | (with_reducible exact HO.out _ hB2.out) | (with_reducible exact HO.out _ (hB2.out.alloc hB2.out.size _)) | (with_reducible exact HO.out _ (((hB2.out.setCell hwz.out _).setCell hwz.out _).setCell hwz.out _)) | go_keep)
                  (first
                    | (go_at_call 21; refine (km.out _ ?_).mono ?_; (with_reducible exact hE.out.below hBd.out); rintro e w2 ⟨rfl, hb2⟩; have hx2 := Lib.hid (hxd.out.below hb2); have hs2 := Lib.hid (hsd.out.below hb2); have hB2 := Lib.hid (hBd.out.trans (hb2.mono hBd.out.size)); have hC2 := Lib.hid (hCd.out.trans (hb2.mono hCd.out.size)); obtain ⟨y1, y2, y3, y4, y5, y6⟩ := hx2.out.facts; have y7 := hx2.out.lt; clear hb2)
                    | (go_at_call 21; refine (km.out _ ?_).mono ?_; (with_reducible exact hE.out.below hBe.out); rintro e w2 ⟨rfl, hb2⟩; have hs2 := Lib.hid (hse.out.below hb2); have hB2 := Lib.hid (hBe.out.trans (hb2.mono hBe.out.size)); have hC2 := Lib.hid (hCe.out.trans (hb2.mono hCe.out.size)); clear hb2))
                all_goals (
                  first
                    | (obtain ⟨w3, hw3⟩ : ∃ W, W = w2.alloc (.cells #[.bool r1g, .string r1n, .string r1d] 31) := ⟨_, rfl⟩; rw [← hw3]; have hs3 : Hid (B3 w3 B8 sg sn sd) := (by rw [hw3]; exact hs2.out.alloc _); have hx3 : Hid (B3 w3 w2.heap.size r1g r1n r1d) := (by rw [hw3]; exact B3.new w2 _ _ _); have hB3 : Hid (Below w.heap.size w w3) := (by rw [hw3]; exact hB2.out.alloc hB2.out.size _); have hC3 : Hid (Below w1.heap.size w1 w3) := (by rw [hw3]; exact hC2.out.alloc hC2.out.size _))
                    | (obtain ⟨w3, hw3⟩ : ∃ W, W = ((w2.setCell ⟨wr.heap.size, 0, none⟩ (.bool r1g)).setCell ⟨wr.heap.size, 1, none⟩ (.string r1n)).setCell ⟨wr.heap.size, 2, none⟩ (.string r1d) := ⟨_, rfl⟩; rw [← hw3]; have hs3 : Hid (B3 w3 B8 sg sn sd) := (by rw [hw3]; exact ((hs2.out.other hne.out _).other hne.out _).other hne.out _); have hx3 : Hid (B3 w3 wr.heap.size r1g r1n r1d) := (by rw [hw3]; exact ((hx2.out.set0 r1g).set1 r1n).set2 r1d); have hB3 : Hid (Below w.heap.size w w3) := (by rw [hw3]; exact ((hB2.out.setCell hwz.out _).setCell hwz.out _).setCell hwz.out _); have hC3 : Hid (Below w1.heap.size w1 w3) := (by rw [hw3]; exact ((hC2.out.setCell hwz1.out _).setCell hwz1.out _).setCell hwz1.out _); clear hx2 y1 y2 y3 y4 y5 y6 y7)
                  clear hw3 hs2 hB2 hC2 hBe hBd hBa hBw hCe hCd hse hsd hxd hne hwz hwz1 j0 j1 km HO
                  obtain ⟨x1, x2, x3, x4, x5, x6⟩ := hx3.out.facts
                  have x7 := hx3.out.lt
                  obtain ⟨z1, z2, z3, z4, z5, z6⟩ := hs3.out.facts
                  have z7 := hs3.out.lt
                  go_wp2_with fail
                  refine (ka.out _ (hE.out.below hB3.out)).mono ?_
                  rintro e w4 ⟨rfl, hb4⟩
                  have hs4 := Lib.hid (hs3.out.below hb4)
                  have hB4 := Lib.hid (hB3.out.trans (hb4.mono hB3.out.size))
                  have hC4 := Lib.hid (hC3.out.trans (hb4.mono hC3.out.size))
                  clear hb4 x1 x2 x3 x4 x5 x6 x7 z1 z2 z3 z4 z5 z6 z7
                  obtain ⟨z1, z2, z3, z4, z5, z6⟩ := hs4.out.facts
                  have z7 := hs4.out.lt
                  clear hs3 hs4
                  go_wp2
                  go_ret2
                  exact ⟨hB4.out.alloc hB4.out.size _, .inr ⟨hfail.out, rfl⟩⟩
                  )
          · obtain rfl : z = lx.length := by omega
            obtain ⟨s, hs1, hs2, hs3⟩ := hS.out
            obtain ⟨rs, ha1, ha2⟩ := hown1.out
            have ho : Hid (wr.ownsRow w.heap.size 31 3 u6 y (rowL y fun i => rq (rs.getD i 0))) := own_below ha2 hCr.out
            have hnx : Hid (apTo (rowsOf la) lx (y + 1) = some (rs ++ [s])) := ap_next ha1 (by rw [hrow.out]; exact hrl) (by rw [hrow.out]; exact hs1)
            have hmore : Hid ((rowL y fun i => rq (rs.getD i 0)) ++ rawL (rq s) = rowL (y + 1) fun i => rq ((rs ++ [s]).getD i 0)) := rows_more (apTo_some ha1).1
            obtain ⟨sraw, hsr⟩ : ∃ x, x = rq s := ⟨_, rfl⟩
            rw [← hsr] at hs3 hmore
            obtain ⟨sg, sn, sd⟩ := sraw
            replace hs3 : B3 wr B8 sg sn sd := hs3
            obtain ⟨z1, z2, z3, z4, z5, z6⟩ := hs3.facts
            have z7 := hs3.lt
            have hszw := hBw.out.size
            clear hs1 hs2 ha1 ha2 hsr hs3 d3 d2 hS hown1
            go_wp2_with (at_builtin; refine wpList_append_own _ rfl _ _ 23 rfl w.heap.size 31 i0 (.agg #[.bool false, .string ⟨#[]⟩, .string ⟨#[]⟩]) 3 40 Tryz.underlying23 hi0.out hz0.out hz1.out hz2.out rfl (by decide) u6 y (rowL y fun i => rq (rs.getD i 0)) rfl (ho.out.alloc _) ⟨wr.heap.size, 0, none⟩ 1 1 (rawL (sg, sn, sd)) rfl rfl (raw_new _ _ _ _ _) (raw_cell _) (by unfold maxLen; omega) (by omega) (by simp; omega) ?_; intro v2 w2 hown2 hgr2 _)
            refine ⟨⟨y + 1, by omega, by go_num, ⟨rs ++ [s], hnx.out, ?_⟩, (hBw.out.alloc hszw _).grown hgr2 (by simp; omega) (fun b e => (ho.out.lt b e).1)⟩, by simp only [intOf]; omega⟩
            rw [← hmore.out]
            exact hown2
      · have t1 : ((rl.length : Int) == (lx.length : Int)) = false := by rw [beq_eq_false_iff_ne]; omega
        have t2 : ((rl.length : Int) != (lx.length : Int)) = true := by rw [bne_iff_ne]; omega
        have t3 : (rl.length == lx.length) = false := by rw [beq_eq_false_iff_ne]; exact hrl
        have hfail : Hid (appliedB (rowsOf la) lx = none) := by
          show appliedB (rowsOf la) lx = none
          refine apTo_none (k := y + 1) (ap_stop ?_) (by rw [rowsOf_length]; omega)
          rw [hrow.out]
          unfold rowAp
          rw [if_neg hrl]
        have hB2 := Lib.hid (hB1.out.alloc hlow (.cells #[.bool false, .string ⟨#[48]⟩, .string ⟨#[49]⟩] 31))
        go_wp2
        go_ret2
        exact ⟨hB2.out, .inr ⟨hfail.out, rfl⟩⟩
    · obtain rfl : y = la.length := by omega
      have hfin : Hid (∃ rs, appliedB (rowsOf la) lx = some rs ∧ wr.ownsRow w.heap.size 31 3 u6 rs.length (rowL rs.length fun i => rq (rs.getD i 0))) := by
        obtain ⟨rs, h1, h2⟩ := hown.out
        have h3 := (apTo_some h1).1
        refine ⟨rs, by unfold appliedB; rw [rowsOf_length]; exact h1, ?_⟩
        rw [h3]; exact h2
      go_wp2
      go_ret2
      obtain ⟨rs, h1, h2⟩ := hfin.out
      exact ⟨hBr.out, .inl ⟨rs, _, h1, rfl, h2⟩⟩
end Nt
end Go.Proofs.YtjjlnahipiinfaaGreatDoor

namespace Go.Proofs.YtjjlnahipiinfaaGreatDoor
open Go.RowKit Go.Shelf
namespace Nt

theorem elimRow_ok {n k i : Nat} {M M' : Mx} (hO : ∀ a b, a < n → b ≤ n → OkQ (M a b)) (h : elimRow SQ n k i M = some M') : ∀ a b, a < n → b ≤ n → OkQ (M' a b) := by
  unfold elimRow at h
  split at h
  · simp only [Option.some.injEq] at h; rw [← h]; exact hO
  · split at h
    · rename_i hs
      simp only [Option.some.injEq] at h
      rw [← h]
      have hk := (okSub_iff SQ).1 hs
      intro a b ha hb
      unfold subR
      split
      · rename_i hc
        obtain ⟨h1, h2, h3, h4⟩ := hk b hc.2 hb
        exact okQ_sub (of_decide_eq_true h3) (of_decide_eq_true h4)
      · exact hO a b ha hb
    · cases h
theorem elimTo_ok {n k : Nat} {M : Mx} (hO : ∀ a b, a < n → b ≤ n → OkQ (M a b)) : ∀ {i : Nat} {M' : Mx}, i ≤ n → elimTo SQ n k i M = some M' → ∀ a b, a < n → b ≤ n → OkQ (M' a b) := by
  intro i
  induction i with
  | zero => intro M' _ h; simp only [elimTo, Option.some.injEq] at h; rw [← h]; exact hO
  | succ i ih =>
    intro M' hi h
    simp only [elimTo, Option.bind_eq_some_iff] at h
    obtain ⟨M1, h1, h2⟩ := h
    exact elimRow_ok (ih (by omega) h1) h2
theorem stepK_ok {n k : Nat} {M M' : Mx} (hk : k < n) (hO : ∀ a b, a < n → b ≤ n → OkQ (M a b)) (h : stepK SQ n k M = .ok M') : ∀ a b, a < n → b ≤ n → OkQ (M' a b) := by
  unfold stepK at h
  split at h
  · cases h
  · rename_i p hp
    obtain ⟨p1, p2, p3, _⟩ := pivot_some (by omega) hp
    have hsw : ∀ a b, a < n → b ≤ n → OkQ (swapR k p M a b) := fun a b ha hb => by
      unfold swapR
      split
      · exact hO p b p2 hb
      · split
        · exact hO k b hk hb
        · exact hO a b ha hb
    split at h
    · rename_i hd
      have hd2 := (okDiv_iff SQ).1 hd
      have hne : swapR k p M k k ≠ 0 := by unfold swapR; rw [if_pos rfl]; exact p3
      have hdv : ∀ a b, a < n → b ≤ n → OkQ (divMx k (swapR k p M) a b) := fun a b ha hb => by
        unfold divMx
        split
        · rename_i hc
          obtain ⟨h1, h2⟩ := hd2 b hc.2 hb
          exact okQ_div (of_decide_eq_true h1) (of_decide_eq_true h2) hne
        · exact hsw a b ha hb
      split at h
      · rename_i M2 h2
        simp only [Except.ok.injEq] at h
        rw [← h]
        exact elimTo_ok hdv (Nat.le_refl n) h2
      · cases h
    · cases h
theorem solveTo_ok {n : Nat} {M : Mx} (hO : ∀ a b, a < n → b ≤ n → OkQ (M a b)) : ∀ {k : Nat} {M' : Mx}, k ≤ n → solveTo SQ n k M = .ok M' → ∀ a b, a < n → b ≤ n → OkQ (M' a b) := by
  intro k
  induction k with
  | zero => intro M' _ h; simp only [solveTo, Except.ok.injEq] at h; rw [← h]; exact hO
  | succ k ih =>
    intro M' hk h
    simp only [solveTo] at h
    cases h1 : solveTo SQ n k M with
    | error e => rw [h1] at h; cases h
    | ok M1 => rw [h1] at h; exact stepK_ok (by omega) (ih (by omega) h1) h
theorem solveB_sz {A : List (List Raw)} {b xs : List Raw} (h : solveB A b = .ok xs) : xs.length = b.length ∧ ∀ x ∈ xs, rawSz x := by
  obtain ⟨⟨h1, _, _, h4, h5⟩, M, hM, rfl⟩ := solveB_ok h
  refine ⟨outL_length _ _, fun x hx => ?_⟩
  obtain ⟨i, hi, rfl⟩ := List.getElem_of_mem hx
  rw [outL_get]
  rw [outL_length] at hi
  refine rawSz_rq (solveTo_ok (fun a c ha hc => ?_) (Nat.le_refl _) hM i b.length hi (Nat.le_refl _))
  by_cases e : c = b.length
  · rw [e, sysM_eq rfl]
    unfold rhs
    rw [getD_at ha]
    exact (raw_of (allV_iff.1 h4 a ha)).2
  · rw [sysM_lt (by omega)]
    unfold ent
    obtain ⟨a1, a2⟩ := matB_iff.1 h5 a (by omega)
    rw [getD_at (l := A) (by omega), getD_at (by omega)]
    exact (raw_of (allV_iff.1 a2 c (by omega))).2

theorem Applied_ok (Aa Ab : Option Addr) (ca cb : Nat) (la : List RowH) (lx : List Raw) (rs : List Rat) (w : World) (hE : Env w) (hs : SysIn w Aa Ab la lx) (h12 : la.length ≤ 1000) (h : appliedB (rowsOf la) lx = some rs) :
    Calls Tryz.prog 18 #[.slice Aa la.length ca, .slice Ab lx.length cb] w fun e w' => (∃ p c, e = .returned (.tuple #[.slice p (rs.map rq).length c, .bool true]) ∧ InRow w' p (rs.map rq)) ∧ Below w.heap.size w w' :=
  (applied_any Aa Ab ca cb la lx w hE hs h12).mono fun e w' ⟨hB, hr⟩ => ⟨by
    rcases hr with ⟨rs2, v, h1, he, hown⟩ | ⟨h1, _⟩
    · rw [h, Option.some.injEq] at h1
      subst h1
      obtain ⟨p, c, rfl, hin⟩ := inRow_of_own hown
      have e : (List.range rs.length).map (fun i => rq (rs.getD i 0)) = rs.map rq := by
        apply List.ext_getElem
        · simp
        · intro i h1 h2
          have hi : i < rs.length := by simpa using h2
          simp only [List.getElem_map, List.getElem_range]
          rw [getD_at hi]
      rw [e] at hin
      exact ⟨p, c, by rw [he, List.length_map], hin⟩
    · rw [h] at h1
      exact absurd h1 (by simp), hB⟩
theorem Applied_no (Aa Ab : Option Addr) (ca cb : Nat) (la : List RowH) (lx : List Raw) (w : World) (hE : Env w) (hs : SysIn w Aa Ab la lx) (h12 : la.length ≤ 1000) (h : appliedB (rowsOf la) lx = none) :
    Calls Tryz.prog 18 #[.slice Aa la.length ca, .slice Ab lx.length cb] w fun e w' => e = .returned (.tuple #[.slice none 0 0, .bool false]) ∧ Below w.heap.size w w' :=
  (applied_any Aa Ab ca cb la lx w hE hs h12).mono fun e w' ⟨hB, hr⟩ => ⟨by
    rcases hr with ⟨rs2, v, h1, _⟩ | ⟨_, he⟩
    · rw [h] at h1
      exact absurd h1 (by simp)
    · exact he, hB⟩
theorem Same_eq (A B : Option Addr) (ca cb : Nat) (l : List Raw) (w : World) (hl : InRow w A l) (hm : InRow w B l) (h63 : l.length ≤ 1000) :
    Calls Tryz.prog 14 #[.slice A l.length ca, .slice B l.length cb] w fun e w' => e = .returned (.bool true) ∧ Below w.heap.size w w' := by
  have h := same_any A B ca cb l l rfl w hl hm (by omega)
  rwa [decide_eq_true rfl] at h
theorem SysIn.swap {w w' : World} {Aa Ab Ac : Option Addr} {la : List RowH} {lb lc : List Raw} (h : SysIn w Aa Ab la lb) (hb : Below w.heap.size w w') (hc : InRow w' Ac lc) (hn : lc.length ≤ 140737488355328) (hz : ∀ x ∈ lc, rawSz x) : SysIn w' Aa Ac la lc :=
  ⟨h.ma.below hb (Nat.le_refl _), hc, h.na, hn, h.za, hz⟩
/-- What the laws' head gives. -/
def HeadC : Prop := ∀ W, Env W → Calls Tryz.prog 10 #[] W fun e w' => e = .returned (.bool true) ∧ Below W.heap.size W w'
end Nt
end Go.Proofs.YtjjlnahipiinfaaGreatDoor

namespace Go.Proofs.YtjjlnahipiinfaaGreatDoor
open Go.RowKit Go.Shelf
namespace Nt

/-- No block in common. -/
def Apart (u v : Value) : Prop := ∀ b, u.ownBlock = some b → v.ownBlock ≠ some b
theorem Apart.symm {u v : Value} (h : Apart u v) : Apart v u := fun b h1 h2 => h b h2 h1
theorem apart_nil (u : Value) : Apart u (.slice none 0 0) := fun b _ h => by cases h
theorem apart_nil' (u : Value) : Apart (.slice none 0 0) u := fun b h => by cases h
section
variable {w w' : World} {base : Nat} {e : TypeId} {size : Nat} {u v v' : Value} {n : Nat} {xs : List Value}
theorem own_keep (h : w.ownsRow base e size u n xs) (hg : w.grownBy w' v.ownBlock) (ha : Apart u v) : w'.ownsRow base e size u n xs :=
  h.kept hg (by
    cases hu : u.ownBlock with
    | none => exact .inl rfl
    | some b => exact .inr fun e2 => ha b hu e2.symm)
theorem apart_new (h : w.ownsRow base e size u n xs) (hn : v'.ownBlock = v.ownBlock ∨ v'.ownBlock = some w.heap.size) (ha : Apart u v) : Apart u v' := fun b hb h2 => by
  rcases hn with hn | hn
  · exact ha b hb (hn ▸ h2)
  · have := (h.lt b hb).2
    rw [hn] at h2
    simp only [Option.some.injEq] at h2
    omega
theorem run_append_at {P : Program} (t ty e : TypeId) (i : TypeInfo) (z : Value) (size bytes : Nat) (ht : P.underlying t = some (.slice e)) (hi : P.info? e = some i) (hz : i.zero = some z)
    (hsize : i.size = size) (hby : i.bytes = bytes) (v : Value) (n : Nat) (xs : List Value) (hown : w.ownsRow base e size v n xs)
    (a : Addr) (m c : Nat) (news : List Value) (hl : news.length = m * size) (hnews : ∀ j u, news[j]? = some u → w.cell? (a.add j) = some u) (h1 : ∀ u ∈ news, u.oneCell' = true) (hm : 0 < m)
    (h63 : n + m ≤ maxLen) (hbytes : (n + m) * bytes ≤ 140737488355328) {v' : Value} {w' : World} (hr : (Builtin.append_ #[t, t] ty #[v, .slice (some a) m c]).run P w = .ok v' w') :
    v'.ownBlock = v.ownBlock ∨ v'.ownBlock = some w.heap.size := by
  subst hsize
  subst hby
  have hsmall : n + m ≤ 9223372036854775807 := by simp only [maxLen] at h63; omega
  rcases hown.2 with ⟨rfl, rfl⟩ | ⟨g, cap, cur, rfl, _, hg, _, hcm, hcs, _⟩
  · have hr2 := run_append_nil (P := P) w t ty e i z ht hi hz a m c news hl hnews (by omega) (by omega) (by have hb := hbytes; simp only [Nat.zero_add] at hb; omega)
    rw [hr2] at hr
    simp only [Result.ok.injEq] at hr
    rw [← hr.1]
    exact .inr rfl
  · by_cases hroom : n + m ≤ cap
    · have hfit : n * i.size + news.length ≤ cur.size := by rw [hl, hcs, ← Nat.add_mul]; exact Nat.mul_le_mul_right _ hroom
      have hr2 := run_append_room (P := P) w t ty e i ht hi g n cap cur hg a m c news hl hnews h1 hroom hfit
      rw [hr2] at hr
      simp only [Result.ok.injEq] at hr
      rw [← hr.1]
      exact .inl rfl
    · have holds : ∀ j u, xs[j]? = some u → w.cell? ((⟨g, 0, none⟩ : Addr).add j) = some u := hown.cells (g := g) rfl
      have hr2 := run_append_grow (P := P) w t ty e i z ht hi hz ⟨g, 0, none⟩ n cap xs hown.1 holds a m c news hl hnews (by omega) (by omega) (growslice_fits (by omega) hbytes)
      rw [hr2] at hr
      simp only [Result.ok.injEq] at hr
      rw [← hr.1]
      exact .inr rfl
end
/-- append's law, and where the new slice lies. -/
theorem wpList_append_new {P : Program} (w : World) {ops : Array Oper} {rest : List Oper} {o : Oper} {a : Act} {Q : Exit → Act → World → Prop} (hgd : o.guard = none) (s x : Operand) (t : TypeId)
    (ho : o.op = .call { callee := .builtin .append, args := #[s, x], argTypes := #[t, t] })
    (base : Nat) (e : TypeId) (i : TypeInfo) (z : Value) (size bytes : Nat) (ht : P.underlying t = some (.slice e)) (hi : P.info? e = some i) (hz : i.zero = some z)
    (hsize : i.size = size) (hby : i.bytes = bytes) (hzs : z.cells.size = size) (hsz : 0 < size)
    (v : Value) (n : Nat) (xs : List Value) (hs : a.eval s = v) (hown : w.ownsRow base e size v n xs)
    (ad : Addr) (m c : Nat) (news : List Value) (hx : a.eval x = .slice (some ad) m c) (hl : news.length = m * size) (hnews : ∀ j u, news[j]? = some u → w.cell? (ad.add j) = some u) (h1 : ∀ u ∈ news, u.oneCell' = true) (hm : 0 < m)
    (h63 : n + m ≤ maxLen) (hbytes : (n + m) * bytes ≤ 140737488355328) (hbase : base ≤ w.heap.size)
    (h : ∀ v' w', w'.ownsRow base e size v' (n + m) (xs ++ news) → w.grownBy w' v.ownBlock → (v'.ownBlock = v.ownBlock ∨ v'.ownBlock = some w.heap.size) → wpList P ops Q rest (a.put o.dst v') w') : wpList P ops Q (o :: rest) a w :=
  wpList_plain hgd fun _ hK => by
    obtain ⟨v', w', hr, h2, h3, _⟩ := run_append_own (P := P) w base t o.type e i z size bytes ht hi hz hsize hby hzs hsz v n xs hown ad m c news hl hnews h1 h63 hbytes hbase
    have h5 := run_append_at (P := P) t o.type e i z size bytes ht hi hz hsize hby v n xs hown ad m c news hl hnews h1 hm h63 hbytes hr
    unfold Oper.wp execOp
    simp only [ho, resolve, invoke, builtin, Sem.run_bind, Sem.run_pure, Result.andThen_ok, List.map_toArray, List.map_cons, List.map_nil, hs, hx, hr]
    exact hK _ _ (h v' w' h2 h3 h5)
theorem one_cell1 (v : Value) (h : v.oneCell' = true) : ∀ u ∈ [v], u.oneCell' = true := fun u hu => by rw [List.mem_singleton.1 hu]; exact h
theorem head_new (w : World) (v : Value) (t : TypeId) : ∀ j u, [v][j]? = some u → (w.alloc (.cells #[v] t)).cell? (Addr.add ⟨w.heap.size, 0, none⟩ j) = some u := by
  intro j u hj
  match j, hj with
  | 0, hj => simp at hj; subst hj; simp [Addr.add]
  | j + 1, hj => simp at hj
end Nt
end Go.Proofs.YtjjlnahipiinfaaGreatDoor

namespace Go.Proofs.YtjjlnahipiinfaaGreatDoor
open Go.RowKit Go.Shelf
namespace Nt

def hdr (x : RowH) : Value := .slice x.1 x.2.2.length x.2.1
def rowD0 : RowH := (none, 0, [])
/-- The slices of the law's loop: back, right, turned with its rows, and the row under way. -/
structure Qd (W : World) (B n : Nat) (la : List RowH) (lb : List Raw) (y7 y9 y8 z : Nat) (v7 v8 v9 v11 : Value) (R : Nat → Value) : Prop where
  o7 : W.ownsRow B 23 1 v7 y7 ((List.range y7).map fun i => hdr (la.getD (n - 1 - i) rowD0))
  o9 : W.ownsRow B 31 3 v9 y9 (rowL y9 fun i => lb.getD (n - 1 - i) zraw)
  o8 : W.ownsRow B 23 1 v8 y8 ((List.range y8).map R)
  oR : ∀ i, i < y8 → W.ownsRow B 31 3 (R i) n (rowL n fun j => (la.getD i rowD0).2.2.getD (n - 1 - j) zraw)
  o11 : W.ownsRow B 31 3 v11 z (rowL z fun j => (la.getD y8 rowD0).2.2.getD (n - 1 - j) zraw)
  a78 : Apart v7 v8
  a79 : Apart v7 v9
  a89 : Apart v8 v9
  a17 : Apart v11 v7
  a18 : Apart v11 v8
  a19 : Apart v11 v9
  r7 : ∀ i, i < y8 → Apart (R i) v7
  r8 : ∀ i, i < y8 → Apart (R i) v8
  r9 : ∀ i, i < y8 → Apart (R i) v9
  r1 : ∀ i, i < y8 → Apart (R i) v11
section
variable {W W' : World} {B n : Nat} {la : List RowH} {lb : List Raw} {y7 y9 y8 z : Nat} {v7 v8 v9 v11 v' : Value} {R : Nat → Value}
theorem Qd.start (W : World) (B n : Nat) (la : List RowH) (lb : List Raw) (R : Nat → Value) : Qd W B n la lb 0 0 0 0 (.slice none 0 0) (.slice none 0 0) (.slice none 0 0) (.slice none 0 0) R :=
  ⟨World.ownsRow_nil _ _ _ _, World.ownsRow_nil _ _ _ _, World.ownsRow_nil _ _ _ _, fun i h => absurd h (by omega), World.ownsRow_nil _ _ _ _, apart_nil _, apart_nil _, apart_nil _, apart_nil _, apart_nil _, apart_nil _, fun i h => absurd h (by omega), fun i h => absurd h (by omega), fun i h => absurd h (by omega), fun i h => absurd h (by omega)⟩
theorem Qd.below (h : Qd W B n la lb y7 y9 y8 z v7 v8 v9 v11 R) (hb : Below W.heap.size W W') : Qd W' B n la lb y7 y9 y8 z v7 v8 v9 v11 R :=
  ⟨own_below h.o7 hb, own_below h.o9 hb, own_below h.o8 hb, fun i hi => own_below (h.oR i hi) hb, own_below h.o11 hb, h.a78, h.a79, h.a89, h.a17, h.a18, h.a19, h.r7, h.r8, h.r9, h.r1⟩
theorem Qd.alloc (h : Qd W B n la lb y7 y9 y8 z v7 v8 v9 v11 R) (o : Obj) : Qd (W.alloc o) B n la lb y7 y9 y8 z v7 v8 v9 v11 R := h.below ((Below.refl _ W).alloc (Nat.le_refl _) o)
theorem Qd.step7 (h : Qd W B n la lb y7 y9 y8 z v7 v8 v9 v11 R) (ho : W'.ownsRow B 23 1 v' (y7 + 1) ((List.range (y7 + 1)).map fun i => hdr (la.getD (n - 1 - i) rowD0))) (hg : W.grownBy W' v7.ownBlock) (hn : v'.ownBlock = v7.ownBlock ∨ v'.ownBlock = some W.heap.size) :
    Qd W' B n la lb (y7 + 1) y9 y8 z v' v8 v9 v11 R :=
  ⟨ho, own_keep h.o9 hg h.a79.symm, own_keep h.o8 hg h.a78.symm, fun i hi => own_keep (h.oR i hi) hg (h.r7 i hi), own_keep h.o11 hg h.a17, (apart_new h.o8 hn h.a78.symm).symm, (apart_new h.o9 hn h.a79.symm).symm, h.a89, apart_new h.o11 hn h.a17, h.a18, h.a19, fun i hi => apart_new (h.oR i hi) hn (h.r7 i hi), h.r8, h.r9, h.r1⟩
theorem Qd.step9 (h : Qd W B n la lb y7 y9 y8 z v7 v8 v9 v11 R) (ho : W'.ownsRow B 31 3 v' (y9 + 1) (rowL (y9 + 1) fun i => lb.getD (n - 1 - i) zraw)) (hg : W.grownBy W' v9.ownBlock) (hn : v'.ownBlock = v9.ownBlock ∨ v'.ownBlock = some W.heap.size) :
    Qd W' B n la lb y7 (y9 + 1) y8 z v7 v8 v' v11 R :=
  ⟨own_keep h.o7 hg h.a79, ho, own_keep h.o8 hg h.a89, fun i hi => own_keep (h.oR i hi) hg (h.r9 i hi), own_keep h.o11 hg h.a19, h.a78, apart_new h.o7 hn h.a79, apart_new h.o8 hn h.a89, h.a17, h.a18, apart_new h.o11 hn h.a19, h.r7, h.r8, fun i hi => apart_new (h.oR i hi) hn (h.r9 i hi), h.r1⟩
theorem Qd.step11 (h : Qd W B n la lb y7 y9 y8 z v7 v8 v9 v11 R) (ho : W'.ownsRow B 31 3 v' (z + 1) (rowL (z + 1) fun j => (la.getD y8 rowD0).2.2.getD (n - 1 - j) zraw)) (hg : W.grownBy W' v11.ownBlock) (hn : v'.ownBlock = v11.ownBlock ∨ v'.ownBlock = some W.heap.size) :
    Qd W' B n la lb y7 y9 y8 (z + 1) v7 v8 v9 v' R :=
  ⟨own_keep h.o7 hg h.a17.symm, own_keep h.o9 hg h.a19.symm, own_keep h.o8 hg h.a18.symm, fun i hi => own_keep (h.oR i hi) hg (h.r1 i hi), ho, h.a78, h.a79, h.a89, (apart_new h.o7 hn h.a17.symm).symm, (apart_new h.o8 hn h.a18.symm).symm, (apart_new h.o9 hn h.a19.symm).symm, h.r7, h.r8, h.r9, fun i hi => apart_new (h.oR i hi) hn (h.r1 i hi)⟩
theorem Qd.step8 (h : Qd W B n la lb y7 y9 y8 n v7 v8 v9 v11 R) (ho : W'.ownsRow B 23 1 v' (y8 + 1) ((List.range y8).map R ++ [v11])) (hg : W.grownBy W' v8.ownBlock) (hn : v'.ownBlock = v8.ownBlock ∨ v'.ownBlock = some W.heap.size) :
    Qd W' B n la lb y7 y9 (y8 + 1) 0 v7 v' v9 (.slice none 0 0) (fun i => if i = y8 then v11 else R i) := by
  have e : (List.range (y8 + 1)).map (fun i => if i = y8 then v11 else R i) = (List.range y8).map R ++ [v11] := by
    rw [List.range_succ, List.map_append]
    congr 1
    · exact List.map_congr_left fun i hi => if_neg (by have := List.mem_range.1 hi; omega)
    · simp
  refine ⟨own_keep h.o7 hg h.a78, own_keep h.o9 hg h.a89.symm, by rw [e]; exact ho, fun i hi => ?_, World.ownsRow_nil _ _ _ _, apart_new h.o7 hn h.a78, h.a79, (apart_new h.o9 hn h.a89.symm).symm, apart_nil' _, apart_nil' _, apart_nil' _, fun i hi => ?_, fun i hi => ?_, fun i hi => ?_, fun i hi => apart_nil _⟩
  · by_cases e : i = y8
    · subst e; rw [if_pos rfl]; exact own_keep h.o11 hg h.a18
    · rw [if_neg e]; exact own_keep (h.oR i (by omega)) hg (h.r8 i (by omega))
  · by_cases e : i = y8
    · rw [if_pos e]; exact h.a17
    · rw [if_neg e]; exact h.r7 i (by omega)
  · by_cases e : i = y8
    · rw [if_pos e]; exact apart_new h.o11 hn h.a18
    · rw [if_neg e]; exact apart_new (h.oR i (by omega)) hn (h.r8 i (by omega))
  · by_cases e : i = y8
    · rw [if_pos e]; exact h.a19
    · rw [if_neg e]; exact h.r9 i (by omega)
end
theorem inMat_of_own {w : World} {base : Nat} {v : Value} {L : List RowH} (h : w.ownsRow base 23 1 v L.length (L.map hdr)) (hr : ∀ x ∈ L, InRow w x.1 x.2.2) :
    ∃ A c, v = .slice A L.length c ∧ InMat w A L := by
  rcases h.2 with ⟨rfl, h0⟩ | ⟨g, cap, cur, rfl, hb, hg, h4, h5, h6, h7⟩
  · exact ⟨none, 0, by rw [h0], fun h => absurd h (by omega)⟩
  · refine ⟨some ⟨g, 0, none⟩, cap, rfl, fun h0 => ⟨g, 0, rfl, (Array.getElem?_eq_some_iff.1 hg).1, fun j hj => ?_⟩⟩
    have hc := h.cells (g := g) (by simp [Value.ownBlock]) j (hdr L[j]) (by simp [hj])
    have hadd : ∀ o, (⟨g, 0, none⟩ : Addr).add o = ⟨g, o, none⟩ := fun o => by unfold Addr.add; split <;> simp_all
    rw [hadd] at hc
    rw [Nat.zero_add]
    exact ⟨hc, hr _ (List.getElem_mem hj)⟩
theorem Solve_r (Aa Ab : Option Addr) (ca cb : Nat) (la : List RowH) (lb : List Raw) (w : World) (hE : Env w) (hs : SysIn w Aa Ab la lb) :
    Calls Tryz.prog 12 #[.slice Aa la.length ca, .slice Ab lb.length cb] w fun e w' => (∃ p c, e = .returned (.tuple #[.slice p (xsOf (solveB (rowsOf la) lb)).length c, .int .i64 (erOf (solveB (rowsOf la) lb))]) ∧ InRow w' p (xsOf (solveB (rowsOf la) lb))) ∧ Below w.heap.size w w' := by
  cases h : solveB (rowsOf la) lb with
  | ok xs => exact Solve_ok Aa Ab ca cb la lb xs w hE hs h
  | error er => exact (Solve_er Aa Ab ca cb la lb er w hE hs h).mono fun e w' h => ⟨⟨none, 0, h.1, fun h => absurd h (by simp [xsOf])⟩, h.2⟩
theorem solve_bd {A : List (List Raw)} {b : List Raw} : 0 ≤ erOf (solveB A b) ∧ erOf (solveB A b) ≤ 100 ∧ (xsOf (solveB A b)).length ≤ b.length ∧ ∀ x ∈ xsOf (solveB A b), rawSz x := by
  cases h : solveB A b with
  | ok xs =>
    obtain ⟨h1, h2⟩ := solveB_sz h
    exact ⟨by simp [erOf], by simp [erOf], by simp only [xsOf]; omega, h2⟩
  | error er =>
    have := solveB_er h
    exact ⟨by simp only [erOf]; omega, by simp only [erOf]; omega, by simp [xsOf], fun x hx => absurd hx (by simp [xsOf])⟩
theorem back_same {n : Nat} {A : List (List Raw)} {b : List Raw} (h : SqB n A b) : sameB (erOf (solveB A b)) (xsOf (solveB A b)) (erOf (solveB A.reverse b.reverse)) (xsOf (solveB A.reverse b.reverse)) = true :=
  same_of4 (by
    rcases back_law h with h | h | h | ⟨f, h1, h2⟩
    · exact .inl h
    · exact .inr (.inl h)
    · exact .inr (.inr (.inl h))
    · exact .inr (.inr (.inr ⟨_, _, h1, h2, by rw [h1, h2]⟩))) (fun e h => by rw [h]; rfl) (fun e h => by rw [h]; rfl)
theorem turn_same {n : Nat} {A : List (List Raw)} {b : List Raw} (h : SqB n A b) : sameB (erOf (solveB A b)) (xsOf (solveB A b)) (erOf (solveB (A.map List.reverse) b)) (xsOf (solveB (A.map List.reverse) b)).reverse = true :=
  same_of4 (by
    rcases turn_law h with h | h | h | ⟨f, h1, h2⟩
    · exact .inl h
    · exact .inr (.inl h)
    · exact .inr (.inr (.inl h))
    · exact .inr (.inr (.inr ⟨_, _, h1, h2, by rw [h1, h2]; exact (outL_rev n f).symm⟩))) (fun e h => by rw [h]; rfl) (fun e h => by rw [h]; rfl)
theorem rowL_map {m : Nat} {r : Nat → Raw} {l : List Raw} (hl : l.length = m) (h : ∀ i (hi : i < l.length), r i = l[i]) : (List.range m).map r = l := by
  apply List.ext_getElem
  · simp [hl]
  · intro i h1 h2
    simp only [List.getElem_map, List.getElem_range]
    exact h i h2
theorem getD_back {α : Type} {l : List α} {d : α} {n i : Nat} (hn : l.length = n) (hi : i < n) : l.reverse.getD i d = l.getD (n - 1 - i) d := by
  rw [getD_rev _ _ (by omega), hn]
/-- The systems at the loop's end. -/
theorem Qd.systems {W : World} {B n : Nat} {la : List RowH} {lb : List Raw} {v7 v8 v9 v11 : Value} {R : Nat → Value} (h : Qd W B n la lb n n n 0 v7 v8 v9 v11 R) (ha : la.length = n) (hb : lb.length = n) (hr : ∀ i (h : i < la.length), la[i].2.2.length = n)
    (hin : ∀ x ∈ la, InRow W x.1 x.2.2) : (∃ A c, v7 = .slice A n c ∧ InMat W A la.reverse) ∧ (∃ A c, v9 = .slice A n c ∧ InRow W A lb.reverse) ∧ ∃ A c L, v8 = .slice A n c ∧ InMat W A L ∧ L.length = n ∧ rowsOf L = (rowsOf la).map List.reverse := by
  refine ⟨?_, ?_, ?_⟩
  · have e : (List.range n).map (fun i => hdr (la.getD (n - 1 - i) rowD0)) = la.reverse.map hdr := by
      apply List.ext_getElem
      · simp [ha]
      · intro i h1 h2
        have hi : i < n := by simpa using h1
        rw [List.getElem_map, List.getElem_map, List.getElem_range, ← getD_back ha hi, getD_at (by simp; omega)]
    have ho := h.o7
    rw [e, show n = la.reverse.length by simp [ha]] at ho
    obtain ⟨A, c, h1, h2⟩ := inMat_of_own ho fun x hx => hin x (by simpa using hx)
    exact ⟨A, c, by rw [h1]; simp [ha], h2⟩
  · obtain ⟨A, c, h1, h2⟩ := inRow_of_own h.o9
    refine ⟨A, c, h1, ?_⟩
    rwa [rowL_map (l := lb.reverse) (by simp [hb]) fun i hi => by
      rw [← getD_back hb (by simpa [hb] using hi), getD_at hi]] at h2
  · have each : ∀ i, i < n → ∃ x : RowH, R i = hdr x ∧ InRow W x.1 x.2.2 ∧ x.2.2 = (la.getD i rowD0).2.2.reverse := by
      intro i hi
      obtain ⟨A, c, h1, h2⟩ := inRow_of_own (h.oR i hi)
      have hl : (la.getD i rowD0).2.2.length = n := by rw [getD_at (by omega)]; exact hr i (by omega)
      rw [rowL_map (l := (la.getD i rowD0).2.2.reverse) (by rw [List.length_reverse, hl]) fun j hj => by
        rw [← getD_back hl (by have h5 : j < (la.getD i rowD0).2.2.reverse.length := hj; rw [List.length_reverse, hl] at h5; exact h5), getD_at hj]] at h2
      exact ⟨(A, c, (la.getD i rowD0).2.2.reverse), by rw [h1]; unfold hdr; rw [List.length_reverse, hl], h2, rfl⟩
    have : Inhabited RowH := ⟨rowD0⟩
    obtain ⟨Y, hY⟩ := Go.Deep.choose_lt each
    have ho := h.o8
    have e : (List.range n).map R = ((List.range n).map Y).map hdr := by
      rw [List.map_map]
      exact List.map_congr_left fun i hi => (hY i (List.mem_range.1 hi)).1
    rw [e, show n = ((List.range n).map Y).length by simp] at ho
    simp only [List.length_map, List.length_range] at ho
    have ho' : W.ownsRow B 23 1 v8 ((List.range n).map Y).length (((List.range n).map Y).map hdr) := by simpa using ho
    obtain ⟨A, c, h1, h2⟩ := inMat_of_own ho' fun x hx => by
      obtain ⟨i, hi, rfl⟩ := List.mem_map.1 hx
      exact (hY i (List.mem_range.1 hi)).2.1
    refine ⟨A, c, (List.range n).map Y, by rw [h1]; simp, h2, by simp, ?_⟩
    apply List.ext_getElem
    · simp [rowsOf, ha]
    · intro i h3 h4
      have hi : i < n := by simpa [rowsOf] using h3
      simp only [rowsOf, List.getElem_map, List.getElem_range]
      rw [(hY i hi).2.2, getD_at (by omega)]
end Nt
end Go.Proofs.YtjjlnahipiinfaaGreatDoor

namespace Go.Proofs.YtjjlnahipiinfaaGreatDoor
open Go.RowKit Go.Shelf
namespace Nt

theorem bal2 {w W : World} (h : Below w.heap.size w W) (o : Obj) : Below w.heap.size w (W.alloc o) := h.alloc h.size o
theorem own_form {W : World} {base : Nat} {e : TypeId} {size : Nat} {v : Value} {n : Nat} {xs : List Value} (h : W.ownsRow base e size v n xs) (hn : 0 < n) :
    ∃ g cap, v = .slice (some ⟨g, 0, none⟩) n cap ∧ base ≤ g ∧ g < W.heap.size ∧ (∀ j, W.frozen? ⟨g, j, none⟩ = false) ∧ ∀ j u, xs[j]? = some u → W.cell? ⟨g, j, none⟩ = some u := by
  rcases h.2 with ⟨rfl, h0⟩ | ⟨g, cap, cur, rfl, hb, hg, _⟩
  · omega
  · refine ⟨g, cap, rfl, hb, (Array.getElem?_eq_some_iff.1 hg).1, fun j => by simp [World.frozen?, hg], fun j u hj => ?_⟩
    have hc := h.cells (g := g) (by simp [Value.ownBlock]) j u hj
    have hadd : ∀ o, (⟨g, 0, none⟩ : Addr).add o = ⟨g, o, none⟩ := fun o => by unfold Addr.add; split <;> simp_all
    rwa [hadd] at hc
theorem own_at {W : World} {base : Nat} {e : TypeId} {size g n cap : Nat} {xs : List Value} (h : W.ownsRow base e size (.slice (some ⟨g, 0, none⟩) n cap) n xs) (hn : 0 < n) :
    base ≤ g ∧ g < W.heap.size ∧ (∀ j, W.frozen? ⟨g, j, none⟩ = false) ∧ ∀ j u, xs[j]? = some u → W.cell? ⟨g, j, none⟩ = some u := by
  obtain ⟨g', cap', e, h1, h2, h3, h4⟩ := own_form h hn
  simp only [Value.slice.injEq, Option.some.injEq, Addr.mk.injEq, and_true, true_and] at e
  obtain ⟨rfl, rfl⟩ := e
  exact ⟨h1, h2, h3, h4⟩
theorem own_set {W : World} {base : Nat} {e : TypeId} {size g n cap i : Nat} {xs : List Value} {v : Value} (h : W.ownsRow base e size (.slice (some ⟨g, 0, none⟩) n cap) n xs) :
    (W.setCell ⟨g, i, none⟩ v).ownsRow base e size (.slice (some ⟨g, 0, none⟩) n cap) n (xs.set i v) := by
  refine ⟨by rw [List.length_set]; exact h.1, ?_⟩
  rcases h.2 with ⟨h0, _⟩ | ⟨g', cap', cur, h1, hb, hg, h4, h5, h6, h7⟩
  · cases h0
  · simp only [Value.slice.injEq, Option.some.injEq, Addr.mk.injEq, and_true, true_and] at h1
    obtain ⟨rfl, rfl⟩ := h1
    refine .inr ⟨g, cap, cur.setIfInBounds i v, rfl, hb, ?_, h4, h5, by simpa using h6, ?_⟩
    · simp [World.setCell, Array.getElem?_modify, hg]
    · rw [Array.toList_setIfInBounds, List.take_set, h7]
theorem own_far {W : World} {base : Nat} {e : TypeId} {size n : Nat} {xs : List Value} {u v : Value} {g i : Nat} (h : W.ownsRow base e size u n xs) (ha : u.ownBlock ≠ some g) :
    (W.setCell ⟨g, i, none⟩ v).ownsRow base e size u n xs :=
  h.kept (row := some g) ⟨rfl, rfl, rfl, by simp, fun k _ hk => Below.heap_setCell _ _ _ _ (fun e => hk (by rw [e]))⟩ (.inr ha)
theorem hdr_one (l : List RowH) : ∀ u ∈ l.map hdr, u.oneCell' = true := fun u hu => by
  obtain ⟨x, _, rfl⟩ := List.mem_map.1 hu
  rfl
theorem hdr_cells {W : World} {b o : Nat} {la : List RowH} (h : InMat W (some ⟨b, o, none⟩) la) : ∀ j u, (la.map hdr)[j]? = some u → W.cell? ((⟨b, o, none⟩ : Addr).add j) = some u := by
  intro j u hj
  have hjl : j < la.length := by have := (List.getElem?_eq_some_iff.1 hj).1; simpa using this
  obtain ⟨b2, o2, e, _, hc⟩ := h (by omega)
  simp only [Option.some.injEq, Addr.mk.injEq, and_true] at e
  obtain ⟨rfl, rfl⟩ := e
  have hadd : (⟨b, o, none⟩ : Addr).add j = ⟨b, o + j, none⟩ := by unfold Addr.add; split <;> simp_all
  rw [hadd, (hc j hjl).1]
  rw [List.getElem?_map, List.getElem?_eq_getElem hjl] at hj
  simpa [hdr] using hj
theorem rowsOf_set (la : List RowH) (i : Nat) (x : RowH) : rowsOf (la.set i x) = (rowsOf la).set i x.2.2 := by
  unfold rowsOf
  rw [List.map_set]
theorem rowsOf_getD (la : List RowH) {k : Nat} (h : k < la.length) : (rowsOf la).getD k [] = la[k].2.2 := by
  rw [getD_at (by rw [rowsOf_length]; exact h), rowsOf_get la k h]
theorem map_outL (n : Nat) (f : Nat → Rat) : (List.range n).map (fun j => rq (f j)) = outL n f := rfl
theorem mem_set_row {la : List RowH} {i : Nat} {x y : RowH} (h : y ∈ la.set i x) : y ∈ la ∨ y = x := List.mem_or_eq_of_mem_set h
theorem wp_append_new {P : Program} (w : World) {o : Oper} {a : Act} {K : Act → World → Prop} {Q : Exit → Act → World → Prop} (s x : Operand) (t : TypeId)
    (ho : o.op = .call { callee := .builtin .append, args := #[s, x], argTypes := #[t, t] })
    (base : Nat) (e : TypeId) (i : TypeInfo) (z : Value) (size bytes : Nat) (ht : P.underlying t = some (.slice e)) (hi : P.info? e = some i) (hz : i.zero = some z)
    (hsize : i.size = size) (hby : i.bytes = bytes) (hzs : z.cells.size = size) (hsz : 0 < size)
    (v : Value) (n : Nat) (xs : List Value) (hs : a.eval s = v) (hown : w.ownsRow base e size v n xs)
    (ad : Addr) (m c : Nat) (news : List Value) (hx : a.eval x = .slice (some ad) m c) (hl : news.length = m * size) (hnews : ∀ j u, news[j]? = some u → w.cell? (ad.add j) = some u) (h1 : ∀ u ∈ news, u.oneCell' = true) (hm : 0 < m)
    (h63 : n + m ≤ maxLen) (hbytes : (n + m) * bytes ≤ 140737488355328) (hbase : base ≤ w.heap.size)
    (h : ∀ v' w', w'.ownsRow base e size v' (n + m) (xs ++ news) → w.grownBy w' v.ownBlock → (v'.ownBlock = v.ownBlock ∨ v'.ownBlock = some w.heap.size) → K (a.put o.dst v') w') : o.wp P a w K Q := by
  obtain ⟨v', w', hr, h2, h3, _⟩ := run_append_own (P := P) w base t o.type e i z size bytes ht hi hz hsize hby hzs hsz v n xs hown ad m c news hl hnews h1 h63 hbytes hbase
  have h5 := run_append_at (P := P) t o.type e i z size bytes ht hi hz hsize hby v n xs hown ad m c news hl hnews h1 hm h63 hbytes hr
  unfold Oper.wp execOp
  simp only [ho, resolve, invoke, builtin, Sem.run_bind, Sem.run_pure, Result.andThen_ok, List.map_toArray, List.map_cons, List.map_nil, hs, hx, hr]
  exact h v' w' h2 h3 h5
theorem inMat_mem {W : World} {A : Option Addr} {la : List RowH} (h : InMat W A la) {x : RowH} (hx : x ∈ la) : InRow W x.1 x.2.2 := by
  obtain ⟨j, hj, rfl⟩ := List.getElem_of_mem hx
  obtain ⟨_, _, _, _, hc⟩ := h (by omega)
  exact (hc j hj).2
/-- A slice of rows whose one header was set is a system. -/
theorem inMat_set {W : World} {B n g cap i : Nat} {la : List RowH} {x : RowH} {hs : List Value} {A : Option Addr} (hl : la.length = n) (ho : W.ownsRow B 23 1 (.slice (some ⟨g, 0, none⟩) n cap) n hs) (he : hs = (la.set i x).map hdr) (hm : InMat W A la) (hx : InRow W x.1 x.2.2) :
    InMat W (some ⟨g, 0, none⟩) (la.set i x) := by
  have hL : (la.set i x).length = n := by rw [List.length_set]; exact hl
  rw [he, ← hL] at ho
  obtain ⟨A', c, e, h⟩ := inMat_of_own ho fun y hy => by
    rcases mem_set_row hy with h1 | h1
    · exact inMat_mem hm h1
    · rw [h1]; exact hx
  simp only [Value.slice.injEq] at e
  rw [e.1]
  exact h
end Nt
end Go.Proofs.YtjjlnahipiinfaaGreatDoor

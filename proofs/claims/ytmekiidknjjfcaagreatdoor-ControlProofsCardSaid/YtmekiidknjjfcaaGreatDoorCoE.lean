/- What Check accepts; majorities as the laws compute them. -/
import Derived.Test.YtmekiidknjjfcaaGreatDoorCoD
namespace Go.Proofs.YtmekiidknjjfcaaGreatDoor
open Go.RowKit Go.Shelf
namespace Co
open Nt Ci

section
variable {V : List (Nat × Nat × Nat)} {n p q j : Nat} {L : List Nat} {S : Nat → Bool}
theorem ctl_in (hV : VIn n V) (hq : q < n) : decide (0 ≤ rd V L q) = inR V L n q := by
  rw [Bool.eq_iff_iff, decide_eq_true_iff, rd_in]
  exact ⟨fun h => ⟨h, rd_lt hV hq⟩, fun h => h.1⟩
theorem maj_ctl (hV : VIn n V) : maj V (fun q => decide (0 ≤ rd V L q)) p = maj V (inR V L n) p := maj_congr fun x hx => ctl_in hV (hV x hx).2
/-- Whom the controlled ones control is controlled. -/
theorem maj_is (hV : VIn n V) (hS : ∀ q, q < n → S q = true → 0 ≤ rd V L q) (h : maj V S p = true) : 0 ≤ rd V L p := by
  have h1 : maj V (fun q => decide (0 ≤ rd V L q)) p = true := maj_mono (fun x hx hh => decide_eq_true (hS _ (hV x hx).2 hh)) h
  rw [maj_ctl hV] at h1
  have h2 : inR V L (n + 1) p = true := by rw [inR_succ, h1, Bool.or_true]
  exact (rd_in.1 h2).1
theorem maj_not (hV : VIn n V) (hp : rd V L p < 0) : maj V (fun q => decide (0 ≤ rd V L q)) p = false := by
  cases h : maj V (fun q => decide (0 ≤ rd V L q)) p
  · rfl
  · have := maj_is hV (S := fun q => decide (0 ≤ rd V L q)) (fun q _ hq => of_decide_eq_true hq) h
    omega
end
section
variable {s : SR} {F lo lc : List Int} {party : Int} {is : Bool}
theorem getLast_of {l : List Int} {x : Int} (h : lastB l x = true) : x ∈ l := by
  unfold lastB at h
  exact List.mem_of_getLast? (of_decide_eq_true h)
theorem chk_no2 (h : (chk s F party lo lc).2 = false) : (chk s F party lo lc).1 = false := by
  unfold chk at h ⊢
  split at h
  · rename_i c
    rw [if_pos c]
    split at h
    · rename_i c2
      rw [if_pos c2]
      exact h
    · rename_i c2
      rw [if_neg c2]
      split at h
      · rename_i c3
        rw [if_pos c3]
      · rename_i c3
        rw [if_neg c3]
        exact h
  · rename_i c
    rw [if_neg c]
/-- All that an accepted order names is controlled. -/
theorem ord_ctl (hV : VIn s.ps.length (VT s)) (h : ordB (VT s) s.ps.length F lo = true) : ∀ (j : Nat), j ≤ lo.length → ∀ q, q < s.ps.length → SJ F lo j q = true → 0 ≤ rd (VT s) (toN F) q := by
  have h0 : ∀ j (h : j < lo.length), OrdAt (VT s) s.ps.length F lo j h := of_decide_eq_true h
  intro j
  induction j with
  | zero =>
    intro _ q _ hq
    have hq := of_decide_eq_true hq
    rcases hq with hq | hq
    · have := rd_zero (V := VT s).2 hq; omega
    · simp at hq
  | succ j ih =>
    intro hj q hqn hq
    have hq := of_decide_eq_true hq
    rcases hq with hq | hq
    · have := rd_zero (V := VT s).2 hq; omega
    · rw [List.take_succ_eq_append_getElem (by omega), List.mem_append, List.mem_singleton] at hq
      rcases hq with hq | hq
      · exact ih (by omega) q hqn (decide_eq_true (.inr hq))
      · obtain ⟨_, _, hm⟩ := h0 j (by omega)
        have e : lo[j].toNat = q := by omega
        rw [e] at hm
        exact maj_is hV (ih (by omega)) hm
theorem chk_sound (hsd : soundB s = true → VIn s.ps.length (VT s)) (h : chk s F party lo lc = (is, true)) : (soundB s = true ∧ listB s.ps.length F = true) ∧ (0 ≤ party ∧ party < s.ps.length) ∧ is = decide (0 ≤ rd (VT s) (toN F) party.toNat) := by
  unfold chk at h
  split at h
  · rename_i c
    have hV := hsd c.1
    refine ⟨⟨c.1, c.2.1⟩, c.2.2, ?_⟩
    split at h
    · rename_i c2
      simp only [Prod.mk.injEq] at h
      have h1 := rd_zero (V := VT s).2 c2
      rw [decide_eq_true (by omega : 0 ≤ rd (VT s) (toN F) party.toNat), ← h.1]
      exact h.2
    · rename_i c2
      split at h
      · simp only [Prod.mk.injEq] at h
        obtain ⟨rfl, h⟩ := h
        unfold clsB at h
        simp only [Bool.and_eq_true, Bool.not_eq_true', decide_eq_false_iff_not, decide_eq_true_eq] at h
        obtain ⟨⟨_, h2⟩, h3⟩ := h
        symm
        rw [decide_eq_false_iff_not]
        intro h4
        have h5 := inR_least (n := s.ps.length) (V := VT s) (F := toN F) (S := fun q => decide ((q : Int) ∈ lc)) hV (fun f hf => by
          have hfn : f < s.ps.length := toN_in c.2.1 hf
          rcases h3 f hfn with h6 | ⟨h6, _⟩
          · exact decide_eq_true h6
          · exact absurd hf h6) (fun i hi hn => by
          rcases h3 i hi with h6 | ⟨_, h6⟩
          · exact absurd h6 (of_decide_eq_false hn)
          · exact h6) s.ps.length party.toNat (by omega) (by rw [← ctl_in hV (by omega)]; exact decide_eq_true h4)
        have h6 := of_decide_eq_true h5
        have e : ((party.toNat : Nat) : Int) = party := by omega
        rw [e] at h6
        exact h2 h6
      · simp only [Prod.mk.injEq] at h
        obtain ⟨h1, h2⟩ := h
        rw [← h1, h2]
        simp only [Bool.and_eq_true, decide_eq_true_eq] at h2
        have hm := getLast_of h2.2.2
        symm
        rw [decide_eq_true_iff]
        refine ord_ctl hV h2.1 lo.length (Nat.le_refl _) _ (by omega) (decide_eq_true (.inr ?_))
        have e : ((party.toNat : Nat) : Int) = party := by omega
        rw [List.take_length, e]
        exact hm
  · simp at h
end
section
variable {s : SR} {F : List Int} {p : Nat}
/-- Check accepts an order of the controlled ones. -/
theorem chk_prove_yes {l : List Nat} (hsd : soundB s = true) (hls : listB s.ps.length F = true) (hV : VIn s.ps.length (VT s)) (hp : p < s.ps.length) (h0 : 0 ≤ rd (VT s) (toN F) p) (hO : OrdIs (rd (VT s) (toN F)) s.ps.length p l) : chk s F (p : Int) (castL l) [] = (true, true) := by
  unfold chk
  rw [if_pos ⟨hsd, hls, by omega, by omega⟩, Int.toNat_natCast]
  obtain ⟨hs, hm⟩ := hO
  by_cases hf : p ∈ toN F
  · rw [if_pos hf]
    have hz := rd_zero (V := VT s).2 hf
    have hn : l = [] := List.eq_nil_iff_forall_not_mem.2 fun x hx => by
      obtain ⟨_, a, b⟩ := (hm x).1 hx
      rcases b with rfl | b
      · omega
      · unfold lexo at b; omega
    rw [hn]
    rfl
  · rw [if_neg hf]
    have hpos : 0 < rd (VT s) (toN F) p := by
      have : rd (VT s) (toN F) p ≠ 0 := fun c => hf (rd_zero.1 c)
      omega
    have hpl : p ∈ l := (hm p).2 ⟨hp, hpos, .inl rfl⟩
    have hne : (castL l).length ≠ 0 := by rw [castL_len]; exact Nat.ne_of_gt (List.length_pos_of_mem hpl)
    rw [if_neg hne]
    have hlast : lastB (castL l) (p : Int) = true := by
      unfold lastB
      have hl0 : 0 < l.length := List.length_pos_of_mem hpl
      rw [decide_eq_true_iff, List.getLast?_eq_getElem?, List.getElem?_eq_getElem (by rw [castL_len]; omega), castL_get (by rw [castL_len]; omega) (by rw [castL_len]; omega)]
      obtain ⟨i, hi, e⟩ := List.getElem_of_mem hpl
      congr 2
      have hlen : (castL l).length = l.length := castL_len
      by_cases c : i = l.length - 1
      · subst c
        rw [← e]
        congr 1
        omega
      · have h1 := List.pairwise_iff_getElem.1 hs i (l.length - 1) hi (by omega) (by omega)
        have h2 := ((hm _).1 (List.getElem_mem (show l.length - 1 < l.length by omega))).2.2
        rw [e] at h1
        rcases h2 with h2 | h2
        · rw [← h2]
          congr 1
          omega
        · exact absurd h1 fun h1 => lexo_asymm h1 h2
    have hord : ordB (VT s) s.ps.length F (castL l) = true := by
      refine ord_all fun j hj => ?_
      have hj2 : j < l.length := by rwa [castL_len] at hj
      have e : (castL l)[j] = (l[j] : Int) := castL_get hj hj2
      obtain ⟨a, b, c⟩ := (hm _).1 (List.getElem_mem hj2)
      have hS : ∀ q, q < s.ps.length → (SJ F (castL l) j q = true ↔ q ∈ toN F ∨ (q ∈ l.take j)) := fun q _ => by
        unfold SJ
        rw [decide_eq_true_iff]
        have e2 : (castL l).take j = castL (l.take j) := by unfold castL; exact List.map_take.symm
        rw [e2, castL_mem]
      refine ⟨by rw [e]; omega, ?_, ?_⟩
      · rw [e, Int.toNat_natCast]
        cases hc : SJ F (castL l) j l[j]
        · rfl
        · rcases (hS _ a).1 hc with h | h
          · have := rd_zero (V := VT s).2 h; omega
          · obtain ⟨i, hi, hie⟩ := List.getElem_of_mem h
            rw [List.length_take] at hi
            rw [List.getElem_take] at hie
            have h1 := List.pairwise_iff_getElem.1 hs i j (by omega) hj2 (by omega)
            rw [hie] at h1
            unfold lexo at h1
            omega
      · rw [e, Int.toNat_natCast]
        obtain ⟨k, hk⟩ : ∃ k : Nat, rd (VT s) (toN F) l[j] = ((k + 1 : Nat) : Int) := ⟨(rd (VT s) (toN F) l[j]).toNat - 1, by omega⟩
        refine maj_mono (fun x hx hh => ?_) (rd_step hk)
        have hxn := (hV x hx).2
        rw [hS _ hxn]
        have h1 := rd_in.1 hh
        by_cases c0 : rd (VT s) (toN F) x.2.1 = 0
        · exact .inl (rd_zero.1 c0)
        · right
          have hxl : x.2.1 ∈ l := (hm _).2 ⟨hxn, by omega, by
            rcases c with c | c
            · right; left; rw [← c]; omega
            · right; left
              unfold lexo at c
              omega⟩
          obtain ⟨i, hi, hie⟩ := List.getElem_of_mem hxl
          have hij : i < j := by
            have h2 : ¬ j < i := fun c2 => by
              have h3 := List.pairwise_iff_getElem.1 hs j i hj2 hi c2
              rw [hie] at h3
              unfold lexo at h3
              omega
            have h4 : i ≠ j := fun c2 => by
              subst c2
              rw [hie] at hk
              omega
            omega
          rw [← hie]
          exact List.mem_of_getElem (i := i) (h := by rw [List.length_take]; omega) (by rw [List.getElem_take])
    rw [hord, hlast]
    rfl
theorem chk_prove_no (hsd : soundB s = true) (hls : listB s.ps.length F = true) (hV : VIn s.ps.length (VT s)) (hp : p < s.ps.length) (h0 : ¬ 0 ≤ rd (VT s) (toN F) p) : chk s F (p : Int) [] (castL (clL (rd (VT s) (toN F)) s.ps.length)) = (false, true) := by
  unfold chk
  rw [if_pos ⟨hsd, hls, by omega, by omega⟩, Int.toNat_natCast]
  have hf : p ∉ toN F := fun c => by have := rd_zero (V := VT s).2 c; omega
  rw [if_neg hf, if_pos (show ([] : List Int).length = 0 from rfl)]
  have hS : ∀ q, q < s.ps.length → decide ((q : Int) ∈ castL (clL (rd (VT s) (toN F)) s.ps.length)) = decide (0 ≤ rd (VT s) (toN F) q) := fun q hq => by
    rw [Bool.eq_iff_iff, decide_eq_true_iff, decide_eq_true_iff, castL_mem, clL_mem]
    exact ⟨fun h => h.2, fun h => ⟨hq, h⟩⟩
  have h1 : clsB (VT s) s.ps.length F (p : Int) (castL (clL (rd (VT s) (toN F)) s.ps.length)) = true := by
    unfold clsB
    rw [Bool.and_eq_true, Bool.and_eq_true]
    refine ⟨⟨asc_list clL_asc fun x hx => (clL_mem.1 hx).1, ?_⟩, decide_eq_true fun i hi => ?_⟩
    · rw [hS p hp, decide_eq_false h0]; rfl
    · by_cases c : 0 ≤ rd (VT s) (toN F) i
      · left
        exact of_decide_eq_true (by rw [hS i hi]; exact decide_eq_true c)
      · right
        refine ⟨fun d => by have := rd_zero (V := VT s).2 d; omega, ?_⟩
        rw [maj_congr (T := fun q => decide (0 ≤ rd (VT s) (toN F) q)) fun x hx => hS _ (hV x hx).2]
        exact maj_not hV (by omega)
  rw [h1]
end
end Co
end Go.Proofs.YtmekiidknjjfcaaGreatDoor

namespace Go.Proofs.YtmekiidknjjfcaaGreatDoor
open Go.RowKit Go.Shelf
namespace Co
open Nt Ci

theorem sum_row {l : List Lk} {k : Nat} (h : k < l.length) (S : Nat → Bool) (p : Nat) : sumS S (row (l.take (k + 1)) p) = sumS S (row (l.take k) p) + if l[k].1 = (p : Int) ∧ S l[k].2.1.toNat = true then unitsN (lkP l[k]) else 0 := by
  unfold row
  rw [List.take_succ_eq_append_getElem h, List.filter_append]
  unfold sumS
  rw [List.map_append, List.sum_append]
  congr 1
  by_cases c : l[k].1 = (p : Int)
  · rw [List.filter_cons, if_pos (decide_eq_true c)]
    by_cases c2 : S l[k].2.1.toNat = true
    · rw [if_pos ⟨c, c2⟩]; simp [c2]
    · rw [if_neg fun h => c2 h.2]; simp [c2]
  · rw [List.filter_cons, if_neg (by simpa using c), if_neg fun h => c h.1]; rfl
def upS (o : Nat → Int) (up : Int) (q : Nat) : Bool := decide (0 ≤ o q) && decide (o q ≤ up)
set_option maxRecDepth 100000 in
set_option maxHeartbeats 8000000 in
theorem lmaj_any (s : SR) (Ap Ac Av : Option Addr) (cp cc cv b p : Nat) (o : Nat → Int) (up : Int) (w : World) (hE : Env w) (hs : StIn w s Ap Ac Av) (hv3 : s.vot.length ≤ 300) (hsd : soundB s = true) (hR : RoI w b s.ps.length o) :
    Calls Tryz.prog 22 #[.agg #[.slice Ap s.ps.length cp, .slice Ac s.cap.length cc, .slice Av s.vot.length cv], .slice (some ⟨b, 0, none⟩) s.ps.length s.ps.length, .int .i64 up, .int .i64 (p : Int)] w fun e w' => e = .returned (.bool (maj (VT s) (upS o up) p)) ∧ Below w.heap.size w w' := by
  have hn60 := sound_n hsd
  have hvt := Lib.hid (sound_vot hsd)
  rw [maj_row (fun x hx => (hvt.out x hx).1.1)]
  have hB1 : Hid (Below w.heap.size w ((w.alloc (.cells #[.slice Ap s.ps.length cp, .slice Ac s.cap.length cc, .slice Av s.vot.length cv] 25)).alloc (.cells #[.bool false, .string ⟨#[48]⟩, .string ⟨#[49]⟩] 49))) := ((Below.refl _ w).alloc (Nat.le_refl _) _).alloc (by simp) _
  have hX1 : Hid (Bk ((w.alloc (.cells #[.slice Ap s.ps.length cp, .slice Ac s.cap.length cc, .slice Av s.vot.length cv] 25)).alloc (.cells #[.bool false, .string ⟨#[48]⟩, .string ⟨#[49]⟩] 49)) w.heap.size 25 (SC s Ap Ac Av cp cc cv)) := (Bk.new w _ _).alloc _
  have hs1 : Hid (Bk ((w.alloc (.cells #[.slice Ap s.ps.length cp, .slice Ac s.cap.length cc, .slice Av s.vot.length cv] 25)).alloc (.cells #[.bool false, .string ⟨#[48]⟩, .string ⟨#[49]⟩] 49)) (w.heap.size + 1) 49 [.bool false, .string ⟨#[48]⟩, .string ⟨#[49]⟩]) := by have h := Bk.new (w.alloc (.cells #[.slice Ap s.ps.length cp, .slice Ac s.cap.length cc, .slice Av s.vot.length cv] 25)) 49 [.bool false, .string ⟨#[48]⟩, .string ⟨#[49]⟩]; rw [World.size_alloc] at h; exact h
  obtain ⟨sb, hsb⟩ : ∃ x, x = w.heap.size + 1 := ⟨_, rfl⟩
  rw [← hsb] at hs1
  have hQ1 : Hid (QB ((w.alloc (.cells #[.slice Ap s.ps.length cp, .slice Ac s.cap.length cc, .slice Av s.vot.length cv] 25)).alloc (.cells #[.bool false, .string ⟨#[48]⟩, .string ⟨#[49]⟩] 49)) sb (uq (sumS (upS o up) (row (s.vot.take 0) p)))) := ⟨_, _, _, none_eq, hs1.out⟩
  have hsw : Hid (w.heap.size ≤ sb) := by rw [hsb]; exact Nat.le_succ _
  have hxs : Hid (w.heap.size ≠ sb) := by rw [hsb]; exact Nat.ne_of_lt (Nat.lt_succ_self _)
  clear hs1
  replace hE := Lib.hid hE
  replace hs := Lib.hid hs
  replace hR := Lib.hid hR
  have hsl := Lib.hid (fun l => sumS_le (upS o up) l)
  have hrl := Lib.hid (fun k => row_len s.vot k p)
  go_enter Tryz.func22, Tryz.ntmps22
  go_wp2
  rw [← hsb]
  replace hsb := Lib.hid hsb
  go_loopw [10] (fun ix wr => ∃ (k : Nat), k ≤ s.vot.length ∧ ix = .int .i64 (k : Int) ∧ Hid (Below w.heap.size w wr) ∧ Hid (Bk wr w.heap.size 25 (SC s Ap Ac Av cp cc cv)) ∧ Hid (QB wr sb (uq (sumS (upS o up) (row (s.vot.take k) p))))) (fun ix _ => s.vot.length - (intOf ix).toNat)
  case atStart => exact ⟨0, Nat.zero_le _, rfl, hB1, hX1, hQ1⟩
  case round =>
    obtain ⟨k, hk, rfl, hB, hX, hQ⟩ := hrel
    clear hB1 hX1 hQ1
    obtain ⟨wz, rfl⟩ : ∃ z, z = wr := ⟨_, rfl⟩
    have hss : Hid (sumS (upS o up) (row (s.vot.take k) p) < 9223372036854775807) := by have h1 := hsl.out (row (s.vot.take k) p); have h2 := hrl.out k; show _ < _; omega
    have u2 := hX.out.cell (j := 2) rfl; have u9 := hX.out.lt
    by_cases hlt : k < s.vot.length
    · obtain ⟨vb, off, rfl, hbl, hcc⟩ := (hs.out.below hB.out).vot (by omega)
      obtain ⟨e1, e2, e3, e4, e5⟩ := hcc k hlt
      have hix := hvt.out s.vot[k] (List.getElem_mem hlt)
      have hnx := Lib.hid (sum_row hlt (upS o up) p)
      obtain ⟨x, hx⟩ : ∃ x, x = s.vot[k] := ⟨_, rfl⟩
      rw [← hx] at e1 e2 e3 e4 e5 hix hnx
      replace hx := Lib.hid hx
      obtain ⟨co, hoI, gg, nn, dd⟩ := x
      obtain ⟨⟨i1, i2⟩, ⟨i3, i4⟩, i5⟩ := hix
      replace i1 : 0 ≤ co := i1; replace i2 : co < s.ps.length := i2; replace i3 : 0 ≤ hoI := i3; replace i4 : hoI < s.ps.length := i4
      obtain ⟨ho, rfl⟩ : ∃ c : Nat, hoI = (c : Int) := ⟨hoI.toNat, by omega⟩
      have hun : Hid ((.agg #[.bool gg, .string nn, .string dd] : Value) = qv (uq (unitsN (gg, nn, dd)))) := unit_q i5
      clear i5
      replace hnx : Hid (sumS (upS o up) (row (s.vot.take (k + 1)) p) = sumS (upS o up) (row (s.vot.take k) p) + if co = (p : Int) ∧ upS o up ho = true then unitsN (gg, nn, dd) else 0) := hnx.out
      replace e1 : wz.cell? ⟨vb, off + k * 5, none⟩ = some (.int .i64 co) := e1
      replace e2 : wz.cell? ⟨vb, off + k * 5 + 1, none⟩ = some (.int .i64 (ho : Int)) := e2
      replace e3 : wz.cell? ⟨vb, off + k * 5 + 2, none⟩ = some (.bool gg) := e3
      replace e4 : wz.cell? ⟨vb, off + k * 5 + 3, none⟩ = some (.string nn) := e4
      replace e5 : wz.cell? ⟨vb, off + k * 5 + 4, none⟩ = some (.string dd) := e5
      have k0 : (0 : Int) ≤ (k : Int) := by omega
      have k1 : (k : Int) < (s.vot.length : Int) := by omega
      have q0 : (0 : Int) ≤ (ho : Int) := by omega
      have q1 : (ho : Int) < (s.ps.length : Int) := by omega
      have hb7 : Hid (Below wz.heap.size wz (wz.alloc (.cells #[.int .i64 co, .int .i64 (ho : Int), .bool gg, .string nn, .string dd] 51))) := (Below.refl _ _).alloc (Nat.le_refl _) _
      have hl7 : Hid (Bk (wz.alloc (.cells #[.int .i64 co, .int .i64 (ho : Int), .bool gg, .string nn, .string dd] 51)) wz.heap.size 51 [.int .i64 co, .int .i64 (ho : Int), .bool gg, .string nn, .string dd]) := Bk.new wz _ _
      have hB7 := Lib.hid (hB.out.trans (hb7.out.mono hB.out.size)); have hX7 := Lib.hid (hX.out.below hb7.out); have hQ7 := Lib.hid (hQ.out.below hb7.out)
      have r1 := (hR.out.below hB7.out).cell ho (by omega); have r9 := (hR.out.below hB7.out).lt
      have hup : Hid (upS o up ho = (decide (0 ≤ o ho) && decide (o ho ≤ up))) := rfl
      generalize upS o up ho = ub at hup hnx
      generalize o ho = d at r1 hup
      clear hcc i3 i4
      by_cases c1 : co = (p : Int)
      rotate_left
      · have m1 : (co == (p : Int)) = false := by rw [beq_eq_false_iff_ne]; exact c1
        have hneg : ¬ (co = (p : Int) ∧ ub = true) := fun h => c1 h.1
        replace c1 := Lib.hid c1
        have hnx2 : Hid (sumS (upS o up) (row (s.vot.take (k + 1)) p) = sumS (upS o up) (row (s.vot.take k) p)) := by have h := hnx.out; rw [if_neg hneg] at h; exact h
        have hQ8 : Hid (QB (wz.alloc (.cells #[.int .i64 co, .int .i64 (ho : Int), .bool gg, .string nn, .string dd] 51)) sb (uq (sumS (upS o up) (row (s.vot.take (k + 1)) p)))) := by rw [hnx2.out]; exact hQ7.out
        replace hneg := Lib.hid hneg
        go_wp2
        go_roundw
        case rel => exact ⟨k + 1, by omega, by go_num, hB7, hX7, hQ8⟩
        case measure => simp [intOf]; omega
      · have m1 : (co == (p : Int)) = true := by rw [beq_iff_eq]; exact c1
        by_cases c2 : 0 ≤ d
        rotate_left
        · have m2 : decide (0 ≤ d) = false := decide_eq_false c2
          have hneg : ¬ (co = (p : Int) ∧ ub = true) := fun h => by have h2 := h.2; rw [hup.out, m2] at h2; cases h2
          replace c1 := Lib.hid c1; replace c2 := Lib.hid c2
          have hnx2 : Hid (sumS (upS o up) (row (s.vot.take (k + 1)) p) = sumS (upS o up) (row (s.vot.take k) p)) := by have h := hnx.out; rw [if_neg hneg] at h; exact h
          have hQ8 : Hid (QB (wz.alloc (.cells #[.int .i64 co, .int .i64 (ho : Int), .bool gg, .string nn, .string dd] 51)) sb (uq (sumS (upS o up) (row (s.vot.take (k + 1)) p)))) := by rw [hnx2.out]; exact hQ7.out
          replace hneg := Lib.hid hneg
          go_wp2
          go_roundw
          case rel => exact ⟨k + 1, by omega, by go_num, hB7, hX7, hQ8⟩
          case measure => simp [intOf]; omega
        · have m2 : decide (0 ≤ d) = true := decide_eq_true c2
          by_cases c3 : d ≤ up
          rotate_left
          · have m3 : decide (d ≤ up) = false := decide_eq_false c3
            have hneg : ¬ (co = (p : Int) ∧ ub = true) := fun h => by have h2 := h.2; rw [hup.out, m2, m3] at h2; cases h2
            replace c1 := Lib.hid c1; replace c2 := Lib.hid c2; replace c3 := Lib.hid c3
            have hnx2 : Hid (sumS (upS o up) (row (s.vot.take (k + 1)) p) = sumS (upS o up) (row (s.vot.take k) p)) := by have h := hnx.out; rw [if_neg hneg] at h; exact h
            have hQ8 : Hid (QB (wz.alloc (.cells #[.int .i64 co, .int .i64 (ho : Int), .bool gg, .string nn, .string dd] 51)) sb (uq (sumS (upS o up) (row (s.vot.take (k + 1)) p)))) := by rw [hnx2.out]; exact hQ7.out
            replace hneg := Lib.hid hneg
            go_wp2
            go_roundw
            case rel => exact ⟨k + 1, by omega, by go_num, hB7, hX7, hQ8⟩
            case measure => simp [intOf]; omega
          · have m3 : decide (d ≤ up) = true := decide_eq_true c3
            have hub : ub = true := by rw [hup.out, m2, m3]; rfl
            have hnx2 : Hid (sumS (upS o up) (row (s.vot.take (k + 1)) p) = sumS (upS o up) (row (s.vot.take k) p) + unitsN (gg, nn, dd)) := by have h := hnx.out; rw [if_pos ⟨c1, hub⟩] at h; exact h
            have hul : Hid (unitsN (gg, nn, dd) < 9223372036854775807) := Nat.lt_of_le_of_lt (units_le _) (by decide)
            replace c1 := Lib.hid c1; replace c2 := Lib.hid c2; replace c3 := Lib.hid c3; replace hub := Lib.hid hub
            obtain ⟨g1, n1, d1, hq1, hs1⟩ := hQ7.out
            replace hs1 := Lib.hid hs1
            have kA : Hid (Calls Tryz.prog 42 #[.agg #[.bool g1, .string n1, .string d1], .agg #[.bool gg, .string nn, .string dd]] (wz.alloc (.cells #[.int .i64 co, .int .i64 (ho : Int), .bool gg, .string nn, .string dd] 51)) fun e w' => (∃ g2 n2 d2, e = .returned (.tuple #[.agg #[.bool g2, .string n2, .string d2], .int .i64 0]) ∧ (.agg #[.bool g2, .string n2, .string d2] : Value) = qv (uq (sumS (upS o up) (row (s.vot.take (k + 1)) p)))) ∧ Below (wz.alloc (.cells #[.int .i64 co, .int .i64 (ho : Int), .bool gg, .string nn, .string dd] 51)).heap.size (wz.alloc (.cells #[.int .i64 co, .int .i64 (ho : Int), .bool gg, .string nn, .string dd] 51)) w') := by
              rw [hq1, hun.out, hnx2.out]
              refine (Add_short (uq (sumS (upS o up) (row (s.vot.take k) p))) (uq (unitsN (gg, nn, dd))) (uq_short hss.out) (uq_short hul.out) _ (hE.out.below hB7.out)).mono ?_
              rintro e w' ⟨rfl, hb⟩
              rw [uq_add]
              exact ⟨⟨_, _, _, rfl, rfl⟩, hb⟩
            clear hq1
            have s0 := hs1.out.cell (j := 0) rfl; have s1 := hs1.out.cell (j := 1) rfl; have s2 := hs1.out.cell (j := 2) rfl; have s9 := hs1.out.lt
            have y2 := hl7.out.cell (j := 2) rfl; have y3 := hl7.out.cell (j := 3) rfl; have y4 := hl7.out.cell (j := 4) rfl; have y9 := hl7.out.lt
            go_wp2_with fail
            refine kA.out.mono ?_
            rintro e w3 ⟨⟨g2, n2, d2, rfl, hq2⟩, hb⟩
            have hB3 := Lib.hid (hB7.out.trans (hb.mono hB7.out.size)); have hX3 := Lib.hid (hX7.out.below hb); have hs3 := Lib.hid (hs1.out.below hb)
            clear hb s0 s1 s2 s9 y2 y3 y4 y9 e1 e2 e3 e4 e5 u2 u9 r1 r9 hbl
            have s0 := hs3.out.cell (j := 0) rfl; have s1 := hs3.out.cell (j := 1) rfl; have s2 := hs3.out.cell (j := 2) rfl; have f0 := hs3.out.frozen 0; have f1 := hs3.out.frozen 1; have f2 := hs3.out.frozen 2; have s9 := hs3.out.lt
            have hB4 : Hid (Below w.heap.size w (((w3.setCell ⟨sb, 0, none⟩ (.bool g2)).setCell ⟨sb, 1, none⟩ (.string n2)).setCell ⟨sb, 2, none⟩ (.string d2))) := ((hB3.out.setCell (p := ⟨sb, 0, none⟩) hsw.out _).setCell (p := ⟨sb, 1, none⟩) hsw.out _).setCell (p := ⟨sb, 2, none⟩) hsw.out _
            have hX4 : Hid (Bk (((w3.setCell ⟨sb, 0, none⟩ (.bool g2)).setCell ⟨sb, 1, none⟩ (.string n2)).setCell ⟨sb, 2, none⟩ (.string d2)) w.heap.size 25 (SC s Ap Ac (some ⟨vb, off, none⟩) cp cc cv)) := ((hX3.out.far (p := ⟨sb, 0, none⟩) hxs.out _).far (p := ⟨sb, 1, none⟩) hxs.out _).far (p := ⟨sb, 2, none⟩) hxs.out _
            have hQ4 : Hid (QB (((w3.setCell ⟨sb, 0, none⟩ (.bool g2)).setCell ⟨sb, 1, none⟩ (.string n2)).setCell ⟨sb, 2, none⟩ (.string d2)) sb (uq (sumS (upS o up) (row (s.vot.take (k + 1)) p)))) := ⟨g2, n2, d2, hq2, ((hs3.out.set 0 (.bool g2)).set 1 (.string n2)).set 2 (.string d2)⟩
            clear hq2
            go_wp2
            go_roundw
            case rel => exact ⟨k + 1, by omega, by go_num, hB4, hX4, hQ4⟩
            case measure => simp [intOf]; omega
    · obtain rfl : k = s.vot.length := by omega
      obtain ⟨g1, n1, d1, hq1, hs1⟩ := hQ.out
      replace hs1 := Lib.hid hs1
      have kC : Hid (Calls Tryz.prog 43 #[.agg #[.bool g1, .string n1, .string d1], .agg #[.bool false, .string ⟨#[49]⟩, .string ⟨#[50]⟩]] wz fun e w' => (∃ c : Int, e = .returned (.tuple #[.int .i64 c, .int .i64 0]) ∧ decide (0 < c) = decide (3000 < sumS (upS o up) (row s.vot p))) ∧ Below wz.heap.size wz w') := by
        rw [hq1, half_eq, List.take_length]
        refine (Compare_short _ _ (uq_short (by have := hss.out; rwa [List.take_length] at this)) (uq_short (by decide)) wz (hE.out.below hB.out)).mono ?_
        rintro e w' ⟨rfl, hb⟩
        exact ⟨⟨_, rfl, cmp_half _⟩, hb⟩
      clear hq1
      have s0 := hs1.out.cell (j := 0) rfl; have s1 := hs1.out.cell (j := 1) rfl; have s2 := hs1.out.cell (j := 2) rfl; have s9 := hs1.out.lt
      go_wp2_with fail
      refine kC.out.mono ?_
      rintro e w3 ⟨⟨c, rfl, hc⟩, hb⟩
      have hB3 := Lib.hid (hB.out.trans (hb.mono hB.out.size))
      replace hc := Lib.hid hc
      clear hb s0 s1 s2 s9
      go_wp2
      go_ret
      exact ⟨ret_bool hc.out, hB3.out⟩
end Co
end Go.Proofs.YtmekiidknjjfcaaGreatDoor

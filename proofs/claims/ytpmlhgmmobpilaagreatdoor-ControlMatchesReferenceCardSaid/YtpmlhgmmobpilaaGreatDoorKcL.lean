/- Texts that the proof needs: CoF. -/
import Derived.Test.YtpmlhgmmobpilaaGreatDoorKcA
import Derived.Test.YtpmlhgmmobpilaaGreatDoorKcB
import Derived.Test.YtpmlhgmmobpilaaGreatDoorKcC
import Derived.Test.YtpmlhgmmobpilaaGreatDoorKcD
import Derived.Test.YtpmlhgmmobpilaaGreatDoorKcE
import Derived.Test.YtpmlhgmmobpilaaGreatDoorKcF
import Derived.Test.YtpmlhgmmobpilaaGreatDoorKcG
import Derived.Test.YtpmlhgmmobpilaaGreatDoorKcH
import Derived.Test.YtpmlhgmmobpilaaGreatDoorKcI
import Derived.Test.YtpmlhgmmobpilaaGreatDoorKcJ
import Derived.Test.YtpmlhgmmobpilaaGreatDoorKcK
namespace Go.Proofs.YtpmlhgmmobpilaaGreatDoor
open Go.RowKit Go.Shelf
namespace Co
open Nt Ci
/-- Block b has n truth values. -/
structure RoB (w : World) (b n : Nat) (S : Nat → Bool) : Prop where
  lt : b < w.heap.size
  cell : ∀ x, x < n → w.cell? ⟨b, x, none⟩ = some (.bool (S x))
  fr : ∀ x, w.frozen? ⟨b, x, none⟩ = false
section
variable {w w' : World} {b n : Nat} {S S' : Nat → Bool}
theorem RoB.of_block (h : RoB w b n S) (hs : w.heap.size ≤ w'.heap.size) (hb : w'.heap[b]? = w.heap[b]?) : RoB w' b n S :=
  ⟨Nat.lt_of_lt_of_le h.lt hs, fun x hx => (World.cell?_of_block (a := ⟨b, x, none⟩) hb).trans (h.cell x hx), fun x => (World.frozen?_of_block (a := ⟨b, x, none⟩) hb).trans (h.fr x)⟩
theorem RoB.below (h : RoB w b n S) (hb : Below w.heap.size w w') : RoB w' b n S := h.of_block hb.size (hb.block b h.lt)
theorem RoB.grown {row : Option Nat} (h : RoB w b n S) (hg : w.grownBy w' row) (hr : row ≠ some b) : RoB w' b n S := h.of_block hg.size (hg.block b h.lt fun e => hr e.symm)
theorem RoB.congr (h : RoB w b n S) (e : ∀ x, x < n → S x = S' x) : RoB w b n S' := ⟨h.lt, fun x hx => by rw [← e x hx]; exact h.cell x hx, h.fr⟩
theorem RoB.set (h : RoB w b n S) {x : Nat} (hx : x < n) (hS : ∀ y, y < n → S' y = (S y || decide (y = x))) : RoB (w.setCell ⟨b, x, none⟩ (.bool true)) b n S' := by
  refine ⟨by simpa using h.lt, fun y hy => ?_, fun y => by simpa using h.fr y⟩
  rw [hS y hy]
  by_cases e : y = x
  · subst e
    rw [World.cell?_setCell_same _ _ _ (h.cell y hy), decide_eq_true rfl, Bool.or_true]
  · rw [World.cell?_setCell_other _ _ _ _ (fun c => by injection c with _ c2; first | exact e c2 | exact e c2.symm), decide_eq_false e, Bool.or_false]
    exact h.cell y hy
theorem RoB.far {B x : Nat} (h : RoB w b n S) (u : Value) (hne : B ≠ b) : RoB (w.setCell ⟨B, x, none⟩ u) b n S := h.grown (grown_set w ⟨B, x, none⟩ u) fun e => hne (by cases e; rfl)
theorem RoI.far {B x : Nat} {o : Nat → Int} (h : RoI w b n o) (u : Value) (hne : B ≠ b) : RoI (w.setCell ⟨B, x, none⟩ u) b n o := h.grown (grown_set w ⟨B, x, none⟩ u) fun e => hne (by cases e; rfl)
theorem RoB.made (w : World) (n : Nat) (t : TypeId) : RoB (w.alloc (.cells (madeCells #[.bool false] n) t)) w.heap.size n fun _ => false := by
  have h := heap_alloc_new w (.cells (madeCells #[(.bool false : Value)] n) t)
  refine ⟨by simp, fun x hx => ?_, fun x => by simp only [World.frozen?, h]; simp⟩
  simp only [World.cell?, h]
  simp [madeCells, hx]
  rw [Nat.mod_one]
  rfl
def boolsL (n : Nat) (S : Nat → Bool) : List Value := (List.range n).map fun x => .bool (S x)
theorem RoB.news (h : RoB w b n S) : ∀ j u, (boolsL n S)[j]? = some u → w.cell? (Addr.add ⟨b, 0, none⟩ j) = some u := by
  intro j u hj
  unfold boolsL at hj
  rw [List.getElem?_map] at hj
  obtain ⟨x, hx, rfl⟩ := Option.map_eq_some_iff.1 hj
  obtain ⟨hl, rfl⟩ := List.getElem?_eq_some_iff.1 hx
  rw [List.length_range] at hl
  rw [Addr.add_lit, Nat.zero_add, h.cell j hl, List.getElem_range]
theorem boolsL_len : (boolsL n S).length = n := by simp [boolsL]
theorem boolsL_one : ∀ u ∈ boolsL n S, u.oneCell' = true := fun u hu => by
  obtain ⟨x, _, rfl⟩ := List.mem_map.1 hu
  rfl
theorem RoB.of_own {base c : Nat} {A : Option Addr} {t : TypeId} (h : w.ownsRow base t 1 (.slice A n c) n (boolsL n S)) (hn : 0 < n) : ∃ b, A = some ⟨b, 0, none⟩ ∧ base ≤ b ∧ RoB w b n S := by
  rcases h.2 with ⟨_, h0⟩ | ⟨g, cap, cur, e, hb, hg, _, _, _, ht⟩
  · omega
  · injection e with e1 _ _
    subst e1
    refine ⟨g, rfl, hb, (Array.getElem?_eq_some_iff.1 hg).1, fun x hx => ?_, fun x => by simp [World.frozen?, hg]⟩
    have hc := h.cells (g := g) (by simp [Value.ownBlock]) x (.bool (S x)) (by simp [boolsL, hx])
    rwa [Addr.add_lit, Nat.zero_add] at hc
end
noncomputable def oK (V : List (Nat × Nat × Nat)) (F : List Nat) (k x : Nat) : Int := if inR V F k x = true then rd V F x else -1
section
variable {V : List (Nat × Nat × Nat)} {F : List Nat} {n k x : Nat}
theorem oK_zero : oK V F 0 x = if x ∈ F then 0 else -1 := by
  unfold oK
  by_cases h : x ∈ F
  · rw [if_pos (show inR V F 0 x = true from decide_eq_true h), if_pos h, rd_zero.2 h]
  · rw [if_neg (show ¬ inR V F 0 x = true from by rw [show inR V F 0 x = decide (x ∈ F) from rfl]; simpa using h), if_neg h]
theorem oK_last (hV : VIn n V) (hx : x < n) : oK V F n x = rd V F x := by
  unfold oK
  by_cases h : 0 ≤ rd V F x
  · rw [if_pos (rd_in.2 ⟨h, rd_lt hV hx⟩)]
  · rw [if_neg fun c => h (rd_in.1 c).1]
    have := rd_ge (V := V) (F := F) (p := x)
    omega
theorem oK_same (h : inR V F (k + 1) x = inR V F k x) : oK V F (k + 1) x = oK V F k x := by unfold oK; rw [h]
theorem oK_new (h0 : inR V F k x = false) (h1 : inR V F (k + 1) x = true) : oK V F (k + 1) x = ((k + 1 : Nat) : Int) := by
  unfold oK
  rw [if_pos h1]
  have h2 := rd_in.1 h1
  have h3 : ¬ rd V F x ≤ k := fun c => by
    have := rd_in.2 ⟨h2.1, c⟩
    rw [h0] at this
    cases this
  omega
/-- Within a round, the parties below p done. -/
noncomputable def inP (V : List (Nat × Nat × Nat)) (F : List Nat) (k p x : Nat) : Bool := if x < p then inR V F (k + 1) x else inR V F k x
noncomputable def oP (V : List (Nat × Nat × Nat)) (F : List Nat) (k p x : Nat) : Int := if x < p then oK V F (k + 1) x else oK V F k x
theorem inP_zero : inP V F k 0 x = inR V F k x := if_neg (Nat.not_lt_zero _)
theorem oP_zero : oP V F k 0 x = oK V F k x := if_neg (Nat.not_lt_zero _)
theorem inP_all (h : x < n) : inP V F k n x = inR V F (k + 1) x := if_pos h
theorem oP_all (h : x < n) : oP V F k n x = oK V F (k + 1) x := if_pos h
theorem inP_no {p : Nat} (h : inR V F (k + 1) p = inR V F k p) : inP V F k p x = inP V F k (p + 1) x := by
  unfold inP
  by_cases c : x = p
  · subst c; rw [if_neg (Nat.lt_irrefl _), if_pos (Nat.lt_succ_self _), h]
  · by_cases d : x < p
    · rw [if_pos d, if_pos (by omega)]
    · rw [if_neg d, if_neg (by omega)]
theorem oP_no {p : Nat} (h : inR V F (k + 1) p = inR V F k p) : oP V F k p x = oP V F k (p + 1) x := by
  unfold oP
  by_cases c : x = p
  · subst c; rw [if_neg (Nat.lt_irrefl _), if_pos (Nat.lt_succ_self _), oK_same h]
  · by_cases d : x < p
    · rw [if_pos d, if_pos (by omega)]
    · rw [if_neg d, if_neg (by omega)]
theorem inP_yes {p : Nat} (h : inR V F (k + 1) p = true) : inP V F k (p + 1) x = (inP V F k p x || decide (x = p)) := by
  unfold inP
  by_cases c : x = p
  · subst c; rw [if_pos (Nat.lt_succ_self _), h, decide_eq_true rfl, Bool.or_true]
  · rw [decide_eq_false c, Bool.or_false]
    by_cases d : x < p
    · rw [if_pos d, if_pos (by omega)]
    · rw [if_neg d, if_neg (by omega)]
theorem oP_yes {p : Nat} (h0 : inR V F k p = false) (h1 : inR V F (k + 1) p = true) : setI (oP V F k p) p ((k + 1 : Nat) : Int) x = oP V F k (p + 1) x := by
  by_cases c : x = p
  · subst c
    rw [setI_same]
    unfold oP
    rw [if_pos (Nat.lt_succ_self _), oK_new h0 h1]
  · rw [setI_other c]
    unfold oP
    by_cases d : x < p
    · rw [if_pos d, if_pos (by omega)]
    · rw [if_neg d, if_neg (by omega)]
end
/-- A list of parties as a set. -/
def inL (l : List Nat) (x : Nat) : Bool := decide (x ∈ l)
theorem inL_zero {l : List Nat} {x : Nat} : false = inL (l.take 0) x := by simp [inL]
theorem inL_succ {l : List Nat} {k : Nat} (h : k < l.length) (y : Nat) : inL (l.take (k + 1)) y = (inL (l.take k) y || decide (y = l[k])) := by
  unfold inL
  rw [List.take_succ_eq_append_getElem h, Bool.eq_iff_iff, Bool.or_eq_true, decide_eq_true_iff, decide_eq_true_iff, decide_eq_true_iff, List.mem_append, List.mem_singleton]
theorem list_at {n : Nat} {l : List Int} (h : listB n l = true) {k : Nat} (hk : k < l.length) : 0 ≤ l[k] ∧ l[k] < n := (lst_at h hk).1
set_option maxRecDepth 100000 in
set_option maxHeartbeats 4000000 in
theorem RSet_any (n : Nat) (A : Option Addr) (ca : Nat) (l : List Int) (w : World) (hA : InInt w A l) (hl : listB n l = true) (hn : n ≤ 1000) (hll : l.length ≤ 140737488355328) :
    Calls Tryz.prog 75 #[.int .i64 (n : Int), .slice A l.length ca] w fun e w' => (∃ b, e = .returned (.slice (some ⟨b, 0, none⟩) n n) ∧ w.heap.size ≤ b ∧ RoB w' b n (inL (toN l))) ∧ Below w.heap.size w w' := by
  have hat := Lib.hid (fun k hk => list_at (k := k) hl hk)
  have htl : (toN l).length = l.length := by simp [toN]
  have hB1 : Hid (Below w.heap.size w (w.alloc (.cells (madeCells #[.bool false] n) 4))) := (Below.refl _ w).alloc (Nat.le_refl _) _
  have hR1 : Hid (RoB (w.alloc (.cells (madeCells #[.bool false] n) 4)) w.heap.size n (inL ((toN l).take 0))) := (RoB.made w n 4).congr fun x _ => inL_zero
  have hmk := run_make_row' (P := Tryz.prog) 106 4 (.bool false) 1 Tryz.underlying106 infoB rfl .i64 .i64 n (by omega) (by omega)
  replace hA := Lib.hid hA; replace htl := Lib.hid htl; clear hl
  go_enter Tryz.func75, Tryz.ntmps75
  go_wp2
  clear hmk
  go_loopw [6] (fun ix wr => ∃ (k : Nat), k ≤ l.length ∧ ix = .int .i64 (k : Int) ∧ Hid (Below w.heap.size w wr) ∧ Hid (RoB wr w.heap.size n (inL ((toN l).take k)))) (fun ix _ => l.length - (intOf ix).toNat)
  case atStart => exact ⟨0, Nat.zero_le _, rfl, hB1, hR1⟩
  case round =>
    obtain ⟨k, hk, rfl, hB, hR⟩ := hrel
    clear hB1 hR1
    by_cases hlt : k < l.length
    · obtain ⟨b, o, rfl, hbl, hc⟩ := (hA.out.below hB.out) (by omega)
      have e1 := hc k hlt
      obtain ⟨q0, q1⟩ := hat.out k hlt
      have hs := Lib.hid (inL_succ (l := toN l) (k := k) (by rw [htl.out]; exact hlt))
      have hxe : (toN l)[k]'(by rw [htl.out]; exact hlt) = l[k].toNat := by simp [toN]
      rw [hxe] at hs
      obtain ⟨x, hx⟩ : ∃ x : Nat, l[k] = (x : Int) := ⟨l[k].toNat, by omega⟩
      rw [hx] at e1 q0 q1 hs
      rw [Int.toNat_natCast] at hs
      replace hx := Lib.hid hx; clear hxe
      have hR2 : Hid (RoB (wr.setCell ⟨w.heap.size, x, none⟩ (.bool true)) w.heap.size n (inL ((toN l).take (k + 1)))) := hR.out.set (by omega) fun y _ => hs.out y
      have hB2 : Hid (Below w.heap.size w (wr.setCell ⟨w.heap.size, x, none⟩ (.bool true))) := hB.out.setCell (p := ⟨w.heap.size, x, none⟩) (Nat.le_refl _) _
      have c1 := hR.out.cell x (by omega); have c2 := hR.out.fr x; have c3 := hR.out.lt
      have k0 : (0 : Int) ≤ (k : Int) := by omega
      have k1 : (k : Int) < (l.length : Int) := by omega
      generalize inL ((toN l).take k) x = bv at c1
      clear hc hR
      go_wp2
      exact ⟨⟨k + 1, by omega, by go_num, hB2, hR2⟩, by simp only [intOf]; omega⟩
    · obtain rfl : k = l.length := by omega
      have hR2 : Hid (RoB wr w.heap.size n (inL (toN l))) := by have h := hR.out; rw [← htl.out, List.take_length] at h; exact h
      clear hR
      go_wp2
      go_ret
      exact ⟨⟨_, rfl, Nat.le_refl _, hR2.out⟩, hB.out⟩
set_option maxRecDepth 100000 in
set_option maxHeartbeats 8000000 in
theorem RMaj_any (s : SR) (Ap Ac Av : Option Addr) (cp cc cv b cb p : Nat) (S : Nat → Bool) (w : World) (hs : StIn w s Ap Ac Av) (hv3 : s.vot.length ≤ 300) (hsd : soundB s = true) (hR : RoB w b s.ps.length S) :
    Calls Tryz.prog 76 #[.agg #[.slice Ap s.ps.length cp, .slice Ac s.cap.length cc, .slice Av s.vot.length cv], .slice (some ⟨b, 0, none⟩) s.ps.length cb, .int .i64 (p : Int)] w fun e w' => e = .returned (.bool (maj (VT s) S p)) ∧ Below w.heap.size w w' := by
  have hn60 := sound_n hsd
  have hvt := Lib.hid (sound_vot hsd)
  rw [maj_row (fun x hx => (hvt.out x hx).1.1)]
  have hB1 : Hid (Below w.heap.size w (w.alloc (.cells #[.slice Ap s.ps.length cp, .slice Ac s.cap.length cc, .slice Av s.vot.length cv] 54))) := (Below.refl _ w).alloc (Nat.le_refl _) _
  have hX1 : Hid (Bk (w.alloc (.cells #[.slice Ap s.ps.length cp, .slice Ac s.cap.length cc, .slice Av s.vot.length cv] 54)) w.heap.size 54 (SC s Ap Ac Av cp cc cv)) := Bk.new w _ _
  replace hs := Lib.hid hs
  replace hR := Lib.hid hR
  have hsl := Lib.hid (fun l => sumS_le S l)
  have hrl := Lib.hid (fun k => row_len s.vot k p)
  go_enter Tryz.func76, Tryz.ntmps76
  go_wp2
  go_loopw [7, 8] (fun sx ix wr => ∃ (k : Nat), k ≤ s.vot.length ∧ ix = .int .i64 (k : Int) ∧ sx = .int .i64 (sumS S (row (s.vot.take k) p) : Int) ∧ Hid (Below w.heap.size w wr) ∧ Hid (Bk wr w.heap.size 54 (SC s Ap Ac Av cp cc cv))) (fun _ ix _ => s.vot.length - (intOf ix).toNat)
  case atStart => exact ⟨0, Nat.zero_le _, rfl, rfl, hB1, hX1⟩
  case round =>
    obtain ⟨k, hk, rfl, rfl, hB, hX⟩ := hrel
    clear hB1 hX1
    obtain ⟨wz, rfl⟩ : ∃ z, z = wr := ⟨_, rfl⟩
    have hss : sumS S (row (s.vot.take k) p) ≤ 1800000 := by have h1 := hsl.out (row (s.vot.take k) p); have h2 := hrl.out k; omega
    have u2 := hX.out.cell (j := 2) rfl; have u9 := hX.out.lt
    by_cases hlt : k < s.vot.length
    · obtain ⟨vb, off, rfl, hbl, hcc⟩ := (hs.out.below hB.out).vot (by omega)
      obtain ⟨e1, e2, e3, e4, e5⟩ := hcc k hlt
      have hix := hvt.out s.vot[k] (List.getElem_mem hlt)
      have hnx := Lib.hid (sum_row hlt S p)
      have hzz := hs.out.zv s.vot[k] (List.getElem_mem hlt)
      obtain ⟨x, hx⟩ : ∃ x, x = s.vot[k] := ⟨_, rfl⟩
      rw [← hx] at e1 e2 e3 e4 e5 hix hnx hzz
      replace hx := Lib.hid hx
      obtain ⟨co, hoI, gg, nn, dd⟩ := x
      obtain ⟨⟨i1, i2⟩, ⟨i3, i4⟩, _⟩ := hix
      replace i1 : 0 ≤ co := i1; replace i2 : co < s.ps.length := i2; replace i3 : 0 ≤ hoI := i3; replace i4 : hoI < s.ps.length := i4
      obtain ⟨ho, rfl⟩ : ∃ c : Nat, hoI = (c : Int) := ⟨hoI.toNat, by omega⟩
      replace hzz : nn.size ≤ 140737488355328 ∧ dd.size ≤ 140737488355328 := hzz
      replace hnx : Hid (sumS S (row (s.vot.take (k + 1)) p) = sumS S (row (s.vot.take k) p) + if co = (p : Int) ∧ S ho = true then unitsN (gg, nn, dd) else 0) := hnx.out
      replace e1 : wz.cell? ⟨vb, off + k * 5, none⟩ = some (.int .i64 co) := e1
      replace e2 : wz.cell? ⟨vb, off + k * 5 + 1, none⟩ = some (.int .i64 (ho : Int)) := e2
      replace e3 : wz.cell? ⟨vb, off + k * 5 + 2, none⟩ = some (.bool gg) := e3
      replace e4 : wz.cell? ⟨vb, off + k * 5 + 3, none⟩ = some (.string nn) := e4
      replace e5 : wz.cell? ⟨vb, off + k * 5 + 4, none⟩ = some (.string dd) := e5
      have k0 : (0 : Int) ≤ (k : Int) := by omega
      have k1 : (k : Int) < (s.vot.length : Int) := by omega
      have q0 : (0 : Int) ≤ (ho : Int) := by omega
      have q1 : (ho : Int) < (s.ps.length : Int) := by omega
      have r1 := (hR.out.below hB.out).cell ho (by omega); have r9 := (hR.out.below hB.out).lt
      generalize S ho = d at r1 hnx
      clear hcc i3 i4
      by_cases c1 : co = (p : Int)
      rotate_left
      · have m1 : (co == (p : Int)) = false := by rw [beq_eq_false_iff_ne]; exact c1
        have hneg : ¬ (co = (p : Int) ∧ d = true) := fun h => c1 h.1
        replace c1 := Lib.hid c1
        have hnx2 : sumS S (row (s.vot.take (k + 1)) p) = sumS S (row (s.vot.take k) p) := by have h := hnx.out; rw [if_neg hneg] at h; exact h
        replace hneg := Lib.hid hneg; rw [← hnx2] at hss ⊢; replace hnx2 := Lib.hid hnx2
        go_wp2
        exact ⟨⟨k + 1, by omega, by go_num, by first | rfl | trivial, hB, hX⟩, by simp only [intOf]; omega⟩
      · have m1 : (co == (p : Int)) = true := by rw [beq_iff_eq]; exact c1
        cases d with
        | false =>
          have hneg : ¬ (co = (p : Int) ∧ false = true) := fun h => by cases h.2
          replace c1 := Lib.hid c1
          have hnx2 : sumS S (row (s.vot.take (k + 1)) p) = sumS S (row (s.vot.take k) p) := by have h := hnx.out; rw [if_neg hneg] at h; exact h
          replace hneg := Lib.hid hneg; rw [← hnx2] at hss ⊢; replace hnx2 := Lib.hid hnx2
          go_wp2
          exact ⟨⟨k + 1, by omega, by go_num, by first | rfl | trivial, hB, hX⟩, by simp only [intOf]; omega⟩
        | true =>
          have hnx2 : Hid (sumS S (row (s.vot.take (k + 1)) p) = sumS S (row (s.vot.take k) p) + unitsN (gg, nn, dd)) := by have h := hnx.out; rw [if_pos ⟨c1, rfl⟩] at h; exact h
          have hul : unitsN (gg, nn, dd) ≤ 6000 := units_le _
          have kU := Lib.hid (RUnits_any gg nn dd wz hzz.1 hzz.2)
          generalize unitsN (gg, nn, dd) = uu at kU hnx2 hul
          replace c1 := Lib.hid c1
          go_wp2_with fail
          refine kU.out.mono ?_
          rintro e w3 ⟨rfl, hb⟩
          have hB3 := Lib.hid (hB.out.trans (hb.mono hB.out.size)); have hX3 := Lib.hid (hX.out.below hb)
          clear hb e1 e2 e3 e4 e5 u2 u9 r1 r9 hbl kU hB hX
          go_wp2
          exact ⟨⟨k + 1, by omega, by go_num, by rw [hnx2.out]; go_num, hB3, hX3⟩, by simp only [intOf]; omega⟩
    · obtain rfl : k = s.vot.length := by omega
      rw [List.take_length]
      go_wp2
      go_ret
      exact ⟨ret_bool (by first | rfl | (rw [decide_eq_decide]; omega)), hB.out⟩
end Co
end Go.Proofs.YtpmlhgmmobpilaaGreatDoor
namespace Go.Proofs.YtpmlhgmmobpilaaGreatDoor
open Go.RowKit Go.Shelf
namespace Co
open Nt Ci
set_option maxRecDepth 100000 in
set_option maxHeartbeats 16000000 in
theorem RCtl_any (s : SR) (Ap Ac Av Af : Option Addr) (cp cc cv cf : Nat) (F : List Int) (w : World) (hs : StIn w s Ap Ac Av) (hv3 : s.vot.length ≤ 300) (hF : InInt w Af F) (hFl : F.length ≤ 140737488355328) :
    Calls Tryz.prog 29 #[.agg #[.slice Ap s.ps.length cp, .slice Ac s.cap.length cc, .slice Av s.vot.length cv], .slice Af F.length cf] w (CtPost s F w) := by
  have hX1 : Hid (Bk (w.alloc (.cells #[.slice Ap s.ps.length cp, .slice Ac s.cap.length cc, .slice Av s.vot.length cv] 54)) w.heap.size 54 (SC s Ap Ac Av cp cc cv)) := Bk.new w _ _
  have hB1 : Hid (Below w.heap.size w (w.alloc (.cells #[.slice Ap s.ps.length cp, .slice Ac s.cap.length cc, .slice Av s.vot.length cv] 54))) := (Below.refl _ w).alloc (Nat.le_refl _) _
  have u0 := hX1.out.cell (j := 0) rfl; have u1 := hX1.out.cell (j := 1) rfl; have u2 := hX1.out.cell (j := 2) rfl; have u9 := hX1.out.lt
  have kS := Lib.hid (RSound_any s Ap Ac Av cp cc cv (w.alloc (.cells #[.slice Ap s.ps.length cp, .slice Ac s.cap.length cc, .slice Av s.vot.length cv] 54)) (hs.below hB1.out))
  have kL := Lib.hid (fun W (hb : Below w.heap.size w W) => (List_any Af cf s.ps.length F W (hF.below hb) hFl).mono fun e w' h => (⟨h.1, by obtain ⟨q, rfl⟩ := h.2; exact blw_drewN (Below.refl _ _) q⟩ : e = .returned (.bool (listB s.ps.length F)) ∧ Below W.heap.size W w'))
  have hP : Hid (∀ e W, (if soundB s = true ∧ listB s.ps.length F = true then ∃ b, e = .returned (.tuple #[.slice (some ⟨b, 0, none⟩) s.ps.length s.ps.length, .int .i64 0]) ∧ w.heap.size ≤ b ∧ RoI W b s.ps.length (rd (VT s) (toN F)) else e = .returned (.tuple #[.slice none 0 0, .int .i64 1])) → Below w.heap.size w W → CtPost s F w e W) := fun e W h1 h2 => ⟨h1, h2⟩
  replace hs := Lib.hid hs; replace hF := Lib.hid hF
  obtain ⟨sd, hsd⟩ : ∃ x, x = soundB s := ⟨_, rfl⟩
  rw [← hsd] at kS
  replace hsd := Lib.hid hsd
  obtain ⟨ls, hls⟩ : ∃ x, x = listB s.ps.length F := ⟨_, rfl⟩
  rw [← hls] at kL
  replace hls := Lib.hid hls
  cases sd with
  | false =>
    go_enter Tryz.func29, Tryz.ntmps29
    go_wp2_with fail
    refine kS.out.mono ?_
    rintro e w2 ⟨rfl, hb⟩
    have hB2 := Lib.hid (hB1.out.trans (hb.mono hB1.out.size)); have hX2 := Lib.hid (hX1.out.below hb)
    clear hb kS u0 u1 u2 u9 hB1 hX1
    go_wp2
    go_ret2
    exact hP.out _ _ (by rw [if_neg fun h => by have := hsd.out; rw [h.1] at this; cases this]; rfl) hB2.out
  | true =>
    cases ls with
    | false =>
      go_enter Tryz.func29, Tryz.ntmps29
      go_wp2_with fail
      refine kS.out.mono ?_
      rintro e w2 ⟨rfl, hb⟩
      have hB2 := Lib.hid (hB1.out.trans (hb.mono hB1.out.size)); have hX2 := Lib.hid (hX1.out.below hb)
      clear hb kS u0 u1 u2 u9 hB1 hX1
      have kl := Lib.hid (kL.out w2 hB2.out); clear kL
      have u0 := hX2.out.cell (j := 0) rfl; have u1 := hX2.out.cell (j := 1) rfl; have u2 := hX2.out.cell (j := 2) rfl; have u9 := hX2.out.lt
      go_wp2_with fail
      refine kl.out.mono ?_
      rintro e w3 ⟨rfl, hb⟩
      have hB3 := Lib.hid (hB2.out.trans (hb.mono hB2.out.size)); have hX3 := Lib.hid (hX2.out.below hb)
      clear hb kl hB2 hX2 u0 u1 u2 u9
      go_wp2
      go_ret2
      exact hP.out _ _ (by rw [if_neg fun h => by have := hls.out; rw [h.2] at this; cases this]; rfl) hB3.out
    | true =>
      go_enter Tryz.func29, Tryz.ntmps29
      go_wp2_with fail
      refine kS.out.mono ?_
      rintro e w2 ⟨rfl, hb⟩
      have hB2 := Lib.hid (hB1.out.trans (hb.mono hB1.out.size)); have hX2 := Lib.hid (hX1.out.below hb)
      clear hb kS u0 u1 u2 u9 hB1 hX1
      have kl := Lib.hid (kL.out w2 hB2.out); clear kL
      have u0 := hX2.out.cell (j := 0) rfl; have u1 := hX2.out.cell (j := 1) rfl; have u2 := hX2.out.cell (j := 2) rfl; have u9 := hX2.out.lt
      go_wp2_with fail
      refine kl.out.mono ?_
      rintro e w3 ⟨rfl, hb⟩
      have hB3 := Lib.hid (hB2.out.trans (hb.mono hB2.out.size)); have hX3 := Lib.hid (hX2.out.below hb)
      clear hb kl hB2 hX2 u0 u1 u2 u9
      have hsd2 : soundB s = true := hsd.out.symm; have hls2 : listB s.ps.length F = true := hls.out.symm
      have hV : Hid (VIn s.ps.length (VT s)) := VIn_of (sound_vot hsd2)
      have hn60 := sound_n hsd2
      obtain ⟨V, hVV⟩ : ∃ V, V = VT s := ⟨_, rfl⟩
      rw [← hVV] at hV
      have hmV : Hid (∀ S p, maj (VT s) S p = maj V S p) := fun S p => by rw [hVV]
      replace hVV := Lib.hid hVV
      have kM := Lib.hid (fun b cb p S W (hb : Below w.heap.size w W) => RMaj_any s Ap Ac Av cp cc cv b cb p S W (hs.out.below hb) hv3 hsd2)
      have hR4 : Hid (RoI (w3.alloc (.cells (madeCells #[.int .i64 0] s.ps.length) 3)) w3.heap.size s.ps.length fun _ => 0) := RoI.made w3 s.ps.length 3
      have hB4 : Hid (Below w.heap.size w (w3.alloc (.cells (madeCells #[.int .i64 0] s.ps.length) 3))) := hB3.out.alloc hB3.out.size _
      have hX4 : Hid (Bk (w3.alloc (.cells (madeCells #[.int .i64 0] s.ps.length) 3)) w.heap.size 54 (SC s Ap Ac Av cp cc cv)) := hX3.out.alloc _
      have kT := Lib.hid (RSet_any s.ps.length Af cf F (w3.alloc (.cells (madeCells #[.int .i64 0] s.ps.length) 3)) (hF.out.below hB4.out) hls2 (by omega) hFl)
      have hlow : Hid (w.heap.size < w3.heap.size) := hX3.out.lt
      have hmk := run_make_row' (P := Tryz.prog) 24 3 (.int .i64 0) 8 Tryz.underlying24 infoIr rfl .i64 .i64 s.ps.length (by omega) (by omega)
      replace hsd2 := Lib.hid hsd2; replace hls2 := Lib.hid hls2
      clear hB3 hX3
      go_wp2_with fail
      refine kT.out.mono ?_
      rintro e w5 ⟨⟨ib, rfl, hib, hS5⟩, hb⟩
      have hB5 := Lib.hid (hB4.out.trans (hb.mono hB4.out.size)); have hX5 := Lib.hid (hX4.out.below hb)
      have hR5 : Hid (RoI w5 w3.heap.size s.ps.length fun x => if x < 0 then oK V (toN F) 0 x else 0) := (hR4.out.below hb).congr fun x _ => by rw [if_neg (Nat.not_lt_zero _)]
      have hrl : Hid (w3.heap.size < ib) := Nat.lt_of_lt_of_le (by simp) hib
      replace hS5 := Lib.hid hS5
      clear hmk hb kT hB4 hX4 hR4 hib
      obtain ⟨rb, hrb⟩ : ∃ x, x = w3.heap.size := ⟨_, rfl⟩
      rw [← hrb] at hR5 hrl hlow ⊢
      replace hrb := Lib.hid hrb
      go_wp2
      go_loopw [9] (fun ix wr => ∃ (p : Nat), p ≤ s.ps.length ∧ ix = .int .i64 (p : Int) ∧ Hid (Below w.heap.size w wr) ∧ Hid (Bk wr w.heap.size 54 (SC s Ap Ac Av cp cc cv)) ∧ Hid (RoB wr ib s.ps.length (inL (toN F))) ∧ Hid (RoI wr rb s.ps.length fun x => if x < p then oK V (toN F) 0 x else 0)) (fun ix _ => s.ps.length - (intOf ix).toNat)
      case atStart => exact ⟨0, Nat.zero_le _, rfl, hB5, hX5, hS5, hR5⟩
      case round =>
        obtain ⟨p, hp, rfl, hB, hX, hS, hR⟩ := hrel
        clear hB5 hX5 hS5 hR5
        by_cases hlt : p < s.ps.length
        · have c1 := hS.out.cell p hlt; have c3 := hS.out.lt
          have p0 : (0 : Int) ≤ (p : Int) := by omega
          have p1 : (p : Int) < (s.ps.length : Int) := by omega
          have hin : Hid (inL (toN F) p = decide (p ∈ toN F)) := rfl
          have hz : Hid (oK V (toN F) 0 p = if p ∈ toN F then 0 else -1) := oK_zero
          generalize inL (toN F) p = bp at c1 hin
          cases bp with
          | true =>
            have hR2 : Hid (RoI wr rb s.ps.length fun x => if x < p + 1 then oK V (toN F) 0 x else 0) := hR.out.congr fun x _ => by
              by_cases c : x = p
              · subst c; rw [if_neg (Nat.lt_irrefl _), if_pos (Nat.lt_succ_self _), hz.out, if_pos (of_decide_eq_true hin.out.symm)]
              · by_cases d : x < p
                · rw [if_pos d, if_pos (by omega)]
                · rw [if_neg d, if_neg (by omega)]
            clear hR
            go_wp2
            exact ⟨⟨p + 1, by omega, by go_num, hB, hX, hS, hR2⟩, by simp only [intOf]; omega⟩
          | false =>
            have hR2 : Hid (RoI (wr.setCell ⟨rb, p, none⟩ (.int .i64 (-1))) rb s.ps.length fun x => if x < p + 1 then oK V (toN F) 0 x else 0) := (hR.out.set hlt (-1)).congr fun x _ => by
              by_cases c : x = p
              · subst c; rw [setI_same, if_pos (Nat.lt_succ_self _), hz.out, if_neg (of_decide_eq_false hin.out.symm)]
              · rw [setI_other c]
                by_cases d : x < p
                · rw [if_pos d, if_pos (by omega)]
                · rw [if_neg d, if_neg (by omega)]
            have hB3 : Hid (Below w.heap.size w (wr.setCell ⟨rb, p, none⟩ (.int .i64 (-1)))) := hB.out.setCell (p := ⟨rb, p, none⟩) (Nat.le_of_lt hlow.out) _
            have hX3 : Hid (Bk (wr.setCell ⟨rb, p, none⟩ (.int .i64 (-1))) w.heap.size 54 (SC s Ap Ac Av cp cc cv)) := hX.out.far (p := ⟨rb, p, none⟩) (Nat.ne_of_lt hlow.out) _
            have hS2 : Hid (RoB (wr.setCell ⟨rb, p, none⟩ (.int .i64 (-1))) ib s.ps.length (inL (toN F))) := hS.out.far _ (Nat.ne_of_lt hrl.out)
            have r1 := hR.out.cell p hlt; have r2 := hR.out.fr p; have r3 := hR.out.lt
            generalize (if p < p then oK V (toN F) 0 p else 0 : Int) = dv at r1
            clear hR hB hX hS
            go_wp2
            exact ⟨⟨p + 1, by omega, by go_num, hB3, hX3, hS2, hR2⟩, by simp only [intOf]; omega⟩
        · obtain rfl : p = s.ps.length := by omega
          have hR2 : Hid (RoI wr rb s.ps.length (oK V (toN F) 0)) := hR.out.congr fun x hx => if_pos hx
          have hS2 : Hid (RoB wr ib s.ps.length (inR V (toN F) 0)) := hS.out.congr fun x _ => rfl
          have hil : Hid (w.heap.size < ib) := Nat.lt_trans hlow.out hrl.out
          have hri : Hid (rb ≠ ib) := Nat.ne_of_lt hrl.out
          clear hR hS hrl
          go_wp2
          go_loopw [8, 10] (fun inx kx wr => ∃ (k ib cb : Nat), k ≤ s.ps.length ∧ kx = .int .i64 ((k : Int) + 1) ∧ inx = .slice (some ⟨ib, 0, none⟩) s.ps.length cb ∧ Hid (Below w.heap.size w wr) ∧ Hid (Bk wr w.heap.size 54 (SC s Ap Ac Av cp cc cv)) ∧ Hid (RoB wr ib s.ps.length (inR V (toN F) k)) ∧ Hid (RoI wr rb s.ps.length (oK V (toN F) k)) ∧ Hid (w.heap.size < ib) ∧ Hid (rb ≠ ib)) (fun _ kx _ => s.ps.length + 1 - (intOf kx).toNat)
          case atStart => exact ⟨0, ib, _, Nat.zero_le _, rfl, rfl, hB, hX, hS2, hR2, hil, hri⟩
          case round =>
            obtain ⟨k, ib, cb, hk, rfl, rfl, hB, hX, hS, hR, hil, hri⟩ := hrel
            obtain ⟨wz, rfl⟩ : ∃ z, z = wr := ⟨_, rfl⟩
            by_cases hlt : k < s.ps.length
            rotate_left
            · obtain rfl : k = s.ps.length := by omega
              have hRf : Hid (RoI wz rb s.ps.length (rd (VT s) (toN F))) := by rw [← hVV.out]; exact hR.out.congr fun x hx => oK_last hV.out hx
              have m1 : decide ((s.ps.length : Int) + 1 ≤ (s.ps.length : Int)) = false := decide_eq_false (by omega)
              clear hR hS
              go_wp2
              go_ret2
              exact hP.out _ _ (by rw [if_pos ⟨hsd2.out, hls2.out⟩]; exact ⟨rb, rfl, Nat.le_of_lt hlow.out, hRf.out⟩) hB.out
            · have m1 : decide ((k : Int) + 1 ≤ (s.ps.length : Int)) = true := decide_eq_true (by omega)
              have hn0 : 0 < s.ps.length := by omega
              obtain ⟨i0, hi0, hzz⟩ := Option.map_eq_some_iff.1 Ci.infoB
              simp only [Prod.mk.injEq] at hzz
              obtain ⟨hz0, hz1, hz2⟩ := hzz
              replace hi0 := Lib.hid hi0
              replace hz0 := Lib.hid hz0
              replace hz1 := Lib.hid hz1
              replace hz2 := Lib.hid hz2
              have hO0 : Hid ((wz.alloc (.cells #[] 4)).ownsRow wz.heap.size 4 1 (.slice (some ⟨wz.heap.size, 0, none⟩) 0 0) 0 []) := World.ownsRow_lit wz #[] 0 (Nat.le_refl _) (Nat.zero_le _) rfl
              have hBa : Hid (Below w.heap.size w (wz.alloc (.cells #[] 4))) := hB.out.alloc hB.out.size _; have hXa := Lib.hid (hX.out.alloc (.cells #[] 4))
              have hba : Hid (Below wz.heap.size wz (wz.alloc (.cells #[] 4))) := (Below.refl _ _).alloc (Nat.le_refl _) _
              have hSa := Lib.hid (hS.out.below hba.out); have hRa := Lib.hid (hR.out.below hba.out)
              have hlib : Hid (ib < wz.heap.size) := hS.out.lt; have hlrb : Hid (rb < wz.heap.size) := hR.out.lt; have hlxb : Hid (w.heap.size < wz.heap.size) := hX.out.lt
              have hnews := Lib.hid hSa.out.news
              have hbsz : Hid (wz.heap.size ≤ (wz.alloc (.cells #[] 4)).heap.size) := by show _ ≤ _; simp
              have hbl : Hid ((boolsL s.ps.length (inR V (toN F) k)).length = s.ps.length * 1) := by rw [Nat.mul_one]; exact boolsL_len
              have hone : Hid (∀ u ∈ boolsL s.ps.length (inR V (toN F) k), u.oneCell' = true) := boolsL_one
              clear hB hX hS hR hba
              go_wp2_with (at_builtin; refine wpList_append_new _ rfl _ _ 106 rfl wz.heap.size 4 i0 (.bool false) 1 1 Tryz.underlying106 hi0.out hz0.out hz1.out hz2.out rfl (by decide) (.slice (some ⟨wz.heap.size, 0, none⟩) 0 0) 0 [] rfl hO0.out ⟨ib, 0, none⟩ s.ps.length cb (boolsL s.ps.length (inR V (toN F) k)) rfl hbl.out hnews.out hone.out hn0 (by unfold maxLen; omega) (by omega) hbsz.out ?_; intro u w6 ho hg hn; rw [Nat.zero_add, List.nil_append] at ho; obtain ⟨nA, nc, rfl⟩ := own_form ho)
              obtain ⟨nb, rfl, hnb, hN6⟩ := RoB.of_own ho hn0
              have hB6 : Hid (Below w.heap.size w w6) := hBa.out.grown hg hBa.out.size (fun b e => by simp [Value.ownBlock] at e; have := hlxb.out; omega)
              have hX6 : Hid (Bk w6 w.heap.size 54 (SC s Ap Ac Av cp cc cv)) := hXa.out.grown hg (fun e => by simp [Value.ownBlock] at e; have := hlxb.out; omega)
              have hS6 : Hid (RoB w6 ib s.ps.length (inR V (toN F) k)) := hSa.out.grown hg (fun e => by simp [Value.ownBlock] at e; have := hlib.out; omega)
              have hR6 : Hid (RoI w6 rb s.ps.length (oP V (toN F) k 0)) := (hRa.out.grown hg (fun e => by simp [Value.ownBlock] at e; have := hlrb.out; omega)).congr fun x _ => oP_zero.symm
              have hN7 : Hid (RoB w6 nb s.ps.length (inP V (toN F) k 0)) := hN6.congr fun x _ => inP_zero.symm
              have hni : Hid (ib ≠ nb) := by have := hlib.out; show ib ≠ nb; omega
              have hnr : Hid (rb ≠ nb) := by have := hlrb.out; show rb ≠ nb; omega
              have hnw : Hid (w.heap.size < nb) := by have := hlxb.out; show w.heap.size < nb; omega
              have hrw : Hid (w.heap.size < rb) := hlow.out
              clear hO0 hBa hXa hSa hRa hnews hbsz hbl hone ho hg hn hN6 hnb hi0 hz0 hz1 hz2 hlib hlrb hlxb
              go_wp2
              go_loopw [12] (fun ix wr => ∃ (p : Nat), p ≤ s.ps.length ∧ ix = .int .i64 (p : Int) ∧ Hid (Below w.heap.size w wr) ∧ Hid (Bk wr w.heap.size 54 (SC s Ap Ac Av cp cc cv)) ∧ Hid (RoB wr ib s.ps.length (inR V (toN F) k)) ∧ Hid (RoI wr rb s.ps.length (oP V (toN F) k p)) ∧ Hid (RoB wr nb s.ps.length (inP V (toN F) k p))) (fun ix _ => s.ps.length - (intOf ix).toNat)
              case atStart => exact ⟨0, Nat.zero_le _, rfl, hB6, hX6, hS6, hR6, hN7⟩
              case round =>
                obtain ⟨p, hp, rfl, hB, hX, hS, hR, hN⟩ := hrel
                clear hB6 hX6 hS6 hR6 hN7
                obtain ⟨wq, rfl⟩ : ∃ z, z = wr := ⟨_, rfl⟩
                by_cases hpl : p < s.ps.length
                · have p0 : (0 : Int) ≤ (p : Int) := by omega
                  have p1 : (p : Int) < (s.ps.length : Int) := by omega
                  have c1 := hS.out.cell p hpl; have c9 := hS.out.lt
                  have hsu : Hid (inR V (toN F) (k + 1) p = (inR V (toN F) k p || maj V (inR V (toN F) k) p)) := inR_succ
                  have kmj := Lib.hid (kM.out ib cb p (inR V (toN F) k) wq hB.out hS.out)
                  rw [hmV.out] at kmj
                  generalize hb0 : inR V (toN F) k p = b0 at c1
                  generalize hb1 : maj V (inR V (toN F) k) p = b1 at kmj
                  rw [hb0, hb1] at hsu
                  replace hb1 := Lib.hid hb1
                  cases b0 with
                  | true =>
                    have hno : Hid (inR V (toN F) (k + 1) p = inR V (toN F) k p) := by rw [hsu.out, hb0]; rfl
                    replace hb0 := Lib.hid hb0
                    have hR8 : Hid (RoI wq rb s.ps.length (oP V (toN F) k (p + 1))) := hR.out.congr fun x _ => oP_no hno.out
                    have hN8 : Hid (RoB wq nb s.ps.length (inP V (toN F) k (p + 1))) := hN.out.congr fun x _ => inP_no hno.out
                    clear hno hsu
                    go_wp2
                    exact ⟨⟨p + 1, by omega, by go_num, hB, hX, hS, hR8, hN8⟩, by simp only [intOf]; omega⟩
                  | false =>
                    have u0 := hX.out.cell (j := 0) rfl; have u1 := hX.out.cell (j := 1) rfl; have u2 := hX.out.cell (j := 2) rfl; have u9 := hX.out.lt
                    go_wp2_with fail
                    refine kmj.out.mono ?_
                    rintro e w7 ⟨rfl, hb⟩
                    have hB7 := Lib.hid (hB.out.trans (hb.mono hB.out.size)); have hX7 := Lib.hid (hX.out.below hb); have hS7 := Lib.hid (hS.out.below hb); have hR7 := Lib.hid (hR.out.below hb); have hN7 := Lib.hid (hN.out.below hb)
                    clear hb kmj u0 u1 u2 u9 c1 c9 hB hX hS hR hN
                    cases b1 with
                    | false =>
                      have hno : Hid (inR V (toN F) (k + 1) p = inR V (toN F) k p) := by rw [hsu.out, hb0]; rfl
                      replace hb0 := Lib.hid hb0
                      have hR8 : Hid (RoI w7 rb s.ps.length (oP V (toN F) k (p + 1))) := hR7.out.congr fun x _ => oP_no hno.out
                      have hN8 : Hid (RoB w7 nb s.ps.length (inP V (toN F) k (p + 1))) := hN7.out.congr fun x _ => inP_no hno.out
                      clear hno hsu
                      go_wp2
                      exact ⟨⟨p + 1, by omega, by go_num, hB7, hX7, hS7, hR8, hN8⟩, by simp only [intOf]; omega⟩
                    | true =>
                      have hyes : inR V (toN F) (k + 1) p = true := by rw [hsu.out]; rfl
                      have hN9 : Hid (RoB ((w7.setCell ⟨nb, p, none⟩ (.bool true)).setCell ⟨rb, p, none⟩ (.int .i64 ((k : Int) + 1))) nb s.ps.length (inP V (toN F) k (p + 1))) := (hN7.out.set hpl fun y _ => inP_yes hyes).far _ hnr.out
                      have hR9 : Hid (RoI ((w7.setCell ⟨nb, p, none⟩ (.bool true)).setCell ⟨rb, p, none⟩ (.int .i64 ((k : Int) + 1))) rb s.ps.length (oP V (toN F) k (p + 1))) := ((Co.RoI.far hR7.out _ (Ne.symm hnr.out)).set hpl ((k : Int) + 1)).congr fun x _ => by have h := oP_yes (x := x) hb0 hyes; rw [← h]; simp
                      have hS9 : Hid (RoB ((w7.setCell ⟨nb, p, none⟩ (.bool true)).setCell ⟨rb, p, none⟩ (.int .i64 ((k : Int) + 1))) ib s.ps.length (inR V (toN F) k)) := (hS7.out.far _ (Ne.symm hni.out)).far _ hri.out
                      have hX9 : Hid (Bk ((w7.setCell ⟨nb, p, none⟩ (.bool true)).setCell ⟨rb, p, none⟩ (.int .i64 ((k : Int) + 1))) w.heap.size 54 (SC s Ap Ac Av cp cc cv)) := (hX7.out.far (p := ⟨nb, p, none⟩) (Nat.ne_of_lt hnw.out) _).far (p := ⟨rb, p, none⟩) (Nat.ne_of_lt hrw.out) _
                      have hB9 : Hid (Below w.heap.size w ((w7.setCell ⟨nb, p, none⟩ (.bool true)).setCell ⟨rb, p, none⟩ (.int .i64 ((k : Int) + 1)))) := (hB7.out.setCell (p := ⟨nb, p, none⟩) (Nat.le_of_lt hnw.out) _).setCell (p := ⟨rb, p, none⟩) (Nat.le_of_lt hrw.out) _
                      have n1 := hN7.out.cell p hpl; have n2 := hN7.out.fr p; have n3 := hN7.out.lt; have r1 := hR7.out.cell p hpl; have r2 := hR7.out.fr p; have r3 := hR7.out.lt
                      generalize inP V (toN F) k p p = dv at n1; generalize oP V (toN F) k p p = dw at r1
                      have q1 : rb ≠ nb := hnr.out; have q2 : nb ≠ rb := Ne.symm hnr.out
                      clear hsu hyes hb0 hN7 hR7 hS7 hX7 hB7
                      go_wp2
                      exact ⟨⟨p + 1, by omega, by go_num, hB9, hX9, hS9, hR9, hN9⟩, by simp only [intOf]; omega⟩
                · obtain rfl : p = s.ps.length := by omega
                  have hS9 : Hid (RoB wq nb s.ps.length (inR V (toN F) (k + 1))) := hN.out.congr fun x hx => inP_all hx
                  have hR9 : Hid (RoI wq rb s.ps.length (oK V (toN F) (k + 1))) := hR.out.congr fun x hx => oP_all hx
                  clear hS hR hN
                  go_wp2
                  exact ⟨⟨k + 1, nb, _, by omega, by go_num, rfl, hB, hX, hS9, hR9, hnw, hnr⟩, by simp only [intOf]; omega⟩
end Co
end Go.Proofs.YtpmlhgmmobpilaaGreatDoor
namespace Go.Proofs.YtpmlhgmmobpilaaGreatDoor
open Go.RowKit Go.Shelf
namespace Co
open Nt Ci
theorem res_proofR {tb : Nat} {u1 u2 : Value} {W : World} (hb : Bk W tb 56 [u1, u2]) {tmps : Array Value} (h6 : tmps.getD 6 undef = .pointer (some ⟨tb, 0, none⟩)) {e : Int} (h7 : tmps.getD 7 undef = .int .i64 e) :
    (results Tryz.f31 tmps).run Tryz.prog W = .ok (.tuple #[.agg #[u1, u2], .int .i64 e]) W := by
  have c0 := hb.cell (j := 0) rfl
  have c1 := hb.cell (j := 1) rfl
  have c9 := hb.lt
  rw [results_cell_tmp rfl, h6, h7]
  go_simp
/-- The order as far as round k, party i. -/
structure OrdTo (o : Nat → Int) (n p k i : Nat) (l : List Nat) : Prop where
  s : l.Pairwise (lexo o)
  m : ∀ x, x ∈ l ↔ x < n ∧ 0 < o x ∧ (x = p ∨ lexo o x p) ∧ (o x < k ∨ (o x = k ∧ x < i))
  z : l.length + n ≤ k * n + i
section
variable {o : Nat → Int} {n p k i : Nat} {l : List Nat}
theorem OrdTo.start : OrdTo o n p 1 0 [] := ⟨List.Pairwise.nil, fun x => ⟨fun h => (by cases h), fun h => by omega⟩, by simp⟩
theorem OrdTo.yes (h : OrdTo o n p k i l) (hi : i < n) (hk : 0 < k) (h1 : o i = k) (h2 : (k : Int) < o p ∨ ((k : Int) = o p ∧ i ≤ p)) : OrdTo o n p k (i + 1) (l ++ [i]) := by
  refine ⟨?_, fun x => ?_, by rw [List.length_append, List.length_singleton]; have := h.z; omega⟩
  · rw [List.pairwise_append]
    refine ⟨h.s, List.pairwise_singleton .., fun x hx y hy => ?_⟩
    rw [List.mem_singleton.1 hy]
    have := (h.m x).1 hx
    unfold lexo
    omega
  · rw [List.mem_append, List.mem_singleton, h.m]
    unfold lexo
    constructor
    · rintro (h | rfl)
      · omega
      · omega
    · intro h
      by_cases e : x = i
      · exact .inr e
      · left; omega
theorem OrdTo.no (h : OrdTo o n p k i l) (h2 : ¬ (o i = k ∧ ((k : Int) < o p ∨ ((k : Int) = o p ∧ i ≤ p)))) (hkp : (k : Int) ≤ o p) : OrdTo o n p k (i + 1) l := by
  refine ⟨h.s, fun x => ?_, by have := h.z; omega⟩
  rw [h.m]
  unfold lexo
  constructor
  · intro h; omega
  · intro h3
    by_cases e : x = i
    · subst e; omega
    · omega
theorem OrdTo.next (h : OrdTo o n p k n l) : OrdTo o n p (k + 1) 0 l := ⟨h.s, fun x => by rw [h.m]; unfold lexo; constructor <;> (intro h; omega), by rw [Nat.succ_mul]; have := h.z; omega⟩
theorem OrdTo.all (h : OrdTo o n p k 0 l) (hk : o p < k) : OrdIs o n p l := ⟨h.s, fun x => by
  rw [h.m]
  unfold lexo
  constructor
  · intro h; omega
  · rintro ⟨h1, h2, h3⟩
    refine ⟨h1, h2, h3, .inl ?_⟩
    rcases h3 with rfl | h3
    · exact hk
    · omega⟩
end
set_option maxRecDepth 100000 in
set_option maxHeartbeats 16000000 in
theorem RProve_any (s : SR) (Ap Ac Av Af : Option Addr) (cp cc cv cf : Nat) (F : List Int) (party : Int) (w : World) (hs : StIn w s Ap Ac Av) (hv3 : s.vot.length ≤ 300) (hF : InInt w Af F) (hFl : F.length ≤ 140737488355328) :
    Calls Tryz.prog 31 #[.agg #[.slice Ap s.ps.length cp, .slice Ac s.cap.length cc, .slice Av s.vot.length cv], .slice Af F.length cf, .int .i64 party] w (PvPost s F party w) := by
  have hB1 : Hid (Below w.heap.size w ((w.alloc (.cells #[.slice Ap s.ps.length cp, .slice Ac s.cap.length cc, .slice Av s.vot.length cv] 54)).alloc (.cells #[.slice none 0 0, .slice none 0 0] 56))) := ((Below.refl _ w).alloc (Nat.le_refl _) _).alloc (by simp) _
  have hX1 : Hid (Bk ((w.alloc (.cells #[.slice Ap s.ps.length cp, .slice Ac s.cap.length cc, .slice Av s.vot.length cv] 54)).alloc (.cells #[.slice none 0 0, .slice none 0 0] 56)) w.heap.size 54 (SC s Ap Ac Av cp cc cv)) := (Bk.new w _ _).alloc _
  have hT1 : Hid (Bk ((w.alloc (.cells #[.slice Ap s.ps.length cp, .slice Ac s.cap.length cc, .slice Av s.vot.length cv] 54)).alloc (.cells #[.slice none 0 0, .slice none 0 0] 56)) (w.heap.size + 1) 56 [.slice none 0 0, .slice none 0 0]) := by have h := Bk.new (w.alloc (.cells #[.slice Ap s.ps.length cp, .slice Ac s.cap.length cc, .slice Av s.vot.length cv] 54)) 56 [.slice none 0 0, .slice none 0 0]; rw [World.size_alloc] at h; exact h
  have u0 := hX1.out.cell (j := 0) rfl; have u1 := hX1.out.cell (j := 1) rfl; have u2 := hX1.out.cell (j := 2) rfl; have u9 := hX1.out.lt
  have kc := RCtl_any s Ap Ac Av Af cp cc cv cf F _ (hs.below hB1.out) hv3 (hF.below hB1.out) hFl
  obtain ⟨tb, htb⟩ : ∃ x, x = w.heap.size + 1 := ⟨_, rfl⟩
  obtain ⟨W1, hW1⟩ : ∃ W, W = ((w.alloc (.cells #[.slice Ap s.ps.length cp, .slice Ac s.cap.length cc, .slice Av s.vot.length cv] 54)).alloc (.cells #[.slice none 0 0, .slice none 0 0] 56)) := ⟨_, rfl⟩
  rw [← hW1] at hB1 hX1 hT1 kc u0 u1 u2 u9
  rw [← htb] at hT1
  have htw : Hid (w.heap.size ≤ tb) := by rw [htb]; exact Nat.le_succ _
  by_cases hgd : soundB s = true ∧ listB s.ps.length F = true
  · have kc2 : Hid (Calls Tryz.prog 29 #[.agg #[.slice Ap s.ps.length cp, .slice Ac s.cap.length cc, .slice Av s.vot.length cv], .slice Af F.length cf] W1 fun e w' => (∃ b, e = .returned (.tuple #[.slice (some ⟨b, 0, none⟩) s.ps.length s.ps.length, .int .i64 0]) ∧ W1.heap.size ≤ b ∧ RoI w' b s.ps.length (rd (VT s) (toN F))) ∧ Below W1.heap.size W1 w') := kc.mono fun e w' h => ⟨by have h1 := h.1; rw [if_pos hgd] at h1; exact h1, h.2⟩
    clear kc
    have hn60 := sound_n hgd.1
    by_cases hpa : 0 ≤ party ∧ party < s.ps.length
    · obtain ⟨p, rfl⟩ : ∃ p : Nat, party = (p : Int) := ⟨party.toNat, by omega⟩
      have hpn : p < s.ps.length := by omega
      have hP : Hid (∀ o, o = rd (VT s) (toN F) → (∀ e W, 0 ≤ o p → (∃ A c l, e = .returned (.tuple #[.agg #[.slice A (List.length l) c, .slice none 0 0], .int .i64 0]) ∧ InInt W A (castL l) ∧ OrdIs o s.ps.length p l) → Below w.heap.size w W → PvPost s F (p : Int) w e W) ∧ ∀ e W, ¬ 0 ≤ o p → (∃ A c, e = .returned (.tuple #[.agg #[.slice none 0 0, .slice A (clL o s.ps.length).length c], .int .i64 0]) ∧ InInt W A (castL (clL o s.ps.length))) → Below w.heap.size w W → PvPost s F (p : Int) w e W) := by
        rintro o rfl
        refine ⟨fun e W h0 h1 h2 => ⟨?_, h2⟩, fun e W h0 h1 h2 => ⟨?_, h2⟩⟩
        · rw [if_pos ⟨hgd.1, hgd.2, hpa⟩, if_pos (show 0 ≤ rd (VT s) (toN F) ((p : Int)).toNat from h0)]; exact h1
        · rw [if_pos ⟨hgd.1, hgd.2, hpa⟩, if_neg (show ¬ 0 ≤ rd (VT s) (toN F) ((p : Int)).toNat from h0)]; exact h1
      have hrdn : Hid (rd (VT s) (toN F) p < s.ps.length + 1) := by have := rd_lt (F := toN F) (VIn_of (sound_vot hgd.1)) hpn; show _ < _; omega
      replace hgd := Lib.hid hgd
      go_enter Tryz.func31, Tryz.ntmps31
      go_wp2_with fail
      (try rw [← hW1])
      (try rw [← htb])
      replace hW1 := Lib.hid hW1; replace htb := Lib.hid htb
      refine kc2.out.mono ?_
      rintro e w3 ⟨⟨b, rfl, hb0, hR3⟩, hb⟩
      obtain ⟨o, ho⟩ : ∃ o, o = rd (VT s) (toN F) := ⟨_, rfl⟩
      rw [← ho] at hR3 hrdn
      have hP2 := hP.out o ho
      replace hP := Lib.hid hP2
      clear hP2
      have hB3 := Lib.hid (hB1.out.trans (hb.mono hB1.out.size))
      have hT3 := Lib.hid (hT1.out.below hb)
      replace hR3 := Lib.hid hR3
      have hbt : Hid (b ≠ tb) := fun e => by have := hT1.out.lt; omega
      clear hb hX1 u0 u1 u2 u9 kc2 ho
      have hb5 : Hid (Below w3.heap.size w3 (w3.alloc (.cells #[.slice none 0 0, .slice none 0 0] 56))) := (Below.refl _ w3).alloc (Nat.le_refl _) _
      have hP5 : Hid (Bk (w3.alloc (.cells #[.slice none 0 0, .slice none 0 0] 56)) w3.heap.size 56 [.slice none 0 0, .slice none 0 0]) := Bk.new _ _ _
      have hR5 := Lib.hid (hR3.out.below hb5.out)
      have y1 := hR5.out.cell p hpn; have y9 := hR5.out.lt
      have m1 : decide ((p : Int) < 0) = false := decide_eq_false (by omega); have m2 : decide ((s.ps.length : Int) ≤ (p : Int)) = false := decide_eq_false (by omega); have m2n : decide (s.ps.length ≤ p) = false := decide_eq_false (by omega)
      have p0 : (0 : Int) ≤ (p : Int) := (by omega); have p1 : (p : Int) < (s.ps.length : Int) := by omega
      obtain ⟨i0, hi0, hzz⟩ := Option.map_eq_some_iff.1 Ci.infoI
      simp only [Prod.mk.injEq] at hzz
      obtain ⟨hz0, hz1, hz2⟩ := hzz
      replace hi0 := Lib.hid hi0
      replace hz0 := Lib.hid hz0
      replace hz1 := Lib.hid hz1
      replace hz2 := Lib.hid hz2
      by_cases ho0 : 0 ≤ o p
      rotate_left
      · have m3 : decide (o p < 0) = true := decide_eq_true (by omega)
        have hfin := Lib.hid (fun e W h => hP.out.2 e W (by omega) h)
        generalize o p = d at y1 m3
        go_wp2_with fail
        obtain ⟨wo, hwo⟩ : ∃ W, W = (w3.alloc (.cells #[.slice none 0 0, .slice none 0 0] 56)) := ⟨_, rfl⟩
        rw [← hwo] at hb5 hP5 hR5 ⊢
        obtain ⟨pb, hrb⟩ : ∃ x, x = w3.heap.size := ⟨_, rfl⟩
        have hsz : wo.heap.size = pb + 1 := by rw [hwo, hrb]; simp
        rw [← hrb] at hP5 ⊢
        have hB5 := Lib.hid (hB3.out.trans (hb5.out.mono hB3.out.size)); have hT5 := Lib.hid (hT3.out.below hb5.out)
        have htr : Hid (tb < pb) := by have := hT3.out.lt; rw [hrb]; exact this
        have hbr : Hid (b < pb) := by have := hR3.out.lt; rw [hrb]; exact this
        have hwr : Hid (w.heap.size ≤ pb) := by rw [hrb]; exact hB3.out.size
        replace hwo := Lib.hid hwo; replace hrb := Lib.hid hrb
        clear hb5 y1 y9 hB3 hT3 hR3 hT1 hB1
        have hV0 : Hid (PvI wo wo pb (pb + 1) [] (clL o 0) (.slice none 0 0) (.slice none 0 0)) := ⟨Kp.refl _ _, hP5.out, World.ownsRow_nil _ _ _ _, World.ownsRow_nil _ _ _ _, fun b h => (by cases h), Nat.lt_succ_self _, by omega⟩
        go_loopw [11] (fun ix wr => ∃ (i c2 : Nat) (A2 : Option Addr), i ≤ s.ps.length ∧ ix = .int .i64 (i : Int) ∧ Hid (PvI wo wr pb (pb + 1) [] (clL o i) (.slice none 0 0) (.slice A2 (clL o i).length c2))) (fun ix _ => s.ps.length - (intOf ix).toNat)
        case atStart => exact ⟨0, 0, none, Nat.zero_le _, rfl, hV0⟩
        case round =>
          obtain ⟨i, c2, A2, hi, rfl, hV⟩ := hrel
          clear hV0
          have hRi : Hid (RoI wr b s.ps.length o) := hR5.out.of_block hV.out.k.size (hV.out.k.block b hR5.out.lt (by simp; have := hbr.out; omega))
          have l2 := clL_len (o := o) (n := i)
          by_cases hin : i < s.ps.length
          · have e1 := hRi.out.cell i hin; have e9 := hRi.out.lt
            have j0 : (0 : Int) ≤ (i : Int) := by omega
            have j1 : (i : Int) < (s.ps.length : Int) := by omega
            have v0 := hV.out.p.cell (j := 0) rfl; have v1 := hV.out.p.cell (j := 1) rfl; have v9 := hV.out.p.lt
            by_cases h1 : 0 ≤ o i
            · have hs2 : Hid (clL o (i + 1) = clL o i ++ [i]) := clL_yes h1
              have hsl : Hid ((clL o (i + 1)).length = (clL o i).length + 1) := by rw [hs2.out]; exact List.length_append
              have m4 : decide (0 ≤ o i) = true := decide_eq_true h1
              generalize o i = dd at e1 m4
              clear h1
              have hV7 := Lib.hid (hV.out.below ((Below.refl _ wr).alloc (Nat.le_refl _) (.cells #[.int .i64 (i : Int)] 3)))
              have hbs7 : Hid (pb + 1 ≤ (wr.alloc (.cells #[.int .i64 (i : Int)] 3)).heap.size) := (by have := hV7.out.k.size; show pb + 1 ≤ _; omega)
              have had7 : Hid (∀ j u, [(Value.int .i64 (i : Int))][j]? = some u → (wr.alloc (.cells #[.int .i64 (i : Int)] 3)).cell? (Addr.add ⟨wr.heap.size, 0, none⟩ j) = some u) := (by have h := head_new wr (.int .i64 (i : Int)) 3; exact h)
              have hrp7 : Hid (intsL (clL o i) ++ [.int .i64 (i : Int)] = intsL ((clL o i) ++ [i])) := (intsL_snoc _ _).symm
              go_wp2_with (at_builtin; refine wpList_append_new _ rfl _ _ 24 rfl (pb + 1) 3 i0 (.int .i64 0) 1 8 Tryz.underlying24 hi0.out hz0.out hz1.out hz2.out rfl (by decide) (.slice A2 (clL o i).length c2) (clL o i).length _ rfl hV7.out.r2 ⟨wr.heap.size, 0, none⟩ 1 1 [.int .i64 (i : Int)] rfl rfl had7.out (one_cell1 _ rfl) (by decide) (by unfold maxLen; omega) (by omega) hbs7.out ?_; intro vb7 wb7 ho7 hg7 hn7; obtain ⟨B7, d7, rfl⟩ := own_form ho7; rw [hrp7.out] at ho7; have hV79 := Lib.hid (hV7.out.put2 hg7 ho7 hn7); have z7 : wb7.cell? ⟨pb, 1, none⟩ = some (.slice A2 (clL o i).length c2) := (World.cell?_of_block (a := ⟨pb, 1, none⟩) (hg7.block pb hV7.out.p.lt (fun e => by have := (hV7.out.r2.lt _ e.symm).1; omega))).trans (hV7.out.p.cell (j := 1) rfl); have y7 : wb7.frozen? ⟨pb, 1, none⟩ = false := (World.frozen?_of_block (a := ⟨pb, 1, none⟩) (hg7.block pb hV7.out.p.lt (fun e => by have := (hV7.out.r2.lt _ e.symm).1; omega))).trans (hV7.out.p.frozen 1); have x7 : pb < wb7.heap.size := Nat.lt_of_lt_of_le hV7.out.p.lt hg7.size; clear hg7 hn7 ho7)
              have hV2 : Hid (PvI wo (wb7.setCell ⟨pb, 1, none⟩ (.slice B7 ((clL o i).length + 1) d7)) pb (pb + 1) [] (clL o (i + 1)) (.slice none 0 0) (.slice B7 (clL o (i + 1)).length d7)) := by rw [hsl.out, hs2.out]; exact hV79.out
              go_roundw
              case rel => exact ⟨i + 1, d7, B7, by omega, by go_num, hV2⟩
              case measure => simp [intOf]; omega
            · have hs2 : Hid (clL o (i + 1) = clL o i) := clL_no h1
              have m4 : decide (0 ≤ o i) = false := decide_eq_false h1
              generalize o i = dd at e1 m4
              clear h1
              have hV2 : Hid (PvI wo wr pb (pb + 1) [] (clL o (i + 1)) (.slice none 0 0) (.slice A2 (clL o (i + 1)).length c2)) := by rw [hs2.out]; exact hV.out
              clear hs2 l2
              go_wp2
              exact ⟨⟨i + 1, c2, A2, by omega, by go_num, hV2⟩, by simp only [intOf]; omega⟩
          · obtain rfl : i = s.ps.length := by omega
            have hBr : Hid (Below w.heap.size w wr) := hV.out.k.to_below hB5.out fun x hx => by simp at hx; have := hwr.out; omega
            have hTr : Hid (Bk wr tb 56 [.slice none 0 0, .slice none 0 0]) := hT5.out.kp hV.out.k (by simp; have := htr.out; omega)
            have hA2 : slA (Value.slice A2 (clL o s.ps.length).length c2) = A2 := by cases A2 <;> rfl
            have hI9 : Hid (InInt ((wr.setCell ⟨tb, 0, none⟩ (.slice none 0 0)).setCell ⟨tb, 1, none⟩ (.slice A2 (clL o s.ps.length).length c2)) A2 (castL (clL o s.ps.length))) := by
              have h1 := setOff (j := 1) (setOff (j := 0) hV.out.r2 (pb := tb) (by have := htr.out; omega) (.slice none 0 0)) (pb := tb) (by have := htr.out; omega) (.slice A2 (clL o s.ps.length).length c2)
              have h2 := (own_inInt h1).2
              rw [hA2] at h2; exact h2
            have hB9 : Hid (Below w.heap.size w ((wr.setCell ⟨tb, 0, none⟩ (.slice none 0 0)).setCell ⟨tb, 1, none⟩ (.slice A2 (clL o s.ps.length).length c2))) := (hBr.out.setCell (p := ⟨tb, 0, none⟩) htw.out _).setCell (p := ⟨tb, 1, none⟩) htw.out _
            have hX9 : Hid (Bk ((wr.setCell ⟨tb, 0, none⟩ (.slice none 0 0)).setCell ⟨tb, 1, none⟩ (.slice A2 (clL o s.ps.length).length c2)) tb 56 [.slice none 0 0, .slice A2 (clL o s.ps.length).length c2]) := (hTr.out.set 0 (.slice none 0 0)).set 1 (.slice A2 (clL o s.ps.length).length c2)
            have v0 := hV.out.p.cell (j := 0) rfl; have v1 := hV.out.p.cell (j := 1) rfl; have v9 := hV.out.p.lt
            have t0 := hTr.out.cell (j := 0) rfl; have f0 := hTr.out.frozen 0
            have t1 := hTr.out.cell (j := 1) rfl; have f1 := hTr.out.frozen 1
            have t9 := hTr.out.lt
            clear hA2
            go_wp2
            (try simp only [Exit.inBlock, Exit.then])
            refine bodyPost_ret (res_proofR hX9.out rfl rfl) rfl ?_
            · exact hfin.out _ _ ⟨A2, c2, rfl, hI9.out⟩ hB9.out
      · have m3 : decide (o p < 0) = false := decide_eq_false (by omega)
        have hfin := Lib.hid (fun e W h => hP.out.1 e W ho0 h)
        obtain ⟨d, hd⟩ : ∃ d : Nat, o p = (d : Int) := ⟨(o p).toNat, by omega⟩
        have hdn : d ≤ s.ps.length := by have := hrdn.out; omega
        rw [hd] at y1 m3
        replace hd := Lib.hid hd; replace ho0 := Lib.hid ho0
        go_wp2_with fail
        obtain ⟨wo, hwo⟩ : ∃ W, W = (w3.alloc (.cells #[.slice none 0 0, .slice none 0 0] 56)) := ⟨_, rfl⟩
        rw [← hwo] at hb5 hP5 hR5 ⊢
        obtain ⟨pb, hrb⟩ : ∃ x, x = w3.heap.size := ⟨_, rfl⟩
        have hsz : wo.heap.size = pb + 1 := by rw [hwo, hrb]; simp
        rw [← hrb] at hP5 ⊢
        have hB5 := Lib.hid (hB3.out.trans (hb5.out.mono hB3.out.size)); have hT5 := Lib.hid (hT3.out.below hb5.out)
        have htr : Hid (tb < pb) := by have := hT3.out.lt; rw [hrb]; exact this
        have hbr : Hid (b < pb) := by have := hR3.out.lt; rw [hrb]; exact this
        have hwr : Hid (w.heap.size ≤ pb) := by rw [hrb]; exact hB3.out.size
        replace hwo := Lib.hid hwo; replace hrb := Lib.hid hrb
        clear hb5 y1 y9 hB3 hT3 hR3 hT1 hB1
        have hV0 : Hid (PvI wo wo pb (pb + 1) [] [] (.slice none 0 0) (.slice none 0 0)) := ⟨Kp.refl _ _, hP5.out, World.ownsRow_nil _ _ _ _, World.ownsRow_nil _ _ _ _, fun b h => (by cases h), Nat.lt_succ_self _, by omega⟩
        have hO0 : Hid (OrdTo o s.ps.length p (0 + 1) 0 []) := OrdTo.start
        go_loopw [12] (fun kx wr => ∃ (k c1 : Nat) (A1 : Option Addr) (l : List Nat), k ≤ d ∧ kx = .int .i64 ((k : Int) + 1) ∧ Hid (OrdTo o s.ps.length p (k + 1) 0 l) ∧ Hid (PvI wo wr pb (pb + 1) l [] (.slice A1 l.length c1) (.slice none 0 0))) (fun kx _ => s.ps.length + 1 - (intOf kx).toNat)
        case atStart => exact ⟨0, 0, none, [], Nat.zero_le _, rfl, hO0, hV0⟩
        case round =>
          obtain ⟨k, c1, A1, l, hk, rfl, hO, hV⟩ := hrel
          clear hV0 hO0
          obtain ⟨wz, rfl⟩ : ∃ z, z = wr := ⟨_, rfl⟩
          have hRk : Hid (RoI wz b s.ps.length o) := hR5.out.of_block hV.out.k.size (hV.out.k.block b hR5.out.lt (by simp; have := hbr.out; omega))
          have y1 : wz.cell? ⟨b, p, none⟩ = some (.int .i64 (d : Int)) := by rw [← hd.out]; exact hRk.out.cell p hpn
          have y9 := hRk.out.lt
          by_cases hkd : k < d
          rotate_left
          · obtain rfl : k = d := by omega
            have m5 : decide ((k : Int) + 1 ≤ (k : Int)) = false := decide_eq_false (by omega)
            have hOi : Hid (OrdIs o s.ps.length p l) := hO.out.all (by rw [hd.out]; omega)
            have hBr : Hid (Below w.heap.size w wz) := hV.out.k.to_below hB5.out fun x hx => by simp at hx; have := hwr.out; omega
            have hTr : Hid (Bk wz tb 56 [.slice none 0 0, .slice none 0 0]) := hT5.out.kp hV.out.k (by simp; have := htr.out; omega)
            have hA2 : slA (Value.slice A1 l.length c1) = A1 := by cases A1 <;> rfl
            have hI9 : Hid (InInt ((wz.setCell ⟨tb, 0, none⟩ (.slice A1 l.length c1)).setCell ⟨tb, 1, none⟩ (.slice none 0 0)) A1 (castL l)) := by
              have h1 := setOff (j := 1) (setOff (j := 0) hV.out.r1 (pb := tb) (by have := htr.out; omega) (.slice A1 l.length c1)) (pb := tb) (by have := htr.out; omega) (.slice none 0 0)
              have h2 := (own_inInt h1).2
              rw [hA2] at h2; exact h2
            have hB9 : Hid (Below w.heap.size w ((wz.setCell ⟨tb, 0, none⟩ (.slice A1 l.length c1)).setCell ⟨tb, 1, none⟩ (.slice none 0 0))) := (hBr.out.setCell (p := ⟨tb, 0, none⟩) htw.out _).setCell (p := ⟨tb, 1, none⟩) htw.out _
            have hX9 : Hid (Bk ((wz.setCell ⟨tb, 0, none⟩ (.slice A1 l.length c1)).setCell ⟨tb, 1, none⟩ (.slice none 0 0)) tb 56 [.slice A1 l.length c1, .slice none 0 0]) := (hTr.out.set 0 (.slice A1 l.length c1)).set 1 (.slice none 0 0)
            have v0 := hV.out.p.cell (j := 0) rfl; have v1 := hV.out.p.cell (j := 1) rfl; have v9 := hV.out.p.lt
            have t0 := hTr.out.cell (j := 0) rfl; have f0 := hTr.out.frozen 0
            have t1 := hTr.out.cell (j := 1) rfl; have f1 := hTr.out.frozen 1
            have t9 := hTr.out.lt
            clear hA2
            go_wp2
            (try simp only [Exit.inBlock, Exit.then])
            refine bodyPost_ret (res_proofR hX9.out rfl rfl) rfl ?_
            · exact hfin.out _ _ ⟨A1, c1, l, rfl, hI9.out, hOi.out⟩ hB9.out
          · have m5 : decide ((k : Int) + 1 ≤ (d : Int)) = true := decide_eq_true (by omega)
            go_wp2
            clear y1 y9
            go_loopw [13] (fun ix wr => ∃ (i c1 : Nat) (A1 : Option Addr) (l : List Nat), i ≤ s.ps.length ∧ ix = .int .i64 (i : Int) ∧ Hid (OrdTo o s.ps.length p (k + 1) i l) ∧ Hid (PvI wo wr pb (pb + 1) l [] (.slice A1 l.length c1) (.slice none 0 0))) (fun ix _ => s.ps.length - (intOf ix).toNat)
            case atStart => exact ⟨0, c1, A1, l, Nat.zero_le _, rfl, hO, hV⟩
            case round =>
              clear hO hV hRk m5
              obtain ⟨i, c1, A1, l, hi, rfl, hO, hV⟩ := hrel
              have hRi : Hid (RoI wr b s.ps.length o) := hR5.out.of_block hV.out.k.size (hV.out.k.block b hR5.out.lt (by simp; have := hbr.out; omega))
              by_cases hin : i < s.ps.length
              · have e1 := hRi.out.cell i hin; have y9 := hRi.out.lt
                have y1 : wr.cell? ⟨b, p, none⟩ = some (.int .i64 (d : Int)) := by rw [← hd.out]; exact hRi.out.cell p hpn
                have j0 : (0 : Int) ≤ (i : Int) := by omega
                have j1 : (i : Int) < (s.ps.length : Int) := by omega
                have lz : l.length ≤ 100000 := by have h := hO.out.z; have h2 : (k + 1) * s.ps.length ≤ 61 * 60 := Nat.mul_le_mul (by omega) hn60; omega
                have v0 := hV.out.p.cell (j := 0) rfl; have v1 := hV.out.p.cell (j := 1) rfl; have v9 := hV.out.p.lt
                obtain ⟨v, hv⟩ : ∃ v, o i = v := ⟨_, rfl⟩
                have hoi : Hid (o i = v) := hv
                rw [hv] at e1
                clear hv
                by_cases h1 : v = (k : Int) + 1
                · have m6 : (v == (k : Int) + 1) = true := by rw [beq_iff_eq]; exact h1
                  by_cases h2 : k + 1 < d
                  · have m7 : decide ((k : Int) + 1 < (d : Int)) = true := decide_eq_true (by omega)
                    have hO2 : Hid (OrdTo o s.ps.length p (k + 1) (i + 1) (l ++ [i])) := hO.out.yes hin (Nat.succ_pos _) (by have := hoi.out; omega) (by rw [hd.out]; omega)
                    clear hO
                    have hV7 := Lib.hid (hV.out.below ((Below.refl _ wr).alloc (Nat.le_refl _) (.cells #[.int .i64 (i : Int)] 3)))
                    have hbs7 : Hid (pb + 1 ≤ (wr.alloc (.cells #[.int .i64 (i : Int)] 3)).heap.size) := (by have := hV7.out.k.size; show pb + 1 ≤ _; omega)
                    have had7 : Hid (∀ j u, [(Value.int .i64 (i : Int))][j]? = some u → (wr.alloc (.cells #[.int .i64 (i : Int)] 3)).cell? (Addr.add ⟨wr.heap.size, 0, none⟩ j) = some u) := (by have h := head_new wr (.int .i64 (i : Int)) 3; exact h)
                    have hrp7 : Hid (intsL l ++ [.int .i64 (i : Int)] = intsL (l ++ [i])) := (intsL_snoc _ _).symm
                    go_wp2_with (at_builtin; refine wpList_append_new _ rfl _ _ 24 rfl (pb + 1) 3 i0 (.int .i64 0) 1 8 Tryz.underlying24 hi0.out hz0.out hz1.out hz2.out rfl (by decide) (.slice A1 l.length c1) l.length _ rfl hV7.out.r1 ⟨wr.heap.size, 0, none⟩ 1 1 [.int .i64 (i : Int)] rfl rfl had7.out (one_cell1 _ rfl) (by decide) (by unfold maxLen; omega) (by omega) hbs7.out ?_; intro vb7 wb7 ho7 hg7 hn7; obtain ⟨B7, d7, rfl⟩ := own_form ho7; rw [hrp7.out] at ho7; have hV79 := Lib.hid (hV7.out.put1 hg7 ho7 hn7); have z7 : wb7.cell? ⟨pb, 0, none⟩ = some (.slice A1 l.length c1) := (World.cell?_of_block (a := ⟨pb, 0, none⟩) (hg7.block pb hV7.out.p.lt (fun e => by have := (hV7.out.r1.lt _ e.symm).1; omega))).trans (hV7.out.p.cell (j := 0) rfl); have y7 : wb7.frozen? ⟨pb, 0, none⟩ = false := (World.frozen?_of_block (a := ⟨pb, 0, none⟩) (hg7.block pb hV7.out.p.lt (fun e => by have := (hV7.out.r1.lt _ e.symm).1; omega))).trans (hV7.out.p.frozen 0); have x7 : pb < wb7.heap.size := Nat.lt_of_lt_of_le hV7.out.p.lt hg7.size; clear hg7 hn7 ho7)
                    have hV2 : Hid (PvI wo (wb7.setCell ⟨pb, 0, none⟩ (.slice B7 (l.length + 1) d7)) pb (pb + 1) (l ++ [i]) [] (.slice B7 (l ++ [i]).length d7) (.slice none 0 0)) := by rw [List.length_append, List.length_singleton]; exact hV79.out
                    go_roundw
                    case rel => exact ⟨i + 1, d7, B7, l ++ [i], by omega, by go_num, hO2, hV2⟩
                    case measure => simp [intOf]; omega
                  · have m7 : decide ((k : Int) + 1 < (d : Int)) = false := decide_eq_false (by omega)
                    by_cases h3 : i ≤ p
                    · have m8 : decide ((i : Int) ≤ (p : Int)) = true := decide_eq_true (by omega)
                      have hO2 : Hid (OrdTo o s.ps.length p (k + 1) (i + 1) (l ++ [i])) := hO.out.yes hin (Nat.succ_pos _) (by have := hoi.out; omega) (by rw [hd.out]; omega)
                      clear hO
                      have hV7 := Lib.hid (hV.out.below ((Below.refl _ wr).alloc (Nat.le_refl _) (.cells #[.int .i64 (i : Int)] 3)))
                      have hbs7 : Hid (pb + 1 ≤ (wr.alloc (.cells #[.int .i64 (i : Int)] 3)).heap.size) := (by have := hV7.out.k.size; show pb + 1 ≤ _; omega)
                      have had7 : Hid (∀ j u, [(Value.int .i64 (i : Int))][j]? = some u → (wr.alloc (.cells #[.int .i64 (i : Int)] 3)).cell? (Addr.add ⟨wr.heap.size, 0, none⟩ j) = some u) := (by have h := head_new wr (.int .i64 (i : Int)) 3; exact h)
                      have hrp7 : Hid (intsL l ++ [.int .i64 (i : Int)] = intsL (l ++ [i])) := (intsL_snoc _ _).symm
                      go_wp2_with (at_builtin; refine wpList_append_new _ rfl _ _ 24 rfl (pb + 1) 3 i0 (.int .i64 0) 1 8 Tryz.underlying24 hi0.out hz0.out hz1.out hz2.out rfl (by decide) (.slice A1 l.length c1) l.length _ rfl hV7.out.r1 ⟨wr.heap.size, 0, none⟩ 1 1 [.int .i64 (i : Int)] rfl rfl had7.out (one_cell1 _ rfl) (by decide) (by unfold maxLen; omega) (by omega) hbs7.out ?_; intro vb7 wb7 ho7 hg7 hn7; obtain ⟨B7, d7, rfl⟩ := own_form ho7; rw [hrp7.out] at ho7; have hV79 := Lib.hid (hV7.out.put1 hg7 ho7 hn7); have z7 : wb7.cell? ⟨pb, 0, none⟩ = some (.slice A1 l.length c1) := (World.cell?_of_block (a := ⟨pb, 0, none⟩) (hg7.block pb hV7.out.p.lt (fun e => by have := (hV7.out.r1.lt _ e.symm).1; omega))).trans (hV7.out.p.cell (j := 0) rfl); have y7 : wb7.frozen? ⟨pb, 0, none⟩ = false := (World.frozen?_of_block (a := ⟨pb, 0, none⟩) (hg7.block pb hV7.out.p.lt (fun e => by have := (hV7.out.r1.lt _ e.symm).1; omega))).trans (hV7.out.p.frozen 0); have x7 : pb < wb7.heap.size := Nat.lt_of_lt_of_le hV7.out.p.lt hg7.size; clear hg7 hn7 ho7)
                      have hV2 : Hid (PvI wo (wb7.setCell ⟨pb, 0, none⟩ (.slice B7 (l.length + 1) d7)) pb (pb + 1) (l ++ [i]) [] (.slice B7 (l ++ [i]).length d7) (.slice none 0 0)) := by rw [List.length_append, List.length_singleton]; exact hV79.out
                      go_roundw
                      case rel => exact ⟨i + 1, d7, B7, l ++ [i], by omega, by go_num, hO2, hV2⟩
                      case measure => simp [intOf]; omega
                    · have m8 : decide ((i : Int) ≤ (p : Int)) = false := decide_eq_false (by omega); have m8n : decide (i ≤ p) = false := decide_eq_false h3
                      have hO2 : Hid (OrdTo o s.ps.length p (k + 1) (i + 1) l) := hO.out.no (by rw [hd.out]; have := hoi.out; omega) (by rw [hd.out]; omega)
                      clear hO lz
                      go_wp2
                      exact ⟨⟨i + 1, c1, A1, l, by omega, by go_num, hO2, hV⟩, by simp only [intOf]; omega⟩
                · have m6 : (v == (k : Int) + 1) = false := by rw [beq_eq_false_iff_ne]; exact h1
                  have hO2 : Hid (OrdTo o s.ps.length p (k + 1) (i + 1) l) := hO.out.no (by rw [hd.out]; have := hoi.out; omega) (by rw [hd.out]; omega)
                  clear hO lz
                  go_wp2
                  exact ⟨⟨i + 1, c1, A1, l, by omega, by go_num, hO2, hV⟩, by simp only [intOf]; omega⟩
              · obtain rfl : i = s.ps.length := by omega
                have hO2 : Hid (OrdTo o s.ps.length p (k + 1 + 1) 0 l) := hO.out.next
                clear hO
                go_wp2
                exact ⟨⟨k + 1, c1, A1, l, by omega, by go_num, hO2, hV⟩, by simp only [intOf]; omega⟩
    · have hP : Hid (∀ e W, e = .returned (.tuple #[.agg #[.slice none 0 0, .slice none 0 0], .int .i64 1]) → Below w.heap.size w W → PvPost s F party w e W) := fun e W h1 h2 => ⟨by rw [if_neg fun h => hpa h.2.2]; exact h1, h2⟩
      replace hgd := Lib.hid hgd
      by_cases hp0 : party < 0
      · have m1 : decide (party < 0) = true := decide_eq_true hp0
        replace hpa := Lib.hid hpa; replace hp0 := Lib.hid hp0
        go_enter Tryz.func31, Tryz.ntmps31
        go_wp2_with fail
        (try rw [← hW1])
        (try rw [← htb])
        replace hW1 := Lib.hid hW1; replace htb := Lib.hid htb
        refine kc2.out.mono ?_
        rintro e w3 ⟨⟨b, rfl, _, _⟩, hb⟩
        have hT3 := Lib.hid (hT1.out.below hb)
        have hB3 := Lib.hid (hB1.out.trans (hb.mono hB1.out.size))
        have hB9 : Hid (Below w.heap.size w ((w3.setCell ⟨tb, 0, none⟩ (.slice none 0 0)).setCell ⟨tb, 1, none⟩ (.slice none 0 0))) := (hB3.out.setCell (p := ⟨tb, 0, none⟩) htw.out _).setCell (p := ⟨tb, 1, none⟩) htw.out _
        have hX9 : Hid (Bk ((w3.setCell ⟨tb, 0, none⟩ (.slice none 0 0)).setCell ⟨tb, 1, none⟩ (.slice none 0 0)) tb 56 [.slice none 0 0, .slice none 0 0]) := (hT3.out.set 0 (.slice none 0 0)).set 1 (.slice none 0 0)
        have t0 := hT3.out.cell (j := 0) rfl; have f0 := hT3.out.frozen 0
        have t1 := hT3.out.cell (j := 1) rfl; have f1 := hT3.out.frozen 1
        have t9 := hT3.out.lt
        clear hb u0 u1 u2 u9 hX1 kc2
        go_wp2
        (try simp only [Exit.inBlock, Exit.then])
        refine bodyPost_ret (res_proofR hX9.out rfl rfl) rfl ?_
        · exact hP.out _ _ rfl hB9.out
      · have m1 : decide (party < 0) = false := decide_eq_false hp0; have m2 : decide ((s.ps.length : Int) ≤ party) = true := decide_eq_true (by omega)
        replace hpa := Lib.hid hpa; replace hp0 := Lib.hid hp0
        go_enter Tryz.func31, Tryz.ntmps31
        go_wp2_with fail
        (try rw [← hW1])
        (try rw [← htb])
        replace hW1 := Lib.hid hW1; replace htb := Lib.hid htb
        refine kc2.out.mono ?_
        rintro e w3 ⟨⟨b, rfl, _, _⟩, hb⟩
        have hT3 := Lib.hid (hT1.out.below hb)
        have hB3 := Lib.hid (hB1.out.trans (hb.mono hB1.out.size))
        have hB9 : Hid (Below w.heap.size w ((w3.setCell ⟨tb, 0, none⟩ (.slice none 0 0)).setCell ⟨tb, 1, none⟩ (.slice none 0 0))) := (hB3.out.setCell (p := ⟨tb, 0, none⟩) htw.out _).setCell (p := ⟨tb, 1, none⟩) htw.out _
        have hX9 : Hid (Bk ((w3.setCell ⟨tb, 0, none⟩ (.slice none 0 0)).setCell ⟨tb, 1, none⟩ (.slice none 0 0)) tb 56 [.slice none 0 0, .slice none 0 0]) := (hT3.out.set 0 (.slice none 0 0)).set 1 (.slice none 0 0)
        have t0 := hT3.out.cell (j := 0) rfl; have f0 := hT3.out.frozen 0
        have t1 := hT3.out.cell (j := 1) rfl; have f1 := hT3.out.frozen 1
        have t9 := hT3.out.lt
        clear hb u0 u1 u2 u9 hX1 kc2
        go_wp2
        (try simp only [Exit.inBlock, Exit.then])
        refine bodyPost_ret (res_proofR hX9.out rfl rfl) rfl ?_
        · exact hP.out _ _ rfl hB9.out
  · have kc2 : Hid (Calls Tryz.prog 29 #[.agg #[.slice Ap s.ps.length cp, .slice Ac s.cap.length cc, .slice Av s.vot.length cv], .slice Af F.length cf] W1 fun e w' => e = .returned (.tuple #[.slice none 0 0, .int .i64 1]) ∧ Below W1.heap.size W1 w') := kc.mono fun e w' h => ⟨by have h1 := h.1; rw [if_neg hgd] at h1; exact h1, h.2⟩
    clear kc
    have hP : Hid (∀ e W, e = .returned (.tuple #[.agg #[.slice none 0 0, .slice none 0 0], .int .i64 1]) → Below w.heap.size w W → PvPost s F party w e W) := fun e W h1 h2 => ⟨by rw [if_neg fun h => hgd ⟨h.1, h.2.1⟩]; exact h1, h2⟩
    replace hgd := Lib.hid hgd
    go_enter Tryz.func31, Tryz.ntmps31
    go_wp2_with fail
    (try rw [← hW1])
    (try rw [← htb])
    replace hW1 := Lib.hid hW1; replace htb := Lib.hid htb
    refine kc2.out.mono ?_
    rintro e w3 ⟨rfl, hb⟩
    have hT3 := Lib.hid (hT1.out.below hb)
    have hB3 := Lib.hid (hB1.out.trans (hb.mono hB1.out.size))
    have hB9 : Hid (Below w.heap.size w ((w3.setCell ⟨tb, 0, none⟩ (.slice none 0 0)).setCell ⟨tb, 1, none⟩ (.slice none 0 0))) := (hB3.out.setCell (p := ⟨tb, 0, none⟩) htw.out _).setCell (p := ⟨tb, 1, none⟩) htw.out _
    have hX9 : Hid (Bk ((w3.setCell ⟨tb, 0, none⟩ (.slice none 0 0)).setCell ⟨tb, 1, none⟩ (.slice none 0 0)) tb 56 [.slice none 0 0, .slice none 0 0]) := (hT3.out.set 0 (.slice none 0 0)).set 1 (.slice none 0 0)
    have t0 := hT3.out.cell (j := 0) rfl; have f0 := hT3.out.frozen 0
    have t1 := hT3.out.cell (j := 1) rfl; have f1 := hT3.out.frozen 1
    have t9 := hT3.out.lt
    clear hb u0 u1 u2 u9 hX1 kc2
    go_wp2
    (try simp only [Exit.inBlock, Exit.then])
    refine bodyPost_ret (res_proofR hX9.out rfl rfl) rfl ?_
    · exact hP.out _ _ rfl hB9.out
end Co
end Go.Proofs.YtpmlhgmmobpilaaGreatDoor
namespace Go.Proofs.YtpmlhgmmobpilaaGreatDoor
open Go.RowKit Go.Shelf
namespace Co
open Nt Ci
theorem SJ_zero {F lo : List Int} {q : Nat} : inL (toN F) q = SJ F lo 0 q := by unfold inL SJ; simp
theorem SJ_succ {F lo : List Int} {j k : Nat} (h : j < lo.length) (e : lo[j] = (k : Int)) (y : Nat) : SJ F lo (j + 1) y = (SJ F lo j y || decide (y = k)) := by
  unfold SJ
  rw [Bool.eq_iff_iff, Bool.or_eq_true, decide_eq_true_iff, decide_eq_true_iff, decide_eq_true_iff, List.take_succ_eq_append_getElem h, List.mem_append, List.mem_singleton, e]
  constructor
  · rintro (h | h | h)
    · exact .inl (.inl h)
    · exact .inl (.inr h)
    · exact .inr (by omega)
  · rintro ((h | h) | h)
    · exact .inl h
    · exact .inr (.inl h)
    · exact .inr (.inr (by omega))
theorem inL_int {n : Nat} {l : List Int} (h : listB n l = true) (q : Nat) : inL (toN l) q = decide ((q : Int) ∈ l) := by
  unfold inL toN
  rw [decide_eq_decide, List.mem_map]
  constructor
  · rintro ⟨x, hx, rfl⟩
    obtain ⟨k, hk, rfl⟩ := List.getElem_of_mem hx
    have := (list_at h hk).1
    rwa [Int.toNat_of_nonneg this]
  · exact fun h => ⟨_, h, Int.toNat_natCast q⟩
theorem cls_bad {V : List (Nat × Nat × Nat)} {n i : Nat} {F lc : List Int} {party : Int} (hi : i < n) (h : ¬ ClAt V F lc i) : clsB V n F party lc = false := by
  unfold clsB
  rw [decide_eq_false (p := ∀ i, i < n → ClAt V F lc i) fun c => h (c i hi), Bool.and_false]
theorem cls_end {V : List (Nat × Nat × Nat)} {n : Nat} {F lc : List Int} {party : Int} (hl : listB n lc = true) (h : ∀ i, i < n → ClAt V F lc i) : clsB V n F party lc = !decide (party ∈ lc) := by
  unfold clsB
  rw [decide_eq_true h, Bool.and_true, hl, Bool.true_and]
set_option maxRecDepth 100000 in
set_option maxHeartbeats 16000000 in
theorem RCheck_any (s : SR) (Ap Ac Av Af Ao Al : Option Addr) (cp cc cv cf co cl : Nat) (F lo lc : List Int) (party : Int) (w : World) (hs : StIn w s Ap Ac Av) (hv3 : s.vot.length ≤ 300) (hF : InInt w Af F) (hFl : F.length ≤ 140737488355328) (hlo : InInt w Ao lo) (hol : lo.length ≤ 1000000) (hlc : InInt w Al lc) (hcl : lc.length ≤ 1000000) :
    Calls Tryz.prog 33 #[.agg #[.slice Ap s.ps.length cp, .slice Ac s.cap.length cc, .slice Av s.vot.length cv], .slice Af F.length cf, .int .i64 party, .agg #[.slice Ao lo.length co, .slice Al lc.length cl]] w fun e w' => e = .returned (.tuple #[.bool (chk s F party lo lc).1, .bool (chk s F party lo lc).2]) ∧ Below w.heap.size w w' := by
  have hB1 : Hid (Below w.heap.size w ((w.alloc (.cells #[.slice Ap s.ps.length cp, .slice Ac s.cap.length cc, .slice Av s.vot.length cv] 54)).alloc (.cells #[.slice Ao lo.length co, .slice Al lc.length cl] 56))) := ((Below.refl _ w).alloc (Nat.le_refl _) _).alloc (by simp) _
  have hX1 : Hid (Bk ((w.alloc (.cells #[.slice Ap s.ps.length cp, .slice Ac s.cap.length cc, .slice Av s.vot.length cv] 54)).alloc (.cells #[.slice Ao lo.length co, .slice Al lc.length cl] 56)) w.heap.size 54 (SC s Ap Ac Av cp cc cv)) := (Bk.new w _ _).alloc _
  have hT1 : Hid (Bk ((w.alloc (.cells #[.slice Ap s.ps.length cp, .slice Ac s.cap.length cc, .slice Av s.vot.length cv] 54)).alloc (.cells #[.slice Ao lo.length co, .slice Al lc.length cl] 56)) (w.heap.size + 1) 56 [.slice Ao lo.length co, .slice Al lc.length cl]) := by have h := Bk.new (w.alloc (.cells #[.slice Ap s.ps.length cp, .slice Ac s.cap.length cc, .slice Av s.vot.length cv] 54)) 56 [.slice Ao lo.length co, .slice Al lc.length cl]; rw [World.size_alloc] at h; exact h
  have kS := Lib.hid (RSound_any s Ap Ac Av cp cc cv ((w.alloc (.cells #[.slice Ap s.ps.length cp, .slice Ac s.cap.length cc, .slice Av s.vot.length cv] 54)).alloc (.cells #[.slice Ao lo.length co, .slice Al lc.length cl] 56)) (hs.below hB1.out))
  have kL := Lib.hid (fun B cb (l : List Int) W (hb : InInt W B l) (hl : l.length ≤ 140737488355328) => (List_any B cb s.ps.length l W hb hl).mono fun e w' h => (⟨h.1, by obtain ⟨q, rfl⟩ := h.2; exact blw_drewN (Below.refl _ _) q⟩ : e = .returned (.bool (listB s.ps.length l)) ∧ Below W.heap.size W w'))
  have hlow : Hid (w.heap.size < w.heap.size + 1) := Nat.lt_succ_self _
  obtain ⟨pb, hpb⟩ : ∃ x, x = w.heap.size + 1 := ⟨_, rfl⟩
  obtain ⟨W1, hW1⟩ : ∃ W, W = ((w.alloc (.cells #[.slice Ap s.ps.length cp, .slice Ac s.cap.length cc, .slice Av s.vot.length cv] 54)).alloc (.cells #[.slice Ao lo.length co, .slice Al lc.length cl] 56)) := ⟨_, rfl⟩
  rw [← hW1] at hB1 hX1 hT1 kS
  rw [← hpb] at hT1 hlow
  have u0 := hX1.out.cell (j := 0) rfl; have u1 := hX1.out.cell (j := 1) rfl; have u2 := hX1.out.cell (j := 2) rfl; have u9 := hX1.out.lt
  obtain ⟨r1, hr1⟩ : ∃ x, x = (chk s F party lo lc).1 := ⟨_, rfl⟩
  obtain ⟨r2, hr2⟩ : ∃ x, x = (chk s F party lo lc).2 := ⟨_, rfl⟩
  rw [← hr1, ← hr2]
  have hch : chk s F party lo lc = (r1, r2) := by rw [hr1, hr2]
  clear hr1 hr2
  unfold chk at hch
  replace hs := Lib.hid hs; replace hF := Lib.hid hF; replace hlo := Lib.hid hlo; replace hlc := Lib.hid hlc
  obtain ⟨sd, hsd⟩ : ∃ x, x = soundB s := ⟨_, rfl⟩
  rw [← hsd] at kS hch
  replace hsd := Lib.hid hsd
  obtain ⟨ls, hls⟩ : ∃ x, x = listB s.ps.length F := ⟨_, rfl⟩
  rw [← hls] at hch
  replace hls := Lib.hid hls
  have kLF : Hid (∀ W, Below w.heap.size w W → Calls Tryz.prog 74 #[.int .i64 (s.ps.length : Int), .slice Af F.length cf] W fun e w' => e = .returned (.bool ls) ∧ Below W.heap.size W w') := fun W hb => by have h := kL.out Af cf F W (hF.out.below hb) hFl; rw [← hls.out] at h; exact h
  cases sd with
  | false =>
    replace hch := Lib.hid (hch)
    go_enter Tryz.func33, Tryz.ntmps33
    go_wp2_with fail
    (try rw [← hW1])
    (try rw [← hpb])
    replace hW1 := Lib.hid hW1; replace hpb := Lib.hid hpb
    refine kS.out.mono ?_
    rintro e w2 ⟨rfl, hb⟩
    have hB2 := Lib.hid (hB1.out.trans (hb.mono hB1.out.size)); have hX2 := Lib.hid (hX1.out.below hb); have hT2 := Lib.hid (hT1.out.below hb)
    clear hb kS u0 u1 u2 u9 hB1 hX1 hT1
    have hrr : Hid (false = r1 ∧ false = r2) := by have h := (if_neg (fun c => by cases c.1)).symm.trans hch.out; simp only [Prod.mk.injEq] at h; exact h
    go_wp2
    go_ret2
    exact ⟨ret_bb hrr.out.1 hrr.out.2, hB2.out⟩
  | true =>
    cases ls with
    | false =>
      replace hch := Lib.hid (hch)
      go_enter Tryz.func33, Tryz.ntmps33
      go_wp2_with fail
      (try rw [← hW1])
      (try rw [← hpb])
      replace hW1 := Lib.hid hW1; replace hpb := Lib.hid hpb
      refine kS.out.mono ?_
      rintro e w2 ⟨rfl, hb⟩
      have hB2 := Lib.hid (hB1.out.trans (hb.mono hB1.out.size)); have hX2 := Lib.hid (hX1.out.below hb); have hT2 := Lib.hid (hT1.out.below hb)
      clear hb kS u0 u1 u2 u9 hB1 hX1 hT1
      have kl := Lib.hid (kLF.out w2 hB2.out); clear kLF
      go_wp2_with fail
      refine kl.out.mono ?_
      rintro e w3 ⟨rfl, hb⟩
      have hB3 := Lib.hid (hB2.out.trans (hb.mono hB2.out.size))
      clear hb kl
      have hrr : Hid (false = r1 ∧ false = r2) := by have h := (if_neg (fun c => by cases c.2.1)).symm.trans hch.out; simp only [Prod.mk.injEq] at h; exact h
      go_wp2
      go_ret2
      exact ⟨ret_bb hrr.out.1 hrr.out.2, hB3.out⟩
    | true =>
      by_cases hpa : 0 ≤ party ∧ party < s.ps.length
      rotate_left
      · replace hch := Lib.hid ((if_neg (fun c => hpa c.2.2)).symm.trans hch)
        by_cases hp0 : party < 0
        · have m1 : decide (party < 0) = true := decide_eq_true hp0
          replace hpa := Lib.hid hpa; replace hp0 := Lib.hid hp0
          go_enter Tryz.func33, Tryz.ntmps33
          go_wp2_with fail
          (try rw [← hW1])
          (try rw [← hpb])
          replace hW1 := Lib.hid hW1; replace hpb := Lib.hid hpb
          refine kS.out.mono ?_
          rintro e w2 ⟨rfl, hb⟩
          have hB2 := Lib.hid (hB1.out.trans (hb.mono hB1.out.size)); have hX2 := Lib.hid (hX1.out.below hb); have hT2 := Lib.hid (hT1.out.below hb)
          clear hb kS u0 u1 u2 u9 hB1 hX1 hT1
          have kl := Lib.hid (kLF.out w2 hB2.out); clear kLF
          go_wp2_with fail
          refine kl.out.mono ?_
          rintro e w3 ⟨rfl, hb⟩
          have hB3 := Lib.hid (hB2.out.trans (hb.mono hB2.out.size)); have hX3 := Lib.hid (hX2.out.below hb); have hT3 := Lib.hid (hT2.out.below hb)
          clear hb kl hB2 hX2 hT2
          have hrr : Hid (false = r1 ∧ false = r2) := by have h := hch.out; simp only [Prod.mk.injEq] at h; exact h
          go_wp2
          go_ret2
          exact ⟨ret_bb hrr.out.1 hrr.out.2, hB3.out⟩
        · have m1 : decide (party < 0) = false := decide_eq_false hp0; have m2 : decide ((s.ps.length : Int) ≤ party) = true := decide_eq_true (by omega)
          replace hpa := Lib.hid hpa; replace hp0 := Lib.hid hp0
          go_enter Tryz.func33, Tryz.ntmps33
          go_wp2_with fail
          (try rw [← hW1])
          (try rw [← hpb])
          replace hW1 := Lib.hid hW1; replace hpb := Lib.hid hpb
          refine kS.out.mono ?_
          rintro e w2 ⟨rfl, hb⟩
          have hB2 := Lib.hid (hB1.out.trans (hb.mono hB1.out.size)); have hX2 := Lib.hid (hX1.out.below hb); have hT2 := Lib.hid (hT1.out.below hb)
          clear hb kS u0 u1 u2 u9 hB1 hX1 hT1
          have kl := Lib.hid (kLF.out w2 hB2.out); clear kLF
          go_wp2_with fail
          refine kl.out.mono ?_
          rintro e w3 ⟨rfl, hb⟩
          have hB3 := Lib.hid (hB2.out.trans (hb.mono hB2.out.size)); have hX3 := Lib.hid (hX2.out.below hb); have hT3 := Lib.hid (hT2.out.below hb)
          clear hb kl hB2 hX2 hT2
          have hrr : Hid (false = r1 ∧ false = r2) := by have h := hch.out; simp only [Prod.mk.injEq] at h; exact h
          go_wp2
          go_ret2
          exact ⟨ret_bb hrr.out.1 hrr.out.2, hB3.out⟩
      · obtain ⟨p, rfl⟩ : ∃ p : Nat, party = (p : Int) := ⟨party.toNat, by omega⟩
        have hpn : p < s.ps.length := by omega
        replace hch := (if_pos ⟨rfl, rfl, hpa⟩).symm.trans hch
        rw [Int.toNat_natCast] at hch
        replace hch := Lib.hid hch
        have hsd2 : soundB s = true := hsd.out.symm; have hls2 : listB s.ps.length F = true := hls.out.symm
        have hn60 := sound_n hsd2
        have kT := Lib.hid (fun B cb (l : List Int) W (hb : InInt W B l) (hl : listB s.ps.length l = true) (hll : l.length ≤ 140737488355328) => RSet_any s.ps.length B cb l W hb hl (by omega) hll)
        have kM := Lib.hid (fun b cb q S W (hb : Below w.heap.size w W) => RMaj_any s Ap Ac Av cp cc cv b cb q S W (hs.out.below hb) hv3 hsd2)
        replace hsd2 := Lib.hid hsd2; replace hls2 := Lib.hid hls2
        have p0 : (0 : Int) ≤ (p : Int) := by omega
        have p1 : (p : Int) < (s.ps.length : Int) := by omega
        have m1 : decide ((p : Int) < 0) = false := decide_eq_false (by omega); have m2 : decide ((s.ps.length : Int) ≤ (p : Int)) = false := decide_eq_false (by omega); have m2n : decide (s.ps.length ≤ p) = false := decide_eq_false (by omega)
        go_enter Tryz.func33, Tryz.ntmps33
        go_wp2_with fail
        (try rw [← hW1])
        (try rw [← hpb])
        replace hW1 := Lib.hid hW1; replace hpb := Lib.hid hpb
        refine kS.out.mono ?_
        rintro e w2 ⟨rfl, hb⟩
        have hB2 := Lib.hid (hB1.out.trans (hb.mono hB1.out.size)); have hX2 := Lib.hid (hX1.out.below hb); have hT2 := Lib.hid (hT1.out.below hb)
        clear hb kS u0 u1 u2 u9 hB1 hX1 hT1
        have kl := Lib.hid (kLF.out w2 hB2.out); clear kLF
        go_wp2_with fail
        refine kl.out.mono ?_
        rintro e w3 ⟨rfl, hb⟩
        have hB3 := Lib.hid (hB2.out.trans (hb.mono hB2.out.size)); have hX3 := Lib.hid (hX2.out.below hb); have hT3 := Lib.hid (hT2.out.below hb)
        clear hb kl hB2 hX2 hT2
        have k4 := Lib.hid (kT.out Af cf F w3 (hF.out.below hB3.out) hls2.out hFl)
        go_wp2_with fail
        refine k4.out.mono ?_
        rintro e w4 ⟨⟨ib, rfl, hib, hS0⟩, hb⟩
        have hS4 : Hid (RoB w4 ib s.ps.length (SJ F lo 0)) := hS0.congr fun x _ => SJ_zero
        have hxi : Hid (w.heap.size < ib) := by have := hX3.out.lt; show _ < _; omega
        have hpi : Hid (pb < ib) := by have := hT3.out.lt; show _ < _; omega
        have hB4 := Lib.hid (hB3.out.trans (hb.mono hB3.out.size)); have hX4 := Lib.hid (hX3.out.below hb); have hT4 := Lib.hid (hT3.out.below hb)
        clear hb k4 hB3 hX3 hT3 hS0 hib
        have e1 := hS4.out.cell p hpn; have e9 := hS4.out.lt
        have e0 : SJ F lo 0 p = decide (p ∈ toN F) := by unfold SJ; simp
        rw [e0] at e1
        clear e0
        have t0 := hT4.out.cell (j := 0) rfl; have t1 := hT4.out.cell (j := 1) rfl; have t9 := hT4.out.lt
        by_cases hpf : p ∈ toN F
        · rw [decide_eq_true hpf] at e1
          by_cases l0 : lo.length = 0
          · have v1 : ((lo.length : Int) == 0) = true := by rw [beq_iff_eq]; omega
            have v1n : (lo.length == 0) = true := by rw [beq_iff_eq]; exact l0
            have hd : ((lc.length : Int) == 0) = decide (lo.length + lc.length = 0) := by rw [Bool.eq_iff_iff, decide_eq_true_iff, beq_iff_eq]; omega
            have hrr : Hid (((lc.length : Int) == 0) = r1 ∧ ((lc.length : Int) == 0) = r2) := by have h := (if_pos hpf).symm.trans hch.out; simp only [Prod.mk.injEq] at h; rw [hd]; exact h
            clear hd
            replace l0 := Lib.hid l0; replace hpf := Lib.hid hpf
            go_wp2
            go_ret2
            exact ⟨ret_bb hrr.out.1 hrr.out.2, hB4.out⟩
          · have v1 : ((lo.length : Int) == 0) = false := by rw [beq_eq_false_iff_ne]; omega
            have v1n : (lo.length == 0) = false := by rw [beq_eq_false_iff_ne]; exact l0
            have hrr : Hid (false = r1 ∧ false = r2) := by have h := (if_pos hpf).symm.trans hch.out; rw [decide_eq_false (by omega : ¬ lo.length + lc.length = 0)] at h; simp only [Prod.mk.injEq] at h; exact h
            replace l0 := Lib.hid l0; replace hpf := Lib.hid hpf
            go_wp2
            go_ret2
            exact ⟨ret_bb hrr.out.1 hrr.out.2, hB4.out⟩
        · rw [decide_eq_false hpf] at e1
          replace hch := Lib.hid ((if_neg hpf).symm.trans hch.out)
          replace hpf := Lib.hid hpf
          by_cases l0 : lo.length = 0
          · replace hch := Lib.hid ((if_pos l0).symm.trans hch.out)
            have v1 : decide (0 < (lo.length : Int)) = false := decide_eq_false (by omega)
            have v1n : decide (0 < lo.length) = false := decide_eq_false (by omega)
            replace l0 := Lib.hid l0
            obtain ⟨lb, hlb⟩ : ∃ x, x = listB s.ps.length lc := ⟨_, rfl⟩
            have k5 : Hid (Calls Tryz.prog 74 #[.int .i64 (s.ps.length : Int), .slice Al lc.length cl] w4 fun e w' => e = .returned (.bool lb) ∧ Below w4.heap.size w4 w') := by have h := kL.out Al cl lc w4 (hlc.out.below hB4.out) (by omega); rw [← hlb] at h; exact h
            replace hlb := Lib.hid hlb
            go_wp2_with fail
            refine k5.out.mono ?_
            rintro e w5 ⟨rfl, hb⟩
            have hB5 := Lib.hid (hB4.out.trans (hb.mono hB4.out.size)); have hX5 := Lib.hid (hX4.out.below hb); have hT5 := Lib.hid (hT4.out.below hb); have hS5 := Lib.hid (hS4.out.below hb)
            clear hb k5 hB4 hX4 hT4 hS4 e1 e9 t0 t1 t9
            cases lb with
            | false =>
              have hrr : Hid (false = r1 ∧ false = r2) := by have h := (show (false, clsB (VT s) s.ps.length F (p : Int) lc) = (r1, r2) from hch.out) |> fun h => (show (false, false) = (r1, r2) by rw [← h]; unfold clsB; rw [← hlb.out]; rfl); simp only [Prod.mk.injEq] at h; exact h
              go_wp2
              go_ret2
              exact ⟨ret_bb hrr.out.1 hrr.out.2, hB5.out⟩
            | true =>
              have hlb2 : Hid (listB s.ps.length lc = true) := hlb.out.symm
              have t0 := hT5.out.cell (j := 0) rfl; have t1 := hT5.out.cell (j := 1) rfl; have t9 := hT5.out.lt
              have k6 := Lib.hid (kT.out Al cl lc w5 (hlc.out.below hB5.out) hlb2.out (by omega))
              go_wp2_with fail
              refine k6.out.mono ?_
              rintro e w6 ⟨⟨cb, rfl, hcb, hC0⟩, hb⟩
              have hC6 : Hid (RoB w6 cb s.ps.length fun q => decide ((q : Int) ∈ lc)) := hC0.congr fun x _ => inL_int hlb2.out x
              have hB6 := Lib.hid (hB5.out.trans (hb.mono hB5.out.size)); have hX6 := Lib.hid (hX5.out.below hb); have hS6 := Lib.hid (hS5.out.below hb)
              clear hb k6 hB5 hX5 hT5 hS5 hC0 hcb t0 t1 t9
              go_wp2
              go_loopw [16] (fun ix wr => ∃ (i : Nat), i ≤ s.ps.length ∧ ix = .int .i64 (i : Int) ∧ Hid (Below w6.heap.size w6 wr) ∧ Hid (∀ j, j < i → ClAt (VT s) F lc j)) (fun ix _ => s.ps.length - (intOf ix).toNat)
              case atStart => exact ⟨0, Nat.zero_le _, rfl, Below.refl _ _, fun j h => absurd h (Nat.not_lt_zero _)⟩
              case round =>
                obtain ⟨i, hi, rfl, hbr, hA⟩ := hrel
                obtain ⟨wz, rfl⟩ : ∃ z, z = wr := ⟨_, rfl⟩
                have hBr := Lib.hid (hB6.out.trans (hbr.out.mono hB6.out.size)); have hXr := Lib.hid (hX6.out.below hbr.out); have hSr := Lib.hid (hS6.out.below hbr.out); have hCr := Lib.hid (hC6.out.below hbr.out)
                by_cases hin : i < s.ps.length
                · have j0 : (0 : Int) ≤ (i : Int) := by omega
                  have j1 : (i : Int) < (s.ps.length : Int) := by omega
                  have e1 := hSr.out.cell i hin; have e9 := hSr.out.lt
                  have c1 := hCr.out.cell i hin; have c9 := hCr.out.lt
                  have e0 : SJ F lo 0 i = decide (i ∈ toN F) := by unfold SJ; simp
                  rw [e0] at e1
                  clear e0
                  have hcd := @cl_dec (VT s) i F lc
                  have kmj := Lib.hid (kM.out cb s.ps.length i (fun q => decide ((q : Int) ∈ lc)) wz hBr.out hCr.out)
                  have hbad := Lib.hid (fun h => cls_bad (V := VT s) (F := F) (lc := lc) (party := (p : Int)) hin h)
                  have hAl : Hid (ClAt (VT s) F lc i → ∀ j, j < i + 1 → ClAt (VT s) F lc j) := fun h j hj => by
                    by_cases e : j = i
                    · rw [e]; exact h
                    · exact hA.out j (by omega)
                  generalize maj (VT s) (fun q => decide ((q : Int) ∈ lc)) i = d3 at hcd kmj
                  generalize decide ((i : Int) ∈ lc) = d1 at hcd c1
                  generalize decide (i ∈ toN F) = d2 at hcd e1
                  replace hcd := Lib.hid hcd
                  clear hA
                  cases d1 with
                  | true =>
                    cases d2 with
                    | true =>
                      have hA2 : Hid (∀ j, j < i + 1 → ClAt (VT s) F lc j) := hAl.out (of_decide_eq_true (by rw [hcd.out]; rfl))
                      clear hcd hAl hbad
                      go_wp2
                      exact ⟨⟨i + 1, by omega, by go_num, hbr, hA2⟩, by simp only [intOf]; omega⟩
                    | false =>
                      have hA2 : Hid (∀ j, j < i + 1 → ClAt (VT s) F lc j) := hAl.out (of_decide_eq_true (by rw [hcd.out]; rfl))
                      clear hcd hAl hbad
                      go_wp2
                      exact ⟨⟨i + 1, by omega, by go_num, hbr, hA2⟩, by simp only [intOf]; omega⟩
                  | false =>
                    cases d2 with
                    | true =>
                      have hrr : Hid (false = r1 ∧ false = r2) := by have h := (show (false, clsB (VT s) s.ps.length F (p : Int) lc) = (r1, r2) from hch.out) |> fun h => (show (false, false) = (r1, r2) by rw [← h, hbad.out (of_decide_eq_false (by rw [hcd.out]; rfl))]); simp only [Prod.mk.injEq] at h; exact h
                      go_wp2
                      go_ret2
                      exact ⟨ret_bb hrr.out.1 hrr.out.2, hBr.out⟩
                    | false =>
                      have u0 := hXr.out.cell (j := 0) rfl; have u1 := hXr.out.cell (j := 1) rfl; have u2 := hXr.out.cell (j := 2) rfl; have u9 := hXr.out.lt
                      go_wp2_with fail
                      refine kmj.out.mono ?_
                      rintro e w7 ⟨rfl, hb⟩
                      have hB7 := Lib.hid (hBr.out.trans (hb.mono hBr.out.size)); have hb7 : Hid (Below w6.heap.size w6 w7) := hbr.out.trans (hb.mono hbr.out.size)
                      clear hb kmj u0 u1 u2 u9 c1 c9 e1 e9
                      cases d3 with
                      | true =>
                        have hrr : Hid (false = r1 ∧ false = r2) := by have h := (show (false, clsB (VT s) s.ps.length F (p : Int) lc) = (r1, r2) from hch.out) |> fun h => (show (false, false) = (r1, r2) by rw [← h, hbad.out (of_decide_eq_false (by rw [hcd.out]; rfl))]); simp only [Prod.mk.injEq] at h; exact h
                        go_wp2
                        go_ret2
                        exact ⟨ret_bb hrr.out.1 hrr.out.2, hB7.out⟩
                      | false =>
                        have hA2 : Hid (∀ j, j < i + 1 → ClAt (VT s) F lc j) := hAl.out (of_decide_eq_true (by rw [hcd.out]; rfl))
                        clear hcd hAl hbad
                        go_wp2
                        exact ⟨⟨i + 1, by omega, by go_num, hb7, hA2⟩, by simp only [intOf]; omega⟩
                · obtain rfl : i = s.ps.length := by omega
                  have c1 := hCr.out.cell p hpn; have c9 := hCr.out.lt
                  have hrr : Hid (false = r1 ∧ (!decide ((p : Int) ∈ lc)) = r2) := by have h := hch.out; rw [cls_end hlb2.out hA.out] at h; simp only [Prod.mk.injEq] at h; exact h
                  clear hA
                  generalize decide ((p : Int) ∈ lc) = d1 at c1 hrr
                  have hBd : Hid (∀ q, Below w.heap.size w (wz.drewN q)) := fun q => blw_drewN hBr.out q
                  go_wp2_with fail
                  go_quiet (fail)
                  go_wp2
                  go_ret2
                  exact ⟨ret_bb hrr.out.1 hrr.out.2, hBd.out _⟩
          · replace hch := Lib.hid ((if_neg l0).symm.trans hch.out)
            have v1 : decide (0 < (lo.length : Int)) = true := decide_eq_true (by omega)
            have v1n : decide (0 < lo.length) = true := decide_eq_true (by omega)
            have v1p : 0 < lo.length := by omega
            by_cases l1 : lc.length = 0
            rotate_left
            · have v2 : decide (0 < (lc.length : Int)) = true := decide_eq_true (by omega)
              have v2n : decide (0 < lc.length) = true := decide_eq_true (by omega)
              have hd : Hid (decide (lc.length = 0) = false) := decide_eq_false l1
              replace l1 := Lib.hid l1; replace l0 := Lib.hid l0
              have hrr : Hid (false = r1 ∧ false = r2) := by have h := (show (ordB (VT s) s.ps.length F lo && (decide (lc.length = 0) && lastB lo (p : Int)), ordB (VT s) s.ps.length F lo && (decide (lc.length = 0) && lastB lo (p : Int))) = (r1, r2) from hch.out) |> fun h => (show (false, false) = (r1, r2) by rw [← h, hd.out, Bool.false_and, Bool.and_false]); simp only [Prod.mk.injEq] at h; exact h
              go_wp2
              go_ret2
              exact ⟨ret_bb hrr.out.1 hrr.out.2, hB4.out⟩
            · have v2 : decide (0 < (lc.length : Int)) = false := decide_eq_false (by omega)
              have v2n : decide (0 < lc.length) = false := decide_eq_false (by omega)
              have hd : Hid (decide (lc.length = 0) = true) := decide_eq_true l1
              have hlst := Lib.hid (last_eq (lo := lo) (party := (p : Int)) v1p)
              obtain ⟨ob, oo, hAo, hob, hoc⟩ := (hlo.out.below hB4.out) v1p
              subst hAo
              have q1 := hoc (lo.length - 1) (by omega)
              obtain ⟨z, hz⟩ : ∃ z, z = lo[lo.length - 1]'(by omega) := ⟨_, rfl⟩
              rw [← hz] at q1
              have hlst2 : Hid (lastB lo (p : Int) = decide (z = (p : Int))) := by rw [hlst.out, hz]; exact decide_eq_decide.2 Iff.rfl
              replace hz := Lib.hid hz; clear hlst
              have q2 : (((oo : Int) + ((lo.length : Int) - 1))) = ((oo + (lo.length - 1) : Nat) : Int) := by omega
              have q3 : (0 : Int) ≤ (lo.length : Int) - 1 := by omega
              have q4 : (lo.length : Int) - 1 < (lo.length : Int) := by omega
              have q5 : ((lo.length : Int) - 1).toNat = lo.length - 1 := by omega
              replace l1 := Lib.hid l1; replace l0 := Lib.hid l0
              clear hoc
              by_cases hzp : z = (p : Int)
              rotate_left
              · have v3 : (z != (p : Int)) = true := by rw [bne_iff_ne]; exact hzp
                have hd3 : Hid (decide (z = (p : Int)) = false) := decide_eq_false hzp
                replace hzp := Lib.hid hzp
                have hrr : Hid (false = r1 ∧ false = r2) := by have h := (show (ordB (VT s) s.ps.length F lo && (decide (lc.length = 0) && lastB lo (p : Int)), ordB (VT s) s.ps.length F lo && (decide (lc.length = 0) && lastB lo (p : Int))) = (r1, r2) from hch.out) |> fun h => (show (false, false) = (r1, r2) by rw [← h, hlst2.out, hd3.out, Bool.and_false, Bool.and_false]); simp only [Prod.mk.injEq] at h; exact h
                go_wp2
                go_ret2
                exact ⟨ret_bb hrr.out.1 hrr.out.2, hB4.out⟩
              · have v3 : (z != (p : Int)) = false := by rw [bne_eq_false_iff_eq]; exact hzp
                have hch2 : Hid ((ordB (VT s) s.ps.length F lo, ordB (VT s) s.ps.length F lo) = (r1, r2)) := by have h := hch.out; rw [hd.out, hlst2.out, decide_eq_true hzp, Bool.and_true, Bool.and_true] at h; exact h
                replace hzp := Lib.hid hzp
                clear hch hd hlst2
                go_wp2
                clear q1 q2 q3 q4 q5 e1 e9 t0 t1 t9
                go_loopw [13, 14] (fun ix _ wr => ∃ (j : Nat), j ≤ lo.length ∧ ix = .int .i64 (j : Int) ∧ Hid (Below w.heap.size w wr) ∧ Hid (Bk wr w.heap.size 54 (SC s Ap Ac Av cp cc cv)) ∧ Hid (Bk wr pb 56 [.slice (some ⟨ob, oo, none⟩) lo.length co, .slice Al lc.length cl]) ∧ Hid (RoB wr ib s.ps.length (SJ F lo j)) ∧ Hid (∀ i (h : i < lo.length), i < j → OrdAt (VT s) s.ps.length F lo i h)) (fun ix _ _ => lo.length - (intOf ix).toNat)
                case atStart => exact ⟨0, Nat.zero_le _, rfl, hB4, hX4, hT4, hS4, fun i _ h => absurd h (Nat.not_lt_zero _)⟩
                case round =>
                  clear hB4 hX4 hT4 hS4
                  obtain ⟨j, hj, rfl, hB, hX, hT, hS, hA⟩ := hrel
                  obtain ⟨wz, rfl⟩ : ∃ z, z = wr := ⟨_, rfl⟩
                  have t0 := hT.out.cell (j := 0) rfl; have t1 := hT.out.cell (j := 1) rfl; have t9 := hT.out.lt
                  by_cases hjl : j < lo.length
                  · obtain ⟨ob2, oo2, hAo, hob2, hoc⟩ := (hlo.out.below hB.out) v1p
                    simp only [Option.some.injEq, Addr.mk.injEq, and_true] at hAo
                    obtain ⟨rfl, rfl⟩ := hAo
                    have q1 := hoc j hjl
                    clear hoc
                    have hbd := Lib.hid (fun hb => ord_bad (V := VT s) (n := s.ps.length) (F := F) hjl hb)
                    have hAl : Hid (OrdAt (VT s) s.ps.length F lo j hjl → ∀ i (h : i < lo.length), i < j + 1 → OrdAt (VT s) s.ps.length F lo i h) := fun h i hi h2 => by
                      by_cases e : i = j
                      · subst e; exact h
                      · exact hA.out i hi (by omega)
                    have hat : OrdAt (VT s) s.ps.length F lo j hjl ↔ (0 ≤ lo[j] ∧ lo[j] < s.ps.length) ∧ SJ F lo j lo[j].toNat = false ∧ maj (VT s) (SJ F lo j) lo[j].toNat = true := Iff.rfl
                    have hsu := fun (q : Nat) h e y => @SJ_succ F lo j q h e y
                    generalize OrdAt (VT s) s.ps.length F lo j hjl = RA at hbd hAl hat
                    obtain ⟨z2, hz2⟩ : ∃ z2, z2 = lo[j] := ⟨_, rfl⟩
                    rw [← hz2] at q1 hat
                    have j0 : (0 : Int) ≤ (j : Int) := by omega
                    have j1 : (j : Int) < (lo.length : Int) := by omega
                    replace hz2 := Lib.hid hz2; replace hsu := Lib.hid hsu
                    by_cases c1 : z2 < 0
                    · have w1 : decide (z2 < 0) = true := decide_eq_true c1
                      have hob0 : Hid (ordB (VT s) s.ps.length F lo = false) := hbd.out (fun h => by have := (hat.1 h).1.1; omega)
                      clear hat hbd hAl
                      have hrr : Hid (false = r1 ∧ false = r2) := by have h := hch2.out |> fun h => (show (false, false) = (r1, r2) by rw [← h, hob0.out]); simp only [Prod.mk.injEq] at h; exact h
                      go_wp2
                      go_ret2
                      exact ⟨ret_bb hrr.out.1 hrr.out.2, hB.out⟩
                    · have w1 : decide (z2 < 0) = false := decide_eq_false c1
                      by_cases c2 : (s.ps.length : Int) ≤ z2
                      · have w2 : decide ((s.ps.length : Int) ≤ z2) = true := decide_eq_true c2
                        have hob0 : Hid (ordB (VT s) s.ps.length F lo = false) := hbd.out (fun h => by have := (hat.1 h).1.2; omega)
                        clear hat hbd hAl
                        have hrr : Hid (false = r1 ∧ false = r2) := by have h := hch2.out |> fun h => (show (false, false) = (r1, r2) by rw [← h, hob0.out]); simp only [Prod.mk.injEq] at h; exact h
                        go_wp2
                        go_ret2
                        exact ⟨ret_bb hrr.out.1 hrr.out.2, hB.out⟩
                      · have w2 : decide ((s.ps.length : Int) ≤ z2) = false := decide_eq_false c2
                        obtain ⟨kk, rfl⟩ : ∃ kk : Nat, z2 = (kk : Int) := ⟨z2.toNat, by omega⟩
                        rw [Int.toNat_natCast] at hat
                        have hkn : kk < s.ps.length := by omega
                        have w2n : decide (s.ps.length ≤ kk) = false := decide_eq_false (by omega)
                        have k0 : (0 : Int) ≤ (kk : Int) := by omega
                        have k1 : (kk : Int) < (s.ps.length : Int) := by omega
                        have e1 := hS.out.cell kk hkn; have e9 := hS.out.lt; have e8 := hS.out.fr kk
                        have kmj := Lib.hid (kM.out ib s.ps.length kk (SJ F lo j) wz hB.out hS.out)
                        obtain ⟨d1, hd1⟩ : ∃ x, x = SJ F lo j kk := ⟨_, rfl⟩
                        rw [← hd1] at e1 hat
                        generalize maj (VT s) (SJ F lo j) kk = d3 at hat kmj
                        cases d1 with
                        | true =>
                          replace hd1 := Lib.hid hd1
                          have hob0 : Hid (ordB (VT s) s.ps.length F lo = false) := hbd.out (fun h => by have := (hat.1 h).2.1; cases this)
                          clear hat hbd hAl
                          have hrr : Hid (false = r1 ∧ false = r2) := by have h := hch2.out |> fun h => (show (false, false) = (r1, r2) by rw [← h, hob0.out]); simp only [Prod.mk.injEq] at h; exact h
                          go_wp2
                          go_ret2
                          exact ⟨ret_bb hrr.out.1 hrr.out.2, hB.out⟩
                        | false =>
                          have u0 := hX.out.cell (j := 0) rfl; have u1 := hX.out.cell (j := 1) rfl; have u2 := hX.out.cell (j := 2) rfl; have u9 := hX.out.lt
                          replace hat := Lib.hid hat; replace hd1 := Lib.hid hd1
                          go_wp2_with fail
                          refine kmj.out.mono ?_
                          rintro e w7 ⟨rfl, hb⟩
                          have hB7 := Lib.hid (hB.out.trans (hb.mono hB.out.size)); have hX7 := Lib.hid (hX.out.below hb); have hT7 := Lib.hid (hT.out.below hb); have hS7 := Lib.hid (hS.out.below hb)
                          clear hb kmj u0 u1 u2 u9 e1 e9 e8 t0 t1 t9 q1 hB hX hT hS
                          cases d3 with
                          | false =>
                            have hob0 : Hid (ordB (VT s) s.ps.length F lo = false) := hbd.out (fun h => by have := (hat.out.1 h).2.2; cases this)
                            clear hat hbd hAl
                            have hrr : Hid (false = r1 ∧ false = r2) := by have h := hch2.out |> fun h => (show (false, false) = (r1, r2) by rw [← h, hob0.out]); simp only [Prod.mk.injEq] at h; exact h
                            go_wp2
                            go_ret2
                            exact ⟨ret_bb hrr.out.1 hrr.out.2, hB7.out⟩
                          | true =>
                            have hA2 : Hid (∀ i (h : i < lo.length), i < j + 1 → OrdAt (VT s) s.ps.length F lo i h) := hAl.out (hat.out.2 ⟨⟨k0, k1⟩, by trivial, by trivial⟩)
                            clear hat hbd hAl hA
                            have hS8 : Hid (RoB (w7.setCell ⟨ib, kk, none⟩ (.bool true)) ib s.ps.length (SJ F lo (j + 1))) := hS7.out.set hkn fun y _ => hsu.out kk hjl hz2.out.symm y
                            have hT8 : Hid (Bk (w7.setCell ⟨ib, kk, none⟩ (.bool true)) pb 56 [.slice (some ⟨ob, oo, none⟩) lo.length co, .slice Al lc.length cl]) := hT7.out.far (p := ⟨ib, kk, none⟩) (Nat.ne_of_lt hpi.out) _
                            have hX8 : Hid (Bk (w7.setCell ⟨ib, kk, none⟩ (.bool true)) w.heap.size 54 (SC s Ap Ac Av cp cc cv)) := hX7.out.far (p := ⟨ib, kk, none⟩) (Nat.ne_of_lt hxi.out) _
                            have hB8 : Hid (Below w.heap.size w (w7.setCell ⟨ib, kk, none⟩ (.bool true))) := hB7.out.setCell (p := ⟨ib, kk, none⟩) (Nat.le_of_lt hxi.out) _
                            have e1 := hS7.out.cell kk hkn; have e9 := hS7.out.lt; have e8 := hS7.out.fr kk
                            generalize SJ F lo j kk = dv at e1
                            clear hsu hS7 hT7 hX7 hB7
                            go_wp2
                            exact ⟨⟨j + 1, by omega, by go_num, hB8, hX8, hT8, hS8, hA2⟩, by simp only [intOf]; omega⟩
                  · obtain rfl : j = lo.length := by omega
                    have hrr : Hid (true = r1 ∧ true = r2) := by have h := hch2.out; rw [ord_all fun i hi => hA.out i hi hi] at h; simp only [Prod.mk.injEq] at h; exact h
                    clear hA
                    go_wp2
                    go_ret2
                    exact ⟨ret_bb hrr.out.1 hrr.out.2, hB.out⟩
end Co
end Go.Proofs.YtpmlhgmmobpilaaGreatDoor

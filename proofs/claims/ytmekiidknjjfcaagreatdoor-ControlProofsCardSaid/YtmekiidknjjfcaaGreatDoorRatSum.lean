/- The walks of ratio's products, sum, product, opposite. -/
import Derived.Test.YtmekiidknjjfcaaGreatDoorRatBox
import Derived.Deep.QuietTactic
import Derived.BigQuiet
import Derived.StillTailTactics
import Derived.Laws.OwnMore
namespace Go.Proofs.YtmekiidknjjfcaaGreatDoor
open Go.RowKit Go.Shelf
namespace Nt

theorem infoS : (Tryz.prog.info? 9).map (fun i => (i.zero, i.size, i.bytes)) = some (some (.string ⟨#[]⟩), 1, 16) := by kernel_rfl

/-- The cells of texts of numbers. -/
def tvals (ks : List Nat) : List Value := ks.map fun k => Value.string (T (some k))
/-- A slice of texts of numbers. -/
def TextsAt (W : World) (v : Value) (ks : List Nat) : Prop := ∃ g cap, v = .slice (some ⟨g, 0, none⟩) ks.length cap ∧ g < W.heap.size ∧ ∀ i (h : i < ks.length), W.cell? ⟨g, i, none⟩ = some (.string (T (some ks[i])))
theorem tvals_snoc (ks : List Nat) (k : Nat) : tvals ks ++ [Value.string (T (some k))] = tvals (ks ++ [k]) := by simp [tvals]
theorem tvals_at {B : Nat} {W : World} {v : Value} {ks : List Nat} (h : W.ownsRow B 9 1 v ks.length (tvals ks)) (h0 : ks ≠ []) : TextsAt W v ks := by
  rcases id h.2 with ⟨rfl, hx⟩ | ⟨g, cap, cur, rfl, hg, hh, hn, hcm, hcs, ht⟩
  · exact absurd (List.length_eq_zero_iff.1 hx) h0
  · refine ⟨g, cap, rfl, (Array.getElem?_eq_some_iff.1 hh).1, fun i hi => ?_⟩
    rw [World.ownsRow.cellAt h i (by omega)]
    simp [tvals, hi]

/-- The pairs of an argument's memory. -/
def PairsAt (W : World) (b : Nat) (ps : List (Nat × Nat)) : Prop := ∀ i (h : i < ps.length), W.cell? ⟨b, i * 2, none⟩ = some (.string (T (some ps[i].1))) ∧ W.cell? ⟨b, i * 2 + 1, none⟩ = some (.string (T (some ps[i].2)))
def prods (ps : List (Nat × Nat)) : List Nat := ps.map fun p => p.1 * p.2

def PrRel (w : World) (ps : List (Nat × Nat)) (k : Nat) (v : Value) (wr : World) : Prop :=
  wr.ownsRow w.heap.size 9 1 v (prods (ps.take k)).length (tvals (prods (ps.take k))) ∧ Below w.heap.size w wr

theorem ownsRow_belowH {B : Nat} {e : TypeId} {size : Nat} {w w' : World} {v : Value} {n : Nat} {xs : List Value} (h : w.ownsRow B e size v n xs) (hb : Below w.heap.size w w') : w'.ownsRow B e size v n xs := by
  obtain ⟨h1, h2⟩ := h
  refine ⟨h1, ?_⟩
  rcases h2 with h2 | ⟨g, cap, cur, hv, hg, hh, r⟩
  · exact Or.inl h2
  · exact Or.inr ⟨g, cap, cur, hv, hg, by rw [hb.block g (Array.getElem?_eq_some_iff.1 hh).1]; exact hh, r⟩
theorem one_cell_s (s : ByteArray) : ∀ u ∈ [Value.string s], u.oneCell' = true := by
  intro u hu; simp at hu; subst hu; rfl

set_option maxRecDepth 100000 in
set_option maxHeartbeats 2000000 in
theorem products_any (w : World) (hE : Env w) (b cap : Nat) (ps : List (Nat × Nat)) (hb : b < w.heap.size) (hl : ps.length ≤ 100) (hp : PairsAt w b ps) (hs : ∀ p ∈ ps, p.1 < Lim ∧ p.2 < Lim ∧ p.1 * p.2 < Lim) :
    Calls Tryz.prog 72 #[.slice (some ⟨b, 0, none⟩) ps.length cap] w fun e w' => (∃ v, e = .returned v ∧ w'.ownsRow w.heap.size 9 1 v (prods ps).length (tvals (prods ps))) ∧ Below w.heap.size w w' := by
  obtain ⟨i0, hi, hz0, hz1, hz2⟩ := info_parts infoS
  have HP := Lib.hid hp
  have HS := Lib.hid hs
  replace hE := Lib.hid hE
  clear hp hs
  go_enter Tryz.func72, Tryz.ntmps72
  go_wp2
  go_loopw [3, 10] (fun v i wr => ∃ k : Nat, k ≤ ps.length ∧ i = .int .i64 (k : Int) ∧ PrRel w ps k v wr) (fun _ i _ => ps.length - (intOf i).toNat)
  case atStart => exact ⟨0, Nat.zero_le _, rfl, World.ownsRow_nil _ _ _ _, Below.refl _ _⟩
  case round =>
    obtain ⟨k, hk, rfl, z1, z2⟩ := hrel
    have hsz := z2.size
    by_cases hlt : k < ps.length
    · obtain ⟨x, hx⟩ : ∃ x, x = ps[k].1 := ⟨_, rfl⟩
      obtain ⟨y, hy⟩ : ∃ y, y = ps[k].2 := ⟨_, rfl⟩
      obtain ⟨hp1, hp2⟩ := HP.out k hlt
      obtain ⟨s1, s2, s3⟩ := HS.out _ (List.getElem_mem hlt)
      rw [← hx] at hp1 s1 s3
      rw [← hy] at hp2 s2 s3
      have c1 := (z2.cell (p := ⟨b, k * 2, none⟩) hb).trans hp1
      have c2 := (z2.cell (p := ⟨b, k * 2 + 1, none⟩) hb).trans hp2
      have hM : Hid (mulO (some x) (some y) = some (x * y) ∧ mulE (some x) (some y) = 0) := ⟨by simp only [mulO, apO, limO, if_pos s3], by simp only [mulE, apE, if_pos s3]⟩
      have hN : Hid (prods (ps.take (k + 1)) = prods (ps.take k) ++ [x * y]) := by
        unfold Hid prods
        rw [List.take_succ_eq_append_getElem hlt, List.map_append, hx, hy]
        rfl
      have hL : Hid ((prods (ps.take k)).length = k) := by unfold Hid prods; simp; omega
      replace z1 := Lib.hid z1
      replace z2 := Lib.hid z2
      clear hp1 hp2 hx hy
      go_wp2_with fail
      refine (mulT (some x) (some y) _ (hE.out.below (z2.out.alloc hsz _)) (ok_some s1) (ok_some s2)).mono ?_
      rintro e w1 ⟨rfl, hb1⟩
      rw [hM.out.1, hM.out.2]
      have hB1 := Lib.hid ((z2.out.alloc hsz _).trans (hb1.mono (by simp; omega)))
      have ho : Hid (w1.ownsRow w.heap.size 9 1 u3 (prods (ps.take k)).length (tvals (prods (ps.take k)))) := ownsRow_belowH (z1.out.alloc _) hb1
      have hsz1 := hB1.out.size
      clear hb1 z1 z2
      go_wp2_with (at_builtin; refine wpList_append_own _ rfl _ _ 22 rfl w.heap.size 9 i0 (.string ⟨#[]⟩) 1 16 Tryz.underlying22 hi hz0 hz1 hz2 rfl (by decide) u3 (prods (ps.take k)).length (tvals (prods (ps.take k))) rfl (ho.out.alloc _) ⟨w1.heap.size, 0, none⟩ 1 1 [.string (T (some (x * y)))] rfl rfl (one_new _ _ _) (one_cell_s _) (by have := hL.out; unfold maxLen; omega) (by have := hL.out; omega) (by simp; omega) ?_; intro v2 w2 hown2 hgr2 _)
      refine ⟨⟨k + 1, by omega, by go_num, ?_, (hB1.out.alloc (by omega) _).grown hgr2 (by simp; omega) (fun b e => (ho.out.lt b e).1)⟩, by simp only [intOf]; omega⟩
      rw [hN.out, ← tvals_snoc, List.length_append]
      exact hown2
    · obtain rfl : k = ps.length := by omega
      have e : ps.take ps.length = ps := List.take_of_length_le (Nat.le_refl _)
      rw [e] at z1
      replace z1 := Lib.hid z1
      replace z2 := Lib.hid z2
      clear e
      go_wp2
      go_ret
      exact ⟨⟨_, rfl, z1.out⟩, z2.out⟩

end Nt
end Go.Proofs.YtmekiidknjjfcaaGreatDoor

/- The walk of natural's gcd. -/
import Derived.Test.YtmekiidknjjfcaaGreatDoorNatDivB
import Derived.Deep.LoopGhost
namespace Go.Proofs.YtmekiidknjjfcaaGreatDoor
open Go.RowKit Go.Shelf
namespace Nt

theorem lv_nil_iff {xs : List Nat} (h : Canon xs) : xs.length = 0 ↔ lv xs = 0 := by
  constructor
  · intro e
    rw [List.length_eq_zero_iff.1 e]; rfl
  · intro e
    have := h.len_le (k := 0) (by rw [e]; decide)
    omega

theorem Num.open {W : World} {v : Value} {n : Nat} (h : Num W v n) : ∃ a l c, v = .slice a l c ∧ (l = 0 ↔ n = 0) := by
  obtain ⟨xs, h1, h2, a, c, h3, _⟩ := h
  exact ⟨a, _, c, h3, by rw [← h2]; exact lv_nil_iff h1⟩

def GcdRel (w : World) (N G : Nat) (g : Nat) (v u : Value) (wr : World) : Prop :=
  ∃ n, Num wr v n ∧ Num wr u g ∧ Nat.gcd n g = G ∧ n ≤ N ∧ g ≤ N ∧ Below w.heap.size w wr

set_option maxHeartbeats 1000000 in
theorem gcd_any (w : World) (v u : Value) (n m N : Nat) (hn : Num w v n) (hm : Num w u m) (hnN : n ≤ N) (hmN : m ≤ N) (hN : Small (N * 1000000000)) (h0 : 0 < w.heap.size) :
    Calls Tryz.prog 88 #[v, u] w fun e w' => (∃ q, e = .returned q ∧ Num w' q (Nat.gcd n m)) ∧ Below w.heap.size w w' := by
  have hrel0 : GcdRel w N (Nat.gcd n m) m v u w := ⟨n, hn, hm, rfl, hnN, hmN, Below.refl _ _⟩
  obtain ⟨a, l, c, rfl, hl0⟩ := hn.open
  obtain ⟨a2, l2, c2, rfl, hl2⟩ := hm.open
  replace hl0 := Lib.hid hl0
  replace hl2 := Lib.hid hl2
  clear hn hm
  go_enter Tryz.func88, Tryz.ntmps88
  go_wp2
  go_loopg [0, 1] m (fun g v u wr => GcdRel w N (Nat.gcd n m) g v u wr)
  case atStart => exact hrel0
  case round =>
    clear hl0 hl2 hrel0
    obtain ⟨k, h1, h2, h3, h4, h5, h6⟩ := hrel
    obtain ⟨a1, l1, c1, rfl, _⟩ := h1.open
    obtain ⟨a2, l2, c2, rfl, hl2⟩ := h2.open
    by_cases hg : gk = 0
    · have hl := hl2.2 hg
      subst hl
      replace h1 := Lib.hid h1
      replace h3 := Lib.hid h3
      replace hg := Lib.hid hg
      replace h6 := Lib.hid h6
      clear h2 hl2
      go_wp2
      go_ret
      refine ⟨⟨_, rfl, ?_⟩, h6.out⟩
      rw [← h3.out, hg.out, Nat.gcd_zero_right]
      exact h1.out
    · have hl : 0 < l2 := by
        rcases Nat.eq_zero_or_pos l2 with h | h
        · exact absurd (hl2.1 h) hg
        · exact h
      have hsz := h6.size
      have hc := div_any wr _ _ k gk h1 h2 (small_of_le hN (by omega)) (small_of_le hN (Nat.mul_le_mul_right _ h5)) (by omega) (by omega)
      replace h1 := Lib.hid h1
      replace h2 := Lib.hid h2
      replace h3 := Lib.hid h3
      replace hg := Lib.hid hg
      replace h6 := Lib.hid h6
      clear hl2
      go_wp2_with (go_at_call 101; refine hc.mono ?_; rintro e w2 ⟨⟨q, r, rfl, hq, hr⟩, hb⟩; replace hq := Lib.hid hq; replace hr := Lib.hid hr; replace hb := Lib.hid hb)
      go_roundg (k % gk)
      case measure => exact Nat.mod_lt _ (by have := hg.out; omega)
      case rel =>
        refine ⟨gk, h2.out.below hb.out, hr.out, ?_, h5, ?_, h6.out.trans (hb.out.mono hsz)⟩
        · rw [← h3.out, Nat.gcd_comm gk, ← Nat.gcd_rec, Nat.gcd_comm]
        · have := Nat.mod_lt k (show gk > 0 by have := hg.out; omega); omega

end Nt
end Go.Proofs.YtmekiidknjjfcaaGreatDoor

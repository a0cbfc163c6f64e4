/- short: whether numbers have few digits. -/
import Derived.Test.YtjahnkeafaebdaaGreatDoorRatBox
namespace Go.Proofs.YtjahnkeafaebdaaGreatDoor
open Go.RowKit Go.Shelf
namespace Nt

/-- The texts of numbers in a row of memory. -/
def RawsAt (W : World) (b : Nat) (l : List (ByteArray × ByteArray)) : Prop := ∀ i (h : i < l.length), W.cell? ⟨b, i * 3 + 1, none⟩ = some (.string l[i].1) ∧ W.cell? ⟨b, i * 3 + 2, none⟩ = some (.string l[i].2)
def shortB (m : Nat) (l : List (ByteArray × ByteArray)) : Bool := l.all fun p => decide (p.1.size ≤ m) && decide (p.2.size ≤ m)
theorem shortB_bad {m : Nat} {l : List (ByteArray × ByteArray)} {k : Nat} (h : k < l.length) (hb : m < l[k].1.size ∨ m < l[k].2.size) : shortB m l = false := by
  unfold shortB
  rw [List.all_eq_false]
  refine ⟨l[k], List.getElem_mem h, ?_⟩
  simp
  omega
theorem shortB_good {m : Nat} {l : List (ByteArray × ByteArray)} (h : ∀ k (hk : k < l.length), l[k].1.size ≤ m ∧ l[k].2.size ≤ m) : shortB m l = true := by
  unfold shortB
  rw [List.all_eq_true]
  intro p hp
  obtain ⟨k, hk, rfl⟩ := List.getElem_of_mem hp
  simpa using h k hk

set_option maxRecDepth 100000 in
theorem Short_any (m : Nat) (l : List (ByteArray × ByteArray)) (b cap : Nat) (w : World) (hl : l.length ≤ 100) (h : RawsAt w b l) :
    Calls Tryz.prog 42 #[.int .i64 (m : Int), .slice (some ⟨b, 0, none⟩) l.length cap] w fun e w' => e = .returned (.bool (shortB m l)) ∧ w = w' := by
  have HR := Lib.hid h
  clear h
  go_enter Tryz.func42, Tryz.ntmps42
  go_wp2
  go_loop [5] (fun i => ∃ k : Nat, k ≤ l.length ∧ i = .int .i64 (k : Int) ∧ Hid (∀ j (hj : j < l.length), j < k → l[j].1.size ≤ m ∧ l[j].2.size ≤ m)) (fun i => l.length - (intOf i).toNat)
  case atStart => exact ⟨0, Nat.zero_le _, rfl, fun j _ h => absurd h (by omega)⟩
  case round =>
    obtain ⟨k, hk, rfl, hd⟩ := hrel
    by_cases hlt : k < l.length
    · obtain ⟨c1, c2⟩ := HR.out k hlt
      have hbad : Hid (m < l[k].1.size ∨ m < l[k].2.size → shortB m l = false) := fun h => shortB_bad hlt h
      obtain ⟨x, hx⟩ : ∃ x, x = l[k].1 := ⟨_, rfl⟩
      obtain ⟨y, hy⟩ : ∃ y, y = l[k].2 := ⟨_, rfl⟩
      rw [← hx] at c1 hbad
      rw [← hy] at c2 hbad
      have HX := Lib.hid hx
      have HY := Lib.hid hy
      clear hx hy
      by_cases h1 : m < x.size
      · go_wp2
        go_ret
        exact ⟨by rw [hbad.out (.inl h1)]; rfl, rfl⟩
      · by_cases h2 : m < y.size
        · go_wp2
          go_ret
          exact ⟨by rw [hbad.out (.inr h2)]; rfl, rfl⟩
        · go_wp2
          go_round
          case rel =>
            refine ⟨k + 1, by omega, by go_num, fun j hj hjk => ?_⟩
            by_cases e : j = k
            · subst e
              rw [← HX.out, ← HY.out]
              exact ⟨by omega, by omega⟩
            · exact hd.out j hj (by omega)
          case measure => simp [intOf]; omega
    · have hg : Hid (shortB m l = true) := shortB_good fun j hj => hd.out j hj (by omega)
      go_wp2
      go_ret
      exact ⟨by rw [hg.out]; rfl, rfl⟩

theorem short_any (m : Nat) (l : List (ByteArray × ByteArray)) (b cap : Nat) (w : World) (hl : l.length ≤ 100) (h : RawsAt w b l) :
    Calls Tryz.prog 13 #[.int .i64 (m : Int), .slice (some ⟨b, 0, none⟩) l.length cap] w fun e w' => e = .returned (.bool (shortB m l)) ∧ w = w' := by
  have hc := Short_any m l b cap w hl h
  go_enter Tryz.func13, Tryz.ntmps13
  go_wp2_with fail
  refine hc.mono ?_
  rintro e w' ⟨rfl, rfl⟩
  go_wp2
  go_ret
  exact ⟨rfl, rfl⟩

end Nt
end Go.Proofs.YtjahnkeafaebdaaGreatDoor

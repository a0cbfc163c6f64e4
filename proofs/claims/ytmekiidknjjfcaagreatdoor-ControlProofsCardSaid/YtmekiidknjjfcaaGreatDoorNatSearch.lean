/- The walk of sort.Search at natural's closure. -/
import Derived.Test.YtmekiidknjjfcaaGreatDoorNatCmp
namespace Go.Proofs.YtmekiidknjjfcaaGreatDoor
open Go.RowKit Go.Shelf
namespace Nt

def SearchPost (n : Nat) (p : Nat → Bool) (w : World) (e : Ending) (w' : World) : Prop :=
  ∃ r : Nat, e = .returned (.int .i64 (r : Int)) ∧ r ≤ n ∧ (∀ i, i < r → p i = false) ∧ (r < n → p r = true) ∧ Below w.heap.size w w'

set_option maxHeartbeats 1000000 in
theorem search_any (n : Nat) (hn : n ≤ 1000000000) (p : Nat → Bool) (c1 c2 : Value) (w : World)
    (hmono : Hid (∀ a b, a ≤ b → b < n → p a = true → p b = true))
    (H : Hid (∀ W i, Below w.heap.size w W → i < n → Calls Tryz.prog 126 #[.int .i64 (i : Int), c1, c2] W fun e W' => e = .returned (.bool (p i)) ∧ Below W.heap.size W W')) :
    Calls Tryz.prog 125 #[.int .i64 (n : Int), .func (.func 126) #[] #[c1, c2]] w (SearchPost n p w) := by
  go_enter Tryz.func125, Tryz.ntmps125
  go_wp2
  go_loopw [5, 6] (fun i j wr => ∃ a b : Nat, a ≤ b ∧ b ≤ n ∧ i = .int .i64 a ∧ j = .int .i64 b ∧ Hid ((∀ k, k < a → p k = false) ∧ (b < n → p b = true)) ∧ Below w.heap.size w wr)
    (fun i j _ => (intOf j - intOf i).toNat)
  case atStart => exact ⟨0, n, Nat.zero_le _, Nat.le_refl _, rfl, rfl, ⟨fun k h => by omega, fun h => by omega⟩, Below.refl _ _⟩
  case round =>
    obtain ⟨a, b, hab, hbn, rfl, rfl, hinv, hbel⟩ := hrel
    replace hbel := Lib.hid hbel
    by_cases hlt : a < b
    · go_wp2_with fail
      obtain ⟨q, hq⟩ : ∃ q : Nat, q = (a + b) / 2 := ⟨_, rfl⟩
      have e : ((a : Int) + b) / 2 = (q : Int) := by rw [hq]; omega
      rw [e]
      have haq : a ≤ q := by omega
      have hqb : q < b := by omega
      clear hq e
      refine (H.out _ q hbel.out (by omega)).mono ?_
      rintro e w' ⟨rfl, hb'⟩
      have hbel' := Lib.hid (hbel.out.trans (hb'.mono hbel.out.size))
      clear hb' hbel
      by_cases hp : p q = true
      · have HP := Lib.hid hp
        rw [hp]
        clear hp
        go_wp2
        exact ⟨⟨a, q, haq, by omega, rfl, rfl, ⟨hinv.out.1, fun _ => HP.out⟩, hbel'.out⟩, by simp only [intOf]; omega⟩
      · replace hp : p q = false := by simpa using hp
        have HP := Lib.hid hp
        rw [hp]
        clear hp
        go_wp2
        refine ⟨⟨q + 1, b, by omega, hbn, by go_num, rfl, ⟨fun k hk => ?_, hinv.out.2⟩, hbel'.out⟩, by simp only [intOf]; omega⟩
        cases hk' : p k with
        | false => rfl
        | true => rw [← HP.out]; exact (hmono.out k q (by omega) (by omega) hk').symm
    · obtain rfl : a = b := by omega
      go_wp2
      go_ret
      exact ⟨a, rfl, hbn, hinv.out.1, hinv.out.2, hbel.out⟩

end Nt
end Go.Proofs.YtmekiidknjjfcaaGreatDoor

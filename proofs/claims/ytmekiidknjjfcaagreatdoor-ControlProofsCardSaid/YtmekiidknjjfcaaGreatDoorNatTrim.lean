/- The walk of natural's trim. -/
import Derived.Test.YtmekiidknjjfcaaGreatDoorNatPlain
import Derived.Test.YtmekiidknjjfcaaGreatDoorProg
import Derived.WalkKit
import Derived.BigQuiet
import Derived.Outline
import Derived.Lib.Hide
namespace Go.Proofs.YtmekiidknjjfcaaGreatDoor
open Go.RowKit
namespace Nt

def PostTrim (b off cap : Nat) (xs : List Nat) (w : World) (e : Ending) (w' : World) : Prop :=
  ∃ k, e = .returned (.slice (some ⟨b, off, none⟩) k cap) ∧ Trimmed xs k ∧ w = w'

theorem trim_some (w : World) (b off cap : Nat) (xs : List Nat) (hl : xs.length ≤ 1000000) (hcap : xs.length ≤ cap)
    (hc : ∀ i, i < xs.length → w.cell? ⟨b, off + i, none⟩ = some (.int .u64 (lim xs i))) :
    Calls Tryz.prog 117 #[.slice (some ⟨b, off, none⟩) xs.length cap] w (PostTrim b off cap xs w) := by
  go_enter Tryz.func117, Tryz.ntmps117
  go_wp2
  go_loop [0] (fun v => ∃ k, k ≤ xs.length ∧ v = .slice (some ⟨b, off, none⟩) k cap ∧ (∀ j, k ≤ j → j < xs.length → lim xs j = 0)) (fun v => slen v)
  case atStart => exact ⟨_, Nat.le_refl _, rfl, fun j h h' => by omega⟩
  case round =>
    obtain ⟨k, hk, rfl, hz⟩ := hrel
    have HZ := Lib.hid hz
    clear hz
    by_cases h0 : 0 < k
    · have hcx := hc (k - 1) (by omega)
      by_cases hx : lim xs (k - 1) = 0
      · have HX := Lib.hid hx
        rw [hx] at hcx
        clear hx hc
        go_wp2
        refine ⟨⟨k - 1, by omega, rfl, fun j h h' => ?_⟩, by simp only [slen]; omega⟩
        by_cases e : j = k - 1
        · rw [e]; exact HX.out
        · exact HZ.out j (by omega) h'
      · have hxb : ((lim xs (k - 1) : Int) == 0) = false := by simp; exact hx
        have HX := Lib.hid hx
        clear hx hc
        go_wp2
        go_ret
        exact ⟨k, rfl, ⟨hk, HZ.out, fun _ => HX.out⟩, rfl⟩
    · clear hc
      go_wp2
      go_ret
      exact ⟨k, rfl, ⟨hk, HZ.out, fun h => by omega⟩, rfl⟩

theorem trim_nil (w : World) :
    Calls Tryz.prog 117 #[.slice none 0 0] w fun e w' => e = .returned (.slice none 0 0) ∧ w = w' := by
  go_enter Tryz.func117, Tryz.ntmps117
  go_wp2
  refine wp_loop_rounds 1 ?_
  rw [rounds_succ]
  go_wp2
  go_ret
  exact ⟨rfl, rfl⟩

def PostNum (w : World) (u : Value) (xs : List Nat) (e : Ending) (w' : World) : Prop :=
  ∃ v k, e = .returned v ∧ Trimmed xs k ∧ Sl w v (xs.take k) ∧ (∀ B, From B u → From B v) ∧ w = w'

/-- trim, at every slice of limbs. -/
theorem trim_any (w : World) (v : Value) (xs : List Nat) (hl : xs.length ≤ 1000000) (hs : Sl w v xs) :
    Calls Tryz.prog 117 #[v] w (PostNum w v xs) := by
  rcases hs.shape with ⟨rfl, rfl⟩ | ⟨b, off, cap, rfl, hb, hcap, hc⟩
  · refine (trim_nil w).mono ?_
    rintro e w' ⟨rfl, rfl⟩
    exact ⟨_, 0, rfl, ⟨Nat.le_refl _, fun j _ h => absurd h (by simp), fun h => by omega⟩, Sl.nil _, fun _ h => h, rfl⟩
  · refine (trim_some w b off cap xs hl hcap hc).mono ?_
    rintro e w' ⟨k, rfl, ht, rfl⟩
    have hlen : (xs.take k).length = k := by have := ht.1; simp; omega
    refine ⟨_, k, rfl, ht, ?_, fun _ h => h, rfl⟩
    have := Sl.mk (w := w) (b := b) (off := off) (cap := cap) (xs := xs.take k) hb (by have := ht.1; omega) (fun i hi => by rw [hlen] at hi; rw [lim_take _ _ _ hi]; exact hc i (by have := ht.1; omega))
    rw [hlen] at this
    exact this
end Nt
end Go.Proofs.YtmekiidknjjfcaaGreatDoor

/- slices.SortStableFunc as Prove calls it, for fewer than 80 elements. -/
import Derived.Test.YtmekiidknjjfcaaGreatDoorCoB
import Derived.Test.YtmekiidknjjfcaaGreatDoorStabStableM
namespace Go.Proofs.YtmekiidknjjfcaaGreatDoor
open Go.RowKit Go.Shelf Go.Sort
namespace Co
open Nt Ci St

set_option maxRecDepth 100000 in
theorem sortUpTo_80 : SortUpTo 80 := by
  intro rb b n bl cap o l w h0 h80 hl asc hcell hfr hbl hrb hrl hR n1 n2
  obtain ⟨m, rfl⟩ : ∃ m, n = m + 1 := ⟨n - 1, by have := hl l[0] (List.getElem_mem h0); omega⟩
  have hRo : Ro (fun x : Fin (m + 1) => x.val) w bl (arr l) := ⟨hbl, fun j hj => by
    have hj2 : j < l.length := by rwa [arr_size] at hj
    rw [hcell j hj2, arr_at hl hj2], fun j _ => hfr j⟩
  have hC : CmpOn Tryz.prog 31 #[.pointer (some ⟨rb, 0, none⟩)] (fun x : Fin (m + 1) => x.val) (fun x y => Lib.compareInt (o x.val) (o y.val)) bl w := fun W hW x y => by
    refine cmp_any rb b (m + 1) x.val y.val o W ?_ (Nat.lt_of_lt_of_le hrl hW.size) (hR.of_block hW.size (hW.block b hR.lt (by simpa using n2))) x.isLt y.isLt
    exact (World.cell?_of_block (a := ⟨rb, 0, none⟩) (hW.block rb hrl (by simpa using n1))).trans hrb
  have ks := stable_any (fun x : Fin (m + 1) => x.val) (fun x y => Lib.compareInt (o x.val) (o y.val)) 31 #[.pointer (some ⟨rb, 0, none⟩)] (enters_of Tryz.func31 (by kernel_rfl) rfl) (fun x : Fin (m + 1) => o x.val) Fin.val (fun x y => cmp_lt (o x.val) (o y.val)) bl cap l.length (arr l) w hC hRo (arr_size l) h80 fun i j hij hj => by
    rw [arr_at hl hj, arr_at hl (by omega : i < l.length)]
    exact List.pairwise_iff_getElem.1 asc i j (by omega) hj hij
  have ks2 : Hid (Calls Tryz.prog 50 #[.slice (some ⟨bl, 0, none⟩) l.length cap, .int .i64 (l.length : Int), .func (.func 31) #[] #[.pointer (some ⟨rb, 0, none⟩)]] w fun e w' => e = .returned (.tuple #[]) ∧ (∃ l', Sorted o l l' ∧ ∀ j (hj : j < l'.length), w'.cell? ⟨bl, j, none⟩ = some (.int .i64 (l'[j] : Int))) ∧ Kp [bl] w w') := ks.mono fun e w' h => by
    obtain ⟨h1, ⟨d', ⟨hp, hs⟩, hO⟩, hk⟩ := h
    refine ⟨h1, ⟨d'.toList.map Fin.val, sorted_of hl asc hp hs, fun j hj => ?_⟩, hk⟩
    have hj2 : j < d'.size := by simpa using hj
    have h4 := hO.cell j hj2
    rw [getElem!_pos _ j hj2] at h4
    simpa using h4
  have hP : Hid (∀ e W, e = .returned (.tuple #[]) → (∃ l', Sorted o l l' ∧ ∀ j (hj : j < l'.length), W.cell? ⟨bl, j, none⟩ = some (.int .i64 (l'[j] : Int))) → Kp [bl] w W → SortPost o bl l w e W) := fun e W h1 h2 h3 => ⟨h1, h2, h3⟩
  clear hRo hC ks hcell hfr hrb hR asc hl
  go_enter Tryz.func30, Tryz.ntmps30
  go_wp2_with fail
  refine ks2.out.mono ?_
  rintro e w2 ⟨rfl, h1, h2⟩
  replace h1 := Lib.hid h1
  replace h2 := Lib.hid h2
  go_wp2
  go_end0
  exact hP.out _ _ rfl h1.out h2.out
end Co
end Go.Proofs.YtmekiidknjjfcaaGreatDoor

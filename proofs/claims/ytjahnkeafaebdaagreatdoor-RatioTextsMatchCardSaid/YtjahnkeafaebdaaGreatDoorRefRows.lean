/- Rows of ints that the reference makes, and the text of digits. -/
import Derived.Test.YtjahnkeafaebdaaGreatDoorRefText
import Derived.Test.YtjahnkeafaebdaaGreatDoorNatBytes
import Derived.Deep.OwnRows
namespace Go.Proofs.YtjahnkeafaebdaaGreatDoor
open Go.RowKit Go.Shelf
namespace Nt

theorem infoI : (Tryz.prog.info? 3).map (fun i => (i.zero, i.size, i.bytes)) = some (some (.int .i64 0), 1, 8) := by kernel_rfl

/-- The cells of ints. -/
def ivals (ds : List Nat) : List Value := ds.map fun d : Nat => Value.int .i64 (d : Int)
theorem ivals_snoc (ds : List Nat) (d : Nat) : ivals ds ++ [Value.int .i64 (d : Int)] = ivals (ds ++ [d]) := by simp [ivals]
theorem ivals_len (ds : List Nat) : (ivals ds).length = ds.length := by simp [ivals]

/-- A row of ints of the call's own, which may grow. -/
def OwnI (B : Nat) (w : World) (v : Value) (ds : List Nat) : Prop := w.ownsRow B 3 1 v ds.length (ivals ds)

/-- A slice of ints, all in a block of memory. -/
def IntsAt (w : World) (v : Value) (ds : List Nat) : Prop :=
  ∃ g off cap, v = .slice (some ⟨g, off, none⟩) ds.length cap ∧ g < w.heap.size ∧ ∀ i, i < ds.length → w.cell? ⟨g, off + i, none⟩ = some (.int .i64 (lim ds i))

theorem OwnI.at {B : Nat} {w : World} {v : Value} {ds : List Nat} (h : OwnI B w v ds) (h0 : ds ≠ []) : IntsAt w v ds := by
  rcases id h.2 with ⟨rfl, hx⟩ | ⟨g, cap, cur, rfl, hg, hh, hn, hcm, hcs, ht⟩
  · exact absurd (List.length_eq_zero_iff.1 hx) h0
  · refine ⟨g, 0, cap, rfl, (Array.getElem?_eq_some_iff.1 hh).1, fun i hi => ?_⟩
    rw [Nat.zero_add, World.ownsRow.cellAt h i (by omega)]
    simp [ivals, lim, hi]

/-- A block of memory that holds bytes, all of it. -/
def RowB (w : World) (g : Nat) (bs : List UInt8) : Prop := w.heap[g]? = some (.cells (bs.map fun c : UInt8 => Value.int .u8 (c.toNat : Int)).toArray 5 (0, 0))
theorem RowB.frozen {w : World} {g : Nat} {bs : List UInt8} (h : RowB w g bs) (i : Nat) : w.frozen? ⟨g, i, none⟩ = false := by
  unfold RowB at h
  simp [World.frozen?, h]
theorem RowB.cell {w : World} {g : Nat} {bs : List UInt8} (h : RowB w g bs) {i : Nat} (hi : i < bs.length) : w.cell? ⟨g, i, none⟩ = some (.int .u8 (bs[i].toNat : Int)) := by
  unfold RowB at h
  simp only [World.cell?, h]
  simp [hi]
theorem RowB.set {w : World} {g : Nat} {bs : List UInt8} (h : RowB w g bs) (i : Nat) (c : UInt8) : RowB (w.setCell ⟨g, i, none⟩ (.int .u8 (c.toNat : Int))) g (bs.set i c) := by
  unfold RowB at h ⊢
  simp only [World.setCell, Array.getElem?_modify, h]
  simp [List.map_set]
theorem madeZeroB (n : Nat) : madeCells #[.int .u8 0] n = ((List.replicate n (0 : UInt8)).map fun c : UInt8 => Value.int .u8 (c.toNat : Int)).toArray := by
  unfold madeCells
  apply Array.ext
  · simp
  · intro i h1 h2
    have e : i % 1 = 0 := Nat.mod_one i
    simp [e]
theorem RowB.made0 (w : World) (n : Nat) : RowB (w.alloc (.cells (madeCells #[.int .u8 0] n) 5)) w.heap.size (List.replicate n 0) := by
  unfold RowB
  rw [heap_alloc_new, madeZeroB]
theorem RowB.text {w : World} {g : Nat} {bs : List UInt8} (h : RowB w g bs) : (convert 96 9 (.slice (some ⟨g, 0, none⟩) bs.length bs.length)).run Tryz.prog w = .ok (.string ⟨bs.toArray⟩) w := by
  have := run_convert_bytes_arg (P := Tryz.prog) w 96 5 Tryz.underlying96 Tryz.underlying5 g 0 bs.length bs.length (bs.map fun c => (c.toNat : Int)) (by simp)
    (fun i hi => by rw [Nat.zero_add, h.cell hi]; simp [hi]) 9 Tryz.underlying9
  rw [this]
  have e : (bs.map ((fun n : Int => UInt8.ofNat n.toNat) ∘ fun c : UInt8 => (c.toNat : Int))) = bs := by
    conv => rhs; rw [← List.map_id bs]
    exact List.map_congr_left fun c _ => by simp
  simp only [strOfNums, List.map_map, e]

theorem run_make_bytes (n : Nat) (hn : n ≤ 1000000) (w : World) :
    (Instr.makeSlice 96 (.int .i64 (n : Int)) (.int .i64 (n : Int))).run Tryz.prog w =
      .ok (.slice (some ⟨w.heap.size, 0, none⟩) n n) (w.alloc (.cells (madeCells #[.int .u8 0] n) 5)) :=
  run_make_row' 96 5 (.int .u8 0) 1 Tryz.underlying96 infoB rfl .i64 .i64 n (by omega) (by omega) w

/-- The bytes while the text is being filled in from behind. -/
def fillB (ds : List Nat) (k : Nat) : List UInt8 := List.replicate (ds.length - k) 0 ++ dbytes (ds.take k)
theorem fillB_len (ds : List Nat) (k : Nat) (h : k ≤ ds.length) : (fillB ds k).length = ds.length := by simp [fillB, dbytes_len]; omega
theorem fillB_zero (ds : List Nat) : fillB ds 0 = List.replicate ds.length 0 := by simp [fillB, dbytes]
theorem fillB_all (ds : List Nat) : fillB ds ds.length = dbytes ds := by simp [fillB]
theorem dbytes_snoc (ds : List Nat) (d : Nat) : dbytes (ds ++ [d]) = UInt8.ofNat (48 + d) :: dbytes ds := by simp [dbytes]
theorem fillB_step (ds : List Nat) (k : Nat) (h : k < ds.length) : (fillB ds k).set (ds.length - 1 - k) (UInt8.ofNat (48 + lim ds k)) = fillB ds (k + 1) := by
  unfold fillB
  rw [List.take_succ_eq_append_getElem h, dbytes_snoc, lim_lt _ _ h]
  have e : ds.length - k = (ds.length - (k + 1)) + 1 := by omega
  rw [e, List.replicate_succ', List.append_assoc]
  have e2 : ds.length - 1 - k = (List.replicate (ds.length - (k + 1)) (0 : UInt8)).length := by simp; omega
  rw [e2, List.set_append_right _ _ (Nat.le_refl _)]
  simp

def TextRel (w : World) (ds : List Nat) (k : Nat) (wr : World) : Prop := RowB wr w.heap.size (fillB ds k) ∧ Below w.heap.size w wr

set_option maxRecDepth 100000 in
set_option maxHeartbeats 1000000 in
theorem reftext_any (w : World) (v : Value) (ds : List Nat) (h : IntsAt w v ds) (h0 : 0 < ds.length) (hl : ds.length ≤ 100000) (hd : ∀ d ∈ ds, d < 10) :
    Calls Tryz.prog 121 #[v] w fun e w' => e = .returned (.string (num (dv ds))) ∧ Below w.heap.size w w' := by
  obtain ⟨g, off, cap, rfl, hg, hc⟩ := h
  have hmk := run_make_bytes ds.length (by omega)
  have HD := Lib.hid hd
  have HC := Lib.hid hc
  have HV : Hid (dval (dbytes ds) = dv ds) := dval_dbytes hd
  clear hd hc
  go_enter Tryz.func121, Tryz.ntmps121
  go_wp2
  go_loopw [4] (fun i wr => ∃ k : Nat, k ≤ ds.length ∧ i = .int .i64 (k : Int) ∧ TextRel w ds k wr) (fun i _ => ds.length - (intOf i).toNat)
  case atStart => exact ⟨0, Nat.zero_le _, rfl, by rw [fillB_zero]; exact RowB.made0 _ _, (Below.refl _ _).alloc (Nat.le_refl _) _⟩
  case round =>
    obtain ⟨k, hk, rfl, z1, z2⟩ := hrel
    have hsz := z2.size
    by_cases hlt : k < ds.length
    · have hck := (z2.cell (p := ⟨g, off + k, none⟩) hg).trans (HC.out k hlt)
      have hdk : lim ds k < 10 := by rw [lim_lt _ _ hlt]; exact HD.out _ (List.getElem_mem _)
      have hj : (ds.length : Int) - 1 - (k : Int) = ((ds.length - 1 - k : Nat) : Int) := by omega
      have hjl : ds.length - 1 - k < ds.length := by omega
      have hcell := z1.cell (i := ds.length - 1 - k) (by rw [fillB_len _ _ hk]; omega)
      have hfz := z1.frozen (ds.length - 1 - k)
      have HS : Hid (RowB (wr.setCell ⟨w.heap.size, ds.length - 1 - k, none⟩ (.int .u8 (48 + (lim ds k : Int)))) w.heap.size (fillB ds (k + 1))) := by
        have := z1.set (ds.length - 1 - k) (UInt8.ofNat (48 + lim ds k))
        rw [fillB_step _ _ hlt, toNat_dig _ hdk] at this
        have e : ((48 + lim ds k : Nat) : Int) = 48 + (lim ds k : Int) := by omega
        rw [e] at this
        exact this
      replace z2 := Lib.hid z2
      clear z1 hmk
      go_wp2
      go_roundw
      case rel => exact ⟨k + 1, by omega, by go_num, HS.out, z2.out.setCell (Nat.le_refl _) _⟩
      case measure => simp [intOf]; omega
    · obtain rfl : k = ds.length := by omega
      rw [fillB_all] at z1
      have ht := z1.text
      rw [dbytes_len] at ht
      replace z2 := Lib.hid z2
      clear z1 hmk
      go_wp2_with fail
      refine (reftrim_any ⟨(dbytes ds).toArray⟩ _ (by have := dbytes_len ds; simp [ByteArray.size]; omega) (by have := dbytes_len ds; simp [ByteArray.size]; omega) (by simpa using dbytes_dig HD.out)).mono ?_
      rintro e w' ⟨rfl, rfl⟩
      go_wp2
      go_ret
      exact ⟨ret_str (by rw [← HV.out]), z2.out⟩

end Nt
end Go.Proofs.YtjahnkeafaebdaaGreatDoor

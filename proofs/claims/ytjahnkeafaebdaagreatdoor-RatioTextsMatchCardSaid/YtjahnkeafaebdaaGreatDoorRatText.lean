/- ratio's Parse, and what the functions of this package ask of a world. -/
import Derived.Test.YtjahnkeafaebdaaGreatDoorRatOf
import Derived.Lib.IndexMore
namespace Go.Proofs.YtjahnkeafaebdaaGreatDoor
open Go.RowKit Go.Shelf
namespace Nt

/-- What the functions of this package ask of a world. -/
def REnv (w : World) : Prop := Env w ∧ ∃ m : Int, w.cell? ⟨2, 0, none⟩ = some (.int .i64 m)
theorem REnv.lt {w : World} (h : REnv w) : 2 < w.heap.size := by
  obtain ⟨_, m, hm⟩ := h
  exact World.block_lt_of_cell? w _ hm
theorem REnv.below {w w' : World} (h : REnv w) (hb : Below w.heap.size w w') : REnv w' := by
  have hl := h.lt
  obtain ⟨h1, m, hm⟩ := h
  exact ⟨h1.below hb, m, (hb.cell (p := ⟨2, 0, none⟩) hl).trans hm⟩

def pneg (t : ByteArray) : Bool := Lib.hasPrefix t.data.toList [45]
def pdig (t : ByteArray) : List UInt8 := Lib.trimPrefix t.data.toList [45]
def pnum (t : ByteArray) : ByteArray := ⟨(Lib.cut (pdig t) [47]).1.toArray⟩
def pis (t : ByteArray) : Bool := (Lib.cut (pdig t) [47]).2.2
def pden0 (t : ByteArray) : ByteArray := ⟨(Lib.cut (pdig t) [47]).2.1.toArray⟩
def pden (t : ByteArray) : ByteArray := if pis t then pden0 t else ⟨#[49]⟩
def pok (t : ByteArray) : Bool := !(pis t && (pden0 t).toList == [49]) && validB (pneg t) (pnum t) (pden t)

theorem cut_len (l : List UInt8) : (Lib.cut l [47]).1.length ≤ l.length ∧ (Lib.cut l [47]).2.1.length ≤ l.length := by
  unfold Lib.cut
  split
  · exact ⟨by simp; omega, by simp⟩
  · exact ⟨Nat.le_refl _, Nat.zero_le _⟩
theorem pdig_len (t : ByteArray) : (pdig t).length ≤ t.size := by
  unfold pdig Lib.trimPrefix
  rw [Lib.size_eq]
  split
  · simp
  · exact Nat.le_refl _

theorem cutp_any (t : ByteArray) (w : World) : Calls Tryz.prog 63 #[.string t, .string ⟨#[45]⟩] w fun e w' => e = .returned (.tuple #[.string ⟨(pdig t).toArray⟩, .bool (pneg t)]) ∧ w = w' :=
  (Tryz.strings_CutPrefix t ⟨#[45]⟩ w).mono fun _ _ h => ⟨h.1, h.2.symm⟩
theorem cut_any (t : ByteArray) (w : World) (hE : REnv w) (ht : t.size ≤ 1000000) : Calls Tryz.prog 64 #[.string ⟨(pdig t).toArray⟩, .string ⟨#[47]⟩] w fun e w' => e = .returned (.tuple #[.string (pnum t), .string (pden0 t), .bool (pis t)]) ∧ Below w.heap.size w w' := by
  obtain ⟨m, hm⟩ := hE.2
  have hl := pdig_len t
  refine (Tryz.strings_Cut ⟨(pdig t).toArray⟩ ⟨#[47]⟩ m w (by simp [ByteArray.size]; omega) hm).mono ?_
  rintro e w' ⟨rfl, k, rfl⟩
  exact ⟨rfl, blw_drewN (Below.refl _ _) k⟩

theorem two_below (w : World) (o1 o2 : Obj) : Below w.heap.size w ((w.alloc o1).alloc o2) := ((Below.refl _ w).alloc (Nat.le_refl _) _).alloc (by simp) _

set_option maxRecDepth 100000 in
set_option maxHeartbeats 2000000 in
theorem Parse_at (t : ByteArray) (w : World) (hE : REnv w) (ht : t.size ≤ 1000000) (his : pis t = false) (hv : validB (pneg t) (pnum t) ⟨#[49]⟩ = true) :
    Calls Tryz.prog 30 #[.string t] w fun e w' => e = .returned (.tuple #[.agg #[.bool (pneg t), .string (pnum t), .string ⟨#[49]⟩], .int .i64 0]) ∧ Below w.heap.size w w' := by
  have hsz : (pnum t).size ≤ 1000000 ∧ (pden0 t).size ≤ 1000000 := by
    have h1 := pdig_len t
    have h2 := cut_len (pdig t)
    exact ⟨by simp [pnum, ByteArray.size]; omega, by simp [pden0, ByteArray.size]; omega⟩
  have c1 := fun W => cutp_any t W
  have c2 := fun W (h : REnv W) => cut_any t W h ht
  replace hE := Lib.hid hE
  replace his := Lib.hid his
  replace hv := Lib.hid hv
  generalize hn : pnum t = n at *
  generalize hd0 : pden0 t = d0 at *
  generalize hg : pneg t = g at *
  clear hn hd0 hg
  go_enter Tryz.func30, Tryz.ntmps30
  go_wp2_with fail
  refine (c1 _).mono ?_
  rintro e w1 ⟨rfl, rfl⟩
  go_wp2_with fail
  refine (c2 _ (hE.out.below (two_below _ _ _))).mono ?_
  rintro e w1 ⟨rfl, hb1⟩
  rw [his.out]
  have q1 := ((B3.new w false ⟨#[]⟩ ⟨#[]⟩).alloc (.cells #[.bool false, .string ⟨#[]⟩, .string ⟨#[]⟩] 23)).below hb1
  have r1 := (B3.new (w.alloc (.cells #[.bool false, .string ⟨#[]⟩, .string ⟨#[]⟩] 23)) false ⟨#[]⟩ ⟨#[]⟩).below hb1
  have es : (w.alloc (.cells #[.bool false, .string ⟨#[]⟩, .string ⟨#[]⟩] 23)).heap.size = w.heap.size + 1 := by simp
  rw [es] at r1
  have hB1 := Lib.hid ((two_below w (.cells #[.bool false, .string ⟨#[]⟩, .string ⟨#[]⟩] 23) (.cells #[.bool false, .string ⟨#[]⟩, .string ⟨#[]⟩] 23)).trans (hb1.mono (by simp; omega)))
  obtain ⟨a1, a2, a3, a4, a5, a6⟩ := q1.facts
  obtain ⟨b1, b2, b3, b4, b5, b6⟩ := r1.facts
  have hz1 := r1.lt
  clear hb1 es
  replace q1 := Lib.hid q1
  replace r1 := Lib.hid r1
  go_wp2_with fail
  refine (Valid_any g n ⟨#[49]⟩ _ (hE.out.below (((hB1.out.setCell (p := ⟨w.heap.size + 1, 0, none⟩) (by simp) _).setCell (p := ⟨w.heap.size + 1, 1, none⟩) (by simp) _).setCell (p := ⟨w.heap.size + 1, 2, none⟩) (by simp) _)).1 (by omega) (by decide)).mono ?_
  rintro e w2 ⟨rfl, hb2⟩
  rw [hv.out]
  have q2 := (((q1.out.other (p := ⟨w.heap.size + 1, 0, none⟩) (by simp) _).other (p := ⟨w.heap.size + 1, 1, none⟩) (by simp) _).other (p := ⟨w.heap.size + 1, 2, none⟩) (by simp) _).below hb2
  have r2 := (((r1.out.set0 g).set1 n).set2 ⟨#[49]⟩).below hb2
  have hB2 := Lib.hid ((((hB1.out.setCell (p := ⟨w.heap.size + 1, 0, none⟩) (by simp) (.bool g)).setCell (p := ⟨w.heap.size + 1, 1, none⟩) (by simp) (.string n)).setCell (p := ⟨w.heap.size + 1, 2, none⟩) (by simp) (.string ⟨#[49]⟩)).trans (hb2.mono (by have := hB1.out.size; simp; omega)))
  clear a1 a2 a3 a4 a5 a6 b1 b2 b3 b4 b5 b6 hb2
  obtain ⟨a1, a2, a3, a4, a5, a6⟩ := q2.facts
  obtain ⟨b1, b2, b3, b4, b5, b6⟩ := r2.facts
  have hz2 := r2.lt
  replace q2 := Lib.hid q2
  replace r2 := Lib.hid r2
  go_wp2
  refine bodyPost_ret (v := .tuple #[.agg #[.bool g, .string n, .string ⟨#[49]⟩], .int .i64 0]) (by simp [results, Tryz.results30, go_sem, a1, a2, a3]) rfl ⟨rfl, ?_⟩
  repeat refine Below.setCell ?_ (by simp only []; omega) _
  exact hB2.out

set_option maxRecDepth 100000 in
set_option maxHeartbeats 2000000 in
theorem Parse_af (t : ByteArray) (w : World) (hE : REnv w) (ht : t.size ≤ 1000000) (his : pis t = false) (hv : validB (pneg t) (pnum t) ⟨#[49]⟩ = false) :
    Calls Tryz.prog 30 #[.string t] w fun e w' => e = .returned (.tuple #[.agg #[.bool false, .string ⟨#[]⟩, .string ⟨#[]⟩], .int .i64 5]) ∧ Below w.heap.size w w' := by
  have hsz : (pnum t).size ≤ 1000000 ∧ (pden0 t).size ≤ 1000000 := by
    have h1 := pdig_len t
    have h2 := cut_len (pdig t)
    exact ⟨by simp [pnum, ByteArray.size]; omega, by simp [pden0, ByteArray.size]; omega⟩
  have c1 := fun W => cutp_any t W
  have c2 := fun W (h : REnv W) => cut_any t W h ht
  replace hE := Lib.hid hE
  replace his := Lib.hid his
  replace hv := Lib.hid hv
  generalize hn : pnum t = n at *
  generalize hd0 : pden0 t = d0 at *
  generalize hg : pneg t = g at *
  clear hn hd0 hg
  go_enter Tryz.func30, Tryz.ntmps30
  go_wp2_with fail
  refine (c1 _).mono ?_
  rintro e w1 ⟨rfl, rfl⟩
  go_wp2_with fail
  refine (c2 _ (hE.out.below (two_below _ _ _))).mono ?_
  rintro e w1 ⟨rfl, hb1⟩
  rw [his.out]
  have q1 := ((B3.new w false ⟨#[]⟩ ⟨#[]⟩).alloc (.cells #[.bool false, .string ⟨#[]⟩, .string ⟨#[]⟩] 23)).below hb1
  have r1 := (B3.new (w.alloc (.cells #[.bool false, .string ⟨#[]⟩, .string ⟨#[]⟩] 23)) false ⟨#[]⟩ ⟨#[]⟩).below hb1
  have es : (w.alloc (.cells #[.bool false, .string ⟨#[]⟩, .string ⟨#[]⟩] 23)).heap.size = w.heap.size + 1 := by simp
  rw [es] at r1
  have hB1 := Lib.hid ((two_below w (.cells #[.bool false, .string ⟨#[]⟩, .string ⟨#[]⟩] 23) (.cells #[.bool false, .string ⟨#[]⟩, .string ⟨#[]⟩] 23)).trans (hb1.mono (by simp; omega)))
  obtain ⟨a1, a2, a3, a4, a5, a6⟩ := q1.facts
  obtain ⟨b1, b2, b3, b4, b5, b6⟩ := r1.facts
  have hz1 := r1.lt
  clear hb1 es
  replace q1 := Lib.hid q1
  replace r1 := Lib.hid r1
  go_wp2_with fail
  refine (Valid_any g n ⟨#[49]⟩ _ (hE.out.below (((hB1.out.setCell (p := ⟨w.heap.size + 1, 0, none⟩) (by simp) _).setCell (p := ⟨w.heap.size + 1, 1, none⟩) (by simp) _).setCell (p := ⟨w.heap.size + 1, 2, none⟩) (by simp) _)).1 (by omega) (by decide)).mono ?_
  rintro e w2 ⟨rfl, hb2⟩
  rw [hv.out]
  have q2 := (((q1.out.other (p := ⟨w.heap.size + 1, 0, none⟩) (by simp) _).other (p := ⟨w.heap.size + 1, 1, none⟩) (by simp) _).other (p := ⟨w.heap.size + 1, 2, none⟩) (by simp) _).below hb2
  have r2 := (((r1.out.set0 g).set1 n).set2 ⟨#[49]⟩).below hb2
  have hB2 := Lib.hid ((((hB1.out.setCell (p := ⟨w.heap.size + 1, 0, none⟩) (by simp) (.bool g)).setCell (p := ⟨w.heap.size + 1, 1, none⟩) (by simp) (.string n)).setCell (p := ⟨w.heap.size + 1, 2, none⟩) (by simp) (.string ⟨#[49]⟩)).trans (hb2.mono (by have := hB1.out.size; simp; omega)))
  clear a1 a2 a3 a4 a5 a6 b1 b2 b3 b4 b5 b6 hb2
  obtain ⟨a1, a2, a3, a4, a5, a6⟩ := q2.facts
  obtain ⟨b1, b2, b3, b4, b5, b6⟩ := r2.facts
  have hz2 := r2.lt
  replace q2 := Lib.hid q2
  replace r2 := Lib.hid r2
  go_wp2
  refine bodyPost_ret (v := .tuple #[.agg #[.bool false, .string ⟨#[]⟩, .string ⟨#[]⟩], .int .i64 5]) (by simp [results, Tryz.results30, go_sem, a1, a2, a3]) rfl ⟨rfl, ?_⟩
  repeat refine Below.setCell ?_ (by simp only []; omega) _
  exact hB2.out

set_option maxRecDepth 100000 in
set_option maxHeartbeats 2000000 in
theorem Parse_b (t : ByteArray) (w : World) (hE : REnv w) (ht : t.size ≤ 1000000) (his : pis t = true) (hd : ((pden0 t).toList == [49]) = true) :
    Calls Tryz.prog 30 #[.string t] w fun e w' => e = .returned (.tuple #[.agg #[.bool false, .string ⟨#[]⟩, .string ⟨#[]⟩], .int .i64 5]) ∧ Below w.heap.size w w' := by
  have hsz : (pnum t).size ≤ 1000000 ∧ (pden0 t).size ≤ 1000000 := by
    have h1 := pdig_len t
    have h2 := cut_len (pdig t)
    exact ⟨by simp [pnum, ByteArray.size]; omega, by simp [pden0, ByteArray.size]; omega⟩
  have c1 := fun W => cutp_any t W
  have c2 := fun W (h : REnv W) => cut_any t W h ht
  replace hE := Lib.hid hE
  replace his := Lib.hid his
  generalize hn : pnum t = n at *
  generalize hd0 : pden0 t = d0 at *
  generalize hg : pneg t = g at *
  clear hn hd0 hg
  go_enter Tryz.func30, Tryz.ntmps30
  go_wp2_with fail
  refine (c1 _).mono ?_
  rintro e w1 ⟨rfl, rfl⟩
  go_wp2_with fail
  refine (c2 _ (hE.out.below (two_below _ _ _))).mono ?_
  rintro e w1 ⟨rfl, hb1⟩
  rw [his.out]
  have q1 := ((B3.new w false ⟨#[]⟩ ⟨#[]⟩).alloc (.cells #[.bool false, .string ⟨#[]⟩, .string ⟨#[]⟩] 23)).below hb1
  have r1 := (B3.new (w.alloc (.cells #[.bool false, .string ⟨#[]⟩, .string ⟨#[]⟩] 23)) false ⟨#[]⟩ ⟨#[]⟩).below hb1
  have es : (w.alloc (.cells #[.bool false, .string ⟨#[]⟩, .string ⟨#[]⟩] 23)).heap.size = w.heap.size + 1 := by simp
  rw [es] at r1
  have hB1 := Lib.hid ((two_below w (.cells #[.bool false, .string ⟨#[]⟩, .string ⟨#[]⟩] 23) (.cells #[.bool false, .string ⟨#[]⟩, .string ⟨#[]⟩] 23)).trans (hb1.mono (by simp; omega)))
  obtain ⟨a1, a2, a3, a4, a5, a6⟩ := q1.facts
  obtain ⟨b1, b2, b3, b4, b5, b6⟩ := r1.facts
  have hz1 := r1.lt
  clear hb1 es
  replace q1 := Lib.hid q1
  replace r1 := Lib.hid r1
  go_wp2
  refine bodyPost_ret (v := .tuple #[.agg #[.bool false, .string ⟨#[]⟩, .string ⟨#[]⟩], .int .i64 5]) (by simp [results, Tryz.results30, go_sem, a1, a2, a3]) rfl ⟨rfl, ?_⟩
  repeat refine Below.setCell ?_ (by simp only []; omega) _
  exact hB1.out

set_option maxRecDepth 100000 in
set_option maxHeartbeats 2000000 in
theorem Parse_ct (t : ByteArray) (w : World) (hE : REnv w) (ht : t.size ≤ 1000000) (his : pis t = true) (hd : ((pden0 t).toList == [49]) = false) (hv : validB (pneg t) (pnum t) (pden0 t) = true) :
    Calls Tryz.prog 30 #[.string t] w fun e w' => e = .returned (.tuple #[.agg #[.bool (pneg t), .string (pnum t), .string (pden0 t)], .int .i64 0]) ∧ Below w.heap.size w w' := by
  have hsz : (pnum t).size ≤ 1000000 ∧ (pden0 t).size ≤ 1000000 := by
    have h1 := pdig_len t
    have h2 := cut_len (pdig t)
    exact ⟨by simp [pnum, ByteArray.size]; omega, by simp [pden0, ByteArray.size]; omega⟩
  have c1 := fun W => cutp_any t W
  have c2 := fun W (h : REnv W) => cut_any t W h ht
  replace hE := Lib.hid hE
  replace his := Lib.hid his
  replace hv := Lib.hid hv
  generalize hn : pnum t = n at *
  generalize hd0 : pden0 t = d0 at *
  generalize hg : pneg t = g at *
  clear hn hd0 hg
  go_enter Tryz.func30, Tryz.ntmps30
  go_wp2_with fail
  refine (c1 _).mono ?_
  rintro e w1 ⟨rfl, rfl⟩
  go_wp2_with fail
  refine (c2 _ (hE.out.below (two_below _ _ _))).mono ?_
  rintro e w1 ⟨rfl, hb1⟩
  rw [his.out]
  have q1 := ((B3.new w false ⟨#[]⟩ ⟨#[]⟩).alloc (.cells #[.bool false, .string ⟨#[]⟩, .string ⟨#[]⟩] 23)).below hb1
  have r1 := (B3.new (w.alloc (.cells #[.bool false, .string ⟨#[]⟩, .string ⟨#[]⟩] 23)) false ⟨#[]⟩ ⟨#[]⟩).below hb1
  have es : (w.alloc (.cells #[.bool false, .string ⟨#[]⟩, .string ⟨#[]⟩] 23)).heap.size = w.heap.size + 1 := by simp
  rw [es] at r1
  have hB1 := Lib.hid ((two_below w (.cells #[.bool false, .string ⟨#[]⟩, .string ⟨#[]⟩] 23) (.cells #[.bool false, .string ⟨#[]⟩, .string ⟨#[]⟩] 23)).trans (hb1.mono (by simp; omega)))
  obtain ⟨a1, a2, a3, a4, a5, a6⟩ := q1.facts
  obtain ⟨b1, b2, b3, b4, b5, b6⟩ := r1.facts
  have hz1 := r1.lt
  clear hb1 es
  replace q1 := Lib.hid q1
  replace r1 := Lib.hid r1
  go_wp2_with fail
  refine (Valid_any g n d0 _ (hE.out.below (((hB1.out.setCell (p := ⟨w.heap.size + 1, 0, none⟩) (by simp) _).setCell (p := ⟨w.heap.size + 1, 1, none⟩) (by simp) _).setCell (p := ⟨w.heap.size + 1, 2, none⟩) (by simp) _)).1 (by omega) (by omega)).mono ?_
  rintro e w2 ⟨rfl, hb2⟩
  rw [hv.out]
  have q2 := (((q1.out.other (p := ⟨w.heap.size + 1, 0, none⟩) (by simp) _).other (p := ⟨w.heap.size + 1, 1, none⟩) (by simp) _).other (p := ⟨w.heap.size + 1, 2, none⟩) (by simp) _).below hb2
  have r2 := (((r1.out.set0 g).set1 n).set2 d0).below hb2
  have hB2 := Lib.hid ((((hB1.out.setCell (p := ⟨w.heap.size + 1, 0, none⟩) (by simp) (.bool g)).setCell (p := ⟨w.heap.size + 1, 1, none⟩) (by simp) (.string n)).setCell (p := ⟨w.heap.size + 1, 2, none⟩) (by simp) (.string d0)).trans (hb2.mono (by have := hB1.out.size; simp; omega)))
  clear a1 a2 a3 a4 a5 a6 b1 b2 b3 b4 b5 b6 hb2
  obtain ⟨a1, a2, a3, a4, a5, a6⟩ := q2.facts
  obtain ⟨b1, b2, b3, b4, b5, b6⟩ := r2.facts
  have hz2 := r2.lt
  replace q2 := Lib.hid q2
  replace r2 := Lib.hid r2
  go_wp2
  refine bodyPost_ret (v := .tuple #[.agg #[.bool g, .string n, .string d0], .int .i64 0]) (by simp [results, Tryz.results30, go_sem, a1, a2, a3]) rfl ⟨rfl, ?_⟩
  repeat refine Below.setCell ?_ (by simp only []; omega) _
  exact hB2.out

set_option maxRecDepth 100000 in
set_option maxHeartbeats 2000000 in
theorem Parse_cf (t : ByteArray) (w : World) (hE : REnv w) (ht : t.size ≤ 1000000) (his : pis t = true) (hd : ((pden0 t).toList == [49]) = false) (hv : validB (pneg t) (pnum t) (pden0 t) = false) :
    Calls Tryz.prog 30 #[.string t] w fun e w' => e = .returned (.tuple #[.agg #[.bool false, .string ⟨#[]⟩, .string ⟨#[]⟩], .int .i64 5]) ∧ Below w.heap.size w w' := by
  have hsz : (pnum t).size ≤ 1000000 ∧ (pden0 t).size ≤ 1000000 := by
    have h1 := pdig_len t
    have h2 := cut_len (pdig t)
    exact ⟨by simp [pnum, ByteArray.size]; omega, by simp [pden0, ByteArray.size]; omega⟩
  have c1 := fun W => cutp_any t W
  have c2 := fun W (h : REnv W) => cut_any t W h ht
  replace hE := Lib.hid hE
  replace his := Lib.hid his
  replace hv := Lib.hid hv
  generalize hn : pnum t = n at *
  generalize hd0 : pden0 t = d0 at *
  generalize hg : pneg t = g at *
  clear hn hd0 hg
  go_enter Tryz.func30, Tryz.ntmps30
  go_wp2_with fail
  refine (c1 _).mono ?_
  rintro e w1 ⟨rfl, rfl⟩
  go_wp2_with fail
  refine (c2 _ (hE.out.below (two_below _ _ _))).mono ?_
  rintro e w1 ⟨rfl, hb1⟩
  rw [his.out]
  have q1 := ((B3.new w false ⟨#[]⟩ ⟨#[]⟩).alloc (.cells #[.bool false, .string ⟨#[]⟩, .string ⟨#[]⟩] 23)).below hb1
  have r1 := (B3.new (w.alloc (.cells #[.bool false, .string ⟨#[]⟩, .string ⟨#[]⟩] 23)) false ⟨#[]⟩ ⟨#[]⟩).below hb1
  have es : (w.alloc (.cells #[.bool false, .string ⟨#[]⟩, .string ⟨#[]⟩] 23)).heap.size = w.heap.size + 1 := by simp
  rw [es] at r1
  have hB1 := Lib.hid ((two_below w (.cells #[.bool false, .string ⟨#[]⟩, .string ⟨#[]⟩] 23) (.cells #[.bool false, .string ⟨#[]⟩, .string ⟨#[]⟩] 23)).trans (hb1.mono (by simp; omega)))
  obtain ⟨a1, a2, a3, a4, a5, a6⟩ := q1.facts
  obtain ⟨b1, b2, b3, b4, b5, b6⟩ := r1.facts
  have hz1 := r1.lt
  clear hb1 es
  replace q1 := Lib.hid q1
  replace r1 := Lib.hid r1
  go_wp2_with fail
  refine (Valid_any g n d0 _ (hE.out.below (((hB1.out.setCell (p := ⟨w.heap.size + 1, 0, none⟩) (by simp) _).setCell (p := ⟨w.heap.size + 1, 1, none⟩) (by simp) _).setCell (p := ⟨w.heap.size + 1, 2, none⟩) (by simp) _)).1 (by omega) (by omega)).mono ?_
  rintro e w2 ⟨rfl, hb2⟩
  rw [hv.out]
  have q2 := (((q1.out.other (p := ⟨w.heap.size + 1, 0, none⟩) (by simp) _).other (p := ⟨w.heap.size + 1, 1, none⟩) (by simp) _).other (p := ⟨w.heap.size + 1, 2, none⟩) (by simp) _).below hb2
  have r2 := (((r1.out.set0 g).set1 n).set2 d0).below hb2
  have hB2 := Lib.hid ((((hB1.out.setCell (p := ⟨w.heap.size + 1, 0, none⟩) (by simp) (.bool g)).setCell (p := ⟨w.heap.size + 1, 1, none⟩) (by simp) (.string n)).setCell (p := ⟨w.heap.size + 1, 2, none⟩) (by simp) (.string d0)).trans (hb2.mono (by have := hB1.out.size; simp; omega)))
  clear a1 a2 a3 a4 a5 a6 b1 b2 b3 b4 b5 b6 hb2
  obtain ⟨a1, a2, a3, a4, a5, a6⟩ := q2.facts
  obtain ⟨b1, b2, b3, b4, b5, b6⟩ := r2.facts
  have hz2 := r2.lt
  replace q2 := Lib.hid q2
  replace r2 := Lib.hid r2
  go_wp2
  refine bodyPost_ret (v := .tuple #[.agg #[.bool false, .string ⟨#[]⟩, .string ⟨#[]⟩], .int .i64 5]) (by simp [results, Tryz.results30, go_sem, a1, a2, a3]) rfl ⟨rfl, ?_⟩
  repeat refine Below.setCell ?_ (by simp only []; omega) _
  exact hB2.out

theorem Parse_any (t : ByteArray) (w : World) (hE : REnv w) (ht : t.size ≤ 1000000) :
    Calls Tryz.prog 30 #[.string t] w fun e w' => e = .returned (.tuple #[if pok t then .agg #[.bool (pneg t), .string (pnum t), .string (pden t)] else zv, .int .i64 (if pok t then 0 else 5)]) ∧ Below w.heap.size w w' := by
  unfold pok pden
  cases his : pis t with
  | false =>
    simp only [Bool.false_and, Bool.not_false, Bool.true_and, Bool.false_eq_true, if_false]
    cases hv : validB (pneg t) (pnum t) ⟨#[49]⟩ with
    | false => exact Parse_af t w hE ht his hv
    | true => exact Parse_at t w hE ht his hv
  | true =>
    simp only [Bool.true_and, if_true]
    cases hd : ((pden0 t).toList == [49]) with
    | true => exact Parse_b t w hE ht his hd
    | false =>
      simp only [Bool.not_false, Bool.true_and]
      cases hv : validB (pneg t) (pnum t) (pden0 t) with
      | false => exact Parse_cf t w hE ht his hd hv
      | true => exact Parse_ct t w hE ht his hd hv

end Nt
end Go.Proofs.YtjahnkeafaebdaaGreatDoor


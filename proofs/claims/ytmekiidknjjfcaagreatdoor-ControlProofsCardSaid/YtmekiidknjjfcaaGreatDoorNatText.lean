/- The walk of natural's text. -/
import Derived.Test.YtmekiidknjjfcaaGreatDoorNatBack
import Derived.Test.YtmekiidknjjfcaaGreatDoorNatFormat
import Derived.Test.YtmekiidknjjfcaaGreatDoorNatDigits
import Derived.Lib.OthersKept
namespace Go.Proofs.YtmekiidknjjfcaaGreatDoor
open Go.RowKit Go.Shelf
attribute [local go_sem] Oper.semAt_some
namespace Nt

/-- What a limb adds to the text. -/
def piece (xs : List Nat) (x : Place xs.length) : List UInt8 := if x.1 < xs.length - 1 then pad9 (lim xs x.1) else Lib.decDigits (lim xs x.1)
def txt (xs : List Nat) (pre : List (Place xs.length)) : List UInt8 := pre.foldl (fun a x => a ++ piece xs x) []
theorem txt_snoc (xs : List Nat) (pre : List (Place xs.length)) (x : Place xs.length) : txt xs (pre ++ [x]) = txt xs pre ++ piece xs x := by
  simp [txt, List.foldl_append]

theorem dec9 {x : Nat} (h : x < 1000000000) : (Lib.decDigits x).length ≤ 9 := decDigits_len (by simpa using h) (by omega)

theorem piece_len {xs : List Nat} (hx : InR xs) (x : Place xs.length) : (piece xs x).length ≤ 9 := by
  unfold piece
  split
  · rw [pad9_len (hx.lim _)]; omega
  · exact dec9 (hx.lim _)

theorem txt_len {xs : List Nat} (hx : InR xs) (pre : List (Place xs.length)) : (txt xs pre).length ≤ 9 * pre.length := by
  have key : ∀ (pre : List (Place xs.length)) (a : List UInt8), (pre.foldl (fun a x => a ++ piece xs x) a).length ≤ a.length + 9 * pre.length := by
    intro pre
    induction pre with
    | nil => intro a; simp
    | cons x pre ih =>
      intro a
      have h1 := ih (a ++ piece xs x)
      have h2 := piece_len hx x
      simp only [List.foldl_cons, List.length_cons, List.length_append] at h1 ⊢
      omega
  have := key pre []
  simpa [txt] using this

/-- The text of a canonical number that is not 0. -/
theorem txt_back {xs : List Nat} (hx : Canon xs) (_h0 : xs ≠ []) (k : Nat) (hk : k < xs.length) :
    txt xs (back xs.length (k + 1)) = Lib.decDigits ((lv (xs.drop (xs.length - 1 - k)))) ∧ 0 < lv (xs.drop (xs.length - 1 - k)) := by
  have hpos : 0 < xs.length := by omega
  induction k with
  | zero =>
    have hd : xs.drop (xs.length - 1 - 0) = [lim xs (xs.length - 1)] := by
      rw [Nat.sub_zero, List.drop_eq_getElem_cons (by omega), lim_lt _ _ (by omega), List.drop_of_length_le (by omega)]
    have hlast : lim xs (xs.length - 1) ≠ 0 := by
      have := hx.2
      rw [List.getLast?_eq_getElem?, List.getElem?_eq_getElem (by omega)] at this
      rw [lim_lt _ _ (by omega)]
      intro e
      exact this (congrArg some e)
    rw [hd]
    simp only [lv, Nat.mul_zero, Nat.add_zero]
    refine ⟨?_, by omega⟩
    rw [back_succ _ _ hpos, back_zero, txt_snoc]
    simp [txt, piece]
  | succ k ih =>
    obtain ⟨h1, h2⟩ := ih (by omega)
    have hd : xs.drop (xs.length - 1 - (k + 1)) = lim xs (xs.length - 1 - (k + 1)) :: xs.drop (xs.length - 1 - k) := by
      rw [List.drop_eq_getElem_cons (by omega), lim_lt _ _ (by omega), show xs.length - 1 - (k + 1) + 1 = xs.length - 1 - k by omega]
    rw [hd]
    simp only [lv]
    refine ⟨?_, by omega⟩
    rw [back_succ _ _ hk, txt_snoc, h1, piece, if_pos (by dsimp only; omega)]
    dsimp only
    rw [Nat.add_comm (lim xs (xs.length - 1 - (k + 1))), Nat.mul_comm 1000000000]
    exact (decDigits_limb _ _ h2 (InR.lim hx.1 _)).symm

theorem txt_all {xs : List Nat} (hx : Canon xs) (h0 : xs ≠ []) : txt xs (back xs.length xs.length) = Lib.decDigits (lv xs) := by
  have hpos : 0 < xs.length := List.length_pos_iff.2 h0
  have := (txt_back hx h0 (xs.length - 1) (by omega)).1
  rw [Nat.sub_self, List.drop_zero, Nat.sub_add_cancel hpos] at this
  exact this

/-- The text of the number 0. -/
theorem text_zero (w : World) (a : Option Addr) (cap : Nat) :
    Calls Tryz.prog 102 #[.slice a 0 cap] w fun e w' => e = .returned (.tuple #[.string ⟨#[48]⟩, .int .i64 0]) ∧ Below w.heap.size w w' := by
  go_enter Tryz.func102, Tryz.ntmps102
  go_wp2
  go_ret2
  exact ⟨rfl, (Below.refl _ w).alloc (Nat.le_refl _) _⟩

def TextI (w W1 : World) (sv : Value) (xs : List Nat) (pre : List (Place xs.length)) (W : World) : Prop :=
  Lib.IsBuilderF 166 5 (w.heap.size + 1) (w.heap.size + 1) (Lib.byteCells (txt xs pre)) W ∧ Below (w.heap.size + 1) W1 W ∧ W.heap[w.heap.size + 1 + 1]? = some (.cells #[sv] 124 (0, 0))

theorem block_kept {A B : World} {row : Option Nat} {b : Nat} {c : Array Value} {t : TypeId} {f : Nat × Nat} (h : A.heap[b]? = some (.cells c t f)) (hg : A.grownBy B row) (hr : ∀ r, row = some r → ∃ o : Obj, A.heap[r]? = some o ∧ o.isCells = false) :
    B.heap[b]? = some (.cells c t f) := by
  rw [hg.block b (Array.getElem?_eq_some_iff.1 h).1 (fun e => ?_)]
  · exact h
  · obtain ⟨o, ho, hc⟩ := hr b e.symm
    rw [h] at ho
    cases ho
    cases hc

theorem builderAt_kept {A B : World} {row : Option Nat} {T e : TypeId} {n b : Nat} {p : Value} {bs : List Value} (h : Lib.BuilderAtF T e n b p bs A) (hg : A.grownBy B row) (hr : ∀ r, row = some r → ∃ o : Obj, A.heap[r]? = some o ∧ o.isCells = false) :
    Lib.BuilderAtF T e n b p bs B := by
  obtain ⟨h1, v, h2, h3, h4⟩ := h
  refine ⟨h1, v, block_kept h2 hg hr, ?_, h4⟩
  obtain ⟨h5, h6⟩ := h3
  refine ⟨h5, ?_⟩
  rcases h6 with h6 | ⟨g, cap, cur, fz, k1, k2, k3, k4⟩
  · exact .inl h6
  · exact .inr ⟨g, cap, cur, fz, k1, k2, block_kept k3 hg hr, k4⟩

theorem builder_kept {A B : World} {row : Option Nat} {T e : TypeId} {n b : Nat} {bs : List Value} (h : Lib.IsBuilderF T e n b bs A) (hg : A.grownBy B row) (hr : ∀ r, row = some r → ∃ o : Obj, A.heap[r]? = some o ∧ o.isCells = false) :
    Lib.IsBuilderF T e n b bs B := h.elim (fun k => .inl (builderAt_kept k hg hr)) (fun k => .inr (builderAt_kept k hg hr))

theorem builderAt_below {A B : World} {T e : TypeId} {n b : Nat} {p : Value} {bs : List Value} (h : Lib.BuilderAtF T e n b p bs A) (hb : Below A.heap.size A B) : Lib.BuilderAtF T e n b p bs B := by
  obtain ⟨h1, v, h2, h3, h4⟩ := h
  have key : ∀ {g : Nat} {o : Obj}, A.heap[g]? = some o → B.heap[g]? = some o := fun h => (hb.block _ (Array.getElem?_eq_some_iff.1 h).1).trans h
  refine ⟨h1, v, key h2, ?_, h4⟩
  obtain ⟨h5, h6⟩ := h3
  refine ⟨h5, ?_⟩
  rcases h6 with h6 | ⟨g, cap, cur, fz, k1, k2, k3, k4⟩
  · exact .inl h6
  · exact .inr ⟨g, cap, cur, fz, k1, k2, key k3, k4⟩

theorem builder_below {A B : World} {T e : TypeId} {n b : Nat} {bs : List Value} (h : Lib.IsBuilderF T e n b bs A) (hb : Below A.heap.size A B) : Lib.IsBuilderF T e n b bs B :=
  h.elim (fun k => .inl (builderAt_below k hb)) (fun k => .inr (builderAt_below k hb))

theorem KeepsOthers.of_others {W W' : World} {t : TypeId} {b : Nat} {cs : Array Value} {T : TypeId} {fz : Nat × Nat} (h : Lib.OthersKept t (some b) W W') (hs : W.heap.size ≤ W'.heap.size) (hb : W.heap[b]? = some (.cells cs T fz)) : KeepsOthers W W' :=
  ⟨hs, fun k o hk ho => h k o hk (fun e => by cases e; rw [hb] at hk; cases hk; cases ho) (fun c f e => by subst e; cases ho)⟩

theorem repeat48 (c : Nat) : Lib.repeatL (⟨#[48]⟩ : ByteArray).data.toList c = List.replicate c 48 := by
  induction c with
  | zero => rfl
  | succ c ih => rw [Lib.repeatL, ih]; rfl

theorem strCells_arr (l : List UInt8) : Lib.strCells ⟨l.toArray⟩ = Lib.byteCells l := rfl

theorem three (w : World) (o1 o2 o3 : Obj) :
    (((w.alloc o1).alloc o2).alloc o3).heap[w.heap.size]? = some o1 ∧ (((w.alloc o1).alloc o2).alloc o3).heap[w.heap.size + 1]? = some o2 ∧
    (((w.alloc o1).alloc o2).alloc o3).heap[w.heap.size + 1 + 1]? = some o3 ∧ (((w.alloc o1).alloc o2).alloc o3).heap.size = w.heap.size + 3 ∧ Below w.heap.size w (((w.alloc o1).alloc o2).alloc o3) :=
  ⟨(Below.heap_alloc _ _ _ (by simp; omega)).trans ((Below.heap_alloc _ _ _ (by simp)).trans (heap_alloc_new _ _)),
   (Below.heap_alloc _ _ _ (by simp)).trans (by have := heap_alloc_new (w.alloc o1) o2; simpa using this),
   by have := heap_alloc_new ((w.alloc o1).alloc o2) o3; simpa using this, by simp,
   (((Below.refl _ w).alloc (Nat.le_refl _) _).alloc (by simp) _).alloc (by simp; omega) _⟩

/-- A text, or ErrLimit where it is too long. -/
def limited (l : List UInt8) : Value := if 300 < l.length then .tuple #[.string ⟨#[]⟩, .int .i64 2] else .tuple #[.string ⟨l.toArray⟩, .int .i64 0]
def TextPost (l : List UInt8) (w : World) (e : Ending) (w' : World) : Prop := e = .returned (limited l) ∧ Below w.heap.size w w'

theorem others_of_below {W W' : World} {e : TypeId} {b : Option Nat} (h : Below W.heap.size W W') : Lib.OthersKept e b W W' :=
  fun k _ hk _ _ => (h.block k (Array.getElem?_eq_some_iff.1 hk).1).trans hk

theorem text_close {w W1 W W' : World} {sv : Value} {xs : List Nat} {pre : List (Place xs.length)} {x : Place xs.length} {b : Nat} {bs : List UInt8} {a : Act} {Ix : Code → List (Place xs.length) → World → Prop}
    (s1 : Lib.IsBuilderF 166 5 (w.heap.size + 1) (w.heap.size + 1) (Lib.byteCells (txt xs pre)) W) (s2 : Below (w.heap.size + 1) W1 W) (s3 : W.heap[w.heap.size + 1 + 1]? = some (.cells #[sv] 124 (0, 0)))
    (hI : Lib.IsBuilderF 166 5 (w.heap.size + 1) (w.heap.size + 1) (Lib.byteCells (txt xs pre ++ bs)) W') (hb : Below (w.heap.size + 1) W W') (ho : Lib.OthersKept 5 (some (w.heap.size + 1)) W W') (hbb : b < w.heap.size)
    (hp : piece xs x = bs) :
    ownPostK (Keep2 b (w.heap.size + 1 + 1)) (TextI w W1 sv xs) Ix (pre ++ [x]) W .normal a W' := by
  have k3 : W'.heap[w.heap.size + 1 + 1]? = some (.cells #[sv] 124 (0, 0)) := ho _ _ s3 (by intro e; injection e with e; omega) (by intro c f e; injection e with e1 e2; cases e2)
  refine ⟨?_, ⟨hb.block b (by omega), k3.trans s3.symm⟩, ?_, s2.trans hb, k3⟩
  · rcases s1 with ⟨_, v, h, _⟩ | ⟨_, v, h, _⟩
    · exact KeepsOthers.of_others ho hb.size h
    · exact KeepsOthers.of_others ho hb.size h
  · rw [txt_snoc, hp]; exact hI

set_option maxRecDepth 100000 in
set_option maxHeartbeats 2000000 in
theorem text_walk (w : World) (a : Option Addr) (cap : Nat) (xs : List Nat) (hl : xs.length ≤ 200) (hx : Hid (Canon xs)) (h0 : 0 < xs.length) (b : Nat) (hb : b < w.heap.size)
    (ha : Hid (SlAt w b (.slice a xs.length cap) xs)) (hE : Hid (Env w)) :
    Calls Tryz.prog 102 #[.slice a xs.length cap] w (TextPost (Lib.decDigits (lv xs)) w) := by
  have hlz : ((xs.length : Int) == 0) = false := by rw [beq_eq_false_iff_ne]; omega
  refine (callsIn_wide (n := 9)).1 ?_
  refine callsIn_of_wp_marks Tryz.func102 rfl trivial ?_ rfl
  simp only [Tryz.ntmps102, List.size_toArray, List.length_cons, List.length_nil, Nat.reduceAdd, Nat.reduceSub, Array.replicate_succ, Array.replicate_zero, List.push_toArray, List.append_toArray, List.nil_append, List.cons_append]
  gi_wp2_with (first
    | (refine ⟨trivial, ?_⟩; gi_at_call 119; refine (back_make Fence.wide _ trivial rfl _ _ _ _).mono ?_; rintro e w' ⟨rfl, rfl⟩)
    | (gi_at_call 119; refine (back_make Fence.wide _ trivial rfl _ _ _ _).mono ?_; rintro e w' ⟨rfl, rfl⟩))
  obtain ⟨f1, f2, f3, f4, f5⟩ := three w (.cells #[.slice a xs.length cap] 124) (.cells #[.pointer none, .slice none 0 0] 166) (.cells #[.slice a xs.length cap] 124)
  generalize ((w.alloc (.cells #[.slice a xs.length cap] 124)).alloc (.cells #[.pointer none, .slice none 0 0] 166)).alloc (.cells #[.slice a xs.length cap] 124) = W1 at f1 f2 f3 f4 f5 ⊢
  have hbx : W1.cell? ⟨w.heap.size + 1 + 1, 0, none⟩ = some (.slice a xs.length cap) := by simp [World.cell?, f3]
  have hbn : W1.cell? ⟨w.heap.size, 0, none⟩ = some (.slice a xs.length cap) := by simp [World.cell?, f1]
  have hsl : SlAt W1 b (.slice a xs.length cap) xs := ha.out.keep (c := b) (Keep2.of_below f5 hb hb)
  refine wpIn_rangeFunc_ownF rfl (by decide) (gf := 139) (lb := #[.pointer (some ⟨w.heap.size + 1 + 1, 0, none⟩)]) rfl trivial (enters_of Tryz.func139 (by kernel_rfl) rfl)
    (back_stops Fence.wide _ trivial rfl (by decide) (w.heap.size + 1 + 1) b _ xs (by omega) W1 (by omega) (by omega) hbx hsl) (fun h k => h.trans k)
    (fun W l o o' hl h ho hw => ?kb) (Below.refl _ _) (fun _ => rfl)
    (TextI w W1 (.slice a xs.length cap) xs) (fun _ _ _ => False)
    (fun s A B row hs hg hr => ?own)
    (fun _ _ _ _ _ hs _ _ => hs)
    ⟨.inl ⟨Nat.le_refl _, .slice none 0 0, f2, World.ownsRowF_nil _ _ _ _, by simp [Value.ownBlock]⟩, Below.refl _ _, f3⟩
    (fun x => { tmps := #[.slice a xs.length cap, .pointer (some ⟨w.heap.size, 0, none⟩), .string ⟨#[]⟩, .int .i64 0, .pointer (some ⟨w.heap.size + 1, 0, none⟩), .int .i64 (x.1 : Int), .int .u64 (lim xs x.1), undef, .slice a xs.length cap,
      .int .i64 xs.length, .bool false, .slice a xs.length cap, .func (.func 139) #[] #[.pointer (some ⟨w.heap.size + 1 + 1, 0, none⟩)], .int .i64 (x.1 : Int), .int .u64 (lim xs x.1),
      undef, undef, undef, undef, undef, undef, undef, undef, undef, undef, undef, undef, undef, undef, undef, undef, undef], defers := [] })
    ?assign ?body ?done ?stop
  case kb =>
    have h1 := (Array.getElem?_eq_some_iff.1 h).1
    exact ⟨World.putObj_heap_other (by omega), World.putObj_heap_other (by omega)⟩
  case own =>
    obtain ⟨s1, s2, s3⟩ := hs
    have hr' := fun r e => (hr r e).2
    exact ⟨builder_kept s1 hg hr', s2.grown hg (by have := s2.size; omega) (fun k e => by have := (hr k e).1; omega), block_kept s3 hg hr'⟩
  case assign =>
    intro l x W K hK
    gi_wp2
    exact hK
  case body =>
    rintro l pre x W ⟨s1, s2, s3⟩ hlen
    have hlim := InR.lim hx.out.1 x.1
    have h9 := dec9 hlim
    have hxl := x.2
    have hEW : Env W := hE.out.below (f5.trans (s2.mono (by omega)))
    have hfmt := formatUint (lim xs x.1) (by omega) W hEW.tab
    have hcn := (s2.cell (p := ⟨w.heap.size, 0, none⟩) (by simp)).trans hbn
    have htl := txt_len hx.out.1 pre
    have hpc : piece xs x = if x.1 < xs.length - 1 then pad9 (lim xs x.1) else Lib.decDigits (lim xs x.1) := rfl
    have hpd : pad9 (lim xs x.1) = List.replicate (9 - (Lib.decDigits (lim xs x.1)).length) 48 ++ Lib.decDigits (lim xs x.1) := rfl
    have HP := Lib.hid hpc
    have HPD := Lib.hid hpd
    replace s1 := Lib.hid s1
    replace s2 := Lib.hid s2
    replace s3 := Lib.hid s3
    replace htl := Lib.hid htl
    have F4 := Lib.hid f4
    clear hpc hpd hsl f1 f2 f3 hbx hbn f4 hEW
    generalize hdl : Lib.decDigits (lim xs x.1) = dl at h9 hfmt HP HPD
    clear hdl
    have hsW := s2.out.size
    have hnW : w.heap.size + 2 < W.heap.size := by have := F4.out; omega
    replace hsW := Lib.hid hsW
    by_cases hq : x.1 < xs.length - 1
    · obtain ⟨c, hc⟩ : ∃ c : Nat, (9 : Int) - (dl.length : Int) = (c : Int) := ⟨9 - dl.length, by omega⟩
      have HC : Hid (c = 9 - dl.length) := by unfold Hid; omega
      have hq' : (x.1 : Int) < (xs.length : Int) - 1 := by omega
      gi_wp2_with (first
        | (refine ⟨trivial, ?_⟩; gi_at_call 127; refine (CallsIn.inRound l (callsIn_wide.2 hfmt)).mono ?_; rintro e w2 ⟨rfl, hb2⟩; have hcn2 := (hb2.cell (p := ⟨w.heap.size, 0, none⟩) (by simp; omega)).trans hcn; replace hb2 := Lib.hid hb2))
      refine ⟨trivial, ?_⟩
      refine (CallsIn.inRound l (callsIn_wide.2 (Tryz.strings_Repeat ⟨#[48]⟩ c w2 (by omega) (by simp [ByteArray.size]; omega)))).mono ?_
      rintro e w3 ⟨rfl, hb3⟩
      have hB3 : Below W.heap.size W w3 := hb2.out.trans (hb3.mono hb2.out.size)
      have hs3 := hB3.size
      have hrl : Lib.repeatL (⟨#[48]⟩ : ByteArray).data.toList c = List.replicate c 48 := repeat48 c
      rw [hrl]
      clear hrl hb3 hb2
      have hw1 := writeString_k (w.heap.size + 1) (w.heap.size + 1) (Lib.byteCells (txt xs pre)) ⟨(List.replicate c 48).toArray⟩ w3 (builder_below s1.out hB3) (by rw [Lib.byteCells_length]; have := htl.out; simp [ByteArray.size]; omega) (by omega)
      generalize hrl : List.replicate c (48 : UInt8) = rl at hw1 ⊢
      have HRL := Lib.hid hrl
      replace hB3 := Lib.hid hB3
      clear hrl
      gi_wp2_with (first
        | (refine ⟨trivial, ?_⟩; gi_at_call 128; refine (CallsIn.inRound l (callsIn_wide.2 hw1)).mono ?_; rintro e w4 ⟨rfl, hI4, hb4, ho4⟩; clear hw1))
      refine ⟨trivial, ?_⟩
      have hs4 := hb4.size
      refine (CallsIn.inRound l (callsIn_wide.2 (writeString_k (w.heap.size + 1) (w.heap.size + 1) _ ⟨dl.toArray⟩ w4 hI4 (by rw [List.length_append, Lib.byteCells_length, Lib.strCells_length]; have := htl.out; have := HRL.out; subst this; simp [ByteArray.size]; omega) (by omega)))).mono ?_
      rintro e w5 ⟨rfl, hI5, hb5, ho5⟩
      gi_wp2
      refine text_close s1.out s2.out s3.out (bs := rl ++ dl) ?_ (by have := hB3.out.mono (show w.heap.size + 1 ≤ W.heap.size by omega); exact (this.trans hb4).trans hb5) (((others_of_below hB3.out).trans ho4).trans ho5) (by omega) ?_
      · rw [strCells_arr, strCells_arr] at hI5
        rw [Lib.byteCells_append, Lib.byteCells_append, ← List.append_assoc]
        exact hI5
      · rw [HP.out, if_pos hq, HPD.out, ← HRL.out, HC.out]
    · have hq' : ¬ (x.1 : Int) < (xs.length : Int) - 1 := by omega
      gi_wp2_with (first
        | (refine ⟨trivial, ?_⟩; gi_at_call 127; refine (CallsIn.inRound l (callsIn_wide.2 hfmt)).mono ?_; rintro e w2 ⟨rfl, hb2⟩; have hcn2 := (hb2.cell (p := ⟨w.heap.size, 0, none⟩) (by simp; omega)).trans hcn; replace hb2 := Lib.hid hb2))
      refine ⟨trivial, ?_⟩
      have hs2 := hb2.out.size
      refine (CallsIn.inRound l (callsIn_wide.2 (writeString_k (w.heap.size + 1) (w.heap.size + 1) (Lib.byteCells (txt xs pre)) ⟨dl.toArray⟩ w2 (builder_below s1.out hb2.out) (by rw [Lib.byteCells_length]; have := htl.out; simp [ByteArray.size]; omega) (by omega)))).mono ?_
      rintro e w5 ⟨rfl, hI5, hb5, ho5⟩
      gi_wp2
      refine text_close s1.out s2.out s3.out (bs := dl) ?_ (by have := hb2.out.mono (show w.heap.size + 1 ≤ W.heap.size by omega); exact this.trans hb5) ((others_of_below hb2.out).trans ho5) (by omega) ?_
      · rw [strCells_arr] at hI5
        rw [Lib.byteCells_append]
        exact hI5
      · rw [HP.out, if_neg hq]
  case done =>
    rintro D zs W hD rfl ⟨s1, s2, s3⟩ hK
    have htx := txt_all hx.out (List.length_pos_iff.1 h0)
    have hlen9 : (txt xs (back xs.length xs.length)).length ≤ 1800 := by
      have := txt_len (xs := xs) hx.out.1 (back xs.length xs.length)
      rw [back_length _ _ (Nat.le_refl _)] at this
      omega
    rw [htx] at s1 hlen9
    have hdn := decDigits_ne (lv xs)
    generalize hdl : Lib.decDigits (lv xs) = dl at s1 hlen9 hdn
    have HDL := Lib.hid hdl
    clear hdl
    have hsW := s2.size
    have hS := s1
    have hBW : Below w.heap.size w W := f5.trans (s2.mono (by omega))
    replace s1 := Lib.hid s1
    replace s2 := Lib.hid s2
    replace s3 := Lib.hid s3
    have HK := Lib.hid hK
    have HBW := Lib.hid hBW
    have F4 := Lib.hid f4
    clear hsl f1 f2 f3 hbx hbn f4 hK hBW htx
    have hlen := Tryz.Builder_Len_f (w.heap.size + 1) (w.heap.size + 1) (Lib.byteCells dl) W hS
    rw [Lib.byteCells_length] at hlen
    clear hS
    by_cases h300 : 300 < dl.length
    · have hlv : limited dl = .tuple #[.string ⟨#[]⟩, .int .i64 2] := by unfold limited; rw [if_pos h300]
      have HLV := Lib.hid hlv
      clear hlv
      gi_wp2_with (first
        | (refine ⟨trivial, ?_⟩; gi_at_call 130; refine (callsIn_wide.2 hlen).mono ?_; rintro e w2 ⟨rfl, rfl⟩))
      refine ⟨by simp, .inl ⟨_, _, rfl, run_takeDeferred HK.out, ?_⟩⟩
      refine ⟨.tuple #[.string ⟨#[]⟩, .int .i64 2], by simp [results, Tryz.results102, go_sem], by rw [HDL.out, HLV.out], ?_⟩
      exact HBW.out.grown (grownBy_putObj' _ D (.deferred none)) HBW.out.size (fun k e => by cases e; have := F4.out; omega)
    · have hlv : limited dl = .tuple #[.string ⟨dl.toArray⟩, .int .i64 0] := by unfold limited; rw [if_neg h300]
      have HLV := Lib.hid hlv
      clear hlv
      gi_wp2_with (first
        | (refine ⟨trivial, ?_⟩; gi_at_call 130; refine (callsIn_wide.2 hlen).mono ?_; rintro e w2 ⟨rfl, rfl⟩))
      have hstr := Any.Builder_String_k Tryz.lays169 Tryz.Builder_Extra_169 (w.heap.size + 1) (w.heap.size + 1) dl w2 s1.out hdn
      refine ⟨trivial, ?_⟩
      refine (callsIn_wide.2 hstr).mono ?_
      rintro e w3 ⟨rfl, _, hb3, ho3⟩
      have hK3 : w3.heap[D]? = some (.deferred (some [])) := ho3 D _ HK.out (by intro e; injection e with e; have := F4.out; omega) (by intro c f e; cases e)
      have HK3 := Lib.hid hK3
      replace hb3 := Lib.hid hb3
      clear hlen hstr hK3 ho3
      gi_wp2
      refine ⟨by simp, .inl ⟨_, _, rfl, run_takeDeferred HK3.out, ?_⟩⟩
      refine ⟨.tuple #[.string ⟨dl.toArray⟩, .int .i64 0], by simp [results, Tryz.results102, go_sem], by rw [HDL.out, HLV.out], ?_⟩
      exact (HBW.out.trans (hb3.out.mono (by omega))).grown (grownBy_putObj' _ D (.deferred none)) (by have := hb3.out.size; have := HBW.out.size; omega) (fun k e => by cases e; have := F4.out; omega)
  case stop =>
    rintro D c pre W _ _ h _
    exact h.elim

/-- text, at every number -/
theorem text_any (w : World) (v : Value) (n : Nat) (hn : Num w v n) (hbn : Small n) (hE : Env w) :
    Calls Tryz.prog 102 #[v] w (TextPost (Lib.decDigits n) w) := by
  obtain ⟨xs, hx, rfl, hsx⟩ := hn
  have hl := hx.len_le (k := 200) hbn
  obtain ⟨b, hb, hat⟩ : ∃ b, b < w.heap.size ∧ SlAt w b v xs := by
    rcases hsx.shape with ⟨rfl, rfl⟩ | ⟨b, off, cap, rfl, hb, _, hc⟩
    · exact ⟨0, hE.pos, .inl ⟨rfl, 0, rfl⟩⟩
    · exact ⟨b, hb, .inr ⟨off, cap, rfl, hc⟩⟩
  obtain ⟨a, cap, rfl, _⟩ := hsx.addr
  by_cases h0 : xs = []
  · subst h0
    refine (text_zero w a cap).mono ?_
    rintro e w' ⟨rfl, hb'⟩
    refine ⟨?_, hb'⟩
    rw [lv, Lib.decDigits_one (by omega)]
    rfl
  · exact text_walk w a cap xs hl hx (List.length_pos_iff.2 h0) b hb hat hE

end Nt
end Go.Proofs.YtmekiidknjjfcaaGreatDoor

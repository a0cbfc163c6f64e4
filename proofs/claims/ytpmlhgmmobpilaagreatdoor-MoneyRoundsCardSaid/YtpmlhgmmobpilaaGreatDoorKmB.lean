/- Texts that the proof needs: NatText, NatSub, NatParse, NatAdd, NatCmp, NatSearch, NatMul, NatDiv. -/
import Derived.Lib.OthersKept
import Derived.Deep.OwnRows
import Derived.Lib.IndexBytes
import Derived.Outline
import Derived.Deep.RegionWith
import Derived.BigRegion
import Derived.Deep.RegionHeld3
import Derived.Test.YtpmlhgmmobpilaaGreatDoorKmA
namespace Go.Proofs.YtpmlhgmmobpilaaGreatDoor
open Go.RowKit Go.Shelf
attribute [local go_sem] Oper.semAt_some
namespace Nt
/-- What a limb adds to the text. -/
def piece (xs : List Nat) (x : Place xs.length) : List UInt8 := if x.1 < xs.length - 1 then pad9 (lim xs x.1) else Lib.decDigits (lim xs x.1)
def txt (xs : List Nat) (pre : List (Place xs.length)) : List UInt8 := pre.foldl (fun a x => a ++ piece xs x) []
theorem txt_snoc (xs : List Nat) (pre : List (Place xs.length)) (x : Place xs.length) : txt xs (pre ++ [x]) = txt xs pre ++ piece xs x := by
  simp [txt, List.foldl_append]
theorem dec9 {x : Nat} (h : x < 1000000000) : (Lib.decDigits x).length ≤ 9 := decDigits_len (by simpa using h) (by omega)
theorem piece_len {xs : List Nat} (hx : InR xs) (x : Place xs.length) : (piece xs x).length ≤ 9 := by
  unfold piece
  split
  · rw [pad9_len (hx.lim _)]; omega
  · exact dec9 (hx.lim _)
theorem txt_len {xs : List Nat} (hx : InR xs) (pre : List (Place xs.length)) : (txt xs pre).length ≤ 9 * pre.length := by
  have key : ∀ (pre : List (Place xs.length)) (a : List UInt8), (pre.foldl (fun a x => a ++ piece xs x) a).length ≤ a.length + 9 * pre.length := by
    intro pre
    induction pre with
    | nil => intro a; simp
    | cons x pre ih =>
      intro a
      have h1 := ih (a ++ piece xs x)
      have h2 := piece_len hx x
      simp only [List.foldl_cons, List.length_cons, List.length_append] at h1 ⊢
      omega
  have := key pre []
  simpa [txt] using this
/-- The text of a canonical number that is not 0. -/
theorem txt_back {xs : List Nat} (hx : Canon xs) (_h0 : xs ≠ []) (k : Nat) (hk : k < xs.length) :
    txt xs (back xs.length (k + 1)) = Lib.decDigits ((lv (xs.drop (xs.length - 1 - k)))) ∧ 0 < lv (xs.drop (xs.length - 1 - k)) := by
  have hpos : 0 < xs.length := by omega
  induction k with
  | zero =>
    have hd : xs.drop (xs.length - 1 - 0) = [lim xs (xs.length - 1)] := by
      rw [Nat.sub_zero, List.drop_eq_getElem_cons (by omega), lim_lt _ _ (by omega), List.drop_of_length_le (by omega)]
    have hlast : lim xs (xs.length - 1) ≠ 0 := by
      have := hx.2
      rw [List.getLast?_eq_getElem?, List.getElem?_eq_getElem (by omega)] at this
      rw [lim_lt _ _ (by omega)]
      intro e
      exact this (congrArg some e)
    rw [hd]
    simp only [lv, Nat.mul_zero, Nat.add_zero]
    refine ⟨?_, by omega⟩
    rw [back_succ _ _ hpos, back_zero, txt_snoc]
    simp [txt, piece]
  | succ k ih =>
    obtain ⟨h1, h2⟩ := ih (by omega)
    have hd : xs.drop (xs.length - 1 - (k + 1)) = lim xs (xs.length - 1 - (k + 1)) :: xs.drop (xs.length - 1 - k) := by
      rw [List.drop_eq_getElem_cons (by omega), lim_lt _ _ (by omega), show xs.length - 1 - (k + 1) + 1 = xs.length - 1 - k by omega]
    rw [hd]
    simp only [lv]
    refine ⟨?_, by omega⟩
    rw [back_succ _ _ hk, txt_snoc, h1, piece, if_pos (by dsimp only; omega)]
    dsimp only
    rw [Nat.add_comm (lim xs (xs.length - 1 - (k + 1))), Nat.mul_comm 1000000000]
    exact (decDigits_limb _ _ h2 (InR.lim hx.1 _)).symm
theorem txt_all {xs : List Nat} (hx : Canon xs) (h0 : xs ≠ []) : txt xs (back xs.length xs.length) = Lib.decDigits (lv xs) := by
  have hpos : 0 < xs.length := List.length_pos_iff.2 h0
  have := (txt_back hx h0 (xs.length - 1) (by omega)).1
  rw [Nat.sub_self, List.drop_zero, Nat.sub_add_cancel hpos] at this
  exact this
/-- The text of the number 0. -/
theorem text_zero (w : World) (a : Option Addr) (cap : Nat) :
    Calls Tryz.prog 131 #[.slice a 0 cap] w fun e w' => e = .returned (.tuple #[.string ⟨#[48]⟩, .int .i64 0]) ∧ Below w.heap.size w w' := by
  go_enter Tryz.func131, Tryz.ntmps131
  go_wp2
  go_ret2
  exact ⟨rfl, (Below.refl _ w).alloc (Nat.le_refl _) _⟩
def TextI (w W1 : World) (sv : Value) (xs : List Nat) (pre : List (Place xs.length)) (W : World) : Prop :=
  Lib.IsBuilderF 187 5 (w.heap.size + 1) (w.heap.size + 1) (Lib.byteCells (txt xs pre)) W ∧ Below (w.heap.size + 1) W1 W ∧ W.heap[w.heap.size + 1 + 1]? = some (.cells #[sv] 132 (0, 0))
theorem block_kept {A B : World} {row : Option Nat} {b : Nat} {c : Array Value} {t : TypeId} {f : Nat × Nat} (h : A.heap[b]? = some (.cells c t f)) (hg : A.grownBy B row) (hr : ∀ r, row = some r → ∃ o : Obj, A.heap[r]? = some o ∧ o.isCells = false) :
    B.heap[b]? = some (.cells c t f) := by
  rw [hg.block b (Array.getElem?_eq_some_iff.1 h).1 (fun e => ?_)]
  · exact h
  · obtain ⟨o, ho, hc⟩ := hr b e.symm
    rw [h] at ho
    cases ho
    cases hc
theorem builderAt_kept {A B : World} {row : Option Nat} {T e : TypeId} {n b : Nat} {p : Value} {bs : List Value} (h : Lib.BuilderAtF T e n b p bs A) (hg : A.grownBy B row) (hr : ∀ r, row = some r → ∃ o : Obj, A.heap[r]? = some o ∧ o.isCells = false) :
    Lib.BuilderAtF T e n b p bs B := by
  obtain ⟨h1, v, h2, h3, h4⟩ := h
  refine ⟨h1, v, block_kept h2 hg hr, ?_, h4⟩
  obtain ⟨h5, h6⟩ := h3
  refine ⟨h5, ?_⟩
  rcases h6 with h6 | ⟨g, cap, cur, fz, k1, k2, k3, k4⟩
  · exact .inl h6
  · exact .inr ⟨g, cap, cur, fz, k1, k2, block_kept k3 hg hr, k4⟩
theorem builder_kept {A B : World} {row : Option Nat} {T e : TypeId} {n b : Nat} {bs : List Value} (h : Lib.IsBuilderF T e n b bs A) (hg : A.grownBy B row) (hr : ∀ r, row = some r → ∃ o : Obj, A.heap[r]? = some o ∧ o.isCells = false) :
    Lib.IsBuilderF T e n b bs B := h.elim (fun k => .inl (builderAt_kept k hg hr)) (fun k => .inr (builderAt_kept k hg hr))
theorem builderAt_below {A B : World} {T e : TypeId} {n b : Nat} {p : Value} {bs : List Value} (h : Lib.BuilderAtF T e n b p bs A) (hb : Below A.heap.size A B) : Lib.BuilderAtF T e n b p bs B := by
  obtain ⟨h1, v, h2, h3, h4⟩ := h
  have key : ∀ {g : Nat} {o : Obj}, A.heap[g]? = some o → B.heap[g]? = some o := fun h => (hb.block _ (Array.getElem?_eq_some_iff.1 h).1).trans h
  refine ⟨h1, v, key h2, ?_, h4⟩
  obtain ⟨h5, h6⟩ := h3
  refine ⟨h5, ?_⟩
  rcases h6 with h6 | ⟨g, cap, cur, fz, k1, k2, k3, k4⟩
  · exact .inl h6
  · exact .inr ⟨g, cap, cur, fz, k1, k2, key k3, k4⟩
theorem builder_below {A B : World} {T e : TypeId} {n b : Nat} {bs : List Value} (h : Lib.IsBuilderF T e n b bs A) (hb : Below A.heap.size A B) : Lib.IsBuilderF T e n b bs B :=
  h.elim (fun k => .inl (builderAt_below k hb)) (fun k => .inr (builderAt_below k hb))
theorem KeepsOthers.of_others {W W' : World} {t : TypeId} {b : Nat} {cs : Array Value} {T : TypeId} {fz : Nat × Nat} (h : Lib.OthersKept t (some b) W W') (hs : W.heap.size ≤ W'.heap.size) (hb : W.heap[b]? = some (.cells cs T fz)) : KeepsOthers W W' :=
  ⟨hs, fun k o hk ho => h k o hk (fun e => by cases e; rw [hb] at hk; cases hk; cases ho) (fun c f e => by subst e; cases ho)⟩
theorem repeat48 (c : Nat) : Lib.repeatL (⟨#[48]⟩ : ByteArray).data.toList c = List.replicate c 48 := by
  induction c with
  | zero => rfl
  | succ c ih => rw [Lib.repeatL, ih]; rfl
theorem strCells_arr (l : List UInt8) : Lib.strCells ⟨l.toArray⟩ = Lib.byteCells l := rfl
theorem three (w : World) (o1 o2 o3 : Obj) :
    (((w.alloc o1).alloc o2).alloc o3).heap[w.heap.size]? = some o1 ∧ (((w.alloc o1).alloc o2).alloc o3).heap[w.heap.size + 1]? = some o2 ∧
    (((w.alloc o1).alloc o2).alloc o3).heap[w.heap.size + 1 + 1]? = some o3 ∧ (((w.alloc o1).alloc o2).alloc o3).heap.size = w.heap.size + 3 ∧ Below w.heap.size w (((w.alloc o1).alloc o2).alloc o3) :=
  ⟨(Below.heap_alloc _ _ _ (by simp; omega)).trans ((Below.heap_alloc _ _ _ (by simp)).trans (heap_alloc_new _ _)),
   (Below.heap_alloc _ _ _ (by simp)).trans (by have := heap_alloc_new (w.alloc o1) o2; simpa using this),
   by have := heap_alloc_new ((w.alloc o1).alloc o2) o3; simpa using this, by simp,
   (((Below.refl _ w).alloc (Nat.le_refl _) _).alloc (by simp) _).alloc (by simp; omega) _⟩
/-- A text, or ErrLimit where it is too long. -/
def limited (l : List UInt8) : Value := if 300 < l.length then .tuple #[.string ⟨#[]⟩, .int .i64 2] else .tuple #[.string ⟨l.toArray⟩, .int .i64 0]
def TextPost (l : List UInt8) (w : World) (e : Ending) (w' : World) : Prop := e = .returned (limited l) ∧ Below w.heap.size w w'
theorem others_of_below {W W' : World} {e : TypeId} {b : Option Nat} (h : Below W.heap.size W W') : Lib.OthersKept e b W W' :=
  fun k _ hk _ _ => (h.block k (Array.getElem?_eq_some_iff.1 hk).1).trans hk
theorem text_close {w W1 W W' : World} {sv : Value} {xs : List Nat} {pre : List (Place xs.length)} {x : Place xs.length} {b : Nat} {bs : List UInt8} {a : Act} {Ix : Code → List (Place xs.length) → World → Prop}
    (s1 : Lib.IsBuilderF 187 5 (w.heap.size + 1) (w.heap.size + 1) (Lib.byteCells (txt xs pre)) W) (s2 : Below (w.heap.size + 1) W1 W) (s3 : W.heap[w.heap.size + 1 + 1]? = some (.cells #[sv] 132 (0, 0)))
    (hI : Lib.IsBuilderF 187 5 (w.heap.size + 1) (w.heap.size + 1) (Lib.byteCells (txt xs pre ++ bs)) W') (hb : Below (w.heap.size + 1) W W') (ho : Lib.OthersKept 5 (some (w.heap.size + 1)) W W') (hbb : b < w.heap.size)
    (hp : piece xs x = bs) :
    ownPostK (Keep2 b (w.heap.size + 1 + 1)) (TextI w W1 sv xs) Ix (pre ++ [x]) W .normal a W' := by
  have k3 : W'.heap[w.heap.size + 1 + 1]? = some (.cells #[sv] 132 (0, 0)) := ho _ _ s3 (by intro e; injection e with e; omega) (by intro c f e; injection e with e1 e2; cases e2)
  refine ⟨?_, ⟨hb.block b (by omega), k3.trans s3.symm⟩, ?_, s2.trans hb, k3⟩
  · rcases s1 with ⟨_, v, h, _⟩ | ⟨_, v, h, _⟩
    · exact KeepsOthers.of_others ho hb.size h
    · exact KeepsOthers.of_others ho hb.size h
  · rw [txt_snoc, hp]; exact hI
set_option maxRecDepth 100000 in
set_option maxHeartbeats 2000000 in
theorem text_walk (w : World) (a : Option Addr) (cap : Nat) (xs : List Nat) (hl : xs.length ≤ 200) (hx : Hid (Canon xs)) (h0 : 0 < xs.length) (b : Nat) (hb : b < w.heap.size)
    (ha : Hid (SlAt w b (.slice a xs.length cap) xs)) (hE : Hid (Env w)) :
    Calls Tryz.prog 131 #[.slice a xs.length cap] w (TextPost (Lib.decDigits (lv xs)) w) := by
  have hlz : ((xs.length : Int) == 0) = false := by rw [beq_eq_false_iff_ne]; omega
  refine (callsIn_wide (n := 9)).1 ?_
  refine callsIn_of_wp_marks Tryz.func131 rfl trivial ?_ rfl
  simp only [Tryz.ntmps131, List.size_toArray, List.length_cons, List.length_nil, Nat.reduceAdd, Nat.reduceSub, Array.replicate_succ, Array.replicate_zero, List.push_toArray, List.append_toArray, List.nil_append, List.cons_append]
  gi_wp2_with (first
    | (refine ⟨trivial, ?_⟩; gi_at_call 170; refine (back_make Fence.wide _ trivial rfl _ _ _ _).mono ?_; rintro e w' ⟨rfl, rfl⟩)
    | (gi_at_call 170; refine (back_make Fence.wide _ trivial rfl _ _ _ _).mono ?_; rintro e w' ⟨rfl, rfl⟩))
  obtain ⟨f1, f2, f3, f4, f5⟩ := three w (.cells #[.slice a xs.length cap] 132) (.cells #[.pointer none, .slice none 0 0] 187) (.cells #[.slice a xs.length cap] 132)
  generalize ((w.alloc (.cells #[.slice a xs.length cap] 132)).alloc (.cells #[.pointer none, .slice none 0 0] 187)).alloc (.cells #[.slice a xs.length cap] 132) = W1 at f1 f2 f3 f4 f5 ⊢
  have hbx : W1.cell? ⟨w.heap.size + 1 + 1, 0, none⟩ = some (.slice a xs.length cap) := by simp [World.cell?, f3]
  have hbn : W1.cell? ⟨w.heap.size, 0, none⟩ = some (.slice a xs.length cap) := by simp [World.cell?, f1]
  have hsl : SlAt W1 b (.slice a xs.length cap) xs := ha.out.keep (c := b) (Keep2.of_below f5 hb hb)
  refine wpIn_rangeFunc_ownF rfl (by decide) (gf := 204) (lb := #[.pointer (some ⟨w.heap.size + 1 + 1, 0, none⟩)]) rfl trivial (enters_of Tryz.func204 (by kernel_rfl) rfl)
    (back_stops Fence.wide _ trivial rfl (by decide) (w.heap.size + 1 + 1) b _ xs (by omega) W1 (by omega) (by omega) hbx hsl) (fun h k => h.trans k)
    (fun W l o o' hl h ho hw => ?kb) (Below.refl _ _) (fun _ => rfl)
    (TextI w W1 (.slice a xs.length cap) xs) (fun _ _ _ => False)
    (fun s A B row hs hg hr => ?own)
    (fun _ _ _ _ _ hs _ _ => hs)
    ⟨.inl ⟨Nat.le_refl _, .slice none 0 0, f2, World.ownsRowF_nil _ _ _ _, by simp [Value.ownBlock]⟩, Below.refl _ _, f3⟩
    (fun x => { tmps := #[.slice a xs.length cap, .pointer (some ⟨w.heap.size, 0, none⟩), .string ⟨#[]⟩, .int .i64 0, .pointer (some ⟨w.heap.size + 1, 0, none⟩), .int .i64 (x.1 : Int), .int .u64 (lim xs x.1), undef, .slice a xs.length cap,
      .int .i64 xs.length, .bool false, .slice a xs.length cap, .func (.func 204) #[] #[.pointer (some ⟨w.heap.size + 1 + 1, 0, none⟩)], .int .i64 (x.1 : Int), .int .u64 (lim xs x.1),
      undef, undef, undef, undef, undef, undef, undef, undef, undef, undef, undef, undef, undef, undef, undef, undef, undef], defers := [] })
    ?assign ?body ?done ?stop
  case kb =>
    have h1 := (Array.getElem?_eq_some_iff.1 h).1
    exact ⟨World.putObj_heap_other (by omega), World.putObj_heap_other (by omega)⟩
  case own =>
    obtain ⟨s1, s2, s3⟩ := hs
    have hr' := fun r e => (hr r e).2
    exact ⟨builder_kept s1 hg hr', s2.grown hg (by have := s2.size; omega) (fun k e => by have := (hr k e).1; omega), block_kept s3 hg hr'⟩
  case assign =>
    intro l x W K hK
    gi_wp2
    exact hK
  case body =>
    rintro l pre x W ⟨s1, s2, s3⟩ hlen
    have hlim := InR.lim hx.out.1 x.1
    have h9 := dec9 hlim
    have hxl := x.2
    have hEW : Env W := hE.out.below (f5.trans (s2.mono (by omega)))
    have hfmt := formatUint (lim xs x.1) (by omega) W hEW.tab
    have hcn := (s2.cell (p := ⟨w.heap.size, 0, none⟩) (by simp)).trans hbn
    have htl := txt_len hx.out.1 pre
    have hpc : piece xs x = if x.1 < xs.length - 1 then pad9 (lim xs x.1) else Lib.decDigits (lim xs x.1) := rfl
    have hpd : pad9 (lim xs x.1) = List.replicate (9 - (Lib.decDigits (lim xs x.1)).length) 48 ++ Lib.decDigits (lim xs x.1) := rfl
    have HP := Lib.hid hpc
    have HPD := Lib.hid hpd
    replace s1 := Lib.hid s1
    replace s2 := Lib.hid s2
    replace s3 := Lib.hid s3
    replace htl := Lib.hid htl
    have F4 := Lib.hid f4
    clear hpc hpd hsl f1 f2 f3 hbx hbn f4 hEW
    generalize hdl : Lib.decDigits (lim xs x.1) = dl at h9 hfmt HP HPD
    clear hdl
    have hsW := s2.out.size
    have hnW : w.heap.size + 2 < W.heap.size := by have := F4.out; omega
    replace hsW := Lib.hid hsW
    by_cases hq : x.1 < xs.length - 1
    · obtain ⟨c, hc⟩ : ∃ c : Nat, (9 : Int) - (dl.length : Int) = (c : Int) := ⟨9 - dl.length, by omega⟩
      have HC : Hid (c = 9 - dl.length) := by unfold Hid; omega
      have hq' : (x.1 : Int) < (xs.length : Int) - 1 := by omega
      gi_wp2_with (first
        | (refine ⟨trivial, ?_⟩; gi_at_call 174; refine (CallsIn.inRound l (callsIn_wide.2 hfmt)).mono ?_; rintro e w2 ⟨rfl, hb2⟩; have hcn2 := (hb2.cell (p := ⟨w.heap.size, 0, none⟩) (by simp; omega)).trans hcn; replace hb2 := Lib.hid hb2))
      refine ⟨trivial, ?_⟩
      refine (CallsIn.inRound l (callsIn_wide.2 (Tryz.strings_Repeat ⟨#[48]⟩ c w2 (by omega) (by simp [ByteArray.size]; omega)))).mono ?_
      rintro e w3 ⟨rfl, hb3⟩
      have hB3 : Below W.heap.size W w3 := hb2.out.trans (hb3.mono hb2.out.size)
      have hs3 := hB3.size
      have hrl : Lib.repeatL (⟨#[48]⟩ : ByteArray).data.toList c = List.replicate c 48 := repeat48 c
      rw [hrl]
      clear hrl hb3 hb2
      have hw1 := writeString_k (w.heap.size + 1) (w.heap.size + 1) (Lib.byteCells (txt xs pre)) ⟨(List.replicate c 48).toArray⟩ w3 (builder_below s1.out hB3) (by rw [Lib.byteCells_length]; have := htl.out; simp [ByteArray.size]; omega) (by omega)
      generalize hrl : List.replicate c (48 : UInt8) = rl at hw1 ⊢
      have HRL := Lib.hid hrl
      replace hB3 := Lib.hid hB3
      clear hrl
      gi_wp2_with (first
        | (refine ⟨trivial, ?_⟩; gi_at_call 175; refine (CallsIn.inRound l (callsIn_wide.2 hw1)).mono ?_; rintro e w4 ⟨rfl, hI4, hb4, ho4⟩; clear hw1))
      refine ⟨trivial, ?_⟩
      have hs4 := hb4.size
      refine (CallsIn.inRound l (callsIn_wide.2 (writeString_k (w.heap.size + 1) (w.heap.size + 1) _ ⟨dl.toArray⟩ w4 hI4 (by rw [List.length_append, Lib.byteCells_length, Lib.strCells_length]; have := htl.out; have := HRL.out; subst this; simp [ByteArray.size]; omega) (by omega)))).mono ?_
      rintro e w5 ⟨rfl, hI5, hb5, ho5⟩
      gi_wp2
      refine text_close s1.out s2.out s3.out (bs := rl ++ dl) ?_ (by have := hB3.out.mono (show w.heap.size + 1 ≤ W.heap.size by omega); exact (this.trans hb4).trans hb5) (((others_of_below hB3.out).trans ho4).trans ho5) (by omega) ?_
      · rw [strCells_arr, strCells_arr] at hI5
        rw [Lib.byteCells_append, Lib.byteCells_append, ← List.append_assoc]
        exact hI5
      · rw [HP.out, if_pos hq, HPD.out, ← HRL.out, HC.out]
    · have hq' : ¬ (x.1 : Int) < (xs.length : Int) - 1 := by omega
      gi_wp2_with (first
        | (refine ⟨trivial, ?_⟩; gi_at_call 174; refine (CallsIn.inRound l (callsIn_wide.2 hfmt)).mono ?_; rintro e w2 ⟨rfl, hb2⟩; have hcn2 := (hb2.cell (p := ⟨w.heap.size, 0, none⟩) (by simp; omega)).trans hcn; replace hb2 := Lib.hid hb2))
      refine ⟨trivial, ?_⟩
      have hs2 := hb2.out.size
      refine (CallsIn.inRound l (callsIn_wide.2 (writeString_k (w.heap.size + 1) (w.heap.size + 1) (Lib.byteCells (txt xs pre)) ⟨dl.toArray⟩ w2 (builder_below s1.out hb2.out) (by rw [Lib.byteCells_length]; have := htl.out; simp [ByteArray.size]; omega) (by omega)))).mono ?_
      rintro e w5 ⟨rfl, hI5, hb5, ho5⟩
      gi_wp2
      refine text_close s1.out s2.out s3.out (bs := dl) ?_ (by have := hb2.out.mono (show w.heap.size + 1 ≤ W.heap.size by omega); exact this.trans hb5) ((others_of_below hb2.out).trans ho5) (by omega) ?_
      · rw [strCells_arr] at hI5
        rw [Lib.byteCells_append]
        exact hI5
      · rw [HP.out, if_neg hq]
  case done =>
    rintro D zs W hD rfl ⟨s1, s2, s3⟩ hK
    have htx := txt_all hx.out (List.length_pos_iff.1 h0)
    have hlen9 : (txt xs (back xs.length xs.length)).length ≤ 1800 := by
      have := txt_len (xs := xs) hx.out.1 (back xs.length xs.length)
      rw [back_length _ _ (Nat.le_refl _)] at this
      omega
    rw [htx] at s1 hlen9
    have hdn := decDigits_ne (lv xs)
    generalize hdl : Lib.decDigits (lv xs) = dl at s1 hlen9 hdn
    have HDL := Lib.hid hdl
    clear hdl
    have hsW := s2.size
    have hS := s1
    have hBW : Below w.heap.size w W := f5.trans (s2.mono (by omega))
    replace s1 := Lib.hid s1
    replace s2 := Lib.hid s2
    replace s3 := Lib.hid s3
    have HK := Lib.hid hK
    have HBW := Lib.hid hBW
    have F4 := Lib.hid f4
    clear hsl f1 f2 f3 hbx hbn f4 hK hBW htx
    have hlen := Tryz.Builder_Len_f (w.heap.size + 1) (w.heap.size + 1) (Lib.byteCells dl) W hS
    rw [Lib.byteCells_length] at hlen
    clear hS
    by_cases h300 : 300 < dl.length
    · have hlv : limited dl = .tuple #[.string ⟨#[]⟩, .int .i64 2] := by unfold limited; rw [if_pos h300]
      have HLV := Lib.hid hlv
      clear hlv
      gi_wp2_with (first
        | (refine ⟨trivial, ?_⟩; gi_at_call 177; refine (callsIn_wide.2 hlen).mono ?_; rintro e w2 ⟨rfl, rfl⟩))
      refine ⟨by simp, .inl ⟨_, _, rfl, run_takeDeferred HK.out, ?_⟩⟩
      refine ⟨.tuple #[.string ⟨#[]⟩, .int .i64 2], by simp [results, Tryz.results131, go_sem], by rw [HDL.out, HLV.out], ?_⟩
      exact HBW.out.grown (grownBy_putObj' _ D (.deferred none)) HBW.out.size (fun k e => by cases e; have := F4.out; omega)
    · have hlv : limited dl = .tuple #[.string ⟨dl.toArray⟩, .int .i64 0] := by unfold limited; rw [if_neg h300]
      have HLV := Lib.hid hlv
      clear hlv
      gi_wp2_with (first
        | (refine ⟨trivial, ?_⟩; gi_at_call 177; refine (callsIn_wide.2 hlen).mono ?_; rintro e w2 ⟨rfl, rfl⟩))
      have hstr := Any.Builder_String_k Tryz.lays169 Tryz.Builder_Extra_169 (w.heap.size + 1) (w.heap.size + 1) dl w2 s1.out hdn
      refine ⟨trivial, ?_⟩
      refine (callsIn_wide.2 hstr).mono ?_
      rintro e w3 ⟨rfl, _, hb3, ho3⟩
      have hK3 : w3.heap[D]? = some (.deferred (some [])) := ho3 D _ HK.out (by intro e; injection e with e; have := F4.out; omega) (by intro c f e; cases e)
      have HK3 := Lib.hid hK3
      replace hb3 := Lib.hid hb3
      clear hlen hstr hK3 ho3
      gi_wp2
      refine ⟨by simp, .inl ⟨_, _, rfl, run_takeDeferred HK3.out, ?_⟩⟩
      refine ⟨.tuple #[.string ⟨dl.toArray⟩, .int .i64 0], by simp [results, Tryz.results131, go_sem], by rw [HDL.out, HLV.out], ?_⟩
      exact (HBW.out.trans (hb3.out.mono (by omega))).grown (grownBy_putObj' _ D (.deferred none)) (by have := hb3.out.size; have := HBW.out.size; omega) (fun k e => by cases e; have := F4.out; omega)
  case stop =>
    rintro D c pre W _ _ h _
    exact h.elim
/-- text, at every number -/
theorem text_any (w : World) (v : Value) (n : Nat) (hn : Num w v n) (hbn : Small n) (hE : Env w) :
    Calls Tryz.prog 131 #[v] w (TextPost (Lib.decDigits n) w) := by
  obtain ⟨xs, hx, rfl, hsx⟩ := hn
  have hl := hx.len_le (k := 200) hbn
  obtain ⟨b, hb, hat⟩ : ∃ b, b < w.heap.size ∧ SlAt w b v xs := by
    rcases hsx.shape with ⟨rfl, rfl⟩ | ⟨b, off, cap, rfl, hb, _, hc⟩
    · exact ⟨0, hE.pos, .inl ⟨rfl, 0, rfl⟩⟩
    · exact ⟨b, hb, .inr ⟨off, cap, rfl, hc⟩⟩
  obtain ⟨a, cap, rfl, _⟩ := hsx.addr
  by_cases h0 : xs = []
  · subst h0
    refine (text_zero w a cap).mono ?_
    rintro e w' ⟨rfl, hb'⟩
    refine ⟨?_, hb'⟩
    rw [lv, Lib.decDigits_one (by omega)]
    rfl
  · exact text_walk w a cap xs hl hx (List.length_pos_iff.2 h0) b hb hat hE
end Nt
end Go.Proofs.YtpmlhgmmobpilaaGreatDoor

namespace Go.Proofs.YtpmlhgmmobpilaaGreatDoor
open Go.RowKit
namespace Nt
theorem infoU : (Tryz.prog.info? 177).map (fun i => (i.zero, i.size, i.bytes)) = some (some (.int .u64 0), 1, 8) := by kernel_rfl
/-- make(number, n) -/
theorem run_make_num (n : Nat) (hn : n ≤ 1000000) (w : World) :
    (Instr.makeSlice 132 (.int .i64 (n : Int)) (.int .i64 (n : Int))).run Tryz.prog w =
      .ok (.slice (some ⟨w.heap.size, 0, none⟩) n n) (w.alloc (.cells (madeCells #[.int .u64 0] n) 177)) :=
  run_make_row' 132 177 (.int .u64 0) 8 Tryz.underlying132 infoU rfl .i64 .i64 n (by omega) (by omega) w
/-- One step of a subtraction. -/
theorem sub_step {X Y Z B x y br z br' : Nat} (h : Z + Y = X + br * B) (e : z + (y + br) = x + br' * 1000000000) :
    (Z + B * z) + (Y + B * y) = (X + B * x) + br' * (B * 1000000000) := by
  have e2 : B * z + (B * y + B * br) = B * x + B * (br' * 1000000000) := by
    rw [← Nat.mul_add, ← Nat.mul_add, ← Nat.mul_add, e]
  have e3 : br * B = B * br := Nat.mul_comm _ _
  have e4 : B * (br' * 1000000000) = br' * (B * 1000000000) := by rw [← Nat.mul_assoc, Nat.mul_comm B br', Nat.mul_assoc]
  omega
def RelSub (B : Nat) (w : World) (xs ys : List Nat) (g : Nat) (k br : Nat) (wr : World) : Prop :=
  ∃ zs, zs.length = xs.length ∧ InR zs ∧ Row 177 wr g zs ∧ br ≤ 1 ∧ lo zs k + lo ys k = lo xs k + br * 1000000000 ^ k ∧ Below B w wr
theorem RelSub.step {B : Nat} {w wr : World} {xs ys : List Nat} {g k br : Nat} (h : RelSub B w xs ys g k br wr) (hB : B ≤ g) (hk : k < xs.length) {z br' : Nat}
    (hz : z < 1000000000) (hbr : br' ≤ 1) (e : z + (lim ys k + br) = lim xs k + br' * 1000000000) :
    RelSub B w xs ys g (k + 1) br' (wr.setCell ⟨g, k, none⟩ (.int .u64 (z : Int))) := by
  obtain ⟨zs, h1, h2, h3, h4, h5, h6⟩ := h
  refine ⟨zs.set k z, by simpa using h1, h2.set k z hz, h3.set k z, hbr, ?_, h6.setCell hB _⟩
  rw [lo_succ, lo_succ, lo_succ, lo_set, lim_set _ _ _ (by omega), Nat.pow_succ]
  exact sub_step h5 e
theorem RelSub.step' {B : Nat} {w wr : World} {xs ys : List Nat} {g k br : Nat} (h : RelSub B w xs ys g k br wr) (hB : B ≤ g) (hk : k < xs.length) {z br' : Nat} {y : Int}
    (hz : z < 1000000000) (hbr : br' ≤ 1) (e : z + (lim ys k + br) = lim xs k + br' * 1000000000) (hy : y = (z : Int)) :
    RelSub B w xs ys g (k + 1) br' (wr.setCell ⟨g, k, none⟩ (.int .u64 y)) := by
  subst hy; exact h.step hB hk hz hbr e
def PostNumV (B : Nat) (w : World) (n : Nat) (e : Ending) (w' : World) : Prop :=
  ∃ v, e = .returned v ∧ Num w' v n ∧ From B v ∧ Below B w w'
set_option maxHeartbeats 1000000 in
theorem sub_walk (w : World) (a : Option Addr) (cap : Nat) (xs : List Nat) (c : Option Addr) (cap' : Nat) (ys : List Nat) (hl : xs.length ≤ 100000) (hyl : ys.length ≤ xs.length)
    (hx : InR xs) (hy : InR ys) (hle : lv ys ≤ lv xs)
    (ha : xs ≠ [] → ∃ b off, a = some ⟨b, off, none⟩ ∧ b < w.heap.size ∧ ∀ i, i < xs.length → w.cell? ⟨b, off + i, none⟩ = some (.int .u64 (lim xs i)))
    (hc : ys ≠ [] → ∃ b off, c = some ⟨b, off, none⟩ ∧ b < w.heap.size ∧ ∀ i, i < ys.length → w.cell? ⟨b, off + i, none⟩ = some (.int .u64 (lim ys i))) :
    Calls Tryz.prog 147 #[.slice a xs.length cap, .slice c ys.length cap'] w (PostNumV w.heap.size w (lv xs - lv ys)) := by
  have hmk := run_make_num xs.length (by omega)
  go_enter Tryz.func147, Tryz.ntmps147
  go_wp2
  go_loopw [6, 15] (fun br i wr => ∃ k b : Nat, k ≤ xs.length ∧ i = .int .i64 k ∧ br = .int .u64 b ∧ RelSub w.heap.size w xs ys w.heap.size k b wr)
    (fun _ i _ => xs.length - (intOf i).toNat)
  case atStart => exact ⟨0, 0, Nat.zero_le _, rfl, rfl, List.replicate xs.length 0, by simp, InR.zeros _, Row.made0 _ _ _, Nat.zero_le _, by simp [lo_zero], (Below.refl _ _).alloc (Nat.le_refl _) _⟩
  case round =>
    obtain ⟨k, b, hk, rfl, rfl, hrel⟩ := hrel
    by_cases hkn : k < xs.length
    · obtain ⟨bx, ox, hax, hbx, hcx⟩ := ha (by intro e; simp [e] at hkn)
      obtain ⟨zs, z1, z2, z3, z4, z5, z6⟩ := id hrel
      have hcxk := (z6.cell (p := ⟨bx, ox + k, none⟩) hbx).trans (hcx k hkn)
      have hxk := hx.lim k
      have hyk := hy.lim k
      have hzf := z3.frozen k
      have hzc := z3.cell (i := k) (by omega)
      subst hax
      clear hcx ha z2 z3 z5 hx hy hmk
      replace z6 := Lib.hid z6
      by_cases hky : k < ys.length
      · obtain ⟨b2, oy, hay, hby, hcy⟩ := hc (by intro e; simp [e] at hky)
        subst hay
        have hcyk := (Hid.out z6).cell (p := ⟨b2, oy + k, none⟩) hby |>.trans (hcy k hky)
        have HR := Lib.hid hrel
        clear hrel hc hcy z6
        by_cases hlt : lim xs k < b + lim ys k
        · go_wp2
          exact ⟨⟨k + 1, 1, by omega, by go_num, rfl, HR.out.step' (Nat.le_refl _) hkn (z := lim xs k + 1000000000 - (b + lim ys k)) (by omega) (by omega) (by omega) (by omega)⟩, by simp only [intOf]; omega⟩
        · go_wp2
          exact ⟨⟨k + 1, 0, by omega, by go_num, rfl, HR.out.step' (Nat.le_refl _) hkn (z := lim xs k - (b + lim ys k)) (by omega) (by omega) (by omega) (by omega)⟩, by simp only [intOf]; omega⟩
      · clear hc z6
        have hyk0 := lim_ge ys k (by omega)
        have HR := Lib.hid hrel
        have HY := Lib.hid hyk0
        clear hrel hyk hyk0
        by_cases hlt : lim xs k < b
        · go_wp2
          have := HY.out
          exact ⟨⟨k + 1, 1, by omega, by go_num, rfl, HR.out.step' (Nat.le_refl _) hkn (z := lim xs k + 1000000000 - b) (by omega) (by omega) (by omega) (by omega)⟩, by simp only [intOf]; omega⟩
        · go_wp2
          have := HY.out
          exact ⟨⟨k + 1, 0, by omega, by go_num, rfl, HR.out.step' (Nat.le_refl _) hkn (z := lim xs k - b) (by omega) (by omega) (by omega) (by omega)⟩, by simp only [intOf]; omega⟩
    · obtain rfl : k = xs.length := by omega
      obtain ⟨zs, z1, z2, z3, z4, z5, z6⟩ := id hrel
      have Z1 := Lib.hid z1
      have Z5 := Lib.hid z5
      have hsl := z3.sl
      rw [z1] at hsl
      clear z1 z5 hrel ha hc hmk
      go_wp2_with (go_at_call 169; refine (trim_any _ _ _ (by have := Z1.out; omega) hsl).mono ?_; rintro e w' ⟨v, k, rfl, ht, hs, hf, rfl⟩)
      go_ret
      have e5 := Z5.out
      have e1 := Z1.out
      rw [lo_all _ _ (by omega), lo_all _ _ (by omega), lo_all _ _ (by omega)] at e5
      have hlt := lv_lt z2
      rw [e1] at hlt
      have hb : b = 0 := by
        rcases Nat.eq_zero_or_pos b with h | h
        · exact h
        · have : 1 * 1000000000 ^ xs.length ≤ b * 1000000000 ^ xs.length := Nat.mul_le_mul_right _ h
          omega
      rw [hb, Nat.zero_mul] at e5
      exact ⟨v, rfl, ⟨zs.take k, ht.canon z2, by rw [ht.lv]; omega, hs⟩, hf _ (Nat.le_refl _), z6⟩
/-- sub, at every two numbers, the second one of which is not greater. -/
theorem sub_any (w : World) (v u : Value) (n m : Nat) (hn : Num w v n) (hm : Num w u m) (hle : m ≤ n) (hb : Small n) :
    Calls Tryz.prog 147 #[v, u] w (PostNumV w.heap.size w (n - m)) := by
  obtain ⟨xs, hx, rfl, hsx⟩ := hn
  obtain ⟨ys, hy, rfl, hsy⟩ := hm
  have hl := hx.len_le (k := 200) hb
  have hyl := hy.len_mono hx hle
  obtain ⟨a, cap, rfl, ha⟩ := hsx.addr
  obtain ⟨c, cap', rfl, hc⟩ := hsy.addr
  exact sub_walk w a cap xs c cap' ys (by omega) hyl hx.1 hy.1 hle ha hc
end Nt
end Go.Proofs.YtpmlhgmmobpilaaGreatDoor

namespace Go.Proofs.YtpmlhgmmobpilaaGreatDoor
open Go.RowKit
namespace Nt
def ParseRel (B : Nat) (w : World) (l : List UInt8) (v : Value) (i : Value) (wr : World) : Prop :=
  ∃ (k e : Nat) (zs : List Nat) (j : Int), i = .int .i64 j ∧ e = j.toNat ∧ j + 9 * k = l.length ∧ k ≤ l.length ∧ -9 < j ∧ InR zs ∧ Own 177 B wr v k zs ∧ dval (l.take e) * 1000000000 ^ k + lv zs = dval l ∧ Below B w wr
theorem Own.from_block {t : TypeId} {B : Nat} {w : World} {v : Value} {n : Nat} {xs : List Nat} (h : Own t B w v n xs) (b : Nat) (e : v.ownBlock = some b) : B ≤ b := by
  have := h.from
  cases v <;> simp [Value.ownBlock] at e
  rename_i a l c
  cases a with
  | none => simp at e
  | some ad => simp at e; subst e; exact this
set_option maxRecDepth 100000 in
set_option maxHeartbeats 1000000 in
theorem parse_any (s : ByteArray) (w : World) (hs : s.size ≤ 1000) (hd : ∀ c ∈ s.data.toList, isDig c) :
    Calls Tryz.prog 129 #[.string s] w (PostNumV w.heap.size w (dval s.data.toList)) := by
  obtain ⟨i0, hi, hz0, hz1, hz2⟩ := info_parts infoU
  have hsl : s.data.toList.length = s.size := by simp
  have HSL := Lib.hid hsl
  have HD := Lib.hid hd
  clear hsl hd
  go_enter Tryz.func129, Tryz.ntmps129
  go_wp2
  go_loopw [3, 4] (fun v i wr => ParseRel w.heap.size w s.data.toList v i wr) (fun _ i _ => (intOf i).toNat)
  case atStart =>
    have := HSL.out
    exact ⟨0, s.size, [], s.size, rfl, by simp, by omega, by omega, by omega, fun x hx => absurd hx (by simp), World.ownsRow_nil _ _ _ _, by rw [List.take_of_length_le (by omega)]; simp [lv], Below.refl _ _⟩
  case round =>
    obtain ⟨k, e, zs, j, rfl, he, hk, hk2, hj, z1, z2, z3, z4⟩ := hrel
    have hsl := HSL.out
    rw [hsl] at hk hk2
    clear hsl
    have hsz := z4.size
    by_cases hp : 0 < j
    · obtain ⟨q, hq⟩ : ∃ q : Nat, j = (q : Int) := ⟨j.toNat, by omega⟩
      subst hq
      have he' : e = q := by omega
      subst he'
      have hqs : e ≤ s.size := by omega
      obtain ⟨a, ha⟩ : ∃ a, a = e - 9 := ⟨_, rfl⟩
      have ha1 : a ≤ e := by omega
      have hpu := parseUint_ok (s.extract a e) (by simp; omega) (dval ((s.data.toList.take e).drop a)) ?pc wr
      case pc =>
        have e1 : (s.extract a e).data.toList = (s.data.toList.take e).drop a := by rw [Lib.extract_data, List.drop_take]
        rw [e1]
        refine parse_chunk (fun c hc => HD.out c (List.mem_of_mem_take (List.mem_of_mem_drop hc))) ?_ ?_
        · intro h; have := congrArg List.length h; simp at this; have := HSL.out; simp at this; omega
        · simp; omega
      have hlt : dval ((s.data.toList.take e).drop a) < 1000000000 := by
        have h1 := dval_lt (l := (s.data.toList.take e).drop a) (fun c hc => HD.out c (List.mem_of_mem_take (List.mem_of_mem_drop hc)))
        have h2 : ((s.data.toList.take e).drop a).length ≤ 9 := by simp; omega
        exact Nat.lt_of_lt_of_le h1 (Nat.le_trans (Nat.pow_le_pow_right (by omega) h2) (by decide))
      have hval : dval (s.data.toList.take a) * 1000000000 ^ (k + 1) + (lv zs + 1000000000 ^ k * dval ((s.data.toList.take e).drop a)) = dval s.data.toList := by
        have hsplit : s.data.toList.take e = s.data.toList.take a ++ (s.data.toList.take e).drop a := by
          have h1 := (List.take_append_drop a (s.data.toList.take e)).symm
          rw [List.take_take, Nat.min_eq_left ha1] at h1
          exact h1
        rw [← z3]
        conv => rhs; rw [hsplit, dval_append]
        have hlen : ((s.data.toList.take e).drop a).length = e - a := by
          rw [List.length_drop, List.length_take, HSL.out, Nat.min_eq_left hqs]
        rw [hlen]
        rcases Nat.eq_zero_or_pos a with h0 | h0
        · rw [h0, List.take_zero, dval_nil, Nat.zero_mul, Nat.zero_mul, Nat.zero_add, Nat.zero_add, Nat.mul_comm (1000000000 ^ k)]
          omega
        · have h9 : e - a = 9 := by omega
          rw [h9, Nat.pow_succ, Nat.add_mul, Nat.mul_comm (1000000000 ^ k) (dval _)]
          have : dval (s.data.toList.take a) * (1000000000 ^ k * 1000000000) = dval (s.data.toList.take a) * 10 ^ 9 * 1000000000 ^ k := by
            rw [Nat.mul_comm (1000000000 ^ k), Nat.mul_assoc, show (10 : Nat) ^ 9 = 1000000000 from rfl]
          omega
      generalize dval ((s.data.toList.take e).drop a) = x at hpu hlt hval
      replace z1 := Lib.hid z1
      replace z3 := Lib.hid z3
      replace z4 := Lib.hid z4
      replace hval := Lib.hid hval
      replace he := Lib.hid he
      replace hk := Lib.hid hk
      have hmx : max (0 : Int) ((e : Int) - 9) = (a : Int) := by omega
      have HA := Lib.hid ha
      clear ha
      go_wp2_with (first
        | (go_at_call 168; refine hpu.mono ?_; rintro e w1 ⟨rfl, hb1⟩; replace hb1 := Lib.hid hb1)
        | (at_builtin; refine wpList_append_own _ rfl _ _ 132 rfl w.heap.size 177 i0 (.int .u64 0) 1 8 Tryz.underlying132 hi hz0 hz1 hz2 rfl (by decide) u3 k (lvals zs) rfl ((z2.below hb1.out).alloc _) ⟨w1.heap.size, 0, none⟩ 1 1 [.int .u64 (x : Int)] rfl rfl (one_new _ _ _) (one_cell _ _) (by unfold maxLen; omega) (by omega) (by have := hb1.out.size; simp; omega) ?_; intro v2 w2 hown2 hgr2 _))
      have hb1' := hb1.out
      have hsz1 := hb1'.size
      rw [lvals_snoc] at hown2
      refine ⟨⟨k + 1, a, zs ++ [x], (e : Int) - 9, rfl, by have := HA.out; omega, by have := hk.out; have := HSL.out; omega, ?_, by omega, ?_, hown2, ?_, ((z4.out.trans (hb1'.mono hsz)).alloc (by omega) _).grown hgr2 (by simp; omega) (fun b e => z2.from_block b e)⟩, by simp only [intOf]; omega⟩
      · have := hk.out; have := HSL.out; omega
      · intro y hy
        rcases List.mem_append.1 hy with h | h
        · exact z1.out y h
        · simp at h; omega
      · rw [lv_append, z2.len]
        have := hval.out
        simp only [lv, Nat.mul_zero, Nat.add_zero]
        omega
    · obtain rfl : e = 0 := by omega
      have hsl := z2.sl
      have hzl := z2.len
      have hfr := z2.from
      replace z3 := Lib.hid z3
      replace hzl := Lib.hid hzl
      replace z4 := Lib.hid z4
      have hj0 : ¬ (0 : Int) < j := hp
      have ht := trim_any wr u3 zs (by have := hzl.out; omega) hsl
      obtain ⟨a3, l3, c3, e3⟩ : ∃ a l c, u3 = .slice a l c := by obtain ⟨a, c, h, _⟩ := hsl; exact ⟨a, _, c, h⟩
      subst e3
      clear z2 hsl he hk
      go_wp2_with (go_at_call 169; refine ht.mono ?_; rintro e w' ⟨v, k', rfl, ht', hs', hf', rfl⟩)
      go_ret
      have := z3.out
      rw [List.take_zero, dval_nil, Nat.zero_mul, Nat.zero_add] at this
      exact ⟨v, rfl, ⟨zs.take k', ht'.canon z1, by rw [ht'.lv, this], hs'⟩, hf' _ hfr, z4.out⟩
end Nt
end Go.Proofs.YtpmlhgmmobpilaaGreatDoor

namespace Go.Proofs.YtpmlhgmmobpilaaGreatDoor
open Go.RowKit
namespace Nt
def RelAdd (B : Nat) (w : World) (xs ys : List Nat) (v : Value) (k c : Nat) (wr : World) : Prop :=
  ∃ zs, InR zs ∧ Own 177 B wr v k zs ∧ c ≤ 1 ∧ lv zs + c * 1000000000 ^ k = lo xs k + lo ys k ∧ Below B w wr
theorem add_step {Z X Y P c c' x y : Nat} (h : Z + c * P = X + Y) (hc : c' = (x + c + y) / 1000000000) :
    Z + P * ((x + c + y) % 1000000000) + c' * (P * 1000000000) = X + P * x + (Y + P * y) := by
  have e1 : P * (x + c + y) = P * x + P * c + P * y := by rw [Nat.mul_add, Nat.mul_add]
  have e2 : P * (x + c + y) = P * ((x + c + y) % 1000000000) + P * (1000000000 * ((x + c + y) / 1000000000)) := by rw [← Nat.mul_add, Nat.mod_add_div]
  have e3 : c' * (P * 1000000000) = P * (1000000000 * ((x + c + y) / 1000000000)) := by rw [hc, Nat.mul_comm, Nat.mul_assoc]
  have e4 : c * P = P * c := Nat.mul_comm _ _
  omega
theorem add_rel {B : Nat} {w wr w' : World} {xs ys zs : List Nat} {v v' : Value} {k c : Nat} {x : Int} (h1 : InR zs) (h2 : Own 177 B wr v k zs) (h3 : c ≤ 1)
    (h4 : lv zs + c * 1000000000 ^ k = lo xs k + lo ys k) (h5 : Below B w wr) (hx : InR xs) (hy : InR ys) (hB : B ≤ wr.heap.size) {o : Obj}
    (hown : w'.ownsRow B 177 1 v' (k + 1) (lvals zs ++ [Value.int .u64 x])) (hg : (wr.alloc o).grownBy w' v.ownBlock) (hvB : ∀ b, v.ownBlock = some b → B ≤ b)
    (hxe : x = (((lim xs k + c + lim ys k) % 1000000000 : Nat) : Int)) :
    RelAdd B w xs ys v' (k + 1) ((lim xs k + c + lim ys k) / 1000000000) w' := by
  have b1 := hx.lim k
  have b2 := hy.lim k
  subst hxe
  rw [lvals_snoc] at hown
  have hl := h2.len
  refine ⟨zs ++ [(lim xs k + c + lim ys k) % 1000000000], ?_, hown, by omega, ?_, (h5.alloc hB o).grown hg (by simp; omega) (fun b e => hvB b e)⟩
  · intro y hy
    rcases List.mem_append.1 hy with h | h
    · exact h1 y h
    · simp at h; subst h; exact Nat.mod_lt _ (by omega)
  · rw [lv_append, hl, lo_succ, lo_succ, Nat.pow_succ]
    simp only [lv, Nat.mul_zero, Nat.add_zero]
    exact add_step h4 rfl
theorem cast_rem3 (a b c : Nat) : ((a : Int) + b + c) % 1000000000 = (((a + b + c) % 1000000000 : Nat) : Int) := by
  rw [Int.natCast_emod, Int.natCast_add, Int.natCast_add]; rfl
theorem cast_quo3 (a b c : Nat) : ((a : Int) + b + c) / 1000000000 = (((a + b + c) / 1000000000 : Nat) : Int) := by
  rw [Int.natCast_ediv, Int.natCast_add, Int.natCast_add]; rfl
theorem cast_rem2 (a b : Nat) : ((a : Int) + b) % 1000000000 = (((a + b) % 1000000000 : Nat) : Int) := by
  rw [Int.natCast_emod, Int.natCast_add]; rfl
theorem cast_quo2 (a b : Nat) : ((a : Int) + b) / 1000000000 = (((a + b) / 1000000000 : Nat) : Int) := by
  rw [Int.natCast_ediv, Int.natCast_add]; rfl
theorem add_end {B : Nat} {w wr w' : World} {xs ys zs : List Nat} {v v' : Value} {c : Nat} {x : Int} (h1 : InR zs) (h2 : Own 177 B wr v xs.length zs) (h3 : c ≤ 1)
    (h4 : lv zs + c * 1000000000 ^ xs.length = lo xs xs.length + lo ys xs.length) (h5 : Below B w wr) (hyl : ys.length ≤ xs.length) (hB : B ≤ wr.heap.size) {o : Obj}
    (hown : w'.ownsRow B 177 1 v' (xs.length + 1) (lvals zs ++ [Value.int .u64 x])) (hg : (wr.alloc o).grownBy w' v.ownBlock) (hvB : ∀ b, v.ownBlock = some b → B ≤ b) (hxe : x = (c : Int)) :
    ∃ us, InR us ∧ Sl w' v' us ∧ us.length = xs.length + 1 ∧ lv us = lv xs + lv ys ∧ Below B w w' := by
  subst hxe
  rw [lvals_snoc] at hown
  have hl := h2.len
  have ho : Own 177 B w' v' (xs.length + 1) (zs ++ [c]) := hown
  refine ⟨zs ++ [c], ?_, ho.sl, ho.len, ?_, (h5.alloc hB o).grown hg (by simp; omega) (fun b e => hvB b e)⟩
  · intro y hy
    rcases List.mem_append.1 hy with h | h
    · exact h1 y h
    · simp at h; omega
  · rw [lo_all _ _ (Nat.le_refl _), lo_all _ _ hyl] at h4
    rw [lv_append, hl]
    simp only [lv, Nat.mul_zero, Nat.add_zero]
    have : c * 1000000000 ^ xs.length = 1000000000 ^ xs.length * c := Nat.mul_comm _ _
    omega
def RelAddAt (B : Nat) (w : World) (xs ys : List Nat) (g cap : Nat) (out carry i : Value) (wr : World) : Prop :=
  ∃ k c : Nat, k ≤ xs.length ∧ i = .int .i64 k ∧ carry = .int .u64 c ∧ out = .slice (some ⟨g, 0, none⟩) k cap ∧ RelAdd B w xs ys out k c wr
set_option maxHeartbeats 2000000 in
theorem add_walk (w : World) (a : Option Addr) (cap : Nat) (xs : List Nat) (c : Option Addr) (cap' : Nat) (ys : List Nat) (hl : xs.length ≤ 1000) (hyl : ys.length ≤ xs.length)
    (hx : InR xs) (hy : InR ys)
    (ha : xs ≠ [] → ∃ b off, a = some ⟨b, off, none⟩ ∧ b < w.heap.size ∧ ∀ i, i < xs.length → w.cell? ⟨b, off + i, none⟩ = some (.int .u64 (lim xs i)))
    (hc : ys ≠ [] → ∃ b off, c = some ⟨b, off, none⟩ ∧ b < w.heap.size ∧ ∀ i, i < ys.length → w.cell? ⟨b, off + i, none⟩ = some (.int .u64 (lim ys i))) :
    Calls Tryz.prog 132 #[.slice a xs.length cap, .slice c ys.length cap'] w (PostNumV w.heap.size w (lv xs + lv ys)) := by
  obtain ⟨i0, hi, hz0, hz1, hz2⟩ := info_parts infoU
  have hlt : ¬ xs.length < ys.length := by omega
  go_enter Tryz.func132, Tryz.ntmps132
  go_wp2_with (at_make; refine wpList_make_own _ rfl _ _ 132 rfl w.heap.size 177 i0 (.int .u64 0) 1 Tryz.underlying132 hi hz0 hz1 _ _ _ (xs.length + 1) rfl rfl (by omega) (by rw [hz2]; omega) (by unfold maxLen; omega) (Nat.le_refl _) ?_; intro w1 hown1 hgr1)
  go_loopw [5, 6, 22] (fun out carry i wr => RelAddAt w.heap.size w xs ys w.heap.size (xs.length + 1) out carry i wr)
    (fun _ _ i _ => xs.length - (intOf i).toNat)
  case atStart => exact ⟨0, 0, Nat.zero_le _, rfl, rfl, rfl, [], (fun x hx => absurd hx (by simp)), hown1, Nat.zero_le _, by simp [lo_zero, lv], (Below.refl _ _).grown hgr1 (Nat.le_refl _) (fun k h => by cases h)⟩
  case round =>
    obtain ⟨k, b, hk, rfl, rfl, rfl, zs, z1, z2, z3, z4, z5⟩ := hrel
    have hsz := z5.size
    by_cases hkn : k < xs.length
    · obtain ⟨bx, ox, hax, hbx, hcx⟩ := ha (by intro e; simp [e] at hkn)
      have hcxk := (z5.cell (p := ⟨bx, ox + k, none⟩) hbx).trans (hcx k hkn)
      have hxk := hx.lim k
      have hyk := hy.lim k
      subst hax
      clear hcx ha hown1 hgr1
      by_cases hky : k < ys.length
      · obtain ⟨b2, oy, hay, hby, hcy⟩ := hc (by intro e; simp [e] at hky)
        subst hay
        have hcyk := z5.cell (p := ⟨b2, oy + k, none⟩) hby |>.trans (hcy k hky)
        replace z1 := Lib.hid z1
        replace z4 := Lib.hid z4
        replace z5 := Lib.hid z5
        replace hx := Lib.hid hx
        replace hy := Lib.hid hy
        have HO := z2
        clear hc hcy
        go_wp2_with (at_builtin; refine wpList_append_fits _ rfl _ _ 132 rfl w.heap.size 177 i0 1 Tryz.underlying132 hi hz1 w.heap.size k (xs.length + 1) (lvals zs) rfl (HO.alloc _) ⟨wr.heap.size, 0, none⟩ 1 1 [.int .u64 (((lim xs k : Int) + b + lim ys k) % 1000000000)] rfl rfl (one_new _ _ _) (one_cell _ _) (by omega) ?_; intro w2 hown2 hgr2)
        refine ⟨⟨k + 1, (lim xs k + b + lim ys k) / 1000000000, by omega, by go_num, congrArg (Value.int .u64) (cast_quo3 _ _ _), rfl, ?_⟩, by simp only [intOf]; omega⟩
        exact add_rel z1.out z2 z3 z4.out z5.out hx.out hy.out hsz hown2 hgr2 (fun b e => by cases e; exact Nat.le_refl _) (cast_rem3 _ _ _)
      · have HY0 := Lib.hid (lim_ge ys k (by omega))
        replace z1 := Lib.hid z1
        replace z4 := Lib.hid z4
        replace z5 := Lib.hid z5
        replace hx := Lib.hid hx
        replace hy := Lib.hid hy
        have HO := z2
        clear hc hyk
        go_wp2_with (at_builtin; refine wpList_append_fits _ rfl _ _ 132 rfl w.heap.size 177 i0 1 Tryz.underlying132 hi hz1 w.heap.size k (xs.length + 1) (lvals zs) rfl (HO.alloc _) ⟨wr.heap.size, 0, none⟩ 1 1 [.int .u64 (((lim xs k : Int) + b) % 1000000000)] rfl rfl (one_new _ _ _) (one_cell _ _) (by omega) ?_; intro w2 hown2 hgr2)
        have e0 := HY0.out
        refine ⟨⟨k + 1, (lim xs k + b + lim ys k) / 1000000000, by omega, by go_num, ?_, rfl, ?_⟩, by simp only [intOf]; omega⟩
        · rw [e0, Nat.add_zero]; exact congrArg (Value.int .u64) (cast_quo2 _ _)
        · exact add_rel z1.out z2 z3 z4.out z5.out hx.out hy.out hsz hown2 hgr2 (fun b e => by cases e; exact Nat.le_refl _) (by rw [e0, Nat.add_zero]; exact cast_rem2 _ _)
    · obtain rfl : k = xs.length := by omega
      replace z1 := Lib.hid z1
      replace z4 := Lib.hid z4
      replace z5 := Lib.hid z5
      have HO := z2
      clear ha hc hx hy hown1 hgr1
      go_wp2_with (at_builtin; refine wpList_append_fits _ rfl _ _ 132 rfl w.heap.size 177 i0 1 Tryz.underlying132 hi hz1 w.heap.size xs.length (xs.length + 1) (lvals zs) rfl (HO.alloc _) ⟨wr.heap.size, 0, none⟩ 1 1 [.int .u64 (b : Int)] rfl rfl (one_new _ _ _) (one_cell _ _) (by omega) ?_; intro w2 hown2 hgr2)
      obtain ⟨us, u1, u2, u3, u4, u5⟩ := add_end z1.out z2 z3 z4.out z5.out (by omega) hsz hown2 hgr2 (fun b e => by cases e; exact Nat.le_refl _) rfl
      have U3 := Lib.hid u3
      have U4 := Lib.hid u4
      clear u3 u4 hown2 hgr2
      refine (trim_any _ _ us (by have := U3.out; omega) u2).mono ?_
      rintro e w' ⟨v, k, rfl, ht, hs, hf, rfl⟩
      go_wp2
      go_ret
      exact ⟨v, rfl, ⟨us.take k, ht.canon u1, by rw [ht.lv, U4.out], hs⟩, hf _ (Nat.le_refl _), u5⟩
set_option maxHeartbeats 2000000 in
theorem add_walk_swap (w : World) (a : Option Addr) (cap : Nat) (xs : List Nat) (c : Option Addr) (cap' : Nat) (ys : List Nat) (hl : xs.length ≤ 1000) (hyl : ys.length < xs.length)
    (hx : InR xs) (hy : InR ys)
    (ha : xs ≠ [] → ∃ b off, a = some ⟨b, off, none⟩ ∧ b < w.heap.size ∧ ∀ i, i < xs.length → w.cell? ⟨b, off + i, none⟩ = some (.int .u64 (lim xs i)))
    (hc : ys ≠ [] → ∃ b off, c = some ⟨b, off, none⟩ ∧ b < w.heap.size ∧ ∀ i, i < ys.length → w.cell? ⟨b, off + i, none⟩ = some (.int .u64 (lim ys i))) :
    Calls Tryz.prog 132 #[.slice c ys.length cap', .slice a xs.length cap] w (PostNumV w.heap.size w (lv xs + lv ys)) := by
  obtain ⟨i0, hi, hz0, hz1, hz2⟩ := info_parts infoU
  have hlt : ys.length < xs.length := hyl
  go_enter Tryz.func132, Tryz.ntmps132
  go_wp2_with (at_make; refine wpList_make_own _ rfl _ _ 132 rfl w.heap.size 177 i0 (.int .u64 0) 1 Tryz.underlying132 hi hz0 hz1 _ _ _ (xs.length + 1) rfl rfl (by omega) (by rw [hz2]; omega) (by unfold maxLen; omega) (Nat.le_refl _) ?_; intro w1 hown1 hgr1)
  go_loopw [5, 6, 22] (fun out carry i wr => RelAddAt w.heap.size w xs ys w.heap.size (xs.length + 1) out carry i wr)
    (fun _ _ i _ => xs.length - (intOf i).toNat)
  case atStart => exact ⟨0, 0, Nat.zero_le _, rfl, rfl, rfl, [], (fun x hx => absurd hx (by simp)), hown1, Nat.zero_le _, by simp [lo_zero, lv], (Below.refl _ _).grown hgr1 (Nat.le_refl _) (fun k h => by cases h)⟩
  case round =>
    obtain ⟨k, b, hk, rfl, rfl, rfl, zs, z1, z2, z3, z4, z5⟩ := hrel
    have hsz := z5.size
    by_cases hkn : k < xs.length
    · obtain ⟨bx, ox, hax, hbx, hcx⟩ := ha (by intro e; simp [e] at hkn)
      have hcxk := (z5.cell (p := ⟨bx, ox + k, none⟩) hbx).trans (hcx k hkn)
      have hxk := hx.lim k
      have hyk := hy.lim k
      subst hax
      clear hcx ha hown1 hgr1
      by_cases hky : k < ys.length
      · obtain ⟨b2, oy, hay, hby, hcy⟩ := hc (by intro e; simp [e] at hky)
        subst hay
        have hcyk := z5.cell (p := ⟨b2, oy + k, none⟩) hby |>.trans (hcy k hky)
        replace z1 := Lib.hid z1
        replace z4 := Lib.hid z4
        replace z5 := Lib.hid z5
        replace hx := Lib.hid hx
        replace hy := Lib.hid hy
        have HO := z2
        clear hc hcy
        go_wp2_with (at_builtin; refine wpList_append_fits _ rfl _ _ 132 rfl w.heap.size 177 i0 1 Tryz.underlying132 hi hz1 w.heap.size k (xs.length + 1) (lvals zs) rfl (HO.alloc _) ⟨wr.heap.size, 0, none⟩ 1 1 [.int .u64 (((lim xs k : Int) + b + lim ys k) % 1000000000)] rfl rfl (one_new _ _ _) (one_cell _ _) (by omega) ?_; intro w2 hown2 hgr2)
        refine ⟨⟨k + 1, (lim xs k + b + lim ys k) / 1000000000, by omega, by go_num, congrArg (Value.int .u64) (cast_quo3 _ _ _), rfl, ?_⟩, by simp only [intOf]; omega⟩
        exact add_rel z1.out z2 z3 z4.out z5.out hx.out hy.out hsz hown2 hgr2 (fun b e => by cases e; exact Nat.le_refl _) (cast_rem3 _ _ _)
      · have HY0 := Lib.hid (lim_ge ys k (by omega))
        replace z1 := Lib.hid z1
        replace z4 := Lib.hid z4
        replace z5 := Lib.hid z5
        replace hx := Lib.hid hx
        replace hy := Lib.hid hy
        have HO := z2
        clear hc hyk
        go_wp2_with (at_builtin; refine wpList_append_fits _ rfl _ _ 132 rfl w.heap.size 177 i0 1 Tryz.underlying132 hi hz1 w.heap.size k (xs.length + 1) (lvals zs) rfl (HO.alloc _) ⟨wr.heap.size, 0, none⟩ 1 1 [.int .u64 (((lim xs k : Int) + b) % 1000000000)] rfl rfl (one_new _ _ _) (one_cell _ _) (by omega) ?_; intro w2 hown2 hgr2)
        have e0 := HY0.out
        refine ⟨⟨k + 1, (lim xs k + b + lim ys k) / 1000000000, by omega, by go_num, ?_, rfl, ?_⟩, by simp only [intOf]; omega⟩
        · rw [e0, Nat.add_zero]; exact congrArg (Value.int .u64) (cast_quo2 _ _)
        · exact add_rel z1.out z2 z3 z4.out z5.out hx.out hy.out hsz hown2 hgr2 (fun b e => by cases e; exact Nat.le_refl _) (by rw [e0, Nat.add_zero]; exact cast_rem2 _ _)
    · obtain rfl : k = xs.length := by omega
      replace z1 := Lib.hid z1
      replace z4 := Lib.hid z4
      replace z5 := Lib.hid z5
      have HO := z2
      clear ha hc hx hy hown1 hgr1
      go_wp2_with (at_builtin; refine wpList_append_fits _ rfl _ _ 132 rfl w.heap.size 177 i0 1 Tryz.underlying132 hi hz1 w.heap.size xs.length (xs.length + 1) (lvals zs) rfl (HO.alloc _) ⟨wr.heap.size, 0, none⟩ 1 1 [.int .u64 (b : Int)] rfl rfl (one_new _ _ _) (one_cell _ _) (by omega) ?_; intro w2 hown2 hgr2)
      obtain ⟨us, u1, u2, u3, u4, u5⟩ := add_end z1.out z2 z3 z4.out z5.out (by omega) hsz hown2 hgr2 (fun b e => by cases e; exact Nat.le_refl _) rfl
      have U3 := Lib.hid u3
      have U4 := Lib.hid u4
      clear u3 u4 hown2 hgr2
      refine (trim_any _ _ us (by have := U3.out; omega) u2).mono ?_
      rintro e w' ⟨v, k, rfl, ht, hs, hf, rfl⟩
      go_wp2
      go_ret
      exact ⟨v, rfl, ⟨us.take k, ht.canon u1, by rw [ht.lv, U4.out], hs⟩, hf _ (Nat.le_refl _), u5⟩
/-- add, at every two numbers. -/
theorem add_any (w : World) (v u : Value) (n m : Nat) (hn : Num w v n) (hm : Num w u m) (hbn : Small n) (hbm : Small m) :
    Calls Tryz.prog 132 #[v, u] w (PostNumV w.heap.size w (n + m)) := by
  obtain ⟨xs, hx, rfl, hsx⟩ := hn
  obtain ⟨ys, hy, rfl, hsy⟩ := hm
  have hl := hx.len_le (k := 200) hbn
  have hyl := hy.len_le (k := 200) hbm
  obtain ⟨a, cap, rfl, ha⟩ := hsx.addr
  obtain ⟨c, cap', rfl, hc⟩ := hsy.addr
  by_cases h : ys.length ≤ xs.length
  · exact add_walk w a cap xs c cap' ys (by omega) h hx.1 hy.1 ha hc
  · rw [Nat.add_comm]
    exact add_walk_swap w c cap' ys a cap xs (by omega) (by omega) hy.1 hx.1 hc ha
end Nt
end Go.Proofs.YtpmlhgmmobpilaaGreatDoor

namespace Go.Proofs.YtpmlhgmmobpilaaGreatDoor
open Go.RowKit Go.Shelf
attribute [local go_sem] Oper.semAt_some
namespace Nt
/-- -1, 0 or 1 -/
def cmpN (x y : Nat) : Int := if x < y then -1 else if y < x then 1 else 0
theorem cmpU (x y : Nat) (w : World) :
    Calls Tryz.prog 186 #[.int .u64 (x : Int), .int .u64 (y : Int)] w fun e w' => e = .returned (.int .i64 (cmpN x y)) ∧ w = w' := by
  have h : x < y ∨ (¬ x < y ∧ y < x) ∨ (¬ x < y ∧ ¬ y < x) := by omega
  unfold cmpN
  rcases h with h | ⟨h, h'⟩ | ⟨h, h'⟩
  all_goals
    go_enter Tryz.func186, Tryz.ntmps186
    go_wp2
    go_ret
    simp_all
theorem cmpI (x y : Nat) (w : World) :
    Calls Tryz.prog 78 #[.int .i64 (x : Int), .int .i64 (y : Int)] w fun e w' => e = .returned (.int .i64 (cmpN x y)) ∧ w = w' := by
  have h : x < y ∨ (¬ x < y ∧ y < x) ∨ (¬ x < y ∧ ¬ y < x) := by omega
  unfold cmpN
  rcases h with h | ⟨h, h'⟩ | ⟨h, h'⟩
  all_goals
    go_enter Tryz.func78, Tryz.ntmps78
    go_wp2
    go_ret
    simp_all
theorem cmpI_same (x : Nat) (w : World) :
    Calls Tryz.prog 78 #[.int .i64 (x : Int), .int .i64 (x : Int)] w fun e w' => e = .returned (.int .i64 0) ∧ w = w' := by
  go_enter Tryz.func78, Tryz.ntmps78
  go_wp2
  go_ret
  exact ⟨rfl, rfl⟩
theorem cmpU_same (x : Nat) (w : World) :
    Calls Tryz.prog 186 #[.int .u64 (x : Int), .int .u64 (x : Int)] w fun e w' => e = .returned (.int .i64 0) ∧ w = w' := by
  go_enter Tryz.func186, Tryz.ntmps186
  go_wp2
  go_ret
  exact ⟨rfl, rfl⟩
theorem cmpN_lt {x y : Nat} (h : x < y) : cmpN x y = -1 := by simp [cmpN, h]
theorem cmpN_gt {x y : Nat} (h : y < x) : cmpN x y = 1 := by unfold cmpN; rw [if_neg (by omega), if_pos h]
theorem cmpN_eq (x : Nat) : cmpN x x = 0 := by simp [cmpN]
theorem cmpN_zero {x y : Nat} (h : cmpN x y = 0) : x = y := by
  unfold cmpN at h
  split at h
  · cases h
  · split at h
    · cases h
    · omega
theorem KeepsOthers.of_below {W W' : World} (h : Below W.heap.size W W') : KeepsOthers W W' :=
  ⟨h.size, fun k _ hk _ => (h.block k (Array.getElem?_eq_some_iff.1 hk).1).trans hk⟩
/-- compare, where the lengths are different -/
theorem compare_len (w : World) (a : Option Addr) (n cap : Nat) (c : Option Addr) (m cap' : Nat) (hne : n ≠ m) :
    Calls Tryz.prog 146 #[.slice a n cap, .slice c m cap'] w fun e w' => e = .returned (.int .i64 (cmpN n m)) ∧ Below w.heap.size w w' := by
  have hc0 : (cmpN n m != 0) = true := by
    rw [bne_iff_ne]
    intro h
    exact hne (cmpN_zero h)
  go_enter Tryz.func146, Tryz.ntmps146
  go_wp2_with (go_at_call 78; refine (cmpI n m _).mono ?_; rintro e w' ⟨rfl, rfl⟩)
  refine bodyPost_ret (v := .int .i64 (cmpN n m)) (by simp [results, Tryz.results146, go_sem]) rfl ⟨rfl, ?_⟩
  exact ((Below.refl _ w).alloc (Nat.le_refl _) _).alloc (by simp) _
theorem mem_back {n : Nat} (k : Nat) (hk : k ≤ n) (p : Place n) : p ∈ back n k ↔ n - k ≤ p.1 := by
  induction k with
  | zero => simp [back_zero]; omega
  | succ k ih =>
    rw [back_succ n k (by omega), List.mem_append, ih (by omega)]
    simp only [List.mem_cons, List.not_mem_nil, or_false]
    constructor
    · rintro (h | h)
      · omega
      · have hv := congrArg Subtype.val h; dsimp only at hv; omega
    · intro h
      by_cases e : p.1 = n - 1 - k
      · right; exact Subtype.ext e
      · left; omega
theorem lv_above {xs ys : List Nat} (he : xs.length = ys.length) (k : Nat) (hk : k ≤ xs.length) (h : ∀ j, k ≤ j → j < xs.length → lim xs j = lim ys j) : lv xs + lo ys k = lv ys + lo xs k := by
  obtain ⟨d, hd⟩ : ∃ d, k + d = xs.length := ⟨xs.length - k, by omega⟩
  induction d generalizing k with
  | zero => rw [lo_all ys k (by omega), lo_all xs k (by omega)]; omega
  | succ d ih =>
    have := ih (k + 1) (by omega) (fun j h1 h2 => h j (by omega) h2) (by omega)
    rw [lo_succ, lo_succ, h k (Nat.le_refl _) (by omega)] at this
    omega
theorem eq_of_back {xs ys : List Nat} (he : xs.length = ys.length) (h : ∀ p : Place xs.length, p ∈ back xs.length xs.length → lim xs p.1 = lim ys p.1) : lv xs = lv ys := by
  have := lv_above he 0 (Nat.zero_le _) (fun j _ hj => h ⟨j, hj⟩ ((mem_back _ (Nat.le_refl _) _).2 (by simp)))
  rw [lo_zero, lo_zero] at this
  omega
theorem lt_of_limb {A a B b P x y : Nat} (h : A + (b + P * y) = B + (a + P * x)) (ha : a < P) (hxy : x < y) : A < B := by
  have : P * (x + 1) ≤ P * y := Nat.mul_le_mul_left _ hxy
  rw [Nat.mul_add] at this
  omega
theorem cmp_of_back {xs ys : List Nat} (he : xs.length = ys.length) (hx : InR xs) (hy : InR ys) {k : Nat} (hk : k ≤ xs.length) {pre : List (Place xs.length)} {x : Place xs.length} (hp : back xs.length k = pre ++ [x])
    (hall : ∀ p : Place xs.length, p ∈ pre → lim xs p.1 = lim ys p.1) (hne : lim xs x.1 ≠ lim ys x.1) : cmpN (lv xs) (lv ys) = cmpN (lim xs x.1) (lim ys x.1) := by
  cases k with
  | zero => rw [back_zero] at hp; simp at hp
  | succ k =>
    rw [back_succ _ _ (by omega)] at hp
    obtain ⟨h1, h2⟩ := List.append_inj' hp rfl
    simp only [List.cons.injEq, and_true] at h2
    subst h1
    have hv : xs.length - 1 - k = x.1 := congrArg Subtype.val h2
    rw [← hv] at hne ⊢
    clear h2 hp hv
    have := lv_above he (xs.length - 1 - k + 1) (by omega) (fun j h1 h2 => hall ⟨j, h2⟩ ((mem_back k (by omega) _).2 (by simp; omega)))
    rw [lo_succ, lo_succ] at this
    have a1 := lo_lt hx (xs.length - 1 - k)
    have a2 := lo_lt hy (xs.length - 1 - k)
    rcases Nat.lt_or_ge (lim xs (xs.length - 1 - k)) (lim ys (xs.length - 1 - k)) with h | h
    · rw [cmpN_lt h, cmpN_lt (lt_of_limb this a1 h)]
    · have h' : lim ys (xs.length - 1 - k) < lim xs (xs.length - 1 - k) := by omega
      rw [cmpN_gt h', cmpN_gt (lt_of_limb this.symm a2 h')]
set_option maxRecDepth 100000 in
set_option maxHeartbeats 1000000 in
theorem compare_eq (w : World) (a : Option Addr) (cap : Nat) (xs : List Nat) (c : Option Addr) (cap' : Nat) (ys : List Nat) (he : xs.length = ys.length) (hl : xs.length ≤ 1000000) (hx : Hid (InR xs)) (hy : Hid (InR ys)) (b : Nat) (hb : b < w.heap.size)
    (ha : SlAt w b (.slice a xs.length cap) xs)
    (hc : ys ≠ [] → ∃ b off, c = some ⟨b, off, none⟩ ∧ b < w.heap.size ∧ ∀ i, i < ys.length → w.cell? ⟨b, off + i, none⟩ = some (.int .u64 (lim ys i))) :
    Calls Tryz.prog 146 #[.slice a xs.length cap, .slice c ys.length cap'] w fun e w' => e = .returned (.int .i64 (cmpN (lv xs) (lv ys))) ∧ Below w.heap.size w w' := by
  have HEQ := Lib.hid he
  refine (callsIn_wide (n := 9)).1 ?_
  refine callsIn_of_wp_marks Tryz.func146 rfl trivial ?_ rfl
  simp only [Tryz.ntmps146, List.size_toArray, List.length_cons, List.length_nil, Nat.reduceAdd, Nat.reduceSub, Array.replicate_succ, Array.replicate_zero, List.push_toArray, List.append_toArray, List.nil_append, List.cons_append]
  rw [← he]
  have HE := Lib.hid he
  clear he
  gi_wp2_with (first
    | (refine ⟨trivial, ?_⟩; gi_at_call 78; refine (callsIn_wide.2 (cmpI_same xs.length _)).mono ?_; rintro e w' ⟨rfl, rfl⟩)
    | (gi_at_call 78; refine (callsIn_wide.2 (cmpI_same xs.length _)).mono ?_; rintro e w' ⟨rfl, rfl⟩)
    | (refine ⟨trivial, ?_⟩; gi_at_call 170; refine (back_make Fence.wide _ trivial rfl _ _ _ _).mono ?_; rintro e w' ⟨rfl, rfl⟩)
    | (gi_at_call 170; refine (back_make Fence.wide _ trivial rfl _ _ _ _).mono ?_; rintro e w' ⟨rfl, rfl⟩))
  have hB1 : Below w.heap.size w (((w.alloc (.cells #[.slice c xs.length cap'] 132)).alloc (.cells #[.int .i64 0] 3)).alloc (.cells #[.slice a xs.length cap] 132)) :=
    (((Below.refl _ w).alloc (Nat.le_refl _) _).alloc (by simp) _).alloc (by simp; omega) _
  have hm : (((w.alloc (.cells #[.slice c xs.length cap'] 132)).alloc (.cells #[.int .i64 0] 3)).alloc (.cells #[.slice a xs.length cap] 132)).cell? ⟨w.heap.size, 0, none⟩ = some (.slice c xs.length cap') := by go_simp
  have hr : (((w.alloc (.cells #[.slice c xs.length cap'] 132)).alloc (.cells #[.int .i64 0] 3)).alloc (.cells #[.slice a xs.length cap] 132)).cell? ⟨w.heap.size + 1, 0, none⟩ = some (.int .i64 0) := by go_simp
  have hrf : (((w.alloc (.cells #[.slice c xs.length cap'] 132)).alloc (.cells #[.int .i64 0] 3)).alloc (.cells #[.slice a xs.length cap] 132)).frozen? ⟨w.heap.size + 1, 0, none⟩ = false := by go_simp
  have hbx : (((w.alloc (.cells #[.slice c xs.length cap'] 132)).alloc (.cells #[.int .i64 0] 3)).alloc (.cells #[.slice a xs.length cap] 132)).cell? ⟨w.heap.size + 1 + 1, 0, none⟩ = some (.slice a xs.length cap) := by go_simp
  have hsz : (((w.alloc (.cells #[.slice c xs.length cap'] 132)).alloc (.cells #[.int .i64 0] 3)).alloc (.cells #[.slice a xs.length cap] 132)).heap.size = w.heap.size + 3 := by simp
  generalize (((w.alloc (.cells #[.slice c xs.length cap'] 132)).alloc (.cells #[.int .i64 0] 3)).alloc (.cells #[.slice a xs.length cap] 132)) = W1 at hB1 hm hr hrf hbx hsz ⊢
  have hcs : ∀ i, i < xs.length → ∃ b off, c = some ⟨b, off, none⟩ ∧ W1.cell? ⟨b, off + i, none⟩ = some (.int .u64 (lim ys i)) ∧ b < W1.heap.size := fun i hi => by
    have e := HE.out
    obtain ⟨b2, o2, h1, h2, h3⟩ := hc (by intro e2; rw [e2] at e; simp only [List.length_nil] at e; omega)
    exact ⟨b2, o2, h1, (hB1.cell (p := ⟨b2, o2 + i, none⟩) h2).trans (h3 i (by omega)), by omega⟩
  have hsl : SlAt W1 b (.slice a xs.length cap) xs := ha.keep (c := b) (Keep2.of_below hB1 hb hb)
  clear hc ha HE
  refine wpIn_rangeFunc_ownF rfl (by decide) (gf := 204) (lb := #[.pointer (some ⟨w.heap.size + 1 + 1, 0, none⟩)]) rfl trivial (enters_of Tryz.func204 (by kernel_rfl) rfl)
    (back_stops Fence.wide _ trivial rfl (by decide) (w.heap.size + 1 + 1) b _ xs hl W1 (by omega) (by omega) hbx hsl) (fun h k => h.trans k)
    (fun W l o o' hl h ho hw => ?kb) (Below.refl _ _) (fun _ => rfl)
    (fun pre W => (∀ p ∈ pre, lim xs p.1 = lim ys p.1) ∧ Below W1.heap.size W1 W)
    (fun c pre W => c = .ret ∧ ∃ x pre', pre = pre' ++ [x] ∧ (∀ p ∈ pre', lim xs p.1 = lim ys p.1) ∧ lim xs x.1 ≠ lim ys x.1 ∧ W.cell? ⟨w.heap.size + 1, 0, none⟩ = some (.int .i64 (cmpN (lim xs x.1) (lim ys x.1))) ∧ Below w.heap.size w W)
    (OwnFrom.and (ownFrom_pure _ _) (ownFrom_below (Nat.le_refl _) (Nat.le_refl _)))
    (fun c s A B row hs hg hr' => ?ix)
    ⟨by simp, Below.refl _ _⟩
    (fun x => { tmps := #[.slice a xs.length cap, .slice c xs.length cap', undef, .pointer (some ⟨w.heap.size, 0, none⟩), .pointer (some ⟨w.heap.size + 1, 0, none⟩), .int .i64 0, .int .i64 (x.1 : Int), .int .u64 (lim xs x.1), undef,
      .slice a xs.length cap, .int .i64 xs.length, .slice c xs.length cap', .int .i64 xs.length, .int .i64 0, .int .i64 0, .bool false, undef, .slice a xs.length cap,
      .func (.func 204) #[] #[.pointer (some ⟨w.heap.size + 1 + 1, 0, none⟩)], .int .i64 (x.1 : Int), .int .u64 (lim xs x.1), undef, undef, undef, undef, undef, undef, undef, undef, undef], defers := [] })
    ?assign ?body ?done ?stop
  case kb =>
    have h1 := (Array.getElem?_eq_some_iff.1 h).1
    exact ⟨World.putObj_heap_other (by omega), World.putObj_heap_other (by omega)⟩
  case ix =>
    obtain ⟨e, x, pre', e1, e2, e3, e4, e5⟩ := hs
    refine ⟨e, x, pre', e1, e2, e3, cell_kept e4 hg (fun r e => (hr' r e).2), e5.grown hg e5.size (fun k e => ?_)⟩
    have := (hr' k e).1
    omega
  case assign =>
    intro l x W K hK
    gi_wp2
    exact hK
  case body =>
    rintro l pre x W ⟨hpre, hbW⟩ hlen
    have hmW := (hbW.cell (p := ⟨w.heap.size, 0, none⟩) (by simp; omega)).trans hm
    have hrW := (hbW.cell (p := ⟨w.heap.size + 1, 0, none⟩) (by simp; omega)).trans hr
    have hrfW := (hbW.frozen (p := ⟨w.heap.size + 1, 0, none⟩) (by simp; omega)).trans hrf
    obtain ⟨b2, o2, hc2, hcc, hb2⟩ := hcs x.1 x.2
    have hccW := (hbW.cell (p := ⟨b2, o2 + x.1, none⟩) hb2).trans hcc
    obtain ⟨i, hi⟩ := x
    dsimp only at hccW ⊢
    subst hc2
    have HP := Lib.hid hpre
    have HB := Lib.hid hbW
    have HB1 := Lib.hid hB1
    clear hpre hbW hB1 hcs hsl hm hr hrf hbx hcc
    by_cases hq : lim xs i = lim ys i
    · have HQ := Lib.hid hq
      rw [← hq] at hccW
      clear hq
      gi_wp2_with (first
        | (refine ⟨trivial, ?_⟩; gi_at_call 186; refine (CallsIn.inRound l (callsIn_wide.2 (cmpU_same (lim xs i) _))).mono ?_; rintro e w' ⟨rfl, rfl⟩)
        | (gi_at_call 186; refine (CallsIn.inRound l (callsIn_wide.2 (cmpU_same (lim xs i) _))).mono ?_; rintro e w' ⟨rfl, rfl⟩))
      refine ⟨KeepsOthers.of_below (Below.refl _ _), Keep2.refl _ _ _, ?_, HB.out⟩
      intro p hp
      rcases List.mem_append.1 hp with h | h
      · exact HP.out p h
      · simp only [List.mem_cons, List.not_mem_nil, or_false] at h; subst h; exact HQ.out
    · have hc0 : (cmpN (lim xs i) (lim ys i) != 0) = true := by rw [bne_iff_ne]; intro h; exact hq (cmpN_zero h)
      have HQ := Lib.hid hq
      clear hq
      gi_wp2_with (first
        | (refine ⟨trivial, ?_⟩; gi_at_call 186; refine (CallsIn.inRound l (callsIn_wide.2 (cmpU (lim xs i) (lim ys i) _))).mono ?_; rintro e w' ⟨rfl, rfl⟩)
        | (gi_at_call 186; refine (CallsIn.inRound l (callsIn_wide.2 (cmpU (lim xs i) (lim ys i) _))).mono ?_; rintro e w' ⟨rfl, rfl⟩))
      exact ⟨KeepsOthers.setCell _ _ _, rfl, ⟨i, hi⟩, pre, rfl, HP.out, HQ.out, World.cell?_setCell_same' _ _ _ (by rw [hrW]; rfl), (HB1.out.trans (HB.out.mono (by omega))).setCell (by simp) _⟩
  case done =>
    rintro D zs W hD rfl ⟨hall, hbW⟩ hK
    have hrW := (hbW.cell (p := ⟨w.heap.size + 1, 0, none⟩) (by simp; omega)).trans hr
    have hrfW := (hbW.frozen (p := ⟨w.heap.size + 1, 0, none⟩) (by simp; omega)).trans hrf
    have HA := Lib.hid hall
    have HB := Lib.hid (hB1.trans (hbW.mono (by omega)))
    clear hall hbW hB1 hcs hsl hm hr hrf hbx
    gi_wp2
    refine ⟨by simp, .inl ⟨_, _, rfl, run_takeDeferred (((KeepsOthers.setCell W ⟨w.heap.size + 1, 0, none⟩ (.int .i64 0)).same D _ hK rfl)), ?_⟩⟩
    have hcR : ((W.setCell ⟨w.heap.size + 1, 0, none⟩ (.int .i64 0)).putObj D (.deferred none)).cell? ⟨w.heap.size + 1, 0, none⟩ = some (.int .i64 0) :=
      cell_kept (World.cell?_setCell_same' _ _ _ (by rw [hrW]; rfl)) (grownBy_putObj' _ D (.deferred none)) (fun r e => by cases e; exact ⟨_, (KeepsOthers.setCell W ⟨w.heap.size + 1, 0, none⟩ (.int .i64 0)).same D _ hK rfl, rfl⟩)
    have hall : lv xs = lv ys := eq_of_back HEQ.out HA.out
    rw [hall, cmpN_eq]
    refine ⟨.int .i64 0, by simp [results, Tryz.results146, go_sem, hcR], rfl, ?_⟩
    exact (HB.out.setCell (p := ⟨w.heap.size + 1, 0, none⟩) (by simp) _).grown (grownBy_putObj' _ D _) (by have := HB.out.size; simp [World.setCell]; omega) (fun k e => by cases e; omega)
  case stop =>
    rintro D c pre W hD ⟨k, hk, hpre⟩ ⟨rfl, x, pre', h1, h2, h3, h4, h5⟩ hK
    have H2 := Lib.hid h2
    have H3 := Lib.hid h3
    have H5 := Lib.hid h5
    have HPR := Lib.hid (hpre.symm.trans h1)
    clear h2 h3 h5 hpre h1 hB1 hcs hsl hm hr hrf hbx
    gi_wp2
    refine ⟨by simp, .inl ⟨_, _, rfl, run_takeDeferred hK, ?_⟩⟩
    have hcR : (W.putObj D (.deferred none)).cell? ⟨w.heap.size + 1, 0, none⟩ = some (.int .i64 (cmpN (lim xs x.1) (lim ys x.1))) :=
      cell_kept h4 (grownBy_putObj' _ D (.deferred none)) (fun r e => by cases e; exact ⟨_, hK, rfl⟩)
    rw [cmp_of_back HEQ.out hx.out hy.out hk HPR.out H2.out H3.out]
    refine ⟨.int .i64 (cmpN (lim xs x.1) (lim ys x.1)), by simp [results, Tryz.results146, go_sem, hcR], rfl, ?_⟩
    exact H5.out.grown (grownBy_putObj' _ D _) H5.out.size (fun k e => by cases e; omega)
theorem SlAt.of {w : World} {v : Value} {xs : List Nat} (h : Sl w v xs) (h0 : 0 < w.heap.size) : ∃ b, b < w.heap.size ∧ SlAt w b v xs := by
  rcases h.shape with ⟨rfl, rfl⟩ | ⟨b, off, cap, rfl, hb, _, hc⟩
  · exact ⟨0, h0, .inl ⟨rfl, 0, rfl⟩⟩
  · exact ⟨b, hb, .inr ⟨off, cap, rfl, hc⟩⟩
/-- compare, at every two numbers -/
theorem compare_any (w : World) (v u : Value) (n m : Nat) (hn : Num w v n) (hm : Num w u m) (hbn : Small n) (h0 : 0 < w.heap.size) :
    Calls Tryz.prog 146 #[v, u] w fun e w' => e = .returned (.int .i64 (cmpN n m)) ∧ Below w.heap.size w w' := by
  obtain ⟨xs, hx, rfl, hsx⟩ := hn
  obtain ⟨ys, hy, rfl, hsy⟩ := hm
  have hl := hx.len_le (k := 200) hbn
  by_cases he : xs.length = ys.length
  · obtain ⟨b, hb, hat⟩ := SlAt.of hsx h0
    obtain ⟨a, cap, rfl, _⟩ := hsx.addr
    obtain ⟨c, cap', rfl, hc⟩ := hsy.addr
    exact compare_eq w a cap xs c cap' ys he (by omega) hx.1 hy.1 b hb hat hc
  · obtain ⟨a, cap, rfl, _⟩ := hsx.addr
    obtain ⟨c, cap', rfl, hc⟩ := hsy.addr
    refine (compare_len w a xs.length cap c ys.length cap' he).mono ?_
    rintro e w' ⟨rfl, hb⟩
    refine ⟨?_, hb⟩
    rcases Nat.lt_or_ge xs.length ys.length with h | h
    · have h1 := lv_lt hx.1
      have h2 := hy.ge (by intro e; simp [e] at h)
      have h3 : 1000000000 ^ xs.length ≤ 1000000000 ^ (ys.length - 1) := Nat.pow_le_pow_right (by omega) (by omega)
      rw [cmpN_lt h, cmpN_lt (by omega)]
    · have h' : ys.length < xs.length := by omega
      have h1 := lv_lt hy.1
      have h2 := hx.ge (by intro e; simp [e] at h')
      have h3 : 1000000000 ^ ys.length ≤ 1000000000 ^ (xs.length - 1) := Nat.pow_le_pow_right (by omega) (by omega)
      rw [cmpN_gt h', cmpN_gt (by omega)]
end Nt
end Go.Proofs.YtpmlhgmmobpilaaGreatDoor

namespace Go.Proofs.YtpmlhgmmobpilaaGreatDoor
open Go.RowKit Go.Shelf
namespace Nt
def SearchPost (n : Nat) (p : Nat → Bool) (w : World) (e : Ending) (w' : World) : Prop :=
  ∃ r : Nat, e = .returned (.int .i64 (r : Int)) ∧ r ≤ n ∧ (∀ i, i < r → p i = false) ∧ (r < n → p r = true) ∧ Below w.heap.size w w'
set_option maxHeartbeats 1000000 in
theorem search_any (n : Nat) (hn : n ≤ 1000000000) (p : Nat → Bool) (c1 c2 : Value) (w : World)
    (hmono : Hid (∀ a b, a ≤ b → b < n → p a = true → p b = true))
    (H : Hid (∀ W i, Below w.heap.size w W → i < n → Calls Tryz.prog 172 #[.int .i64 (i : Int), c1, c2] W fun e W' => e = .returned (.bool (p i)) ∧ Below W.heap.size W W')) :
    Calls Tryz.prog 171 #[.int .i64 (n : Int), .func (.func 172) #[] #[c1, c2]] w (SearchPost n p w) := by
  go_enter Tryz.func171, Tryz.ntmps171
  go_wp2
  go_loopw [5, 6] (fun i j wr => ∃ a b : Nat, a ≤ b ∧ b ≤ n ∧ i = .int .i64 a ∧ j = .int .i64 b ∧ Hid ((∀ k, k < a → p k = false) ∧ (b < n → p b = true)) ∧ Below w.heap.size w wr)
    (fun i j _ => (intOf j - intOf i).toNat)
  case atStart => exact ⟨0, n, Nat.zero_le _, Nat.le_refl _, rfl, rfl, ⟨fun k h => by omega, fun h => by omega⟩, Below.refl _ _⟩
  case round =>
    obtain ⟨a, b, hab, hbn, rfl, rfl, hinv, hbel⟩ := hrel
    replace hbel := Lib.hid hbel
    by_cases hlt : a < b
    · go_wp2_with fail
      obtain ⟨q, hq⟩ : ∃ q : Nat, q = (a + b) / 2 := ⟨_, rfl⟩
      have e : ((a : Int) + b) / 2 = (q : Int) := by rw [hq]; omega
      rw [e]
      have haq : a ≤ q := by omega
      have hqb : q < b := by omega
      clear hq e
      refine (H.out _ q hbel.out (by omega)).mono ?_
      rintro e w' ⟨rfl, hb'⟩
      have hbel' := Lib.hid (hbel.out.trans (hb'.mono hbel.out.size))
      clear hb' hbel
      by_cases hp : p q = true
      · have HP := Lib.hid hp
        rw [hp]
        clear hp
        go_wp2
        exact ⟨⟨a, q, haq, by omega, rfl, rfl, ⟨hinv.out.1, fun _ => HP.out⟩, hbel'.out⟩, by simp only [intOf]; omega⟩
      · replace hp : p q = false := by simpa using hp
        have HP := Lib.hid hp
        rw [hp]
        clear hp
        go_wp2
        refine ⟨⟨q + 1, b, by omega, hbn, by go_num, rfl, ⟨fun k hk => ?_, hinv.out.2⟩, hbel'.out⟩, by simp only [intOf]; omega⟩
        cases hk' : p k with
        | false => rfl
        | true => rw [← HP.out]; exact (hmono.out k q (by omega) (by omega) hk').symm
    · obtain rfl : a = b := by omega
      go_wp2
      go_ret
      exact ⟨a, rfl, hbn, hinv.out.1, hinv.out.2, hbel.out⟩
end Nt
end Go.Proofs.YtpmlhgmmobpilaaGreatDoor

namespace Go.Proofs.YtpmlhgmmobpilaaGreatDoor
open Go.RowKit
namespace Nt
/-- Between two rounds of the outer loop of a product. -/
def RelMul (B : Nat) (w : World) (xs ys : List Nat) (g : Nat) (i : Nat) (wr : World) : Prop :=
  ∃ zs, zs.length = xs.length + ys.length ∧ InR zs ∧ Row 177 wr g zs ∧ lv zs = lo xs i * lv ys ∧ (∀ j, i + ys.length ≤ j → lim zs j = 0) ∧ Below B w wr
/-- Between two rounds of the inner loop. -/
def RelMulIn (B : Nat) (w : World) (xs ys : List Nat) (g : Nat) (i j c : Nat) (wr : World) : Prop :=
  ∃ zs, zs.length = xs.length + ys.length ∧ InR zs ∧ Row 177 wr g zs ∧ c < 1000000000 ∧
    lv zs + c * 1000000000 ^ (i + j) = lo xs i * lv ys + 1000000000 ^ i * (lim xs i * lo ys j) ∧ (∀ j, i + ys.length ≤ j → lim zs j = 0) ∧ Below B w wr
theorem mul_step {Z Z' R P x z c c' : Nat} {T : Nat} (h : Z + c * P = R) (hs : Z' + P * z = Z + P * (x % 1000000000)) (hc : c' = x / 1000000000) (hx : x = z + T + c) :
    Z' + c' * (P * 1000000000) = R + P * T := by
  have e1 : P * x = P * z + P * T + P * c := by rw [hx, Nat.mul_add, Nat.mul_add]
  have e2 : P * x = P * (x % 1000000000) + P * (1000000000 * (x / 1000000000)) := by rw [← Nat.mul_add, Nat.mod_add_div]
  have e3 : c' * (P * 1000000000) = P * (1000000000 * (x / 1000000000)) := by
    rw [hc, Nat.mul_comm, Nat.mul_assoc]
  have e4 : c * P = P * c := Nat.mul_comm _ _
  omega
theorem RelMulIn.step {B : Nat} {w wr : World} {xs ys : List Nat} {g i j c : Nat} (h : RelMulIn B w xs ys g i j c wr) (hB : B ≤ g) (hi : i < xs.length) (hj : j < ys.length) (hx : InR xs) (hy : InR ys)
    {z T : Nat} {y : Int} (hz : wr.cell? ⟨g, i + j, none⟩ = some (.int .u64 (z : Int))) (hT : T = lim xs i * lim ys j) (he : y = (((z + T + c) % 1000000000 : Nat) : Int)) :
    RelMulIn B w xs ys g i (j + 1) ((z + T + c) / 1000000000) (wr.setCell ⟨g, i + j, none⟩ (.int .u64 y)) := by
  subst he hT
  obtain ⟨zs, h1, h2, h3, h4, h5, h6, h7⟩ := h
  have hzc := h3.cell (i := i + j) (by omega)
  rw [hz] at hzc
  have hzz : z = lim zs (i + j) := by simp at hzc; omega
  have b1 := h2.lim (i + j)
  have b2 := hx.lim i
  have b3 := hy.lim j
  have b4 : lim xs i * lim ys j ≤ 999999999 * 999999999 := Nat.mul_le_mul (by omega) (by omega)
  refine ⟨zs.set (i + j) ((z + lim xs i * lim ys j + c) % 1000000000), by simpa using h1, h2.set _ _ (Nat.mod_lt _ (by omega)), h3.set _ _, by omega, ?_, fun p hp => ?_, h7.setCell hB _⟩
  · have hs := lv_set zs (i + j) ((z + lim xs i * lim ys j + c) % 1000000000) (by omega)
    rw [← hzz] at hs
    have := mul_step h5 hs rfl rfl
    rw [lo_succ, show i + (j + 1) = i + j + 1 from rfl, Nat.pow_succ, this, Nat.mul_add, Nat.mul_add]
    have e : 1000000000 ^ (i + j) * (lim xs i * lim ys j) = 1000000000 ^ i * (lim xs i * (1000000000 ^ j * lim ys j)) := by
      rw [Nat.pow_add, Nat.mul_assoc, Nat.mul_left_comm (1000000000 ^ j)]
    omega
  · rw [lim_set_ne _ _ _ _ (by omega)]; exact h6 p hp
theorem RelMul.start {B : Nat} {w wr : World} {xs ys : List Nat} {g i : Nat} (h : RelMul B w xs ys g i wr) : RelMulIn B w xs ys g i 0 0 wr := by
  obtain ⟨zs, h1, h2, h3, h4, h5, h6⟩ := h
  exact ⟨zs, h1, h2, h3, by omega, by simp [h4, lo_zero], h5, h6⟩
theorem RelMulIn.done {B : Nat} {w wr : World} {xs ys : List Nat} {g i c : Nat} (h : RelMulIn B w xs ys g i ys.length c wr) (hB : B ≤ g) (hi : i < xs.length) :
    RelMul B w xs ys g (i + 1) (wr.setCell ⟨g, i + ys.length, none⟩ (.int .u64 (c : Int))) := by
  obtain ⟨zs, h1, h2, h3, h4, h5, h6, h7⟩ := h
  refine ⟨zs.set (i + ys.length) c, by simpa using h1, h2.set _ _ h4, h3.set _ _, ?_, fun p hp => ?_, h7.setCell hB _⟩
  · have hs := lv_set zs (i + ys.length) c (by omega)
    rw [h6 _ (Nat.le_refl _)] at hs
    rw [lo_all ys _ (Nat.le_refl _)] at h5
    rw [lo_succ, Nat.add_mul, Nat.mul_assoc]
    have : c * 1000000000 ^ (i + ys.length) = 1000000000 ^ (i + ys.length) * c := Nat.mul_comm _ _
    omega
  · rw [lim_set_ne _ _ _ _ (by omega)]; exact h6 p (by omega)
theorem cast_quo (z a b c : Nat) : ((z : Int) + a * b + c) / 1000000000 = (((z + a * b + c) / 1000000000 : Nat) : Int) := by
  rw [Int.natCast_ediv, Int.natCast_add, Int.natCast_add, Int.natCast_mul]; rfl
theorem cast_rem (z a b c : Nat) : ((z : Int) + a * b + c) % 1000000000 = (((z + a * b + c) % 1000000000 : Nat) : Int) := by
  rw [Int.natCast_emod, Int.natCast_add, Int.natCast_add, Int.natCast_mul]; rfl
theorem RelMulIn.at {B : Nat} {w wr : World} {xs ys : List Nat} {g i j c : Nat} (h : RelMulIn B w xs ys g i j c wr) (hi : i < xs.length) (hj : j < ys.length) :
    ∃ z : Nat, z < 1000000000 ∧ wr.cell? ⟨g, i + j, none⟩ = some (.int .u64 (z : Int)) ∧ wr.frozen? ⟨g, i + j, none⟩ = false ∧ c < 1000000000 ∧ Below B w wr := by
  obtain ⟨zs, h1, h2, h3, h4, h5, h6, h7⟩ := h
  exact ⟨lim zs (i + j), h2.lim _, h3.cell (by omega), h3.frozen _, h4, h7⟩
set_option maxHeartbeats 1000000 in
theorem mul_walk (w : World) (a : Option Addr) (cap : Nat) (xs : List Nat) (c : Option Addr) (cap' : Nat) (ys : List Nat) (hl : xs.length ≤ 1000) (hyl : ys.length ≤ 1000)
    (hx : InR xs) (hy : InR ys)
    (ha : xs ≠ [] → ∃ b off, a = some ⟨b, off, none⟩ ∧ b < w.heap.size ∧ ∀ i, i < xs.length → w.cell? ⟨b, off + i, none⟩ = some (.int .u64 (lim xs i)))
    (hc : ys ≠ [] → ∃ b off, c = some ⟨b, off, none⟩ ∧ b < w.heap.size ∧ ∀ i, i < ys.length → w.cell? ⟨b, off + i, none⟩ = some (.int .u64 (lim ys i))) :
    Calls Tryz.prog 173 #[.slice a xs.length cap, .slice c ys.length cap'] w (PostNumV w.heap.size w (lv xs * lv ys)) := by
  have hmk := run_make_num (xs.length + ys.length) (by omega)
  rw [Int.natCast_add] at hmk
  go_enter Tryz.func173, Tryz.ntmps173
  go_wp2
  go_loopw [20] (fun i wr => ∃ k : Nat, k ≤ xs.length ∧ i = .int .i64 k ∧ RelMul w.heap.size w xs ys w.heap.size k wr)
    (fun i _ => xs.length - (intOf i).toNat)
  case atStart => exact ⟨0, Nat.zero_le _, rfl, List.replicate (xs.length + ys.length) 0, by simp, InR.zeros _, Row.made0 _ _ _, by rw [lo_zero, Nat.zero_mul]; exact lv_zeros _ (fun j hj => lim_zeros _ _), (fun j hj => lim_zeros _ _), (Below.refl _ _).alloc (Nat.le_refl _) _⟩
  case round =>
    obtain ⟨k, hk, rfl, hrel⟩ := hrel
    by_cases hkn : k < xs.length
    · obtain ⟨bx, ox, hax, hbx, hcx⟩ := ha (by intro e; simp [e] at hkn)
      obtain ⟨zs, z1, z2, z3, z4, z5, z6⟩ := id hrel
      have hcxk := (z6.cell (p := ⟨bx, ox + k, none⟩) hbx).trans (hcx k hkn)
      have hxk := hx.lim k
      subst hax
      have HC := Lib.hid hc
      clear hcx ha z1 z2 z3 z4 z5 z6 hmk hc
      have HR := Lib.hid hrel
      clear hrel
      go_wp2
      obtain ⟨wo, rfl⟩ : ∃ wo : World, wo = wr := ⟨_, rfl⟩
      go_loopw [8, 27] (fun cc j wr => ∃ q c : Nat, q ≤ ys.length ∧ j = .int .i64 q ∧ cc = .int .u64 c ∧ RelMulIn w.heap.size w xs ys w.heap.size k q c wr)
        (fun _ j _ => ys.length - (intOf j).toNat)
      case atStart => exact ⟨0, 0, Nat.zero_le _, rfl, rfl, HR.out.start⟩
      case round =>
        obtain ⟨q, c2, hq, rfl, rfl, hrel⟩ := hrel
        by_cases hqn : q < ys.length
        · obtain ⟨b2, oy, hay, hby, hcy⟩ := HC.out (by intro e; simp [e] at hqn)
          subst hay
          obtain ⟨z, hz, hzc, hzf, hc2, hbel⟩ := hrel.at hkn hqn
          have hcyk := hbel.cell (p := ⟨b2, oy + q, none⟩) hby |>.trans (hcy q hqn)
          have hyk := hy.lim q
          have hprod : (lim xs k : Int) * (lim ys q : Int) ≤ 999999998000000001 := by
            have : lim xs k * lim ys q ≤ 999999999 * 999999999 := Nat.mul_le_mul (by omega) (by omega)
            have : ((lim xs k * lim ys q : Nat) : Int) ≤ ((999999999 * 999999999 : Nat) : Int) := by exact_mod_cast this
            simpa using this
          have hprod0 : 0 ≤ (lim xs k : Int) * (lim ys q : Int) := Int.mul_nonneg (by omega) (by omega)
          replace hrel := Lib.hid hrel
          replace hx := Lib.hid hx
          replace hy := Lib.hid hy
          clear hcy hbel HC
          go_wp2
          exact ⟨⟨q + 1, (z + lim xs k * lim ys q + c2) / 1000000000, by omega, by go_num, congrArg (Value.int .u64) (cast_quo _ _ _ _),
            hrel.out.step (Nat.le_refl _) hkn hqn hx.out hy.out hzc rfl (cast_rem _ _ _ _)⟩, by simp only [intOf]; omega⟩
        · obtain rfl : q = ys.length := by omega
          have HR' := Lib.hid (hrel.done (Nat.le_refl _) hkn)
          obtain ⟨zs, z1, z2, z3, z4, z5, z6, z7⟩ := hrel
          have hzc := z3.cell (i := k + ys.length) (by omega)
          have hzf := z3.frozen (k + ys.length)
          replace hx := Lib.hid hx
          replace hy := Lib.hid hy
          clear z1 z2 z3 z5 z6 z7 HC
          go_wp2
          exact ⟨⟨k + 1, by omega, by go_num, HR'.out⟩, by simp only [intOf]; omega⟩
    · obtain rfl : k = xs.length := by omega
      obtain ⟨zs, z1, z2, z3, z4, z5, z6⟩ := id hrel
      have Z1 := Lib.hid z1
      have Z4 := Lib.hid z4
      have hsl := z3.sl
      rw [z1] at hsl
      clear z1 z4 hrel ha hc hmk z5
      go_wp2_with (go_at_call 169; refine (trim_any _ _ _ (by have := Z1.out; omega) hsl).mono ?_; rintro e w' ⟨v, k, rfl, ht, hs, hf, rfl⟩)
      go_ret
      exact ⟨v, rfl, ⟨zs.take k, ht.canon z2, by rw [ht.lv, Z4.out, lo_all _ _ (Nat.le_refl _)], hs⟩, hf _ (Nat.le_refl _), z6⟩
/-- mul, at every two numbers. -/
theorem mul_any (w : World) (v u : Value) (n m : Nat) (hn : Num w v n) (hm : Num w u m) (hbn : Small n) (hbm : Small m) :
    Calls Tryz.prog 173 #[v, u] w (PostNumV w.heap.size w (n * m)) := by
  obtain ⟨xs, hx, rfl, hsx⟩ := hn
  obtain ⟨ys, hy, rfl, hsy⟩ := hm
  have hl := hx.len_le (k := 200) hbn
  have hyl := hy.len_le (k := 200) hbm
  obtain ⟨a, cap, rfl, ha⟩ := hsx.addr
  obtain ⟨c, cap', rfl, hc⟩ := hsy.addr
  exact mul_walk w a cap xs c cap' ys (by omega) (by omega) hx.1 hy.1 ha hc
end Nt
end Go.Proofs.YtpmlhgmmobpilaaGreatDoor

namespace Go.Proofs.YtpmlhgmmobpilaaGreatDoor
open Go.RowKit Go.Shelf
namespace Nt
theorem num_one (w : World) (x : Nat) (h0 : 0 < x) (h : x < 1000000000) {X : Int} (hX : X = (x : Int)) :
    Num (w.alloc (.cells #[.int .u64 X] 177)) (.slice (some ⟨w.heap.size, 0, none⟩) 1 1) x := by
  subst hX
  refine ⟨[x], ⟨fun y hy => ?_, ?_⟩, by simp [lv], ?_⟩
  · simp at hy; omega
  · simp; omega
  · refine Sl.mk (xs := [x]) (by simp) (Nat.le_refl _) (fun i hi => ?_)
    have hi : i < 1 := hi
    obtain rfl : i = 0 := by omega
    rw [Nat.zero_add, World.cell?_alloc_new]
    rfl
theorem small_of_le {a b : Nat} (h : Small b) (hab : a ≤ b) : Small a := Nat.lt_of_le_of_lt hab h
theorem small_limb {a : Nat} (h : a < 1000000000) : Small a := by
  have h1 : 1000000000 ^ 1 ≤ 1000000000 ^ 200 := Nat.pow_le_pow_right (by omega) (by omega)
  rw [Nat.pow_one] at h1
  exact Nat.lt_of_lt_of_le h h1
theorem cmpN_pos (x y : Nat) : decide (0 < cmpN x y) = decide (y < x) := by
  unfold cmpN
  split
  · simp; omega
  · split
    · simp; omega
    · simp; omega
set_option maxHeartbeats 2000000 in
theorem closure_any (W : World) (k : Nat) (hk : k < 999999999) (bm br : Nat) (mv rv : Value) (M R : Nat) (hm : W.cell? ⟨bm, 0, none⟩ = some mv) (hr : W.cell? ⟨br, 0, none⟩ = some rv)
    (hM : Hid (Num W mv M)) (hR : Hid (Num W rv R)) (hbM : Hid (Small (M * 1000000000))) :
    Calls Tryz.prog 172 #[.int .i64 (k : Int), .pointer (some ⟨bm, 0, none⟩), .pointer (some ⟨br, 0, none⟩)] W fun e W' => e = .returned (.bool (decide (R < M * (k + 1)))) ∧ Below W.heap.size W W' := by
  have hbr : br < W.heap.size := block_lt_of_cell hr
  have hbm : bm < W.heap.size := block_lt_of_cell hm
  have s1 : IntKind.i64.wrap ((k : Int) + 1) = (k : Int) + 1 := IntWalk.i64_in _ (by omega)
  have s2 : IntKind.u64.wrap ((k : Int) + 1) = (k : Int) + 1 := IntWalk.u64_in _ (by omega)
  have hone := num_one W (k + 1) (by omega) (by omega) (X := (k : Int) + 1) (by omega)
  have cM := mul_any (W.alloc (.cells #[.int .u64 ((k : Int) + 1)] 177)).drew mv (.slice (some ⟨W.heap.size, 0, none⟩) 1 1) M (k + 1) (hM.out.below ((Below.refl _ _).alloc (Nat.le_refl _) _).drew) hone (small_of_le hbM.out (by omega)) (small_limb (by omega))
  go_enter Tryz.func172, Tryz.ntmps172
  go_wp2
  go_region_held3 (fun w' => w'.cell? ⟨bm, 0, none⟩ = some mv ∧ w'.cell? ⟨br, 0, none⟩ = some rv)
    (first
      | go_keep
      | (go_split_ands
         refine ⟨?_, ?_⟩
         · assumption
         · assumption))
    (first
    | (go_at_call 173; refine cM.mono ?_; rintro e w' ⟨v, rfl, hv, _, hb⟩; have hbW : Below W.heap.size W w' := ((Below.refl W.heap.size W).alloc (Nat.le_refl _) _).drew.trans (hb.mono (by simp)); have hcm := (hbW.cell (p := ⟨bm, 0, none⟩) hbm).trans hm; have hcr := (hbW.cell (p := ⟨br, 0, none⟩) hbr).trans hr; replace hb := Lib.hid hb; replace hbW := Lib.hid hbW)
    | (go_at_call 146; refine (compare_any _ _ _ (M * (k + 1)) R (by assumption) (by exact hR.out.below (Hid.out (by assumption))) (small_of_le hbM.out (Nat.mul_le_mul_left _ (by omega))) (by have := (Hid.out (p := Below W.heap.size W _) (by assumption)).size; omega)).mono ?_; rintro e w2 ⟨rfl, hb2⟩; have hbW2 : Below W.heap.size W w2 := hbW.out.trans (hb2.mono hbW.out.size); have hcm2 := (hbW2.cell (p := ⟨bm, 0, none⟩) hbm).trans hm; have hcr2 := (hbW2.cell (p := ⟨br, 0, none⟩) hbr).trans hr; replace hbW2 := Lib.hid hbW2; clear hcm hcr hb2))
  go_wp2
  go_ret
  exact ⟨congrArg (fun b => Ending.returned (.bool b)) (cmpN_pos _ _), hbW2.out⟩
end Nt
end Go.Proofs.YtpmlhgmmobpilaaGreatDoor

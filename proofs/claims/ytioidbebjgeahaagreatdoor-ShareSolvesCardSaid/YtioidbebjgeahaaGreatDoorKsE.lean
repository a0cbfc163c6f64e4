/- Texts that the proof needs: LinC, ShaDet, ShaElim, ShaSys, ShaPlain, ShaRun, CirLaws, ShaComp, ShaCap, ShaLaw1, ShaVal, ShaIdx, CirGraph, CirOwn, CirOf, CirVisit, CirReached, CirTurned, CirMem. -/
import Derived.BigQuiet
import Derived.Deep.Quiet
import Derived.Laws.AppendOwn
import Derived.Deep.OwnRows
import Derived.Deep.RegionHeld3
import Derived.Maps.AppendAt
import Derived.Laws.EntriesVeiled
import Derived.Test.YtioidbebjgeahaaGreatDoorKsA
import Derived.Test.YtioidbebjgeahaaGreatDoorKsB
import Derived.Test.YtioidbebjgeahaaGreatDoorKsC
import Derived.Test.YtioidbebjgeahaaGreatDoorKsD
namespace Go.Proofs.YtioidbebjgeahaaGreatDoor
open Go.RowKit Go.Shelf
namespace Nt
theorem ba_ext2 {a b : ByteArray} (h : a.toList = b.toList) : a = b:=by
 rw [Lib.toList_data,Lib.toList_data] at h
 cases a;cases b;exact congrArg ByteArray.mk (Array.toList_inj.1 h)
end Nt
end Go.Proofs.YtioidbebjgeahaaGreatDoor
namespace Go.Proofs.YtioidbebjgeahaaGreatDoor
open Go.RowKit Go.Shelf
namespace Nt
end Nt
end Go.Proofs.YtioidbebjgeahaaGreatDoor
namespace Go.Proofs.YtioidbebjgeahaaGreatDoor
open Go.RowKit Go.Shelf
namespace Nt
def mx (l : List (List Rat)) : Mx:=fun i j => (l.getD i []).getD j 0
def ends (n : Nat) (l : List (List Rat)) (x : List Rat) : Bool :=
 match solveTo SQ n n (mx l) with
 | .ok M => (List.range n).map (fun i => M i n) == x
 | .error _ => false
def fails (n : Nat) (l : List (List Rat)) (e : Int) : Bool :=
 match solveTo SQ n n (mx l) with
 | .ok _ => false
 | .error f => f == e
theorem head1 : ends 1 [[2,1]] [1/2] = true:=by decide +kernel
theorem head2 : ends 2 [[1,1,3],[1,-1,1]] [2,1] = true:=by decide +kernel
theorem head3 : ends 2 [[0,1,5],[1,0,1/3]] [1/3,5] = true:=by decide +kernel
theorem head4 : fails 2 [[1,1,3],[2,2,6]] 12 = true:=by decide +kernel
end Nt
end Go.Proofs.YtioidbebjgeahaaGreatDoor
namespace Go.Proofs.YtioidbebjgeahaaGreatDoor
open Go.RowKit Go.Shelf
namespace Nt
def vq (x : Raw) : Rat:=mkRat (sg x.1 (val x.2.1)) (val x.2.2)
theorem vq_rq (q : Rat) : vq (rq q) = q:=by
 show mkRat (sg (decide (q.num < 0)) (val (T (some q.num.natAbs)))) (val (T (some q.den))) = q
 have h : ∀ n,val (T (some n)) = n:=fun n => val_num n
 rw [h,h,sg_self]
 exact Rat.mkRat_self q
theorem raw_of {x : Raw} (h : vraw x = true) : rq (vq x) = x ∧ OkQ (vq x):=by
 obtain ⟨q,hq,h1,h2,h3⟩:=of_valid h
 have e : x = rq q:=by
  obtain ⟨a,b,c⟩:=x
  simp only [rq]
  simp only at h1 h2 h3
  rw [h1,h2,h3]
 rw [e,vq_rq]
 exact ⟨rfl,hq⟩
theorem vraw_rq {q : Rat} (h : OkQ q) : vraw (rq q) = true:=valid_qv h
def sysM (A : List (List Raw)) (b : List Raw) : Mx:=fun i j => if j = b.length then vq (b.getD i zraw) else vq ((A.getD i []).getD j zraw)
def rowsOf (la : List RowH) : List (List Raw):=la.map (·.2.2)
theorem rowsOf_length (la : List RowH) : (rowsOf la).length = la.length:=by simp [rowsOf]
theorem rowsOf_get (la : List RowH) (i : Nat) (h : i < la.length) : (rowsOf la)[i]'(by simpa [rowsOf] using h) = la[i].2.2:=by simp [rowsOf]
def matB (n : Nat) (A : List (List Raw)) : Bool:=A.all fun r => rowOk n r
theorem matB_rows (n : Nat) (la : List RowH) : matB n (rowsOf la) = matOk n la:=by
 unfold matB rowsOf matOk
 rw [List.all_map]
 rfl
theorem rowOk_iff {n : Nat} {l : List Raw} : rowOk n l = true ↔ l.length = n ∧ allV l = true:=by
 unfold rowOk
 rw [Bool.and_eq_true,decide_eq_true_eq]
theorem matB_iff {n : Nat} {A : List (List Raw)} : matB n A = true ↔ ∀ i (h : i < A.length),A[i].length = n ∧ allV A[i] = true:=by
 unfold matB
 rw [List.all_eq_true]
 constructor
 · intro h i hi
   exact rowOk_iff.1 (h _ (List.getElem_mem hi))
 · intro h x hx
   obtain ⟨i,hi,rfl⟩:=List.getElem_of_mem hx
   exact rowOk_iff.2 (h i hi)
theorem allV_iff {l : List Raw} : allV l = true ↔ ∀ i (h : i < l.length),vraw l[i] = true:=by
 unfold allV
 rw [List.all_eq_true]
 constructor
 · intro h i hi
   exact h _ (List.getElem_mem hi)
 · intro h x hx
   obtain ⟨i,hi,rfl⟩:=List.getElem_of_mem hx
   exact h i hi
def outL (n : Nat) (f : Nat → Rat) : List Raw:=(List.range n).map fun i => rq (f i)
theorem outL_length (n : Nat) (f : Nat → Rat) : (outL n f).length = n:=by simp [outL]
theorem outL_get (n : Nat) (f : Nat → Rat) (i : Nat) (h : i < (outL n f).length) : (outL n f)[i] = rq (f i):=by simp [outL]
theorem outL_congr {n : Nat} {f g : Nat → Rat} (h : ∀ i,i < n → f i = g i) : outL n f = outL n g:=by
 unfold outL
 exact List.map_congr_left fun i hi => by rw [h i (List.mem_range.1 hi)]
def solveB (A : List (List Raw)) (b : List Raw) : Except Int (List Raw) :=
 if A.length = b.length ∧ allV b = true ∧ matB b.length A = true then
  (if b.length ≤ 8 then (match solveTo SQ b.length b.length (sysM A b) with | .ok M => .ok (outL b.length fun i => M i b.length) | .error e => .error e) else .error 2)
 else .error 1
theorem inRow_of_own {w : World} {base : Nat} {v : Value} {n : Nat} {r : Nat → Raw} (h : w.ownsRow base 37 3 v n (rowL n r)) :
 ∃ A c,v = .slice A n c ∧ InRow w A ((List.range n).map r):=by
 rcases h.2 with ⟨rfl,rfl⟩ | ⟨g,cap,cur,rfl,hb,hg,h4,h5,h6,h7⟩
 · exact ⟨none,0,rfl,fun h0 => absurd h0 (by simp)⟩
 · refine ⟨some ⟨g,0,none⟩,cap,rfl,fun h0 => ⟨g,0,rfl,(Array.getElem?_eq_some_iff.1 hg).1,fun j hj => ?_⟩⟩
   have hj' : j < n:=by simpa using hj
   have hc:=h.cells (g:=g) (by simp [Value.ownBlock])
   have hadd : ∀ o,(⟨g,0,none⟩ : Addr).add o = ⟨g,o,none⟩:=fun o => by unfold Addr.add;split <;> simp_all
   have h0:=rowL_get r hj' 0 (by omega)
   have h1:=rowL_get r hj' 1 (by omega)
   have h2:=rowL_get r hj' 2 (by omega)
   have c0:=hc (j * 3 + 0) _ h0
   have c1:=hc (j * 3 + 1) _ h1
   have c2:=hc (j * 3 + 2) _ h2
   rw [hadd] at c0 c1 c2
   simp only [List.getElem_map,List.getElem_range,Nat.zero_add]
   exact ⟨c0,c1,c2⟩
theorem getD_at {α : Type} {l : List α} {d : α} {i : Nat} (h : i < l.length) : l.getD i d = l[i]:=by
 rw [List.getD_eq_getElem?_getD,List.getElem?_eq_getElem h,Option.getD_some]
theorem Solve_key (Aa Ab : Option Addr) (ca cb : Nat) (la : List RowH) (lb : List Raw) (w : World) (hE : Env w) (hs : SysIn w Aa Ab la lb) (h1 : la.length = lb.length) (h2 : allV lb = true) (h3 : matOk lb.length la = true) (h8 : lb.length ≤ 8) :
 Calls Tryz.prog 49 #[.slice Aa lb.length ca,.slice Ab lb.length cb] w (SolvePost lb.length (sysM (rowsOf la) lb) w):=by
 have hb:=allV_iff.1 h2
 have ha' : ∀ i (hi : i < la.length),la[i].2.2.length = lb.length ∧ allV la[i].2.2 = true:=fun i hi => by
  have hi2 : i < (rowsOf la).length:=by rw [rowsOf_length];exact hi
  have:=matB_iff.1 ((matB_rows lb.length la).trans h3) i hi2
  rwa [rowsOf_get la i hi] at this
 have hg : ∀ i (hi : i < la.length),(rowsOf la).getD i [] = la[i].2.2:=fun i hi => by
  rw [getD_at (by rw [rowsOf_length];exact hi),rowsOf_get la i hi]
 refine Solve_any Aa Ab lb.length ca cb la lb (sysM (rowsOf la) lb) w hE h1 rfl hs h2 h3 h8 (fun i hi => ⟨(ha' i hi).1,fun j hj => ?_⟩) (fun i hi => ?_) (fun i j hi hj => ?_)
 · have hj2 : j ≠ lb.length:=by have:=(ha' i hi).1;omega
   unfold sysM
   rw [if_neg hj2,hg i hi,getD_at hj]
   exact (raw_of (allV_iff.1 (ha' i hi).2 j hj)).1.symm
 · unfold sysM
   rw [if_pos rfl,getD_at hi]
   exact (raw_of (hb i hi)).1.symm
 · unfold sysM
   by_cases e : j = lb.length
   · rw [if_pos e,getD_at hi]
     exact (raw_of (hb i hi)).2
   · have hi2 : i < la.length:=by omega
     have hj2 : j < la[i].2.2.length:=by have:=(ha' i hi2).1;omega
     rw [if_neg e,hg i hi2,getD_at hj2]
     exact (raw_of (allV_iff.1 (ha' i hi2).2 j hj2)).2
theorem Solve_ok (Aa Ab : Option Addr) (ca cb : Nat) (la : List RowH) (lb xs : List Raw) (w : World) (hE : Env w) (hs : SysIn w Aa Ab la lb) (h : solveB (rowsOf la) lb = .ok xs) :
 Calls Tryz.prog 49 #[.slice Aa la.length ca,.slice Ab lb.length cb] w fun e w' => (∃ p c,e = .returned (.tuple #[.slice p xs.length c,.int .i64 0]) ∧ InRow w' p xs) ∧ Below w.heap.size w w':=by
 unfold solveB at h
 rw [rowsOf_length,matB_rows] at h
 split at h
 · rename_i hc
   obtain ⟨h1,h2,h3⟩:=hc
   split at h
   · rename_i h8
     have key:=Solve_key Aa Ab ca cb la lb w hE hs h1 h2 h3 h8
     rw [h1]
     refine key.mono fun e w' ⟨hB,hr⟩ => ⟨?_,hB⟩
     rcases hr with ⟨M,v,hM,he,hown⟩ | ⟨er,hM,he⟩
     · rw [hM] at h
       simp only [Except.ok.injEq] at h
       obtain ⟨p,c,rfl,hin⟩:=inRow_of_own hown
       refine ⟨p,c,?_,by rw [← h];exact hin⟩
       rw [he,← h,outL_length]
     · rw [hM] at h
       cases h
   · cases h
 · cases h
theorem Solve_er (Aa Ab : Option Addr) (ca cb : Nat) (la : List RowH) (lb : List Raw) (er : Int) (w : World) (hE : Env w) (hs : SysIn w Aa Ab la lb) (h : solveB (rowsOf la) lb = .error er) :
 Calls Tryz.prog 49 #[.slice Aa la.length ca,.slice Ab lb.length cb] w fun e w' => e = .returned (.tuple #[.slice none 0 0,.int .i64 er]) ∧ Below w.heap.size w w':=by
 unfold solveB at h
 rw [rowsOf_length,matB_rows] at h
 split at h
 · rename_i hc
   obtain ⟨h1,h2,h3⟩:=hc
   split at h
   · rename_i h8
     have key:=Solve_key Aa Ab ca cb la lb w hE hs h1 h2 h3 h8
     rw [h1]
     refine key.mono fun e w' ⟨hB,hr⟩ => ⟨?_,hB⟩
     rcases hr with ⟨M,v,hM,he,hown⟩ | ⟨er2,hM,he⟩
     · rw [hM] at h
       cases h
     · rw [hM] at h
       simp only [Except.error.injEq] at h
       rw [he,h]
   · rename_i h8
     simp only [Except.error.injEq] at h
     rw [← h]
     exact Solve_big Aa Ab ca cb la lb w hE h1 hs h2 h3 (by omega)
 · rename_i hc
   simp only [Except.error.injEq] at h
   rw [← h]
   by_cases h1 : la.length = lb.length
   · cases h2 : allV lb
     · exact Solve_vb Aa Ab ca cb la lb w hE h1 hs h2
     · cases h3 : matOk lb.length la
       · exact Solve_va Aa Ab ca cb la lb w hE h1 hs h2 h3
       · exact absurd ⟨h1,h2,h3⟩ hc
   · exact Solve_len Aa Ab ca cb la lb w h1 hs
end Nt
end Go.Proofs.YtioidbebjgeahaaGreatDoor
namespace Go.Proofs.YtioidbebjgeahaaGreatDoor
open Go.RowKit Go.Shelf
namespace Nt
def InM (n : Nat) (M N : Mx) : Prop:=∀ i,i < n → ∀ j,j ≤ n → M i j = N i j
section
variable {n : Nat} {M N : Mx}
theorem InM.sol (h : InM n M N) (y r : Nat → Rat) : Sol n M y r ↔ Sol n N y r:=by
 have e : ∀ i,i < n → sumTo n (fun j => M i j * y j) = sumTo n (fun j => N i j * y j):=fun i hi => sumTo_congr fun j hj => by rw [h i hi j (by omega)]
 exact ⟨fun k i hi => (e i hi).symm.trans (k i hi),fun k i hi => (e i hi).trans (k i hi)⟩
theorem InM.rhs (h : InM n M N) {y : Nat → Rat} : Sol n M y (fun i => M i n) ↔ Sol n N y (fun i => N i n) :=
 ⟨fun k => ((h.sol y _).1 k).congr fun i hi => h i hi n (Nat.le_refl n),fun k => ((h.sol y _).2 k).congr fun i hi => (h i hi n (Nat.le_refl n)).symm⟩
end
def ent (A : List (List Raw)) (i j : Nat) : Rat:=vq ((A.getD i []).getD j zraw)
def rhs (b : List Raw) (i : Nat) : Rat:=vq (b.getD i zraw)
def xsOf : Except Int (List Raw) → List Raw
 | .ok l => l
 | .error _ => []
def erOf : Except Int (List Raw) → Int
 | .ok _ => 0
 | .error e => e
end Nt
end Go.Proofs.YtioidbebjgeahaaGreatDoor
namespace Go.Proofs.YtioidbebjgeahaaGreatDoor
open Go.RowKit Go.Shelf
namespace Nt
end Nt
end Go.Proofs.YtioidbebjgeahaaGreatDoor
namespace Go.Proofs.YtioidbebjgeahaaGreatDoor
open Go.RowKit Go.Shelf
namespace Nt
theorem InRow.at {W : World} {A : Option Addr} {l : List Raw} (h : InRow W A l) {j : Nat} (hj : j < l.length) : ∃ b o,A = some ⟨b,o,none⟩ ∧ b < W.heap.size ∧ W.cell? ⟨b,o + j * 3,none⟩ = some (.bool l[j].1) ∧ W.cell? ⟨b,o + j * 3 + 1,none⟩ = some (.string l[j].2.1) ∧ W.cell? ⟨b,o + j * 3 + 2,none⟩ = some (.string l[j].2.2):=by
 obtain ⟨b,o,e,hl,hc⟩:=h (by omega)
 exact ⟨b,o,e,hl,hc j hj⟩
end Nt
end Go.Proofs.YtioidbebjgeahaaGreatDoor
namespace Go.Proofs.YtioidbebjgeahaaGreatDoor
namespace Sh
open Nt
def IsI (x : Rat) : Prop:=∃ z : Int,x = (z : Rat)
theorem IsI.zero : IsI 0:=⟨0,by simp⟩
theorem IsI.one : IsI 1:=⟨1,by simp⟩
theorem IsI.add {x y : Rat} (h1 : IsI x) (h2 : IsI y) : IsI (x + y):=by
 obtain ⟨a,rfl⟩:=h1;obtain ⟨b,rfl⟩:=h2;exact ⟨a + b,by simp [Rat.intCast_add]⟩
theorem IsI.mul {x y : Rat} (h1 : IsI x) (h2 : IsI y) : IsI (x * y):=by
 obtain ⟨a,rfl⟩:=h1;obtain ⟨b,rfl⟩:=h2;exact ⟨a * b,by simp [Rat.intCast_mul]⟩
theorem IsI.neg {x : Rat} (h1 : IsI x) : IsI (-x):=by
 obtain ⟨a,rfl⟩:=h1;exact ⟨-a,by simp [Rat.intCast_neg]⟩
theorem IsI.sum {n : Nat} {f : Nat → Rat} (h : ∀ i,i < n → IsI (f i)) : IsI (sumTo n f):=by
 induction n with
 | zero => exact IsI.zero
 | succ n ih => unfold sumTo;exact (ih fun i hi => h i (by omega)).add (h n (by omega))
def skip (i r : Nat) : Nat:=if r < i then r else r + 1
def sgn : Nat → Rat
 | 0 => 1
 | n + 1 => - sgn n
theorem sgn_int (n : Nat) : IsI (sgn n):=by
 induction n with
 | zero => exact IsI.one
 | succ n ih => exact ih.neg
def det : Nat → Mx → Rat
 | 0,_ => 1
 | n + 1,M => sumTo (n + 1) fun i => sgn i * M i 0 * det n fun r c => M (skip i r) (c + 1)
theorem det_congr : ∀ {n : Nat} {M N : Mx},(∀ i j,i < n → j < n → M i j = N i j) → det n M = det n N:=by
 intro n
 induction n with
 | zero => intros;rfl
 | succ n ih =>
   intro M N h
   unfold det
   apply sumTo_congr
   intro i hi
   rw [h i 0 hi (by omega),ih (M:=fun r c => M (skip i r) (c + 1)) (N:=fun r c => N (skip i r) (c + 1))]
   intro r c hr hc
   exact h _ _ (by unfold skip;split <;> omega) (by omega)
def setR (r : Nat) (u : Nat → Rat) (M : Mx) : Mx:=fun i => if i = r then u else M i
theorem skip_eq {i r : Nat} (h : r ≠ i) : ∃ t,skip i t = r ∧ ∀ s,skip i s = r ↔ s = t:=by
 by_cases c : r < i
 · refine ⟨r,by unfold skip;rw [if_pos c],fun s => ?_⟩
   unfold skip;split <;> omega
 · refine ⟨r - 1,by unfold skip;rw [if_neg (by omega)];omega,fun s => ?_⟩
   unfold skip;split <;> omega
theorem minor_set_same {i : Nat} (u : Nat → Rat) (M : Mx) : (fun r c => setR i u M (skip i r) (c + 1)) = fun r c => M (skip i r) (c + 1):=by
 funext r c
 unfold setR
 rw [if_neg (by unfold skip;split <;> omega)]
theorem minor_set_other {i r t : Nat} (u : Nat → Rat) (M : Mx) (h : ∀ s,skip i s = r ↔ s = t) : (fun s c => setR r u M (skip i s) (c + 1)) = setR t (fun c => u (c + 1)) fun s c => M (skip i s) (c + 1):=by
 funext s c
 unfold setR
 by_cases e : s = t
 · rw [if_pos ((h s).2 e),if_pos e]
 · rw [if_neg (fun e2 => e ((h s).1 e2)),if_neg e]
theorem skip_lt {i r t n : Nat} (h : skip i t = r) (hr : r < n + 1) (hi : i < n + 1) (_ : r ≠ i) : t < n:=by
 unfold skip at h;split at h <;> omega
theorem det_lin : ∀ {n r : Nat} (u v : Nat → Rat) (a b : Rat) (M : Mx),r < n → det n (setR r (fun j => a * u j + b * v j) M) = a * det n (setR r u M) + b * det n (setR r v M):=by
 intro n
 induction n with
 | zero => intro r u v a b M h;omega
 | succ n ih =>
   intro r u v a b M hr
   unfold det
   rw [← sumTo_mul,← sumTo_mul,← sumTo_add]
   apply sumTo_congr
   intro i hi
   by_cases e : r = i
   · subst e
     rw [minor_set_same,minor_set_same,minor_set_same]
     unfold setR
     rw [if_pos rfl,if_pos rfl,if_pos rfl]
     grind
   · obtain ⟨t,h1,h2⟩:=skip_eq e
     rw [minor_set_other _ _ h2,minor_set_other _ _ h2,minor_set_other _ _ h2,ih _ _ _ _ _ (skip_lt h1 hr hi e)]
     unfold setR
     rw [if_neg (fun h => e h.symm),if_neg (fun h => e h.symm),if_neg (fun h => e h.symm)]
     grind
theorem sumTo_two {n k : Nat} (f : Nat → Rat) (hk : k + 1 < n) (h : ∀ i,i < n → i ≠ k → i ≠ k + 1 → f i = 0) : sumTo n f = f k + f (k + 1):=by
 induction n with
 | zero => omega
 | succ n ih =>
   unfold sumTo
   by_cases e : k + 1 = n
   · subst e
     rw [sumTo_one (k:=k) f (by omega) fun i hi hne => h i (by omega) hne (by omega)]
   · rw [ih (by omega) fun i hi a b => h i (by omega) a b,h n (by omega) (by omega) (by omega)]
     grind
theorem det_adj : ∀ {n r : Nat} {M : Mx},r + 1 < n → (∀ j,j < n → M r j = M (r + 1) j) → det n M = 0:=by
 intro n
 induction n with
 | zero => intro r M h;omega
 | succ n ih =>
   intro r M hr he
   unfold det
   rw [sumTo_two (k:=r) _ hr]
   · have e1 : det n (fun s c => M (skip r s) (c + 1)) = det n (fun s c => M (skip (r + 1) s) (c + 1)):=by
      apply det_congr
      intro s c hs hc
      unfold skip
      by_cases c1 : s < r
      · rw [if_pos c1,if_pos (by omega)]
      · by_cases c2 : s = r
        · subst c2;rw [if_neg (by omega),if_pos (by omega)];exact (he _ (by omega)).symm
        · rw [if_neg c1,if_neg (by omega)]
     rw [e1,he 0 (by omega)]
     show sgn r * _ * _ + (- sgn r) * _ * _ = 0
     grind
   · intro i hi h1 h2
     obtain ⟨t,k1,k2⟩:=skip_eq (i:=i) (r:=r) (fun e => h1 e.symm)
     obtain ⟨t2,l1,l2⟩:=skip_eq (i:=i) (r:=r + 1) (fun e => h2 e.symm)
     have : t2 = t + 1:=by
      have a : skip i (t + 1) = r + 1:=by unfold skip at k1 ⊢;split at k1 <;> split <;> omega
      exact ((l2 _).1 a).symm
     subst this
     have ht : t + 1 < n:=skip_lt l1 hr hi (fun e => h2 e.symm)
     rw [ih (r:=t) ht]
     · grind
     · intro j hj
       rw [k1,l1]
       exact he _ (by omega)
theorem setR_same (r : Nat) (M : Mx) : setR r (M r) M = M:=by
 funext i
 unfold setR
 split
 · next h => rw [h]
 · rfl
theorem setR_comm {r s : Nat} (h : r ≠ s) (u v : Nat → Rat) (M : Mx) : setR r u (setR s v M) = setR s v (setR r u M):=by
 funext i
 unfold setR
 by_cases e1 : i = r
 · rw [if_pos e1,if_neg (by omega),if_pos e1]
 · rw [if_neg e1]
   by_cases e2 : i = s
   · rw [if_pos e2,if_pos e2]
   · rw [if_neg e2,if_neg e2,if_neg e1]
theorem setR_setR (r : Nat) (u v : Nat → Rat) (M : Mx) : setR r u (setR r v M) = setR r u M:=by
 funext i
 unfold setR
 split <;> rfl
theorem det_swap {n r : Nat} (u v : Nat → Rat) (M : Mx) (hr : r + 1 < n) : det n (setR r u (setR (r + 1) v M)) = - det n (setR r v (setR (r + 1) u M)):=by
 have z : ∀ x : Nat → Rat,det n (setR r x (setR (r + 1) x M)) = 0:=fun x => det_adj hr fun j _ => by
  unfold setR;rw [if_pos rfl,if_neg (by omega),if_pos rfl]
 have l1 : ∀ x y z : Nat → Rat,det n (setR r (fun j => 1 * x j + 1 * y j) (setR (r + 1) z M)) = 1 * det n (setR r x (setR (r + 1) z M)) + 1 * det n (setR r y (setR (r + 1) z M)):=fun x y z => det_lin x y 1 1 _ (by omega)
 have l2 : ∀ x y z : Nat → Rat,det n (setR r z (setR (r + 1) (fun j => 1 * x j + 1 * y j) M)) = 1 * det n (setR r z (setR (r + 1) x M)) + 1 * det n (setR r z (setR (r + 1) y M)):=fun x y z => by
  rw [setR_comm (by omega),setR_comm (by omega) z x,setR_comm (by omega) z y]
  exact det_lin x y 1 1 _ hr
 have h:=z fun j => 1 * u j + 1 * v j
 rw [l1,l2,l2,z u,z v] at h
 grind
theorem det_eq : ∀ {d n r : Nat} {M : Mx},r + 1 + d < n → (∀ j,j < n → M r j = M (r + 1 + d) j) → det n M = 0:=by
 intro d
 induction d with
 | zero => intro n r M h he;exact det_adj h he
 | succ d ih =>
   intro n r M h he
   have h1 : M = setR (r + 1 + d) (M (r + 1 + d)) (setR (r + 1 + d + 1) (M (r + 1 + (d + 1))) M):=by
    have e1:=setR_same (r + 1 + d + 1) M
    rw [show r + 1 + (d + 1) = r + 1 + d + 1 by omega,e1,setR_same]
   rw [h1,det_swap _ _ _ (by omega),ih (r:=r) (by omega)]
   · rfl
   · intro j hj
     unfold setR
     rw [if_neg (by omega),if_neg (by omega),if_pos rfl]
     exact he j hj
theorem det_eq' {n r s : Nat} {M : Mx} (hr : r < n) (hs : s < n) (hne : r ≠ s) (he : ∀ j,j < n → M r j = M s j) : det n M = 0:=by
 by_cases c : r < s
 · exact det_eq (d:=s - r - 1) (r:=r) (by omega) fun j hj => by rw [show r + 1 + (s - r - 1) = s by omega];exact he j hj
 · exact det_eq (d:=r - s - 1) (r:=s) (by omega) fun j hj => by rw [show s + 1 + (r - s - 1) = r by omega];exact (he j hj).symm
theorem det_rowadd {n r s : Nat} (c : Rat) (M : Mx) (hr : r < n) (hs : s < n) (hne : r ≠ s) : det n (setR r (fun j => M r j + c * M s j) M) = det n M:=by
 have h:=det_lin (M r) (M s) 1 c M hr
 rw [setR_same,det_eq' (M:=setR r (M s) M) hr hs hne fun j _ => by unfold setR;rw [if_pos rfl,if_neg (fun e => hne e.symm)]] at h
 have e : (fun j => M r j + c * M s j) = fun j => 1 * M r j + c * M s j:=by funext j;rw [Rat.one_mul]
 rw [e,h]
 grind
theorem det_rowmul {n r : Nat} (c : Rat) (M : Mx) (hr : r < n) : det n (setR r (fun j => c * M r j) M) = c * det n M:=by
 have h:=det_lin (M r) (M r) c 0 M hr
 rw [setR_same] at h
 have e : (fun j => c * M r j) = fun j => c * M r j + 0 * M r j:=by funext j;grind
 rw [e,h]
 grind
theorem det_unit : ∀ (n : Nat) {M : Mx},(∀ i j,i < n → j < n → M i j = if i = j then 1 else 0) → det n M = 1:=by
 intro n
 induction n with
 | zero => intros;rfl
 | succ n ih =>
   intro M h
   unfold det
   rw [sumTo_one (k:=0) _ (by omega) fun i hi hne => by rw [h i 0 hi (by omega),if_neg hne];grind]
   rw [h 0 0 (by omega) (by omega),if_pos rfl,ih]
   · show (1 : Rat) * 1 * 1 = 1
     grind
   · intro i j hi hj
     show M (i + 1) (j + 1) = _
     rw [h _ _ (by omega) (by omega)]
     by_cases e : i = j
     · rw [if_pos e,if_pos (by omega)]
     · rw [if_neg e,if_neg (by omega)]
theorem det_sum {n r : Nat} (M : Mx) (hr : r < n) (y : Nat → Rat) (R : Nat → Nat → Rat) : ∀ m,det n (setR r (fun j => sumTo m fun l => y l * R l j) M) = sumTo m fun l => y l * det n (setR r (R l) M):=by
 intro m
 induction m with
 | zero =>
   have h:=det_rowmul 0 (setR r (fun _ => 0) M) hr
   rw [setR_setR] at h
   have e : (fun j => 0 * setR r (fun _ => 0) M r j) = (fun _ => 0):=by funext j;grind
   rw [e] at h
   show det n (setR r (fun _ => 0) M) = 0
   rw [h];grind
 | succ m ih =>
   show det n (setR r (fun j => (sumTo m fun l => y l * R l j) + y m * R m j) M) = _
   have e : (fun j => (sumTo m fun l => y l * R l j) + y m * R m j) = fun j => 1 * (sumTo m fun l => y l * R l j) + y m * R m j:=by funext j;grind
   rw [e,det_lin _ _ _ _ _ hr,ih]
   show _ = (sumTo m fun l => y l * det n (setR r (R l) M)) + y m * det n (setR r (R m) M)
   grind
theorem cramer {n i : Nat} (M : Mx) (y c : Nat → Rat) (hi : i < n) (h : ∀ j,j < n → sumTo n (fun l => y l * M l j) = c j) : y i * det n M = det n (setR i c M):=by
 have h1 : det n (setR i c M) = det n (setR i (fun j => sumTo n fun l => y l * M l j) M):=by
  apply det_congr
  intro r j _ hj
  unfold setR
  split
  · exact (h j hj).symm
  · rfl
 rw [h1,det_sum M hi,sumTo_one (k:=i) _ hi fun l hl hne => ?_,setR_same]
 rw [det_eq' (M:=setR i (M l) M) hi hl (fun e => hne e.symm) fun j _ => by unfold setR;rw [if_pos rfl,if_neg hne]]
 grind
def prodTo : Nat → (Nat → Rat) → Rat
 | 0,_ => 1
 | n + 1,f => prodTo n f * f n
theorem prodTo_skip : ∀ {n i : Nat} (f : Nat → Rat),i < n + 1 → prodTo (n + 1) f = f i * prodTo n fun r => f (skip i r):=by
 intro n
 induction n with
 | zero => intro i f h;have : i = 0:=by omega
           subst this;simp only [prodTo];grind
 | succ n ih =>
   intro i f h
   by_cases e : i = n + 1
   · subst e
     show prodTo (n + 1) f * f (n + 1) = _
     have : prodTo (n + 1) (fun r => f (skip (n + 1) r)) = prodTo (n + 1) f:=by
      have : ∀ m,m ≤ n + 1 → prodTo m (fun r => f (skip (n + 1) r)) = prodTo m f:=by
       intro m
       induction m with
       | zero => intro _;rfl
       | succ m ihm => intro hm;unfold prodTo;rw [ihm (by omega)];congr 1;show f (if m < n + 1 then m else m + 1) = f m;rw [if_pos (by omega)]
      exact this _ (Nat.le_refl _)
     rw [this];grind
   · show prodTo (n + 1) f * f (n + 1) = _
     rw [ih f (by omega : i < n + 1)]
     show _ = f i * (prodTo n (fun r => f (skip i r)) * f (skip i n))
     rw [show skip i n = n + 1 by unfold skip;rw [if_neg (by omega)]]
     grind
theorem det_int : ∀ {n : Nat} {s : Nat → Rat} {M : Mx},(∀ i j,i < n → j < n → IsI (s i * M i j)) → IsI (prodTo n s * det n M):=by
 intro n
 induction n with
 | zero => intro s M _;show IsI (1 * 1);rw [Rat.one_mul];exact IsI.one
 | succ n ih =>
   intro s M h
   unfold det
   rw [← sumTo_mul]
   apply IsI.sum
   intro i hi
   rw [prodTo_skip s hi]
   have h1:=ih (s:=fun r => s (skip i r)) (M:=fun r c => M (skip i r) (c + 1)) fun a b ha hb => h _ _ (by unfold skip;split <;> omega) (by omega)
   have h2:=((sgn_int i).mul (h i 0 hi (by omega))).mul h1
   have e : s i * prodTo n (fun r => s (skip i r)) * (sgn i * M i 0 * det n fun r c => M (skip i r) (c + 1)) = sgn i * (s i * M i 0) * (prodTo n (fun r => s (skip i r)) * det n fun r c => M (skip i r) (c + 1)):=by grind
   rw [e]
   exact h2
end Sh
end Go.Proofs.YtioidbebjgeahaaGreatDoor
namespace Go.Proofs.YtioidbebjgeahaaGreatDoor
namespace Sh
open Nt
theorem sumTo_le {n : Nat} {f g : Nat → Rat} (h : ∀ i,i < n → f i ≤ g i) : sumTo n f ≤ sumTo n g:=by
 induction n with
 | zero => exact Rat.le_refl
 | succ n ih =>
   unfold sumTo
   have h1:=ih fun i hi => h i (by omega)
   have h2:=h n (by omega)
   grind
theorem sumTo_split {n k : Nat} (f : Nat → Rat) (hk : k < n) : sumTo n f = f k + sumTo n fun j => if j = k then 0 else f j:=by
 induction n with
 | zero => omega
 | succ n ih =>
   show sumTo n f + f n = f k + ((sumTo n fun j => if j = k then 0 else f j) + (if n = k then 0 else f n))
   by_cases e : k = n
   · subst e
     rw [if_pos rfl,sumTo_congr (g:=f) (f:=fun j => if j = k then 0 else f j) fun i hi => if_neg (by omega)]
     grind
   · rw [if_neg (by omega),ih (by omega)]
     grind
theorem mul_np {a b : Rat} (h1 : a ≤ 0) (h2 : 0 ≤ b) : a * b ≤ 0:=by
 have:=Rat.mul_nonneg (a:=-a) (b:=b) (by grind) h2
 grind
def stepQ (k : Nat) (M : Mx) : Mx:=fun i j => if i = k then M k j * (M k k)⁻¹ else M i j - M i k * (M k j * (M k k)⁻¹)
structure Shs (n : Nat) (M : Mx) (v : Nat → Rat) : Prop where
 le1 : ∀ i,i < n → M i i ≤ 1
 off : ∀ i j,i < n → j < n → j ≠ i → M i j ≤ 0
 rhs : ∀ i,i < n → 0 ≤ M i n
 slack : ∀ i,i < n → M i n ≤ sumTo n (M i)
 pos : ∀ i,i < n → 0 < sumTo n fun j => M i j * v j
 vnn : ∀ j,j < n → 0 ≤ v j
theorem Shs.piv {n k : Nat} {M : Mx} {v : Nat → Rat} (h : Shs n M v) (hk : k < n) : 0 < M k k:=by
 have h1:=h.pos k hk
 rw [sumTo_split _ hk] at h1
 have h2 : (sumTo n fun j => if j = k then 0 else M k j * v j) ≤ 0:=by
  have:=sumTo_le (n:=n) (f:=fun j => if j = k then 0 else M k j * v j) (g:=fun _ => 0) fun j hj => by
   split
   · exact Rat.le_refl
   · next e => exact mul_np (h.off k j hk hj e) (h.vnn j hj)
  rw [sumTo_zero fun _ _ => rfl] at this
  exact this
 by_cases c : 0 < M k k
 · exact c
 · have:=mul_np (Rat.not_lt.1 c) (h.vnn k hk)
   grind
theorem inv_pos {p : Rat} (h : 0 < p) : 0 < p⁻¹:=Rat.inv_pos.2 h
theorem Shs.step {n k : Nat} {M : Mx} {v : Nat → Rat} (h : Shs n M v) (hk : k < n) : Shs n (stepQ k M) v:=by
 have hp:=h.piv hk
 have hq:=inv_pos hp
 have hpq : M k k * (M k k)⁻¹ = 1:=Rat.mul_inv_cancel _ (by grind)
 have rowk : ∀ j,stepQ k M k j = (M k k)⁻¹ * M k j:=fun j => by unfold stepQ;rw [if_pos rfl];grind
 have rowi : ∀ i j,i ≠ k → stepQ k M i j = M i j + (- M i k * (M k k)⁻¹) * M k j:=fun i j e => by unfold stepQ;rw [if_neg e];grind
 have hf : ∀ i,i < n → i ≠ k → 0 ≤ - M i k * (M k k)⁻¹:=fun i hi e => Rat.mul_nonneg (by have:=h.off i k hi hk (fun a => e a.symm);grind) (Rat.le_of_lt hq)
 refine ⟨fun i hi => ?_,fun i j hi hj hne => ?_,fun i hi => ?_,fun i hi => ?_,fun i hi => ?_,h.vnn⟩
 · by_cases e : i = k
   · subst e;rw [rowk,Rat.mul_comm,hpq];exact Rat.le_refl
   · rw [rowi i i e]
     have h1:=h.le1 i hi
     have h2:=mul_np (h.off k i hk hi e) (hf i hi e)
     grind
 · by_cases e : i = k
   · subst e;rw [rowk]
     have:=mul_np (h.off i j hi hj hne) (Rat.le_of_lt hq)
     grind
   · rw [rowi i j e]
     by_cases e2 : j = k
     · subst e2
       have e3 : M i j + -M i j * (M j j)⁻¹ * M j j = M i j - M i j * (M j j * (M j j)⁻¹):=by grind
       rw [e3,hpq];grind
     · have h1:=h.off i j hi hj hne
       have h2:=mul_np (h.off k j hk hj e2) (hf i hi e)
       grind
 · by_cases e : i = k
   · subst e;rw [rowk];exact Rat.mul_nonneg (Rat.le_of_lt hq) (h.rhs i hi)
   · rw [rowi i n e]
     have h1:=h.rhs i hi
     have h2:=Rat.mul_nonneg (hf i hi e) (h.rhs k hk)
     grind
 · by_cases e : i = k
   · subst e
     rw [rowk,sumTo_congr fun j _ => rowk j,sumTo_mul]
     exact Rat.mul_le_mul_of_nonneg_left (h.slack i hi) (Rat.le_of_lt hq)
   · rw [rowi i n e,sumTo_congr fun j _ => rowi i j e,sumTo_add,sumTo_mul]
     have h1:=h.slack i hi
     have h2:=Rat.mul_le_mul_of_nonneg_left (h.slack k hk) (hf i hi e)
     have h3 : sumTo n (M i) = sumTo n fun j => M i j:=rfl
     have h4 : sumTo n (M k) = sumTo n fun j => M k j:=rfl
     rw [h3] at h1
     rw [h4] at h2
     grind
 · by_cases e : i = k
   · subst e
     rw [sumTo_congr (g:=fun j => (M i i)⁻¹ * (M i j * v j)) fun j _ => by rw [rowk];grind,sumTo_mul]
     exact Rat.mul_pos hq (h.pos i hi)
   · rw [sumTo_congr (g:=fun j => M i j * v j + (- M i k * (M k k)⁻¹) * (M k j * v j)) fun j _ => by rw [rowi i j e];grind,sumTo_add,sumTo_mul]
     have h1:=h.pos i hi
     have h2:=Rat.mul_nonneg (hf i hi e) (Rat.le_of_lt (h.pos k hk))
     grind
theorem Shs.diag {n i : Nat} {M : Mx} {v : Nat → Rat} (h : Shs n M v) (hi : i < n) : 0 ≤ M i i ∧ M i n ≤ M i i ∧ ∀ j,j < n → - M i i ≤ M i j:=by
 have h1:=h.slack i hi
 have h2:=h.rhs i hi
 rw [sumTo_split _ hi] at h1
 have h3 : (sumTo n fun j => if j = i then 0 else M i j) ≤ 0:=by
  have:=sumTo_le (n:=n) (f:=fun j => if j = i then 0 else M i j) (g:=fun _ => 0) fun j hj => by
   split
   · exact Rat.le_refl
   · next e => exact h.off i j hi hj e
  rw [sumTo_zero fun _ _ => rfl] at this
  exact this
 refine ⟨by grind,by grind,fun j hj => ?_⟩
 by_cases e : j = i
 · subst e;grind
 · rw [sumTo_split _ hj,if_neg e] at h1
   have h4 : (sumTo n fun t => if t = j then 0 else if t = i then 0 else M i t) ≤ 0:=by
    have:=sumTo_le (n:=n) (f:=fun t => if t = j then 0 else if t = i then 0 else M i t) (g:=fun _ => 0) fun t ht => by
     split
     · exact Rat.le_refl
     · split
       · exact Rat.le_refl
       · next e => exact h.off i t hi ht e
    rw [sumTo_zero fun _ _ => rfl] at this
    exact this
   grind
theorem Shs.abs {n i j : Nat} {M : Mx} {v : Nat → Rat} (h : Shs n M v) (hi : i < n) (hj : j ≤ n) : -1 ≤ M i j ∧ M i j ≤ 1:=by
 obtain ⟨h1,h2,h3⟩:=h.diag hi
 have h4:=h.le1 i hi
 by_cases e : j = n
 · subst e;have:=h.rhs i hi;grind
 · have h5:=h3 j (by omega)
   by_cases e2 : j = i
   · subst e2;grind
   · have:=h.off i j hi (by omega) e2
     grind
structure Mad (n k : Nat) (A M : Mx) : Prop where
 unit : Unit n k M
 comb : ∀ i,i < n → ∃ y : Nat → Rat,(∀ l,k ≤ l → y l = 0) ∧ ∀ j,j ≤ n → M i j = (if i < k then 0 else A i j) + sumTo k fun l => y l * A l j
 dets : ∃ P : Rat,0 < P ∧ P ≤ 1 ∧ ∀ K,k ≤ K → K ≤ n → det K A = P * det K M
theorem Mad.start (n : Nat) (A : Mx) : Mad n 0 A A:=by
 refine ⟨fun i j _ h => absurd h (by omega),fun i _ => ⟨fun _ => 0,fun _ _ => rfl,fun j _ => ?_⟩,1,by decide,by decide,fun K _ _ => (Rat.one_mul _).symm⟩
 rw [if_neg (by omega)]
 exact (Rat.add_zero _).symm
def partQ (k m : Nat) (M : Mx) : Mx:=fun i j => if i = k then M k j * (M k k)⁻¹ else if i < m then M i j - M i k * (M k j * (M k k)⁻¹) else M i j
theorem partQ_det {n k K : Nat} {M : Mx} (hk : k < K) (_ : K ≤ n) : ∀ m,det K (partQ k m M) = (M k k)⁻¹ * det K M:=by
 intro m
 induction m with
 | zero =>
   rw [← det_rowmul _ M hk]
   congr 1
   funext i j
   unfold partQ setR
   by_cases e : i = k
   · rw [if_pos e,if_pos e,Rat.mul_comm]
   · rw [if_neg e,if_neg (by omega),if_neg e]
 | succ m ih =>
   rw [← ih]
   by_cases e : m = k
   · congr 1
     funext i j
     unfold partQ
     by_cases e2 : i = k
     · rw [if_pos e2,if_pos e2]
     · rw [if_neg e2,if_neg e2]
       by_cases c : i < m
       · rw [if_pos (by omega),if_pos c]
       · rw [if_neg (by omega),if_neg c]
   · by_cases c : m < K
     · rw [← det_rowadd (r:=m) (s:=k) (- M m k) (partQ k m M) c hk e]
       congr 1
       funext i j
       unfold setR
       by_cases e2 : i = m
       · subst e2
         unfold partQ
         simp only [if_neg e,if_neg (Nat.lt_irrefl _),if_pos (Nat.lt_succ_self _)]
         simp only [if_true]
         grind
       · rw [if_neg e2]
         unfold partQ
         by_cases e3 : i = k
         · rw [if_pos e3,if_pos e3]
         · rw [if_neg e3,if_neg e3]
           by_cases c2 : i < m
           · rw [if_pos (by omega),if_pos c2]
           · rw [if_neg (by omega),if_neg c2]
     · apply det_congr
       intro i j hi hj
       unfold partQ
       by_cases e3 : i = k
       · rw [if_pos e3,if_pos e3]
       · rw [if_neg e3,if_neg e3,if_pos (by omega),if_pos (by omega)]
theorem stepQ_det {n k K : Nat} {M : Mx} (hk : k < K) (hK : K ≤ n) : det K (stepQ k M) = (M k k)⁻¹ * det K M:=by
 rw [← partQ_det (n:=n) hk hK K]
 apply det_congr
 intro i j hi _
 unfold partQ stepQ
 by_cases e : i = k
 · rw [if_pos e,if_pos e]
 · rw [if_neg e,if_neg e,if_pos hi]
theorem Mad.step {n k : Nat} {A M : Mx} {v : Nat → Rat} (h : Mad n k A M) (hs : Shs n M v) (hk : k < n) : Mad n (k + 1) A (stepQ k M):=by
 have hp:=hs.piv hk
 have hpq : M k k * (M k k)⁻¹ = 1:=Rat.mul_inv_cancel _ (by grind)
 have hz:=h.unit.zeros hk (Nat.le_refl _)
 refine ⟨fun i j hi hj => ?_,fun i hi => ?_,?_⟩
 · unfold stepQ
   by_cases e : j = k
   · subst e
     by_cases e2 : i = j
     · rw [if_pos e2,if_pos e2,hpq]
     · rw [if_neg e2,if_neg e2,hpq];grind
   · rw [hz j (by omega)]
     by_cases e2 : i = k
     · rw [if_pos e2,if_neg (by omega)];grind
     · rw [if_neg e2,h.unit i j hi (by omega)];grind
 · obtain ⟨yk,k1,k2⟩:=h.comb k hk
   have k2 : ∀ j,j ≤ n → M k j = A k j + sumTo k fun l => yk l * A l j:=fun j hj => by have:=k2 j hj;rwa [if_neg (Nat.lt_irrefl _)] at this
   by_cases e : i = k
   · subst e
     refine ⟨fun l => if l = i then (M i i)⁻¹ else (M i i)⁻¹ * yk l,fun l hl => ?_,fun j hj => ?_⟩
     · dsimp only;rw [if_neg (by omega),k1 l (by omega)];grind
     · rw [if_pos (by omega)]
       unfold stepQ
       rw [if_pos rfl]
       show _ = 0 + ((sumTo i fun l => (if l = i then (M i i)⁻¹ else (M i i)⁻¹ * yk l) * A l j) + (if i = i then (M i i)⁻¹ else (M i i)⁻¹ * yk i) * A i j)
       rw [if_pos rfl,sumTo_congr (g:=fun l => (M i i)⁻¹ * (yk l * A l j)) fun l hl => by rw [if_neg (by omega)];grind,sumTo_mul]
       have:=k2 j hj
       grind
   · obtain ⟨y,h1,h2⟩:=h.comb i hi
     refine ⟨fun l => if l = k then - M i k * (M k k)⁻¹ else y l + (- M i k * (M k k)⁻¹) * yk l,fun l hl => ?_,fun j hj => ?_⟩
     · dsimp only;rw [if_neg (by omega),k1 l (by omega),h1 l (by omega)];grind
     · have e1 : (if i < k + 1 then 0 else A i j) = (if i < k then 0 else A i j):=by
        by_cases c : i < k
        · rw [if_pos c,if_pos (by omega)]
        · rw [if_neg c,if_neg (by omega)]
       rw [e1]
       unfold stepQ
       rw [if_neg e]
       show _ = _ + ((sumTo k fun l => (if l = k then - M i k * (M k k)⁻¹ else y l + (- M i k * (M k k)⁻¹) * yk l) * A l j) + (if k = k then - M i k * (M k k)⁻¹ else y k + (- M i k * (M k k)⁻¹) * yk k) * A k j)
       rw [if_pos rfl,sumTo_congr (g:=fun l => y l * A l j + (- M i k * (M k k)⁻¹) * (yk l * A l j)) fun l hl => by rw [if_neg (by omega)];grind,sumTo_add,sumTo_mul]
       have a:=k2 j hj
       have b:=h2 j hj
       grind
 · obtain ⟨P,p1,p2,p3⟩:=h.dets
   refine ⟨P * M k k,Rat.mul_pos p1 hp,?_,fun K h1 h2 => ?_⟩
   · have h1:=hs.le1 k hk
     have h2:=Rat.mul_le_mul_of_nonneg_left h1 (Rat.le_of_lt p1)
     grind
   · rw [p3 K (by omega) h2,stepQ_det (n:=n) (by omega) h2,Rat.mul_assoc,← Rat.mul_assoc (M k k),hpq,Rat.one_mul]
theorem Mad.det_k {n k : Nat} {A M : Mx} (h : Mad n k A M) (hk : k ≤ n) : 0 < det k A ∧ det k A ≤ 1:=by
 obtain ⟨P,p1,p2,p3⟩:=h.dets
 have:=p3 k (Nat.le_refl _) hk
 rw [det_unit k fun i j hi hj => h.unit i j (by omega) hj,Rat.mul_one] at this
 rw [this]
 exact ⟨p1,p2⟩
theorem prodTo_const (c : Rat) (n : Nat) : prodTo n (fun _ => c) = c ^ n:=by
 induction n with
 | zero => exact (Rat.pow_zero c).symm
 | succ n ih => rw [prodTo,ih,Rat.pow_succ]
theorem prodTo_congr {n : Nat} {f g : Nat → Rat} (h : ∀ i,i < n → f i = g i) : prodTo n f = prodTo n g:=by
 induction n with
 | zero => rfl
 | succ n ih => rw [prodTo,prodTo,ih fun i hi => h i (by omega),h n (by omega)]
theorem comb_int {n k l : Nat} {A : Mx} {c : Rat} (hA : ∀ i j,i < n → j < n → IsI (c * A i j)) (hk : k ≤ n) (y r : Nat → Rat) (t : Rat) (hl : l < k) (ht : ∀ j,j < k → IsI (t * r j)) (h : ∀ j,j < k → (sumTo k fun l => y l * A l j) = r j) :
 IsI (y l * (c ^ (k - 1) * t * det k A)):=by
 have h1:=cramer A y r hl h
 have h2:=det_int (n:=k) (s:=fun i => if i = l then t else c) (M:=setR l r A) fun i j hi hj => by
  unfold setR
  by_cases e : i = l
  · rw [if_pos e,if_pos e];exact ht j hj
  · rw [if_neg e,if_neg e];exact hA i j (by omega) (by omega)
 have h3 : prodTo k (fun i => if i = l then t else c) = c ^ (k - 1) * t:=by
  obtain ⟨m,rfl⟩ : ∃ m,k = m + 1:=⟨k - 1,by omega⟩
  rw [prodTo_skip _ hl,if_pos rfl,prodTo_congr (g:=fun _ => c) fun i hi => if_neg (by unfold skip;split <;> omega),prodTo_const,Nat.add_sub_cancel,Rat.mul_comm]
 rw [h3,← h1] at h2
 have e : c ^ (k - 1) * t * (y l * det k A) = y l * (c ^ (k - 1) * t * det k A):=by grind
 rwa [e] at h2
theorem pow_pred (c : Rat) {k : Nat} (h : 0 < k) : c ^ (k - 1) * c = c ^ k:=by
 obtain ⟨m,rfl⟩ : ∃ m,k = m + 1:=⟨k - 1,by omega⟩
 rw [Nat.add_sub_cancel,Rat.pow_succ]
theorem Mad.int_top {n k i j : Nat} {A M : Mx} {c D : Rat} (h : Mad n k A M) (hk : k ≤ n) (hA : ∀ i j,i < n → j < n → IsI (c * A i j)) (hb : ∀ i,i < n → IsI (c * D * A i n)) (hD : IsI D) (hi : i < k) (hj : j ≤ n) : IsI (c ^ k * det k A * D * M i j):=by
 obtain ⟨y,h1,h2⟩:=h.comb i (by omega)
 have h3 : ∀ l,l < k → IsI (y l * (c ^ (k - 1) * 1 * det k A)):=fun l hl => comb_int hA hk y (fun j => if i = j then 1 else 0) 1 hl (fun j _ => by split;(· rw [Rat.one_mul];exact IsI.one);(· rw [Rat.one_mul];exact IsI.zero)) fun j hj => by
  have:=h2 j (by omega)
  rw [h.unit i j (by omega) hj,if_pos hi,Rat.zero_add] at this
  exact this.symm
 rw [h2 j hj,if_pos hi,Rat.zero_add,← sumTo_mul]
 apply IsI.sum
 intro l hl
 have h4:=h3 l hl
 have h5 : IsI (c * D * A l j):=by
  by_cases e : j = n
  · rw [e];exact hb l (by omega)
  · have:=(hA l j (by omega) (by omega)).mul hD
    have e2 : c * A l j * D = c * D * A l j:=by grind
    rwa [e2] at this
 have h6:=h4.mul h5
 have e : y l * (c ^ (k - 1) * 1 * det k A) * (c * D * A l j) = c ^ (k - 1) * c * det k A * D * (y l * A l j):=by grind
 rw [e,pow_pred c (by omega)] at h6
 exact h6
theorem Mad.int_all {n k i j : Nat} {A M : Mx} {c D : Rat} (h : Mad n k A M) (hk : k ≤ n) (hc : IsI c) (hA : ∀ i j,i < n → j < n → IsI (c * A i j)) (hb : ∀ i,i < n → IsI (c * D * A i n)) (hD : IsI D) (hi : i < n) (hj : j ≤ n) : IsI (c ^ k * det k A * (c * D) * M i j):=by
 by_cases hik : i < k
 · have h1:=(h.int_top hk hA hb hD hik hj).mul hc
   have e : c ^ k * det k A * D * M i j * c = c ^ k * det k A * (c * D) * M i j:=by grind
   rwa [e] at h1
 · obtain ⟨y,h1,h2⟩:=h.comb i hi
   have h3 : ∀ l,l < k → IsI (y l * (c ^ (k - 1) * c * det k A)):=fun l hl => comb_int hA hk y (fun j => - A i j) c hl (fun j hj => by
    have:=(hA i j hi (by omega)).neg
    have e : -(c * A i j) = c * (- A i j):=by grind
    rwa [e] at this) fun j hj => by
    have:=h2 j (by omega)
    rw [h.unit i j hi hj,if_neg (by omega),if_neg hik] at this
    grind
   have h5 : ∀ l,l < n → IsI (c * D * A l j):=fun l hl => by
    by_cases e : j = n
    · rw [e];exact hb l hl
    · have:=(hA l j hl (by omega)).mul hD
      have e2 : c * A l j * D = c * D * A l j:=by grind
      rwa [e2] at this
   have hdet : IsI (c ^ k * det k A):=by
    have:=det_int (n:=k) (s:=fun _ => c) (M:=A) fun i j hi hj => hA i j (by omega) (by omega)
    rwa [prodTo_const] at this
   rw [h2 j hj,if_neg hik]
   have e : c ^ k * det k A * (c * D) * (A i j + sumTo k fun l => y l * A l j) = c ^ k * det k A * (c * D * A i j) + (c ^ k * det k A * (c * D)) * sumTo k fun l => y l * A l j:=by grind
   rw [e,← sumTo_mul]
   refine (hdet.mul (h5 i hi)).add (IsI.sum fun l hl => ?_)
   have h6:=(h3 l hl).mul (h5 l (by omega))
   have e : y l * (c ^ (k - 1) * c * det k A) * (c * D * A l j) = c ^ (k - 1) * c * det k A * (c * D) * (y l * A l j):=by grind
   rwa [e,pow_pred c (by omega)] at h6
end Sh
end Go.Proofs.YtioidbebjgeahaaGreatDoor
namespace Go.Proofs.YtioidbebjgeahaaGreatDoor
namespace Sh
open Nt
theorem elimTo_some {S : Rat → Bool} {n k : Nat} {M : Mx} : ∀ {m : Nat},m ≤ n →
 (∀ i,i < m → i ≠ k → ∀ j,k ≤ j → j ≤ n → S (M i k) = true ∧ S (M k j) = true ∧ S (M i j) = true ∧ S (M i k * M k j) = true) →
 elimTo S n k m M = some fun i j => if i < m ∧ i ≠ k ∧ k ≤ j then M i j - M i k * M k j else M i j:=by
 intro m
 induction m with
 | zero =>
   intro _ _
   unfold elimTo
   congr 1
 | succ m ih =>
   intro hm hS
   unfold elimTo
   rw [ih (by omega) fun i hi => hS i (by omega)]
   rw [Option.bind_some]
   unfold elimRow
   have e1 : ∀ j,(if m < m ∧ m ≠ k ∧ k ≤ j then M m j - M m k * M k j else M m j) = M m j:=fun j => if_neg fun h => absurd h.1 (Nat.lt_irrefl _)
   have e2 : ∀ j,(if k < m ∧ k ≠ k ∧ k ≤ j then M k j - M k k * M k j else M k j) = M k j:=fun j => if_neg fun h => h.2.1 rfl
   by_cases c : m = k ∨ M m k = 0
   · rw [if_pos (by dsimp only;rw [e1];exact c)]
     congr 1
     funext i j
     by_cases e : i = m
     · subst e
       rw [e1]
       by_cases d : i ≠ k ∧ k ≤ j
       · rw [if_pos ⟨by omega,d⟩]
         rcases c with c | c
         · exact absurd c d.1
         · rw [c];grind
       · rw [if_neg fun h => d h.2]
     · by_cases d : i < m ∧ i ≠ k ∧ k ≤ j
       · rw [if_pos d,if_pos ⟨by omega,d.2⟩]
       · rw [if_neg d,if_neg fun h => d ⟨by omega,h.2⟩]
   · have hmk : m ≠ k:=fun e => c (.inl e)
     rw [if_neg (by dsimp only;rw [e1];exact c),if_pos]
     · congr 1
       funext i j
       unfold subR
       dsimp only
       by_cases e : i = m
       · subst e
         rw [e1,e1,e2]
         by_cases d : k ≤ j
         · rw [if_pos ⟨rfl,d⟩,if_pos ⟨by omega,hmk,d⟩]
         · rw [if_neg fun h => d h.2,if_neg fun h => d h.2.2]
       · rw [if_neg fun h => e h.1]
         by_cases d : i < m ∧ i ≠ k ∧ k ≤ j
         · rw [if_pos d,if_pos ⟨by omega,d.2⟩]
         · rw [if_neg d,if_neg fun h => d ⟨by omega,h.2⟩]
     · rw [okSub_iff]
       intro j h1 h2
       rw [e1,e1,e2]
       exact hS m (by omega) hmk j h1 h2
theorem pivot_self {n k : Nat} {M : Mx} (hk : k < n) (h : M k k ≠ 0) : pivot n k M (n - k) = some k :=
 pivot_step (by omega) (by omega) hk h fun i a b => by omega
theorem swap_self (k : Nat) (M : Mx) : swapR k k M = M:=by
 funext i
 unfold swapR
 split
 · next h => rw [h]
 · rfl
theorem stepK_ok {S : Rat → Bool} {n k : Nat} {M : Mx} (hk : k < n) (hu : Unit n k M) (h0 : M k k ≠ 0)
 (h1 : ∀ i j,i < n → j ≤ n → S (M i j) = true) (h2 : ∀ j,j ≤ n → S (stepQ k M k j) = true) (h3 : ∀ i j,i < n → j ≤ n → S (M i k * stepQ k M k j) = true) : ∃ M',stepK S n k M = .ok M' ∧ ∀ i j,i < n → M' i j = stepQ k M i j:=by
 have hpq : M k k * (M k k)⁻¹ = 1:=Rat.mul_inv_cancel _ h0
 have hz:=hu.zeros hk (Nat.le_refl _)
 have hrow : ∀ j,divMx k M k j = stepQ k M k j:=fun j => by
  unfold divMx stepQ
  rw [if_pos rfl]
  by_cases c : k ≤ j
  · rw [if_pos ⟨rfl,c⟩,Rat.div_def]
  · rw [if_neg fun h => c h.2,hz j (by omega)];grind
 have hother : ∀ i j,i ≠ k → divMx k M i j = M i j:=fun i j e => by unfold divMx;rw [if_neg fun h => e h.1]
 have he:=elimTo_some (S:=S) (n:=n) (k:=k) (M:=divMx k M) (Nat.le_refl n) fun i hi hne j _ hj => by
  rw [hother i k hne,hrow,hother i j hne]
  exact ⟨h1 i k hi (by omega),h2 j hj,h1 i j hi hj,h3 i j hi hj⟩
 refine ⟨fun i j => if i < n ∧ i ≠ k ∧ k ≤ j then divMx k M i j - divMx k M i k * divMx k M k j else divMx k M i j,?_,?_⟩
 · unfold stepK
   rw [pivot_self hk h0]
   dsimp only
   rw [swap_self,if_pos,he]
   rw [okDiv_iff]
   intro j _ hj
   exact ⟨h1 k j hk hj,h1 k k hk (by omega)⟩
 · intro i j hi
   by_cases e : i = k
   · subst e
     dsimp only
     rw [if_neg fun h => h.2.1 rfl,hrow]
   · unfold stepQ
     dsimp only
     rw [if_neg e]
     by_cases c : k ≤ j
     · rw [if_pos ⟨hi,e,c⟩,hother i j e,hother i k e,hrow]
       unfold stepQ
       rw [if_pos rfl]
     · rw [if_neg fun h => c h.2.2,hother i j e,hz j (by omega)]
       grind
def Fit (B : Nat) (x : Rat) : Prop:=-1 ≤ x ∧ x ≤ 1 ∧ ∃ d : Nat,0 < d ∧ d ≤ B ∧ IsI ((d : Rat) * x)
theorem Shs.congr {n : Nat} {M M' : Mx} {v : Nat → Rat} (h : Shs n M v) (e : ∀ i j,i < n → M' i j = M i j) : Shs n M' v:=by
 refine ⟨fun i hi => by rw [e i i hi];exact h.le1 i hi,fun i j hi hj hn => by rw [e i j hi];exact h.off i j hi hj hn,fun i hi => by rw [e i n hi];exact h.rhs i hi,fun i hi => ?_,fun i hi => ?_,h.vnn⟩
 · rw [e i n hi,sumTo_congr (f:=M' i) (g:=M i) fun j _ => e i j hi];exact h.slack i hi
 · rw [sumTo_congr (g:=fun j => M i j * v j) fun j _ => by rw [e i j hi]];exact h.pos i hi
theorem Mad.congr {n k : Nat} {A M M' : Mx} (h : Mad n k A M) (e : ∀ i j,i < n → M' i j = M i j) : Mad n k A M':=by
 refine ⟨fun i j hi hj => by rw [e i j hi];exact h.unit i j hi hj,fun i hi => ?_,?_⟩
 · obtain ⟨y,h1,h2⟩:=h.comb i hi
   exact ⟨y,h1,fun j hj => by rw [e i j hi];exact h2 j hj⟩
 · obtain ⟨P,h1,h2,h3⟩:=h.dets
   exact ⟨P,h1,h2,fun K a b => by rw [h3 K a b,det_congr fun i j hi _ => (e i j (by omega)).symm]⟩
theorem IsI.nat (n : Nat) : IsI (n : Rat):=⟨n,(Rat.intCast_natCast n).symm⟩
theorem IsI.toNat {x : Rat} (h : IsI x) (h0 : 0 < x) : ∃ d : Nat,x = (d : Rat) ∧ 0 < d:=by
 obtain ⟨z,rfl⟩:=h
 have h1 : 0 < z:=by
  have : ((0 : Int) : Rat) < (z : Rat):=h0
  exact Rat.intCast_lt_intCast.1 this
 refine ⟨z.toNat,?_,by omega⟩
 have : ((z.toNat : Nat) : Int) = z:=by omega
 rw [← Rat.intCast_natCast,this]
theorem natCast_le {a b : Nat} (h : (a : Rat) ≤ (b : Rat)) : a ≤ b:=Rat.natCast_le_natCast.1 h
theorem pow_nonneg' {c : Rat} (h : 0 < c) (n : Nat) : 0 < c ^ n:=by
 induction n with
 | zero => rw [Rat.pow_zero];decide
 | succ n ih => rw [Rat.pow_succ];exact Rat.mul_pos ih h
structure Sys (n c D : Nat) (A : Mx) (v : Nat → Rat) : Prop where
 shs : Shs n A v
 cp : 0 < c
 dp : 0 < D
 lhs : ∀ i j,i < n → j < n → IsI ((c : Rat) * A i j)
 rgt : ∀ i,i < n → IsI ((c : Rat) * (D : Rat) * A i n)
theorem Sys.det_nat {n c D k : Nat} {A M : Mx} {v : Nat → Rat} (h : Sys n c D A v) (hm : Mad n k A M) (hk : k ≤ n) : ∃ d : Nat,0 < d ∧ d ≤ c ^ k ∧ (c : Rat) ^ k * det k A = (d : Rat):=by
 obtain ⟨d1,d2⟩:=hm.det_k hk
 have hc : 0 < (c : Rat):=by have:=h.cp;exact Rat.natCast_pos.2 this
 have hI : IsI ((c : Rat) ^ k * det k A):=by
  have:=det_int (n:=k) (s:=fun _ => (c : Rat)) (M:=A) fun i j hi hj => h.lhs i j (by omega) (by omega)
  rwa [prodTo_const] at this
 obtain ⟨d,e1,e2⟩:=hI.toNat (Rat.mul_pos (pow_nonneg' hc k) d1)
 refine ⟨d,e2,natCast_le ?_,e1⟩
 rw [← e1,Rat.natCast_pow]
 have:=Rat.mul_le_mul_of_nonneg_left d2 (Rat.le_of_lt (pow_nonneg' hc k))
 grind
theorem Sys.fit {n c D k i j : Nat} {A M : Mx} {v : Nat → Rat} (h : Sys n c D A v) (hm : Mad n k A M) (hs : Shs n M v) (hk : k ≤ n) (hi : i < n) (hj : j ≤ n) : Fit (c ^ (n + 1) * D) (M i j):=by
 obtain ⟨a1,a2⟩:=hs.abs hi hj
 obtain ⟨d,d1,d2,d3⟩:=h.det_nat hm hk
 refine ⟨a1,a2,d * (c * D),Nat.mul_pos d1 (Nat.mul_pos h.cp h.dp),?_,?_⟩
 · have h1 : d ≤ c ^ n:=Nat.le_trans d2 (Nat.pow_le_pow_right h.cp hk)
   rw [Nat.pow_succ,Nat.mul_assoc]
   exact Nat.mul_le_mul_right _ h1
 · have:=hm.int_all hk (IsI.nat c) h.lhs h.rgt (IsI.nat D) hi hj
   rw [d3] at this
   simpa [Rat.natCast_mul] using this
theorem Sys.solve {S : Rat → Bool} {n c D : Nat} {A : Mx} {v : Nat → Rat} (h : Sys n c D A v) (hS : ∀ x,Fit ((c ^ (n + 1) * D) * (c ^ (n + 1) * D)) x → S x = true) :
 ∀ k,k ≤ n → ∃ M,solveTo S n k A = .ok M ∧ Shs n M v ∧ Mad n k A M:=by
 have hB : 0 < c ^ (n + 1) * D:=Nat.mul_pos (Nat.pow_pos h.cp) h.dp
 have hS1 : ∀ x,Fit (c ^ (n + 1) * D) x → S x = true:=fun x hx => by
  obtain ⟨a1,a2,d,d1,d2,d3⟩:=hx
  refine hS x ⟨a1,a2,d,d1,Nat.le_trans d2 ?_,d3⟩
  exact Nat.le_mul_of_pos_left _ hB
 have hS2 : ∀ x y,Fit (c ^ (n + 1) * D) x → Fit (c ^ (n + 1) * D) y → S (x * y) = true:=fun x y hx hy => by
  obtain ⟨a1,a2,d,d1,d2,d3⟩:=hx
  obtain ⟨b1,b2,e,e1,e2,e3⟩:=hy
  have hab : x * y ≤ 1 ∧ -1 ≤ x * y:=by
   have p1:=Rat.mul_nonneg (a:=1 - x) (b:=1 - y) (by grind) (by grind)
   have p2:=Rat.mul_nonneg (a:=1 + x) (b:=1 + y) (by grind) (by grind)
   have p3:=Rat.mul_nonneg (a:=1 - x) (b:=1 + y) (by grind) (by grind)
   have p4:=Rat.mul_nonneg (a:=1 + x) (b:=1 - y) (by grind) (by grind)
   constructor
   · grind
   · grind
  refine hS _ ⟨hab.2,hab.1,d * e,Nat.mul_pos d1 e1,Nat.mul_le_mul d2 e2,?_⟩
  have:=d3.mul e3
  have e : (d : Rat) * x * ((e : Rat) * y) = ((d * e : Nat) : Rat) * (x * y):=by rw [Rat.natCast_mul];grind
  rwa [e] at this
 intro k
 induction k with
 | zero => intro _;exact ⟨A,rfl,h.shs,Mad.start n A⟩
 | succ k ih =>
   intro hk
   obtain ⟨M,m1,m2,m3⟩:=ih (by omega)
   have hp:=m2.piv (show k < n by omega)
   have s1:=m2.step (show k < n by omega)
   have s2:=m3.step m2 (show k < n by omega)
   have f1 : ∀ i j,i < n → j ≤ n → Fit (c ^ (n + 1) * D) (M i j):=fun i j hi hj => h.fit m3 m2 (by omega) hi hj
   have f2 : ∀ i j,i < n → j ≤ n → Fit (c ^ (n + 1) * D) (stepQ k M i j):=fun i j hi hj => h.fit s2 s1 hk hi hj
   obtain ⟨M',e1,e2⟩:=stepK_ok (S:=S) (show k < n by omega) m3.unit (by grind) (fun i j hi hj => hS1 _ (f1 i j hi hj)) (fun j hj => hS1 _ (f2 k j (by omega) hj)) fun i j hi hj => hS2 _ _ (f1 i k hi (by omega)) (f2 k j (by omega) hj)
   refine ⟨M',?_,s1.congr fun i j hi => e2 i j hi,s2.congr fun i j hi => e2 i j hi⟩
   unfold solveTo
   rw [m1]
   exact e1
theorem Sys.result {S : Rat → Bool} {n c D : Nat} {A : Mx} {v : Nat → Rat} (h : Sys n c D A v) (hS : ∀ x,Fit ((c ^ (n + 1) * D) * (c ^ (n + 1) * D)) x → S x = true) :
 ∃ M,solveTo S n n A = .ok M ∧ (∀ y,Sol n A y (fun i => A i n) ↔ ∀ i,i < n → y i = M i n) ∧ (∀ i,i < n → 0 ≤ M i n ∧ M i n ≤ 1) ∧ ∃ d : Nat,0 < d ∧ d ≤ c ^ n ∧ ∀ i,i < n → IsI ((d * D : Nat) * M i n):=by
 obtain ⟨M,m1,m2,m3⟩:=h.solve hS n (Nat.le_refl n)
 obtain ⟨d,d1,d2,d3⟩:=h.det_nat m3 (Nat.le_refl n)
 refine ⟨M,m1,(sol_ok m1).1,fun i hi => ⟨m2.rhs i hi,(m2.abs hi (Nat.le_refl n)).2⟩,d,d1,d2,fun i hi => ?_⟩
 have:=m3.int_top (Nat.le_refl n) h.lhs h.rgt (IsI.nat D) hi (Nat.le_refl n)
 rw [d3] at this
 rw [Rat.natCast_mul]
 exact this
end Sh
end Go.Proofs.YtioidbebjgeahaaGreatDoor
namespace Go.Proofs.YtioidbebjgeahaaGreatDoor
namespace Sh
open Nt Ci
abbrev Lp:=Nat × Nat × Rat
def lsum (p : Nat) (f : Nat → Rat) : List Lp → Rat
 | [] => 0
 | x :: l => (if x.1 = p then x.2.2 * f x.2.1 else 0) + lsum p f l
theorem lsum_congr {p : Nat} {f g : Nat → Rat} {L : List Lp} (h : ∀ x,x ∈ L → x.1 = p → f x.2.1 = g x.2.1) : lsum p f L = lsum p g L:=by
 induction L with
 | nil => rfl
 | cons x l ih =>
   unfold lsum
   rw [ih fun y hy => h y (List.mem_cons_of_mem _ hy)]
   by_cases e : x.1 = p
   · rw [if_pos e,if_pos e,h x List.mem_cons_self e]
   · rw [if_neg e,if_neg e]
theorem lsum_add (p : Nat) (f g : Nat → Rat) (L : List Lp) : lsum p (fun h => f h + g h) L = lsum p f L + lsum p g L:=by
 induction L with
 | nil => exact (Rat.add_zero 0).symm
 | cons x l ih => unfold lsum;rw [ih];split <;> grind
theorem lsum_mul (p : Nat) (c : Rat) (f : Nat → Rat) (L : List Lp) : lsum p (fun h => c * f h) L = c * lsum p f L:=by
 induction L with
 | nil => exact (Rat.mul_zero c).symm
 | cons x l ih => unfold lsum;rw [ih];split <;> grind
theorem lsum_sub (p : Nat) (f g : Nat → Rat) (L : List Lp) : lsum p (fun h => f h - g h) L = lsum p f L - lsum p g L:=by
 induction L with
 | nil => show (0 : Rat) = 0 - 0;grind
 | cons x l ih => unfold lsum;rw [ih];split <;> grind
theorem lsum_zero {p : Nat} {f : Nat → Rat} {L : List Lp} (h : ∀ x,x ∈ L → x.1 = p → f x.2.1 = 0) : lsum p f L = 0:=by
 have h1:=lsum_mul p 0 f L
 rw [lsum_congr (g:=fun h => 0 * f h) fun x hx e => by rw [h x hx e,Rat.zero_mul],h1,Rat.zero_mul]
theorem lsum_sum (p n : Nat) (g : Nat → Nat → Rat) (L : List Lp) : sumTo n (fun j => lsum p (g j) L) = lsum p (fun h => sumTo n fun j => g j h) L:=by
 induction n with
 | zero => exact (lsum_zero fun _ _ _ => rfl).symm
 | succ n ih =>
   show (sumTo n fun j => lsum p (g j) L) + lsum p (g n) L = _
   rw [ih,← lsum_add]
   rfl
structure Caps (n : Nat) (L : List Lp) : Prop where
 lt : ∀ x,x ∈ L → x.1 < n ∧ x.2.1 < n
 whole : ∀ x,x ∈ L → IsI (6000 * x.2.2)
 pos : ∀ x,x ∈ L → 0 < x.2.2
 le1 : ∀ p,lsum p (fun _ => 1) L ≤ 1
def edgesL (L : List Lp) : List (Nat × Nat):=L.map fun x => (x.2.1,x.1)
theorem lsum_le {p : Nat} {f g : Nat → Rat} {L : List Lp} (hp : ∀ x,x ∈ L → 0 < x.2.2) (h : ∀ x,x ∈ L → x.1 = p → f x.2.1 ≤ g x.2.1) : lsum p f L ≤ lsum p g L:=by
 induction L with
 | nil => exact Rat.le_refl
 | cons x l ih =>
   unfold lsum
   have h1:=ih (fun y hy => hp y (List.mem_cons_of_mem _ hy)) fun y hy => h y (List.mem_cons_of_mem _ hy)
   by_cases e : x.1 = p
   · rw [if_pos e,if_pos e]
     have h2:=Rat.mul_le_mul_of_nonneg_left (h x List.mem_cons_self e) (Rat.le_of_lt (hp x List.mem_cons_self))
     grind
   · rw [if_neg e,if_neg e];grind
theorem lsum_gap {p : Nat} {f g : Nat → Rat} {L : List Lp} (hp : ∀ x,x ∈ L → 0 < x.2.2) (h : ∀ x,x ∈ L → x.1 = p → f x.2.1 ≤ g x.2.1) {x0 : Lp} (h0 : x0 ∈ L) (e0 : x0.1 = p) : lsum p f L + x0.2.2 * (g x0.2.1 - f x0.2.1) ≤ lsum p g L:=by
 induction L with
 | nil => cases h0
 | cons x l ih =>
   unfold lsum
   rcases List.mem_cons.1 h0 with rfl | h0
   · rw [if_pos e0,if_pos e0]
     have h1:=lsum_le (p:=p) (f:=f) (g:=g) (L:=l) (fun y hy => hp y (List.mem_cons_of_mem _ hy)) fun y hy => h y (List.mem_cons_of_mem _ hy)
     grind
   · have h1:=ih (fun y hy => hp y (List.mem_cons_of_mem _ hy)) (fun y hy => h y (List.mem_cons_of_mem _ hy)) h0
     by_cases e : x.1 = p
     · rw [if_pos e,if_pos e]
       have h2:=Rat.mul_le_mul_of_nonneg_left (h x List.mem_cons_self e) (Rat.le_of_lt (hp x List.mem_cons_self))
       grind
     · rw [if_neg e,if_neg e];grind
theorem lsum_nonneg {p : Nat} {f : Nat → Rat} {L : List Lp} (hp : ∀ x,x ∈ L → 0 < x.2.2) (h : ∀ x,x ∈ L → x.1 = p → 0 ≤ f x.2.1) : 0 ≤ lsum p f L:=by
 have:=lsum_le (p:=p) (f:=fun _ => 0) (g:=f) hp h
 rwa [lsum_zero fun _ _ _ => rfl] at this
theorem Caps.le_of {n p : Nat} {L : List Lp} {f : Nat → Rat} {c : Rat} (h : Caps n L) (hc : 0 ≤ c) (hf : ∀ x,x ∈ L → x.1 = p → f x.2.1 ≤ c) : lsum p f L ≤ c:=by
 have h1:=lsum_le (p:=p) (f:=f) (g:=fun h => c * (fun _ => 1) h) h.pos fun x hx e => by rw [Rat.mul_one];exact hf x hx e
 rw [lsum_mul] at h1
 have h2:=Rat.mul_le_mul_of_nonneg_left (h.le1 p) hc
 grind
theorem Caps.int_sum {n p : Nat} {L : List Lp} {f : Nat → Rat} {D : Rat} (h : Caps n L) (hf : ∀ x,x ∈ L → x.1 = p → IsI (D * f x.2.1)) : IsI (6000 * D * lsum p f L):=by
 have hw:=h.whole
 clear h
 induction L with
 | nil => show IsI (6000 * D * 0);rw [Rat.mul_zero];exact IsI.zero
 | cons x l ih =>
   unfold lsum
   have h1:=ih (fun y hy => hf y (List.mem_cons_of_mem _ hy)) fun y hy => hw y (List.mem_cons_of_mem _ hy)
   by_cases e : x.1 = p
   · rw [if_pos e]
     have h2:=(hw x List.mem_cons_self).mul (hf x List.mem_cons_self e)
     have e2 : 6000 * D * (x.2.2 * f x.2.1 + lsum p f l) = 6000 * x.2.2 * (D * f x.2.1) + 6000 * D * lsum p f l:=by grind
     rw [e2]
     exact h2.add h1
   · rw [if_neg e]
     have e2 : 6000 * D * (0 + lsum p f l) = 6000 * D * lsum p f l:=by grind
     rw [e2];exact h1
theorem part_ge {x : Rat} (h1 : IsI (6000 * x)) (h2 : 0 < x) : 1 / 6000 ≤ x:=by
 obtain ⟨d,e,hd⟩:=h1.toNat (by grind)
 have h3 : (1 : Rat) ≤ (d : Rat):=by
  have : ((1 : Nat) : Rat) ≤ (d : Rat):=Rat.natCast_le_natCast.2 hd
  simpa using this
 grind
theorem max_principle {n : Nat} {L : List Lp} (hL : Caps n L) (d : Nat → Rat) (ρ : Nat → Nat)
 (h : ∀ p,p < n → 0 < d p → d p ≤ lsum p d L ∧ ∃ x,x ∈ L ∧ x.1 = p ∧ ρ x.2.1 < ρ p) : ∀ p,p < n → d p ≤ 0:=by
 intro p0 hp0
 have key : ∀ m,(∀ p,p < m → d p ≤ 0) ∨ ∃ q,q < m ∧ 0 < d q ∧ ∀ p,p < m → d p < d q ∨ (d p = d q ∧ ρ q ≤ ρ p):=by
  intro m
  induction m with
  | zero => exact .inl fun p hp => absurd hp (by omega)
  | succ m ih =>
    by_cases c : 0 < d m
    · rcases ih with ih | ⟨q,q1,q2,q3⟩
      · refine .inr ⟨m,by omega,c,fun p hp => ?_⟩
        by_cases e : p = m
        · subst e;exact .inr ⟨rfl,Nat.le_refl _⟩
        · have:=ih p (by omega);exact .inl (by grind)
      · by_cases c2 : d q < d m ∨ (d q = d m ∧ ρ m ≤ ρ q)
        · refine .inr ⟨m,by omega,c,fun p hp => ?_⟩
          by_cases e : p = m
          · subst e;exact .inr ⟨rfl,Nat.le_refl _⟩
          · have:=q3 p (by omega)
            rcases c2 with c2 | ⟨c2,c3⟩
            · rcases this with t | ⟨t,_⟩
              · exact .inl (by grind)
              · exact .inl (by grind)
            · rcases this with t | ⟨t,t2⟩
              · exact .inl (by grind)
              · exact .inr ⟨by grind,by omega⟩
        · refine .inr ⟨q,by omega,q2,fun p hp => ?_⟩
          by_cases e : p = m
          · subst e
            by_cases c3 : d p < d q
            · exact .inl c3
            · refine .inr ?_
              have h1 : ¬ d q < d p:=fun a => c2 (.inl a)
              have h2 : d p = d q:=by grind
              refine ⟨h2,?_⟩
              rcases Nat.lt_or_ge (ρ p) (ρ q) with a | a
              · exact absurd (Or.inr ⟨h2.symm,by omega⟩) c2
              · exact a
          · exact q3 p (by omega)
    · rcases ih with ih | ⟨q,q1,q2,q3⟩
      · refine .inl fun p hp => ?_
        by_cases e : p = m
        · subst e;exact Rat.not_lt.1 c
        · exact ih p (by omega)
      · refine .inr ⟨q,by omega,q2,fun p hp => ?_⟩
        by_cases e : p = m
        · subst e;exact .inl (by have:=Rat.not_lt.1 c;grind)
        · exact q3 p (by omega)
 rcases key n with k | ⟨q,q1,q2,q3⟩
 · exact k p0 hp0
 · exfalso
   obtain ⟨h1,x,x1,x2,x3⟩:=h q q1 q2
   have hle : ∀ y,y ∈ L → d y.2.1 ≤ d q:=fun y hy => by
    rcases q3 _ (hL.lt y hy).2 with a | ⟨a,_⟩
    · exact Rat.le_of_lt a
    · rw [a];exact Rat.le_refl
   have hg:=lsum_gap (p:=q) (f:=d) (g:=fun _ => d q) hL.pos (fun y hy _ => hle y hy) x1 x2
   have h2 : lsum q (fun _ => d q) L ≤ d q:=hL.le_of (Rat.le_of_lt q2) fun _ _ _ => Rat.le_refl
   have h3 : d x.2.1 < d q:=by
    rcases q3 _ (hL.lt x x1).2 with a | ⟨_,b⟩
    · exact a
    · omega
   have h4:=Rat.mul_pos (hL.pos x x1) (show 0 < d q - d x.2.1 by grind)
   grind
def sysA (L : List Lp) (u : List Nat) (val : Nat → Rat) : Mx:=fun i j =>
 let p:=u.getD i 0
 if j = u.length then lsum p (fun h => if h ∈ u then 0 else val h) L
 else (if i = j then 1 else 0) - lsum p (fun h => if h = u.getD j 0 then 1 else 0) L
def nextV (S : Rat → Bool) (L : List Lp) (u : List Nat) (val : Nat → Rat) : Nat → Rat :=
 match solveTo S u.length u.length (sysA L u val) with
 | .ok M => fun p => if p ∈ u then M (u.idxOf p) u.length else val p
 | .error _ => val
def runV (S : Rat → Bool) (L : List Lp) : List (List Nat) → (Nat → Rat) → Nat → Rat
 | [],val => val
 | u :: us,val => runV S L us (nextV S L u val)
theorem getD_get {u : List Nat} {i : Nat} (h : i < u.length) : u.getD i 0 = u[i]:=by simp [List.getD,h]
theorem getD_mem {u : List Nat} {i : Nat} (h : i < u.length) : u.getD i 0 ∈ u:=by
 rw [getD_get h];exact List.getElem_mem h
theorem idx_getD {u : List Nat} (hu : u.Nodup) {i : Nat} (h : i < u.length) : u.idxOf (u.getD i 0) = i:=by
 rw [getD_get h];exact hu.idxOf_getElem i h
theorem getD_idx {u : List Nat} {p : Nat} (h : p ∈ u) : u.getD (u.idxOf p) 0 = p:=by
 have:=List.idxOf_lt_length_iff.2 h
 rw [getD_get this];exact List.getElem_idxOf this
theorem sum_pick {u : List Nat} (hu : u.Nodup) (y : Nat → Rat) (h : Nat) : (sumTo u.length fun j => (if h = u.getD j 0 then 1 else 0) * y j) = if h ∈ u then y (u.idxOf h) else 0:=by
 by_cases e : h ∈ u
 · rw [if_pos e,sumTo_one (k:=u.idxOf h) _ (List.idxOf_lt_length_iff.2 e) fun j hj hne => ?_]
   · rw [getD_idx e,if_pos rfl,Rat.one_mul]
   · rw [if_neg,Rat.zero_mul]
     intro e2
     rw [e2,idx_getD hu hj] at hne
     exact hne rfl
 · rw [if_neg e]
   exact sumTo_zero fun j hj => by rw [if_neg (fun e2 => e (by rw [e2];exact getD_mem hj)),Rat.zero_mul]
theorem sysA_row {L : List Lp} {u : List Nat} {val : Nat → Rat} (hu : u.Nodup) {i : Nat} (hi : i < u.length) (y : Nat → Rat) :
 (sumTo u.length fun j => sysA L u val i j * y j) = y i - lsum (u.getD i 0) (fun h => if h ∈ u then y (u.idxOf h) else 0) L:=by
 rw [sumTo_congr (g:=fun j => (if i = j then 1 else 0) * y j + (-1) * lsum (u.getD i 0) (fun h => y j * if h = u.getD j 0 then 1 else 0) L) fun j hj => by
  unfold sysA
  dsimp only
  rw [if_neg (by omega),lsum_mul]
  grind]
 rw [sumTo_add,sumTo_mul,sumTo_one (k:=i) _ hi fun j _ hne => by rw [if_neg (fun e => hne e.symm),Rat.zero_mul],if_pos rfl,Rat.one_mul,lsum_sum]
 rw [lsum_congr (g:=fun h => if h ∈ u then y (u.idxOf h) else 0) fun x _ _ => by
  rw [← sum_pick hu]
  exact sumTo_congr fun j _ => Rat.mul_comm _ _]
 grind
theorem sysA_sol {L : List Lp} {u : List Nat} {val : Nat → Rat} (hu : u.Nodup) (y : Nat → Rat) :
 Sol u.length (sysA L u val) y (fun i => sysA L u val i u.length) ↔ ∀ i,i < u.length → y i = lsum (u.getD i 0) (fun h => if h ∈ u then y (u.idxOf h) else val h) L:=by
 have key : ∀ i,i < u.length → ((sumTo u.length fun j => sysA L u val i j * y j) = sysA L u val i u.length ↔ y i = lsum (u.getD i 0) (fun h => if h ∈ u then y (u.idxOf h) else val h) L):=by
  intro i hi
  rw [sysA_row hu hi,lsum_congr (f:=fun h => if h ∈ u then y (u.idxOf h) else val h) (g:=fun h => (if h ∈ u then y (u.idxOf h) else 0) + (if h ∈ u then 0 else val h)) fun x _ _ => by split <;> grind,lsum_add]
  have e : sysA L u val i u.length = lsum (u.getD i 0) (fun h => if h ∈ u then 0 else val h) L:=by
   unfold sysA;dsimp only;rw [if_pos rfl]
  rw [e]
  constructor <;> intro h <;> grind
 unfold Sol
 exact ⟨fun h i hi => (key i hi).1 (h i hi),fun h i hi => (key i hi).2 (h i hi)⟩
end Sh
end Go.Proofs.YtioidbebjgeahaaGreatDoor
namespace Go.Proofs.YtioidbebjgeahaaGreatDoor
namespace Sh
open Nt Ci
theorem Fit.mono {B B' : Nat} {x : Rat} (h : Fit B x) (hB : B ≤ B') : Fit B' x:=by
 obtain ⟨a,b,d,d1,d2,d3⟩:=h
 exact ⟨a,b,d,d1,Nat.le_trans d2 hB,d3⟩
structure Inv (L : List Lp) (F : List Nat) (done : List Nat) (val : Nat → Rat) (D : Nat) : Prop where
 rng : ∀ p,0 ≤ val p ∧ val p ≤ 1
 dp : 0 < D
 dle : D ≤ 6000 ^ done.length
 whole : ∀ p,IsI ((D : Rat) * val p)
 eqs : ∀ p,p ∈ done → val p = lsum p val L
 rest : ∀ p,p ∉ done → val p = if p ∈ F then 1 else 0
 clo : ∀ p,p ∈ done → ∀ x,x ∈ L → x.1 = p → rk (edgesL L) F x.2.1 ≤ 0 ∨ x.2.1 ∈ done
 dn : ∀ p,p ∈ done → 0 < rk (edgesL L) F p
theorem Inv.start (L : List Lp) (F : List Nat) : Inv L F [] (fun p => if p ∈ F then 1 else 0) 1:=by
 refine ⟨fun p => ?_,by omega,by simp,fun p => ?_,fun p h => by simp at h,fun p _ => rfl,fun p h => by simp at h,fun p h => by simp at h⟩
 · split <;> constructor <;> decide
 · split
   · exact (IsI.nat 1).mul IsI.one
   · exact (IsI.nat 1).mul IsI.zero
structure Nxt (L : List Lp) (F : List Nat) (done u : List Nat) : Prop where
 nodup : u.Nodup
 new : ∀ p,p ∈ u → p ∉ done
 pos : ∀ p,p ∈ u → 0 < rk (edgesL L) F p
 clo : ∀ p,p ∈ u → ∀ x,x ∈ L → x.1 = p → rk (edgesL L) F x.2.1 ≤ 0 ∨ x.2.1 ∈ u ∨ x.2.1 ∈ done
def Ready (L : List Lp) (F : List Nat) : List Nat → List (List Nat) → Prop
 | _,[] => True
 | done,u :: us => Nxt L F done u ∧ Ready L F (done ++ u) us
def tq : Rat:=1 / 12000
theorem tq_pow (k : Nat) : 0 < tq ^ k ∧ tq ^ k ≤ 1:=by
 induction k with
 | zero => rw [Rat.pow_zero];constructor <;> decide
 | succ k ih =>
   rw [Rat.pow_succ]
   have h1 : (0 : Rat) < tq:=by unfold tq;grind
   refine ⟨Rat.mul_pos ih.1 h1,?_⟩
   have h2:=Rat.mul_le_mul_of_nonneg_left (show tq ≤ 1 by unfold tq;grind) (Rat.le_of_lt ih.1)
   grind
theorem mem_edges {L : List Lp} {h p : Nat} (e : (h,p) ∈ edgesL L) : ∃ x,x ∈ L ∧ x.1 = p ∧ x.2.1 = h:=by
 unfold edgesL at e
 obtain ⟨x,hx,e2⟩:=List.mem_map.1 e
 injection e2 with a b
 exact ⟨x,hx,b,a⟩
theorem edges_mem {L : List Lp} {x : Lp} (h : x ∈ L) : (x.2.1,x.1) ∈ edgesL L:=List.mem_map.2 ⟨x,h,rfl⟩
theorem Nxt.sys {n D : Nat} {L : List Lp} {F done u : List Nat} {val : Nat → Rat} (hL : Caps n L) (hi : Inv L F done val D) (hx : Nxt L F done u) :
 Sys u.length 6000 D (sysA L u val) (fun j => 1 - tq ^ (rk (edgesL L) F (u.getD j 0)).toNat):=by
 have one01 : ∀ (c : Prop) [Decidable c],0 ≤ (if c then (1 : Rat) else 0):=fun c _ => by split <;> decide
 refine ⟨⟨fun i hi2 => ?_,fun i j h1 h2 h3 => ?_,fun i h1 => ?_,fun i h1 => ?_,fun i h1 => ?_,fun j _ => ?_⟩,by omega,hi.dp,fun i j h1 h2 => ?_,fun i h1 => ?_⟩
 · unfold sysA
   dsimp only
   rw [if_neg (by omega),if_pos rfl]
   have:=lsum_nonneg (p:=u.getD i 0) (f:=fun h => if h = u.getD i 0 then 1 else 0) hL.pos fun x _ _ => one01 _
   grind
 · unfold sysA
   dsimp only
   rw [if_neg (by omega),if_neg (fun e => h3 e.symm)]
   have:=lsum_nonneg (p:=u.getD i 0) (f:=fun h => if h = u.getD j 0 then 1 else 0) hL.pos fun x _ _ => one01 _
   grind
 · unfold sysA
   dsimp only
   rw [if_pos rfl]
   exact lsum_nonneg hL.pos fun x _ _ => by
    split
    · exact Rat.le_refl
    · exact (hi.rng _).1
 · have h2:=sysA_row (L:=L) (val:=val) hx.nodup h1 (fun _ => 1)
   rw [sumTo_congr (g:=sysA L u val i) fun j _ => Rat.mul_one _] at h2
   rw [h2]
   unfold sysA
   dsimp only
   rw [if_pos rfl]
   have h3 : lsum (u.getD i 0) (fun h => (if h ∈ u then 0 else val h) + if h ∈ u then 1 else 0) L ≤ 1:=hL.le_of (by decide) fun x _ _ => by
    split
    · grind
    · have:=(hi.rng x.2.1).2;grind
   rw [lsum_add] at h3
   grind
 · rw [sysA_row hx.nodup h1]
   have hp:=hx.pos _ (getD_mem h1)
   obtain ⟨r,hr⟩ : ∃ r : Nat,rk (edgesL L) F (u.getD i 0) = ((r + 1 : Nat) : Int):=⟨(rk (edgesL L) F (u.getD i 0)).toNat - 1,by omega⟩
   obtain ⟨h0,k1,k2⟩:=rk_pred hr
   obtain ⟨x0,x1,x2,x3⟩:=mem_edges k2
   have hg:=lsum_gap (p:=u.getD i 0) (f:=fun h => if h ∈ u then 1 - tq ^ (rk (edgesL L) F (u.getD (u.idxOf h) 0)).toNat else 0) (g:=fun _ => 1) hL.pos (fun y _ _ => by
    split
    · have:=(tq_pow (rk (edgesL L) F (u.getD (u.idxOf y.2.1) 0)).toNat).1;grind
    · decide) x1 x2
   have hle:=hL.le1 (u.getD i 0)
   have hge:=part_ge (hL.whole x0 x1) (hL.pos x0 x1)
   have hgap : tq ^ r ≤ 1 - (if x0.2.1 ∈ u then 1 - tq ^ (rk (edgesL L) F (u.getD (u.idxOf x0.2.1) 0)).toNat else 0):=by
    split
    · next e =>
      rw [getD_idx e,x3,k1]
      show tq ^ r ≤ 1 - (1 - tq ^ ((r : Int)).toNat)
      rw [Int.toNat_natCast]
      grind
    · have:=(tq_pow r).2;grind
   have e1 : ((rk (edgesL L) F (u.getD i 0)).toNat) = r + 1:=by rw [hr];exact Int.toNat_natCast _
   rw [e1,Rat.pow_succ]
   have h5:=Rat.mul_le_mul_of_nonneg_left hgap (Rat.le_of_lt (hL.pos x0 x1))
   have h6:=Rat.mul_le_mul_of_nonneg_left hge (Rat.le_of_lt (tq_pow r).1)
   have h7 : tq ^ r * tq < tq ^ r * (1 / 6000):=Rat.mul_lt_mul_of_pos_left (by unfold tq;grind) (tq_pow r).1
   grind
 · have:=(tq_pow (rk (edgesL L) F (u.getD j 0)).toNat).2;grind
 · unfold sysA
   dsimp only
   rw [if_neg (by omega)]
   have h3:=hL.int_sum (p:=u.getD i 0) (f:=fun h => if h = u.getD j 0 then 1 else 0) (D:=1) fun x _ _ => by
    split
    · exact IsI.one.mul IsI.one
    · exact IsI.one.mul IsI.zero
   have h4 : IsI ((if i = j then 1 else 0) * 6000):=by
    split
    · exact IsI.one.mul (IsI.nat 6000)
    · exact IsI.zero.mul (IsI.nat 6000)
   have e : ((6000 : Nat) : Rat) * ((if i = j then 1 else 0) - lsum (u.getD i 0) (fun h => if h = u.getD j 0 then 1 else 0) L) = (if i = j then 1 else 0) * 6000 + -(6000 * 1 * lsum (u.getD i 0) (fun h => if h = u.getD j 0 then 1 else 0) L):=by
    rw [show ((6000 : Nat) : Rat) = 6000 from rfl];grind
   rw [e]
   exact h4.add h3.neg
 · unfold sysA
   dsimp only
   rw [if_pos rfl]
   exact hL.int_sum fun x _ _ => by
    split
    · rw [Rat.mul_zero];exact IsI.zero
    · exact hi.whole _
theorem pow_bound {m d D : Nat} (h1 : D ≤ 6000 ^ d) (h2 : d + m ≤ 16) : (6000 ^ (m + 1) * D) * (6000 ^ (m + 1) * D) ≤ 6000 ^ 34:=by
 have h3 : 6000 ^ (m + 1) * D ≤ 6000 ^ 17:=by
  calc 6000 ^ (m + 1) * D ≤ 6000 ^ (m + 1) * 6000 ^ d:=Nat.mul_le_mul_left _ h1
   _ = 6000 ^ (m + 1 + d):=(Nat.pow_add _ _ _).symm
   _ ≤ 6000 ^ 17:=Nat.pow_le_pow_right (by omega) (by omega)
 calc _ ≤ 6000 ^ 17 * 6000 ^ 17:=Nat.mul_le_mul h3 h3
  _ = 6000 ^ 34:=(Nat.pow_add _ _ _).symm
theorem Inv.step {n D : Nat} {S : Rat → Bool} {L : List Lp} {F done u : List Nat} {val : Nat → Rat} (hL : Caps n L) (hS : ∀ x,Fit (6000 ^ 34) x → S x = true)
 (hi : Inv L F done val D) (hx : Nxt L F done u) (hlen : done.length + u.length ≤ 16) :
 ∃ M D',solveTo S u.length u.length (sysA L u val) = .ok M ∧ Inv L F (done ++ u) (nextV S L u val) D':=by
 obtain ⟨M,m1,m2,m3,d,d1,d2,d3⟩:=(hx.sys hL hi).result (S:=S) fun x h => hS x (h.mono (pow_bound hi.dle hlen))
 have hv : nextV S L u val = fun p => if p ∈ u then M (u.idxOf p) u.length else val p:=by unfold nextV;rw [m1]
 have hsol:=(sysA_sol (L:=L) (val:=val) hx.nodup fun i => M i u.length).1 ((m2 _).2 fun _ _ => rfl)
 have hlt : ∀ {p},p ∈ u → u.idxOf p < u.length:=fun h => List.idxOf_lt_length_iff.2 h
 have hkeep : ∀ p,p ∈ done → lsum p (fun q => if q ∈ u then M (u.idxOf q) u.length else val q) L = lsum p val L:=fun p hp => lsum_congr fun x hxL e => by
  rw [if_neg]
  intro hm
  rcases hi.clo p hp x hxL e with a | a
  · have:=hx.pos _ hm;omega
  · exact hx.new _ hm a
 refine ⟨M,d * D,m1,?_⟩
 rw [hv]
 refine ⟨fun p => ?_,Nat.mul_pos d1 hi.dp,?_,fun p => ?_,fun p hp => ?_,fun p hp => ?_,fun p hp x hxL e => ?_,fun p hp => ?_⟩
 · split
   · next e => exact m3 _ (hlt e)
   · exact hi.rng p
 · rw [List.length_append,Nat.pow_add,Nat.mul_comm]
   exact Nat.mul_le_mul hi.dle d2
 · split
   · next e => exact d3 _ (hlt e)
   · have:=(IsI.nat d).mul (hi.whole p)
     rwa [Rat.natCast_mul,Rat.mul_assoc]
 · by_cases e : p ∈ u
   · rw [if_pos e]
     have:=hsol _ (hlt e)
     rwa [getD_idx e] at this
   · rw [if_neg e]
     rcases List.mem_append.1 hp with h | h
     · rw [hkeep p h];exact hi.eqs p h
     · exact absurd h e
 · rw [if_neg (fun h => hp (List.mem_append_right _ h))]
   exact hi.rest p fun h => hp (List.mem_append_left _ h)
 · rcases List.mem_append.1 hp with h | h
   · rcases hi.clo p h x hxL e with a | a
     · exact .inl a
     · exact .inr (List.mem_append_left _ a)
   · rcases hx.clo p h x hxL e with a | a | a
     · exact .inl a
     · exact .inr (List.mem_append_right _ a)
     · exact .inr (List.mem_append_left _ a)
 · rcases List.mem_append.1 hp with h | h
   · exact hi.dn p h
   · exact hx.pos p h
theorem Inv.run {n : Nat} {S : Rat → Bool} {L : List Lp} {F : List Nat} (hL : Caps n L) (hS : ∀ x,Fit (6000 ^ 34) x → S x = true) :
 ∀ (us : List (List Nat)) (done : List Nat) (val : Nat → Rat) (D : Nat),Inv L F done val D → Ready L F done us → done.length + us.flatten.length ≤ 16 → ∃ D',Inv L F (done ++ us.flatten) (runV S L us val) D':=by
 intro us
 induction us with
 | nil => intro done val D hi _ _;exact ⟨D,by simpa [runV] using hi⟩
 | cons u us ih =>
   intro done val D hi hr hlen
   rw [List.flatten_cons,List.length_append] at hlen
   obtain ⟨M,D',_,h⟩:=hi.step hL hS hr.1 (by omega)
   have:=ih (done ++ u) _ D' h hr.2 (by rw [List.length_append];omega)
   rw [List.flatten_cons,← List.append_assoc]
   exact this
structure Eff (n : Nat) (L : List Lp) (F : List Nat) (e : Nat → Rat) : Prop where
 rng : ∀ p,0 ≤ e p ∧ e p ≤ 1
 listed : ∀ p,p ∈ F → e p = 1
 out : ∀ p,p < n → rk (edgesL L) F p < 0 → e p = 0
 sum : ∀ p,p < n → p ∉ F → e p = lsum p e L
 pos : ∀ p,p < n → (0 < e p ↔ 0 ≤ rk (edgesL L) F p)
theorem Inv.eff {n D : Nat} {L : List Lp} {F done : List Nat} {val : Nat → Rat} (hL : Caps n L) (hi : Inv L F done val D) (hall : ∀ p,p < n → 0 < rk (edgesL L) F p → p ∈ done) : Eff n L F val:=by
 have hin : InN n (edgesL L):=fun y hy => by
  obtain ⟨x,hx,rfl⟩:=List.mem_map.1 hy
  exact ⟨(hL.lt x hx).2,(hL.lt x hx).1⟩
 have hl : ∀ p,p ∈ F → val p = 1:=fun p hp => by
  have : p ∉ done:=fun h => by
   have h1:=hi.dn p h
   have h2 : rk (edgesL L) F p = 0:=rk_zero.2 hp
   omega
  rw [hi.rest p this,if_pos hp]
 have ho : ∀ p,p < n → rk (edgesL L) F p < 0 → val p = 0:=fun p _ hr => by
  rw [hi.rest p fun h => by have:=hi.dn p h;omega,if_neg fun h => by have : rk (edgesL L) F p = 0:=rk_zero.2 h;omega]
 have hs : ∀ p,p < n → p ∉ F → val p = lsum p val L:=fun p hp hF => by
  by_cases c : 0 < rk (edgesL L) F p
  · exact hi.eqs p (hall p hp c)
  · have c0 : rk (edgesL L) F p ≠ 0:=fun e => hF (rk_zero.1 e)
    rw [ho p hp (by omega)]
    refine (lsum_zero fun x hx e => ho _ (hL.lt x hx).2 ?_).symm
    rcases Int.lt_or_le (rk (edgesL L) F x.2.1) 0 with a | a
    · exact a
    · have:=rk_edge a (edges_mem hx)
      rw [e] at this
      omega
 refine ⟨hi.rng,hl,ho,hs,fun p hp => ⟨fun h => ?_,fun h => ?_⟩⟩
 · rcases Int.lt_or_le (rk (edgesL L) F p) 0 with a | a
   · rw [ho p hp a] at h;exact absurd h (by decide)
   · exact a
 · obtain ⟨r,hr⟩ : ∃ r : Nat,rk (edgesL L) F p = (r : Int):=⟨(rk (edgesL L) F p).toNat,by omega⟩
   clear h
   induction r generalizing p with
   | zero => rw [hl p (rk_zero.1 hr)];decide
   | succ r ih =>
     have hF : p ∉ F:=fun h => by have : rk (edgesL L) F p = 0:=rk_zero.2 h;omega
     obtain ⟨h0,k1,k2⟩:=rk_pred hr
     obtain ⟨x0,x1,x2,x3⟩:=mem_edges k2
     have h4:=ih x0.2.1 (hL.lt x0 x1).2 (by rw [x3];exact k1)
     have h5:=lsum_gap (p:=p) (f:=fun _ => 0) (g:=val) hL.pos (fun y _ _ => (hi.rng _).1) x1 x2
     rw [lsum_zero fun _ _ _ => rfl] at h5
     rw [hs p hp hF]
     have h6:=Rat.mul_pos (hL.pos x0 x1) h4
     grind
section eff
variable {n : Nat} {L : List Lp} {F : List Nat} {e : Nat → Rat}
theorem Eff.least (hL : Caps n L) (h : Eff n L F e) {v : Nat → Rat} (h0 : ∀ p,p < n → 0 ≤ v p) (h1 : ∀ p,p < n → p ∈ F → 1 ≤ v p) (h2 : ∀ p,p < n → p ∉ F → lsum p v L ≤ v p) : ∀ p,p < n → e p ≤ v p:=by
 intro p hp
 have:=max_principle hL (fun p => e p - v p) (fun p => (rk (edgesL L) F p).toNat) (fun p hp hd => by
  have hep : 0 < e p:=by have:=h0 p hp;grind
  have hr:=(h.pos p hp).1 hep
  have hF : p ∉ F:=fun hm => by
   have a:=h.listed p hm
   have b:=h1 p hp hm
   grind
  have hr0 : rk (edgesL L) F p ≠ 0:=fun e => hF (rk_zero.1 e)
  refine ⟨?_,?_⟩
  · rw [lsum_sub,← h.sum p hp hF]
    have:=h2 p hp hF
    grind
  · obtain ⟨r,hr⟩ : ∃ r : Nat,rk (edgesL L) F p = ((r + 1 : Nat) : Int):=⟨(rk (edgesL L) F p).toNat - 1,by omega⟩
    obtain ⟨h0,k1,k2⟩:=rk_pred hr
    obtain ⟨x0,x1,x2,x3⟩:=mem_edges k2
    exact ⟨x0,x1,x2,by rw [x3];omega⟩) p hp
 grind
theorem Eff.one (hL : Caps n L) {e' : Nat → Rat} (h : Eff n L F e) (h' : Eff n L F e') : ∀ p,p < n → e p = e' p:=fun p hp => by
 have a:=h.least hL (fun q _ => (h'.rng q).1) (fun q _ hq => by rw [h'.listed q hq];exact Rat.le_refl) (fun q hq hF => by rw [← h'.sum q hq hF];exact Rat.le_refl) p hp
 have b:=h'.least hL (fun q _ => (h.rng q).1) (fun q _ hq => by rw [h.listed q hq];exact Rat.le_refl) (fun q hq hF => by rw [← h.sum q hq hF];exact Rat.le_refl) p hp
 grind
end eff
end Sh
end Go.Proofs.YtioidbebjgeahaaGreatDoor
namespace Go.Proofs.YtioidbebjgeahaaGreatDoor
namespace Ci
section
variable {E : List (Nat × Nat)} {n p q : Nat}
theorem nodup_inj {l : List Nat} (h : l.Nodup) {i j : Nat} {hi : i < l.length} {hj : j < l.length} (e : l[i] = l[j]) : i = j:=by
 have hp:=List.pairwise_iff_getElem.1 h
 rcases Nat.lt_trichotomy i j with c | c | c
 · exact absurd e (hp i j hi hj c)
 · exact c
 · exact absurd e.symm (hp j i hj hi c)
theorem mem_ords (hE : InN n E) : p ∈ ords n E ↔ p < n ∧ fst E p = p:=by
 unfold ords
 rw [ord_mem n _ (Left.start hE) leasts_len]
 exact mem_leasts
theorem ords_nodup (hE : InN n E) : (ords n E).Nodup:=(ord_nodup n _ (Left.start hE) leasts_len).1
theorem ords_len (hE : InN n E) : (ords n E).length ≤ n:=by
 have:=(ord_nodup n _ (Left.start hE) leasts_len).2
 have h2:=leasts_len (n:=n) (E:=E)
 unfold ords
 omega
theorem comps_len : (comps n E).length = (ords n E).length:=by simp [comps]
theorem comps_get {k : Nat} (hk : k < (comps n E).length) : (comps n E)[k] = comp n E ((ords n E)[k]'(by simpa [comps] using hk)):=by simp [comps]
noncomputable def at' (n : Nat) (E : List (Nat × Nat)) (p : Nat) : Nat:=(ords n E).idxOf (fst E p)
theorem at_lt (hE : InN n E) (hp : p < n) : at' n E p < (ords n E).length:=List.idxOf_lt_length_iff.2 ((mem_ords hE).2 ⟨fst_lt hp,fst_fst⟩)
theorem at_get (hE : InN n E) (hp : p < n) : (ords n E)[at' n E p]'(at_lt hE hp) = fst E p:=List.getElem_idxOf (at_lt hE hp)
theorem at_iff (hE : InN n E) (hp : p < n) {k : Nat} (hk : k < (comps n E).length) : p ∈ (comps n E)[k] ↔ k = at' n E p:=by
 have hk2 : k < (ords n E).length:=by rwa [comps_len] at hk
 have ho:=(mem_ords hE).1 (List.getElem_mem hk2)
 rw [comps_get,mem_comp]
 constructor
 · rintro ⟨_,hm⟩
   have h1 : (ords n E)[k] = (ords n E)[at' n E p]'(at_lt hE hp):=by
    rw [at_get hE hp,← ho.2]
    exact fst_eq hm
   exact nodup_inj (ords_nodup hE) h1
 · intro e
   subst e
   refine ⟨hp,?_⟩
   rw [at_get hE hp]
   exact fst_mut.symm
theorem at_edge (hE : InN n E) (e : (p,q) ∈ E) : at' n E p ≤ at' n E q:=by
 obtain ⟨hp,hq⟩:=hE _ e
 exact ord_links n _ (Left.start hE) leasts_len _ _ (at_lt hE hp) (at_lt hE hq) p q e (at_get hE hp).symm (at_get hE hq).symm
variable {F F' : List Nat}
end
end Ci
end Go.Proofs.YtioidbebjgeahaaGreatDoor
namespace Go.Proofs.YtioidbebjgeahaaGreatDoor
namespace Sh
open Nt Ci
noncomputable def unk (E : List (Nat × Nat)) (F : List Nat) (c : List Nat) : List Nat:=c.filter fun p => decide (0 < rk E F p)
noncomputable def syst (n : Nat) (E : List (Nat × Nat)) (F : List Nat) : List (List Nat):=(comps n E).map (unk E F)
theorem mem_unk {E : List (Nat × Nat)} {F c : List Nat} {p : Nat} : p ∈ unk E F c ↔ p ∈ c ∧ 0 < rk E F p:=by
 unfold unk
 rw [List.mem_filter,decide_eq_true_iff]
theorem comps_nodup {n : Nat} {E : List (Nat × Nat)} {k : Nat} (hk : k < (comps n E).length) : ((comps n E)[k]).Nodup:=by
 rw [comps_get];exact comp_nodup
theorem syst_get {n : Nat} {E : List (Nat × Nat)} {F : List Nat} {k : Nat} (hk : k < (comps n E).length) : (syst n E F)[k]'(by unfold syst;rw [List.length_map];exact hk) = unk E F (comps n E)[k]:=by
 unfold syst
 rw [List.getElem_map]
theorem mem_flat_take {n : Nat} {E : List (Nat × Nat)} {F : List Nat} (hE : InN n E) {t p : Nat} (ht : t ≤ (comps n E).length) : p ∈ ((syst n E F).take t).flatten ↔ p < n ∧ 0 < rk E F p ∧ at' n E p < t:=by
 have hl : (syst n E F).length = (comps n E).length:=by unfold syst;rw [List.length_map]
 rw [List.mem_flatten]
 constructor
 · rintro ⟨u,hu,hp⟩
   obtain ⟨k,hk,rfl⟩:=List.getElem_of_mem hu
   rw [List.length_take] at hk
   have hk2 : k < (comps n E).length:=by omega
   rw [List.getElem_take,syst_get hk2,mem_unk] at hp
   have hpn : p < n:=by
    rw [comps_get,mem_comp] at hp
    exact hp.1.1
   have:=(at_iff hE hpn hk2).1 hp.1
   exact ⟨hpn,hp.2,by omega⟩
 · rintro ⟨h1,h2,h3⟩
   have hk2 : at' n E p < (comps n E).length:=by omega
   refine ⟨(syst n E F)[at' n E p]'(by omega),?_,?_⟩
   · rw [List.mem_iff_getElem]
     exact ⟨at' n E p,by rw [List.length_take];omega,by rw [List.getElem_take]⟩
   · rw [syst_get hk2,mem_unk]
     exact ⟨(at_iff hE h1 hk2).2 rfl,h2⟩
theorem ready_drop {n : Nat} {L : List Lp} {F : List Nat} (hE : InN n (edgesL L)) : ∀ (m t : Nat),t + m = (comps n (edgesL L)).length → Ready L F ((syst n (edgesL L) F).take t).flatten ((syst n (edgesL L) F).drop t):=by
 have hl : (syst n (edgesL L) F).length = (comps n (edgesL L)).length:=by unfold syst;rw [List.length_map]
 intro m
 induction m with
 | zero =>
   intro t ht
   rw [List.drop_eq_nil_of_le (by omega)]
   trivial
 | succ m ih =>
   intro t ht
   have ht2 : t < (comps n (edgesL L)).length:=by omega
   have ht3 : t < (syst n (edgesL L) F).length:=by omega
   rw [List.drop_eq_getElem_cons ht3]
   refine ⟨?_,?_⟩
   · rw [syst_get ht2]
     refine ⟨(comps_nodup ht2).filter _,fun p hp hd => ?_,fun p hp => (mem_unk.1 hp).2,fun p hp x hx e => ?_⟩
     · have h1:=(mem_flat_take hE (by omega)).1 hd
       have h2:=(at_iff hE h1.1 ht2).1 (mem_unk.1 hp).1
       omega
     · by_cases c : rk (edgesL L) F x.2.1 ≤ 0
       · exact .inl c
       · have he:=edges_mem hx
         rw [e] at he
         have hpn : x.2.1 < n ∧ p < n:=hE _ he
         have h2:=(at_iff hE hpn.2 ht2).1 (mem_unk.1 hp).1
         have h3 : at' n (edgesL L) x.2.1 ≤ at' n (edgesL L) p:=at_edge hE he
         by_cases c2 : at' n (edgesL L) x.2.1 = t
         · exact .inr (.inl (mem_unk.2 ⟨(at_iff hE hpn.1 ht2).2 c2.symm,by omega⟩))
         · exact .inr (.inr ((mem_flat_take hE (by omega)).2 ⟨hpn.1,by omega,by omega⟩))
   · have h1:=ih (t + 1) (by omega)
     rw [List.take_add_one,List.getElem?_eq_getElem ht3,Option.toList_some,List.flatten_append,List.flatten_singleton] at h1
     exact h1
theorem ready_all {n : Nat} {L : List Lp} {F : List Nat} (hE : InN n (edgesL L)) : Ready L F [] (syst n (edgesL L) F):=by
 have:=ready_drop (F:=F) hE (comps n (edgesL L)).length 0 (by omega)
 simpa using this
theorem all_in {n : Nat} {L : List Lp} {F : List Nat} (hE : InN n (edgesL L)) {p : Nat} (hp : p < n) (hr : 0 < rk (edgesL L) F p) : p ∈ (syst n (edgesL L) F).flatten:=by
 have hl : (syst n (edgesL L) F).length = (comps n (edgesL L)).length:=by unfold syst;rw [List.length_map]
 have h1:=(mem_flat_take (F:=F) hE (t:=(comps n (edgesL L)).length) (Nat.le_refl _)).2 ⟨hp,hr,by have:=at_lt hE hp;rw [comps_len];exact this⟩
 rwa [List.take_of_length_le (by omega)] at h1
theorem Ready.drop_nil {L : List Lp} {F : List Nat} : ∀ {us : List (List Nat)} {done : List Nat},Ready L F done us → Ready L F done (us.filter fun u => decide (u ≠ [])):=by
 intro us
 induction us with
 | nil => intro done _;trivial
 | cons u us ih =>
   intro done h
   rw [List.filter_cons]
   by_cases e : u = []
   · rw [if_neg (by simp [e])]
     have h2:=h.2
     rw [e,List.append_nil] at h2
     exact ih h2
   · rw [if_pos (by simp [e])]
     exact ⟨h.1,ih h.2⟩
theorem flat_filter (us : List (List Nat)) : (us.filter fun u => decide (u ≠ [])).flatten = us.flatten:=by
 induction us with
 | nil => rfl
 | cons u us ih =>
   rw [List.filter_cons]
   by_cases e : u = []
   · rw [if_neg (by simp [e]),ih,e];rfl
   · rw [if_pos (by simp [e]),List.flatten_cons,List.flatten_cons,ih]
noncomputable def systs (n : Nat) (E : List (Nat × Nat)) (F : List Nat) : List (List Nat):=(syst n E F).filter fun u => decide (u ≠ [])
noncomputable def effV (S : Rat → Bool) (n : Nat) (L : List Lp) (F : List Nat) : Nat → Rat:=runV S L (systs n (edgesL L) F) fun p => if p ∈ F then 1 else 0
theorem Caps.inN {n : Nat} {L : List Lp} (hL : Caps n L) : InN n (edgesL L):=fun y hy => by
 obtain ⟨x,hx,rfl⟩:=List.mem_map.1 hy
 exact ⟨(hL.lt x hx).2,(hL.lt x hx).1⟩
theorem effV_inv {n : Nat} {S : Rat → Bool} {L : List Lp} {F : List Nat} (hL : Caps n L) (hS : ∀ x,Fit (6000 ^ 34) x → S x = true) (hlen : (syst n (edgesL L) F).flatten.length ≤ 16) :
 ∃ D,D ≤ 6000 ^ 16 ∧ Inv L F (syst n (edgesL L) F).flatten (effV S n L F) D:=by
 have hr:=(ready_all (F:=F) hL.inN).drop_nil
 obtain ⟨D,hD⟩:=Inv.run hL hS _ [] _ 1 (Inv.start L F) hr (by rw [flat_filter];simpa using hlen)
 rw [flat_filter,List.nil_append] at hD
 exact ⟨D,Nat.le_trans hD.dle (Nat.pow_le_pow_right (by omega) hlen),hD⟩
theorem effV_eff {n : Nat} {S : Rat → Bool} {L : List Lp} {F : List Nat} (hL : Caps n L) (hS : ∀ x,Fit (6000 ^ 34) x → S x = true) (hlen : (syst n (edgesL L) F).flatten.length ≤ 16) : Eff n L F (effV S n L F):=by
 obtain ⟨D,_,h⟩:=effV_inv hL hS hlen
 exact h.eff hL fun p hp hr => all_in hL.inN hp hr
end Sh
end Go.Proofs.YtioidbebjgeahaaGreatDoor
namespace Go.Proofs.YtioidbebjgeahaaGreatDoor
namespace Sh
open Nt Ci
def capL (l : List Lk) : List Lp:=l.map fun x => (x.1.toNat,x.2.1.toNat,vq (lkP x))
theorem units_valid {x : Rw} (h : unitsN x ≠ 0) : validB x.1 x.2.1 x.2.2 = true ∧ x.1 = false ∧ val x.2.1 ≤ val x.2.2 ∧ 6000 % val x.2.2 = 0 ∧ unitsN x = val x.2.1 * (6000 / val x.2.2):=by
 unfold unitsN at h ⊢
 split at h
 · exact absurd rfl h
 · rename_i h1
   split at h
   · exact absurd rfl h
   · rename_i h2
     rw [if_neg h1,if_neg h2]
     refine ⟨?_,?_,by omega,by omega,rfl⟩
     · cases c : validB x.1 x.2.1 x.2.2 with
       | true => rfl
       | false => exact absurd (.inl c) h1
     · cases c : x.1 with
       | false => rfl
       | true => exact absurd (.inr (.inl c)) h1
theorem valid_den {g : Bool} {n d : ByteArray} (h : validB g n d = true) : val d ≠ 0:=by
 obtain ⟨q,_,_,_,rfl⟩:=of_valid h
 show val (num q.den) ≠ 0
 rw [val_num]
 exact q.den_nz
theorem units_rat {x : Rw} (h : unitsN x ≠ 0) : 6000 * vq x = (unitsN x : Rat):=by
 obtain ⟨h1,h2,h3,h4,h5⟩:=units_valid h
 have hd:=valid_den h1
 obtain ⟨g,n,d⟩:=x
 simp only at h1 h2 h3 h4 h5 hd
 subst h2
 rw [h5]
 unfold vq
 show 6000 * mkRat (sg false (val n)) (val d) = _
 have hk : val d * (6000 / val d) = 6000:=by have:=Nat.div_add_mod 6000 (val d);omega
 have hdr : (val d : Rat) ≠ 0:=by
  intro e
  exact hd (Rat.natCast_inj.1 (show ((val d : Nat) : Rat) = ((0 : Nat) : Rat) from e))
 have hk2 : (val d : Rat) * ((6000 / val d : Nat) : Rat) = 6000:=by
  rw [← Rat.natCast_mul,hk];rfl
 rw [Rat.mkRat_eq_div]
 have e1 : ((sg false (val n) : Int) : Rat) = (val n : Rat):=by unfold sg;simp [Rat.intCast_natCast]
 rw [e1,Rat.natCast_mul]
 generalize (val d : Rat) = D at hdr hk2
 generalize ((6000 / val d : Nat) : Rat) = K at hk2
 generalize (val n : Rat) = N
 rw [← hk2,Rat.div_def]
 have:=Rat.mul_inv_cancel D hdr
 grind
theorem units_pos {x : Rw} (h : unitsN x ≠ 0) : 0 < vq x:=by
 have h1:=units_rat h
 have h2 : (0 : Rat) < (unitsN x : Rat):=Rat.natCast_pos.2 (by omega)
 grind
theorem lsum_units {p : Nat} : ∀ {l : List Lk},(∀ x,x ∈ l → 0 ≤ x.1 ∧ unitsN (lkP x) ≠ 0) → 6000 * lsum p (fun _ => 1) (capL l) = (sumU l (p : Int) : Rat):=by
 intro l
 induction l with
 | nil => intro _;show 6000 * 0 = ((0 : Nat) : Rat);grind
 | cons x l ih =>
   intro h
   obtain ⟨h0,h1⟩:=h x List.mem_cons_self
   have h2:=ih fun y hy => h y (List.mem_cons_of_mem _ hy)
   have h3:=units_rat h1
   unfold capL
   rw [List.map_cons]
   show 6000 * ((if x.1.toNat = p then vq (lkP x) * 1 else 0) + lsum p (fun _ => 1) (capL l)) = _
   unfold sumU at h2 ⊢
   rw [List.filter_cons]
   by_cases e : x.1 = (p : Int)
   · rw [if_pos (by omega),if_pos (by simpa using e),List.map_cons,List.sum_cons,Rat.natCast_add,← h2,← h3]
     grind
   · rw [if_neg (by omega),if_neg (by simpa using e),← h2]
     grind
theorem cap_own {s : SR} (h : soundB s = true) {x : Lk} (hx : x ∈ s.cap) : (0 ≤ x.1 ∧ x.1 < s.ps.length) ∧ (0 ≤ x.2.1 ∧ x.2.1 < s.ps.length) ∧ unitsN (lkP x) ≠ 0:=by
 unfold soundB at h
 simp only [Bool.and_eq_true,decide_eq_true_eq] at h
 obtain ⟨i,hi,rfl⟩:=List.getElem_of_mem hx
 obtain ⟨⟨a1,a2,_,a4⟩,_,_⟩:=good_at h.2.2.1 hi
 exact ⟨a1,a2,a4⟩
theorem caps_of {s : SR} (h : soundB s = true) : Caps s.ps.length (capL s.cap):=by
 refine ⟨fun y hy => ?_,fun y hy => ?_,fun y hy => ?_,fun p => ?_⟩
 · obtain ⟨x,hx,rfl⟩:=List.mem_map.1 hy
   obtain ⟨h1,h2,_⟩:=cap_own h hx
   exact ⟨by show x.1.toNat < _;omega,by show x.2.1.toNat < _;omega⟩
 · obtain ⟨x,hx,rfl⟩:=List.mem_map.1 hy
   exact ⟨(unitsN (lkP x) : Nat),by show 6000 * vq (lkP x) = _;rw [units_rat (cap_own h hx).2.2,Rat.intCast_natCast]⟩
 · obtain ⟨x,hx,rfl⟩:=List.mem_map.1 hy
   exact units_pos (cap_own h hx).2.2
 · have h1:=lsum_units (p:=p) (l:=s.cap) fun x hx => ⟨(cap_own h hx).1.1,(cap_own h hx).2.2⟩
   have hg : goodB s.ps.length s.cap = true:=by
    unfold soundB at h
    simp only [Bool.and_eq_true] at h
    exact h.2.2.1
   have h2:=sumU_le (n:=s.ps.length) (l:=s.cap) s.cap.length (Nat.le_refl _) (fun i hi _ => good_at hg hi) (p : Int)
   rw [List.take_length] at h2
   have h3 : (sumU s.cap (p : Int) : Rat) ≤ ((6000 : Nat) : Rat):=Rat.natCast_le_natCast.2 h2
   rw [← h1] at h3
   have h4 : ((6000 : Nat) : Rat) = 6000:=rfl
   rw [h4] at h3
   grind
theorem edges_cap (s : SR) : edgesL (capL s.cap) = edges s:=by
 unfold edgesL capL edges
 rw [List.map_map]
 rfl
theorem isI_den {x : Rat} {d : Nat} (hd : 0 < d) (h : IsI ((d : Rat) * x)) : x.den ∣ d:=by
 obtain ⟨z,hz⟩:=h
 have hdr : (d : Rat) ≠ 0:=by
  have : (0 : Rat) < (d : Rat):=Rat.natCast_pos.2 hd
  grind
 have e : x = mkRat z d:=by
  rw [Rat.mkRat_eq_div,← hz,Rat.div_def]
  have:=Rat.mul_inv_cancel _ hdr
  grind
 rw [e,Rat.den_mkRat,if_neg (by omega)]
 exact Nat.div_dvd_of_dvd (Nat.gcd_dvd_left _ _)
theorem abs_le {x : Rat} (h1 : -1 ≤ x) (h2 : x ≤ 1) : x.num.natAbs ≤ x.den:=by
 have a:=(Rat.le_iff _ _).1 h1
 have b:=(Rat.le_iff _ _).1 h2
 have e1 : (-1 : Rat).num = -1:=rfl
 have e2 : (-1 : Rat).den = 1:=rfl
 have e3 : (1 : Rat).num = 1:=rfl
 have e4 : (1 : Rat).den = 1:=rfl
 rw [e1,e2] at a
 rw [e3,e4] at b
 omega
theorem pow34 : 6000 ^ 34 < L1:=by
 unfold L1
 rw [mx1_eq]
 decide
theorem fit_short {x : Rat} {B : Nat} (h : Fit B x) (hB : B < L1) : ShortQ x:=by
 obtain ⟨a,b,d,d1,d2,d3⟩:=h
 have h1:=Nat.le_of_dvd d1 (isI_den d1 d3)
 have h2:=abs_le a b
 exact ⟨by omega,by omega⟩
theorem SQ_fit : ∀ x,Fit (6000 ^ 34) x → SQ x = true:=fun _ h => decide_eq_true (fit_short h pow34)
end Sh
end Go.Proofs.YtioidbebjgeahaaGreatDoor
namespace Go.Proofs.YtioidbebjgeahaaGreatDoor
open Go.RowKit Go.Shelf
namespace Sh
open Nt Ci
set_option maxRecDepth 100000 in
set_option maxHeartbeats 4000000 in
theorem same20_len (A B : Option Addr) (n m ca cb : Nat) (h : n ≠ m) (w : World) :
 Calls Tryz.prog 19 #[.slice A n ca,.slice B m cb] w fun e w' => e = .returned (.bool false) ∧ Below w.heap.size w w':=by
 have h1 : ((n : Int) == (m : Int)) = false:=by rw [beq_eq_false_iff_ne];omega
 have h2 : ¬ ((n : Int) = (m : Int)):=by omega
 replace h2:=Lib.hid h2
 go_enter Tryz.func19,Tryz.ntmps19
 go_wp2
 go_ret
 exact ⟨rfl,Below.refl _ _⟩
set_option maxRecDepth 100000 in
set_option maxHeartbeats 4000000 in
theorem same20_any0 (A B : Option Addr) (ca cb : Nat) (l m : List Raw) (hlm : l.length = m.length) (w : World) (hl : InRow w A l) (hm : InRow w B m) (h63 : l.length < 9223372036854775807) :
 Calls Tryz.prog 19 #[.slice A l.length ca,.slice B m.length cb] w fun e w' => e = .returned (.bool (decide (l = m))) ∧ Below w.heap.size w w':=by
 rw [← hlm]
 go_enter Tryz.func19,Tryz.ntmps19
 go_wp2
 replace hl:=Lib.hid hl
 replace hm:=Lib.hid hm
 go_loopw [5] (fun i wr => ∃ y q : Nat,y ≤ l.length ∧ i = .int .i64 (y : Int) ∧ wr = w.drewN q ∧ Hid (l.take y = m.take y)) (fun i _ => l.length - (intOf i).toNat)
 case atStart => exact ⟨0,0,Nat.zero_le _,rfl,rfl,rfl⟩
 case round =>
  obtain ⟨y,q,hy,rfl,rfl,hI⟩:=hrel
  by_cases hlt : y < l.length
  · obtain ⟨b,o,rfl,hb,hc⟩:=hl.out (by omega)
    obtain ⟨b2,o2,rfl,hb2,hc2⟩:=hm.out (by omega)
    obtain ⟨e1,e2,e3⟩:=hc y hlt
    obtain ⟨f1,f2,f3⟩:=hc2 y (by omega)
    have hxe : ∃ x,x = l[y]:=⟨_,rfl⟩
    have hze : ∃ z,z = m[y]'(by omega):=⟨_,rfl⟩
    obtain ⟨⟨g1,n1,d1⟩,hx⟩:=hxe
    obtain ⟨⟨g2,n2,d2⟩,hz⟩:=hze
    rw [← hx] at e1 e2 e3
    rw [← hz] at f1 f2 f3
    replace e1 : (w.drewN q).cell? ⟨b,o + y * 3,none⟩ = some (.bool g1):=e1
    replace e2 : (w.drewN q).cell? ⟨b,o + y * 3 + 1,none⟩ = some (.string n1):=e2
    replace e3 : (w.drewN q).cell? ⟨b,o + y * 3 + 2,none⟩ = some (.string d1):=e3
    replace f1 : (w.drewN q).cell? ⟨b2,o2 + y * 3,none⟩ = some (.bool g2):=f1
    replace f2 : (w.drewN q).cell? ⟨b2,o2 + y * 3 + 1,none⟩ = some (.string n2):=f2
    replace f3 : (w.drewN q).cell? ⟨b2,o2 + y * 3 + 2,none⟩ = some (.string d2):=f3
    have s1 : (0 : Int) ≤ (y : Int):=by omega
    have s2 : (y : Int) < (l.length : Int):=by omega
    replace hx:=Lib.hid hx
    replace hz:=Lib.hid hz
    clear hc hc2
    generalize hwq : w.drewN q = wq at *
    by_cases q1 : g1 = g2 <;> by_cases q2 : n1.toList = n2.toList <;> by_cases q3 : d1.toList = d2.toList
    all_goals (
     go_wp2_with fail
     go_quiet (fail)
     go_wp2)
    · obtain rfl:=q1
      obtain rfl : n1 = n2:=ba_ext2 q2
      obtain rfl : d1 = d2:=ba_ext2 q3
      refine ⟨⟨y + 1,q + nq,by omega,by go_num,by rw [← hwq,World.drewN_drewN],?_⟩,by simp only [intOf];omega⟩
      show l.take (y + 1) = m.take (y + 1)
      rw [List.take_succ_eq_append_getElem hlt,List.take_succ_eq_append_getElem (by omega),hI.out,← hx.out,← hz.out]
    all_goals (
     have hne : Hid (l ≠ m):=fun e => by
      have e3 : (g1,n1,d1) = (g2,n2,d2):=by rw [hx.out,hz.out];exact List.getElem_of_eq e _
      simp only [Prod.mk.injEq] at e3
      obtain ⟨rfl,rfl,rfl⟩:=e3
      simp at q1 q2 q3
     go_ret
     exact ⟨by rw [decide_eq_false hne.out];rfl,by rw [← hwq];exact blw_drewN (blw_drewN (Below.refl _ w) q) nq⟩)
  · obtain rfl : y = l.length:=by omega
    have hd : Hid (l = m):=by
     have:=hI.out
     rwa [List.take_of_length_le (Nat.le_refl _),List.take_of_length_le (by omega)] at this
    go_wp2
    go_ret
    exact ⟨by rw [decide_eq_true hd.out];rfl,blw_drewN (Below.refl _ w) q⟩
theorem same20_any (A B : Option Addr) (ca cb : Nat) (l m : List Raw) (w : World) (hl : InRow w A l) (hm : InRow w B m) (h63 : l.length < 9223372036854775807) :
 Calls Tryz.prog 19 #[.slice A l.length ca,.slice B m.length cb] w fun e w' => e = .returned (.bool (decide (l = m))) ∧ Below w.heap.size w w':=by
 by_cases h : l.length = m.length
 · exact same20_any0 A B ca cb l m h w hl hm h63
 · rw [decide_eq_false (fun e => h (by rw [e]))]
   exact same20_len A B _ _ ca cb h w
set_option maxRecDepth 100000 in
theorem of20_any (m n : Int) (w : World) (hE : Env w) (hm0 : -9223372036854775808 ≤ m) (hm1 : m ≤ 9223372036854775807) (hn0 : -9223372036854775808 ≤ n) (hn1 : n ≤ 9223372036854775807) (h0 : n ≠ 0) :
 Calls Tryz.prog 20 #[.int .i64 m,.int .i64 n] w fun e w' => e = .returned (qv (ofQ m n)) ∧ Below w.heap.size w w':=by
 obtain ⟨g,x,d,q0⟩:=agg_q (ofQ m n)
 have hB1 : Hid (Below w.heap.size w (w.alloc (.cells #[.bool false,.string ⟨#[]⟩,.string ⟨#[]⟩] 37))):=(Below.refl _ w).alloc (Nat.le_refl _) _
 have hr1 : Hid (Bk (w.alloc (.cells #[.bool false,.string ⟨#[]⟩,.string ⟨#[]⟩] 37)) w.heap.size 37 [.bool false,.string ⟨#[]⟩,.string ⟨#[]⟩]):=Bk.new w _ _
 have ko : Hid (Calls Tryz.prog 62 #[.int .i64 m,.int .i64 n] (w.alloc (.cells #[.bool false,.string ⟨#[]⟩,.string ⟨#[]⟩] 37)) fun e w' => e = .returned (.tuple #[.agg #[.bool g,.string x,.string d],.int .i64 0]) ∧ Below (w.alloc (.cells #[.bool false,.string ⟨#[]⟩,.string ⟨#[]⟩] 37)).heap.size (w.alloc (.cells #[.bool false,.string ⟨#[]⟩,.string ⟨#[]⟩] 37)) w'):=by
  have h:=RatOf_any m n hm0 hm1 hn0 hn1 h0 _ (hE.below hB1.out)
  rw [q0] at h
  exact h
 rw [q0]
 clear hE
 go_enter Tryz.func20,Tryz.ntmps20
 go_wp2_with fail
 refine ko.out.mono ?_
 rintro e w2 ⟨rfl,hb⟩
 have hB2:=Lib.hid (hB1.out.trans (hb.mono hB1.out.size))
 have hr2:=Lib.hid (hr1.out.below hb)
 clear hb hB1 hr1 ko
 have r0:=hr2.out.cell (j:=0) rfl;have r1:=hr2.out.cell (j:=1) rfl;have r2:=hr2.out.cell (j:=2) rfl
 have f0:=hr2.out.frozen 0;have f1:=hr2.out.frozen 1;have f2:=hr2.out.frozen 2
 have r9:=hr2.out.lt
 have hB5 : Hid (Below w.heap.size w ((((w2.setCell ⟨w.heap.size,0,none⟩ (.bool g)).setCell ⟨w.heap.size,1,none⟩ (.string x)).setCell ⟨w.heap.size,2,none⟩ (.string d)).alloc (.cells #[.bool g,.string x,.string d] 37))):=by
  have h:=((hB2.out.setCell (p:=⟨w.heap.size,0,none⟩) (Nat.le_refl _) (.bool g)).setCell (p:=⟨w.heap.size,1,none⟩) (Nat.le_refl _) (.string x)).setCell (p:=⟨w.heap.size,2,none⟩) (Nat.le_refl _) (.string d)
  exact h.alloc h.size _
 have hR5 : Hid (Bk ((((w2.setCell ⟨w.heap.size,0,none⟩ (.bool g)).setCell ⟨w.heap.size,1,none⟩ (.string x)).setCell ⟨w.heap.size,2,none⟩ (.string d)).alloc (.cells #[.bool g,.string x,.string d] 37)) w.heap.size 37 [.bool g,.string x,.string d]):=(((hr2.out.set 0 (.bool g)).set 1 (.string x)).set 2 (.string d)).alloc _
 go_wp2
 (try simp only [Exit.inBlock,Exit.then])
 have s0:=hR5.out.cell (j:=0) rfl;have s1:=hR5.out.cell (j:=1) rfl;have s2:=hR5.out.cell (j:=2) rfl
 have s9:=hR5.out.lt
 refine bodyPost_ret (v:=.agg #[.bool g,.string x,.string d]) (by simp [results,Tryz.results20,go_sem,s0,s1,s2]) rfl ⟨rfl,hB5.out⟩
set_option maxRecDepth 100000 in
theorem has20_any (A : Option Addr) (ca : Nat) (l : List Int) (x : Int) (w : World) (hA : InInt w A l) (hl : l.length ≤ 140737488355328) :
 Calls Tryz.prog 25 #[.slice A l.length ca,.int .i64 x] w fun e w' => e = .returned (.bool (decide (x ∈ l))) ∧ w' = w:=by
 replace hA:=Lib.hid hA
 go_enter Tryz.func25,Tryz.ntmps25
 go_wp2
 go_loopw [5] (fun ix wr => ∃ (i : Nat),i ≤ l.length ∧ ix = .int .i64 (i : Int) ∧ wr = w ∧ Hid (x ∉ l.take i)) (fun ix _ => l.length - (intOf ix).toNat)
 case atStart => exact ⟨0,Nat.zero_le _,rfl,rfl,by simp [Hid]⟩
 case round =>
  obtain ⟨i,hi,rfl,rfl,hI⟩:=hrel
  by_cases hlt : i < l.length
  · obtain ⟨b,o,rfl,hb,hc⟩:=hA.out (by omega)
    have e1:=hc i hlt
    have s1 : (0 : Int) ≤ (i : Int):=by omega
    have s2 : (i : Int) < (l.length : Int):=by omega
    have hm : Hid (x ∈ l.take (i + 1) ↔ x ∈ l.take i ∨ x = l[i]):=by unfold Hid;rw [List.take_succ_eq_append_getElem hlt,List.mem_append,List.mem_singleton]
    have hmem : Hid (l[i] ∈ l):=List.getElem_mem hlt
    obtain ⟨y,hy⟩ : ∃ y,y = l[i]:=⟨_,rfl⟩
    rw [← hy] at e1 hm hmem
    clear hy hc
    by_cases hyx : y = x
    · have m1 : (y == x) = true:=by rw [beq_iff_eq];exact hyx
      have hin : Hid (x ∈ l):=by rw [← hyx];exact hmem.out
      replace hyx:=Lib.hid hyx
      go_wp2
      go_ret
      exact ⟨by rw [decide_eq_true hin.out];rfl,rfl⟩
    · have m1 : (y == x) = false:=by rw [beq_eq_false_iff_ne];exact hyx
      have hno : Hid (x ∉ l.take (i + 1)):=fun h => (hm.out.1 h).elim hI.out (fun e => hyx e.symm)
      replace hyx:=Lib.hid hyx
      go_wp2
      exact ⟨⟨i + 1,by omega,by go_num,(by first | rfl | trivial),hno⟩,by simp only [intOf];omega⟩
  · obtain rfl : i = l.length:=by omega
    have hno : Hid (x ∉ l):=by have:=hI.out;rwa [List.take_length] at this
    go_wp2
    go_ret
    exact ⟨by rw [decide_eq_false hno.out];rfl,rfl⟩
theorem num_ne {q : Rat} (h : q ≠ 0) : ¬ (rq q).2.1.toList = (rq 0).2.1.toList:=fun e => by
 have h1:=T_is_zero q.num.natAbs
 have h2 : ((T (some q.num.natAbs)).toList == [48]) = true:=by
  rw [show (T (some q.num.natAbs)).toList = (T (some 0)).toList from e]
  exact (T_is_zero 0).trans (by decide)
 rw [h2] at h1
 have h3:=of_decide_eq_true h1.symm
 exact h (Rat.num_eq_zero.1 (by omega))
theorem cmpQ_le (p q : Rat) : decide (cmpQ p q ≤ 0) = decide (p ≤ q):=by
 unfold cmpQ
 by_cases h : p < q
 · rw [if_pos h,decide_eq_true (Rat.le_of_lt h)];rfl
 · rw [if_neg h]
   by_cases e : p = q
   · have hle : p ≤ q:=by rw [e];exact Rat.le_refl
     rw [if_pos e,decide_eq_true hle];rfl
   · have hle : ¬ p ≤ q:=fun c => h (Rat.lt_of_le_of_ne c e)
     rw [if_neg e,decide_eq_false hle];rfl
set_option maxRecDepth 100000 in
theorem least20_w (g1 g2 : Bool) (n1 d1 n2 d2 : ByteArray) (c f : Int) (w : World) (hE : Env w)
 (hk : ∀ W,Env W → Calls Tryz.prog 68 #[.agg #[.bool g1,.string n1,.string d1],.agg #[.bool g2,.string n2,.string d2]] W fun e w' => e = .returned (.tuple #[.int .i64 c,.int .i64 f]) ∧ Below W.heap.size W w') :
 Calls Tryz.prog 23 #[.agg #[.bool g1,.string n1,.string d1],.agg #[.bool g2,.string n2,.string d2]] w fun e w' => e = .returned (.bool (decide (f = 0) && decide (c ≤ 0))) ∧ Below w.heap.size w w':=by
 have hB2 : Hid (Below w.heap.size w ((w.alloc (.cells #[.bool g1,.string n1,.string d1] 37)).alloc (.cells #[.bool g2,.string n2,.string d2] 37))):=(((Below.refl _ w).alloc (Nat.le_refl _) _).alloc (by simp) _)
 have ha2 : Hid (Bk ((w.alloc (.cells #[.bool g1,.string n1,.string d1] 37)).alloc (.cells #[.bool g2,.string n2,.string d2] 37)) (w.heap.size) 37 [.bool g1,.string n1,.string d1]):=by have h:=Bk.new w 37 [.bool g1,.string n1,.string d1];have h:=h.alloc (.cells #[.bool g2,.string n2,.string d2] 37); exact h
 have hb2 : Hid (Bk ((w.alloc (.cells #[.bool g1,.string n1,.string d1] 37)).alloc (.cells #[.bool g2,.string n2,.string d2] 37)) (w.heap.size + 1) 37 [.bool g2,.string n2,.string d2]):=by have h:=Bk.new (w.alloc (.cells #[.bool g1,.string n1,.string d1] 37)) 37 [.bool g2,.string n2,.string d2];simp only [World.size_alloc] at h;exact h
 have k1:=Lib.hid (hk ((w.alloc (.cells #[.bool g1,.string n1,.string d1] 37)).alloc (.cells #[.bool g2,.string n2,.string d2] 37)) (hE.below hB2.out))
 clear hk
 have x0:=ha2.out.cell (j:=0) rfl;have x1:=ha2.out.cell (j:=1) rfl;have x2:=ha2.out.cell (j:=2) rfl;have x9:=ha2.out.lt
 have y0:=hb2.out.cell (j:=0) rfl;have y1:=hb2.out.cell (j:=1) rfl;have y2:=hb2.out.cell (j:=2) rfl;have y9:=hb2.out.lt
 by_cases hf : f = 0
 · subst hf
   rw [show (decide ((0 : Int) = 0) && decide (c ≤ 0)) = decide (c ≤ 0) by simp]
   cases hc : decide (c ≤ 0) with
   | true =>
     go_enter Tryz.func23,Tryz.ntmps23
     go_wp2_with fail
     refine k1.out.mono ?_
     rintro e w3 ⟨rfl,hb⟩
     have hB3:=Lib.hid (hB2.out.trans (hb.mono hB2.out.size));have ha3:=Lib.hid (ha2.out.below hb);have hb3:=Lib.hid (hb2.out.below hb)
     clear hb hB2 ha2 hb2 k1 x0 x1 x2 x9 y0 y1 y2 y9
     go_wp2
     go_ret
     exact ⟨rfl,hB3.out⟩
   | false =>
     go_enter Tryz.func23,Tryz.ntmps23
     go_wp2_with fail
     refine k1.out.mono ?_
     rintro e w3 ⟨rfl,hb⟩
     have hB3:=Lib.hid (hB2.out.trans (hb.mono hB2.out.size));have ha3:=Lib.hid (ha2.out.below hb);have hb3:=Lib.hid (hb2.out.below hb)
     clear hb hB2 ha2 hb2 k1 x0 x1 x2 x9 y0 y1 y2 y9
     go_wp2
     go_ret
     exact ⟨rfl,hB3.out⟩
 · have m1 : (f == 0) = false:=by rw [beq_eq_false_iff_ne];exact hf
   rw [decide_eq_false hf]
   replace hf:=Lib.hid hf
   go_enter Tryz.func23,Tryz.ntmps23
   go_wp2_with fail
   refine k1.out.mono ?_
   rintro e w3 ⟨rfl,hb⟩
   have hB3:=Lib.hid (hB2.out.trans (hb.mono hB2.out.size));have ha3:=Lib.hid (ha2.out.below hb);have hb3:=Lib.hid (hb2.out.below hb)
   clear hb hB2 ha2 hb2 k1 x0 x1 x2 x9 y0 y1 y2 y9
   go_wp2
   go_ret
   exact ⟨rfl,hB3.out⟩
theorem least20_any (p q : Rat) (hp : ShortQ p) (hq : ShortQ q) (w : World) (hE : Env w) :
 Calls Tryz.prog 23 #[.agg #[.bool (rq (p)).1,.string (rq (p)).2.1,.string (rq (p)).2.2],.agg #[.bool (rq (q)).1,.string (rq (q)).2.1,.string (rq (q)).2.2]] w fun e w' => e = .returned (.bool (decide (p ≤ q))) ∧ Below w.heap.size w w':=by
 have h:=least20_w _ _ _ _ _ _ _ _ w hE (fun W hW => Compare_short p q hp hq W hW)
 rw [cmpQ_le] at h
 exact h
end Sh
end Go.Proofs.YtioidbebjgeahaaGreatDoor
namespace Go.Proofs.YtioidbebjgeahaaGreatDoor
open Go.RowKit Go.Shelf
namespace Sh
open Nt Ci
theorem zeroQ (w : World) : (zeroValue 37).run Tryz.prog w = .ok (.agg #[.bool false,.string ⟨#[]⟩,.string ⟨#[]⟩]) w:=by kernel_rfl
def MapV (w : World) (mb n : Nat) (val : Nat → Rat) : Prop :=
 ∃ c f,MapK Tryz.prog 3 κi w mb c f ∧ c ≤ 100000 ∧ ∀ p : Nat,p < n → match f (p : Int) with | some v => v = qv (val p) | none => val p = 0
theorem MapV.below {w w' : World} {mb n : Nat} {val : Nat → Rat} (h : MapV w mb n val) (hb : Below w.heap.size w w') : MapV w' mb n val:=by
 obtain ⟨c,f,h1,h2,h3⟩:=h
 exact ⟨c,f,h1.below hb,h2,h3⟩
theorem MapV.lt {w : World} {mb n : Nat} {val : Nat → Rat} (h : MapV w mb n val) : mb < w.heap.size:=by
 obtain ⟨c,f,h1,_⟩:=h
 exact h1.lt
structure VM (w : World) (vb mb n : Nat) (val : Nat → Rat) : Prop where
 x : Bk w vb 68 [.map (some mb)]
 m : MapV w mb n val
theorem VM.below {w w' : World} {vb mb n : Nat} {val : Nat → Rat} (h : VM w vb mb n val) (hb : Below w.heap.size w w') : VM w' vb mb n val:=⟨h.x.below hb,h.m.below hb⟩
set_option maxRecDepth 100000 in
set_option maxHeartbeats 4000000 in
theorem shval_any (n : Nat) (val : Nat → Rat) (vb mb p : Nat) (hp : p < n) (hn : n ≤ 1000) (w : World) (hE : Env w) (hV : VM w vb mb n val) :
 Calls Tryz.prog 47 #[.int .i64 (p : Int),.pointer (some ⟨vb,0,none⟩)] w fun e w' => e = .returned (qv (val p)) ∧ Below w.heap.size w w':=by
 have hB2 : Hid (Below w.heap.size w (w.alloc (.cells #[.bool false,.string ⟨#[]⟩,.string ⟨#[]⟩] 37))):=((Below.refl _ w).alloc (Nat.le_refl _) _)
 have hr2 : Hid (Bk (w.alloc (.cells #[.bool false,.string ⟨#[]⟩,.string ⟨#[]⟩] 37)) (w.heap.size) 37 [.bool false,.string ⟨#[]⟩,.string ⟨#[]⟩]):=by have h:=Bk.new w 37 [.bool false,.string ⟨#[]⟩,.string ⟨#[]⟩]; exact h
 have hv1:=Lib.hid (hV.below hB2.out)
 obtain ⟨c,f,hM,_,hval⟩:=hv1.out.m
 have hlook:=hM.look_ok keyI Tryz.underlying68 (zeroQ _) (key_i Tryz.underlying3 (a:=(p : Int)) (by omega) (by omega))
 have hx:=hv1.out.x
 have x0:=hx.cell (j:=0) rfl;have x9:=hx.lt
 have hvp:=hval p hp
 replace hE:=Lib.hid hE
 clear hval hM hv1 hV hx
 cases hfp : f (p : Int) with
 | some u =>
   rw [hfp] at hlook hvp
   replace hvp : u = qv (val p):=hvp
   obtain ⟨g,n0,d,hq⟩:=agg_q (val p)
   rw [hq] at hvp
   subst hvp
   replace hlook : (Instr.lookup 68 (.map (some mb)) (.int .i64 (p : Int)) true).run Tryz.prog (w.alloc (.cells #[.bool false,.string ⟨#[]⟩,.string ⟨#[]⟩] 37)) = .ok (.tuple #[.agg #[.bool g,.string n0,.string d],.bool true]) (w.alloc (.cells #[.bool false,.string ⟨#[]⟩,.string ⟨#[]⟩] 37)):=hlook
   replace hfp:=Lib.hid hfp
   have hB3 : Hid (Below w.heap.size w ((w.alloc (.cells #[.bool false,.string ⟨#[]⟩,.string ⟨#[]⟩] 37)).alloc (.cells #[.bool g,.string n0,.string d] 37))):=hB2.out.alloc hB2.out.size _
   have hr3:=Lib.hid (hr2.out.alloc (.cells #[.bool g,.string n0,.string d] 37))
   clear hB2 hr2
   have hv3 : Hid (Bk ((w.alloc (.cells #[.bool false,.string ⟨#[]⟩,.string ⟨#[]⟩] 37)).alloc (.cells #[.bool g,.string n0,.string d] 37)) (w.alloc (.cells #[.bool false,.string ⟨#[]⟩,.string ⟨#[]⟩] 37)).heap.size 37 [.bool g,.string n0,.string d]):=Bk.new _ _ _
   have r0:=hr3.out.cell (j:=0) rfl;have r1:=hr3.out.cell (j:=1) rfl;have r2:=hr3.out.cell (j:=2) rfl;have r9:=hr3.out.lt
   have rf0:=hr3.out.frozen 0;have rf1:=hr3.out.frozen 1;have rf2:=hr3.out.frozen 2
   go_enter Tryz.func47,Tryz.ntmps47
   have hBz : Hid (Below w.heap.size w ((w.alloc (.cells #[.bool g,.string n0,.string d] 37)).alloc (.cells #[.bool g,.string n0,.string d] 37))):=((Below.refl _ w).alloc (Nat.le_refl _) _).alloc (by simp) _
   have hRz : Hid (Bk ((w.alloc (.cells #[.bool g,.string n0,.string d] 37)).alloc (.cells #[.bool g,.string n0,.string d] 37)) w.heap.size 37 [.bool g,.string n0,.string d]):=(Bk.new w _ _).alloc _
   go_wp2
   (try simp only [Exit.inBlock,Exit.then])
   have s0:=hRz.out.cell (j:=0) rfl;have s1:=hRz.out.cell (j:=1) rfl;have s2:=hRz.out.cell (j:=2) rfl;have s9:=hRz.out.lt
   refine bodyPost_ret (v:=.agg #[.bool g,.string n0,.string d]) (by simp [results,Tryz.results47,go_sem,s0,s1,s2]) rfl ⟨by rw [hq],hBz.out⟩
 | none =>
   rw [hfp] at hlook hvp
   replace hvp : val p = 0:=hvp
   obtain ⟨g,n0,d,hq⟩:=agg_q (0 : Rat)
   rw [hvp]
   replace hlook : (Instr.lookup 68 (.map (some mb)) (.int .i64 (p : Int)) true).run Tryz.prog (w.alloc (.cells #[.bool false,.string ⟨#[]⟩,.string ⟨#[]⟩] 37)) = .ok (.tuple #[.agg #[.bool false,.string ⟨#[]⟩,.string ⟨#[]⟩],.bool false]) (w.alloc (.cells #[.bool false,.string ⟨#[]⟩,.string ⟨#[]⟩] 37)):=hlook
   replace hfp:=Lib.hid hfp
   replace hvp:=Lib.hid hvp
   have hB3 : Hid (Below w.heap.size w ((w.alloc (.cells #[.bool false,.string ⟨#[]⟩,.string ⟨#[]⟩] 37)).alloc (.cells #[.bool false,.string ⟨#[]⟩,.string ⟨#[]⟩] 37))):=hB2.out.alloc hB2.out.size _
   have hr3:=Lib.hid (hr2.out.alloc (.cells #[.bool false,.string ⟨#[]⟩,.string ⟨#[]⟩] 37))
   clear hB2 hr2
   have hv3 : Hid (Bk ((w.alloc (.cells #[.bool false,.string ⟨#[]⟩,.string ⟨#[]⟩] 37)).alloc (.cells #[.bool false,.string ⟨#[]⟩,.string ⟨#[]⟩] 37)) (w.alloc (.cells #[.bool false,.string ⟨#[]⟩,.string ⟨#[]⟩] 37)).heap.size 37 [.bool false,.string ⟨#[]⟩,.string ⟨#[]⟩]):=Bk.new _ _ _
   have kn : Hid (Calls Tryz.prog 46 #[.int .i64 0] ((w.alloc (.cells #[.bool false,.string ⟨#[]⟩,.string ⟨#[]⟩] 37)).alloc (.cells #[.bool false,.string ⟨#[]⟩,.string ⟨#[]⟩] 37)) fun e w' => e = .returned (.agg #[.bool g,.string n0,.string d]) ∧ Below (((w.alloc (.cells #[.bool false,.string ⟨#[]⟩,.string ⟨#[]⟩] 37)).alloc (.cells #[.bool false,.string ⟨#[]⟩,.string ⟨#[]⟩] 37))).heap.size ((w.alloc (.cells #[.bool false,.string ⟨#[]⟩,.string ⟨#[]⟩] 37)).alloc (.cells #[.bool false,.string ⟨#[]⟩,.string ⟨#[]⟩] 37)) w'):=by have h:=shnum_any 0 (by omega) ((w.alloc (.cells #[.bool false,.string ⟨#[]⟩,.string ⟨#[]⟩] 37)).alloc (.cells #[.bool false,.string ⟨#[]⟩,.string ⟨#[]⟩] 37)) (hE.out.below hB3.out);rw [show ((0 : Int) : Rat) = 0 from rfl,hq] at h;exact h
   go_enter Tryz.func47,Tryz.ntmps47
   go_wp2_with fail
   refine kn.out.mono ?_
   rintro e w4 ⟨rfl,hb⟩
   have hB4:=Lib.hid (hB3.out.trans (hb.mono hB3.out.size));have hr4:=Lib.hid (hr3.out.below hb)
   clear hb hB3 hr3 kn
   have r0:=hr4.out.cell (j:=0) rfl;have r1:=hr4.out.cell (j:=1) rfl;have r2:=hr4.out.cell (j:=2) rfl;have r9:=hr4.out.lt
   have rf0:=hr4.out.frozen 0;have rf1:=hr4.out.frozen 1;have rf2:=hr4.out.frozen 2
   have hBz : Hid (Below w.heap.size w (((w4.setCell ⟨w.heap.size,0,none⟩ (.bool g)).setCell ⟨w.heap.size,1,none⟩ (.string n0)).setCell ⟨w.heap.size,2,none⟩ (.string d))):=(((hB4.out.setCell (p:=⟨w.heap.size,0,none⟩) (Nat.le_refl _) _).setCell (p:=⟨w.heap.size,1,none⟩) (Nat.le_refl _) _).setCell (p:=⟨w.heap.size,2,none⟩) (Nat.le_refl _) _)
   have hRz : Hid (Bk (((w4.setCell ⟨w.heap.size,0,none⟩ (.bool g)).setCell ⟨w.heap.size,1,none⟩ (.string n0)).setCell ⟨w.heap.size,2,none⟩ (.string d)) (w.heap.size) 37 [.bool g,.string n0,.string d]):=(Bk.set (Bk.set (Bk.set hr4.out 0 (.bool g)) 1 (.string n0)) 2 (.string d))
   go_wp2
   (try simp only [Exit.inBlock,Exit.then])
   have s0:=hRz.out.cell (j:=0) rfl;have s1:=hRz.out.cell (j:=1) rfl;have s2:=hRz.out.cell (j:=2) rfl;have s9:=hRz.out.lt
   refine bodyPost_ret (v:=.agg #[.bool g,.string n0,.string d]) (by simp [results,Tryz.results47,go_sem,s0,s1,s2]) rfl ⟨by rw [hq],hBz.out⟩
end Sh
end Go.Proofs.YtioidbebjgeahaaGreatDoor
namespace Go.Proofs.YtioidbebjgeahaaGreatDoor
open Go.RowKit Go.Shelf
namespace Sh
open Nt Ci
theorem ret_int {a b : Int} (h : a = b) : Ending.returned (.int .i64 a) = .returned (.int .i64 b):=by rw [h]
def ixOf (l : List Int) (x : Int) : Int:=if x ∈ l then (l.idxOf x : Int) else -1
theorem ix_at {l : List Int} {x : Int} {k : Nat} (hk : k < l.length) (h : ∀ j (hj : j < l.length),j < k → l[j] ≠ x) (e : l[k] = x) : ixOf l x = (k : Int):=by
 have hm : x ∈ l:=by rw [← e];exact List.getElem_mem hk
 unfold ixOf
 rw [if_pos hm]
 have h1 : l.idxOf x < l.length:=List.idxOf_lt_length_of_mem hm
 have h2 : l[l.idxOf x] = x:=List.getElem_idxOf h1
 by_cases c : l.idxOf x < k
 · exact absurd h2 (h _ h1 c)
 · by_cases c2 : k < l.idxOf x
   · exact absurd e (by
      have:=List.not_of_lt_findIdx (p:=fun y => y == x) (xs:=l) (i:=k) (by simpa [List.idxOf] using c2)
      simpa using this)
   · omega
theorem ix_no {l : List Int} {x : Int} (h : ∀ j (hj : j < l.length),l[j] ≠ x) : ixOf l x = -1:=by
 unfold ixOf
 rw [if_neg]
 intro hm
 obtain ⟨j,hj,e⟩:=List.getElem_of_mem hm
 exact h j hj e
set_option maxRecDepth 100000 in
theorem shidx_any (A : Option Addr) (ca : Nat) (l : List Int) (x : Int) (w : World) (hA : InInt w A l) (hl : l.length ≤ 140737488355328) :
 Calls Tryz.prog 96 #[.slice A l.length ca,.int .i64 x] w fun e w' => e = .returned (.int .i64 (ixOf l x)) ∧ w' = w:=by
 replace hA:=Lib.hid hA
 have hYes:=Lib.hid (fun (k : Nat) (hk : k < l.length) h e => ix_at (l:=l) (x:=x) hk h e)
 have hNo:=Lib.hid (fun h => ix_no (l:=l) (x:=x) h)
 go_enter Tryz.func96,Tryz.ntmps96
 go_wp2
 go_loopw [8] (fun ix wr => ∃ (k : Nat),k ≤ l.length ∧ ix = .int .i64 (k : Int) ∧ wr = w ∧ Hid (∀ j (hj : j < l.length),j < k → l[j] ≠ x)) (fun ix _ => l.length - (intOf ix).toNat)
 case atStart => exact ⟨0,Nat.zero_le _,rfl,rfl,fun j _ h => absurd h (Nat.not_lt_zero _)⟩
 case round =>
  obtain ⟨k,hk,rfl,rfl,hN⟩:=hrel
  by_cases hlt : k < l.length
  · obtain ⟨b,o,rfl,hbl,hc⟩:=hA.out (by omega)
    have e1:=hc k hlt
    have hy:=Lib.hid (hYes.out k hlt hN.out)
    have hn : Hid (l[k] ≠ x → ∀ j (hj : j < l.length),j < k + 1 → l[j] ≠ x):=fun h j hj h2 => by
     by_cases c : j = k
     · subst c;exact h
     · exact hN.out j hj (by omega)
    obtain ⟨y,hy2⟩ : ∃ y,y = l[k]:=⟨_,rfl⟩
    rw [← hy2] at e1 hy hn
    replace hy2:=Lib.hid hy2
    have j0 : (0 : Int) ≤ (k : Int):=by omega
    have j1 : (k : Int) < (l.length : Int):=by omega
    clear hc hN
    by_cases hxy : x = y
    · have m1 : (x == y) = true:=by rw [beq_iff_eq];exact hxy
      have hr:=Lib.hid (hy.out hxy.symm)
      replace hxy:=Lib.hid hxy
      clear hn hy
      go_wp2
      go_ret
      exact ⟨ret_int hr.out.symm,rfl⟩
    · have m1 : (x == y) = false:=by rw [beq_eq_false_iff_ne];exact hxy
      have hn2:=Lib.hid (hn.out fun c => hxy c.symm)
      replace hxy:=Lib.hid hxy
      clear hn hy
      go_wp2
      exact ⟨⟨k + 1,by omega,by go_num,by first | rfl | trivial,hn2⟩,by simp only [intOf];omega⟩
  · obtain rfl : k = l.length:=by omega
    have hr : Hid (ixOf l x = -1):=hNo.out fun j hj => hN.out j hj hj
    go_wp2
    go_ret
    exact ⟨ret_int hr.out.symm,rfl⟩
end Sh
end Go.Proofs.YtioidbebjgeahaaGreatDoor
namespace Go.Proofs.YtioidbebjgeahaaGreatDoor
open Go.RowKit Go.Shelf
namespace Ci
def intsL (l : List Nat) : List Value:=l.map fun (q : Nat) => .int .i64 (q : Int)
theorem intsL_snoc (l : List Nat) (q : Nat) : intsL (l ++ [q]) = intsL l ++ [.int .i64 (q : Int)]:=by simp [intsL]
def OffB (u v : Value) : Prop:=∀ b,u.ownBlock = some b → v.ownBlock ≠ some b
structure Gr (W : World) (B R n : Nat) (v : Nat → Value) (adj : Nat → List Nat) : Prop where
 lt : R < W.heap.size
 hd : ∀ i,i < n → W.cell? ⟨R,i,none⟩ = some (v i)
 fr : ∀ i,W.frozen? ⟨R,i,none⟩ = false
 rows : ∀ i,i < n → W.ownsRow B 3 1 (v i) (adj i).length (intsL (adj i))
 apart : ∀ i j,i < n → j < n → i ≠ j → OffB (v i) (v j)
 ne : ∀ i,i < n → (v i).ownBlock ≠ some R
 lowR : B ≤ R
section
variable {W W' : World} {B R n i : Nat} {v : Nat → Value} {adj : Nat → List Nat}
theorem own_below' {base : Nat} {e : TypeId} {size m : Nat} {u : Value} {xs : List Value} (h : W.ownsRow base e size u m xs) (hb : Below W.heap.size W W') : W'.ownsRow base e size u m xs :=
 h.kept (row:=none) ⟨hb.os,hb.tape,hb.output,hb.size,fun k hk _ => hb.block k hk⟩ (by
  cases hu : u.ownBlock with
  | none => exact .inl rfl
  | some b => exact .inr (by simp))
theorem Gr.below (h : Gr W B R n v adj) (hb : Below W.heap.size W W') : Gr W' B R n v adj :=
 ⟨Nat.lt_of_lt_of_le h.lt hb.size,fun i hi => (hb.cell (p:=⟨R,i,none⟩) h.lt).trans (h.hd i hi),fun i => (hb.frozen (p:=⟨R,i,none⟩) h.lt).trans (h.fr i),fun i hi => own_below' (h.rows i hi) hb,h.apart,h.ne,h.lowR⟩
theorem Gr.alloc (h : Gr W B R n v adj) (o : Obj) : Gr (W.alloc o) B R n v adj:=h.below ((Below.refl _ W).alloc (Nat.le_refl _) o)
theorem Gr.drew (h : Gr W B R n v adj) : Gr W.drew B R n v adj:=h.below (Below.refl _ W).drew
theorem Gr.mono {B' : Nat} (h : Gr W B R n v adj) (hb : B' ≤ B) : Gr W B' R n v adj :=
 ⟨h.lt,h.hd,h.fr,fun i hi => by
   obtain ⟨h1,h2⟩:=h.rows i hi
   refine ⟨h1,?_⟩
   rcases h2 with h2 | ⟨g,cap,cur,hv,hg,hh⟩
   · exact .inl h2
   · exact .inr ⟨g,cap,cur,hv,Nat.le_trans hb hg,hh⟩,h.apart,h.ne,Nat.le_trans hb h.lowR⟩
theorem own_ints {base : Nat} {e : TypeId} {u : Value} {l : List Nat} (h : W.ownsRow base e 1 u l.length (intsL l)) :
 (u = .slice none 0 0 ∧ l = []) ∨ ∃ g cap,u = .slice (some ⟨g,0,none⟩) l.length cap ∧ base ≤ g ∧ g < W.heap.size ∧ (∀ j,W.frozen? ⟨g,j,none⟩ = false) ∧ ∀ j (hj : j < l.length),W.cell? ⟨g,j,none⟩ = some (.int .i64 (l[j] : Int)):=by
 rcases h.2 with ⟨rfl,h0⟩ | ⟨g,cap,cur,rfl,hb,hg,_⟩
 · exact .inl ⟨rfl,List.length_eq_zero_iff.1 h0⟩
 · refine .inr ⟨g,cap,rfl,hb,(Array.getElem?_eq_some_iff.1 hg).1,fun j => by simp [World.frozen?,hg],fun j hj => ?_⟩
   have hc:=h.cells (g:=g) (by simp [Value.ownBlock]) j (.int .i64 (l[j] : Int)) (by simp [intsL,hj])
   have hadd : ∀ o,(⟨g,0,none⟩ : Addr).add o = ⟨g,o,none⟩:=fun o => by unfold Addr.add;split <;> simp_all
   rwa [hadd] at hc
theorem Gr.start (w : World) {B : Nat} (hB : B ≤ w.heap.size) (n : Nat) (t : TypeId) : Gr (w.alloc (.cells (madeCells #[.slice none 0 0] n) t)) B w.heap.size n (fun _ => .slice none 0 0) fun _ => []:=by
 have h:=heap_alloc_new w (.cells (madeCells #[(.slice none 0 0 : Value)] n) t)
 refine ⟨by simp,fun x hx => ?_,fun x => by simp only [World.frozen?,h];simp,fun _ _ => World.ownsRow_nil _ _ _ _,fun _ _ _ _ _ b hb => (by cases hb),fun _ _ hb => (by cases hb),hB⟩
 simp only [World.cell?,h]
 simp [madeCells,hx]
 rw [Nat.mod_one]
 rfl
def setL (adj : Nat → List Nat) (x q : Nat) : Nat → List Nat:=fun i => if i = x then adj i ++ [q] else adj i
theorem Gr.step (h : Gr W B R n v adj) {x q : Nat} (hx : x < n) {u : Value} (hg : W.grownBy W' (v x).ownBlock) (ho : W'.ownsRow B 3 1 u ((adj x).length + 1) (intsL (adj x) ++ [.int .i64 (q : Int)])) (hn : u.ownBlock = (v x).ownBlock ∨ u.ownBlock = some W.heap.size) :
 Gr (W'.setCell ⟨R,x,none⟩ u) B R n (fun i => if i = x then u else v i) (setL adj x q):=by
 have hRx : some R ≠ (v x).ownBlock:=fun e => h.ne x hx e.symm
 have hbR : W'.heap[R]? = W.heap[R]?:=hg.block R h.lt hRx
 have hcell : ∀ i,W'.cell? ⟨R,i,none⟩ = W.cell? ⟨R,i,none⟩:=fun i => World.cell?_of_block (a:=⟨R,i,none⟩) hbR
 have hfr : ∀ i,W'.frozen? ⟨R,i,none⟩ = W.frozen? ⟨R,i,none⟩:=fun i => World.frozen?_of_block (a:=⟨R,i,none⟩) hbR
 have huR : u.ownBlock ≠ some R:=fun e => by
  rcases hn with hn | hn
  · exact h.ne x hx (by rw [← hn,e])
  · rw [e] at hn
    have:=h.lt
    simp only [Option.some.injEq] at hn
    omega
 have hne : ∀ a b : Nat,a ≠ b → (⟨R,a,none⟩ : Addr) ≠ ⟨R,b,none⟩:=fun a b e1 e2 => by injection e2 with _ e3;exact e1 e3
 have far : ∀ {m : Nat} {z : Value} {xs : List Value},W'.ownsRow B 3 1 z m xs → z.ownBlock ≠ some R → (W'.setCell ⟨R,x,none⟩ u).ownsRow B 3 1 z m xs:=fun h hz =>
  h.kept (row:=some R) ⟨rfl,rfl,rfl,by simp,fun k _ hk => Below.heap_setCell _ _ _ _ (fun e => hk (by rw [e]))⟩ (.inr hz)
 have hoff : ∀ i,i < n → i ≠ x → OffB (v i) u:=fun i hi hix b hb e => by
  rcases hn with hn | hn
  · exact h.apart i x hi hx hix b hb (by rw [← hn,e])
  · have:=((h.rows i hi).lt b hb).2
    rw [e] at hn
    simp only [Option.some.injEq] at hn
    omega
 refine ⟨by have:=hg.size;have:=h.lt;simp;omega,fun i hi => ?_,fun i => by simpa [hfr] using h.fr i,fun i hi => ?_,fun i j hi hj e => ?_,fun i hi => ?_,h.lowR⟩
 · by_cases e : i = x
   · subst e
     rw [if_pos rfl]
     exact World.cell?_setCell_same _ _ _ ((hcell i).trans (h.hd i hi))
   · rw [if_neg e,World.cell?_setCell_other _ _ _ _ (by first | exact hne _ _ e | exact hne _ _ fun c => e c.symm),hcell]
     exact h.hd i hi
 · by_cases e : i = x
   · subst e
     rw [if_pos rfl]
     have : setL adj i q i = adj i ++ [q]:=if_pos rfl
     rw [this,List.length_append,intsL_snoc]
     exact far ho huR
   · rw [if_neg e]
     have : setL adj x q i = adj i:=if_neg e
     rw [this]
     refine far ((h.rows i hi).kept hg ?_) (h.ne i hi)
     cases hv : (v i).ownBlock with
     | none => exact .inl rfl
     | some b => exact .inr fun c => h.apart i x hi hx e b hv c.symm
 · by_cases e1 : i = x
   · have e2 : j ≠ x:=fun c => e (by rw [e1,c])
     rw [if_pos e1,if_neg e2]
     exact fun b hb hc => hoff j hj e2 b hc hb
   · rw [if_neg e1]
     by_cases e2 : j = x
     · rw [if_pos e2]
       exact hoff i hi e1
     · rw [if_neg e2]
       exact h.apart i j hi hj e
 · by_cases e : i = x
   · rw [if_pos e];exact huR
   · rw [if_neg e];exact h.ne i hi
theorem Gr.congr {a' : Nat → List Nat} (h : Gr W B R n v adj) (e : ∀ i,i < n → adj i = a' i) : Gr W B R n v a' :=
 ⟨h.lt,h.hd,h.fr,fun i hi => by rw [← e i hi];exact h.rows i hi,h.apart,h.ne,h.lowR⟩
end
end Ci
end Go.Proofs.YtioidbebjgeahaaGreatDoor
namespace Go.Proofs.YtioidbebjgeahaaGreatDoor
open Go.RowKit Go.Shelf
namespace Ci
section
variable {w w' : World} {base : Nat} {e : TypeId} {size : Nat} {u v v' : Value} {n : Nat} {xs : List Value}
theorem run_append_at {P : Program} (t ty e : TypeId) (i : TypeInfo) (z : Value) (size bytes : Nat) (ht : P.underlying t = some (.slice e)) (hi : P.info? e = some i) (hz : i.zero = some z)
 (hsize : i.size = size) (hby : i.bytes = bytes) (v : Value) (n : Nat) (xs : List Value) (hown : w.ownsRow base e size v n xs)
 (a : Addr) (m c : Nat) (news : List Value) (hl : news.length = m * size) (hnews : ∀ j u,news[j]? = some u → w.cell? (a.add j) = some u) (h1 : ∀ u ∈ news,u.oneCell' = true) (hm : 0 < m)
 (h63 : n + m ≤ maxLen) (hbytes : (n + m) * bytes ≤ 140737488355328) {v' : Value} {w' : World} (hr : (Builtin.append_ #[t,t] ty #[v,.slice (some a) m c]).run P w = .ok v' w') :
 v'.ownBlock = v.ownBlock ∨ v'.ownBlock = some w.heap.size:=by
 subst hsize
 subst hby
 have hsmall : n + m ≤ 9223372036854775807:=by simp only [maxLen] at h63;omega
 rcases hown.2 with ⟨rfl,rfl⟩ | ⟨g,cap,cur,rfl,_,hg,_,hcm,hcs,_⟩
 · have hr2:=run_append_nil (P:=P) w t ty e i z ht hi hz a m c news hl hnews (by omega) (by omega) (by have hb:=hbytes;simp only [Nat.zero_add] at hb;omega)
   rw [hr2] at hr
   simp only [Result.ok.injEq] at hr
   rw [← hr.1]
   exact .inr rfl
 · by_cases hroom : n + m ≤ cap
   · have hfit : n * i.size + news.length ≤ cur.size:=by rw [hl,hcs,← Nat.add_mul];exact Nat.mul_le_mul_right _ hroom
     have hr2:=run_append_room (P:=P) w t ty e i ht hi g n cap cur hg a m c news hl hnews h1 hroom hfit
     rw [hr2] at hr
     simp only [Result.ok.injEq] at hr
     rw [← hr.1]
     exact .inl rfl
   · have holds : ∀ j u,xs[j]? = some u → w.cell? ((⟨g,0,none⟩ : Addr).add j) = some u:=hown.cells (g:=g) rfl
     have hr2:=run_append_grow (P:=P) w t ty e i z ht hi hz ⟨g,0,none⟩ n cap xs hown.1 holds a m c news hl hnews (by omega) (by omega) (growslice_fits (by omega) hbytes)
     rw [hr2] at hr
     simp only [Result.ok.injEq] at hr
     rw [← hr.1]
     exact .inr rfl
end
theorem wpList_append_new {P : Program} (w : World) {ops : Array Oper} {rest : List Oper} {o : Oper} {a : Act} {Q : Exit → Act → World → Prop} (hgd : o.guard = none) (s x : Operand) (t : TypeId)
 (ho : o.op = .call { callee:=.builtin .append,args:=#[s,x],argTypes:=#[t,t] })
 (base : Nat) (e : TypeId) (i : TypeInfo) (z : Value) (size bytes : Nat) (ht : P.underlying t = some (.slice e)) (hi : P.info? e = some i) (hz : i.zero = some z)
 (hsize : i.size = size) (hby : i.bytes = bytes) (hzs : z.cells.size = size) (hsz : 0 < size)
 (v : Value) (n : Nat) (xs : List Value) (hs : a.eval s = v) (hown : w.ownsRow base e size v n xs)
 (ad : Addr) (m c : Nat) (news : List Value) (hx : a.eval x = .slice (some ad) m c) (hl : news.length = m * size) (hnews : ∀ j u,news[j]? = some u → w.cell? (ad.add j) = some u) (h1 : ∀ u ∈ news,u.oneCell' = true) (hm : 0 < m)
 (h63 : n + m ≤ maxLen) (hbytes : (n + m) * bytes ≤ 140737488355328) (hbase : base ≤ w.heap.size)
 (h : ∀ v' w',w'.ownsRow base e size v' (n + m) (xs ++ news) → w.grownBy w' v.ownBlock → (v'.ownBlock = v.ownBlock ∨ v'.ownBlock = some w.heap.size) → wpList P ops Q rest (a.put o.dst v') w') : wpList P ops Q (o :: rest) a w :=
 wpList_plain hgd fun _ hK => by
  obtain ⟨v',w',hr,h2,h3,_⟩:=run_append_own (P:=P) w base t o.type e i z size bytes ht hi hz hsize hby hzs hsz v n xs hown ad m c news hl hnews h1 h63 hbytes hbase
  have h5:=run_append_at (P:=P) t o.type e i z size bytes ht hi hz hsize hby v n xs hown ad m c news hl hnews h1 hm h63 hbytes hr
  unfold Oper.wp execOp
  simp only [ho,resolve,invoke,builtin,Sem.run_bind,Sem.run_pure,Result.andThen_ok,List.map_toArray,List.map_cons,List.map_nil,hs,hx,hr]
  exact hK _ _ (h v' w' h2 h3 h5)
theorem one_cell1 (v : Value) (h : v.oneCell' = true) : ∀ u ∈ [v],u.oneCell' = true:=fun u hu => by rw [List.mem_singleton.1 hu];exact h
theorem head_new (w : World) (v : Value) (t : TypeId) : ∀ j u,[v][j]? = some u → (w.alloc (.cells #[v] t)).cell? (Addr.add ⟨w.heap.size,0,none⟩ j) = some u:=by
 intro j u hj
 match j,hj with
 | 0,hj => simp at hj;subst hj;simp [Addr.add]
 | j + 1,hj => simp at hj
theorem wp_append_new {P : Program} (w : World) {o : Oper} {a : Act} {K : Act → World → Prop} {Q : Exit → Act → World → Prop} (s x : Operand) (t : TypeId)
 (ho : o.op = .call { callee:=.builtin .append,args:=#[s,x],argTypes:=#[t,t] })
 (base : Nat) (e : TypeId) (i : TypeInfo) (z : Value) (size bytes : Nat) (ht : P.underlying t = some (.slice e)) (hi : P.info? e = some i) (hz : i.zero = some z)
 (hsize : i.size = size) (hby : i.bytes = bytes) (hzs : z.cells.size = size) (hsz : 0 < size)
 (v : Value) (n : Nat) (xs : List Value) (hs : a.eval s = v) (hown : w.ownsRow base e size v n xs)
 (ad : Addr) (m c : Nat) (news : List Value) (hx : a.eval x = .slice (some ad) m c) (hl : news.length = m * size) (hnews : ∀ j u,news[j]? = some u → w.cell? (ad.add j) = some u) (h1 : ∀ u ∈ news,u.oneCell' = true) (hm : 0 < m)
 (h63 : n + m ≤ maxLen) (hbytes : (n + m) * bytes ≤ 140737488355328) (hbase : base ≤ w.heap.size)
 (h : ∀ v' w',w'.ownsRow base e size v' (n + m) (xs ++ news) → w.grownBy w' v.ownBlock → (v'.ownBlock = v.ownBlock ∨ v'.ownBlock = some w.heap.size) → K (a.put o.dst v') w') : o.wp P a w K Q:=by
 obtain ⟨v',w',hr,h2,h3,_⟩:=run_append_own (P:=P) w base t o.type e i z size bytes ht hi hz hsize hby hzs hsz v n xs hown ad m c news hl hnews h1 h63 hbytes hbase
 have h5:=run_append_at (P:=P) t o.type e i z size bytes ht hi hz hsize hby v n xs hown ad m c news hl hnews h1 hm h63 hbytes hr
 unfold Oper.wp execOp
 simp only [ho,resolve,invoke,builtin,Sem.run_bind,Sem.run_pure,Result.andThen_ok,List.map_toArray,List.map_cons,List.map_nil,hs,hx,hr]
 exact h v' w' h2 h3 h5
end Ci
end Go.Proofs.YtioidbebjgeahaaGreatDoor
namespace Go.Proofs.YtioidbebjgeahaaGreatDoor
open Go.RowKit Go.Shelf
namespace Ci
open Nt
theorem infoG : (Tryz.prog.info? 26).map (fun i => (i.zero,i.size,i.bytes)) = some (some (.slice none 0 0),1,24):=by kernel_rfl
theorem infoI : (Tryz.prog.info? 3).map (fun i => (i.zero,i.size,i.bytes)) = some (some (.int .i64 0),1,8):=by kernel_rfl
def adjO (E : List (Nat × Nat)) (k p : Nat) : List Nat:=((E.take k).filter fun x => decide (x.1 = p)).map (·.2)
theorem adjO_succ {E : List (Nat × Nat)} {k : Nat} (h : k < E.length) (p : Nat) : adjO E (k + 1) p = setL (adjO E k) E[k].1 E[k].2 p:=by
 unfold adjO setL
 rw [List.take_succ_eq_append_getElem h,List.filter_append,List.map_append]
 by_cases e : E[k].1 = p
 · rw [if_pos e.symm,List.filter_cons,if_pos (by simpa using e)];rfl
 · rw [if_neg (fun c => e c.symm),List.filter_cons,if_neg (by simpa using e)];simp
theorem mem_adjO {E : List (Nat × Nat)} {p q : Nat} : q ∈ adjO E E.length p ↔ (p,q) ∈ E:=by
 unfold adjO
 rw [List.take_length]
 simp only [List.mem_map,List.mem_filter,decide_eq_true_eq]
 constructor
 · rintro ⟨x,⟨h1,rfl⟩,rfl⟩
   exact h1
 · exact fun h => ⟨(p,q),⟨h,rfl⟩,rfl⟩
set_option maxRecDepth 100000 in
set_option maxHeartbeats 16000000 in
theorem of_any (s : SR) (Ap Ac Av : Option Addr) (cp cc cv : Nat) (w : World) (hs : StIn w s Ap Ac Av) (hn : s.ps.length ≤ 100) (hc3 : s.cap.length ≤ 300) (hin : ∀ x,x ∈ s.cap → (0 ≤ x.1 ∧ x.1 < s.ps.length) ∧ (0 ≤ x.2.1 ∧ x.2.1 < s.ps.length)) :
 Calls Tryz.prog 66 #[.agg #[.slice Ap s.ps.length cp,.slice Ac s.cap.length cc,.slice Av s.vot.length cv]] w fun e w' => (∃ R v,e = .returned (.slice (some ⟨R,0,none⟩) s.ps.length s.ps.length) ∧ Gr w' w.heap.size R s.ps.length v (adjO (edges s) (edges s).length)) ∧ Below w.heap.size w w':=by
 have hmk:=run_make_row' (P:=Tryz.prog) 84 26 (.slice none 0 0) 24 Tryz.underlying84 infoG rfl .i64 .i64 s.ps.length (by omega) (by omega)
 have hX0 : Hid (Bk (w.alloc (.cells #[.slice Ap s.ps.length cp,.slice Ac s.cap.length cc,.slice Av s.vot.length cv] 25)) w.heap.size 25 (SC s Ap Ac Av cp cc cv)):=Bk.new w _ _
 have hB0 : Hid (Below w.heap.size w (w.alloc (.cells #[.slice Ap s.ps.length cp,.slice Ac s.cap.length cc,.slice Av s.vot.length cv] 25))):=(Below.refl _ w).alloc (Nat.le_refl _) _
 have u0:=hX0.out.cell (j:=0) rfl
 have u1:=hX0.out.cell (j:=1) rfl
 have u9:=hX0.out.lt
 have hG0 : Hid (Gr ((w.alloc (.cells #[.slice Ap s.ps.length cp,.slice Ac s.cap.length cc,.slice Av s.vot.length cv] 25)).alloc (.cells (madeCells #[(.slice none 0 0 : Value)] s.ps.length) 26)) w.heap.size (w.heap.size + 1) s.ps.length (fun _ => .slice none 0 0) (adjO (edges s) 0)):=by
  have h:=Gr.start (w.alloc (.cells #[.slice Ap s.ps.length cp,.slice Ac s.cap.length cc,.slice Av s.vot.length cv] 25)) (B:=w.heap.size) (by simp) s.ps.length 26
  rw [World.size_alloc] at h
  exact h.congr fun i _ => rfl
 have hB1 : Hid (Below w.heap.size w ((w.alloc (.cells #[.slice Ap s.ps.length cp,.slice Ac s.cap.length cc,.slice Av s.vot.length cv] 25)).alloc (.cells (madeCells #[(.slice none 0 0 : Value)] s.ps.length) 26))):=hB0.out.alloc hB0.out.size _
 have hX1:=Lib.hid (hX0.out.alloc (.cells (madeCells #[(.slice none 0 0 : Value)] s.ps.length) 26))
 have v1:=hX1.out.cell (j:=1) rfl
 have v9:=hX1.out.lt
 obtain ⟨i0,hi0,hzz⟩:=Option.map_eq_some_iff.1 infoI
 simp only [Prod.mk.injEq] at hzz
 obtain ⟨hz0,hz1,hz2⟩:=hzz
 replace hi0:=Lib.hid hi0
 replace hz0:=Lib.hid hz0
 replace hz1:=Lib.hid hz1
 replace hz2:=Lib.hid hz2
 have hel : Hid ((edges s).length = s.cap.length):=by unfold Hid edges;simp
 have hap : Hid (∀ k p,(adjO (edges s) k p).length ≤ 300):=fun k p => by
  unfold adjO
  rw [List.length_map]
  have h1:=List.length_filter_le (fun x : Nat × Nat => decide (x.1 = p)) ((edges s).take k)
  have h2 : ((edges s).take k).length ≤ (edges s).length:=List.length_take_le' _ _
  have:=hel.out
  omega
 replace hs:=Lib.hid hs
 replace hin:=Lib.hid hin
 go_enter Tryz.func66,Tryz.ntmps66
 go_wp2
 clear hmk u0 u1 u9 v1 v9
 go_loopw [13] (fun i wr => ∃ (k : Nat) (v : Nat → Value),k ≤ s.cap.length ∧ i = .int .i64 (k : Int) ∧ Hid (Below w.heap.size w wr) ∧ Hid (Gr wr w.heap.size (w.heap.size + 1) s.ps.length v (adjO (edges s) k))) (fun i _ => s.cap.length - (intOf i).toNat)
 case atStart => exact ⟨0,_,Nat.zero_le _,rfl,hB1,hG0⟩
 case round =>
  obtain ⟨k,v,hk,rfl,hB,hG⟩:=hrel
  clear hX0 hB0 hG0 hB1 hX1
  by_cases hlt : k < s.cap.length
  · obtain ⟨b,o,rfl,hbl,hcc⟩:=(hs.out.below hB.out).cap (by omega)
    obtain ⟨e1,e2,e3,e4,e5⟩:=hcc k hlt
    have hix:=hin.out s.cap[k] (List.getElem_mem hlt)
    have hek : Hid (∀ p,adjO (edges s) (k + 1) p = setL (adjO (edges s) k) s.cap[k].2.1.toNat s.cap[k].1.toNat p):=fun p => by
     have h:=adjO_succ (E:=edges s) (k:=k) (by rw [hel.out];exact hlt) p
     have h2 : (edges s)[k]'(by rw [hel.out];exact hlt) = (s.cap[k].2.1.toNat,s.cap[k].1.toNat):=by unfold edges;simp
     rw [h2] at h
     exact h
    obtain ⟨x,hx⟩ : ∃ x,x = s.cap[k]:=⟨_,rfl⟩
    rw [← hx] at e1 e2 e3 e4 e5 hix hek
    obtain ⟨coI,hoI,g,nn,dd⟩:=x
    obtain ⟨⟨i1,i2⟩,i3,i4⟩:=hix
    replace i1 : 0 ≤ coI:=i1
    replace i2 : coI < s.ps.length:=i2
    replace i3 : 0 ≤ hoI:=i3
    replace i4 : hoI < s.ps.length:=i4
    obtain ⟨co,rfl⟩ : ∃ c : Nat,coI = (c : Int):=⟨coI.toNat,by omega⟩
    obtain ⟨ho,rfl⟩ : ∃ c : Nat,hoI = (c : Int):=⟨hoI.toNat,by omega⟩
    replace e1 : wr.cell? ⟨b,o + k * 5,none⟩ = some (.int .i64 (co : Int)):=e1
    replace e2 : wr.cell? ⟨b,o + k * 5 + 1,none⟩ = some (.int .i64 (ho : Int)):=e2
    replace e3 : wr.cell? ⟨b,o + k * 5 + 2,none⟩ = some (.bool g):=e3
    replace e4 : wr.cell? ⟨b,o + k * 5 + 3,none⟩ = some (.string nn):=e4
    replace e5 : wr.cell? ⟨b,o + k * 5 + 4,none⟩ = some (.string dd):=e5
    replace hek : Hid (∀ p,adjO (edges s) (k + 1) p = setL (adjO (edges s) k) ho co p):=fun p => by have h:=hek.out p;simpa using h
    replace hx:=Lib.hid hx
    have j0 : (0 : Int) ≤ (k : Int):=by omega
    have j1 : (k : Int) < (s.cap.length : Int):=by omega
    have hho : ho < s.ps.length:=by omega
    have hx1 : Hid (Bk (wr.alloc (.cells #[.int .i64 (co : Int),.int .i64 (ho : Int),.bool g,.string nn,.string dd] 42)) wr.heap.size 42 [.int .i64 (co : Int),.int .i64 (ho : Int),.bool g,.string nn,.string dd]):=Bk.new wr _ _
    have hBw:=Lib.hid (hB.out.alloc hB.out.size (.cells #[.int .i64 (co : Int),.int .i64 (ho : Int),.bool g,.string nn,.string dd] 42))
    have hGw:=Lib.hid (hG.out.alloc (.cells #[.int .i64 (co : Int),.int .i64 (ho : Int),.bool g,.string nn,.string dd] 42))
    have hxw : w.heap.size + 1 < wr.heap.size:=hG.out.lt
    clear hcc
    go_wp2_with fail
    obtain ⟨W1,hW1⟩ : ∃ W,W = wr.alloc (.cells #[.int .i64 (co : Int),.int .i64 (ho : Int),.bool g,.string nn,.string dd] 42):=⟨_,rfl⟩
    rw [← hW1] at hx1 hBw hGw ⊢
    obtain ⟨xb,hxb⟩ : ∃ b,b = wr.heap.size:=⟨_,rfl⟩
    rw [← hxb] at hx1 hxw ⊢
    obtain ⟨vh,hvh⟩ : ∃ x,x = v ho:=⟨_,rfl⟩
    have hhd:=hGw.out.hd ho hho
    have hrow:=Lib.hid (hGw.out.rows ho hho)
    rw [← hvh] at hhd hrow
    have hnx : Hid (vh.ownBlock ≠ some xb):=fun e => by
     have h1:=(hG.out.rows ho hho).lt xb (by rw [← hvh];exact e)
     omega
    have hnR : Hid (vh.ownBlock ≠ some (w.heap.size + 1)):=by rw [hvh];exact hG.out.ne ho hho
    replace hvh:=Lib.hid hvh
    clear hxb
    clear hW1 hB hG e1 e2 e3 e4 e5 hbl
    have hlR:=hGw.out.lt
    have hlx:=hx1.out.lt
    have HO : Hid (∀ W,Below W1.heap.size W1 W → W.cell? ⟨xb,0,none⟩ = some (.int .i64 (co : Int)) ∧ W.cell? ⟨xb,1,none⟩ = some (.int .i64 (ho : Int))):=fun W h =>
     ⟨(hx1.out.below h).cell (j:=0) rfl,(hx1.out.below h).cell (j:=1) rfl⟩
    have hal:=hap.out k ho
    have q0 : (0 : Int) ≤ (ho : Int):=by omega
    have q1 : (ho : Int) < (s.ps.length : Int):=by omega
    refine wp_region_noPanic ?_
    refine wp_region_held_drew (S:=fun W => W.cell? ⟨xb,0,none⟩ = some (.int .i64 (co : Int)) ∧ W.cell? ⟨xb,1,none⟩ = some (.int .i64 (ho : Int))) (by kernel_rfl) (HO.out _ (Below.refl _ _).drew) (fun hS0 => ?_)
    replace hS0:=Lib.hid hS0
    refine wpAnyH_take (i:=0) (oi:=_) (v:=?_) rfl (by kernel_rfl) (by kernel_rfl) (by kernel_rfl) (fun _ _ _ h => h) (Or.inl ⟨by rfl,?_⟩) (hS0.out) ?_
    rotate_left
    · (intro w hSw;obtain ⟨q1,q2⟩:=hSw;go_simp <;> with_reducible rfl)
    try simp only [Act.put,List.setIfInBounds_toArray]
    refine wpAnyH_take (i:=1) (oi:=_) (v:=?_) rfl (by kernel_rfl) (by kernel_rfl) (by kernel_rfl) (fun _ _ _ h => h) (Or.inl ⟨by rfl,?_⟩) (hS0.out) ?_
    rotate_left
    · (intro w hSw;obtain ⟨q1,q2⟩:=hSw;go_simp <;> with_reducible rfl)
    try simp only [Act.put]
    refine wpAnyH_take (i:=2) (oi:=_) (v:=?_) rfl (by kernel_rfl) (by kernel_rfl) (by kernel_rfl) (fun _ _ _ h => h) (Or.inl ⟨by rfl,?_⟩) (hS0.out) ?_
    rotate_left
    · (intro w hSw;obtain ⟨q1,q2⟩:=hSw;go_simp <;> with_reducible rfl)
    try simp only [Act.put]
    refine wpAnyH_take (i:=3) (oi:=_) (v:=?_) rfl (by kernel_rfl) (by kernel_rfl) (by kernel_rfl) (fun _ _ _ h => h) (Or.inl ⟨by rfl,?_⟩) (hS0.out) ?_
    rotate_left
    · (intro w hSw;obtain ⟨q1,q2⟩:=hSw;go_simp <;> with_reducible rfl)
    try simp only [Act.put]
    refine wpAnyH_take (i:=4) (oi:=_) (v:=?_) rfl (by kernel_rfl) (by kernel_rfl) (by kernel_rfl) (fun _ _ _ h => h) (Or.inl ⟨by rfl,?_⟩) (hS0.out) ?_
    rotate_left
    · (intro w hSw;obtain ⟨q1,q2⟩:=hSw;go_simp <;> with_reducible rfl)
    try simp only [Act.put]
    refine wpAnyH_take (i:=5) (oi:=_) (v:=?_) rfl (by kernel_rfl) (by kernel_rfl) (by kernel_rfl) (fun _ _ _ h => h) (Or.inl ⟨by rfl,?_⟩) (hS0.out) ?_
    rotate_left
    · (intro w hSw;obtain ⟨q1,q2⟩:=hSw;go_simp <;> with_reducible rfl)
    try simp only [Act.put]
    refine wpAnyH_take (i:=6) (oi:=_) (v:=?_) rfl (by kernel_rfl) (by kernel_rfl) (by kernel_rfl) (fun _ _ _ h => h) (Or.inl ⟨by rfl,?_⟩) (hS0.out) ?_
    rotate_left
    · (intro w hSw;obtain ⟨q1,q2⟩:=hSw;go_simp <;> with_reducible rfl)
    try simp only [Act.put]
    refine wpAnyH_take (i:=8) (oi:=_) (v:=?_) rfl (by kernel_rfl) (by kernel_rfl) (by kernel_rfl) (fun _ _ _ h => h) (Or.inl ⟨by rfl,?_⟩) (hS0.out) ?_
    rotate_left
    · (intro w hSw;obtain ⟨q1,q2⟩:=hSw;go_simp <;> with_reducible rfl)
    try simp only [Act.put]
    refine wpAnyH_take (i:=9) (oi:=_) (v:=?_) rfl (by kernel_rfl) (by kernel_rfl) (by kernel_rfl) (fun _ _ _ h => h) (Or.inl ⟨by rfl,?_⟩) (hS0.out) ?_
    rotate_left
    · (intro w hSw;obtain ⟨q1,q2⟩:=hSw;go_simp <;> with_reducible rfl)
    try simp only [Act.put]
    have hBe : Hid (Below W1.heap.size W1 W1.drew):=(Below.refl _ W1).drew
    have hB3 : Hid (Below W1.heap.size W1 (W1.alloc (.cells #[.int .i64 (co : Int)] 3)).drew):=((Below.refl _ W1).alloc (Nat.le_refl _) _).drew
    refine wpAnyH_ready (rs:=[7,10]) (by kernel_rfl) (by simp) ?_
    refine AllReadyH.cons (o:=_) rfl (fun K hK => ?_) ?_
    · have hh:=(hBe.out.cell (p:=⟨w.heap.size + 1,ho,none⟩) hlR).trans hhd
      go_simp
      clear hh
      refine hK.out _ _ (HO.out _ hBe.out) (fun _ => ?_)
      clear hK K
      try simp only [Act.put,List.setIfInBounds_toArray,List.set_cons_zero,List.set_cons_succ]
      refine wpAnyH_ready (rs:=[10]) (by kernel_rfl) (by simp) ?_
      refine AllReadyH.cons (o:=_) rfl (fun K hK => ?_) ?_
      · go_simp
        refine hK.out _ _ (HO.out _ hB3.out) (fun _ => ?_)
        clear hK K
        try simp only [Act.put,List.setIfInBounds_toArray,List.set_cons_zero,List.set_cons_succ]
        refine wpAnyH_ready (rs:=[11]) (by kernel_rfl) (by simp) ?_
        refine AllReadyH.cons (o:=_) rfl (fun K hK => ?_) ?_
        · rw [if_pos (by rfl)]
          refine wp_append_new _ _ _ 26 rfl w.heap.size 3 i0 (.int .i64 0) 1 8 Tryz.underlying26 hi0.out hz0.out hz1.out hz2.out rfl (by decide) vh (adjO (edges s) k ho).length (intsL (adjO (edges s) k ho)) rfl (own_below' hrow.out hB3.out) ⟨W1.heap.size,0,none⟩ 1 1 [.int .i64 (co : Int)] rfl rfl (head_new W1 _ _) (one_cell1 _ rfl) (by omega) (by unfold maxLen;omega) (by omega) (hBw.out.trans (hB3.out.mono hBw.out.size)).size ?_
          intro vb wb hob hgb hnb
          have hx4 : Hid (Bk wb xb 42 [.int .i64 (co : Int),.int .i64 (ho : Int),.bool g,.string nn,.string dd]):=(hx1.out.below hB3.out).grown hgb (fun e => hnx.out e.symm)
          have hB2:=Lib.hid (hBw.out.trans (hB3.out.mono hBw.out.size))
          have hB4 : Hid (Below w.heap.size w wb):=hB2.out.grown hgb hB2.out.size (fun b e => (hrow.out.lt b e).1)
          have hG9 : Hid (Gr (wb.setCell ⟨w.heap.size + 1,ho,none⟩ vb) w.heap.size (w.heap.size + 1) s.ps.length (fun i => if i = ho then vb else v i) (adjO (edges s) (k + 1))):=by
           have h:=((hGw.out.alloc (.cells #[.int .i64 (co : Int)] 3)).drew).step (q:=co) hho (u:=vb) (W':=wb) (by rw [← hvh.out];exact hgb) hob (by rw [← hvh.out];exact hnb)
           exact h.congr fun i _ => (hek.out i).symm
          have hB9 : Hid (Below w.heap.size w (wb.setCell ⟨w.heap.size + 1,ho,none⟩ vb)):=hB4.out.setCell (p:=⟨w.heap.size + 1,ho,none⟩) (Nat.le_succ _) _
          have hbk:=hgb.block (w.heap.size + 1) (Nat.lt_of_lt_of_le hlR hB3.out.size) (fun e => hnR.out e.symm)
          have y1:=(World.cell?_of_block (a:=⟨w.heap.size + 1,ho,none⟩) hbk).trans ((hB3.out.cell (p:=⟨w.heap.size + 1,ho,none⟩) hlR).trans hhd)
          have y2:=(World.frozen?_of_block (a:=⟨w.heap.size + 1,ho,none⟩) hbk).trans ((hB3.out.frozen (p:=⟨w.heap.size + 1,ho,none⟩) hlR).trans (hGw.out.fr ho))
          have y3 : w.heap.size + 1 < wb.heap.size:=Nat.lt_of_lt_of_le (Nat.lt_of_lt_of_le hlR hB3.out.size) hgb.size
          rcases hob.2 with ⟨_,hnil⟩ | ⟨g9,cap9,cur9,rfl,_⟩
          · exact absurd hnil (by omega)
          clear hob hgb hnb hek hB3 hbk hB2
          refine hK.out _ _ ⟨hx4.out.cell (j:=0) rfl,hx4.out.cell (j:=1) rfl⟩ (fun _ => ?_)
          clear hK K
          try simp only [Act.put,List.setIfInBounds_toArray]
          refine wpAnyH_take (i:=12) (oi:=_) (v:=?_) rfl (by kernel_rfl) (by kernel_rfl) (by kernel_rfl) (fun _ _ _ h => h) (Or.inl ⟨by rfl,?_⟩) (⟨hx4.out.cell (j:=0) rfl,hx4.out.cell (j:=1) rfl⟩) ?_
          rotate_left
          · (intro w hSw;obtain ⟨q1,q2⟩:=hSw;go_simp <;> with_reducible rfl)
          try simp only [Act.put]
          refine wpAnyH_ready (rs:=[13]) (by kernel_rfl) (by simp) ?_
          refine AllReadyH.cons (o:=_) rfl (fun K hK => ?_) ?_
          · go_simp
            refine hK.out _ _ ⟨(hx4.out.far (p:=⟨w.heap.size + 1,ho,none⟩) (Nat.ne_of_gt hxw) _).cell (j:=0) rfl,(hx4.out.far (p:=⟨w.heap.size + 1,ho,none⟩) (Nat.ne_of_gt hxw) _).cell (j:=1) rfl⟩ (fun _ => ?_)
            clear hK K
            try simp only [Act.put,List.setIfInBounds_toArray,List.set_cons_zero,List.set_cons_succ]
            refine wpAnyH_done (by kernel_rfl) ?_ _
            refine NoPanic.normal ?_
            clear y1 y2 y3 HO hal
            go_wp2
            go_roundw
            case rel => exact ⟨k + 1,_,by omega,by go_num,hB9,hG9⟩
            case measure => simp [intOf];omega
          exact AllReadyH.nil
        exact AllReadyH.nil
      exact AllReadyH.nil
    refine AllReadyH.cons (o:=_) rfl (fun K hK => ?_) ?_
    · go_simp
      refine hK.out _ _ (HO.out _ hB3.out) (fun _ => ?_)
      clear hK K
      try simp only [Act.put,List.setIfInBounds_toArray,List.set_cons_zero,List.set_cons_succ]
      refine wpAnyH_ready (rs:=[7]) (by kernel_rfl) (by simp) ?_
      refine AllReadyH.cons (o:=_) rfl (fun K hK => ?_) ?_
      · have hh:=(hB3.out.cell (p:=⟨w.heap.size + 1,ho,none⟩) hlR).trans hhd
        go_simp
        clear hh
        refine hK.out _ _ (HO.out _ hB3.out) (fun _ => ?_)
        clear hK K
        try simp only [Act.put,List.setIfInBounds_toArray,List.set_cons_zero,List.set_cons_succ]
        refine wpAnyH_ready (rs:=[11]) (by kernel_rfl) (by simp) ?_
        refine AllReadyH.cons (o:=_) rfl (fun K hK => ?_) ?_
        · rw [if_pos (by rfl)]
          refine wp_append_new _ _ _ 26 rfl w.heap.size 3 i0 (.int .i64 0) 1 8 Tryz.underlying26 hi0.out hz0.out hz1.out hz2.out rfl (by decide) vh (adjO (edges s) k ho).length (intsL (adjO (edges s) k ho)) rfl (own_below' hrow.out hB3.out) ⟨W1.heap.size,0,none⟩ 1 1 [.int .i64 (co : Int)] rfl rfl (head_new W1 _ _) (one_cell1 _ rfl) (by omega) (by unfold maxLen;omega) (by omega) (hBw.out.trans (hB3.out.mono hBw.out.size)).size ?_
          intro vb wb hob hgb hnb
          have hx4 : Hid (Bk wb xb 42 [.int .i64 (co : Int),.int .i64 (ho : Int),.bool g,.string nn,.string dd]):=(hx1.out.below hB3.out).grown hgb (fun e => hnx.out e.symm)
          have hB2:=Lib.hid (hBw.out.trans (hB3.out.mono hBw.out.size))
          have hB4 : Hid (Below w.heap.size w wb):=hB2.out.grown hgb hB2.out.size (fun b e => (hrow.out.lt b e).1)
          have hG9 : Hid (Gr (wb.setCell ⟨w.heap.size + 1,ho,none⟩ vb) w.heap.size (w.heap.size + 1) s.ps.length (fun i => if i = ho then vb else v i) (adjO (edges s) (k + 1))):=by
           have h:=((hGw.out.alloc (.cells #[.int .i64 (co : Int)] 3)).drew).step (q:=co) hho (u:=vb) (W':=wb) (by rw [← hvh.out];exact hgb) hob (by rw [← hvh.out];exact hnb)
           exact h.congr fun i _ => (hek.out i).symm
          have hB9 : Hid (Below w.heap.size w (wb.setCell ⟨w.heap.size + 1,ho,none⟩ vb)):=hB4.out.setCell (p:=⟨w.heap.size + 1,ho,none⟩) (Nat.le_succ _) _
          have hbk:=hgb.block (w.heap.size + 1) (Nat.lt_of_lt_of_le hlR hB3.out.size) (fun e => hnR.out e.symm)
          have y1:=(World.cell?_of_block (a:=⟨w.heap.size + 1,ho,none⟩) hbk).trans ((hB3.out.cell (p:=⟨w.heap.size + 1,ho,none⟩) hlR).trans hhd)
          have y2:=(World.frozen?_of_block (a:=⟨w.heap.size + 1,ho,none⟩) hbk).trans ((hB3.out.frozen (p:=⟨w.heap.size + 1,ho,none⟩) hlR).trans (hGw.out.fr ho))
          have y3 : w.heap.size + 1 < wb.heap.size:=Nat.lt_of_lt_of_le (Nat.lt_of_lt_of_le hlR hB3.out.size) hgb.size
          rcases hob.2 with ⟨_,hnil⟩ | ⟨g9,cap9,cur9,rfl,_⟩
          · exact absurd hnil (by omega)
          clear hob hgb hnb hek hB3 hbk hB2
          refine hK.out _ _ ⟨hx4.out.cell (j:=0) rfl,hx4.out.cell (j:=1) rfl⟩ (fun _ => ?_)
          clear hK K
          try simp only [Act.put,List.setIfInBounds_toArray]
          refine wpAnyH_take (i:=12) (oi:=_) (v:=?_) rfl (by kernel_rfl) (by kernel_rfl) (by kernel_rfl) (fun _ _ _ h => h) (Or.inl ⟨by rfl,?_⟩) (⟨hx4.out.cell (j:=0) rfl,hx4.out.cell (j:=1) rfl⟩) ?_
          rotate_left
          · (intro w hSw;obtain ⟨q1,q2⟩:=hSw;go_simp <;> with_reducible rfl)
          try simp only [Act.put]
          refine wpAnyH_ready (rs:=[13]) (by kernel_rfl) (by simp) ?_
          refine AllReadyH.cons (o:=_) rfl (fun K hK => ?_) ?_
          · go_simp
            refine hK.out _ _ ⟨(hx4.out.far (p:=⟨w.heap.size + 1,ho,none⟩) (Nat.ne_of_gt hxw) _).cell (j:=0) rfl,(hx4.out.far (p:=⟨w.heap.size + 1,ho,none⟩) (Nat.ne_of_gt hxw) _).cell (j:=1) rfl⟩ (fun _ => ?_)
            clear hK K
            try simp only [Act.put,List.setIfInBounds_toArray,List.set_cons_zero,List.set_cons_succ]
            refine wpAnyH_done (by kernel_rfl) ?_ _
            refine NoPanic.normal ?_
            clear y1 y2 y3 HO hal
            go_wp2
            go_roundw
            case rel => exact ⟨k + 1,_,by omega,by go_num,hB9,hG9⟩
            case measure => simp [intOf];omega
          exact AllReadyH.nil
        exact AllReadyH.nil
      exact AllReadyH.nil
    exact AllReadyH.nil
  · obtain rfl : k = s.cap.length:=by omega
    have hG2 : Hid (Gr wr w.heap.size (w.heap.size + 1) s.ps.length v (adjO (edges s) (edges s).length)):=by rw [hel.out];exact hG.out
    go_wp2
    go_ret
    exact ⟨⟨_,v,rfl,hG2.out⟩,hB.out⟩
end Ci
end Go.Proofs.YtioidbebjgeahaaGreatDoor
namespace Go.Proofs.YtioidbebjgeahaaGreatDoor
open Go.RowKit Go.Shelf
namespace Ci
open Nt
open Classical
theorem Gr.grown {W W' : World} {B R n mb : Nat} {v : Nat → Value} {adj : Nat → List Nat} (h : Gr W B R n v adj) (hg : W.grownBy W' (some mb)) (hR : R ≠ mb) (hv : ∀ i,i < n → (v i).ownBlock ≠ some mb) : Gr W' B R n v adj:=by
 have hb : W'.heap[R]? = W.heap[R]?:=hg.block R h.lt fun e => hR (Option.some.inj e)
 exact ⟨Nat.lt_of_lt_of_le h.lt hg.size,fun i hi => (World.cell?_of_block (a:=⟨R,i,none⟩) hb).trans (h.hd i hi),fun i => (World.frozen?_of_block (a:=⟨R,i,none⟩) hb).trans (h.fr i),fun i hi => (h.rows i hi).kept hg (by
  cases hu : (v i).ownBlock with
  | none => exact .inl rfl
  | some b => exact .inr fun e => hv i hi (hu.trans e)),h.apart,h.ne,h.lowR⟩
noncomputable def bV (P : Prop) : Bool:=@decide P (propDecidable P)
theorem bV_true {P : Prop} (h : P) : bV P = true:=@decide_eq_true P (propDecidable P) h
theorem bV_false {P : Prop} (h : ¬ P) : bV P = false:=@decide_eq_false P (propDecidable P) h
theorem of_bV {P : Prop} (h : bV P = true) : P:=@of_decide_eq_true P (propDecidable P) h
noncomputable def unv (n : Nat) (V : Nat → Prop) : Nat:=((List.range n).filter fun x => bV (¬ V x)).length
theorem unv_less {n p : Nat} {V : Nat → Prop} (hp : p < n) (h : ¬ V p) : unv n (fun x => V x ∨ x = p) + 1 ≤ unv n V :=
 filter_lt (fun _ _ hx => bV_true fun c => (of_bV hx) (.inl c)) ⟨p,List.mem_range.2 hp,bV_false fun c => c (.inr rfl),bV_true h⟩
theorem unv_mono {n : Nat} {V V' : Nat → Prop} (h : ∀ x,V x → V' x) : unv n V' ≤ unv n V:=by
 unfold unv
 have : ∀ l : List Nat,(l.filter fun x => bV (¬ V' x)).length ≤ (l.filter fun x => bV (¬ V x)).length:=by
  intro l
  induction l with
  | nil => exact Nat.le_refl _
  | cons a l ih =>
    rw [List.filter_cons,List.filter_cons]
    by_cases h1 : V a
    · rw [bV_false (fun c => c (h a h1)),bV_false (fun c => c h1)]
      exact ih
    · rw [bV_true h1]
      cases bV (¬ V' a)
      · simp only [Bool.false_eq_true,if_false,if_true,List.length_cons]
        omega
      · simp only [if_true,List.length_cons]
        omega
 exact this _
def VisM (w : World) (n mb : Nat) (V : Nat → Prop) : Prop:=∃ c f,MapK Tryz.prog 3 κi w mb c f ∧ c + unv n V ≤ n ∧ ∀ x : Nat,x < n → f (x : Int) = if V x then some (.bool true) else none
structure VEnv (w : World) (ob gb vb R n mb B : Nat) (v : Nat → Value) (adj : Nat → List Nat) : Prop where
 o : Bk w ob 112 [.map (some mb)]
 g : Bk w gb 84 [.slice (some ⟨R,0,none⟩) n n]
 f : Bk w vb 143 [.func (.func 143) #[] #[.pointer (some ⟨ob,0,none⟩),.pointer (some ⟨gb,0,none⟩),.pointer (some ⟨vb,0,none⟩)]]
 gr : Gr w B R n v adj
 n1 : ob ≠ mb
 n2 : gb ≠ mb
 n3 : vb ≠ mb
 n4 : R ≠ mb
 n5 : ∀ i,i < n → (v i).ownBlock ≠ some mb
theorem VEnv.grown {w w' : World} {ob gb vb R n mb B : Nat} {v : Nat → Value} {adj : Nat → List Nat} (h : VEnv w ob gb vb R n mb B v adj) (hg : w.grownBy w' (some mb)) : VEnv w' ob gb vb R n mb B v adj :=
 ⟨h.o.grown hg fun e => h.n1 (Option.some.inj e),h.g.grown hg fun e => h.n2 (Option.some.inj e),h.f.grown hg fun e => h.n3 (Option.some.inj e),h.gr.grown hg h.n4 h.n5,h.n1,h.n2,h.n3,h.n4,h.n5⟩
theorem zeroB (w : World) : (zeroValue 4).run Tryz.prog w = .ok (.bool false) w:=by kernel_rfl
def VPost (E : List (Nat × Nat)) (n mb p : Nat) (V : Nat → Prop) (w : World) (e : Ending) (w' : World) : Prop:=e = .returned (.tuple #[]) ∧ w.grownBy w' (some mb) ∧ ∃ V',VisM w' n mb V' ∧ Vis E p V V'
set_option maxRecDepth 100000 in
set_option maxHeartbeats 4000000 in
theorem visit_had (E : List (Nat × Nat)) (ob gb vb R n mb B : Nat) (v : Nat → Value) (adj : Nat → List Nat) (hn : n ≤ 1000) (p : Nat) (V : Nat → Prop) (w : World) (hp : p < n) (hv : VEnv w ob gb vb R n mb B v adj) (hm : VisM w n mb V) (hV : V p) :
 Calls Tryz.prog 143 #[.int .i64 (p : Int),.pointer (some ⟨ob,0,none⟩),.pointer (some ⟨gb,0,none⟩),.pointer (some ⟨vb,0,none⟩)] w (VPost E n mb p V w):=by
 have hP : Hid (∀ e,e = .returned (.tuple #[]) → VPost E n mb p V w e w):=fun e he => ⟨he,World.grownBy.refl _ _,V,hm,Vis.had hV⟩
 obtain ⟨c,f,hM,_,hf⟩:=hm
 have hlook:=hM.look keyI Tryz.underlying112 (zeroB w) (key_i Tryz.underlying3 (a:=(p : Int)) (by omega) (by omega))
 rw [hf p hp,if_pos hV] at hlook
 replace hlook : (Instr.lookup 112 (.map (some mb)) (.int .i64 (p : Int)) false).run Tryz.prog w = .ok (.bool true) w:=hlook
 have c1:=hv.o.cell (j:=0) rfl
 have c2:=hv.o.lt
 clear hM hf hv hV
 go_enter Tryz.func143,Tryz.ntmps143
 go_wp2
 go_end0
 exact hP.out _ rfl
set_option maxRecDepth 100000 in
set_option maxHeartbeats 4000000 in
theorem visit_any (E : List (Nat × Nat)) (ob gb vb R n mb B : Nat) (v : Nat → Value) (adj : Nat → List Nat) (hn : n ≤ 1000) (hE : ∀ p q,p < n → (q ∈ adj p ↔ (p,q) ∈ E)) (hIn : InN n E) (hlen : ∀ p,p < n → (adj p).length ≤ 10000000) :
 ∀ (N p : Nat) (V : Nat → Prop) (w : World),p < n → VEnv w ob gb vb R n mb B v adj → VisM w n mb V → unv n V ≤ N →
  Calls Tryz.prog 143 #[.int .i64 (p : Int),.pointer (some ⟨ob,0,none⟩),.pointer (some ⟨gb,0,none⟩),.pointer (some ⟨vb,0,none⟩)] w (VPost E n mb p V w):=by
 intro N
 induction N with
 | zero =>
   intro p V w hp hv hm hN
   exact visit_had E ob gb vb R n mb B v adj hn p V w hp hv hm (Classical.byContradiction fun c => by have:=unv_less hp c;omega)
 | succ N ih =>
   intro p V w hp hv hm hN
   by_cases hV : V p
   · exact visit_had E ob gb vb R n mb B v adj hn p V w hp hv hm hV
   · have hu1:=unv_less hp hV
     have hVL : Hid (VisL E p [] V fun x => V x ∨ x = p):=VisL.start E p V
     obtain ⟨c,f,hM,hcn,hf⟩:=hm
     have hk1:=key_i Tryz.underlying3 (a:=(p : Int)) (by omega) (by omega)
     have hlook:=hM.look keyI Tryz.underlying112 (zeroB w) hk1
     rw [hf p hp,if_neg hV] at hlook
     replace hlook : (Instr.lookup 112 (.map (some mb)) (.int .i64 (p : Int)) false).run Tryz.prog w = .ok (.bool false) w:=hlook
     obtain ⟨w1,hrun,hM1,hg1⟩:=hM.put κi_inj keyI Tryz.underlying112 (by unfold maxLen;omega) hk1 (.bool true)
     have hV1 : Hid (VisM w1 n mb fun x => V x ∨ x = p):=by
      refine ⟨_,_,hM1,?_,fun x hx => ?_⟩
      · rw [hf p hp,if_neg hV]
        show c + 1 + _ ≤ n
        omega
      · by_cases e : x = p
        · subst e
          rw [putF_same,if_pos (.inr rfl)]
        · rw [putF_other (fun h => e (by omega)),hf x hx]
          by_cases h2 : V x
          · rw [if_pos h2,if_pos (.inl h2)]
          · rw [if_neg h2,if_neg fun h => h.elim h2 e]
     have hv1:=Lib.hid (hv.grown hg1)
     have hg1':=Lib.hid hg1
     have hN1 : unv n (fun x => V x ∨ x = p) ≤ N:=by omega
     have c1:=hv.o.cell (j:=0) rfl
     have c2:=hv.o.lt
     have d1:=hv1.out.o.cell (j:=0) rfl
     have d2:=hv1.out.g.cell (j:=0) rfl
     have d3:=hv1.out.gr.hd p hp
     have d4:=hv1.out.gr.lt
     have hrow:=hv.gr.rows p hp
     have hvE:=Lib.hid hv
     have hgm : Hid ((v p).ownBlock ≠ some mb):=hv.n5 p hp
     have hlp:=hlen p hp
     have p0 : (0 : Int) ≤ (p : Int):=by omega
     have p1 : (p : Int) < (n : Int):=by omega
     have ihH:=Lib.hid ih
     have hall : Hid (∀ q,(p,q) ∈ E → q ∈ adj p):=fun q h => (hE p q hp).2 h
     have hmem : Hid (∀ q,q ∈ adj p → (p,q) ∈ E ∧ q < n):=fun q h => ⟨(hE p q hp).1 h,(hIn _ ((hE p q hp).1 h)).2⟩
     clear hM hM1 hf hg1 hk1 ih hlen
     rcases own_ints hrow with ⟨hnil,hadj⟩ | ⟨g,cap,hsl,_,hgl,_,hcells⟩
     · rw [hnil] at d3
       have hP : Hid (∀ e,e = .returned (.tuple #[]) → VPost E n mb p V w e w1):=fun e he => ⟨he,hg1'.out,_,hV1.out,hVL.out.end fun q h => by have:=hall.out q h;rw [hadj] at this;exact this⟩
       clear hrow hnil hadj
       go_enter Tryz.func143,Tryz.ntmps143
       go_wp2
       go_loopw [17] (fun i wr => i = .int .i64 0 ∧ wr = w1) (fun _ _ => 0)
       case atStart => exact ⟨rfl,rfl⟩
       case round =>
        obtain ⟨rfl,rfl⟩:=hrel
        go_wp2
        go_end0
        exact hP.out _ rfl
     · rw [hsl] at d3
       rw [hsl] at hgm
       have hgne : g ≠ mb:=fun e => hgm.out (by rw [e];rfl)
       replace hcells:=Lib.hid hcells
       have hP : Hid (∀ e wz V',e = .returned (.tuple #[]) → w.grownBy wz (some mb) → VisM wz n mb V' → VisL E p (adj p) V V' → VPost E n mb p V w e wz):=fun e wz V' h1 h2 h3 h4 => ⟨h1,h2,V',h3,h4.end fun q h => hall.out q h⟩
       clear hrow hsl
       go_enter Tryz.func143,Tryz.ntmps143
       go_wp2
       go_loopw [17] (fun i wr => ∃ (j : Nat) (V' : Nat → Prop),j ≤ (adj p).length ∧ i = .int .i64 (j : Int) ∧ Hid (w.grownBy wr (some mb)) ∧ Hid (VisM wr n mb V') ∧ Hid (VisL E p ((adj p).take j) V V')) (fun i _ => (adj p).length - (intOf i).toNat)
       case atStart => exact ⟨0,_,Nat.zero_le _,rfl,hg1',hV1,hVL⟩
       case round =>
        obtain ⟨j,V',hj,rfl,hg,hm2,hvl⟩:=hrel
        clear hlook hrun c1 c2 d1 d2 d3 d4
        by_cases hlt : j < (adj p).length
        · obtain ⟨hq1,hq2⟩:=hmem.out (adj p)[j] (List.getElem_mem hlt)
          have e1:=(World.cell?_of_block (a:=⟨g,j,none⟩) (hg.out.block g hgl fun e => hgne (Option.some.inj e))).trans (hcells.out j hlt)
          have hvr:=Lib.hid (hvE.out.grown hg.out)
          have hun : unv n V' ≤ N:=Nat.le_trans (unv_mono fun x hx => by
           rcases hx with hx | rfl
           · exact hvl.out.1 x hx
           · exact hvl.out.2.1) hN1
          have htk : Hid ((adj p).take (j + 1) = (adj p).take j ++ [(adj p)[j]]):=List.take_succ_eq_append_getElem hlt
          obtain ⟨q,hq⟩ : ∃ x,x = (adj p)[j]:=⟨_,rfl⟩
          rw [← hq] at hq1 hq2 e1 htk
          replace hq:=Lib.hid hq
          have ihq:=Lib.hid (ihH.out q V' wr hq2 hvr.out hm2.out hun)
          have hedge:=Lib.hid hq1
          have d1:=hvr.out.f.cell (j:=0) rfl
          have d2:=hvr.out.f.lt
          have j0 : (0 : Int) ≤ (j : Int):=by omega
          have j1 : (j : Int) < ((adj p).length : Int):=by omega
          clear hq1 hun
          go_wp2_with fail
          refine ihq.out.mono ?_
          rintro e w2 ⟨rfl,hg2,V2,hm3,hvis⟩
          have hg3:=Lib.hid (hg.out.trans hg2)
          have hm4:=Lib.hid hm3
          have hvl2 : Hid (VisL E p ((adj p).take (j + 1)) V V2):=by rw [htk.out];exact hvl.out.step hedge.out hvis
          clear hg2 hm3 hvis e1 d1 d2
          go_wp2
          go_roundw
          case rel => exact ⟨j + 1,V2,by omega,by go_num,hg3,hm4,hvl2⟩
          case measure => simp [intOf];omega
        · obtain rfl : j = (adj p).length:=by omega
          have hvl3 : Hid (VisL E p (adj p) V V'):=by have h:=hvl.out;rwa [List.take_length] at h
          go_wp2
          go_end0
          exact hP.out _ _ V' rfl hg.out hm2.out hvl3.out
end Ci
end Go.Proofs.YtioidbebjgeahaaGreatDoor
namespace Go.Proofs.YtioidbebjgeahaaGreatDoor
open Go.RowKit Go.Shelf
namespace Ci
open Nt
open Classical
def ReachM (w : World) (n mb : Nat) (E : List (Nat × Nat)) (p : Nat) : Prop:=∃ c f,MapK Tryz.prog 3 κi w mb c f ∧ ∀ x : Nat,x < n → f (x : Int) = if Reach E p x then some (.bool true) else none
def RPost (E : List (Nat × Nat)) (n p : Nat) (w : World) (e : Ending) (w' : World) : Prop:=(∃ mb,e = .returned (.map (some mb)) ∧ w.heap.size ≤ mb ∧ ReachM w' n mb E p) ∧ Below w.heap.size w w'
set_option maxRecDepth 100000 in
set_option maxHeartbeats 4000000 in
theorem reached_any (E : List (Nat × Nat)) (R n B p : Nat) (v : Nat → Value) (adj : Nat → List Nat) (w : World) (hn : n ≤ 1000) (hE : ∀ p q,p < n → (q ∈ adj p ↔ (p,q) ∈ E)) (hIn : InN n E) (hlen : ∀ p,p < n → (adj p).length ≤ 10000000) (hp : p < n) (hG : Gr w B R n v adj) :
 Calls Tryz.prog 95 #[.slice (some ⟨R,0,none⟩) n n,.int .i64 (p : Int)] w (RPost E n p w):=by
 have hmm:=@run_makeMap Tryz.prog
 have kv:=Lib.hid (fun ob gb vb mb W hv hm => visit_any E ob gb vb R n mb B v adj hn hE hIn hlen n p (fun _ => False) W hp hv hm (by
  have:=List.length_filter_le (fun x : Nat => bV (¬ False)) (List.range n)
  rw [List.length_range] at this
  exact this))
 have s1 : (w.alloc (.cells #[.slice (some ⟨R,0,none⟩) n n] 84)).heap.size = w.heap.size + 1:=by simp
 have s2 : ((w.alloc (.cells #[.slice (some ⟨R,0,none⟩) n n] 84)).alloc (.map #[] 0)).heap.size = w.heap.size + 1 + 1:=by simp
 have s3 : (((w.alloc (.cells #[.slice (some ⟨R,0,none⟩) n n] 84)).alloc (.map #[] 0)).alloc (.cells #[.map (some (w.heap.size + 1))] 112)).heap.size = w.heap.size + 1 + 1 + 1:=by simp
 have g1 : Bk (w.alloc (.cells #[.slice (some ⟨R,0,none⟩) n n] 84)) w.heap.size 84 [.slice (some ⟨R,0,none⟩) n n]:=Bk.new w _ _
 have m2 : MapK Tryz.prog 3 κi ((w.alloc (.cells #[.slice (some ⟨R,0,none⟩) n n] 84)).alloc (.map #[] 0)) (w.heap.size + 1) 0 (fun _ => none):=by have h:=MapK.made (w.alloc (.cells #[.slice (some ⟨R,0,none⟩) n n] 84)) Tryz.prog 3 κi;rwa [s1] at h
 have o3 : Bk (((w.alloc (.cells #[.slice (some ⟨R,0,none⟩) n n] 84)).alloc (.map #[] 0)).alloc (.cells #[.map (some (w.heap.size + 1))] 112)) (w.heap.size + 1 + 1) 112 [.map (some (w.heap.size + 1))]:=by have h:=Bk.new ((w.alloc (.cells #[.slice (some ⟨R,0,none⟩) n n] 84)).alloc (.map #[] 0)) 112 [.map (some (w.heap.size + 1))];rwa [s2] at h
 have f4 : Bk ((((w.alloc (.cells #[.slice (some ⟨R,0,none⟩) n n] 84)).alloc (.map #[] 0)).alloc (.cells #[.map (some (w.heap.size + 1))] 112)).alloc (.cells #[.nilFunc] 143)) (w.heap.size + 1 + 1 + 1) 143 [.nilFunc]:=by have h:=Bk.new (((w.alloc (.cells #[.slice (some ⟨R,0,none⟩) n n] 84)).alloc (.map #[] 0)).alloc (.cells #[.map (some (w.heap.size + 1))] 112)) 143 [.nilFunc];rwa [s3] at h
 have hB4 : Hid (Below w.heap.size w ((((w.alloc (.cells #[.slice (some ⟨R,0,none⟩) n n] 84)).alloc (.map #[] 0)).alloc (.cells #[.map (some (w.heap.size + 1))] 112)).alloc (.cells #[.nilFunc] 143))):=((((Below.refl _ w).alloc (Nat.le_refl _) _).alloc (by simp) _).alloc (by simp <;> omega) _).alloc (by simp <;> omega) _
 have hB5 : Hid (Below w.heap.size w ((((w.alloc (.cells #[.slice (some ⟨R,0,none⟩) n n] 84)).alloc (.map #[] 0)).alloc (.cells #[.map (some (w.heap.size + 1))] 112)).alloc (.cells #[.func (.func 143) #[] #[.pointer (some ⟨w.heap.size + 1 + 1,0,none⟩),.pointer (some ⟨w.heap.size,0,none⟩),.pointer (some ⟨w.heap.size + 1 + 1 + 1,0,none⟩)]] 143))):=((((Below.refl _ w).alloc (Nat.le_refl _) _).alloc (by simp) _).alloc (by simp <;> omega) _).alloc (by simp <;> omega) _
 have f5 : Bk ((((w.alloc (.cells #[.slice (some ⟨R,0,none⟩) n n] 84)).alloc (.map #[] 0)).alloc (.cells #[.map (some (w.heap.size + 1))] 112)).alloc (.cells #[.func (.func 143) #[] #[.pointer (some ⟨w.heap.size + 1 + 1,0,none⟩),.pointer (some ⟨w.heap.size,0,none⟩),.pointer (some ⟨w.heap.size + 1 + 1 + 1,0,none⟩)]] 143)) (w.heap.size + 1 + 1 + 1) 143 [.func (.func 143) #[] #[.pointer (some ⟨w.heap.size + 1 + 1,0,none⟩),.pointer (some ⟨w.heap.size,0,none⟩),.pointer (some ⟨w.heap.size + 1 + 1 + 1,0,none⟩)]]:=by have h:=Bk.new (((w.alloc (.cells #[.slice (some ⟨R,0,none⟩) n n] 84)).alloc (.map #[] 0)).alloc (.cells #[.map (some (w.heap.size + 1))] 112)) 143 [.func (.func 143) #[] #[.pointer (some ⟨w.heap.size + 1 + 1,0,none⟩),.pointer (some ⟨w.heap.size,0,none⟩),.pointer (some ⟨w.heap.size + 1 + 1 + 1,0,none⟩)]];rwa [s3] at h
 have c1:=f4.cell (j:=0) rfl
 have c2:=f4.frozen 0
 have c3:=f4.lt
 have hV5 : Hid (VEnv ((((w.alloc (.cells #[.slice (some ⟨R,0,none⟩) n n] 84)).alloc (.map #[] 0)).alloc (.cells #[.map (some (w.heap.size + 1))] 112)).alloc (.cells #[.func (.func 143) #[] #[.pointer (some ⟨w.heap.size + 1 + 1,0,none⟩),.pointer (some ⟨w.heap.size,0,none⟩),.pointer (some ⟨w.heap.size + 1 + 1 + 1,0,none⟩)]] 143)) (w.heap.size + 1 + 1) w.heap.size (w.heap.size + 1 + 1 + 1) R n (w.heap.size + 1) B v adj):=by
  have hRl:=hG.lt
  refine ⟨o3.alloc _,((g1.alloc _).alloc _).alloc _,f5,hG.below (hB5.out),by omega,by omega,by omega,by omega,fun i hi e => ?_⟩
  have:=((hG.rows i hi).lt _ e).2
  omega
 have hM5 : Hid (VisM ((((w.alloc (.cells #[.slice (some ⟨R,0,none⟩) n n] 84)).alloc (.map #[] 0)).alloc (.cells #[.map (some (w.heap.size + 1))] 112)).alloc (.cells #[.func (.func 143) #[] #[.pointer (some ⟨w.heap.size + 1 + 1,0,none⟩),.pointer (some ⟨w.heap.size,0,none⟩),.pointer (some ⟨w.heap.size + 1 + 1 + 1,0,none⟩)]] 143)) n (w.heap.size + 1) fun _ => False):=by
  refine ⟨0,_,(m2.alloc _).alloc _,?_,fun x _ => (if_neg fun h => h).symm⟩
  have:=List.length_filter_le (fun x : Nat => bV (¬ False)) (List.range n)
  rw [List.length_range] at this
  show 0 + ((List.range n).filter fun x => bV (¬ False)).length ≤ n
  omega
 have o5:=hV5.out.o.cell (j:=0) rfl
 clear s1 s2 s3 g1 m2 o3 f4 f5 hB4
 replace hG:=Lib.hid hG
 clear hE hIn hlen
 go_enter Tryz.func95,Tryz.ntmps95
 go_wp2_with fail
 refine (kv.out _ _ _ _ _ hV5.out hM5.out).mono ?_
 rintro e w6 ⟨rfl,hg6,V',hm6,hvis⟩
 have o6:=(hV5.out.grown hg6).o.cell (j:=0) rfl
 have o7:=(hV5.out.grown hg6).o.lt
 have hB6 : Hid (Below w.heap.size w w6):=hB5.out.grown hg6 hB5.out.size (fun b e => by cases e;exact Nat.le_succ _)
 have hR6 : Hid (ReachM w6 n (w.heap.size + 1) E p):=by
  obtain ⟨c,f,h1,_,h2⟩:=hm6
  refine ⟨c,f,h1,fun x hx => ?_⟩
  rw [h2 x hx]
  by_cases hr : Reach E p x
  · rw [if_pos hr,if_pos ((hvis.reach x).2 hr)]
  · rw [if_neg hr,if_neg fun h => hr ((hvis.reach x).1 h)]
 clear hg6 hm6 hvis o5 c1 c2 c3
 go_wp2
 go_ret
 exact ⟨⟨_,rfl,Nat.le_succ _,hR6.out⟩,hB6.out⟩
end Ci
end Go.Proofs.YtioidbebjgeahaaGreatDoor
namespace Go.Proofs.YtioidbebjgeahaaGreatDoor
open Go.RowKit Go.Shelf
namespace Ci
open Nt
theorem own_slice {w : World} {base m : Nat} {e : TypeId} {v : Value} {xs : List Value} (h : w.ownsRow base e 1 v (m + 1) xs) : ∃ g cap,v = .slice (some ⟨g,0,none⟩) (m + 1) cap:=by
 rcases h.2 with ⟨_,h0⟩ | ⟨g,cap,_,rfl,_⟩
 · omega
 · exact ⟨g,cap,rfl⟩
def TurnI (n i j : Nat) (adj T : Nat → List Nat) : Prop:=(∀ q x,q < n → (x ∈ T q ↔ (x < i ∧ q ∈ adj x) ∨ (x = i ∧ q ∈ (adj i).take j))) ∧ ∀ q,(T q).length ≤ 1000 * i + j
theorem TurnI.next {n i : Nat} {adj T : Nat → List Nat} (h : TurnI n i (adj i).length adj T) (hl : (adj i).length ≤ 1000) : TurnI n (i + 1) 0 adj T:=by
 refine ⟨fun q x hq => ?_,fun q => by have:=h.2 q;omega⟩
 rw [h.1 q x hq,List.take_length]
 constructor
 · rintro (⟨a,b⟩ | ⟨rfl,b⟩)
   · exact .inl ⟨by omega,b⟩
   · exact .inl ⟨by omega,b⟩
 · rintro (⟨a,b⟩ | ⟨_,b⟩)
   · by_cases e : x = i
     · subst e;exact .inr ⟨rfl,b⟩
     · exact .inl ⟨by omega,b⟩
   · simp at b
theorem TurnI.step {n i j : Nat} {adj T : Nat → List Nat} (h : TurnI n i j adj T) (hj : j < (adj i).length) : TurnI n i (j + 1) adj (setL T (adj i)[j] i):=by
 refine ⟨fun q x hq => ?_,fun q => ?_⟩
 · unfold setL
   rw [List.take_succ_eq_append_getElem hj]
   by_cases e : q = (adj i)[j]
   · rw [if_pos e,List.mem_append,h.1 q x hq,List.mem_append,List.mem_singleton,List.mem_singleton]
     constructor
     · rintro ((a | ⟨a,b⟩) | a)
       · exact .inl a
       · exact .inr ⟨a,.inl b⟩
       · exact .inr ⟨a,.inr e⟩
     · rintro (a | ⟨a,b | _⟩)
       · exact .inl (.inl a)
       · exact .inl (.inr ⟨a,b⟩)
       · exact .inr a
   · rw [if_neg e,h.1 q x hq,List.mem_append,List.mem_singleton]
     constructor
     · rintro (a | ⟨a,b⟩)
       · exact .inl a
       · exact .inr ⟨a,.inl b⟩
     · rintro (a | ⟨a,b | b⟩)
       · exact .inl a
       · exact .inr ⟨a,b⟩
       · exact absurd b e
 · unfold setL
   have:=h.2 q
   split
   · rw [List.length_append,List.length_singleton];omega
   · omega
set_option maxRecDepth 100000 in
set_option maxHeartbeats 16000000 in
theorem turned_any (R n B : Nat) (v : Nat → Value) (adj : Nat → List Nat) (w : World) (hn : n ≤ 100) (hlen : ∀ p,p < n → (adj p).length ≤ 1000) (hlt : ∀ p q,p < n → q ∈ adj p → q < n) (hG : Gr w B R n v adj) :
 Calls Tryz.prog 94 #[.slice (some ⟨R,0,none⟩) n n] w fun e w' => (∃ R' v' T,e = .returned (.slice (some ⟨R',0,none⟩) n n) ∧ Gr w' w.heap.size R' n v' T ∧ TurnI n n 0 adj T) ∧ Below w.heap.size w w':=by
 -- for 45
 have hmk:=run_make_row' (P:=Tryz.prog) 84 26 (.slice none 0 0) 24 Tryz.underlying84 infoG rfl .i64 .i64 n (by omega) (by omega)
 have hG0 : Hid (Gr (w.alloc (.cells (madeCells #[(.slice none 0 0 : Value)] n) 26)) w.heap.size w.heap.size n (fun _ => .slice none 0 0) fun _ => []):=Gr.start w (Nat.le_refl _) n 26
 have hB0 : Hid (Below w.heap.size w (w.alloc (.cells (madeCells #[(.slice none 0 0 : Value)] n) 26))):=(Below.refl _ w).alloc (Nat.le_refl _) _
 have hT0 : Hid (TurnI n 0 0 adj fun _ => []):=⟨fun q x _ => ⟨fun h => (by cases h),fun h => (by rcases h with ⟨h,_⟩ | ⟨_,h⟩ <;> simp at h)⟩,fun _ => Nat.zero_le _⟩
 obtain ⟨i0,hi0,hzz⟩:=Option.map_eq_some_iff.1 infoI
 simp only [Prod.mk.injEq] at hzz
 obtain ⟨hz0,hz1,hz2⟩:=hzz
 replace hi0:=Lib.hid hi0
 replace hz0:=Lib.hid hz0
 replace hz1:=Lib.hid hz1
 replace hz2:=Lib.hid hz2
 replace hG:=Lib.hid hG
 replace hlen:=Lib.hid hlen
 replace hlt:=Lib.hid hlt
 go_enter Tryz.func94,Tryz.ntmps94
 go_wp2
 clear hmk
 go_loopw [13] (fun ix wr => ∃ (i : Nat) (v' : Nat → Value) (T : Nat → List Nat),i ≤ n ∧ ix = .int .i64 (i : Int) ∧ Hid (Below w.heap.size w wr) ∧ Hid (Gr wr w.heap.size w.heap.size n v' T) ∧ Hid (TurnI n i 0 adj T)) (fun ix _ => n - (intOf ix).toNat)
 case atStart => exact ⟨0,_,_,Nat.zero_le _,rfl,hB0,hG0,hT0⟩
 case round =>
  obtain ⟨i,v',T,hi,rfl,hB,hGt,hT⟩:=hrel
  clear hB0 hG0 hT0
  by_cases hin : i < n
  · have hli:=hlen.out i hin
    have hd:=(hB.out.cell (p:=⟨R,i,none⟩) hG.out.lt).trans (hG.out.hd i hin)
    have j0 : (0 : Int) ≤ (i : Int):=by omega
    have j1 : (i : Int) < (n : Int):=by omega
    rcases own_ints (hG.out.rows i hin) with ⟨hnil,hadj⟩ | ⟨g,cap,hsl,_,hgl,_,hcells⟩
    · rw [hnil] at hd
      have hT2 : Hid (TurnI n (i + 1) 0 adj T):=by
       have h:=hT.out
       refine TurnI.next ?_ hli
       rw [hadj];exact h
      clear hnil hadj
      go_wp2
      go_loopw [20] (fun ix wz => ix = .int .i64 0 ∧ wz = wr) (fun _ _ => 0)
      case atStart => exact ⟨rfl,rfl⟩
      case round =>
       obtain ⟨rfl,rfl⟩:=hrel
       go_wp2
       exact ⟨⟨i + 1,v',T,by omega,by go_num,hB,hGt,hT2⟩,by simp only [intOf];omega⟩
    · rw [hsl] at hd
      replace hcells:=Lib.hid hcells
      clear hsl
      go_wp2
      go_loopw [20] (fun ix wz => ∃ (j : Nat) (v2 : Nat → Value) (T2 : Nat → List Nat),j ≤ (adj i).length ∧ ix = .int .i64 (j : Int) ∧ Hid (Below w.heap.size w wz) ∧ Hid (Gr wz w.heap.size w.heap.size n v2 T2) ∧ Hid (TurnI n i j adj T2)) (fun ix _ => (adj i).length - (intOf ix).toNat)
      case atStart => exact ⟨0,v',T,Nat.zero_le _,rfl,hB,hGt,hT⟩
      case round =>
       obtain ⟨j,v2,T2,hj,rfl,hB2,hG2,hT2⟩:=hrel
       by_cases hjl : j < (adj i).length
       · have hq:=hlt.out i (adj i)[j] hin (List.getElem_mem hjl)
         have e1:=(hB2.out.cell (p:=⟨g,j,none⟩) hgl).trans (hcells.out j hjl)
         have hT3:=Lib.hid (hT2.out.step hjl)
         obtain ⟨q,hqe⟩ : ∃ x,x = (adj i)[j]:=⟨_,rfl⟩
         rw [← hqe] at hq e1 hT3
         replace hqe:=Lib.hid hqe
         obtain ⟨vh,hvh⟩ : ∃ x,x = v2 q:=⟨_,rfl⟩
         have hhd:=hG2.out.hd q hq
         have hfr:=hG2.out.fr q
         have hlR:=hG2.out.lt
         have hrow:=hG2.out.rows q hq
         rw [← hvh] at hhd hrow
         have hnR : Hid (vh.ownBlock ≠ some w.heap.size):=by rw [hvh];exact hG2.out.ne q hq
         replace hvh:=Lib.hid hvh
         replace hrow:=Lib.hid hrow
         have hlT:=hT2.out.2 q
         have hsz:=hB2.out.size
         have hBa : Hid (Below w.heap.size w (wr.alloc (.cells #[.int .i64 (i : Int)] 3))):=hB2.out.alloc hB2.out.size _
         have hGa:=Lib.hid (hG2.out.alloc (.cells #[.int .i64 (i : Int)] 3))
         have hca : Hid (World.cell? (wr.alloc (.cells #[.int .i64 (i : Int)] 3)) ⟨w.heap.size,q,none⟩ = some vh):=by rw [hvh.out];exact hGa.out.hd q hq
         have q0 : (0 : Int) ≤ (q : Int):=by omega
         have q1 : (q : Int) < (n : Int):=by omega
         have q2 : (0 : Int) ≤ (j : Int):=by omega
         have q3 : (j : Int) < ((adj i).length : Int):=by omega
         go_wp2_with (at_builtin;refine wpList_append_new _ rfl _ _ 26 rfl w.heap.size 3 i0 (.int .i64 0) 1 8 Tryz.underlying26 hi0.out hz0.out hz1.out hz2.out rfl (by decide) vh (T2 q).length (intsL (T2 q)) rfl (hrow.out.alloc _) ⟨wr.heap.size,0,none⟩ 1 1 [.int .i64 (i : Int)] rfl rfl (head_new _ _ _) (one_cell1 _ rfl) (by omega) (by unfold maxLen;omega) (by omega) (by simp;omega) ?_;intro vb wb hob hgb hnb;have hG9 : Hid (Gr (wb.setCell ⟨w.heap.size,q,none⟩ vb) w.heap.size w.heap.size n (fun x => if x = q then vb else v2 x) (setL T2 q i)):=(hGa.out.step hq (by rw [← hvh.out];exact hgb) hob (by rw [← hvh.out];exact hnb));have hB9 : Hid (Below w.heap.size w (wb.setCell ⟨w.heap.size,q,none⟩ vb)):=((hBa.out.grown hgb hBa.out.size (fun b e => (hrow.out.lt b e).1)).setCell (p:=⟨w.heap.size,q,none⟩) (Nat.le_refl _) _);have hbk:=hgb.block w.heap.size hGa.out.lt (fun e => hnR.out e.symm);have y1:=(World.cell?_of_block (a:=⟨w.heap.size,q,none⟩) hbk).trans hca.out;have y2:=(World.frozen?_of_block (a:=⟨w.heap.size,q,none⟩) hbk).trans (hGa.out.fr q);have y3 : w.heap.size < wb.heap.size:=Nat.lt_of_lt_of_le hGa.out.lt hgb.size;obtain ⟨g9,cap9,rfl⟩:=own_slice hob;clear hob hgb hnb hbk hhd hfr)
         exact ⟨⟨j + 1,_,_,by omega,by go_num,hB9,hG9,hT3⟩,by simp only [intOf];omega⟩
       · obtain rfl : j = (adj i).length:=by omega
         have hT4:=Lib.hid (hT2.out.next hli)
         go_wp2
         exact ⟨⟨i + 1,v2,T2,by omega,by go_num,hB2,hG2,hT4⟩,by simp only [intOf];omega⟩
  · obtain rfl : i = n:=by omega
    go_wp2
    go_ret
    exact ⟨⟨_,v',T,rfl,hGt.out,hT.out⟩,hB.out⟩
end Ci
end Go.Proofs.YtioidbebjgeahaaGreatDoor
namespace Go.Proofs.YtioidbebjgeahaaGreatDoor
open Go.RowKit Go.Shelf
namespace Ci
open Nt
structure Kp (xs : List Nat) (w w' : World) : Prop where
 os : w'.os = w.os
 tape : w'.tape = w.tape
 output : w'.output = w.output
 size : w.heap.size ≤ w'.heap.size
 block : ∀ k,k < w.heap.size → k ∉ xs → w'.heap[k]? = w.heap[k]?
section
variable {xs : List Nat} {w w' w'' : World} {B R n i b c mb : Nat} {v : Nat → Value} {adj ls : Nat → List Nat} {α : Type} {P : Program} {k : TypeId} {κ : α → Lit} {f : α → Option Value} {t : TypeId} {cs : List Value}
theorem Kp.refl (xs : List Nat) (w : World) : Kp xs w w:=⟨rfl,rfl,rfl,Nat.le_refl _,fun _ _ _ => rfl⟩
theorem Kp.below (h : Kp xs w w') (hb : Below w'.heap.size w' w'') : Kp xs w w'' :=
 ⟨hb.os.trans h.os,hb.tape.trans h.tape,hb.output.trans h.output,Nat.le_trans h.size hb.size,fun k hk hx => (hb.block k (Nat.lt_of_lt_of_le hk h.size)).trans (h.block k hk hx)⟩
theorem Kp.alloc (h : Kp xs w w') (o : Obj) : Kp xs w (w'.alloc o):=h.below ((Below.refl _ w').alloc (Nat.le_refl _) o)
theorem Kp.drew (h : Kp xs w w') : Kp xs w w'.drew:=h.below (Below.refl _ w').drew
theorem Kp.grown {row : Option Nat} (h : Kp xs w w') (hg : w'.grownBy w'' row) (hr : ∀ b,row = some b → b ∈ xs ∨ w.heap.size ≤ b) : Kp xs w w'' :=
 ⟨hg.os.trans h.os,hg.tape.trans h.tape,hg.output.trans h.output,Nat.le_trans h.size hg.size,fun k hk hx => (hg.block k (Nat.lt_of_lt_of_le hk h.size) (fun e => by
   rcases hr k e.symm with h1 | h1
   · exact hx h1
   · omega)).trans (h.block k hk hx)⟩
theorem grown_set (w : World) (a : Addr) (u : Value) : w.grownBy (w.setCell a u) (some a.block):=⟨rfl,rfl,rfl,by simp,fun k _ hk => Below.heap_setCell _ _ _ _ (fun e => hk (by rw [e]))⟩
theorem grown_alloc (w : World) (o : Obj) (row : Option Nat) : w.grownBy (w.alloc o) row:=⟨rfl,rfl,rfl,by simp,fun k hk _ => heap_alloc_old w o hk⟩
theorem Kp.set (h : Kp xs w w') {a : Addr} (u : Value) (ha : a.block ∈ xs ∨ w.heap.size ≤ a.block) : Kp xs w (w'.setCell a u):=h.grown (grown_set w' a u) fun b e => by cases e;exact ha
theorem Kp.to_below (h : Kp xs w w') {w0 : World} (h0 : Below w0.heap.size w0 w) (hx : ∀ x,x ∈ xs → w0.heap.size ≤ x) : Below w0.heap.size w0 w' :=
 h0.trans ⟨h.os,h.tape,h.output,h.size,fun k hk => h.block k (Nat.lt_of_lt_of_le hk h0.size) fun e => by have:=hx k e;omega⟩
theorem Kp.heap (h : Kp xs w w') (hb : b < w.heap.size) (hx : b ∉ xs) : w'.heap[b]? = w.heap[b]?:=h.block b hb hx
theorem Gr.of_block (h : Gr w B R n v adj) (hs : w.heap.size ≤ w'.heap.size) (hR : w'.heap[R]? = w.heap[R]?) (hv : ∀ i b,i < n → (v i).ownBlock = some b → w'.heap[b]? = w.heap[b]?) : Gr w' B R n v adj :=
 ⟨Nat.lt_of_lt_of_le h.lt hs,fun i hi => (World.cell?_of_block (a:=⟨R,i,none⟩) hR).trans (h.hd i hi),fun i => (World.frozen?_of_block (a:=⟨R,i,none⟩) hR).trans (h.fr i),fun i hi => by
   obtain ⟨h1,h2⟩:=h.rows i hi
   refine ⟨h1,?_⟩
   rcases h2 with h2 | ⟨g,cap,cur,hv2,hg,hh,rest⟩
   · exact .inl h2
   · exact .inr ⟨g,cap,cur,hv2,hg,(hv i g hi (by rw [hv2];rfl)).trans hh,rest⟩,h.apart,h.ne,h.lowR⟩
theorem Gr.kp (h : Gr w B R n v adj) (hk : Kp xs w w') (hR : R ∉ xs) (hv : ∀ i b,i < n → (v i).ownBlock = some b → b ∉ xs) : Gr w' B R n v adj :=
 h.of_block hk.size (hk.block R h.lt hR) fun i b hi e => hk.block b ((h.rows i hi).lt b e).2 (hv i b hi e)
theorem MapK.kp (h : MapK P k κ w b c f) (hk : Kp xs w w') (hb : b ∉ xs) : MapK P k κ w' b c f:=h.block (hk.block b h.lt hb)
theorem Bk.kp (h : Bk w b t cs) (hk : Kp xs w w') (hb : b ∉ xs) : Bk w' b t cs:=by
 have e:=hk.block b h.lt hb
 exact (show w'.heap[b]? = _ from e.trans h)
structure LM (w : World) (B mb n c : Nat) (v : Nat → Value) (ls : Nat → List Nat) : Prop where
 map : ∃ f : Int → Option Value,MapK Tryz.prog 3 κi w mb c f ∧ ∀ x : Nat,x < n → f (x : Int) = if ls x = [] then none else some (v x)
 nil : ∀ x,x < n → ls x = [] → v x = .slice none 0 0
 rows : ∀ x,x < n → w.ownsRow B 3 1 (v x) (ls x).length (intsL (ls x))
 apart : ∀ i j,i < n → j < n → i ≠ j → OffB (v i) (v j)
 ne : ∀ x,x < n → (v x).ownBlock ≠ some mb
theorem LM.lt (h : LM w B mb n c v ls) : mb < w.heap.size:=by obtain ⟨f,h,_⟩:=h.map;exact h.lt
theorem LM.grown {row : Option Nat} (h : LM w B mb n c v ls) (hg : w.grownBy w' row) (hm : row ≠ some mb) (hv : ∀ x b,x < n → (v x).ownBlock = some b → row ≠ some b) : LM w' B mb n c v ls:=by
 obtain ⟨f,h1,h2⟩:=h.map
 refine ⟨⟨f,h1.kept hg fun e => hm e.symm,h2⟩,h.nil,fun x hx => (h.rows x hx).kept hg ?_,h.apart,h.ne⟩
 cases hu : (v x).ownBlock with
 | none => exact .inl rfl
 | some b => exact .inr fun e => hv x b hx hu e.symm
theorem LM.set (h : LM w B mb n c v ls) {a : Addr} (u : Value) (hm : a.block ≠ mb) (hv : ∀ x,x < n → (v x).ownBlock ≠ some a.block) : LM (w.setCell a u) B mb n c v ls :=
 h.grown (grown_set w a u) (fun e => hm (Option.some.inj e)) fun x b hx e e2 => hv x hx (by rw [e,e2])
theorem LM.alloc (h : LM w B mb n c v ls) (o : Obj) : LM (w.alloc o) B mb n c v ls:=h.grown (grown_alloc w o none) (by simp) fun _ _ _ _ => by simp
theorem LM.drew (h : LM w B mb n c v ls) : LM w.drew B mb n c v ls:=⟨h.map,h.nil,h.rows,h.apart,h.ne⟩
theorem LM.below (h : LM w B mb n c v ls) (hb : Below w.heap.size w w') : LM w' B mb n c v ls :=
 h.grown (row:=none) ⟨hb.os,hb.tape,hb.output,hb.size,fun k hk _ => hb.block k hk⟩ (by simp) fun _ _ _ _ => by simp
theorem LM.made (w : World) (B n : Nat) : LM (w.alloc (.map #[] 0)) B w.heap.size n 0 (fun _ => .slice none 0 0) fun _ => [] :=
 ⟨⟨_,MapK.made w _ _ _,fun _ _ => (if_pos rfl).symm⟩,fun _ _ _ => rfl,fun _ _ => World.ownsRow_nil _ _ _ _,fun _ _ _ _ _ _ hb => (by cases hb),fun _ _ h => (by cases h)⟩
theorem zeroSl (w : World) : (zeroValue 26).run Tryz.prog w = .ok (.slice none 0 0) w:=by kernel_rfl
theorem LM.look (h : LM w B mb n c v ls) {x : Nat} (hx : x < n) (hn : n ≤ 1000) : (Instr.lookup 111 (.map (some mb)) (.int .i64 (x : Int)) false).run Tryz.prog w = .ok (v x) w:=by
 obtain ⟨f,h1,h2⟩:=h.map
 have:=h1.look keyI Tryz.underlying111 (zeroSl w) (key_i Tryz.underlying3 (a:=(x : Int)) (by omega) (by omega))
 rw [this,h2 x hx]
 by_cases e : ls x = []
 · rw [if_pos e,h.nil x hx e];rfl
 · rw [if_neg e];rfl
theorem LM.step (h : LM w B mb n c v ls) {x q : Nat} (hx : x < n) (hn : n ≤ 1000) (hc : c < maxLen) {u : Value} (hg : w.grownBy w' (v x).ownBlock) (ho : w'.ownsRow B 3 1 u ((ls x).length + 1) (intsL (ls x) ++ [.int .i64 (q : Int)])) (hu : u.ownBlock = (v x).ownBlock ∨ u.ownBlock = some w.heap.size) :
 ∃ w'',(Instr.mapUpdate 111 (.map (some mb)) (.int .i64 (x : Int)) u).run Tryz.prog w' = .ok () w'' ∧ LM w'' B mb n (if ls x = [] then c + 1 else c) (fun i => if i = x then u else v i) (setL ls x q) ∧ w'.grownBy w'' (some mb):=by
 obtain ⟨f,h1,h2⟩:=h.map
 have hmx : some mb ≠ (v x).ownBlock:=fun e => h.ne x hx e.symm
 have hlt:=h.lt
 have hum : u.ownBlock ≠ some mb:=fun e => by
  rcases hu with hu | hu
  · exact hmx (by rw [← hu,e])
  · rw [e] at hu;simp only [Option.some.injEq] at hu;omega
 obtain ⟨w'',hrun,hM,hg2⟩:=(h1.kept hg hmx).put κi_inj keyI Tryz.underlying111 hc (key_i Tryz.underlying3 (a:=(x : Int)) (by omega) (by omega)) u
 have hoff : ∀ i,i < n → i ≠ x → OffB (v i) u:=fun i hi hix b hb e => by
  rcases hu with hu | hu
  · exact h.apart i x hi hx hix b hb (by rw [← hu,e])
  · have:=((h.rows i hi).lt b hb).2
    rw [e] at hu
    simp only [Option.some.injEq] at hu
    omega
 have hne : setL ls x q x ≠ []:=by simp [setL]
 refine ⟨w'',hrun,⟨⟨putF f (x : Int) (some u),?_,fun y hy => ?_⟩,fun y hy he => ?_,fun y hy => ?_,fun i j hi hj hij => ?_,fun y hy => ?_⟩,hg2⟩
 · have e : (if (f (x : Int)).isSome then c else c + 1) = if ls x = [] then c + 1 else c:=by
    rw [h2 x hx]
    by_cases e : ls x = []
    · rw [if_pos e,if_pos e];rfl
    · rw [if_neg e,if_neg e];rfl
   rw [e] at hM
   exact hM
 · by_cases e : y = x
   · subst e
     rw [putF_same,if_neg hne,if_pos rfl]
   · rw [putF_other (fun c => e (by omega)),h2 y hy,if_neg e]
     have : setL ls x q y = ls y:=if_neg e
     rw [this]
 · by_cases e : y = x
   · subst e;exact absurd he hne
   · rw [if_neg e]
     have : setL ls x q y = ls y:=if_neg e
     rw [this] at he
     exact h.nil y hy he
 · by_cases e : y = x
   · subst e
     rw [if_pos rfl]
     have : setL ls y q y = ls y ++ [q]:=if_pos rfl
     rw [this,List.length_append,intsL_snoc]
     refine ho.kept hg2 ?_
     cases hv : u.ownBlock with
     | none => exact .inl rfl
     | some b => exact .inr fun c => hum (by rw [hv,c])
   · rw [if_neg e]
     have : setL ls x q y = ls y:=if_neg e
     rw [this]
     refine ((h.rows y hy).kept hg ?_).kept hg2 ?_
     · cases hv : (v y).ownBlock with
       | none => exact .inl rfl
       | some b => exact .inr fun c => h.apart y x hy hx e b hv c.symm
     · cases hv : (v y).ownBlock with
       | none => exact .inl rfl
       | some b => exact .inr fun c => h.ne y hy (by rw [hv,c])
 · by_cases e1 : i = x
   · have e2 : j ≠ x:=fun c => hij (by rw [e1,c])
     rw [if_pos e1,if_neg e2]
     exact fun b hb hc => hoff j hj e2 b hc hb
   · rw [if_neg e1]
     by_cases e2 : j = x
     · rw [if_pos e2];exact hoff i hi e1
     · rw [if_neg e2];exact h.apart i j hi hj hij
 · by_cases e : y = x
   · rw [if_pos e];exact hum
   · rw [if_neg e];exact h.ne y hy
theorem own_form {W : World} {base n : Nat} {e : TypeId} {u : Value} {xs : List Value} (h : W.ownsRow base e 1 u n xs) : ∃ A cap,u = .slice A n cap:=by
 rcases h.2 with ⟨rfl,rfl⟩ | ⟨g,cap,_,rfl,_⟩
 · exact ⟨none,0,rfl⟩
 · exact ⟨_,cap,rfl⟩
theorem own_kp {xs : List Nat} {base m : Nat} {e : TypeId} {u : Value} {l : List Value} {w : World} (h : w.ownsRow base e 1 u m l) (hk : Kp xs w w') (hb : ∀ b,u.ownBlock = some b → b ∉ xs) : w'.ownsRow base e 1 u m l:=by
 obtain ⟨h1,h2⟩:=h
 refine ⟨h1,?_⟩
 rcases h2 with h2 | ⟨g,cap,cur,hv,hg,hh,rest⟩
 · exact .inl h2
 · exact .inr ⟨g,cap,cur,hv,hg,(hk.block g (Array.getElem?_eq_some_iff.1 hh).1 (hb g (by rw [hv];rfl))).trans hh,rest⟩
structure RoI (w : World) (b n : Nat) (o : Nat → Int) : Prop where
 lt : b < w.heap.size
 cell : ∀ x,x < n → w.cell? ⟨b,x,none⟩ = some (.int .i64 (o x))
 fr : ∀ x,w.frozen? ⟨b,x,none⟩ = false
theorem RoI.of_block {o : Nat → Int} (h : RoI w b n o) (hs : w.heap.size ≤ w'.heap.size) (hb : w'.heap[b]? = w.heap[b]?) : RoI w' b n o :=
 ⟨Nat.lt_of_lt_of_le h.lt hs,fun x hx => (World.cell?_of_block (a:=⟨b,x,none⟩) hb).trans (h.cell x hx),fun x => (World.frozen?_of_block (a:=⟨b,x,none⟩) hb).trans (h.fr x)⟩
theorem RoI.below {o : Nat → Int} (h : RoI w b n o) (hb : Below w.heap.size w w') : RoI w' b n o:=h.of_block hb.size (hb.block b h.lt)
theorem RoI.grown {o : Nat → Int} {row : Option Nat} (h : RoI w b n o) (hg : w.grownBy w' row) (hr : row ≠ some b) : RoI w' b n o:=h.of_block hg.size (hg.block b h.lt fun e => hr e.symm)
theorem RoI.alloc {o : Nat → Int} (h : RoI w b n o) (x : Obj) : RoI (w.alloc x) b n o:=h.below ((Below.refl _ w).alloc (Nat.le_refl _) x)
theorem RoI.set {o : Nat → Int} (h : RoI w b n o) {x : Nat} (hx : x < n) (r : Int) : RoI (w.setCell ⟨b,x,none⟩ (.int .i64 r)) b n (setI o x r):=by
 refine ⟨by simpa using h.lt,fun y hy => ?_,fun y => by simpa using h.fr y⟩
 by_cases e : y = x
 · subst e
   rw [setI_same]
   exact World.cell?_setCell_same _ _ _ (h.cell y hy)
 · rw [setI_other e,World.cell?_setCell_other _ _ _ _ (fun c => by injection c with _ c2;first | exact e c2 | exact e c2.symm)]
   exact h.cell y hy
theorem RoI.made (w : World) (n : Nat) (t : TypeId) : RoI (w.alloc (.cells (madeCells #[.int .i64 0] n) t)) w.heap.size n fun _ => 0:=by
 have h:=heap_alloc_new w (.cells (madeCells #[(.int .i64 0 : Value)] n) t)
 refine ⟨by simp,fun x hx => ?_,fun x => by simp only [World.frozen?,h];simp⟩
 simp only [World.cell?,h]
 simp [madeCells,hx]
 rw [Nat.mod_one]
 rfl
theorem RoI.of_row {r : Int} {t : TypeId} (h : w.heap[b]? = some (.cells (List.replicate n (.int .i64 r)).toArray t (0,0))) : RoI w b n fun _ => r:=by
 refine ⟨(Array.getElem?_eq_some_iff.1 h).1,fun x hx => ?_,fun x => by simp [World.frozen?,h]⟩
 simp [World.cell?,h,hx]
theorem RoI.congr {o o' : Nat → Int} (h : RoI w b n o) (e : ∀ x,x < n → o x = o' x) : RoI w b n o':=⟨h.lt,fun x hx => by rw [← e x hx];exact h.cell x hx,h.fr⟩
end
end Ci
end Go.Proofs.YtioidbebjgeahaaGreatDoor

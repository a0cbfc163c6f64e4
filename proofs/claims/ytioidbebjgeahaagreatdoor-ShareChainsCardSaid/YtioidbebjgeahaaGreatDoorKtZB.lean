/- Texts that the proof needs: ShaChP. -/
import Derived.Test.YtioidbebjgeahaaGreatDoorKtA
import Derived.Test.YtioidbebjgeahaaGreatDoorKtB
import Derived.Test.YtioidbebjgeahaaGreatDoorKtC
import Derived.Test.YtioidbebjgeahaaGreatDoorKtD
import Derived.Test.YtioidbebjgeahaaGreatDoorKtE
import Derived.Test.YtioidbebjgeahaaGreatDoorKtF
import Derived.Test.YtioidbebjgeahaaGreatDoorKtG
import Derived.Test.YtioidbebjgeahaaGreatDoorKtH
import Derived.Test.YtioidbebjgeahaaGreatDoorKtI
namespace Go.Proofs.YtioidbebjgeahaaGreatDoor
open Go.RowKit Go.Shelf
namespace Sh
open Nt Ci
def prt (m:Nat):Rat:=ofQ (1+(m%100:Nat)) 100
theorem prt_ok (m:Nat):unitsN (rq (prt m))≠0∧0<prt m∧prt m≤1∧ShortQ (prt m):=by
 have h:∀k,k<100→unitsN (rq (ofQ (1+(k:Nat)) 100))≠0∧0<ofQ (1+(k:Nat)) 100∧ofQ (1+(k:Nat)) 100≤1∧(ofQ (1+(k:Nat)) 100).num.natAbs≤6000∧(ofQ (1+(k:Nat)) 100).den≤6000:=by decide +kernel
 obtain⟨h1,h2,h3,h4,h5⟩:=h (m%100) (Nat.mod_lt _ (by omega));exact⟨h1,h2,h3,Nat.lt_of_le_of_lt h4 pow1,Nat.lt_of_le_of_lt h5 pow1⟩
def chN (i:Nat):ByteArray:=⟨#[UInt8.ofNat (97+i)]⟩
def chL (l:List Nat) (m:Nat):List Lk:=(List.range m).map fun(i:Nat)=>((i:Int),((i+1:Nat):Int),rq (prt (l.getD i 0)))
def chS (l:List Nat):SR:=⟨(List.range (l.length+1)).map chN,chL l l.length,[]⟩
theorem chL_succ (l:List Nat) (m:Nat):chL l (m+1)=chL l m++[((m:Int),((m+1:Nat):Int),rq (prt (l.getD m 0)))]:=by
 unfold chL;rw[List.range_succ,List.map_append,List.map_singleton]
theorem chL_len (l:List Nat) (m:Nat):(chL l m).length=m:=by simp[chL]
theorem chL_take (l:List Nat) {i m:Nat} (h:i≤m):(chL l m).take i=chL l i:=by
 unfold chL;rw[←List.map_take,List.take_range,Nat.min_eq_left h]
theorem chL_sum (l:List Nat) (c:Nat):∀m,sumU (chL l m) (c:Int)=if c<m then unitsN (rq (prt (l.getD c 0))) else 0
 | 0=>rfl
 | m + 1=>by
   have ih:=chL_sum l c m;unfold sumU at ih ⊢;rw[chL_succ,List.filter_append,List.map_append,List.sum_append,ih]
   by_cases e:m=c
   · subst e;simp[lkP,Nat.lt_irrefl]
   · have e2:¬(m:Int)=(c:Int):=by omega
     by_cases d:c<m
     · simp[e2,d,Nat.lt_succ_of_lt d]
     · simp[e2,d,show ¬c<m+1 by omega]
theorem ch_good (l:List Nat):goodB (l.length+1) (chL l l.length)=true:=by
 refine good_all fun i hi=>?_;have hi2:i<l.length:=by rwa [chL_len]at hi
 have hg:∀j (hj:j<(chL l l.length).length),(chL l l.length)[j]=((j:Int),((j+1:Nat):Int),rq (prt (l.getD j 0))):=fun j hj=>by simp[chL]
 refine⟨?_,fun h0=>?_,?_⟩
 · rw[hg];exact⟨⟨by dsimp only;omega,by dsimp only;omega⟩,⟨by dsimp only;omega,by dsimp only;omega⟩,by dsimp only;omega,(prt_ok _).1⟩
 · rw[hg,hg];exact .inl (by dsimp only;omega)
 · rw[hg];dsimp only;rw[chL_take l (by omega),chL_sum]
   split
   · exact units_le _
   · omega
theorem ch_sound (l:List Nat) (h:l.length≤6):soundB (chS l)=true:=by
 have hn:∀k,k≤6→namesB ((List.range (k+1)).map chN)=true:=by decide +kernel
 have e:(chS l).ps.length=l.length+1:=by simp[chS]
 have e2:goodB (l.length+1) ([]:List Lk)=true:=good_all fun i hi=>absurd hi (Nat.not_lt_zero _);unfold soundB;rw[e]
 show (namesB ((List.range (l.length+1)).map chN)&&_)=true
 rw[hn _ h,Bool.true_and,decide_eq_true (by omega),Bool.true_and]
 show (goodB (l.length+1) (chL l l.length)&&goodB (l.length+1) [])=true
 rw[ch_good,e2];rfl
theorem ch_lsum (l:List Nat) (e:Nat→Rat) (c:Nat):∀m,lsum c e (capL (chL l m))=if c<m then prt (l.getD c 0)*e (c+1) else 0
 | 0=>rfl
 | m + 1=>by
   have hv:vq (rq (prt (l.getD m 0)))=prt (l.getD m 0):=vq_rq _;rw[chL_succ];unfold capL;rw[List.map_append,lsum_append,←capL,ch_lsum l e c m,List.map_singleton]
   show _+((if (m:Int).toNat=c then vq (rq (prt (l.getD m 0)))*e ((m+1:Nat):Int).toNat else 0)+0)=_
   rw[hv,Int.toNat_natCast,Int.toNat_natCast,Rat.add_zero]
   by_cases d:m=c
   · subst d;rw[if_neg (Nat.lt_irrefl _),if_pos rfl,if_pos (Nat.lt_succ_self _),Rat.zero_add]
   · rw[if_neg d,Rat.add_zero]
     by_cases f:c<m
     · rw[if_pos f,if_pos (by omega)]
     · rw[if_neg f,if_neg (by omega)]
theorem ch_ev (l:List Nat) (h:l.length≤6):ev (chS l) [(l.length:Int)] l.length=1∧∀i,i<l.length→ev (chS l) [(l.length:Int)] i=prt (l.getD i 0)*ev (chS l) [(l.length:Int)] (i+1):=by
 have hs:=ch_sound l h;have e:(chS l).ps.length=l.length+1:=by simp[chS]
 have hE:=ev_eff (F:=[(l.length:Int)]) hs (few_many _ hs (by rw[e];omega));have ht:toN [(l.length:Int)]=[l.length]:=by simp[toN]
 rw[e,ht]at hE;refine⟨hE.listed _ (by simp),fun i hi=>?_⟩;rw[hE.sum i (by omega) (by simp;omega)]
 show lsum i _ (capL (chL l l.length))=_
 rw[ch_lsum,if_pos hi]
end Sh
end Go.Proofs.YtioidbebjgeahaaGreatDoor

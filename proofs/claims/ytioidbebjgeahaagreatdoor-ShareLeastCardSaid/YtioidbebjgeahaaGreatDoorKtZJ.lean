/- Texts that the proof needs: LinWrap. -/
import Derived.WideKeyArgs
import Derived.Deep.Slices
import Derived.Test.YtioidbebjgeahaaGreatDoorKtA
import Derived.Test.YtioidbebjgeahaaGreatDoorKtB
import Derived.Test.YtioidbebjgeahaaGreatDoorKtC
import Derived.Test.YtioidbebjgeahaaGreatDoorKtD
import Derived.Test.YtioidbebjgeahaaGreatDoorKtE
import Derived.Test.YtioidbebjgeahaaGreatDoorKtF
set_option maxRecDepth 100000
namespace Go.Proofs.YtioidbebjgeahaaGreatDoor
open Go.ChangeShapes Go.WideShapes Go.ChangeAt Go.RowKit Go.Shelf Go.Joins Go.Deep
namespace Nt
def qD {H:Type} (x:Raw):DataW H:=.agg [.lit (.bool x.1),.lit (.string x.2.1.data.toList),.lit (.string x.2.2.data.toList)]
def isRowD {H:Type} (l:List Raw) (d:DataW H):Prop:=(d=.nil∧l=[])∨∃rest,d=.slice (l.map qD) rest
section
variable {H:Type} {enc:TypeId×Value→H} {w:World} {base:Nat} {held:Bool}
theorem add_at {b o k:Nat}:(⟨b,o,none⟩:Addr).add k=⟨b,o+k,none⟩:=by unfold Addr.add;split<;>simp_all
theorem open_qs {fuel:Nat} {cs:List Value} {x:DataW H×List MemPlace} (h:DataW.trod enc Tryz.prog w base (fun _=>true) held fuel 29 cs=some x) :
 ∃(A:Option Addr) (cap:Nat) (l:List Raw),cs=[.slice A l.length cap]∧isRowD l x.1∧InRow w A l:=by
 rcases open_slice Tryz.underlying29 h with⟨h1,h2⟩ | ⟨a,len,cap,m,n,D,Pl,hcs,hb,hl,hm,hmm,hx,hi⟩
 · exact⟨none,0,[],h1,.inl ⟨by rw[h2],rfl⟩,fun h=>absurd h (by simp)⟩
 · simp only[if_true]at hmm;subst hmm
   have each:∀i,i<m→∃y:Raw,D i=qD y∧w.cell? (a.add (i*3))=some (.bool y.1)∧w.cell? (a.add (i*3+1))=some (.string y.2.1)∧w.cell? (a.add (i*3+2))=some (.string y.2.2):=by
    intro i him;obtain⟨cs',hc,ht'⟩:=hi i him;rw[cells_q]at hc;obtain⟨y0,y1,y2,n',hy,_,t0,t1,t2⟩:=trod_struct3 Tryz.underlying37 ht';obtain⟨_,hcl,hat⟩:=World.cells?_some hc
    match cs',hcl with
    | [c0,c1,c2],_ =>
      have g0:=hat 0 (by omega);have g1:=hat 1 (by omega);have g2:=hat 2 (by omega);rw[Go.Deep.add_add]at g0 g1 g2;obtain⟨g,e0,k0⟩:=DataW.trod_bool Tryz.underlying4 t0;obtain⟨s1,e1,k1,_⟩:=DataW.trod_string Tryz.underlying9 t1;obtain⟨s2,e2,k2,_⟩:=DataW.trod_string Tryz.underlying9 t2;simp only[Prod.mk.injEq]at hy;have b0:c0=.bool g:=by simpa [show Tryz.prog.cellsOf 4=1 by kernel_rfl,show Tryz.prog.cellsOf 9=1 by kernel_rfl] using e0
      have b1:c1=.string s1:=by simpa [show Tryz.prog.cellsOf 4=1 by kernel_rfl,show Tryz.prog.cellsOf 9=1 by kernel_rfl] using e1
      have b2:c2=.string s2:=by simpa [show Tryz.prog.cellsOf 4=1 by kernel_rfl,show Tryz.prog.cellsOf 9=1 by kernel_rfl] using e2
      subst b0 b1 b2;refine⟨(g,s1,s2),?_,?_,?_,?_⟩
      · rw[hy.1,k0,k1,k2];rfl
      · simpa using g0
      · simpa using g1
      · simpa using g2
   obtain⟨Y,hY⟩:=choose_lt each;refine⟨some a,m,(List.range len).map Y,by simpa using hcs,.inr ⟨_,by rw[hx,List.map_map];simp only[];congr 1;exact List.map_congr_left fun i hi2=>(hY i (by have:=List.mem_range.1 hi2;omega)).1⟩,fun h0=>?_⟩;simp only[List.length_map,List.length_range]at h0;have hsp:=World.cell?_spot (hY 0 (by omega)).2.1;obtain⟨b,o,s⟩:=a;have hs:s=none:=by simpa [Addr.add] using hsp
   subst hs;refine⟨b,o,rfl,?_,fun j hj=>?_⟩
   · have:=World.block_lt_of_cell? w _ (hY 0 (by omega)).2.1
     simpa [add_at] using this
   · have hj':j<len:=by simpa using hj
     obtain⟨_,k0,k1,k2⟩:=hY j (by omega);rw[add_at]at k0 k1 k2;simp only[List.getElem_map,List.getElem_range];exact⟨k0,k1,k2⟩
end
section
variable {H:Type}
theorem weightsAll_mem {P:Program} {e:TypeId} {d:DataW H}:∀{l:List (DataW H)},d∈l→∀m∈d.weights P e,m∈DataW.weightsAll P e l:=by
 intro l
 induction l with
 | nil=>intro h;cases h
 | cons a l ih =>
   intro h m hm;rw[DataW.weightsAll,List.mem_append]
   rcases List.mem_cons.1 h with rfl | h
   · exact .inl hm
   · exact .inr (ih h m hm)
theorem size_row {l:List Raw} {d:DataW H} (h:isRowD l d) (hw:∀m∈d.weights Tryz.prog 29,m≤140737488351232):l.length≤140737488355328∧∀x∈l,rawSz x:=by
 rcases h with⟨_,rfl⟩ | ⟨rest,rfl⟩
 · exact⟨by simp,fun x h=>absurd h (by simp)⟩
 · have e:(DataW.slice (l.map qD) rest).weights Tryz.prog 29=((l.map (qD (H:=H))).length+rest.length)*Tryz.prog.bytesOf 37::(DataW.weightsAll Tryz.prog 37 (l.map (qD (H:=H)))++DataW.weightsAll Tryz.prog 37 rest):=by
    simp[DataW.weights,Tryz.underlying29]
   rw[e]at hw;have h1:=hw _ (List.mem_cons_self ..);rw[show Tryz.prog.bytesOf 37=40 by kernel_rfl,List.length_map]at h1;refine⟨by omega,fun x hx=>?_⟩;have hm:=weightsAll_mem (P:=Tryz.prog) (e:=37) (List.mem_map_of_mem (f:=qD (H:=H)) hx)
   have z:∀s:ByteArray,s.data.toList.length∈(qD (H:=H) x).weights Tryz.prog 37→s.size≤140737488355328:=fun s hs=>by
    have:=hw _ (List.mem_cons_of_mem _ (List.mem_append_left _ (hm _ hs)));have z1:s.size=s.data.toList.length:=Lib.size_eq _;omega
   exact⟨z _ (by simp[qD,DataW.weights,DataW.weightsEach,Tryz.underlying37]),z _ (by simp[qD,DataW.weights,DataW.weightsEach,Tryz.underlying37])⟩
theorem trodAll_stays {enc:TypeId×Value→H} {P:Program} {W W':World} {base:Nat} {sp':Nat→Bool} (hl:laidOutB P=true):∀{ts:List TypeId} {vs:List Value} {ds:List (DataW H)} {ps:List MemPlace},
 (∀t∈ts,P.readableRec t=true∧t<P.types.size)→DataW.TrodAll enc P W base (fun _=>true) true ts vs ds ps→(∀p∈ps,W.sameAt W' p)→(∀p∈ps,sp' p.block=true)→DataW.TrodAll enc P W' base sp' true ts vs ds ps
 | [],[],[],_,_,h,_,_=>h
 | _ :: _,_::_,_::_,_,hT,⟨p,q,h1,h2,e⟩,hs,hb =>
   ⟨p,q,WideElems.Trod_stays hl (hT _ (List.mem_cons.2 (.inl rfl))).1 (hT _ (List.mem_cons.2 (.inl rfl))).2 h1 (fun x hx=>hs x (by rw[e];exact List.mem_append_left _ hx)) (fun x hx=>hb x (by rw[e];exact List.mem_append_left _ hx)),
     trodAll_stays hl (fun t ht=>hT t (List.mem_cons.2 (.inr ht))) h2 (fun x hx=>hs x (by rw[e];exact List.mem_append_right _ hx)) (fun x hx=>hb x (by rw[e];exact List.mem_append_right _ hx)),e⟩
end
section
variable {H:Type} {enc:TypeId×Value→H} {w:World} {base:Nat} {held:Bool}
theorem open_rowV {r:Reach} {b0:Nat} {v:Value} {d:DataW H} {p:List MemPlace} (hv:Value.okWide Tryz.prog w r b0 29 v) (h:DataW.Trod enc Tryz.prog w base (fun _=>true) held 29 v d p) :
 ∃(A:Option Addr) (cap:Nat) (l:List Raw),v=.slice A l.length cap∧isRowD l d∧InRow w A l:=by
 obtain⟨a,len,c,rfl⟩:=okWide_slice Tryz.underlying29 hv;obtain⟨n,hn⟩:=h;obtain⟨A,cap,l,e,h1,h2⟩:=open_qs hn;refine⟨A,cap,l,?_,h1,h2⟩
 simpa [Value.cells] using e
theorem sizes_at {ts:List TypeId} {ds:List (DataW H)} {j:Nat} {t:TypeId} {d:DataW H} (hsz:(DataW.weightsEach Tryz.prog ts ds).all (·≤reachBytes)=true) (ht:ts[j]? = some t) (hd:ds[j]? = some d):∀m∈d.weights Tryz.prog t,m≤140737488351232:=fun m hm =>
 of_decide_eq_true (List.all_eq_true.1 hsz _ (DataW.weights_mem_each (P:=Tryz.prog) ht hd m hm))
end
end Nt
end Go.Proofs.YtioidbebjgeahaaGreatDoor

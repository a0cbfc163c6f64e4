/- Texts that the proof needs: ShaWrapB. -/
import Derived.Test.YtioidbebjgeahaaGreatDoorKtA
import Derived.Test.YtioidbebjgeahaaGreatDoorKtB
import Derived.Test.YtioidbebjgeahaaGreatDoorKtC
import Derived.Test.YtioidbebjgeahaaGreatDoorKtD
import Derived.Test.YtioidbebjgeahaaGreatDoorKtE
import Derived.Test.YtioidbebjgeahaaGreatDoorKtF
import Derived.Test.YtioidbebjgeahaaGreatDoorKtG
import Derived.Test.YtioidbebjgeahaaGreatDoorKtH
import Derived.Test.YtioidbebjgeahaaGreatDoorKtI
import Derived.Test.YtioidbebjgeahaaGreatDoorKtU
import Derived.Test.YtioidbebjgeahaaGreatDoorKtZB
import Derived.Test.YtioidbebjgeahaaGreatDoorKtZC
import Derived.Test.YtioidbebjgeahaaGreatDoorKtZD
set_option maxRecDepth 100000
namespace Go.Proofs.YtioidbebjgeahaaGreatDoor
open Go.ChangeShapes Go.WideShapes Go.ChangeAt Go.RowKit Go.Shelf Go.Joins Go.Deep
namespace Ci
open Nt
section
variable {H:Type} {enc:TypeId×Value→H} {w:World} {base:Nat} {held:Bool}
def u8D {H:Type} (x:Nat):DataW H:=.lit (.int .u8 (x:Int))
theorem open_u8s' {fuel:Nat} {cs:List Value} {x:DataW H×List MemPlace} (h:DataW.trod enc Tryz.prog w base (fun _=>true) held fuel 35 cs=some x) :
 ∃(A:Option Addr) (cap:Nat) (l:List Nat),cs=[.slice A l.length cap]∧isSl u8D l x.1∧Sh.InU8 w A l∧∀y,y∈l→y<256:=by
 rcases open_slice1 Tryz.underlying35 (by kernel_rfl) h with⟨h1,h2⟩ | ⟨a,len,cap,m,n,V,D,Pl,hcs,hb,hl,hm,hmm,hx,hi⟩
 · exact⟨none,0,[],h1,.inl ⟨by rw[h2],rfl⟩,fun h=>absurd h (by simp),fun y hy=>by cases hy⟩
 · simp only[if_true]at hmm;subst hmm
   have each:∀i,i<m→∃y:Nat,V i=.int .u8 (y:Int)∧D i=u8D y∧y<256:=by
    intro i him;obtain⟨y,e1,e2,e3⟩:=DataW.trod_int Tryz.underlying5 (hi i him).2;have e4:0≤y∧y≤255:=Nt.wf_inQ e3;have e5:((y.toNat:Nat):Int)=y:=Int.toNat_of_nonneg e4.1;exact⟨y.toNat,by rw[e5];simpa using e1,by rw[u8D,e5];exact congrArg Prod.fst e2,by omega⟩
   obtain⟨Y,hY⟩:=choose_lt each;refine⟨some a,m,(List.range len).map Y,by simpa using hcs,.inr ⟨_,by rw[hx,List.map_map];simp only[];congr 1;exact List.map_congr_left fun i hi2=>(hY i (by have:=List.mem_range.1 hi2;omega)).2.1⟩,fun h0=>?_,fun y hy=>?_⟩
   · simp only[List.length_map,List.length_range]at h0;have h00:=(hi 0 (by omega)).1;have hsp:=World.cell?_spot h00;obtain⟨b,o,s⟩:=a;have hs:s=none:=by simpa [Addr.add] using hsp
     subst hs;refine⟨b,o,rfl,?_,fun j hj=>?_⟩
     · have:=World.block_lt_of_cell? w _ h00
       simpa [cadd] using this
     · have hj':j<len:=by simpa using hj
       have hc:=(hi j (by omega)).1;rw[cadd,(hY j (by omega)).1]at hc;simp only[List.getElem_map,List.getElem_range];exact hc
   · obtain⟨i,hi2,rfl⟩:=List.mem_map.1 hy;exact(hY i (by have:=List.mem_range.1 hi2;omega)).2.2
theorem open_u8sV {r:Go.Reach} {b0:Nat} {v:Value} {d:DataW H} {p:List MemPlace} (hv:Value.okWide Tryz.prog w r b0 35 v) (h:DataW.Trod enc Tryz.prog w base (fun _=>true) held 35 v d p) :
 ∃(A:Option Addr) (cap:Nat) (l:List Nat),v=.slice A l.length cap∧isSl u8D l d∧Sh.InU8 w A l∧∀y,y∈l→y<256:=by
 obtain⟨a,len,c,rfl⟩:=okWide_slice Tryz.underlying35 hv;obtain⟨n,hn⟩:=h;obtain⟨A,cap,l,e,h1,h2,h3⟩:=open_u8s' hn;refine⟨A,cap,l,?_,h1,h2,h3⟩
 simpa [Value.cells] using e
end
end Ci
end Go.Proofs.YtioidbebjgeahaaGreatDoor

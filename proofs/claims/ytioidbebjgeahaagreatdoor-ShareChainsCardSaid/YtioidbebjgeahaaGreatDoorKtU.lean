/- Texts that the proof needs: CirLks. -/
import Derived.Test.YtioidbebjgeahaaGreatDoorKtA
import Derived.Test.YtioidbebjgeahaaGreatDoorKtB
import Derived.Test.YtioidbebjgeahaaGreatDoorKtC
import Derived.Test.YtioidbebjgeahaaGreatDoorKtF
namespace Go.Proofs.YtioidbebjgeahaaGreatDoor
open Go.RowKit Go.Shelf
namespace Ci
open Nt
def lksL (l:List Lk):List Value:=(l.map lkL).flatten
theorem lkL_length (x:Lk):(lkL x).length=5:=rfl
theorem lksL_cons (x:Lk) (l:List Lk):lksL (x::l)=lkL x++lksL l:=rfl
theorem lksL_length (l:List Lk):(lksL l).length=l.length*5:=by
 induction l with
 | nil=>rfl
 | cons a l ih=>rw[lksL_cons,List.length_append,ih,lkL_length,List.length_cons];omega
theorem lksL_snoc (l:List Lk) (x:Lk):lksL (l++[x])=lksL l++lkL x:=by
 unfold lksL;rw[List.map_append,List.flatten_append];simp
theorem lksL_get:∀(l:List Lk) (j f:Nat) (hj:j<l.length),f<5→(lksL l)[j*5+f]? = (lkL l[j])[f]?:=by
 intro l
 induction l with
 | nil=>intro j f hj;exact absurd hj (Nat.not_lt_zero _)
 | cons a l ih =>
   intro j f hj hf;rw[lksL_cons]
   cases j with
   | zero =>
     rw[List.getElem?_append_left (by rw[lkL_length];omega)];simp
   | succ j =>
     rw[List.getElem?_append_right (by rw[lkL_length];omega),lkL_length,show (j+1)*5+f-5=j*5+f by omega,ih j f (by simpa using hj) hf];simp
def zeroL:Value:=.agg #[.int .i64 0,.int .i64 0,.bool false,.string ⟨#[]⟩,.string ⟨#[]⟩]
theorem infoL:(Tryz.prog.info? 42).map (fun i=>(i.zero,i.size,i.bytes))=some (some zeroL,5,56):=by kernel_rfl
section
variable {W W':World} {base n:Nat} {e:TypeId} {u:Value} {l:List Lk}
theorem own_lks (h:W.ownsRow base e 5 u l.length (lksL l)):∃A cap,u=.slice A l.length cap∧InLk W A l:=by
 rcases h.2 with⟨rfl,h0⟩ | ⟨g,cap,cur,rfl,hb,hg,_⟩
 · refine⟨none,0,by rw[h0],fun hl=>by omega⟩
 · refine ⟨_,cap,rfl,fun hl=>⟨g,0,rfl,(Array.getElem?_eq_some_iff.1 hg).1,fun j hj=>?_⟩⟩;have hadd:∀o,(⟨g,0,none⟩:Addr).add o=⟨g,o,none⟩:=fun o=>by unfold Addr.add;split<;>simp_all
   have key:∀f v,f<5→(lkL l[j])[f]? = some v→W.cell? ⟨g,j*5+f,none⟩=some v:=fun f v hf hv=>by
    have hc:=h.cells (g:=g) (by simp[Value.ownBlock]) (j*5+f) v (by rw[lksL_get l j f hj hf];exact hv)
    rwa [hadd]at hc
   simp only[Nat.zero_add];exact⟨key 0 _ (by omega) rfl,key 1 _ (by omega) rfl,key 2 _ (by omega) rfl,key 3 _ (by omega) rfl,key 4 _ (by omega) rfl⟩
theorem own_form5 {m:Nat} {xs:List Value} (h:W.ownsRow base e m u n xs):∃A cap,u=.slice A n cap:=by
 rcases h.2 with⟨rfl,h0⟩ | ⟨g,cap,cur,rfl,_⟩
 · exact⟨none,0,by rw[h0]⟩
 · exact⟨_,cap,rfl⟩
theorem head_lk (w:World) (x:Lk) (t:TypeId):∀j u,(lkL x)[j]? = some u→(w.alloc (.cells #[.int .i64 x.1,.int .i64 x.2.1,.bool x.2.2.1,.string x.2.2.2.1,.string x.2.2.2.2] t)).cell? (Addr.add ⟨w.heap.size,0,none⟩ j)=some u:=by
 intro j u hj;have hadd:(⟨w.heap.size,0,none⟩:Addr).add j=⟨w.heap.size,j,none⟩:=by unfold Addr.add;split<;>simp_all
 rw[hadd];simp only[World.cell?,heap_alloc_new];simp only[lkL]at hj
 match j,hj with
 | 0,hj=>simpa using hj
 | 1,hj=>simpa using hj
 | 2,hj=>simpa using hj
 | 3,hj=>simpa using hj
 | 4,hj=>simpa using hj
 | j+5,hj=>simp at hj
theorem one_lk (x:Lk):∀u∈lkL x,u.oneCell'=true:=by
 intro u hu;simp only[lkL,List.mem_cons,List.not_mem_nil,or_false]at hu
 rcases hu with rfl | rfl | rfl | rfl | rfl<;>rfl
end
end Ci
end Go.Proofs.YtioidbebjgeahaaGreatDoor
